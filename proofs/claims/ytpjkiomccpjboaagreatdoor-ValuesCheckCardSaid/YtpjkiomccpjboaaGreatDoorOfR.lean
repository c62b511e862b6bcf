/- values.Of, where the key is no set. -/
import Derived.Test.YtpjkiomccpjboaaGreatDoorKind
namespace Go.Proofs.YtpjkiomccpjboaaGreatDoor
open Go Go.Sx

theorem opErr_fine {o : OpT} {p : Int} (h : opErr o p = 0) : nameOk o.key = true ∧ (o.kind = 1 ∨ o.kind = 2 ∨ o.kind = 3) ∧ shapeOk o = true ∧ o.text.size ≤ 60 ∧ -1099511627776 ≤ o.n ∧ o.n ≤ 1099511627776 ∧ o.dots.length ≤ 60 ∧ badDots p o.dots = false := by
  unfold opErr at h
  split at h
  · cases h
  · split at h
    · cases h
    · rename_i h2
      split at h
      · cases h
      · rename_i h3
        split at h
        · cases h
        · rename_i h4
          split at h
          · cases h
          · rename_i h5
            split at h
            · cases h
            · rename_i h6
              exact ⟨by simpa using h2, by omega, by simpa using h4, by omega, by omega, by omega, by omega, by simpa using h6⟩
theorem opsFault_zero {l : List OpT} {p : Int} (h : (opsFault l p l.length 0).code = 0) : ∀ j, j < l.length → opErrAt l p j = 0 := by
  intro j
  induction j using Nat.strongRecOn with
  | ind j ih =>
    intro hj
    rcases Nat.eq_zero_or_pos (opErrAt l p j) with h0 | h0
    · exact h0
    · have := (opsFault_from (l := l) (places := p) l.length 0 j (Nat.zero_le _) fun i _ hi => ih i hi (by omega)).2 (by omega) (by omega)
      rw [this] at h
      exact h
theorem right_ops {c : ComT} (h : (comFault c).code = 0) : ∀ o ∈ c.ops, opErr o c.when.length = 0 := fun o ho => by
  have hr := right_of h
  have h1 := opsFault_zero (l := c.ops) (p := c.when.length) (by rw [hr.op]; exact h)
  obtain ⟨j, hj⟩ := List.getElem?_of_mem ho
  have h2 := h1 j (List.getElem?_eq_some_iff.1 hj).1
  rcases Nat.eq_zero_or_pos (opErr o c.when.length) with h0 | h0
  · exact h0
  · rw [opErrAt_own hj (by omega)] at h2
    omega
theorem mem_opsOf {key : ByteArray} {l : List ComT} {x : DoneT} (h : x ∈ opsOf key l) : (∃ c ∈ l, ∃ o ∈ c.ops, x = doneOf c o) ∧ x.o.key = key := by
  have h1 : x ∈ opsRaw key l := (List.mergeSort_perm _ _).mem_iff.1 h
  unfold opsRaw at h1
  rw [List.mem_filter] at h1
  obtain ⟨h2, h3⟩ := h1
  obtain ⟨h4, _⟩ := firsts_sub h2
  unfold allDone at h4
  obtain ⟨c, hc, h5⟩ := List.mem_flatMap.1 h4
  obtain ⟨o, ho, rfl⟩ := List.mem_map.1 h5
  exact ⟨⟨c, hc, o, ho, rfl⟩, by simpa using h3⟩
theorem mem_ofKey {key : ByteArray} {l : List ComT} {x : DoneT} (h : x ∈ ofKey key l) : x ∈ opsOf key l := (List.mem_filter.1 h).1
theorem allRight {key : ByteArray} {l : List ComT} (h : (valFault key l).code = 0) : nameOk key = true ∧ ∀ j, j < l.length → comErrAt l j = 0 := by
  unfold valFault at h
  split at h
  · cases h
  · rename_i h1
    exact ⟨by simpa using h1, listFault_zero h⟩
theorem right_mem {key : ByteArray} {l : List ComT} (h : (valFault key l).code = 0) {c : ComT} (hc : c ∈ l) : (comFault c).code = 0 := by
  obtain ⟨j, hj⟩ := List.getElem?_of_mem hc
  exact (comErrAt_zero hj ((allRight h).2 j (List.getElem?_eq_some_iff.1 hj).1)).1
theorem fine_mem {key : ByteArray} {l : List ComT} (h : (valFault key l).code = 0) {x : DoneT} (hx : x ∈ opsOf key l) : ∃ p : Nat, opErr x.o p = 0 := by
  obtain ⟨⟨c, hc, o, ho, rfl⟩, _⟩ := mem_opsOf hx
  exact ⟨c.when.length, right_ops (right_mem h hc) o ho⟩
theorem opsOf_len {key : ByteArray} {l : List ComT} (h : (valFault key l).code = 0) : (opsOf key l).length ≤ 12 * l.length := by
  have h1 : (opsOf key l).length = (opsRaw key l).length := (List.mergeSort_perm _ _).length_eq
  have h2 := keyFirst_len key (allDone l)
  have h3 := allDone_len fun c hc => right_of (right_mem h (l := l) hc)
  have h4 : opsRaw key l = keyFirst key (allDone l) := rfl
  rw [h1, h4]
  omega
theorem ofKey_len {key : ByteArray} {l : List ComT} (h : (valFault key l).code = 0) : (ofKey key l).length ≤ 12 * l.length :=
  Nat.le_trans (List.length_filter_le _ _) (opsOf_len h)
theorem lastText_snoc (p : List DoneT) (x : DoneT) : lastText (p ++ [x]) = x.o.text := by simp [lastText]
theorem sumN_snoc (p : List DoneT) (x : DoneT) : sumN (p ++ [x]) = sumN p + x.o.n := by simp [sumN]
theorem sumN_le {p : List DoneT} (h : ∀ x ∈ p, -1099511627776 ≤ x.o.n ∧ x.o.n ≤ 1099511627776) (i : Nat) : -(1099511627776 * i) ≤ sumN (p.take i) ∧ sumN (p.take i) ≤ 1099511627776 * i := by
  induction i with
  | zero => simp [sumN]
  | succ i ih =>
    cases hx : p[i]? with
    | none =>
      rw [List.take_add_one, hx]
      simp only [Option.toList_none, List.append_nil]
      omega
    | some x =>
      rw [List.take_add_one, hx]
      have := h x (List.mem_of_getElem? hx)
      simp only [Option.toList_some, sumN_snoc]
      omega
abbrev valA (v : ValT) (s : Value) : Value := .agg #[.int .i64 v.kind, .string v.text, .int .i64 v.n, s]
abbrev valZ : Value := .agg #[.int .i64 0, .string (ByteArray.mk #[]), .int .i64 0, .slice none 0 0]
structure OfS where
  i : Int
  text : ByteArray
  n : Int
set_option maxHeartbeats 4000000 in
theorem vOfR {w : World} {S : Nat → Prop} {er : Nat → Addr} {eb : Nat → Array Value × TypeId} {a : Option Addr} {n c : Nat} {key : ByteArray} {l : List ComT} (hC : Rep w S .nilIface (dC er eb)) (h : Rep w S (.slice a n c) (.sl 3 (l.map eCom))) (hl : l.length ≤ 300000) (hl1 : ∀ x ∈ l, x.when.length ≤ 1000000) (hl2 : ∀ x ∈ l, x.ops.length ≤ 1000000) (hk3 : kindOf (opsOf key l) ≠ 3) :
    Calls Tryz.prog 21 #[.string key, .slice a n c] w fun e w' => ((valFault key l).code ≠ 0 ∧ FVal w S w' e er (valFault key l) fun v => .tuple #[valZ, v]) ∨ ((valFault key l).code = 0 ∧ Ret [] w S w' e (.tuple #[valA (Sx.valOf key l) (.slice none 0 0), .nilIface]) [] []) := by
  refine ep21 (args := [.string key, .slice a n c]) (G := [(_, dC er eb), (_, .sl 3 (l.map eCom))]) (by kernel_rfl) (.cons hC (.cons h (.nil _ _))) ?_
  refine J_seq ?_
  refine J_reg mixed [.wr 0 [] 0, .rd 1 [] 0 0] [] [0, 1, 4, 5] (E1 := fun nu1 => [(0, .val (.string key)), (1, .val (.slice a n c)), (4, .val (.pointer (some (⟨nu1 0, 0, none⟩)))), (5, .val (.nilIface))]) (h1 := fun nu1 => [(nu1 0, .cells #[.int .i64 0, .string (ByteArray.mk #[]), .int .i64 0, .slice none 0 0] 47 (0, 0))]) (p1 := fun nu1 => []) (W1 := []) (by kernel_rfl) (fun _ => by kernel_rfl) (fun _ => trivial) (fun nu1 => ?_)
  refine J_seq ?_
  refine JR_begin mixed [(0, true), (1, true), (2, false), (3, true), (4, true), (5, true), (6, true), (7, true)] [] (by kernel_rfl) (by kernel_rfl) ?_
  refine JR_run (id := 1) (rest := [(2, false), (3, true), (4, true), (5, true), (6, true), (7, true)]) [.rd 0 [] 0 0, .rd 1 [] 0 0] [4, 5, 13, 14] (E1 := fun _ => [(4, .val (.pointer (some (⟨nu1 0, 0, none⟩)))), (5, .val (.nilIface)), (13, .val (.string key)), (14, .val (.slice a n c))]) (h1 := fun _ => [(nu1 0, .cells #[.int .i64 0, .string (ByteArray.mk #[]), .int .i64 0, .slice none 0 0] 47 (0, 0))]) (p1 := fun _ => []) (W1 := []) (fun _ => by kernel_rfl) (fun _ => trivial) (fun _ => ?_)
  refine JR_callp [] 61 #[.string key, .slice a n c] (some 15) (by kernel_rfl) (fun w S hG => ?_)
  refine (vOps (hG.at 0 rfl) (hG.at 1 rfl) hl hl1 hl2).mono ?_
  rintro e1 w1 (⟨hc, ⟨hat, v, hR, hv⟩ | ⟨hc1, hat, pb, hR⟩⟩ | ⟨hc, a1, n1, c1, hR⟩)
  · refine ⟨_, _, _, hR, ?_⟩
    rcases hv with ⟨hv0, rfl⟩ | ⟨hv0, rfl⟩
    · exact absurd hv0 hc
    · try simp only [List.cons_append, List.nil_append, List.append_nil]
      refine JR_run (id := 1) (rest := []) [.rd 3 [] 0 0, .rd 4 [] 0 0, .rd 5 [] 0 0, .rd 6 [] 0 0, .rd 7 [] 0 0] [4, 5, 6, 7] (E1 := fun _ => [(4, .val (.pointer (some (⟨nu1 0, 0, none⟩)))), (5, .val (.nilIface)), (6, .val (.slice none 0 0)), (7, .val (.iface 243 (.pointer (some (er (valFault key l).code)))))]) (h1 := fun _ => [(nu1 0, .cells #[.int .i64 0, .string (ByteArray.mk #[]), .int .i64 0, .slice none 0 0] 47 (0, 0))]) (p1 := fun _ => []) (W1 := []) (fun _ => by kernel_rfl) (fun _ => trivial) (fun _ => ?_)
      refine JR_end ?_
      refine J_seq ?_
      refine J_seq ?_
      refine J_reg mixed [.rd 0 [] 0 0, .rd 1 [] 0 0] [] [4, 5, 6, 7, 19] (E1 := fun _ => [(4, .val (.pointer (some (⟨nu1 0, 0, none⟩)))), (5, .val (.nilIface)), (6, .val (.slice none 0 0)), (7, .val (.iface 243 (.pointer (some (er (valFault key l).code))))), (19, .val (.bool true))]) (h1 := fun _ => [(nu1 0, .cells #[.int .i64 0, .string (ByteArray.mk #[]), .int .i64 0, .slice none 0 0] 47 (0, 0))]) (p1 := fun _ => []) (W1 := []) (by kernel_rfl) (fun _ => by kernel_rfl) (fun _ => trivial) (fun _ => ?_)
      refine J_cond_t (by kernel_rfl) (by kernel_rfl) ?_
      refine J_seq ?_
      refine J_reg mixed [.rd 0 [] 0 0, .rd 1 [] 0 0, .wr 2 [.o 0 none, .o 0 none, .o 0 none, .o 0 none] 0, .rd 3 [] 0 0] [(2, [0])] [4, 5, 6] (E1 := fun _ => [(4, .val (.pointer (some (⟨nu1 0, 0, none⟩)))), (5, .val (.iface 243 (.pointer (some (er (valFault key l).code))))), (6, .val (.slice none 0 0))]) (h1 := fun _ => [(nu1 0, .cells #[.int .i64 0, .string (ByteArray.mk #[]), .int .i64 0, .slice none 0 0] 47 (0, 0))]) (p1 := fun _ => []) (W1 := []) (by kernel_rfl) (fun _ => by kernel_rfl) (fun _ => trivial) (fun _ => ?_)
      refine J_return [[.o 0 none, .o 0 none, .o 0 none, .o 0 none], []] (.tuple #[.agg #[.int .i64 0, .string (ByteArray.mk #[]), .int .i64 0, .slice none 0 0], .iface 243 (.pointer (some (er (valFault key l).code)))]) (by kernel_rfl) (fun a w s => ?_)
      exact .inl ⟨hc, .inl ⟨hat, _, s.ret (by simp) [] [] rfl rfl, .inr ⟨hv0, rfl⟩⟩⟩
  · refine ⟨_, _, _, hR, ?_⟩
    try simp only [List.cons_append, List.nil_append, List.append_nil]
    refine JR_run (id := 1) (rest := []) [.rd 3 [] 0 0, .rd 4 [] 0 0, .rd 5 [] 0 0, .rd 6 [] 0 0, .rd 7 [] 0 0] [4, 5, 6, 7] (E1 := fun _ => [(4, .val (.pointer (some (⟨nu1 0, 0, none⟩)))), (5, .val (.nilIface)), (6, .val (.slice none 0 0)), (7, .val (.iface 102 (.pointer (some (⟨pb, 0, none⟩)))))]) (h1 := fun _ => [(nu1 0, .cells #[.int .i64 0, .string (ByteArray.mk #[]), .int .i64 0, .slice none 0 0] 47 (0, 0))]) (p1 := fun _ => []) (W1 := []) (fun _ => by kernel_rfl) (fun _ => trivial) (fun _ => ?_)
    refine JR_end ?_
    refine J_seq ?_
    refine J_seq ?_
    refine J_reg mixed [.rd 0 [] 0 0, .rd 1 [] 0 0] [] [4, 5, 6, 7, 19] (E1 := fun _ => [(4, .val (.pointer (some (⟨nu1 0, 0, none⟩)))), (5, .val (.nilIface)), (6, .val (.slice none 0 0)), (7, .val (.iface 102 (.pointer (some (⟨pb, 0, none⟩))))), (19, .val (.bool true))]) (h1 := fun _ => [(nu1 0, .cells #[.int .i64 0, .string (ByteArray.mk #[]), .int .i64 0, .slice none 0 0] 47 (0, 0))]) (p1 := fun _ => []) (W1 := []) (by kernel_rfl) (fun _ => by kernel_rfl) (fun _ => trivial) (fun _ => ?_)
    refine J_cond_t (by kernel_rfl) (by kernel_rfl) ?_
    refine J_seq ?_
    refine J_reg mixed [.rd 0 [] 0 0, .rd 1 [] 0 0, .wr 2 [.o 0 none, .o 0 none, .o 0 none, .o 0 none] 0, .rd 3 [] 0 0] [(2, [0])] [4, 5, 6] (E1 := fun _ => [(4, .val (.pointer (some (⟨nu1 0, 0, none⟩)))), (5, .val (.iface 102 (.pointer (some (⟨pb, 0, none⟩))))), (6, .val (.slice none 0 0))]) (h1 := fun _ => [(nu1 0, .cells #[.int .i64 0, .string (ByteArray.mk #[]), .int .i64 0, .slice none 0 0] 47 (0, 0))]) (p1 := fun _ => []) (W1 := []) (by kernel_rfl) (fun _ => by kernel_rfl) (fun _ => trivial) (fun _ => ?_)
    refine J_return [[.o 0 none, .o 0 none, .o 0 none, .o 0 none], []] (.tuple #[.agg #[.int .i64 0, .string (ByteArray.mk #[]), .int .i64 0, .slice none 0 0], .iface 102 (.pointer (some (⟨pb, 0, none⟩)))]) (by kernel_rfl) (fun a w s => ?_)
    exact .inl ⟨hc, .inr ⟨hc1, hat, _, s.ret (by simp) [] [2] rfl rfl⟩⟩
  · refine ⟨_, _, _, hR, ?_⟩
    have hlo := opsOf_len hc
    have hlk := ofKey_len hc
    have hfin : ∀ x ∈ ofKey key l, -1099511627776 ≤ x.o.n ∧ x.o.n ≤ 1099511627776 := fun x hx => by
      obtain ⟨p, hp⟩ := fine_mem hc (mem_ofKey hx)
      have := opErr_fine hp
      omega
    try simp only [List.cons_append, List.nil_append, List.append_nil]
    refine JR_run (id := 1) (rest := []) [.rd 3 [] 0 0, .rd 4 [] 0 0, .rd 5 [] 0 0, .rd 6 [] 0 0, .rd 7 [] 0 0] [4, 5, 6, 7] (E1 := fun _ => [(4, .val (.pointer (some (⟨nu1 0, 0, none⟩)))), (5, .val (.nilIface)), (6, .val (.slice a1 n1 c1)), (7, .val (.nilIface))]) (h1 := fun _ => [(nu1 0, .cells #[.int .i64 0, .string (ByteArray.mk #[]), .int .i64 0, .slice none 0 0] 47 (0, 0))]) (p1 := fun _ => []) (W1 := []) (fun _ => by kernel_rfl) (fun _ => trivial) (fun _ => ?_)
    refine JR_end ?_
    refine J_seq ?_
    refine J_seq ?_
    refine J_reg mixed [.rd 0 [] 0 0, .rd 1 [] 0 0] [] [4, 5, 6, 7, 19] (E1 := fun _ => [(4, .val (.pointer (some (⟨nu1 0, 0, none⟩)))), (5, .val (.nilIface)), (6, .val (.slice a1 n1 c1)), (7, .val (.nilIface)), (19, .val (.bool false))]) (h1 := fun _ => [(nu1 0, .cells #[.int .i64 0, .string (ByteArray.mk #[]), .int .i64 0, .slice none 0 0] 47 (0, 0))]) (p1 := fun _ => []) (W1 := []) (by kernel_rfl) (fun _ => by kernel_rfl) (fun _ => trivial) (fun _ => ?_)
    refine J_cond_f (by kernel_rfl) (by kernel_rfl) ?_
    refine J_skip ?_
    refine J_seq ?_
    refine JR_begin mixed [(0, true), (1, false), (2, true), (3, true), (4, true), (5, true), (6, true)] [] (by kernel_rfl) (by kernel_rfl) ?_
    refine JR_run (id := 4) (rest := [(1, false), (2, true), (3, true), (4, true), (5, true), (6, true)]) [.rd 0 [] 0 0] [4, 5, 6, 23] (E1 := fun _ => [(4, .val (.pointer (some (⟨nu1 0, 0, none⟩)))), (5, .val (.nilIface)), (6, .val (.slice a1 n1 c1)), (23, .val (.slice a1 n1 c1))]) (h1 := fun _ => [(nu1 0, .cells #[.int .i64 0, .string (ByteArray.mk #[]), .int .i64 0, .slice none 0 0] 47 (0, 0))]) (p1 := fun _ => []) (W1 := []) (fun _ => by kernel_rfl) (fun _ => trivial) (fun _ => ?_)
    refine JR_callp [] 62 #[.slice a1 n1 c1] (some 24) (by kernel_rfl) (fun w S hG => ?_)
    refine (vKind (hG.at 2 rfl) (by omega)).mono ?_
    rintro e2 w2 ⟨a2, n2, c2, hR⟩
    refine ⟨_, _, _, hR, ?_⟩
    try simp only [List.cons_append, List.nil_append, List.append_nil]
    refine JR_run (id := 4) (rest := []) [.rd 2 [] 0 0, .rd 3 [] 0 0, .rd 4 [] 0 0, .rd 5 [] 0 0, .rd 6 [] 0 0] [4, 5, 6, 8] (E1 := fun _ => [(4, .val (.pointer (some (⟨nu1 0, 0, none⟩)))), (5, .val (.nilIface)), (6, .val (.slice a2 n2 c2)), (8, .val (.int .i64 (kindOf (opsOf key l))))]) (h1 := fun _ => [(nu1 0, .cells #[.int .i64 0, .string (ByteArray.mk #[]), .int .i64 0, .slice none 0 0] 47 (0, 0))]) (p1 := fun _ => []) (W1 := []) (fun _ => by kernel_rfl) (fun _ => trivial) (fun _ => ?_)
    refine JR_end ?_
    refine J_seq ?_
    refine J_reg mixed [.rd 0 [] 0 0, .rd 1 [] 0 0, .wr 2 [] 0, .wr 3 [.o 1 none, .o 1 none, .o 1 none, .o 1 none] 0] [(3, [])] [4, 5, 6, 8, 9] (E1 := fun nu2 => [(4, .val (.pointer (some (⟨nu1 0, 0, none⟩)))), (5, .val (.nilIface)), (6, .val (.slice a2 n2 c2)), (8, .val (.int .i64 (kindOf (opsOf key l)))), (9, .val (.pointer (some (⟨nu2 0, 0, none⟩))))]) (h1 := fun nu2 => [(nu1 0, .cells #[.int .i64 0, .string (ByteArray.mk #[]), .int .i64 0, .slice none 0 0] 47 (0, 0)), (nu2 0, .cells #[.int .i64 (kindOf (opsOf key l)), .string (ByteArray.mk #[]), .int .i64 0, .slice none 0 0] 47 (0, 0))]) (p1 := fun nu2 => []) (W1 := []) (by kernel_rfl) (fun _ => by kernel_rfl) (fun _ => trivial) (fun nu2 => ?_)
    refine J_seq ?_
    refine J_seq ?_
    refine J_reg mixed [.rd 0 [] 0 0, .rd 1 [] 0 0, .rd 2 [] 0 0] [] [4, 5, 6, 8, 9, 29, 30, 31] (E1 := fun _ => [(4, .val (.pointer (some (⟨nu1 0, 0, none⟩)))), (5, .val (.nilIface)), (6, .val (.slice a2 n2 c2)), (8, .val (.int .i64 (kindOf (opsOf key l)))), (9, .val (.pointer (some (⟨nu2 0, 0, none⟩)))), (29, .val (.slice a2 n2 c2)), (30, .val (.int .i64 (↑n2 : Int))), (31, .val (.int .i64 0))]) (h1 := fun _ => [(nu1 0, .cells #[.int .i64 0, .string (ByteArray.mk #[]), .int .i64 0, .slice none 0 0] 47 (0, 0)), (nu2 0, .cells #[.int .i64 (kindOf (opsOf key l)), .string (ByteArray.mk #[]), .int .i64 0, .slice none 0 0] 47 (0, 0))]) (p1 := fun _ => []) (W1 := []) (by kernel_rfl) (fun _ => by kernel_rfl) (fun _ => trivial) (fun _ => ?_)
    refine J_block ?_
    refine J_stpx (stp_replen 3 rfl) fun _ hn2 => ?_
    rw [List.length_map] at hn2
    have hn3 : n2 = (ofKey key l).length := hn2
    subst hn3
    have hA : kindL (opsOf key l) = ofKey key l := rfl
    rw [hA]
    clear hn2
    generalize hK : kindOf (opsOf key l) = K at hk3
    have hval : Sx.valOf key l = ⟨K, if K = 1 then lastText (ofKey key l) else ByteArray.mk #[], if K = 2 then sumN (ofKey key l) else 0, []⟩ := by
      simp only [Sx.valOf, hK, if_neg hk3]
    refine J_loopx (fun y : OfS => [(4, .val (.pointer (some (⟨nu1 0, 0, none⟩)))), (5, .val (.nilIface)), (6, .val (.slice a2 ((ofKey key l).length) c2)), (8, .val (.int .i64 K)), (9, .val (.pointer (some (⟨nu2 0, 0, none⟩)))), (29, .val (.slice a2 ((ofKey key l).length) c2)), (30, .val (.int .i64 ((↑(ofKey key l).length : Int)))), (31, .val (.int .i64 y.i))]) (fun y : OfS => [(nu1 0, .cells #[.int .i64 0, .string (ByteArray.mk #[]), .int .i64 0, .slice none 0 0] 47 (0, 0)), (nu2 0, .cells #[.int .i64 K, .string y.text, .int .i64 y.n, .slice none 0 0] 47 (0, 0))]) (fun y : OfS => []) (fun y : OfS => [(.nilIface, (dC er eb)), (.slice a n c, (D.sl 3 (List.map eCom l))), (.slice a1 n1 c1, (D.sl 11 (List.map eDone (opsOf key l)))), (.slice a2 ((ofKey key l).length) c2, (D.sl 11 (List.map eDone (ofKey key l))))]) (fun y : OfS => ((ofKey key l).length - y.i).toNat) (fun y : OfS => (0 ≤ y.i ∧ y.i ≤ (ofKey key l).length ∧ y.text = (if K = 1 then lastText ((ofKey key l).take y.i.toNat) else ByteArray.mk #[]) ∧ y.n = (if K = 2 then sumN ((ofKey key l).take y.i.toNat) else 0))) ⟨0, ByteArray.mk #[], 0⟩ [4, 5, 6, 8, 9, 29, 30, 31] [0, 1] [] [0, 1, 2, 3] ?_ (by kernel_rfl) rfl rfl rfl ?_
    · exact ⟨by simp, by simp, by split <;> rfl, by split <;> rfl⟩
    rintro ⟨i, tx, m⟩ ⟨hi0, hi, htx, hm⟩
    dsimp only at hi0 hi htx hm ⊢
    refine J_seq ?_
    refine J_reg mixed [.rd 0 [] 0 0] [] [4, 5, 6, 8, 9, 29, 30, 31, 32] (E1 := fun _ => [(4, .val (.pointer (some (⟨nu1 0, 0, none⟩)))), (5, .val (.nilIface)), (6, .val (.slice a2 ((ofKey key l).length) c2)), (8, .val (.int .i64 K)), (9, .val (.pointer (some (⟨nu2 0, 0, none⟩)))), (29, .val (.slice a2 ((ofKey key l).length) c2)), (30, .val (.int .i64 ((↑(ofKey key l).length : Int)))), (31, .val (.int .i64 i)), (32, .val (.bool (decide (i < (↑(ofKey key l).length : Int)))))]) (h1 := fun _ => [(nu1 0, .cells #[.int .i64 0, .string (ByteArray.mk #[]), .int .i64 0, .slice none 0 0] 47 (0, 0)), (nu2 0, .cells #[.int .i64 K, .string tx, .int .i64 m, .slice none 0 0] 47 (0, 0))]) (p1 := fun _ => []) (W1 := []) (by kernel_rfl) (fun _ => by kernel_rfl) (fun _ => trivial) (fun _ => ?_)
    refine J_seq ?_
    refine J_cond (t := decide (i < (↑(ofKey key l).length : Int))) (by kernel_rfl) (by kernel_rfl) (fun hlt => ?_) (fun hlt => ?_)
    · have hlt2 : i < (ofKey key l).length := by simpa using hlt
      obtain ⟨x, hx⟩ : ∃ x, (ofKey key l)[i.toNat]? = some x := ⟨_, List.getElem?_eq_getElem (by omega)⟩
      have hxn := hfin x (List.mem_of_getElem? hx)
      have hs := sumN_le hfin i.toNat
      refine J_read1 3 rfl i.toNat (map_at hx) (by kernel_rfl) (fun b1 off1 cs1 ty1 fz1 a1_0 c1_0 ha1 hrd1 => ?_)
      cases ha1
      have hrd1_0 := rd0 (hrd1 0 _ rfl)
      have hrd1_1 := hrd1 1 _ rfl
      have hrd1_2 := hrd1 2 _ rfl
      have hrd1_3 := hrd1 3 _ rfl
      have hrd1_4 := hrd1 4 _ rfl
      have hrd1_5 := hrd1 5 _ rfl
      have hrd1_6 := hrd1 6 _ rfl
      have hrd1_7 := hrd1 7 _ rfl
      have hrd1_8 := hrd1 8 _ rfl
      have hrd1_9 := hrd1 9 _ rfl
      have hrd1_10 := hrd1 10 _ rfl
      by_cases h1 : K = 1
      · have h2 : ¬ K = 2 := by omega
        rw [if_neg h2] at hm
        try simp only [List.cons_append, List.nil_append, List.append_nil]
        refine J_skip ?_
        refine J_seq ?_
        refine J_block ?_
        refine J_seq ?_
        refine J_reg mixed [.rd 0 [] 0 2, .rd 1 [.r 0 (some (.int .i64 x.o.no)), .r 0 (some (.string x.o.key)), .r 0 (some (.int .i64 x.o.kind)), .r 0 (some (.string x.o.text)), .r 0 (some (.int .i64 x.o.n)), .r 0 (some (.bool x.o.remove)), .r 0 (some (.slice (a1_0, c1_0).fst ((List.map eDot x.o.dots).length) c1_0)), .r 0 (some (.int .i64 x.d.place)), .r 0 (some (.int .i64 x.d.time)), .r 0 (some (.int .i64 x.d.no)), .r 0 (some (.int .i64 x.w))] 0 0, .wr 2 [] 0, .wr 3 [.o 2 none, .o 2 none, .o 2 none, .o 2 none, .o 2 none, .o 2 none, .o 2 none, .o 2 none, .o 2 none, .o 2 none, .o 2 none] 0] [(3, [])] [4, 5, 6, 8, 9, 11, 29, 30, 31] (E1 := fun nu3 => [(4, .val (.pointer (some (⟨nu1 0, 0, none⟩)))), (5, .val (.nilIface)), (6, .val (.slice (some (⟨b1, off1, none⟩)) ((ofKey key l).length) c2)), (8, .val (.int .i64 K)), (9, .val (.pointer (some (⟨nu2 0, 0, none⟩)))), (11, .val (.pointer (some (⟨nu3 0, 0, none⟩)))), (29, .val (.slice (some (⟨b1, off1, none⟩)) ((ofKey key l).length) c2)), (30, .val (.int .i64 ((↑(ofKey key l).length : Int)))), (31, .val (.int .i64 i))]) (h1 := fun nu3 => [(nu1 0, .cells #[.int .i64 0, .string (ByteArray.mk #[]), .int .i64 0, .slice none 0 0] 47 (0, 0)), (nu2 0, .cells #[.int .i64 K, .string tx, .int .i64 m, .slice none 0 0] 47 (0, 0)), (nu3 0, .cells #[.int .i64 x.o.no, .string x.o.key, .int .i64 x.o.kind, .string x.o.text, .int .i64 x.o.n, .bool x.o.remove, .slice (a1_0, c1_0).fst ((List.map eDot x.o.dots).length) c1_0, .int .i64 x.d.place, .int .i64 x.d.time, .int .i64 x.d.no, .int .i64 x.w] 112 (0, 0))]) (p1 := fun nu3 => [(0 : Int) ≤ i, i < (↑(ofKey key l).length : Int), cs1[off1 + i.toNat * (11 : Nat)]? = some (Value.int IntKind.i64 x.o.no), cs1[off1 + i.toNat * (11 : Nat) + (1 : Nat)]? = some (Value.string x.o.key), cs1[off1 + i.toNat * (11 : Nat) + (2 : Nat)]? = some (Value.int IntKind.i64 x.o.kind), cs1[off1 + i.toNat * (11 : Nat) + (3 : Nat)]? = some (Value.string x.o.text), cs1[off1 + i.toNat * (11 : Nat) + (4 : Nat)]? = some (Value.int IntKind.i64 x.o.n), cs1[off1 + i.toNat * (11 : Nat) + (5 : Nat)]? = some (Value.bool x.o.remove), cs1[off1 + i.toNat * (11 : Nat) + (6 : Nat)]? = some (Value.slice (a1_0, c1_0).fst (List.map eDot x.o.dots).length (a1_0, c1_0).snd), cs1[off1 + i.toNat * (11 : Nat) + (7 : Nat)]? = some (Value.int IntKind.i64 x.d.place), cs1[off1 + i.toNat * (11 : Nat) + (8 : Nat)]? = some (Value.int IntKind.i64 x.d.time), cs1[off1 + i.toNat * (11 : Nat) + (9 : Nat)]? = some (Value.int IntKind.i64 x.d.no), cs1[off1 + i.toNat * (11 : Nat) + (10 : Nat)]? = some (Value.int IntKind.i64 x.w)]) (W1 := []) (by kernel_rfl) (fun _ => by kernel_rfl) (fun _ => ⟨hi0, hlt2, hrd1_0, hrd1_1, hrd1_2, hrd1_3, hrd1_4, hrd1_5, hrd1_6, hrd1_7, hrd1_8, hrd1_9, hrd1_10, trivial⟩) (fun nu3 => ?_)
        refine J_seq ?_
        refine J_reg mixed [.rd 0 [] 0 0] [] [4, 5, 6, 8, 9, 11, 29, 30, 31, 35] (E1 := fun _ => [(4, .val (.pointer (some (⟨nu1 0, 0, none⟩)))), (5, .val (.nilIface)), (6, .val (.slice (some (⟨b1, off1, none⟩)) ((ofKey key l).length) c2)), (8, .val (.int .i64 K)), (9, .val (.pointer (some (⟨nu2 0, 0, none⟩)))), (11, .val (.pointer (some (⟨nu3 0, 0, none⟩)))), (29, .val (.slice (some (⟨b1, off1, none⟩)) ((ofKey key l).length) c2)), (30, .val (.int .i64 ((↑(ofKey key l).length : Int)))), (31, .val (.int .i64 i)), (35, .val (.int .i64 K))]) (h1 := fun _ => [(nu1 0, .cells #[.int .i64 0, .string (ByteArray.mk #[]), .int .i64 0, .slice none 0 0] 47 (0, 0)), (nu2 0, .cells #[.int .i64 K, .string tx, .int .i64 m, .slice none 0 0] 47 (0, 0)), (nu3 0, .cells #[.int .i64 x.o.no, .string x.o.key, .int .i64 x.o.kind, .string x.o.text, .int .i64 x.o.n, .bool x.o.remove, .slice (a1_0, c1_0).fst ((List.map eDot x.o.dots).length) c1_0, .int .i64 x.d.place, .int .i64 x.d.time, .int .i64 x.d.no, .int .i64 x.w] 112 (0, 0))]) (p1 := fun _ => []) (W1 := []) (by kernel_rfl) (fun _ => by kernel_rfl) (fun _ => trivial) (fun _ => ?_)
        refine J_block ?_
        refine J_seq ?_
        refine J_reg mixed [.rd 0 [] 0 6, .rd 1 [] 0 0] [] [4, 5, 6, 8, 9, 11, 29, 30, 31, 35, 36] (E1 := fun _ => [(4, .val (.pointer (some (⟨nu1 0, 0, none⟩)))), (5, .val (.nilIface)), (6, .val (.slice (some (⟨b1, off1, none⟩)) ((ofKey key l).length) c2)), (8, .val (.int .i64 K)), (9, .val (.pointer (some (⟨nu2 0, 0, none⟩)))), (11, .val (.pointer (some (⟨nu3 0, 0, none⟩)))), (29, .val (.slice (some (⟨b1, off1, none⟩)) ((ofKey key l).length) c2)), (30, .val (.int .i64 ((↑(ofKey key l).length : Int)))), (31, .val (.int .i64 i)), (35, .val (.int .i64 K)), (36, .val (.bool true))]) (h1 := fun _ => [(nu1 0, .cells #[.int .i64 0, .string (ByteArray.mk #[]), .int .i64 0, .slice none 0 0] 47 (0, 0)), (nu2 0, .cells #[.int .i64 K, .string tx, .int .i64 m, .slice none 0 0] 47 (0, 0)), (nu3 0, .cells #[.int .i64 x.o.no, .string x.o.key, .int .i64 x.o.kind, .string x.o.text, .int .i64 x.o.n, .bool x.o.remove, .slice (a1_0, c1_0).fst ((List.map eDot x.o.dots).length) c1_0, .int .i64 x.d.place, .int .i64 x.d.time, .int .i64 x.d.no, .int .i64 x.w] 112 (0, 0))]) (p1 := fun _ => [(K == (1 : Int)) = true]) (W1 := []) (by kernel_rfl) (fun _ => by kernel_rfl) (fun _ => ⟨by simp; omega, trivial⟩) (fun _ => ?_)
        refine J_cond_t (by kernel_rfl) (by kernel_rfl) ?_
        refine J_reg mixed [.rd 0 [] 0 0, .rd 1 [] 0 0, .rd 2 [.o 2 none] 0 0, .rd 3 [] 0 0, .wr 4 [.o 1 none] 0] [(4, [1])] [4, 5, 6, 8, 9, 11, 29, 30, 31, 35] (E1 := fun _ => [(4, .val (.pointer (some (⟨nu1 0, 0, none⟩)))), (5, .val (.nilIface)), (6, .val (.slice (some (⟨b1, off1, none⟩)) ((ofKey key l).length) c2)), (8, .val (.int .i64 K)), (9, .val (.pointer (some (⟨nu2 0, 0, none⟩)))), (11, .val (.pointer (some (⟨nu3 0, 0, none⟩)))), (29, .val (.slice (some (⟨b1, off1, none⟩)) ((ofKey key l).length) c2)), (30, .val (.int .i64 ((↑(ofKey key l).length : Int)))), (31, .val (.int .i64 i)), (35, .val (.int .i64 K))]) (h1 := fun _ => [(nu1 0, .cells #[.int .i64 0, .string (ByteArray.mk #[]), .int .i64 0, .slice none 0 0] 47 (0, 0)), (nu2 0, .cells #[.int .i64 K, .string x.o.text, .int .i64 m, .slice none 0 0] 47 (0, 0)), (nu3 0, .cells #[.int .i64 x.o.no, .string x.o.key, .int .i64 x.o.kind, .string x.o.text, .int .i64 x.o.n, .bool x.o.remove, .slice (a1_0, c1_0).fst ((List.map eDot x.o.dots).length) c1_0, .int .i64 x.d.place, .int .i64 x.d.time, .int .i64 x.d.no, .int .i64 x.w] 112 (0, 0))]) (p1 := fun _ => []) (W1 := []) (by kernel_rfl) (fun _ => by kernel_rfl) (fun _ => trivial) (fun _ => ?_)
        refine J_eb ?_
        refine J_eb ?_
        refine J_reg mixed [.rd 0 [] 0 1, .rd 1 [] 0 0] [] [4, 5, 6, 8, 9, 11, 29, 30, 31, 35] (E1 := fun _ => [(4, .val (.pointer (some (⟨nu1 0, 0, none⟩)))), (5, .val (.nilIface)), (6, .val (.slice (some (⟨b1, off1, none⟩)) ((ofKey key l).length) c2)), (8, .val (.int .i64 K)), (9, .val (.pointer (some (⟨nu2 0, 0, none⟩)))), (11, .val (.pointer (some (⟨nu3 0, 0, none⟩)))), (29, .val (.slice (some (⟨b1, off1, none⟩)) ((ofKey key l).length) c2)), (30, .val (.int .i64 ((↑(ofKey key l).length : Int)))), (31, .val (.int .i64 (i + 1))), (35, .val (.int .i64 K))]) (h1 := fun _ => [(nu1 0, .cells #[.int .i64 0, .string (ByteArray.mk #[]), .int .i64 0, .slice none 0 0] 47 (0, 0)), (nu2 0, .cells #[.int .i64 K, .string x.o.text, .int .i64 m, .slice none 0 0] 47 (0, 0)), (nu3 0, .cells #[.int .i64 x.o.no, .string x.o.key, .int .i64 x.o.kind, .string x.o.text, .int .i64 x.o.n, .bool x.o.remove, .slice (a1_0, c1_0).fst ((List.map eDot x.o.dots).length) c1_0, .int .i64 x.d.place, .int .i64 x.d.time, .int .i64 x.d.no, .int .i64 x.w] 112 (0, 0))]) (p1 := fun _ => [IntKind.i64.wrap (i + (1 : Int)) = i + (1 : Int)]) (W1 := []) (by kernel_rfl) (fun _ => by kernel_rfl) (fun _ => ⟨wrap_i64 (by omega) (by omega), trivial⟩) (fun _ => ?_)
        refine J_backx ⟨i + 1, x.o.text, m⟩ [4, 5, 6, 8, 9, 29, 30, 31] [0, 1] [] [0, 1, 2, 3] ?_ ?_ (by kernel_rfl) rfl rfl rfl
        · refine ⟨by simp only; omega, by simp only; omega, ?_, ?_⟩
          · dsimp only
            rw [if_pos h1, ← take_snoc hi0 hx, lastText_snoc]
          · dsimp only
            rw [if_neg h2, hm]
        · simp only
          omega
      · by_cases h2 : K = 2
        · rw [if_pos h2] at hm
          have hmb : -9223372036854775808 ≤ m + x.o.n ∧ m + x.o.n ≤ 9223372036854775807 := by omega
          try simp only [List.cons_append, List.nil_append, List.append_nil]
          refine J_skip ?_
          refine J_seq ?_
          refine J_block ?_
          refine J_seq ?_
          refine J_reg mixed [.rd 0 [] 0 2, .rd 1 [.r 0 (some (.int .i64 x.o.no)), .r 0 (some (.string x.o.key)), .r 0 (some (.int .i64 x.o.kind)), .r 0 (some (.string x.o.text)), .r 0 (some (.int .i64 x.o.n)), .r 0 (some (.bool x.o.remove)), .r 0 (some (.slice (a1_0, c1_0).fst ((List.map eDot x.o.dots).length) c1_0)), .r 0 (some (.int .i64 x.d.place)), .r 0 (some (.int .i64 x.d.time)), .r 0 (some (.int .i64 x.d.no)), .r 0 (some (.int .i64 x.w))] 0 0, .wr 2 [] 0, .wr 3 [.o 2 none, .o 2 none, .o 2 none, .o 2 none, .o 2 none, .o 2 none, .o 2 none, .o 2 none, .o 2 none, .o 2 none, .o 2 none] 0] [(3, [])] [4, 5, 6, 8, 9, 11, 29, 30, 31] (E1 := fun nu3 => [(4, .val (.pointer (some (⟨nu1 0, 0, none⟩)))), (5, .val (.nilIface)), (6, .val (.slice (some (⟨b1, off1, none⟩)) ((ofKey key l).length) c2)), (8, .val (.int .i64 K)), (9, .val (.pointer (some (⟨nu2 0, 0, none⟩)))), (11, .val (.pointer (some (⟨nu3 0, 0, none⟩)))), (29, .val (.slice (some (⟨b1, off1, none⟩)) ((ofKey key l).length) c2)), (30, .val (.int .i64 ((↑(ofKey key l).length : Int)))), (31, .val (.int .i64 i))]) (h1 := fun nu3 => [(nu1 0, .cells #[.int .i64 0, .string (ByteArray.mk #[]), .int .i64 0, .slice none 0 0] 47 (0, 0)), (nu2 0, .cells #[.int .i64 K, .string tx, .int .i64 m, .slice none 0 0] 47 (0, 0)), (nu3 0, .cells #[.int .i64 x.o.no, .string x.o.key, .int .i64 x.o.kind, .string x.o.text, .int .i64 x.o.n, .bool x.o.remove, .slice (a1_0, c1_0).fst ((List.map eDot x.o.dots).length) c1_0, .int .i64 x.d.place, .int .i64 x.d.time, .int .i64 x.d.no, .int .i64 x.w] 112 (0, 0))]) (p1 := fun nu3 => [(0 : Int) ≤ i, i < (↑(ofKey key l).length : Int), cs1[off1 + i.toNat * (11 : Nat)]? = some (Value.int IntKind.i64 x.o.no), cs1[off1 + i.toNat * (11 : Nat) + (1 : Nat)]? = some (Value.string x.o.key), cs1[off1 + i.toNat * (11 : Nat) + (2 : Nat)]? = some (Value.int IntKind.i64 x.o.kind), cs1[off1 + i.toNat * (11 : Nat) + (3 : Nat)]? = some (Value.string x.o.text), cs1[off1 + i.toNat * (11 : Nat) + (4 : Nat)]? = some (Value.int IntKind.i64 x.o.n), cs1[off1 + i.toNat * (11 : Nat) + (5 : Nat)]? = some (Value.bool x.o.remove), cs1[off1 + i.toNat * (11 : Nat) + (6 : Nat)]? = some (Value.slice (a1_0, c1_0).fst (List.map eDot x.o.dots).length (a1_0, c1_0).snd), cs1[off1 + i.toNat * (11 : Nat) + (7 : Nat)]? = some (Value.int IntKind.i64 x.d.place), cs1[off1 + i.toNat * (11 : Nat) + (8 : Nat)]? = some (Value.int IntKind.i64 x.d.time), cs1[off1 + i.toNat * (11 : Nat) + (9 : Nat)]? = some (Value.int IntKind.i64 x.d.no), cs1[off1 + i.toNat * (11 : Nat) + (10 : Nat)]? = some (Value.int IntKind.i64 x.w)]) (W1 := []) (by kernel_rfl) (fun _ => by kernel_rfl) (fun _ => ⟨hi0, hlt2, hrd1_0, hrd1_1, hrd1_2, hrd1_3, hrd1_4, hrd1_5, hrd1_6, hrd1_7, hrd1_8, hrd1_9, hrd1_10, trivial⟩) (fun nu3 => ?_)
          refine J_seq ?_
          refine J_reg mixed [.rd 0 [] 0 0] [] [4, 5, 6, 8, 9, 11, 29, 30, 31, 35] (E1 := fun _ => [(4, .val (.pointer (some (⟨nu1 0, 0, none⟩)))), (5, .val (.nilIface)), (6, .val (.slice (some (⟨b1, off1, none⟩)) ((ofKey key l).length) c2)), (8, .val (.int .i64 K)), (9, .val (.pointer (some (⟨nu2 0, 0, none⟩)))), (11, .val (.pointer (some (⟨nu3 0, 0, none⟩)))), (29, .val (.slice (some (⟨b1, off1, none⟩)) ((ofKey key l).length) c2)), (30, .val (.int .i64 ((↑(ofKey key l).length : Int)))), (31, .val (.int .i64 i)), (35, .val (.int .i64 K))]) (h1 := fun _ => [(nu1 0, .cells #[.int .i64 0, .string (ByteArray.mk #[]), .int .i64 0, .slice none 0 0] 47 (0, 0)), (nu2 0, .cells #[.int .i64 K, .string tx, .int .i64 m, .slice none 0 0] 47 (0, 0)), (nu3 0, .cells #[.int .i64 x.o.no, .string x.o.key, .int .i64 x.o.kind, .string x.o.text, .int .i64 x.o.n, .bool x.o.remove, .slice (a1_0, c1_0).fst ((List.map eDot x.o.dots).length) c1_0, .int .i64 x.d.place, .int .i64 x.d.time, .int .i64 x.d.no, .int .i64 x.w] 112 (0, 0))]) (p1 := fun _ => []) (W1 := []) (by kernel_rfl) (fun _ => by kernel_rfl) (fun _ => trivial) (fun _ => ?_)
          refine J_block ?_
          refine J_seq ?_
          refine J_reg mixed [.rd 0 [] 0 7, .rd 1 [] 0 0] [] [4, 5, 6, 8, 9, 11, 29, 30, 31, 35, 36] (E1 := fun _ => [(4, .val (.pointer (some (⟨nu1 0, 0, none⟩)))), (5, .val (.nilIface)), (6, .val (.slice (some (⟨b1, off1, none⟩)) ((ofKey key l).length) c2)), (8, .val (.int .i64 K)), (9, .val (.pointer (some (⟨nu2 0, 0, none⟩)))), (11, .val (.pointer (some (⟨nu3 0, 0, none⟩)))), (29, .val (.slice (some (⟨b1, off1, none⟩)) ((ofKey key l).length) c2)), (30, .val (.int .i64 ((↑(ofKey key l).length : Int)))), (31, .val (.int .i64 i)), (35, .val (.int .i64 K)), (36, .val (.bool false))]) (h1 := fun _ => [(nu1 0, .cells #[.int .i64 0, .string (ByteArray.mk #[]), .int .i64 0, .slice none 0 0] 47 (0, 0)), (nu2 0, .cells #[.int .i64 K, .string tx, .int .i64 m, .slice none 0 0] 47 (0, 0)), (nu3 0, .cells #[.int .i64 x.o.no, .string x.o.key, .int .i64 x.o.kind, .string x.o.text, .int .i64 x.o.n, .bool x.o.remove, .slice (a1_0, c1_0).fst ((List.map eDot x.o.dots).length) c1_0, .int .i64 x.d.place, .int .i64 x.d.time, .int .i64 x.d.no, .int .i64 x.w] 112 (0, 0))]) (p1 := fun _ => [(K == (1 : Int)) = false]) (W1 := []) (by kernel_rfl) (fun _ => by kernel_rfl) (fun _ => ⟨by simp; omega, trivial⟩) (fun _ => ?_)
          refine J_cond_f (by kernel_rfl) (by kernel_rfl) ?_
          refine J_seq ?_
          refine J_reg mixed [.rd 0 [] 0 6, .rd 1 [] 0 0] [] [4, 5, 6, 8, 9, 11, 29, 30, 31, 35, 42] (E1 := fun _ => [(4, .val (.pointer (some (⟨nu1 0, 0, none⟩)))), (5, .val (.nilIface)), (6, .val (.slice (some (⟨b1, off1, none⟩)) ((ofKey key l).length) c2)), (8, .val (.int .i64 K)), (9, .val (.pointer (some (⟨nu2 0, 0, none⟩)))), (11, .val (.pointer (some (⟨nu3 0, 0, none⟩)))), (29, .val (.slice (some (⟨b1, off1, none⟩)) ((ofKey key l).length) c2)), (30, .val (.int .i64 ((↑(ofKey key l).length : Int)))), (31, .val (.int .i64 i)), (35, .val (.int .i64 K)), (42, .val (.bool true))]) (h1 := fun _ => [(nu1 0, .cells #[.int .i64 0, .string (ByteArray.mk #[]), .int .i64 0, .slice none 0 0] 47 (0, 0)), (nu2 0, .cells #[.int .i64 K, .string tx, .int .i64 m, .slice none 0 0] 47 (0, 0)), (nu3 0, .cells #[.int .i64 x.o.no, .string x.o.key, .int .i64 x.o.kind, .string x.o.text, .int .i64 x.o.n, .bool x.o.remove, .slice (a1_0, c1_0).fst ((List.map eDot x.o.dots).length) c1_0, .int .i64 x.d.place, .int .i64 x.d.time, .int .i64 x.d.no, .int .i64 x.w] 112 (0, 0))]) (p1 := fun _ => [(K == (2 : Int)) = true]) (W1 := []) (by kernel_rfl) (fun _ => by kernel_rfl) (fun _ => ⟨by simp; omega, trivial⟩) (fun _ => ?_)
          refine J_cond_t (by kernel_rfl) (by kernel_rfl) ?_
          refine J_reg mixed [.rd 0 [] 0 0, .rd 1 [.o 1 none] 0 0, .rd 2 [] 0 0, .rd 3 [] 0 0, .rd 4 [.o 2 none] 0 0, .rd 5 [] 0 1, .rd 6 [] 0 0, .wr 7 [.o 1 none] 0] [(7, [1])] [4, 5, 6, 8, 9, 11, 29, 30, 31, 35] (E1 := fun _ => [(4, .val (.pointer (some (⟨nu1 0, 0, none⟩)))), (5, .val (.nilIface)), (6, .val (.slice (some (⟨b1, off1, none⟩)) ((ofKey key l).length) c2)), (8, .val (.int .i64 K)), (9, .val (.pointer (some (⟨nu2 0, 0, none⟩)))), (11, .val (.pointer (some (⟨nu3 0, 0, none⟩)))), (29, .val (.slice (some (⟨b1, off1, none⟩)) ((ofKey key l).length) c2)), (30, .val (.int .i64 ((↑(ofKey key l).length : Int)))), (31, .val (.int .i64 i)), (35, .val (.int .i64 K))]) (h1 := fun _ => [(nu1 0, .cells #[.int .i64 0, .string (ByteArray.mk #[]), .int .i64 0, .slice none 0 0] 47 (0, 0)), (nu2 0, .cells #[.int .i64 K, .string tx, .int .i64 (m + x.o.n), .slice none 0 0] 47 (0, 0)), (nu3 0, .cells #[.int .i64 x.o.no, .string x.o.key, .int .i64 x.o.kind, .string x.o.text, .int .i64 x.o.n, .bool x.o.remove, .slice (a1_0, c1_0).fst ((List.map eDot x.o.dots).length) c1_0, .int .i64 x.d.place, .int .i64 x.d.time, .int .i64 x.d.no, .int .i64 x.w] 112 (0, 0))]) (p1 := fun _ => [IntKind.i64.wrap (m + x.o.n) = m + x.o.n]) (W1 := []) (by kernel_rfl) (fun _ => by kernel_rfl) (fun _ => ⟨wrap_i64 (by omega) (by omega), trivial⟩) (fun _ => ?_)
          refine J_eb ?_
          refine J_eb ?_
          refine J_reg mixed [.rd 0 [] 0 1, .rd 1 [] 0 0] [] [4, 5, 6, 8, 9, 11, 29, 30, 31, 35] (E1 := fun _ => [(4, .val (.pointer (some (⟨nu1 0, 0, none⟩)))), (5, .val (.nilIface)), (6, .val (.slice (some (⟨b1, off1, none⟩)) ((ofKey key l).length) c2)), (8, .val (.int .i64 K)), (9, .val (.pointer (some (⟨nu2 0, 0, none⟩)))), (11, .val (.pointer (some (⟨nu3 0, 0, none⟩)))), (29, .val (.slice (some (⟨b1, off1, none⟩)) ((ofKey key l).length) c2)), (30, .val (.int .i64 ((↑(ofKey key l).length : Int)))), (31, .val (.int .i64 (i + 1))), (35, .val (.int .i64 K))]) (h1 := fun _ => [(nu1 0, .cells #[.int .i64 0, .string (ByteArray.mk #[]), .int .i64 0, .slice none 0 0] 47 (0, 0)), (nu2 0, .cells #[.int .i64 K, .string tx, .int .i64 (m + x.o.n), .slice none 0 0] 47 (0, 0)), (nu3 0, .cells #[.int .i64 x.o.no, .string x.o.key, .int .i64 x.o.kind, .string x.o.text, .int .i64 x.o.n, .bool x.o.remove, .slice (a1_0, c1_0).fst ((List.map eDot x.o.dots).length) c1_0, .int .i64 x.d.place, .int .i64 x.d.time, .int .i64 x.d.no, .int .i64 x.w] 112 (0, 0))]) (p1 := fun _ => [IntKind.i64.wrap (i + (1 : Int)) = i + (1 : Int)]) (W1 := []) (by kernel_rfl) (fun _ => by kernel_rfl) (fun _ => ⟨wrap_i64 (by omega) (by omega), trivial⟩) (fun _ => ?_)
          refine J_backx ⟨i + 1, tx, m + x.o.n⟩ [4, 5, 6, 8, 9, 29, 30, 31] [0, 1] [] [0, 1, 2, 3] ?_ ?_ (by kernel_rfl) rfl rfl rfl
          · refine ⟨by simp only; omega, by simp only; omega, ?_, ?_⟩
            · dsimp only
              rw [if_neg h1, htx, if_neg h1]
            · dsimp only
              rw [if_pos h2, ← take_snoc hi0 hx, sumN_snoc, hm]
          · simp only
            omega
        · try simp only [List.cons_append, List.nil_append, List.append_nil]
          refine J_skip ?_
          refine J_seq ?_
          refine J_block ?_
          refine J_seq ?_
          refine J_reg mixed [.rd 0 [] 0 2, .rd 1 [.r 0 (some (.int .i64 x.o.no)), .r 0 (some (.string x.o.key)), .r 0 (some (.int .i64 x.o.kind)), .r 0 (some (.string x.o.text)), .r 0 (some (.int .i64 x.o.n)), .r 0 (some (.bool x.o.remove)), .r 0 (some (.slice (a1_0, c1_0).fst ((List.map eDot x.o.dots).length) c1_0)), .r 0 (some (.int .i64 x.d.place)), .r 0 (some (.int .i64 x.d.time)), .r 0 (some (.int .i64 x.d.no)), .r 0 (some (.int .i64 x.w))] 0 0, .wr 2 [] 0, .wr 3 [.o 2 none, .o 2 none, .o 2 none, .o 2 none, .o 2 none, .o 2 none, .o 2 none, .o 2 none, .o 2 none, .o 2 none, .o 2 none] 0] [(3, [])] [4, 5, 6, 8, 9, 11, 29, 30, 31] (E1 := fun nu3 => [(4, .val (.pointer (some (⟨nu1 0, 0, none⟩)))), (5, .val (.nilIface)), (6, .val (.slice (some (⟨b1, off1, none⟩)) ((ofKey key l).length) c2)), (8, .val (.int .i64 K)), (9, .val (.pointer (some (⟨nu2 0, 0, none⟩)))), (11, .val (.pointer (some (⟨nu3 0, 0, none⟩)))), (29, .val (.slice (some (⟨b1, off1, none⟩)) ((ofKey key l).length) c2)), (30, .val (.int .i64 ((↑(ofKey key l).length : Int)))), (31, .val (.int .i64 i))]) (h1 := fun nu3 => [(nu1 0, .cells #[.int .i64 0, .string (ByteArray.mk #[]), .int .i64 0, .slice none 0 0] 47 (0, 0)), (nu2 0, .cells #[.int .i64 K, .string tx, .int .i64 m, .slice none 0 0] 47 (0, 0)), (nu3 0, .cells #[.int .i64 x.o.no, .string x.o.key, .int .i64 x.o.kind, .string x.o.text, .int .i64 x.o.n, .bool x.o.remove, .slice (a1_0, c1_0).fst ((List.map eDot x.o.dots).length) c1_0, .int .i64 x.d.place, .int .i64 x.d.time, .int .i64 x.d.no, .int .i64 x.w] 112 (0, 0))]) (p1 := fun nu3 => [(0 : Int) ≤ i, i < (↑(ofKey key l).length : Int), cs1[off1 + i.toNat * (11 : Nat)]? = some (Value.int IntKind.i64 x.o.no), cs1[off1 + i.toNat * (11 : Nat) + (1 : Nat)]? = some (Value.string x.o.key), cs1[off1 + i.toNat * (11 : Nat) + (2 : Nat)]? = some (Value.int IntKind.i64 x.o.kind), cs1[off1 + i.toNat * (11 : Nat) + (3 : Nat)]? = some (Value.string x.o.text), cs1[off1 + i.toNat * (11 : Nat) + (4 : Nat)]? = some (Value.int IntKind.i64 x.o.n), cs1[off1 + i.toNat * (11 : Nat) + (5 : Nat)]? = some (Value.bool x.o.remove), cs1[off1 + i.toNat * (11 : Nat) + (6 : Nat)]? = some (Value.slice (a1_0, c1_0).fst (List.map eDot x.o.dots).length (a1_0, c1_0).snd), cs1[off1 + i.toNat * (11 : Nat) + (7 : Nat)]? = some (Value.int IntKind.i64 x.d.place), cs1[off1 + i.toNat * (11 : Nat) + (8 : Nat)]? = some (Value.int IntKind.i64 x.d.time), cs1[off1 + i.toNat * (11 : Nat) + (9 : Nat)]? = some (Value.int IntKind.i64 x.d.no), cs1[off1 + i.toNat * (11 : Nat) + (10 : Nat)]? = some (Value.int IntKind.i64 x.w)]) (W1 := []) (by kernel_rfl) (fun _ => by kernel_rfl) (fun _ => ⟨hi0, hlt2, hrd1_0, hrd1_1, hrd1_2, hrd1_3, hrd1_4, hrd1_5, hrd1_6, hrd1_7, hrd1_8, hrd1_9, hrd1_10, trivial⟩) (fun nu3 => ?_)
          refine J_seq ?_
          refine J_reg mixed [.rd 0 [] 0 0] [] [4, 5, 6, 8, 9, 11, 29, 30, 31, 35] (E1 := fun _ => [(4, .val (.pointer (some (⟨nu1 0, 0, none⟩)))), (5, .val (.nilIface)), (6, .val (.slice (some (⟨b1, off1, none⟩)) ((ofKey key l).length) c2)), (8, .val (.int .i64 K)), (9, .val (.pointer (some (⟨nu2 0, 0, none⟩)))), (11, .val (.pointer (some (⟨nu3 0, 0, none⟩)))), (29, .val (.slice (some (⟨b1, off1, none⟩)) ((ofKey key l).length) c2)), (30, .val (.int .i64 ((↑(ofKey key l).length : Int)))), (31, .val (.int .i64 i)), (35, .val (.int .i64 K))]) (h1 := fun _ => [(nu1 0, .cells #[.int .i64 0, .string (ByteArray.mk #[]), .int .i64 0, .slice none 0 0] 47 (0, 0)), (nu2 0, .cells #[.int .i64 K, .string tx, .int .i64 m, .slice none 0 0] 47 (0, 0)), (nu3 0, .cells #[.int .i64 x.o.no, .string x.o.key, .int .i64 x.o.kind, .string x.o.text, .int .i64 x.o.n, .bool x.o.remove, .slice (a1_0, c1_0).fst ((List.map eDot x.o.dots).length) c1_0, .int .i64 x.d.place, .int .i64 x.d.time, .int .i64 x.d.no, .int .i64 x.w] 112 (0, 0))]) (p1 := fun _ => []) (W1 := []) (by kernel_rfl) (fun _ => by kernel_rfl) (fun _ => trivial) (fun _ => ?_)
          refine J_block ?_
          refine J_seq ?_
          refine J_reg mixed [.rd 0 [] 0 7, .rd 1 [] 0 0] [] [4, 5, 6, 8, 9, 11, 29, 30, 31, 35, 36] (E1 := fun _ => [(4, .val (.pointer (some (⟨nu1 0, 0, none⟩)))), (5, .val (.nilIface)), (6, .val (.slice (some (⟨b1, off1, none⟩)) ((ofKey key l).length) c2)), (8, .val (.int .i64 K)), (9, .val (.pointer (some (⟨nu2 0, 0, none⟩)))), (11, .val (.pointer (some (⟨nu3 0, 0, none⟩)))), (29, .val (.slice (some (⟨b1, off1, none⟩)) ((ofKey key l).length) c2)), (30, .val (.int .i64 ((↑(ofKey key l).length : Int)))), (31, .val (.int .i64 i)), (35, .val (.int .i64 K)), (36, .val (.bool false))]) (h1 := fun _ => [(nu1 0, .cells #[.int .i64 0, .string (ByteArray.mk #[]), .int .i64 0, .slice none 0 0] 47 (0, 0)), (nu2 0, .cells #[.int .i64 K, .string tx, .int .i64 m, .slice none 0 0] 47 (0, 0)), (nu3 0, .cells #[.int .i64 x.o.no, .string x.o.key, .int .i64 x.o.kind, .string x.o.text, .int .i64 x.o.n, .bool x.o.remove, .slice (a1_0, c1_0).fst ((List.map eDot x.o.dots).length) c1_0, .int .i64 x.d.place, .int .i64 x.d.time, .int .i64 x.d.no, .int .i64 x.w] 112 (0, 0))]) (p1 := fun _ => [(K == (1 : Int)) = false]) (W1 := []) (by kernel_rfl) (fun _ => by kernel_rfl) (fun _ => ⟨by simp; omega, trivial⟩) (fun _ => ?_)
          refine J_cond_f (by kernel_rfl) (by kernel_rfl) ?_
          refine J_seq ?_
          refine J_reg mixed [.rd 0 [] 0 7, .rd 1 [] 0 0] [] [4, 5, 6, 8, 9, 11, 29, 30, 31, 35, 42] (E1 := fun _ => [(4, .val (.pointer (some (⟨nu1 0, 0, none⟩)))), (5, .val (.nilIface)), (6, .val (.slice (some (⟨b1, off1, none⟩)) ((ofKey key l).length) c2)), (8, .val (.int .i64 K)), (9, .val (.pointer (some (⟨nu2 0, 0, none⟩)))), (11, .val (.pointer (some (⟨nu3 0, 0, none⟩)))), (29, .val (.slice (some (⟨b1, off1, none⟩)) ((ofKey key l).length) c2)), (30, .val (.int .i64 ((↑(ofKey key l).length : Int)))), (31, .val (.int .i64 i)), (35, .val (.int .i64 K)), (42, .val (.bool false))]) (h1 := fun _ => [(nu1 0, .cells #[.int .i64 0, .string (ByteArray.mk #[]), .int .i64 0, .slice none 0 0] 47 (0, 0)), (nu2 0, .cells #[.int .i64 K, .string tx, .int .i64 m, .slice none 0 0] 47 (0, 0)), (nu3 0, .cells #[.int .i64 x.o.no, .string x.o.key, .int .i64 x.o.kind, .string x.o.text, .int .i64 x.o.n, .bool x.o.remove, .slice (a1_0, c1_0).fst ((List.map eDot x.o.dots).length) c1_0, .int .i64 x.d.place, .int .i64 x.d.time, .int .i64 x.d.no, .int .i64 x.w] 112 (0, 0))]) (p1 := fun _ => [(K == (2 : Int)) = false]) (W1 := []) (by kernel_rfl) (fun _ => by kernel_rfl) (fun _ => ⟨by simp; omega, trivial⟩) (fun _ => ?_)
          refine J_cond_f (by kernel_rfl) (by kernel_rfl) ?_
          refine J_skip ?_
          refine J_eb ?_
          refine J_eb ?_
          refine J_reg mixed [.rd 0 [] 0 1, .rd 1 [] 0 0] [] [4, 5, 6, 8, 9, 11, 29, 30, 31, 35] (E1 := fun _ => [(4, .val (.pointer (some (⟨nu1 0, 0, none⟩)))), (5, .val (.nilIface)), (6, .val (.slice (some (⟨b1, off1, none⟩)) ((ofKey key l).length) c2)), (8, .val (.int .i64 K)), (9, .val (.pointer (some (⟨nu2 0, 0, none⟩)))), (11, .val (.pointer (some (⟨nu3 0, 0, none⟩)))), (29, .val (.slice (some (⟨b1, off1, none⟩)) ((ofKey key l).length) c2)), (30, .val (.int .i64 ((↑(ofKey key l).length : Int)))), (31, .val (.int .i64 (i + 1))), (35, .val (.int .i64 K))]) (h1 := fun _ => [(nu1 0, .cells #[.int .i64 0, .string (ByteArray.mk #[]), .int .i64 0, .slice none 0 0] 47 (0, 0)), (nu2 0, .cells #[.int .i64 K, .string tx, .int .i64 m, .slice none 0 0] 47 (0, 0)), (nu3 0, .cells #[.int .i64 x.o.no, .string x.o.key, .int .i64 x.o.kind, .string x.o.text, .int .i64 x.o.n, .bool x.o.remove, .slice (a1_0, c1_0).fst ((List.map eDot x.o.dots).length) c1_0, .int .i64 x.d.place, .int .i64 x.d.time, .int .i64 x.d.no, .int .i64 x.w] 112 (0, 0))]) (p1 := fun _ => [IntKind.i64.wrap (i + (1 : Int)) = i + (1 : Int)]) (W1 := []) (by kernel_rfl) (fun _ => by kernel_rfl) (fun _ => ⟨wrap_i64 (by omega) (by omega), trivial⟩) (fun _ => ?_)
          refine J_backx ⟨i + 1, tx, m⟩ [4, 5, 6, 8, 9, 29, 30, 31] [0, 1] [] [0, 1, 2, 3] ?_ ?_ (by kernel_rfl) rfl rfl rfl
          · refine ⟨by simp only; omega, by simp only; omega, ?_, ?_⟩
            · dsimp only
              rw [if_neg h1, htx, if_neg h1]
            · dsimp only
              rw [if_neg h2, hm, if_neg h2]
          · simp only
            omega
    · have hil : (ofKey key l).take i.toNat = ofKey key l := List.take_of_length_le (by simp at hlt; omega)
      rw [hil] at htx hm
      refine J_exit rfl ?_
      refine J_seq ?_
      refine J_seq ?_
      refine J_reg mixed [.rd 0 [] 0 0, .rd 1 [] 0 7] [] [4, 5, 6, 9, 53] (E1 := fun _ => [(4, .val (.pointer (some (⟨nu1 0, 0, none⟩)))), (5, .val (.nilIface)), (6, .val (.slice a2 ((ofKey key l).length) c2)), (9, .val (.pointer (some (⟨nu2 0, 0, none⟩)))), (53, .val (.bool false))]) (h1 := fun _ => [(nu1 0, .cells #[.int .i64 0, .string (ByteArray.mk #[]), .int .i64 0, .slice none 0 0] 47 (0, 0)), (nu2 0, .cells #[.int .i64 K, .string tx, .int .i64 m, .slice none 0 0] 47 (0, 0))]) (p1 := fun _ => [(K == (3 : Int)) = false]) (W1 := []) (by kernel_rfl) (fun _ => by kernel_rfl) (fun _ => ⟨by simp; omega, trivial⟩) (fun _ => ?_)
      refine J_cond_f (by kernel_rfl) (by kernel_rfl) ?_
      refine J_skip ?_
      refine J_seq ?_
      refine J_reg mixed [.rd 0 [.o 1 none, .o 1 none, .o 1 none, .o 1 none] 0 0, .wr 1 [.o 0 none, .o 0 none, .o 0 none, .o 0 none] 0, .rd 2 [] 0 0] [(1, [0])] [4, 5] (E1 := fun _ => [(4, .val (.pointer (some (⟨nu1 0, 0, none⟩)))), (5, .val (.nilIface))]) (h1 := fun _ => [(nu1 0, .cells #[.int .i64 K, .string tx, .int .i64 m, .slice none 0 0] 47 (0, 0)), (nu2 0, .cells #[.int .i64 K, .string tx, .int .i64 m, .slice none 0 0] 47 (0, 0))]) (p1 := fun _ => []) (W1 := []) (by kernel_rfl) (fun _ => by kernel_rfl) (fun _ => trivial) (fun _ => ?_)
      refine J_return [[.o 0 none, .o 0 none, .o 0 none, .o 0 none], []] (.tuple #[.agg #[.int .i64 K, .string tx, .int .i64 m, .slice none 0 0], .nilIface]) (by kernel_rfl) (fun a w s => ?_)
      rw [hval, ← htx, ← hm]
      exact .inr ⟨hc, s.ret (by simp) [] [] rfl rfl⟩
end Go.Proofs.YtpjkiomccpjboaaGreatDoor
