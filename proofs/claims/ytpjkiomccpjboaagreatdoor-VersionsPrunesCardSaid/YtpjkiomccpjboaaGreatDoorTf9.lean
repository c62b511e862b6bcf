/- Part 9 of the texts of a claim: OfR Tx17. -/
import Derived.Test.YtpjkiomccpjboaaGreatDoorTf8
section
namespace Go.Proofs.YtpjkiomccpjboaaGreatDoor
open Go Go.Sx
theorem opErr_fine {o : OpT} {p : Int} (h : opErr o p = 0) : nameOk o.key = true ∧ (o.kind = 1 ∨ o.kind = 2 ∨ o.kind = 3) ∧ shapeOk o = true ∧ o.text.size ≤ 60 ∧ -1099511627776 ≤ o.n ∧ o.n ≤ 1099511627776 ∧ o.dots.length ≤ 60 ∧ badDots p o.dots = false := by
 unfold opErr at h
 split at h
 ·cases h
 ·split at h
  ·cases h
  ·rename_i h2
   split at h
   ·cases h
   ·rename_i h3
    split at h
    ·cases h
    ·rename_i h4
     split at h
     ·cases h
     ·rename_i h5
      split at h
      ·cases h
      ·rename_i h6
       exact ⟨by simpa using h2, by omega, by simpa using h4, by omega, by omega, by omega, by omega, by simpa using h6⟩
theorem opsFault_zero {l : List OpT} {p : Int} (h : (opsFault l p l.length 0).code = 0) : ∀ j, j < l.length → opErrAt l p j = 0 := by
 intro j
 induction j using Nat.strongRecOn with
 | ind j ih =>
  intro hj
  rcases Nat.eq_zero_or_pos (opErrAt l p j) with h0 | h0
  ·exact h0
  ·have := (opsFault_from (l := l) (places := p) l.length 0 j (Nat.zero_le _) fun i _ hi => ih i hi (by omega)).2 (by omega) (by omega)
   rw [this] at h
   exact h
theorem right_ops {c : ComT} (h : (comFault c).code = 0) : ∀ o ∈ c.ops, opErr o c.when.length = 0 := fun o ho => by
 have hr := right_of h
 have h1 := opsFault_zero (l := c.ops) (p := c.when.length) (by rw [hr.op]; exact h)
 obtain ⟨j, hj⟩ := List.getElem?_of_mem ho
 have h2 := h1 j (List.getElem?_eq_some_iff.1 hj).1
 rcases Nat.eq_zero_or_pos (opErr o c.when.length) with h0 | h0
 ·exact h0
 ·rw [opErrAt_own hj (by omega)] at h2
  omega
theorem mem_opsOf {key : ByteArray} {l : List ComT} {x : DoneT} (h : x ∈ opsOf key l) : (∃ c ∈ l, ∃ o ∈ c.ops, x = doneOf c o) ∧ x.o.key = key := by
 have h1 : x ∈ opsRaw key l := (List.mergeSort_perm _ _).mem_iff.1 h
 unfold opsRaw at h1
 rw [List.mem_filter] at h1
 obtain ⟨h2, h3⟩ := h1
 obtain ⟨h4, _⟩ := firsts_sub h2
 unfold allDone at h4
 obtain ⟨c, hc, h5⟩ := List.mem_flatMap.1 h4
 obtain ⟨o, ho, rfl⟩ := List.mem_map.1 h5
 exact ⟨⟨c, hc, o, ho, rfl⟩, by simpa using h3⟩
theorem mem_ofKey {key : ByteArray} {l : List ComT} {x : DoneT} (h : x ∈ ofKey key l) : x ∈ opsOf key l := (List.mem_filter.1 h).1
theorem allRight {key : ByteArray} {l : List ComT} (h : (valFault key l).code = 0) : nameOk key = true ∧ ∀ j, j < l.length → comErrAt l j = 0 := by
 unfold valFault at h
 split at h
 ·cases h
 ·rename_i h1
  exact ⟨by simpa using h1, listFault_zero h⟩
theorem right_mem {key : ByteArray} {l : List ComT} (h : (valFault key l).code = 0) {c : ComT} (hc : c ∈ l) : (comFault c).code = 0 := by
 obtain ⟨j, hj⟩ := List.getElem?_of_mem hc
 exact (comErrAt_zero hj ((allRight h).2 j (List.getElem?_eq_some_iff.1 hj).1)).1
theorem fine_mem {key : ByteArray} {l : List ComT} (h : (valFault key l).code = 0) {x : DoneT} (hx : x ∈ opsOf key l) : ∃ p : Nat, opErr x.o p = 0 := by
 obtain ⟨⟨c, hc, o, ho, rfl⟩, _⟩ := mem_opsOf hx
 exact ⟨c.when.length, right_ops (right_mem h hc) o ho⟩
theorem opsOf_len {key : ByteArray} {l : List ComT} (h : (valFault key l).code = 0) : (opsOf key l).length ≤ 12 * l.length := by
 have h1 : (opsOf key l).length = (opsRaw key l).length := (List.mergeSort_perm _ _).length_eq
 have h2 := keyFirst_len key (allDone l)
 have h3 := allDone_len fun c hc => right_of (right_mem h (l := l) hc)
 have h4 : opsRaw key l = keyFirst key (allDone l) := rfl
 rw [h1, h4]
 omega
theorem ofKey_len {key : ByteArray} {l : List ComT} (h : (valFault key l).code = 0) : (ofKey key l).length ≤ 12 * l.length :=
 Nat.le_trans (List.length_filter_le _ _) (opsOf_len h)
theorem lastText_snoc (p : List DoneT) (x : DoneT) : lastText (p ++ [x]) = x.o.text := by simp [lastText]
theorem sumN_snoc (p : List DoneT) (x : DoneT) : sumN (p ++ [x]) = sumN p + x.o.n := by simp [sumN]
theorem sumN_le {p : List DoneT} (h : ∀ x ∈ p, -1099511627776 ≤ x.o.n ∧ x.o.n ≤ 1099511627776) (i : Nat) : -(1099511627776 * i) ≤ sumN (p.take i) ∧ sumN (p.take i) ≤ 1099511627776 * i := by
 induction i with
 | zero => simp [sumN]
 | succ i ih =>
  cases hx : p[i]? with
  | none =>
   rw [List.take_add_one, hx]
   simp only [Option.toList_none, List.append_nil]
   omega
  | some x =>
   rw [List.take_add_one, hx]
   have := h x (List.mem_of_getElem? hx)
   simp only [Option.toList_some, sumN_snoc]
   omega
abbrev valA (v : ValT) (s : Value) : Value := .agg #[.int .i64 v.kind, .string v.text, .int .i64 v.n, s]
abbrev valZ : Value := .agg #[.int .i64 0, .string (ByteArray.mk #[]), .int .i64 0, .slice none 0 0]
structure OfS where
 i : Int
 text : ByteArray
 n : Int
set_option maxHeartbeats 4000000 in
theorem vOfR {w : World} {S : Nat → Prop} {er : Nat → Addr} {eb : Nat → Array Value × TypeId} {a : Option Addr} {n c : Nat} {key : ByteArray} {l : List ComT} (hC : Rep w S .nilIface (dC er eb)) (h : Rep w S (.slice a n c) (.sl 3 (l.map eCom))) (hl : l.length ≤ 300000) (hl1 : ∀ x ∈ l, x.when.length ≤ 1000000) (hl2 : ∀ x ∈ l, x.ops.length ≤ 1000000) (hk3 : kindOf (opsOf key l) ≠ 3) :
  Calls Tryz.prog 21 #[.string key, .slice a n c] w fun e w' => ((valFault key l).code ≠ 0 ∧ FVal w S w' e er (valFault key l) fun v => .tuple #[valZ, v]) ∨ ((valFault key l).code = 0 ∧ Ret [] w S w' e (.tuple #[valA (Sx.valOf key l) (.slice none 0 0), .nilIface]) [] []) := by
 refine ep21 (args := [.string key, .slice a n c]) (G := [(_, dC er eb), (_, .sl 3 (l.map eCom))]) (by kernel_rfl) (.cons hC (.cons h (.nil _ _))) ?_
 refine Sq mixed [.wr 0 [] 0, zR 1] [] [0, 1, 4, 5] (fun nu1 => [zV 0 (.string key), zS 1 a n c, zP 4 (nu1 0), zV 5 .nilIface]) (fun nu1 => [(nu1 0, .cells #[nI 0, .string (ByteArray.mk #[]), nI 0, .slice none 0 0] 47 (0, 0))]) (fun nu1 => ?_)
 refine J_seq ?_
 refine jB mixed [(0, true), (1, true), (2, false), (3, true), (4, true), (5, true), (6, true), (7, true)] [] ?_
 refine Gr (id := 1) (rest := [(2, false), (3, true), (4, true), (5, true), (6, true), (7, true)]) [zR 0, zR 1] [4, 5, 13, 14] (fun _ => [zP 4 (nu1 0), zV 5 .nilIface, zV 13 (.string key), zS 14 a n c]) (fun _ => [(nu1 0, .cells #[nI 0, .string (ByteArray.mk #[]), nI 0, .slice none 0 0] 47 (0, 0))]) (fun _ => ?_)
 refine JR_callp [] 61 #[.string key, .slice a n c] (some 15) (by kernel_rfl) (fun w S hG => ?_)
 refine (vOps (hG.at 0 rfl) (hG.at 1 rfl) hl hl1 hl2).mono ?_
 rintro e1 w1 (⟨hc, ⟨hat, v, hR, hv⟩ | ⟨hc1, hat, pb, hR⟩⟩ | ⟨hc, a1, n1, c1, hR⟩)
 ·refine ⟨_, _, _, hR, ?_⟩
  rcases hv with ⟨hv0, rfl⟩ | ⟨hv0, rfl⟩
  ·exact absurd hv0 hc
  ·try simp only [List.cons_append, List.nil_append, List.append_nil]
   refine Gr (id := 1) (rest := []) [zR 3, zR 4, zR 5, zR 6, zR 7] [4, 5, 6, 7] (fun _ => [zP 4 (nu1 0), zV 5 .nilIface, zS 6 none 0 0, zV 7 (.iface 243 (.pointer (some (er (valFault key l).code))))]) (fun _ => [(nu1 0, .cells #[nI 0, .string (ByteArray.mk #[]), nI 0, .slice none 0 0] 47 (0, 0))]) (fun _ => ?_)
   refine JR_end ?_
   refine J_seq ?_
   refine Sq mixed [zR 0, zR 1] [] [4, 5, 6, 7, 19] (fun _ => [zP 4 (nu1 0), zV 5 .nilIface, zS 6 none 0 0, zV 7 (.iface 243 (.pointer (some (er (valFault key l).code)))), zB 19 true]) (fun _ => [(nu1 0, .cells #[nI 0, .string (ByteArray.mk #[]), nI 0, .slice none 0 0] 47 (0, 0))]) (fun _ => ?_)
   refine cTt ?_
   refine Sq mixed [zR 0, zR 1, .wr 2 [.o 0 none, .o 0 none, .o 0 none, .o 0 none] 0, zR 3] [(2, [0])] [4, 5, 6] (fun _ => [zP 4 (nu1 0), zV 5 (.iface 243 (.pointer (some (er (valFault key l).code)))), zS 6 none 0 0]) (fun _ => [(nu1 0, .cells #[nI 0, .string (ByteArray.mk #[]), nI 0, .slice none 0 0] 47 (0, 0))]) (fun _ => ?_)
   refine J_return [[.o 0 none, .o 0 none, .o 0 none, .o 0 none], []] (.tuple #[.agg #[.int .i64 0, .string (ByteArray.mk #[]), .int .i64 0, .slice none 0 0], .iface 243 (.pointer (some (er (valFault key l).code)))]) (by kernel_rfl) (fun a w s => ?_)
   exact .inl ⟨hc, .inl ⟨hat, _, s.ret (by simp) [] [] rfl rfl, .inr ⟨hv0, rfl⟩⟩⟩
 ·refine ⟨_, _, _, hR, ?_⟩
  try simp only [cAp, nAp, aNl]
  refine Gr (id := 1) (rest := []) [zR 3, zR 4, zR 5, zR 6, zR 7] [4, 5, 6, 7] (fun _ => [zP 4 (nu1 0), zV 5 .nilIface, zS 6 none 0 0, zV 7 (.iface 102 (.pointer (sA pb 0)))]) (fun _ => [(nu1 0, .cells #[nI 0, .string (ByteArray.mk #[]), nI 0, .slice none 0 0] 47 (0, 0))]) (fun _ => ?_)
  refine JR_end ?_
  refine J_seq ?_
  refine Sq mixed [zR 0, zR 1] [] [4, 5, 6, 7, 19] (fun _ => [zP 4 (nu1 0), zV 5 .nilIface, zS 6 none 0 0, zV 7 (.iface 102 (.pointer (sA pb 0))), zB 19 true]) (fun _ => [(nu1 0, .cells #[nI 0, .string (ByteArray.mk #[]), nI 0, .slice none 0 0] 47 (0, 0))]) (fun _ => ?_)
  refine cTt ?_
  refine Sq mixed [zR 0, zR 1, .wr 2 [.o 0 none, .o 0 none, .o 0 none, .o 0 none] 0, zR 3] [(2, [0])] [4, 5, 6] (fun _ => [zP 4 (nu1 0), zV 5 (.iface 102 (.pointer (sA pb 0))), zS 6 none 0 0]) (fun _ => [(nu1 0, .cells #[nI 0, .string (ByteArray.mk #[]), nI 0, .slice none 0 0] 47 (0, 0))]) (fun _ => ?_)
  refine J_return [[.o 0 none, .o 0 none, .o 0 none, .o 0 none], []] (.tuple #[.agg #[.int .i64 0, .string (ByteArray.mk #[]), .int .i64 0, .slice none 0 0], .iface 102 (.pointer (some (⟨pb, 0, none⟩)))]) (by kernel_rfl) (fun a w s => ?_)
  exact .inl ⟨hc, .inr ⟨hc1, hat, _, s.ret (by simp) [] [2] rfl rfl⟩⟩
 ·refine ⟨_, _, _, hR, ?_⟩
  have hlo := opsOf_len hc
  have hlk := ofKey_len hc
  have hfin : ∀ x ∈ ofKey key l, -1099511627776 ≤ x.o.n ∧ x.o.n ≤ 1099511627776 := fun x hx => by
   obtain ⟨p, hp⟩ := fine_mem hc (mem_ofKey hx)
   have := opErr_fine hp
   omega
  try simp only [cAp, nAp, aNl]
  refine Gr (id := 1) (rest := []) [zR 3, zR 4, zR 5, zR 6, zR 7] [4, 5, 6, 7] (fun _ => [zP 4 (nu1 0), zV 5 .nilIface, zS 6 a1 n1 c1, zV 7 .nilIface]) (fun _ => [(nu1 0, .cells #[nI 0, .string (ByteArray.mk #[]), nI 0, .slice none 0 0] 47 (0, 0))]) (fun _ => ?_)
  refine JR_end ?_
  refine J_seq ?_
  refine Sq mixed [zR 0, zR 1] [] [4, 5, 6, 7, 19] (fun _ => [zP 4 (nu1 0), zV 5 .nilIface, zS 6 a1 n1 c1, zV 7 .nilIface, zB 19 false]) (fun _ => [(nu1 0, .cells #[nI 0, .string (ByteArray.mk #[]), nI 0, .slice none 0 0] 47 (0, 0))]) (fun _ => ?_)
  refine cF ?_
  refine J_skip ?_
  refine J_seq ?_
  refine jB mixed [(0, true), (1, false), (2, true), (3, true), (4, true), (5, true), (6, true)] [] ?_
  refine Gr (id := 4) (rest := [(1, false), (2, true), (3, true), (4, true), (5, true), (6, true)]) [zR 0] [4, 5, 6, 23] (fun _ => [zP 4 (nu1 0), zV 5 .nilIface, zS 6 a1 n1 c1, zS 23 a1 n1 c1]) (fun _ => [(nu1 0, .cells #[nI 0, .string (ByteArray.mk #[]), nI 0, .slice none 0 0] 47 (0, 0))]) (fun _ => ?_)
  refine JR_callp [] 62 #[.slice a1 n1 c1] (some 24) (by kernel_rfl) (fun w S hG => ?_)
  refine (vKind (hG.at 2 rfl) (by omega)).mono ?_
  rintro e2 w2 ⟨a2, n2, c2, hR⟩
  refine ⟨_, _, _, hR, ?_⟩
  try simp only [cAp, nAp, aNl]
  refine Gr (id := 4) (rest := []) [zR 2, zR 3, zR 4, zR 5, zR 6] [4, 5, 6, 8] (fun _ => [zP 4 (nu1 0), zV 5 .nilIface, zS 6 a2 n2 c2, zI 8 (kindOf (opsOf key l))]) (fun _ => [(nu1 0, .cells #[nI 0, .string (ByteArray.mk #[]), nI 0, .slice none 0 0] 47 (0, 0))]) (fun _ => ?_)
  refine JR_end ?_
  refine Sq mixed [zR 0, zR 1, .wr 2 [] 0, .wr 3 [.o 1 none, .o 1 none, .o 1 none, .o 1 none] 0] [(3, [])] [4, 5, 6, 8, 9] (fun nu2 => [zP 4 (nu1 0), zV 5 .nilIface, zS 6 a2 n2 c2, zI 8 (kindOf (opsOf key l)), zP 9 (nu2 0)]) (fun nu2 => [(nu1 0, .cells #[nI 0, .string (ByteArray.mk #[]), nI 0, .slice none 0 0] 47 (0, 0)), (nu2 0, .cells #[nI (kindOf (opsOf key l)), .string (ByteArray.mk #[]), nI 0, .slice none 0 0] 47 (0, 0))]) (fun nu2 => ?_)
  refine J_seq ?_
  refine Sq mixed [zR 0, zR 1, zR 2] [] [4, 5, 6, 8, 9, 29, 30, 31] (fun _ => [zP 4 (nu1 0), zV 5 .nilIface, zS 6 a2 n2 c2, zI 8 (kindOf (opsOf key l)), zP 9 (nu2 0), zS 29 a2 n2 c2, zI 30 (↑n2 : Int), zI 31 0]) (fun _ => [(nu1 0, .cells #[nI 0, .string (ByteArray.mk #[]), nI 0, .slice none 0 0] 47 (0, 0)), (nu2 0, .cells #[nI (kindOf (opsOf key l)), .string (ByteArray.mk #[]), nI 0, .slice none 0 0] 47 (0, 0))]) (fun _ => ?_)
  refine J_block ?_
  refine J_stpx (stp_replen 3 rfl) fun _ hn2 => ?_
  rw [List.length_map] at hn2
  have hn3 : n2 = (ofKey key l).length := hn2
  subst hn3
  have hA : kindL (opsOf key l) = ofKey key l := rfl
  rw [hA]
  clear hn2
  generalize hK : kindOf (opsOf key l) = K at hk3
  have hval : Sx.valOf key l = ⟨K, if K = 1 then lastText (ofKey key l) else ByteArray.mk #[], if K = 2 then sumN (ofKey key l) else 0, []⟩ := by
   simp only [Sx.valOf, hK, if_neg hk3]
  refine J_loopx (fun y : OfS => [zP 4 (nu1 0), zV 5 .nilIface, zS 6 a2 ((ofKey key l).length) c2, zI 8 K, zP 9 (nu2 0), zS 29 a2 ((ofKey key l).length) c2, zI 30 ((↑(ofKey key l).length : Int)), zI 31 y.i]) (fun y : OfS => [(nu1 0, .cells #[nI 0, .string (ByteArray.mk #[]), nI 0, .slice none 0 0] 47 (0, 0)), (nu2 0, .cells #[nI K, .string y.text, nI y.n, .slice none 0 0] 47 (0, 0))]) (fun y : OfS => []) (fun y : OfS => [(.nilIface, (dC er eb)), (.slice a n c, (D.sl 3 (List.map eCom l))), (.slice a1 n1 c1, (D.sl 11 (List.map eDone (opsOf key l)))), (.slice a2 ((ofKey key l).length) c2, (D.sl 11 (List.map eDone (ofKey key l))))]) (fun y : OfS => ((ofKey key l).length - y.i).toNat) (fun y : OfS => (0 ≤ y.i ∧ y.i ≤ (ofKey key l).length ∧ y.text = (if K = 1 then lastText ((ofKey key l).take y.i.toNat) else ByteArray.mk #[]) ∧ y.n = (if K = 2 then sumN ((ofKey key l).take y.i.toNat) else 0))) ⟨0, ByteArray.mk #[], 0⟩ [4, 5, 6, 8, 9, 29, 30, 31] [0, 1] [] [0, 1, 2, 3] ?_ (by kernel_rfl) rfl rfl rfl ?_
  ·exact ⟨by simp, by simp, by split <;> rfl, by split <;> rfl⟩
  rintro ⟨i, tx, m⟩ ⟨hi0, hi, htx, hm⟩
  dsimp only at hi0 hi htx hm ⊢
  refine Sq mixed [zR 0] [] [4, 5, 6, 8, 9, 29, 30, 31, 32] (fun _ => [zP 4 (nu1 0), zV 5 .nilIface, zS 6 a2 ((ofKey key l).length) c2, zI 8 K, zP 9 (nu2 0), zS 29 a2 ((ofKey key l).length) c2, zI 30 ((↑(ofKey key l).length : Int)), zI 31 i, zB 32 (decide (i < (↑(ofKey key l).length : Int)))]) (fun _ => [(nu1 0, .cells #[nI 0, .string (ByteArray.mk #[]), nI 0, .slice none 0 0] 47 (0, 0)), (nu2 0, .cells #[nI K, .string tx, nI m, .slice none 0 0] 47 (0, 0))]) (fun _ => ?_)
  refine J_seq ?_
  refine cC (t := decide (i < (↑(ofKey key l).length : Int))) (fun hlt => ?_) (fun hlt => ?_)
  ·have hlt2 : i < (ofKey key l).length := by simpa using hlt
   obtain ⟨x, hx⟩ : ∃ x, (ofKey key l)[i.toNat]? = some x := ⟨_, List.getElem?_eq_getElem (by omega)⟩
   have hxn := hfin x (List.mem_of_getElem? hx)
   have hs := sumN_le hfin i.toNat
   refine J_read1 3 rfl i.toNat (map_at hx) (by kernel_rfl) (fun b1 off1 cs1 ty1 fz1 a1_0 c1_0 ha1 hrd1 => ?_)
   cases ha1
   have hrd1_0 := rd0 (hrd1 0 _ rfl)
   have hrd1_1 := hrd1 1 _ rfl
   have hrd1_2 := hrd1 2 _ rfl
   have hrd1_3 := hrd1 3 _ rfl
   have hrd1_4 := hrd1 4 _ rfl
   have hrd1_5 := hrd1 5 _ rfl
   have hrd1_6 := hrd1 6 _ rfl
   have hrd1_7 := hrd1 7 _ rfl
   have hrd1_8 := hrd1 8 _ rfl
   have hrd1_9 := hrd1 9 _ rfl
   have hrd1_10 := hrd1 10 _ rfl
   by_cases h1 : K = 1
   ·have h2 : ¬ K = 2 := by omega
    rw [if_neg h2] at hm
    try simp only [cAp, nAp, aNl]
    refine J_skip ?_
    refine J_seq ?_
    refine J_block ?_
    refine Sp mixed [.rd 0 [] 0 2, .rd 1 [.r 0 (some (nI x.o.no)), .r 0 (some (.string x.o.key)), .r 0 (some (nI x.o.kind)), .r 0 (some (.string x.o.text)), .r 0 (some (nI x.o.n)), .r 0 (some (.bool x.o.remove)), .r 0 (some (.slice (a1_0, c1_0).fst ((List.map eDot x.o.dots).length) c1_0)), .r 0 (some (nI x.d.place)), .r 0 (some (nI x.d.time)), .r 0 (some (nI x.d.no)), .r 0 (some (nI x.w))] 0 0, .wr 2 [] 0, .wr 3 [.o 2 none, .o 2 none, .o 2 none, .o 2 none, .o 2 none, .o 2 none, .o 2 none, .o 2 none, .o 2 none, .o 2 none, .o 2 none] 0] [(3, [])] [4, 5, 6, 8, 9, 11, 29, 30, 31] (fun nu3 => [zP 4 (nu1 0), zV 5 .nilIface, zS 6 (sA b1 off1) ((ofKey key l).length) c2, zI 8 K, zP 9 (nu2 0), zP 11 (nu3 0), zS 29 (sA b1 off1) ((ofKey key l).length) c2, zI 30 ((↑(ofKey key l).length : Int)), zI 31 i]) (fun nu3 => [(nu1 0, .cells #[nI 0, .string (ByteArray.mk #[]), nI 0, .slice none 0 0] 47 (0, 0)), (nu2 0, .cells #[nI K, .string tx, nI m, .slice none 0 0] 47 (0, 0)), (nu3 0, .cells #[nI x.o.no, .string x.o.key, nI x.o.kind, .string x.o.text, nI x.o.n, .bool x.o.remove, .slice (a1_0, c1_0).fst ((List.map eDot x.o.dots).length) c1_0, nI x.d.place, nI x.d.time, nI x.d.no, nI x.w] 112 (0, 0))]) (fun nu3 => [(0 : Int) ≤ i, i < (↑(ofKey key l).length : Int), cs1[off1 + i.toNat * (11 : Nat)]? = some (nI x.o.no), cs1[off1 + i.toNat * (11 : Nat) + (1 : Nat)]? = some (Value.string x.o.key), cs1[off1 + i.toNat * (11 : Nat) + (2 : Nat)]? = some (nI x.o.kind), cs1[off1 + i.toNat * (11 : Nat) + (3 : Nat)]? = some (Value.string x.o.text), cs1[off1 + i.toNat * (11 : Nat) + (4 : Nat)]? = some (nI x.o.n), cs1[off1 + i.toNat * (11 : Nat) + (5 : Nat)]? = some (Value.bool x.o.remove), cs1[off1 + i.toNat * (11 : Nat) + (6 : Nat)]? = some (Value.slice (a1_0, c1_0).fst (List.map eDot x.o.dots).length (a1_0, c1_0).snd), cs1[off1 + i.toNat * (11 : Nat) + (7 : Nat)]? = some (nI x.d.place), cs1[off1 + i.toNat * (11 : Nat) + (8 : Nat)]? = some (nI x.d.time), cs1[off1 + i.toNat * (11 : Nat) + (9 : Nat)]? = some (nI x.d.no), cs1[off1 + i.toNat * (11 : Nat) + (10 : Nat)]? = some (nI x.w)]) (fun _ => ⟨hi0, hlt2, hrd1_0, hrd1_1, hrd1_2, hrd1_3, hrd1_4, hrd1_5, hrd1_6, hrd1_7, hrd1_8, hrd1_9, hrd1_10, trivial⟩) (fun nu3 => ?_)
    refine Sq mixed [zR 0] [] [4, 5, 6, 8, 9, 11, 29, 30, 31, 35] (fun _ => [zP 4 (nu1 0), zV 5 .nilIface, zS 6 (sA b1 off1) ((ofKey key l).length) c2, zI 8 K, zP 9 (nu2 0), zP 11 (nu3 0), zS 29 (sA b1 off1) ((ofKey key l).length) c2, zI 30 ((↑(ofKey key l).length : Int)), zI 31 i, zI 35 K]) (fun _ => [(nu1 0, .cells #[nI 0, .string (ByteArray.mk #[]), nI 0, .slice none 0 0] 47 (0, 0)), (nu2 0, .cells #[nI K, .string tx, nI m, .slice none 0 0] 47 (0, 0)), (nu3 0, .cells #[nI x.o.no, .string x.o.key, nI x.o.kind, .string x.o.text, nI x.o.n, .bool x.o.remove, .slice (a1_0, c1_0).fst ((List.map eDot x.o.dots).length) c1_0, nI x.d.place, nI x.d.time, nI x.d.no, nI x.w] 112 (0, 0))]) (fun _ => ?_)
    refine J_block ?_
    refine Sp mixed [.rd 0 [] 0 6, zR 1] [] [4, 5, 6, 8, 9, 11, 29, 30, 31, 35, 36] (fun _ => [zP 4 (nu1 0), zV 5 .nilIface, zS 6 (sA b1 off1) ((ofKey key l).length) c2, zI 8 K, zP 9 (nu2 0), zP 11 (nu3 0), zS 29 (sA b1 off1) ((ofKey key l).length) c2, zI 30 ((↑(ofKey key l).length : Int)), zI 31 i, zI 35 K, zB 36 true]) (fun _ => [(nu1 0, .cells #[nI 0, .string (ByteArray.mk #[]), nI 0, .slice none 0 0] 47 (0, 0)), (nu2 0, .cells #[nI K, .string tx, nI m, .slice none 0 0] 47 (0, 0)), (nu3 0, .cells #[nI x.o.no, .string x.o.key, nI x.o.kind, .string x.o.text, nI x.o.n, .bool x.o.remove, .slice (a1_0, c1_0).fst ((List.map eDot x.o.dots).length) c1_0, nI x.d.place, nI x.d.time, nI x.d.no, nI x.w] 112 (0, 0))]) (fun _ => [(K == (1 : Int)) = true]) (fun _ => ⟨by simp; omega, trivial⟩) (fun _ => ?_)
    refine cTt ?_
    refine Gq mixed [zR 0, zR 1, .rd 2 [.o 2 none] 0 0, zR 3, .wr 4 [.o 1 none] 0] [(4, [1])] [4, 5, 6, 8, 9, 11, 29, 30, 31, 35] (fun _ => [zP 4 (nu1 0), zV 5 .nilIface, zS 6 (sA b1 off1) ((ofKey key l).length) c2, zI 8 K, zP 9 (nu2 0), zP 11 (nu3 0), zS 29 (sA b1 off1) ((ofKey key l).length) c2, zI 30 ((↑(ofKey key l).length : Int)), zI 31 i, zI 35 K]) (fun _ => [(nu1 0, .cells #[nI 0, .string (ByteArray.mk #[]), nI 0, .slice none 0 0] 47 (0, 0)), (nu2 0, .cells #[nI K, .string x.o.text, nI m, .slice none 0 0] 47 (0, 0)), (nu3 0, .cells #[nI x.o.no, .string x.o.key, nI x.o.kind, .string x.o.text, nI x.o.n, .bool x.o.remove, .slice (a1_0, c1_0).fst ((List.map eDot x.o.dots).length) c1_0, nI x.d.place, nI x.d.time, nI x.d.no, nI x.w] 112 (0, 0))]) (fun _ => ?_)
    refine J_eb ?_
    refine J_eb ?_
    refine Gp mixed [.rd 0 [] 0 1, zR 1] [] [4, 5, 6, 8, 9, 11, 29, 30, 31, 35] (fun _ => [zP 4 (nu1 0), zV 5 .nilIface, zS 6 (sA b1 off1) ((ofKey key l).length) c2, zI 8 K, zP 9 (nu2 0), zP 11 (nu3 0), zS 29 (sA b1 off1) ((ofKey key l).length) c2, zI 30 ((↑(ofKey key l).length : Int)), zI 31 (i + 1), zI 35 K]) (fun _ => [(nu1 0, .cells #[nI 0, .string (ByteArray.mk #[]), nI 0, .slice none 0 0] 47 (0, 0)), (nu2 0, .cells #[nI K, .string x.o.text, nI m, .slice none 0 0] 47 (0, 0)), (nu3 0, .cells #[nI x.o.no, .string x.o.key, nI x.o.kind, .string x.o.text, nI x.o.n, .bool x.o.remove, .slice (a1_0, c1_0).fst ((List.map eDot x.o.dots).length) c1_0, nI x.d.place, nI x.d.time, nI x.d.no, nI x.w] 112 (0, 0))]) (fun _ => [IntKind.i64.wrap (i + (1 : Int)) = i + (1 : Int)]) (fun _ => ⟨wrap_i64 (by omega) (by omega), trivial⟩) (fun _ => ?_)
    refine J_backx ⟨i + 1, x.o.text, m⟩ [4, 5, 6, 8, 9, 29, 30, 31] [0, 1] [] [0, 1, 2, 3] ?_ ?_ (by kernel_rfl) rfl rfl rfl
    ·refine ⟨by simp only; omega, by simp only; omega, ?_, ?_⟩
     ·dsimp only
      rw [if_pos h1, ← take_snoc hi0 hx, lastText_snoc]
     ·dsimp only
      rw [if_neg h2, hm]
    ·simp only
     omega
   ·by_cases h2 : K = 2
    ·rw [if_pos h2] at hm
     have hmb : -9223372036854775808 ≤ m + x.o.n ∧ m + x.o.n ≤ 9223372036854775807 := by omega
     try simp only [cAp, nAp, aNl]
     refine J_skip ?_
     refine J_seq ?_
     refine J_block ?_
     refine Sp mixed [.rd 0 [] 0 2, .rd 1 [.r 0 (some (nI x.o.no)), .r 0 (some (.string x.o.key)), .r 0 (some (nI x.o.kind)), .r 0 (some (.string x.o.text)), .r 0 (some (nI x.o.n)), .r 0 (some (.bool x.o.remove)), .r 0 (some (.slice (a1_0, c1_0).fst ((List.map eDot x.o.dots).length) c1_0)), .r 0 (some (nI x.d.place)), .r 0 (some (nI x.d.time)), .r 0 (some (nI x.d.no)), .r 0 (some (nI x.w))] 0 0, .wr 2 [] 0, .wr 3 [.o 2 none, .o 2 none, .o 2 none, .o 2 none, .o 2 none, .o 2 none, .o 2 none, .o 2 none, .o 2 none, .o 2 none, .o 2 none] 0] [(3, [])] [4, 5, 6, 8, 9, 11, 29, 30, 31] (fun nu3 => [zP 4 (nu1 0), zV 5 .nilIface, zS 6 (sA b1 off1) ((ofKey key l).length) c2, zI 8 K, zP 9 (nu2 0), zP 11 (nu3 0), zS 29 (sA b1 off1) ((ofKey key l).length) c2, zI 30 ((↑(ofKey key l).length : Int)), zI 31 i]) (fun nu3 => [(nu1 0, .cells #[nI 0, .string (ByteArray.mk #[]), nI 0, .slice none 0 0] 47 (0, 0)), (nu2 0, .cells #[nI K, .string tx, nI m, .slice none 0 0] 47 (0, 0)), (nu3 0, .cells #[nI x.o.no, .string x.o.key, nI x.o.kind, .string x.o.text, nI x.o.n, .bool x.o.remove, .slice (a1_0, c1_0).fst ((List.map eDot x.o.dots).length) c1_0, nI x.d.place, nI x.d.time, nI x.d.no, nI x.w] 112 (0, 0))]) (fun nu3 => [(0 : Int) ≤ i, i < (↑(ofKey key l).length : Int), cs1[off1 + i.toNat * (11 : Nat)]? = some (nI x.o.no), cs1[off1 + i.toNat * (11 : Nat) + (1 : Nat)]? = some (Value.string x.o.key), cs1[off1 + i.toNat * (11 : Nat) + (2 : Nat)]? = some (nI x.o.kind), cs1[off1 + i.toNat * (11 : Nat) + (3 : Nat)]? = some (Value.string x.o.text), cs1[off1 + i.toNat * (11 : Nat) + (4 : Nat)]? = some (nI x.o.n), cs1[off1 + i.toNat * (11 : Nat) + (5 : Nat)]? = some (Value.bool x.o.remove), cs1[off1 + i.toNat * (11 : Nat) + (6 : Nat)]? = some (Value.slice (a1_0, c1_0).fst (List.map eDot x.o.dots).length (a1_0, c1_0).snd), cs1[off1 + i.toNat * (11 : Nat) + (7 : Nat)]? = some (nI x.d.place), cs1[off1 + i.toNat * (11 : Nat) + (8 : Nat)]? = some (nI x.d.time), cs1[off1 + i.toNat * (11 : Nat) + (9 : Nat)]? = some (nI x.d.no), cs1[off1 + i.toNat * (11 : Nat) + (10 : Nat)]? = some (nI x.w)]) (fun _ => ⟨hi0, hlt2, hrd1_0, hrd1_1, hrd1_2, hrd1_3, hrd1_4, hrd1_5, hrd1_6, hrd1_7, hrd1_8, hrd1_9, hrd1_10, trivial⟩) (fun nu3 => ?_)
     refine Sq mixed [zR 0] [] [4, 5, 6, 8, 9, 11, 29, 30, 31, 35] (fun _ => [zP 4 (nu1 0), zV 5 .nilIface, zS 6 (sA b1 off1) ((ofKey key l).length) c2, zI 8 K, zP 9 (nu2 0), zP 11 (nu3 0), zS 29 (sA b1 off1) ((ofKey key l).length) c2, zI 30 ((↑(ofKey key l).length : Int)), zI 31 i, zI 35 K]) (fun _ => [(nu1 0, .cells #[nI 0, .string (ByteArray.mk #[]), nI 0, .slice none 0 0] 47 (0, 0)), (nu2 0, .cells #[nI K, .string tx, nI m, .slice none 0 0] 47 (0, 0)), (nu3 0, .cells #[nI x.o.no, .string x.o.key, nI x.o.kind, .string x.o.text, nI x.o.n, .bool x.o.remove, .slice (a1_0, c1_0).fst ((List.map eDot x.o.dots).length) c1_0, nI x.d.place, nI x.d.time, nI x.d.no, nI x.w] 112 (0, 0))]) (fun _ => ?_)
     refine J_block ?_
     refine Sp mixed [.rd 0 [] 0 7, zR 1] [] [4, 5, 6, 8, 9, 11, 29, 30, 31, 35, 36] (fun _ => [zP 4 (nu1 0), zV 5 .nilIface, zS 6 (sA b1 off1) ((ofKey key l).length) c2, zI 8 K, zP 9 (nu2 0), zP 11 (nu3 0), zS 29 (sA b1 off1) ((ofKey key l).length) c2, zI 30 ((↑(ofKey key l).length : Int)), zI 31 i, zI 35 K, zB 36 false]) (fun _ => [(nu1 0, .cells #[nI 0, .string (ByteArray.mk #[]), nI 0, .slice none 0 0] 47 (0, 0)), (nu2 0, .cells #[nI K, .string tx, nI m, .slice none 0 0] 47 (0, 0)), (nu3 0, .cells #[nI x.o.no, .string x.o.key, nI x.o.kind, .string x.o.text, nI x.o.n, .bool x.o.remove, .slice (a1_0, c1_0).fst ((List.map eDot x.o.dots).length) c1_0, nI x.d.place, nI x.d.time, nI x.d.no, nI x.w] 112 (0, 0))]) (fun _ => [(K == (1 : Int)) = false]) (fun _ => ⟨by simp; omega, trivial⟩) (fun _ => ?_)
     refine cF ?_
     refine Sp mixed [.rd 0 [] 0 6, zR 1] [] [4, 5, 6, 8, 9, 11, 29, 30, 31, 35, 42] (fun _ => [zP 4 (nu1 0), zV 5 .nilIface, zS 6 (sA b1 off1) ((ofKey key l).length) c2, zI 8 K, zP 9 (nu2 0), zP 11 (nu3 0), zS 29 (sA b1 off1) ((ofKey key l).length) c2, zI 30 ((↑(ofKey key l).length : Int)), zI 31 i, zI 35 K, zB 42 true]) (fun _ => [(nu1 0, .cells #[nI 0, .string (ByteArray.mk #[]), nI 0, .slice none 0 0] 47 (0, 0)), (nu2 0, .cells #[nI K, .string tx, nI m, .slice none 0 0] 47 (0, 0)), (nu3 0, .cells #[nI x.o.no, .string x.o.key, nI x.o.kind, .string x.o.text, nI x.o.n, .bool x.o.remove, .slice (a1_0, c1_0).fst ((List.map eDot x.o.dots).length) c1_0, nI x.d.place, nI x.d.time, nI x.d.no, nI x.w] 112 (0, 0))]) (fun _ => [(K == (2 : Int)) = true]) (fun _ => ⟨by simp; omega, trivial⟩) (fun _ => ?_)
     refine cTt ?_
     refine Gp mixed [zR 0, .rd 1 [.o 1 none] 0 0, zR 2, zR 3, .rd 4 [.o 2 none] 0 0, .rd 5 [] 0 1, zR 6, .wr 7 [.o 1 none] 0] [(7, [1])] [4, 5, 6, 8, 9, 11, 29, 30, 31, 35] (fun _ => [zP 4 (nu1 0), zV 5 .nilIface, zS 6 (sA b1 off1) ((ofKey key l).length) c2, zI 8 K, zP 9 (nu2 0), zP 11 (nu3 0), zS 29 (sA b1 off1) ((ofKey key l).length) c2, zI 30 ((↑(ofKey key l).length : Int)), zI 31 i, zI 35 K]) (fun _ => [(nu1 0, .cells #[nI 0, .string (ByteArray.mk #[]), nI 0, .slice none 0 0] 47 (0, 0)), (nu2 0, .cells #[nI K, .string tx, nI (m + x.o.n), .slice none 0 0] 47 (0, 0)), (nu3 0, .cells #[nI x.o.no, .string x.o.key, nI x.o.kind, .string x.o.text, nI x.o.n, .bool x.o.remove, .slice (a1_0, c1_0).fst ((List.map eDot x.o.dots).length) c1_0, nI x.d.place, nI x.d.time, nI x.d.no, nI x.w] 112 (0, 0))]) (fun _ => [IntKind.i64.wrap (m + x.o.n) = m + x.o.n]) (fun _ => ⟨wrap_i64 (by omega) (by omega), trivial⟩) (fun _ => ?_)
     refine J_eb ?_
     refine J_eb ?_
     refine Gp mixed [.rd 0 [] 0 1, zR 1] [] [4, 5, 6, 8, 9, 11, 29, 30, 31, 35] (fun _ => [zP 4 (nu1 0), zV 5 .nilIface, zS 6 (sA b1 off1) ((ofKey key l).length) c2, zI 8 K, zP 9 (nu2 0), zP 11 (nu3 0), zS 29 (sA b1 off1) ((ofKey key l).length) c2, zI 30 ((↑(ofKey key l).length : Int)), zI 31 (i + 1), zI 35 K]) (fun _ => [(nu1 0, .cells #[nI 0, .string (ByteArray.mk #[]), nI 0, .slice none 0 0] 47 (0, 0)), (nu2 0, .cells #[nI K, .string tx, nI (m + x.o.n), .slice none 0 0] 47 (0, 0)), (nu3 0, .cells #[nI x.o.no, .string x.o.key, nI x.o.kind, .string x.o.text, nI x.o.n, .bool x.o.remove, .slice (a1_0, c1_0).fst ((List.map eDot x.o.dots).length) c1_0, nI x.d.place, nI x.d.time, nI x.d.no, nI x.w] 112 (0, 0))]) (fun _ => [IntKind.i64.wrap (i + (1 : Int)) = i + (1 : Int)]) (fun _ => ⟨wrap_i64 (by omega) (by omega), trivial⟩) (fun _ => ?_)
     refine J_backx ⟨i + 1, tx, m + x.o.n⟩ [4, 5, 6, 8, 9, 29, 30, 31] [0, 1] [] [0, 1, 2, 3] ?_ ?_ (by kernel_rfl) rfl rfl rfl
     ·refine ⟨by simp only; omega, by simp only; omega, ?_, ?_⟩
      ·dsimp only
       rw [if_neg h1, htx, if_neg h1]
      ·dsimp only
       rw [if_pos h2, ← take_snoc hi0 hx, sumN_snoc, hm]
     ·simp only
      omega
    ·try simp only [List.cons_append, List.nil_append, List.append_nil]
     refine J_skip ?_
     refine J_seq ?_
     refine J_block ?_
     refine Sp mixed [.rd 0 [] 0 2, .rd 1 [.r 0 (some (nI x.o.no)), .r 0 (some (.string x.o.key)), .r 0 (some (nI x.o.kind)), .r 0 (some (.string x.o.text)), .r 0 (some (nI x.o.n)), .r 0 (some (.bool x.o.remove)), .r 0 (some (.slice (a1_0, c1_0).fst ((List.map eDot x.o.dots).length) c1_0)), .r 0 (some (nI x.d.place)), .r 0 (some (nI x.d.time)), .r 0 (some (nI x.d.no)), .r 0 (some (nI x.w))] 0 0, .wr 2 [] 0, .wr 3 [.o 2 none, .o 2 none, .o 2 none, .o 2 none, .o 2 none, .o 2 none, .o 2 none, .o 2 none, .o 2 none, .o 2 none, .o 2 none] 0] [(3, [])] [4, 5, 6, 8, 9, 11, 29, 30, 31] (fun nu3 => [zP 4 (nu1 0), zV 5 .nilIface, zS 6 (sA b1 off1) ((ofKey key l).length) c2, zI 8 K, zP 9 (nu2 0), zP 11 (nu3 0), zS 29 (sA b1 off1) ((ofKey key l).length) c2, zI 30 ((↑(ofKey key l).length : Int)), zI 31 i]) (fun nu3 => [(nu1 0, .cells #[nI 0, .string (ByteArray.mk #[]), nI 0, .slice none 0 0] 47 (0, 0)), (nu2 0, .cells #[nI K, .string tx, nI m, .slice none 0 0] 47 (0, 0)), (nu3 0, .cells #[nI x.o.no, .string x.o.key, nI x.o.kind, .string x.o.text, nI x.o.n, .bool x.o.remove, .slice (a1_0, c1_0).fst ((List.map eDot x.o.dots).length) c1_0, nI x.d.place, nI x.d.time, nI x.d.no, nI x.w] 112 (0, 0))]) (fun nu3 => [(0 : Int) ≤ i, i < (↑(ofKey key l).length : Int), cs1[off1 + i.toNat * (11 : Nat)]? = some (nI x.o.no), cs1[off1 + i.toNat * (11 : Nat) + (1 : Nat)]? = some (Value.string x.o.key), cs1[off1 + i.toNat * (11 : Nat) + (2 : Nat)]? = some (nI x.o.kind), cs1[off1 + i.toNat * (11 : Nat) + (3 : Nat)]? = some (Value.string x.o.text), cs1[off1 + i.toNat * (11 : Nat) + (4 : Nat)]? = some (nI x.o.n), cs1[off1 + i.toNat * (11 : Nat) + (5 : Nat)]? = some (Value.bool x.o.remove), cs1[off1 + i.toNat * (11 : Nat) + (6 : Nat)]? = some (Value.slice (a1_0, c1_0).fst (List.map eDot x.o.dots).length (a1_0, c1_0).snd), cs1[off1 + i.toNat * (11 : Nat) + (7 : Nat)]? = some (nI x.d.place), cs1[off1 + i.toNat * (11 : Nat) + (8 : Nat)]? = some (nI x.d.time), cs1[off1 + i.toNat * (11 : Nat) + (9 : Nat)]? = some (nI x.d.no), cs1[off1 + i.toNat * (11 : Nat) + (10 : Nat)]? = some (nI x.w)]) (fun _ => ⟨hi0, hlt2, hrd1_0, hrd1_1, hrd1_2, hrd1_3, hrd1_4, hrd1_5, hrd1_6, hrd1_7, hrd1_8, hrd1_9, hrd1_10, trivial⟩) (fun nu3 => ?_)
     refine Sq mixed [zR 0] [] [4, 5, 6, 8, 9, 11, 29, 30, 31, 35] (fun _ => [zP 4 (nu1 0), zV 5 .nilIface, zS 6 (sA b1 off1) ((ofKey key l).length) c2, zI 8 K, zP 9 (nu2 0), zP 11 (nu3 0), zS 29 (sA b1 off1) ((ofKey key l).length) c2, zI 30 ((↑(ofKey key l).length : Int)), zI 31 i, zI 35 K]) (fun _ => [(nu1 0, .cells #[nI 0, .string (ByteArray.mk #[]), nI 0, .slice none 0 0] 47 (0, 0)), (nu2 0, .cells #[nI K, .string tx, nI m, .slice none 0 0] 47 (0, 0)), (nu3 0, .cells #[nI x.o.no, .string x.o.key, nI x.o.kind, .string x.o.text, nI x.o.n, .bool x.o.remove, .slice (a1_0, c1_0).fst ((List.map eDot x.o.dots).length) c1_0, nI x.d.place, nI x.d.time, nI x.d.no, nI x.w] 112 (0, 0))]) (fun _ => ?_)
     refine J_block ?_
     refine Sp mixed [.rd 0 [] 0 7, zR 1] [] [4, 5, 6, 8, 9, 11, 29, 30, 31, 35, 36] (fun _ => [zP 4 (nu1 0), zV 5 .nilIface, zS 6 (sA b1 off1) ((ofKey key l).length) c2, zI 8 K, zP 9 (nu2 0), zP 11 (nu3 0), zS 29 (sA b1 off1) ((ofKey key l).length) c2, zI 30 ((↑(ofKey key l).length : Int)), zI 31 i, zI 35 K, zB 36 false]) (fun _ => [(nu1 0, .cells #[nI 0, .string (ByteArray.mk #[]), nI 0, .slice none 0 0] 47 (0, 0)), (nu2 0, .cells #[nI K, .string tx, nI m, .slice none 0 0] 47 (0, 0)), (nu3 0, .cells #[nI x.o.no, .string x.o.key, nI x.o.kind, .string x.o.text, nI x.o.n, .bool x.o.remove, .slice (a1_0, c1_0).fst ((List.map eDot x.o.dots).length) c1_0, nI x.d.place, nI x.d.time, nI x.d.no, nI x.w] 112 (0, 0))]) (fun _ => [(K == (1 : Int)) = false]) (fun _ => ⟨by simp; omega, trivial⟩) (fun _ => ?_)
     refine cF ?_
     refine Sp mixed [.rd 0 [] 0 7, zR 1] [] [4, 5, 6, 8, 9, 11, 29, 30, 31, 35, 42] (fun _ => [zP 4 (nu1 0), zV 5 .nilIface, zS 6 (sA b1 off1) ((ofKey key l).length) c2, zI 8 K, zP 9 (nu2 0), zP 11 (nu3 0), zS 29 (sA b1 off1) ((ofKey key l).length) c2, zI 30 ((↑(ofKey key l).length : Int)), zI 31 i, zI 35 K, zB 42 false]) (fun _ => [(nu1 0, .cells #[nI 0, .string (ByteArray.mk #[]), nI 0, .slice none 0 0] 47 (0, 0)), (nu2 0, .cells #[nI K, .string tx, nI m, .slice none 0 0] 47 (0, 0)), (nu3 0, .cells #[nI x.o.no, .string x.o.key, nI x.o.kind, .string x.o.text, nI x.o.n, .bool x.o.remove, .slice (a1_0, c1_0).fst ((List.map eDot x.o.dots).length) c1_0, nI x.d.place, nI x.d.time, nI x.d.no, nI x.w] 112 (0, 0))]) (fun _ => [(K == (2 : Int)) = false]) (fun _ => ⟨by simp; omega, trivial⟩) (fun _ => ?_)
     refine cF ?_
     refine J_skip ?_
     refine J_eb ?_
     refine J_eb ?_
     refine Gp mixed [.rd 0 [] 0 1, zR 1] [] [4, 5, 6, 8, 9, 11, 29, 30, 31, 35] (fun _ => [zP 4 (nu1 0), zV 5 .nilIface, zS 6 (sA b1 off1) ((ofKey key l).length) c2, zI 8 K, zP 9 (nu2 0), zP 11 (nu3 0), zS 29 (sA b1 off1) ((ofKey key l).length) c2, zI 30 ((↑(ofKey key l).length : Int)), zI 31 (i + 1), zI 35 K]) (fun _ => [(nu1 0, .cells #[nI 0, .string (ByteArray.mk #[]), nI 0, .slice none 0 0] 47 (0, 0)), (nu2 0, .cells #[nI K, .string tx, nI m, .slice none 0 0] 47 (0, 0)), (nu3 0, .cells #[nI x.o.no, .string x.o.key, nI x.o.kind, .string x.o.text, nI x.o.n, .bool x.o.remove, .slice (a1_0, c1_0).fst ((List.map eDot x.o.dots).length) c1_0, nI x.d.place, nI x.d.time, nI x.d.no, nI x.w] 112 (0, 0))]) (fun _ => [IntKind.i64.wrap (i + (1 : Int)) = i + (1 : Int)]) (fun _ => ⟨wrap_i64 (by omega) (by omega), trivial⟩) (fun _ => ?_)
     refine J_backx ⟨i + 1, tx, m⟩ [4, 5, 6, 8, 9, 29, 30, 31] [0, 1] [] [0, 1, 2, 3] ?_ ?_ (by kernel_rfl) rfl rfl rfl
     ·refine ⟨by simp only; omega, by simp only; omega, ?_, ?_⟩
      ·dsimp only
       rw [if_neg h1, htx, if_neg h1]
      ·dsimp only
       rw [if_neg h2, hm, if_neg h2]
     ·simp only
      omega
  ·have hil : (ofKey key l).take i.toNat = ofKey key l := List.take_of_length_le (by simp at hlt; omega)
   rw [hil] at htx hm
   refine J_exit rfl ?_
   refine J_seq ?_
   refine Sp mixed [zR 0, .rd 1 [] 0 7] [] [4, 5, 6, 9, 53] (fun _ => [zP 4 (nu1 0), zV 5 .nilIface, zS 6 a2 ((ofKey key l).length) c2, zP 9 (nu2 0), zB 53 false]) (fun _ => [(nu1 0, .cells #[nI 0, .string (ByteArray.mk #[]), nI 0, .slice none 0 0] 47 (0, 0)), (nu2 0, .cells #[nI K, .string tx, nI m, .slice none 0 0] 47 (0, 0))]) (fun _ => [(K == (3 : Int)) = false]) (fun _ => ⟨by simp; omega, trivial⟩) (fun _ => ?_)
   refine cF ?_
   refine J_skip ?_
   refine Sq mixed [.rd 0 [.o 1 none, .o 1 none, .o 1 none, .o 1 none] 0 0, .wr 1 [.o 0 none, .o 0 none, .o 0 none, .o 0 none] 0, zR 2] [(1, [0])] [4, 5] (fun _ => [zP 4 (nu1 0), zV 5 .nilIface]) (fun _ => [(nu1 0, .cells #[nI K, .string tx, nI m, .slice none 0 0] 47 (0, 0)), (nu2 0, .cells #[nI K, .string tx, nI m, .slice none 0 0] 47 (0, 0))]) (fun _ => ?_)
   refine J_return [[.o 0 none, .o 0 none, .o 0 none, .o 0 none], []] (.tuple #[.agg #[.int .i64 K, .string tx, .int .i64 m, .slice none 0 0], .nilIface]) (by kernel_rfl) (fun a w s => ?_)
   rw [hval, ← htx, ← hm]
   exact .inr ⟨hc, s.ret (by simp) [] [] rfl rfl⟩
end Go.Proofs.YtpjkiomccpjboaaGreatDoor
end
section
namespace Go.Sx
open Go Go.MapKept
def lkOf (n : Nat) (ops : Array Oper) (E : Env) (i : Nat) : Option (TypeId × Value × Value × Bool × Option Tmp × List Ob) :=
 match ops[i]? with
 | none => none
 | some o => if dstOk n o.dst && !isSel o.op then match (match o.guard with
   | none => some (none, [])
   | some (j, want) => (guardOf E ops j).map fun c => (some (c, want), [.bb c want])) with
  | none => none
  | some (cd, g) => match opsOk E cd o.op.operands.toList with
   | none => none
   | some q => match o.op with
    | .lookup t m x c => some (t, rho E m, rho E x, c, o.dst, g ++ q)
    | _ => none
  else none
def chkLk (x : Option (TypeId × Value × Value × Bool × Option Tmp × List Ob)) : Option (TypeId × Value × Value × Bool × Option Tmp) × (List Nat × List Bool × List (Option Nat)) × Nat := match x with
 | some y => (some (y.1, y.2.1, y.2.2.1, y.2.2.2.1, y.2.2.2.2.1), obL y.2.2.2.2.2, (obP y.2.2.2.2.2).length)
 | none => (none, ([], [], []), 0)
def trivLk (x : Option (TypeId × Value × Value × Bool × Option Tmp × List Ob)) : List Nat × List Bool × List (Option Nat) := match x with
 | some y => obR y.2.2.2.2.2
 | none => ([], [], [])
theorem chkLk_sound {x : Option (TypeId × Value × Value × Bool × Option Tmp × List Ob)} {src : TypeId} {dt v : Value} {cc : Bool} {dst : Option Tmp} (h : chkLk x = (some (src, dt, v, cc, dst), trivLk x, 0)) : ∃ p, x = some (src, dt, v, cc, dst, p) ∧ All p := by
 cases x with
 | none => simp [chkLk] at h
 | some y =>
  obtain ⟨a, b, c, d, e, p⟩ := y
  simp only [chkLk, trivLk, Prod.mk.injEq, Option.some.injEq] at h
  obtain ⟨⟨rfl, rfl, rfl, rfl, rfl⟩, h2, h3⟩ := h
  refine ⟨p, rfl, All_of p h2 ?_⟩
  rw [List.eq_nil_of_length_eq_zero h3]
  trivial
section
variable {P : Program} {f : Func} {R : Act → World → Prop} {n : Nat} {k : List Itm} {E : Env} {h r : List (Nat × Obj)} {F : List (List Nat × World)} {Y : Ghost}
theorem lkOf_yields {ops : Array Oper} {i : Nat} {src : TypeId} {dt xv : Value} {cc : Bool} {dst : Option Tmp} {p : List Ob} (he : lkOf n ops E i = some (src, dt, xv, cc, dst, p)) (hp : All p) {a : Act} (hA : Ag n E a) :
  ∃ o, ops[i]? = some o ∧ Region.wanted o (yielded ops a.tmps) = true ∧ dstOk n o.dst = true ∧ o.dst = dst ∧ ∀ w v w', (Instr.lookup src dt xv cc).run P w = .ok v w' → (execOp a.eval o).run P w = .ok (.value v) w' := by
 unfold lkOf at he
 split at he
 ·cases he
 rename_i o ho
 split at he
 case isFalse => cases he
 rename_i hd
 simp only [Bool.and_eq_true, Bool.not_eq_true'] at hd
 split at he
 ·cases he
 rename_i cd g hg
 split at he
 ·cases he
 rename_i q hq
 split at he
 case h_2 => cases he
 rename_i src' dt' x cc' hc
 simp only [Option.some.injEq, Prod.mk.injEq] at he
 obtain ⟨rfl, rfl, rfl, rfl, rfl, rfl⟩ := he
 obtain ⟨hg1, hq1⟩ := All_append hp
 have hwant : Region.wanted o (yielded ops a.tmps) = true ∧ ∀ c wn, cd = some (c, wn) → c = wn := by
  cases hgd : o.guard with
  | none =>
   rw [hgd] at hg
   simp only [Option.some.injEq, Prod.mk.injEq] at hg
   refine ⟨by simp [Region.wanted, hgd], fun c wn h => ?_⟩
   rw [← hg.1] at h
   cases h
  | some y =>
   obtain ⟨j, want⟩ := y
   rw [hgd] at hg
   obtain ⟨c, hc, hcg⟩ := Option.map_eq_some_iff.1 hg
   simp only [Prod.mk.injEq] at hcg
   obtain ⟨rfl, rfl⟩ := hcg
   have hy := guardOf_sound hA hc
   have hcw : c = want := hg1.1
   refine ⟨by simp [Region.wanted, hgd, hy, hcw], fun c' wn h => ?_⟩
   injection h with h
   injection h with h1 h2
   rw [← h1, ← h2]
   exact hcw
 refine ⟨o, ho, hwant.1, hd.1, rfl, fun w v w' hrun => ?_⟩
 have hcongr : execOp a.eval o = execOp (rho E) o := execOp_congr o (fun cs b hc => by have := hd.2; rw [hc] at this; cases this) (fun x hx => opsOk_sound hA hwant.2 _ _ hq hq1 x (by simpa using hx))
 rw [hcongr]
 unfold execOp
 simp only [hc, Sem.run_bind, hrun, Result.andThen_ok, Sem.run_pure]
theorem JRg_lookq {id L0 i : Nat} {ck : Bool} {Wp : List (Nat × List Nat)} {rest : List (Nat × Bool)} (hn : Hn) (b t kt et : Nat) (ok : Value → Prop) (key z : Value) (c : Bool) (dst : Option Tmp) {es : Array MapEntry} {clock : Nat} {g : Value → Option Value}
  (he : chkLk (lkOf n (rgOf f id) E i) = (some (t, .map (some b), key, c, dst), trivLk (lkOf n (rgOf f id) E i), 0)) (hok : (!ck || okR L0 (Wp.filter fun y => !later (rgOf f id) i 3 y.1) [hn]) = true) (ht : P.underlying t = some (.map kt et)) (hK : KeyOk P kt ok) (hk : ok key) (hi : (P.info? et).map (·.zero) = some (some z))
  (hp : hn.get h r = some (b, .map es clock)) (hm : MapG ok es g)
  (A : g key = none → JR P f R n (rgOf f id) L0 ck rest Wp k (E.put dst (.val (lkV c z false))) h r F Y)
  (B : ∀ v, g key = some v → JR P f R n (rgOf f id) L0 ck rest Wp k (E.put dst (.val (lkV c v true))) h r F Y) :
  JR P f R n (rgOf f id) L0 ck ((i, true) :: rest) Wp k E h r F Y := by
 obtain ⟨p, he, hpp⟩ := chkLk_sound he
 intro BB Hd fps a w s hH hR hN hW
 simp only [PW]
 obtain ⟨inf, hinf, hz⟩ := Option.map_eq_some_iff.1 hi
 have hzero : ∀ w, (zeroValue et).run P w = .ok z w := fun w => by simp [zeroValue, typeInfo, hinf, hz]
 have hus : used h r [hn] = [(b, .map es clock)] := by simp [used, hp]
 have hHp : Hp (used h r [hn]) w := fun y hy => by
  obtain ⟨hn', _, hg⟩ := List.mem_filterMap.1 hy
  exact s.own.get hg
 obtain ⟨o, ho, hw, hdst, hde, hrun⟩ := lkOf_yields (P := P) he hpp s.ag
 subst hde
 have fin : ∀ v, (∀ w, Hp (used h r [hn]) w → (Instr.lookup t (.map (some b)) key c).run P w = .ok v w) → JR P f R n (rgOf f id) L0 ck rest Wp k (E.put o.dst (.val v)) h r F Y →
   ∃ o' v' us, (rgOf f id)[i]? = some o' ∧ YieldsIf P (rgOf f id) (Hp us) o' v' a ∧ Hp us w ∧ (ck = true → ∀ y ∈ idsW Hd h Wp, later (rgOf f id) i 3 y.1 = true ∨ ∀ x ∈ us, x.1 < BB ∧ x.1 ∉ y.2) ∧ PW P (rgOf f id) (wpK P f R k) BB ck rest (idsW Hd h Wp) (a.put o'.dst v') w := fun v hv H => by
  refine ⟨o, v, used h r [hn], ho, .inl ⟨hw, fun w hw => hrun _ _ _ (hv w hw)⟩, hHp, fun hck y hy => okR_later (fun j => later (rgOf f id) i 3 j) s.own hR (by simpa [hck] using hok) y hy, ?_⟩
  exact H BB Hd fps _ w ⟨s.ag.put hdst (.val v), s.own, s.fr, s.may, s.gh⟩ hH hR hN hW
 have hbw : ∀ w, Hp (used h r [hn]) w → w.heap[b]? = some (.map es clock) := fun w hw => hw (b, .map es clock) (by rw [hus]; simp)
 rcases hm.look hK hk with ⟨h1, h2, _⟩ | ⟨j, e, h1, _, _, h2⟩
 ·refine fin (lkV c z false) (fun w hw => ?_) (A h2)
  cases c <;> simp [Instr.lookup, run_underlying ht, MapKept.run_getObj_map (hbw w hw), hK.chk _ _ hk, h1, hzero, Result.andThen, lkV]
 ·refine fin (lkV c e.val true) (fun w hw => ?_) (B _ h2)
  cases c <;> simp [Instr.lookup, run_underlying ht, MapKept.run_getObj_map (hbw w hw), hK.chk _ _ hk, h1, Result.andThen, lkV]
theorem JRg_lookqn {id L0 i : Nat} {ck : Bool} {Wp : List (Nat × List Nat)} {rest : List (Nat × Bool)} (t kt et : Nat) (ok : Value → Prop) (key z : Value) (c : Bool) (dst : Option Tmp)
  (he : chkLk (lkOf n (rgOf f id) E i) = (some (t, .map none, key, c, dst), trivLk (lkOf n (rgOf f id) E i), 0)) (ht : P.underlying t = some (.map kt et)) (hK : KeyOk P kt ok) (hk : ok key) (hi : (P.info? et).map (·.zero) = some (some z))
  (A : JR P f R n (rgOf f id) L0 ck rest Wp k (E.put dst (.val (lkV c z false))) h r F Y) :
  JR P f R n (rgOf f id) L0 ck ((i, true) :: rest) Wp k E h r F Y := by
 obtain ⟨p, he, hpp⟩ := chkLk_sound he
 intro BB Hd fps a w s hH hR hN hW
 simp only [PW]
 obtain ⟨inf, hinf, hz⟩ := Option.map_eq_some_iff.1 hi
 have hzero : ∀ w, (zeroValue et).run P w = .ok z w := fun w => by simp [zeroValue, typeInfo, hinf, hz]
 obtain ⟨o, ho, hw, hdst, hde, hrun⟩ := lkOf_yields (P := P) he hpp s.ag
 subst hde
 have h1 : ∀ w, (Instr.findKey kt key []).run P w = .ok none w := fun w => by
  rcases hK.find key [] hk (by simp) with ⟨h1, _⟩ | ⟨j, e, _, h2, _⟩
  ·exact h1 w
  ·simp at h2
 refine ⟨o, lkV c z false, [], ho, .inl ⟨hw, fun w _ => hrun _ _ _ ?_⟩, (fun y hy => nomatch hy), (fun _ y _ => .inr fun x hx => nomatch hx), A BB Hd fps _ w ⟨s.ag.put hdst (.val _), s.own, s.fr, s.may, s.gh⟩ hH hR hN hW⟩
 cases c <;> simp [Instr.lookup, run_underlying ht, hK.chk _ _ hk, h1, hzero, Result.andThen, lkV]
end
end Go.Sx
end
