/- Part 8 of the texts of a claim: ComErr2 Bare Val. -/
import Derived.Test.YtpjkiomccpjboaaGreatDoorTd7
section
namespace Go.Proofs.YtpjkiomccpjboaaGreatDoor
open Go Go.Sx
def opErrAt (l : List OpT) (places : Int) (i : Nat) : Nat :=
 match l[i]? with
 | none => 0
 | some o => if opErr o places ≠ 0 then opErr o places else match i, l[i - 1]? with
   | _ + 1, some p => if o.no ≤ p.no then 3 else 0
   | _, _ => 0
structure FT where
 code : Nat
 at' : Int
def opsFault (l : List OpT) (places : Int) : Nat → Nat → FT
 | 0, _ => ⟨0, -1⟩
 | n + 1, i => if opErrAt l places i = 0 then opsFault l places n (i + 1) else ⟨opErrAt l places i, i⟩
def comFault (c : ComT) : FT :=
 if vecErr c.when ≠ 0 then ⟨vecErr c.when, -1⟩
 else if c.place < 0 ∨ c.when.length ≤ c.place ∨ 12 < c.ops.length then ⟨2, -1⟩
 else if c.when[c.place.toNat]? = some 0 then ⟨2, -1⟩
 else if c.ops.length = 0 then ⟨3, -1⟩
 else opsFault c.ops c.when.length c.ops.length 0
theorem opsFault_from {l : List OpT} {places : Int} : ∀ (n k i : Nat), k ≤ i → (∀ j, k ≤ j → j < i → opErrAt l places j = 0) → (i = k + n → opsFault l places n k = ⟨0, -1⟩) ∧ (i < k + n → opErrAt l places i ≠ 0 → opsFault l places n k = ⟨opErrAt l places i, i⟩)
 | 0, k, i, hk, _ => ⟨fun _ => rfl, fun h => by omega⟩
 | n + 1, k, i, hk, h => by
  rcases Nat.eq_or_lt_of_le hk with rfl | hlt
  ·refine ⟨fun he => by omega, fun _ hne => ?_⟩
   rw [opsFault, if_neg hne]
  ·obtain ⟨h1, h2⟩ := opsFault_from n (k + 1) i hlt fun j hj1 hj2 => h j (by omega) hj2
   rw [opsFault, if_pos (h k (Nat.le_refl _) hlt)]
   exact ⟨fun he => h1 (by omega), fun he => h2 (by omega)⟩
theorem opErr_le (o : OpT) (p : Int) : opErr o p ≤ 12 := by
 unfold opErr
 repeat' split
 all_goals omega
theorem opErrAt_le (l : List OpT) (p : Int) (i : Nat) : opErrAt l p i ≤ 12 := by
 unfold opErrAt
 split
 ·omega
 ·rename_i o _
  have := opErr_le o p
  split
  ·exact this
  ·split
   ·split <;> omega
   ·omega
theorem opsFault_code (l : List OpT) (p : Int) : ∀ n k, (opsFault l p n k).code ≤ 12
 | 0, _ => by simp [opsFault]
 | n + 1, k => by
  unfold opsFault
  split
  ·exact opsFault_code l p n (k + 1)
  ·exact opErrAt_le l p k
theorem opErrAt_own {l : List OpT} {p : Int} {i : Nat} {o : OpT} (h : l[i]? = some o) (he : opErr o p ≠ 0) : opErrAt l p i = opErr o p := by
 unfold opErrAt
 simp only [h, if_pos he]
theorem opErrAt_first {l : List OpT} {p : Int} {o : OpT} (h : l[0]? = some o) (he : opErr o p = 0) : opErrAt l p 0 = 0 := by
 unfold opErrAt
 simp [h, he]
theorem opErrAt_next {l : List OpT} {p : Int} {i : Nat} {o q : OpT} (h : l[i + 1]? = some o) (hq : l[i]? = some q) (he : opErr o p = 0) : opErrAt l p (i + 1) = if o.no ≤ q.no then 3 else 0 := by
 unfold opErrAt
 simp [h, hq, he]
abbrev fA (f : FT) : Value := .agg #[.int .i64 f.code, .int .i64 f.at']
theorem rVecErr {w : World} {S : Nat → Prop} {a : Option Addr} {n c : Nat} {xs : List Int} (ha : Rep w S (.slice a n c) (dInts xs)) (hl : xs.length ≤ 1000000) :
  Calls Tryz.prog 43 #[.slice a n c] w fun e w' => Ret [] w S w' e (.int .i64 (vecErr xs)) [] [] := by
 obtain rfl := rep_ints_len ha
 refine ep43 (args := [.slice a xs.length c]) (G := [(_, dInts xs)]) (by kernel_rfl) (.cons ha (.nil _ _)) ?_
 refine Sq mixed [zR 0] [] [0, 2] (fun _ => [zS 0 a xs.length c, zI 2 0]) (fun _ => []) (fun _ => ?_)
 refine J_seq ?_
 refine Sq mixed [zR 0, zR 1, zR 2, zR 3, .rd 4 [] 2 0, .rd 5 [] 2 0, .rd 6 [] 2 0, .rd 7 [] 0 3] [] [0, 2, 11] (fun _ => [zS 0 a xs.length c, zI 2 0, zB 11 (decide ((↑xs.length : Int) < 1) || decide ((↑xs.length : Int) > 6))]) (fun _ => []) (fun _ => ?_)
 refine cC (t := decide ((↑xs.length : Int) < 1) || decide ((↑xs.length : Int) > 6)) (fun hn => ?_) (fun hn => ?_)
 ·refine J_seq ?_
  refine Gq mixed [zR 0] [] [0, 2] (fun _ => [zS 0 a xs.length c, zI 2 3]) (fun _ => []) (fun _ => ?_)
  refine J_return [[]] (.int .i64 3) (by kernel_rfl) (fun a w s => ?_)
  have e1 : vecErr xs = 3 := by rw [vecErr, if_pos (by simp at hn; omega)]
  rw [e1]
  exact s.ret (by simp) [] [] rfl rfl
 ·have hn2 : ¬ (xs.length < 1 ∨ 6 < xs.length) := by simp at hn; omega
  refine J_skip ?_
  refine J_seq ?_
  refine Sq mixed [zR 0] [] [0, 2, 3] (fun _ => [zS 0 a xs.length c, zI 2 0, zI 3 0]) (fun _ => []) (fun _ => ?_)
  refine J_block ?_
  refine J_loopx (fun i : Int => [zS 0 a xs.length c, zI 2 0, zI 3 i]) (fun i : Int => []) (fun i : Int => []) (fun i : Int => [(.slice a xs.length c, (dInts xs))]) (fun i : Int => (xs.length - i).toNat) (fun i : Int => (0 ≤ i ∧ i ≤ xs.length ∧ ∀ j : Nat, j < i.toNat → ∀ t, xs[j]? = some t → badT t = false)) 0 [0, 2, 3] [] [] [0] ?_ (by kernel_rfl) rfl rfl rfl ?_
  ·exact ⟨by simp, by omega, by simp⟩
  rintro i ⟨hi0, hi, hno⟩
  refine J_seq ?_
  refine Sq mixed [zR 0, zR 1, zR 2, zR 3] [] [0, 2, 3, 15] (fun _ => [zS 0 a xs.length c, zI 2 0, zI 3 i, zB 15 (decide (i < (↑xs.length : Int)))]) (fun _ => []) (fun _ => ?_)
  refine cC (t := decide (i < (↑xs.length : Int))) (fun hlt => ?_) (fun hlt => ?_)
  ·have hlt2 : i < xs.length := by simpa using hlt
   obtain ⟨x, hx⟩ : ∃ x, xs[i.toNat]? = some x := ⟨_, List.getElem?_eq_getElem (by omega)⟩
   refine J_read0 0 rfl i.toNat (map_at hx) (by kernel_rfl) (fun b1 off1 cs1 ty1 fz1 ha1 hrd1 => ?_)
   cases ha1
   have hrd1_0 := rd0 (hrd1 0 _ rfl)
   try simp only [cAp, nAp, aNl]
   refine J_skip ?_
   refine J_seq ?_
   refine J_block ?_
   refine Sp mixed [zR 0, zR 1, .rd 2 [] 0 2, .rd 3 [.r 0 (some (nI x))] 0 0, zR 4, zR 5, .rd 6 [] 2 0, .rd 7 [] 2 0, .rd 8 [] 2 2, .rd 9 [.r 0 (some (nI x))] 2 0, .rd 10 [] 2 0, .rd 11 [] 0 3] [] [0, 2, 3, 29] (fun _ => [zS 0 (sA b1 off1) xs.length c, zI 2 0, zI 3 i, zB 29 (decide (x < 0) || decide (x > 1099511627776))]) (fun _ => []) (fun _ => [(0 : Int) ≤ i, i < (↑xs.length : Int), cs1[off1 + i.toNat * (1 : Nat)]? = some (nI x), (decide (x < 0)) = false → (0 : Int) ≤ i, (decide (x < 0)) = false → i < (↑xs.length : Int), (decide (x < 0)) = false → cs1[off1 + i.toNat * (1 : Nat)]? = some (nI x)]) (fun _ => ⟨hi0, hlt2, hrd1_0, (fun _ => hi0), (fun _ => hlt2), (fun _ => hrd1_0), trivial⟩) (fun _ => ?_)
   refine cC (t := decide (x < 0) || decide (x > 1099511627776)) (fun hb => ?_) (fun hb => ?_)
   ·refine J_seq ?_
    refine Gq mixed [zR 0] [] [0, 2, 3] (fun _ => [zS 0 (sA b1 off1) xs.length c, zI 2 2, zI 3 i]) (fun _ => []) (fun _ => ?_)
    refine J_return [[]] (.int .i64 2) (by kernel_rfl) (fun a w s => ?_)
    have e1 : vecErr xs = 2 := by rw [vecErr, if_neg hn2, if_pos (List.any_eq_true.2 ⟨x, List.mem_of_getElem? hx, hb⟩)]
    rw [e1]
    exact s.ret (by simp) [] [] rfl rfl
   ·refine J_skip ?_
    refine J_eb ?_
    refine Gp mixed [zR 0, .rd 1 [] 0 1, zR 2] [] [0, 2, 3] (fun _ => [zS 0 (sA b1 off1) xs.length c, zI 2 0, zI 3 (i + 1)]) (fun _ => []) (fun _ => [IntKind.i64.wrap (i + (1 : Int)) = i + (1 : Int)]) (fun _ => ⟨wrap_i64 (by omega) (by omega), trivial⟩) (fun _ => ?_)
    refine J_backx (i + 1) [0, 2, 3] [] [] [0] ?_ ?_ (by kernel_rfl) rfl rfl rfl
    ·refine ⟨by omega, by omega, fun j hj t ht => ?_⟩
     by_cases hji : j = i.toNat
     ·subst hji
      rw [hx] at ht
      cases ht
      exact hb
     ·exact hno j (by omega) t ht
    ·omega
  ·refine J_exit rfl ?_
   refine Sq mixed [zR 0] [] [2] (fun _ => [zI 2 0]) (fun _ => []) (fun _ => ?_)
   refine J_return [[]] (.int .i64 0) (by kernel_rfl) (fun a w s => ?_)
   have e1 : vecErr xs = 0 := by
    rw [vecErr, if_neg hn2, if_neg]
    rw [Bool.not_eq_true, List.any_eq_false]
    intro t ht
    obtain ⟨j, hj⟩ := List.getElem?_of_mem ht
    have hjl := (List.getElem?_eq_some_iff.1 hj).1
    simp [hno j (by simp at hlt; omega) t hj]
   rw [e1]
   exact s.ret (by simp) [] [] rfl rfl
theorem rBare {w : World} {S : Nat → Prop} {c : Int} : Calls Tryz.prog 26 #[.int .i64 c] w fun e w' => Ret [] w S w' e (.agg #[.int .i64 c, .int .i64 (-1)]) [] [] := by
 refine ep26 (args := [.int .i64 c]) (G := []) (by kernel_rfl) (AllG.nil w S) ?_
 refine Sq mixed [.wr 0 [] 0] [] [0, 2] (fun nu1 => [zI 0 c, zP 2 (nu1 0)]) (fun nu1 => [(nu1 0, .cells #[nI 0, nI 0] 40 (0, 0))]) (fun nu1 => ?_)
 refine Sq mixed [zR 0, zR 1, .wr 2 [.o 0 none, .o 0 none] 0] [(2, [0])] [2] (fun _ => [zP 2 (nu1 0)]) (fun _ => [(nu1 0, .cells #[nI c, nI (-1)] 40 (0, 0))]) (fun _ => ?_)
 refine J_return [[.o 0 none, .o 0 none]] (.agg #[.int .i64 c, .int .i64 (-1)]) (by kernel_rfl) (fun a w s => ?_)
 exact s.ret (by simp) [] [] rfl rfl
theorem rFine {w : World} {S : Nat → Prop} : Calls Tryz.prog 60 #[] w fun e w' => Ret [] w S w' e (.agg #[.int .i64 0, .int .i64 (-1)]) [] [] := by
 refine ep60 (args := []) (G := []) (by kernel_rfl) (AllG.nil w S) ?_
 refine Sq mixed [.wr 0 [] 0] [] [0] (fun nu1 => [zP 0 (nu1 0)]) (fun nu1 => [(nu1 0, .cells #[nI 0, nI 0] 40 (0, 0))]) (fun nu1 => ?_)
 refine Sq mixed [zR 0, .wr 1 [.o 0 none, .o 0 none] 0] [(1, [0])] [0] (fun _ => [zP 0 (nu1 0)]) (fun _ => [(nu1 0, .cells #[nI 0, nI (-1)] 40 (0, 0))]) (fun _ => ?_)
 refine J_return [[.o 0 none, .o 0 none]] (.agg #[.int .i64 0, .int .i64 (-1)]) (by kernel_rfl) (fun a w s => ?_)
 exact s.ret (by simp) [] [] rfl rfl
set_option maxHeartbeats 2000000 in
theorem commitFault {w : World} {S : Nat → Prop} {a1 a2 : Option Addr} {n1 c1 n2 c2 : Nat} {c : ComT} (h1 : Rep w S (.slice a1 n1 c1) (dInts c.when)) (h2 : Rep w S (.slice a2 n2 c2) (.sl 7 (c.ops.map eOp))) (hl1 : c.when.length ≤ 1000000) (hl2 : c.ops.length ≤ 1000000) :
  Calls Tryz.prog 19 #[.agg #[.slice a1 n1 c1, .int .i64 c.place, .slice a2 n2 c2]] w fun e w' => Ret [] w S w' e (fA (comFault c)) [] [] := by
 obtain rfl := rep_ints_len h1
 have e2 := h2.slen
 rw [List.length_map] at e2
 subst e2
 refine ep19 (args := [.agg #[.slice a1 c.when.length c1, .int .i64 c.place, .slice a2 c.ops.length c2]]) (G := [(_, dInts c.when), (_, .sl 7 (c.ops.map eOp))]) (by kernel_rfl) (.cons h1 (.cons h2 (.nil _ _))) ?_
 refine Sq mixed [.wr 0 [] 0, .wr 1 [] 0] [] [1, 2] (fun nu1 => [zP 1 (nu1 0), zP 2 (nu1 1)]) (fun nu1 => [(nu1 0, .cells #[.slice a1 c.when.length c1, nI c.place, .slice a2 c.ops.length c2] 28 (0, 0)), (nu1 1, .cells #[nI 0, nI 0] 40 (0, 0))]) (fun nu1 => ?_)
 refine J_seq ?_
 refine jB mixed [(0, true), (1, true), (2, false), (3, true)] [] ?_
 refine Gr (id := 1) (rest := [(2, false), (3, true)]) [zR 0, .rd 1 [.o 0 none] 0 0] [1, 2, 7] (fun _ => [zP 1 (nu1 0), zP 2 (nu1 1), zS 7 a1 c.when.length c1]) (fun _ => [(nu1 0, .cells #[.slice a1 c.when.length c1, nI c.place, .slice a2 c.ops.length c2] 28 (0, 0)), (nu1 1, .cells #[nI 0, nI 0] 40 (0, 0))]) (fun _ => ?_)
 refine JR_callp [] 43 #[.slice a1 c.when.length c1] (some 8) (by kernel_rfl) (fun w S hG => ?_)
 refine (rVecErr (hG.at 0 rfl) hl1).mono ?_
 rintro e1 w1 hR
 refine ⟨_, _, _, hR, ?_⟩
 by_cases hv : vecErr c.when = 0
 ·try simp only [List.cons_append, List.nil_append, List.append_nil]
  refine Gr (id := 1) (rest := []) [zR 3] [1, 2, 3] (fun _ => [zP 1 (nu1 0), zP 2 (nu1 1), zI 3 ((↑(vecErr c.when) : Int))]) (fun _ => [(nu1 0, .cells #[.slice a1 c.when.length c1, nI c.place, .slice a2 c.ops.length c2] 28 (0, 0)), (nu1 1, .cells #[nI 0, nI 0] 40 (0, 0))]) (fun _ => ?_)
  refine JR_end ?_
  refine J_seq ?_
  refine Sp mixed [zR 0, .rd 1 [] 0 7] [] [1, 2, 3, 10] (fun _ => [zP 1 (nu1 0), zP 2 (nu1 1), zI 3 ((↑(vecErr c.when) : Int)), zB 10 false]) (fun _ => [(nu1 0, .cells #[.slice a1 c.when.length c1, nI c.place, .slice a2 c.ops.length c2] 28 (0, 0)), (nu1 1, .cells #[nI 0, nI 0] 40 (0, 0))]) (fun _ => [decide ((↑(vecErr c.when) : Int) > (0 : Int)) = false]) (fun _ => ⟨by simp; omega, trivial⟩) (fun _ => ?_)
  refine cF ?_
  refine J_skip ?_
  refine J_seq ?_
  refine Sq mixed [zR 0, .rd 1 [.o 0 none] 0 0, zR 2, zR 3, .rd 4 [] 2 0, .rd 5 [.o 0 none] 2 0, .rd 6 [] 2 0, .rd 7 [.o 0 none] 2 0, .rd 8 [] 2 0, .rd 9 [] 2 0, .rd 10 [] 0 3, zR 11, .rd 12 [] 2 0, .rd 13 [.o 0 none] 2 0, .rd 14 [] 2 0, .rd 15 [] 2 0, .rd 16 [] 0 3] [] [1, 2, 29] (fun _ => [zP 1 (nu1 0), zP 2 (nu1 1), zB 29 (decide (c.place < 0) || decide (c.place ≥ (↑c.when.length : Int)) || decide ((↑c.ops.length : Int) > 12))]) (fun _ => [(nu1 0, .cells #[.slice a1 c.when.length c1, nI c.place, .slice a2 c.ops.length c2] 28 (0, 0)), (nu1 1, .cells #[nI 0, nI 0] 40 (0, 0))]) (fun _ => ?_)
  refine cC (t := decide (c.place < 0) || decide (c.place ≥ (↑c.when.length : Int)) || decide ((↑c.ops.length : Int) > 12)) (fun hb => ?_) (fun hb => ?_)
  ·have e : comFault c = ⟨2, -1⟩ := by rw [comFault, if_neg (by simp [hv]), if_pos (by simp at hb; omega)]
   refine J_seq ?_
   refine jB mixed [(0, false), (1, false)] [] ?_
   refine JR_callp [] 26 #[.int .i64 2] (some 30) (by kernel_rfl) (fun w S hG => ?_)
   refine (rBare (w := w) (S := S)).mono ?_
   rintro e1 w1 hR
   refine ⟨_, _, _, hR, ?_⟩
   try simp only [cAp, nAp, aNl]
   refine Gr (id := 5) (rest := []) [.wr 1 [.o 1 none, .o 1 none] 0] [1, 2] (fun _ => [zP 1 (nu1 0), zP 2 (nu1 1)]) (fun _ => [(nu1 0, .cells #[.slice a1 c.when.length c1, nI c.place, .slice a2 c.ops.length c2] 28 (0, 0)), (nu1 1, .cells #[nI 2, nI (-1)] 40 (0, 0))]) (fun _ => ?_)
   refine JR_end ?_
   refine J_return [[.o 1 none, .o 1 none]] (.agg #[.int .i64 2, .int .i64 (-1)]) (by kernel_rfl) (fun a w s => ?_)
   rw [e]
   exact s.ret (by simp) [] [] rfl rfl
  have hb2 : ¬ (c.place < 0 ∨ c.when.length ≤ c.place ∨ 12 < c.ops.length) := by simp at hb; omega
  obtain ⟨t, ht⟩ : ∃ t, c.when[c.place.toNat]? = some t := ⟨_, List.getElem?_eq_getElem (by omega)⟩
  refine J_read0 0 rfl c.place.toNat (map_at ht) (by kernel_rfl) (fun b1 off1 cs1 ty1 fz1 ha1 hrd1 => ?_)
  cases ha1
  have hrd1_0 := rd0 (hrd1 0 _ rfl)
  try simp only [cAp, nAp, aNl]
  refine J_skip ?_
  refine J_seq ?_
  refine Sp mixed [zR 0, .rd 1 [.o 0 none] 0 0, zR 2, .rd 3 [.o 0 none] 0 0, .rd 4 [] 0 2, .rd 5 [.r 0 (some (nI t))] 0 0, zR 6] [] [1, 2, 37] (fun _ => [zP 1 (nu1 0), zP 2 (nu1 1), zB 37 (t == 0)]) (fun _ => [(nu1 0, .cells #[.slice (sA b1 off1) c.when.length c1, nI c.place, .slice a2 c.ops.length c2] 28 (0, 0)), (nu1 1, .cells #[nI 0, nI 0] 40 (0, 0))]) (fun _ => [(0 : Int) ≤ c.place, c.place < (↑c.when.length : Int), cs1[off1 + c.place.toNat * (1 : Nat)]? = some (nI t)]) (fun _ => ⟨by omega, by omega, hrd1_0, trivial⟩) (fun _ => ?_)
  refine cC (t := t == 0) (fun h0 => ?_) (fun h0 => ?_)
  ·have h00 : t = 0 := by simpa using h0
   have e : comFault c = ⟨2, -1⟩ := by rw [comFault, if_neg (by simp [hv]), if_neg hb2, if_pos (by rw [ht, h00])]
   refine J_seq ?_
   refine jB mixed [(0, false), (1, false)] [] ?_
   refine JR_callp [] 26 #[.int .i64 2] (some 38) (by kernel_rfl) (fun w S hG => ?_)
   refine (rBare (w := w) (S := S)).mono ?_
   rintro e1 w1 hR
   refine ⟨_, _, _, hR, ?_⟩
   try simp only [cAp, nAp, aNl]
   refine Gr (id := 7) (rest := []) [.wr 1 [.o 1 none, .o 1 none] 0] [1, 2] (fun _ => [zP 1 (nu1 0), zP 2 (nu1 1)]) (fun _ => [(nu1 0, .cells #[.slice (sA b1 off1) c.when.length c1, nI c.place, .slice a2 c.ops.length c2] 28 (0, 0)), (nu1 1, .cells #[nI 2, nI (-1)] 40 (0, 0))]) (fun _ => ?_)
   refine JR_end ?_
   refine J_return [[.o 1 none, .o 1 none]] (.agg #[.int .i64 2, .int .i64 (-1)]) (by kernel_rfl) (fun a w s => ?_)
   rw [e]
   exact s.ret (by simp) [] [] rfl rfl
  have h00 : ¬ c.when[c.place.toNat]? = some 0 := by rw [ht]; simpa using h0
  refine J_skip ?_
  refine J_seq ?_
  refine Sq mixed [zR 0, .rd 1 [.o 0 none] 0 0, zR 2, zR 3] [] [1, 2, 42] (fun _ => [zP 1 (nu1 0), zP 2 (nu1 1), zB 42 ((↑c.ops.length : Int) == 0)]) (fun _ => [(nu1 0, .cells #[.slice (sA b1 off1) c.when.length c1, nI c.place, .slice a2 c.ops.length c2] 28 (0, 0)), (nu1 1, .cells #[nI 0, nI 0] 40 (0, 0))]) (fun _ => ?_)
  refine cC (t := (↑c.ops.length : Int) == 0) (fun hz => ?_) (fun hz => ?_)
  ·have e : comFault c = ⟨3, -1⟩ := by rw [comFault, if_neg (by simp [hv]), if_neg hb2, if_neg h00, if_pos (by simp at hz; simp [hz])]
   refine J_seq ?_
   refine jB mixed [(0, false), (1, false)] [] ?_
   refine JR_callp [] 26 #[.int .i64 3] (some 43) (by kernel_rfl) (fun w S hG => ?_)
   refine (rBare (w := w) (S := S)).mono ?_
   rintro e1 w1 hR
   refine ⟨_, _, _, hR, ?_⟩
   try simp only [cAp, nAp, aNl]
   refine Gr (id := 9) (rest := []) [.wr 1 [.o 1 none, .o 1 none] 0] [1, 2] (fun _ => [zP 1 (nu1 0), zP 2 (nu1 1)]) (fun _ => [(nu1 0, .cells #[.slice (sA b1 off1) c.when.length c1, nI c.place, .slice a2 c.ops.length c2] 28 (0, 0)), (nu1 1, .cells #[nI 3, nI (-1)] 40 (0, 0))]) (fun _ => ?_)
   refine JR_end ?_
   refine J_return [[.o 1 none, .o 1 none]] (.agg #[.int .i64 3, .int .i64 (-1)]) (by kernel_rfl) (fun a w s => ?_)
   rw [e]
   exact s.ret (by simp) [] [] rfl rfl
  have hz2 : ¬ c.ops.length = 0 := by simp at hz; simp [hz]
  have e : comFault c = opsFault c.ops c.when.length c.ops.length 0 := by rw [comFault, if_neg (by simp [hv]), if_neg hb2, if_neg h00, if_neg hz2]
  rw [e]
  refine J_skip ?_
  refine J_seq ?_
  refine Sq mixed [zR 0] [] [1, 2, 4] (fun _ => [zP 1 (nu1 0), zP 2 (nu1 1), zI 4 0]) (fun _ => [(nu1 0, .cells #[.slice (sA b1 off1) c.when.length c1, nI c.place, .slice a2 c.ops.length c2] 28 (0, 0)), (nu1 1, .cells #[nI 0, nI 0] 40 (0, 0))]) (fun _ => ?_)
  refine J_block ?_
  refine J_loopx (fun i : Int => [zP 1 (nu1 0), zP 2 (nu1 1), zI 4 i]) (fun i : Int => [(nu1 0, .cells #[.slice (sA b1 off1) c.when.length c1, nI c.place, .slice a2 c.ops.length c2] 28 (0, 0)), (nu1 1, .cells #[nI 0, nI 0] 40 (0, 0))]) (fun i : Int => []) (fun i : Int => [(.slice (sA b1 off1) c.when.length c1, (dInts c.when)), (.slice a2 c.ops.length c2, (D.sl 7 (List.map eOp c.ops)))]) (fun i : Int => (c.ops.length - i).toNat) (fun i : Int => (0 ≤ i ∧ i ≤ c.ops.length ∧ ∀ j : Nat, 0 ≤ j → j < i.toNat → opErrAt c.ops c.when.length j = 0)) 0 [1, 2, 4] [0, 1] [] [0, 1] ?_ (by kernel_rfl) rfl rfl rfl ?_
  ·exact ⟨by simp, by omega, by simp⟩
  rintro i ⟨hi0, hi, hno⟩
  refine J_seq ?_
  refine Sq mixed [zR 0, zR 1, .rd 2 [.o 0 none] 0 0, zR 3, zR 4] [] [1, 2, 4, 48] (fun _ => [zP 1 (nu1 0), zP 2 (nu1 1), zI 4 i, zB 48 (decide (i < (↑c.ops.length : Int)))]) (fun _ => [(nu1 0, .cells #[.slice (sA b1 off1) c.when.length c1, nI c.place, .slice a2 c.ops.length c2] 28 (0, 0)), (nu1 1, .cells #[nI 0, nI 0] 40 (0, 0))]) (fun _ => ?_)
  refine cC (t := decide (i < (↑c.ops.length : Int))) (fun hlt => ?_) (fun hlt => ?_)
  ·have hlt2 : i < c.ops.length := by simpa using hlt
   obtain ⟨o, ho⟩ : ∃ o, c.ops[i.toNat]? = some o := ⟨_, List.getElem?_eq_getElem (by omega)⟩
   have hit : ∀ k : Nat, opErrAt c.ops c.when.length i.toNat = k → k ≠ 0 → opsFault c.ops c.when.length c.ops.length 0 = ⟨k, i⟩ := fun k hk h0 => by
    rw [(opsFault_from c.ops.length 0 i.toNat (Nat.zero_le _) hno).2 (by omega) (by rw [hk]; exact h0), hk]
    congr 1
    omega
   have next : opErrAt c.ops c.when.length i.toNat = 0 → 0 ≤ i + 1 ∧ i + 1 ≤ c.ops.length ∧ ∀ j : Nat, 0 ≤ j → j < (i + 1).toNat → opErrAt c.ops c.when.length j = 0 := fun h => ⟨by omega, by omega, fun j h0 hj => by
    by_cases hji : j = i.toNat
    ·rw [hji]; exact h
    ·exact hno j h0 (by omega)⟩
   refine J_read1 1 rfl i.toNat (map_at ho) (by kernel_rfl) (fun b2 off2 cs2 ty2 fz2 a2_0 c2_0 ha2 hrd2 => ?_)
   cases ha2
   have hrd2_0 := rd0 (hrd2 0 _ rfl)
   have hrd2_1 := hrd2 1 _ rfl
   have hrd2_2 := hrd2 2 _ rfl
   have hrd2_3 := hrd2 3 _ rfl
   have hrd2_4 := hrd2 4 _ rfl
   have hrd2_5 := hrd2 5 _ rfl
   have hrd2_6 := hrd2 6 _ rfl
   by_cases hi1 : i = 0
   ·have hz0 : i.toNat = 0 := by omega
    try simp only [cAp, nAp, aNl]
    refine J_skip ?_
    refine J_seq ?_
    refine J_block ?_
    refine J_seq ?_
    refine jB mixed [(0, true), (1, true), (2, true), (3, true), (4, true), (5, true), (6, true), (7, true), (8, false), (9, true)] [] ?_
    refine Gs (id := 13) (rest := [(8, false), (9, true)]) [zR 0, .rd 1 [.o 0 none] 0 0, zR 2, .rd 3 [] 0 2, .rd 4 [.r 1 (some (nI o.no)), .r 1 (some (.string o.key)), .r 1 (some (nI o.kind)), .r 1 (some (.string o.text)), .r 1 (some (nI o.n)), .r 1 (some (.bool o.remove)), .r 1 (some (.slice (a2_0, c2_0).fst ((List.map eDot o.dots).length) c2_0))] 0 0, zR 5, .rd 6 [.o 0 none] 0 0, zR 7] [1, 2, 4, 55, 58] (fun _ => [zP 1 (nu1 0), zP 2 (nu1 1), zI 4 i, zV 55 (.agg #[nI o.no, .string o.key, nI o.kind, .string o.text, nI o.n, .bool o.remove, .slice (a2_0, c2_0).fst ((List.map eDot o.dots).length) c2_0]), zI 58 (↑c.when.length : Int)]) (fun _ => [(nu1 0, .cells #[.slice (sA b1 off1) c.when.length c1, nI c.place, .slice (sA b2 off2) c.ops.length c2] 28 (0, 0)), (nu1 1, .cells #[nI 0, nI 0] 40 (0, 0))]) (fun _ => [(0 : Int) ≤ i, i < (↑c.ops.length : Int), cs2[off2 + i.toNat * (7 : Nat)]? = some (nI o.no), cs2[off2 + i.toNat * (7 : Nat) + (1 : Nat)]? = some (Value.string o.key), cs2[off2 + i.toNat * (7 : Nat) + (2 : Nat)]? = some (nI o.kind), cs2[off2 + i.toNat * (7 : Nat) + (3 : Nat)]? = some (Value.string o.text), cs2[off2 + i.toNat * (7 : Nat) + (4 : Nat)]? = some (nI o.n), cs2[off2 + i.toNat * (7 : Nat) + (5 : Nat)]? = some (Value.bool o.remove), cs2[off2 + i.toNat * (7 : Nat) + (6 : Nat)]? = some (Value.slice (a2_0, c2_0).fst (List.map eDot o.dots).length (a2_0, c2_0).snd)]) (fun _ => ⟨hi0, hlt2, hrd2_0, hrd2_1, hrd2_2, hrd2_3, hrd2_4, hrd2_5, hrd2_6, trivial⟩) (fun _ => ?_)
    refine JR_callp [] 15 #[.agg #[.int .i64 o.no, .string o.key, .int .i64 o.kind, .string o.text, .int .i64 o.n, .bool o.remove, .slice (a2_0, c2_0).fst ((List.map eDot o.dots).length) c2_0], .int .i64 (↑c.when.length : Int)] (some 59) (by kernel_rfl) (fun w S hG => ?_)
    refine (opError (o := o) (hG.at 2 rfl)).mono ?_
    rintro e1 w1 hR
    refine ⟨_, _, _, hR, ?_⟩
    by_cases he : opErr o c.when.length = 0
    ·try simp only [List.cons_append, List.nil_append, List.append_nil]
     refine Gr (id := 13) (rest := []) [zR 9] [1, 2, 4, 5] (fun _ => [zP 1 (nu1 0), zP 2 (nu1 1), zI 4 i, zI 5 ((↑(opErr o (↑c.when.length : Int)) : Int))]) (fun _ => [(nu1 0, .cells #[.slice (sA b1 off1) c.when.length c1, nI c.place, .slice (sA b2 off2) c.ops.length c2] 28 (0, 0)), (nu1 1, .cells #[nI 0, nI 0] 40 (0, 0))]) (fun _ => ?_)
     refine JR_end ?_
     refine J_seq ?_
     refine Sp mixed [zR 0, .rd 1 [] 0 6, zR 2, zR 3, .rd 4 [] 0 7, zR 5, zR 6, .rd 7 [] 1 0, .rd 8 [] 1 0, .rd 9 [] 1 0, .rd 10 [] 1 0, .rd 11 [] 1 0, .rd 12 [] 1 0, .rd 13 [] 1 0, .rd 14 [] 1 0, .rd 15 [] 1 0, .rd 16 [] 1 0, .rd 17 [] 1 0, .rd 18 [] 1 0, .rd 19 [] 1 0, .rd 20 [] 1 0, zR 21] [] [1, 2, 4, 5, 81] (fun _ => [zP 1 (nu1 0), zP 2 (nu1 1), zI 4 i, zI 5 ((↑(opErr o (↑c.when.length : Int)) : Int)), zB 81 false]) (fun _ => [(nu1 0, .cells #[.slice (sA b1 off1) c.when.length c1, nI c.place, .slice (sA b2 off2) c.ops.length c2] 28 (0, 0)), (nu1 1, .cells #[nI 0, nI 0] 40 (0, 0))]) (fun _ => [((↑(opErr o (↑c.when.length : Int)) : Int) == (0 : Int)) = true, decide (i > (0 : Int)) = false]) (fun _ => ⟨by simp; omega, by simp; omega, trivial⟩) (fun _ => ?_)
     refine cF ?_
     refine J_skip ?_
     refine Sp mixed [zR 0, .rd 1 [] 0 7] [] [1, 2, 4, 5, 83] (fun _ => [zP 1 (nu1 0), zP 2 (nu1 1), zI 4 i, zI 5 ((↑(opErr o (↑c.when.length : Int)) : Int)), zB 83 false]) (fun _ => [(nu1 0, .cells #[.slice (sA b1 off1) c.when.length c1, nI c.place, .slice (sA b2 off2) c.ops.length c2] 28 (0, 0)), (nu1 1, .cells #[nI 0, nI 0] 40 (0, 0))]) (fun _ => [decide ((↑(opErr o (↑c.when.length : Int)) : Int) > (0 : Int)) = false]) (fun _ => ⟨by simp; omega, trivial⟩) (fun _ => ?_)
     refine cF ?_
     refine J_skip ?_
     refine J_eb ?_
     refine Gp mixed [zR 0, .rd 1 [] 0 1, zR 2] [] [1, 2, 4, 5] (fun _ => [zP 1 (nu1 0), zP 2 (nu1 1), zI 4 (i + 1), zI 5 ((↑(opErr o (↑c.when.length : Int)) : Int))]) (fun _ => [(nu1 0, .cells #[.slice (sA b1 off1) c.when.length c1, nI c.place, .slice (sA b2 off2) c.ops.length c2] 28 (0, 0)), (nu1 1, .cells #[nI 0, nI 0] 40 (0, 0))]) (fun _ => [IntKind.i64.wrap (i + (1 : Int)) = i + (1 : Int)]) (fun _ => ⟨wrap_i64 (by omega) (by omega), trivial⟩) (fun _ => ?_)
     refine J_backx (i + 1) [1, 2, 4] [0, 1] [] [0, 1] ?_ ?_ (by kernel_rfl) rfl rfl rfl
     ·exact next (by rw [hz0] at ho ⊢; exact opErrAt_first ho he)
     ·omega
    ·try simp only [List.cons_append, List.nil_append, List.append_nil]
     refine Gr (id := 13) (rest := []) [zR 9] [1, 2, 4, 5] (fun _ => [zP 1 (nu1 0), zP 2 (nu1 1), zI 4 i, zI 5 ((↑(opErr o (↑c.when.length : Int)) : Int))]) (fun _ => [(nu1 0, .cells #[.slice (sA b1 off1) c.when.length c1, nI c.place, .slice (sA b2 off2) c.ops.length c2] 28 (0, 0)), (nu1 1, .cells #[nI 0, nI 0] 40 (0, 0))]) (fun _ => ?_)
     refine JR_end ?_
     refine J_seq ?_
     refine Sp mixed [zR 0, .rd 1 [] 0 7, zR 2, .rd 3 [] 1 0, .rd 4 [] 1 0, zR 5, zR 6, .rd 7 [] 1 0, .rd 8 [] 1 0, .rd 9 [] 1 0, .rd 10 [] 1 0, .rd 11 [] 1 0, .rd 12 [] 1 0, .rd 13 [] 1 0, .rd 14 [] 1 0, .rd 15 [] 1 0, .rd 16 [] 1 0, .rd 17 [] 1 0, .rd 18 [] 1 0, .rd 19 [] 1 0, .rd 20 [] 1 0, zR 21] [] [1, 2, 4, 5, 81] (fun _ => [zP 1 (nu1 0), zP 2 (nu1 1), zI 4 i, zI 5 ((↑(opErr o (↑c.when.length : Int)) : Int)), zB 81 false]) (fun _ => [(nu1 0, .cells #[.slice (sA b1 off1) c.when.length c1, nI c.place, .slice (sA b2 off2) c.ops.length c2] 28 (0, 0)), (nu1 1, .cells #[nI 0, nI 0] 40 (0, 0))]) (fun _ => [((↑(opErr o (↑c.when.length : Int)) : Int) == (0 : Int)) = false]) (fun _ => ⟨by simp; omega, trivial⟩) (fun _ => ?_)
     refine cF ?_
     refine J_skip ?_
     refine Sp mixed [zR 0, .rd 1 [] 0 6] [] [1, 2, 4, 5, 83] (fun _ => [zP 1 (nu1 0), zP 2 (nu1 1), zI 4 i, zI 5 ((↑(opErr o (↑c.when.length : Int)) : Int)), zB 83 true]) (fun _ => [(nu1 0, .cells #[.slice (sA b1 off1) c.when.length c1, nI c.place, .slice (sA b2 off2) c.ops.length c2] 28 (0, 0)), (nu1 1, .cells #[nI 0, nI 0] 40 (0, 0))]) (fun _ => [decide ((↑(opErr o (↑c.when.length : Int)) : Int) > (0 : Int)) = true]) (fun _ => ⟨by simp; omega, trivial⟩) (fun _ => ?_)
     refine cTt ?_
     refine Sq mixed [zR 0, zR 1, zR 2, .wr 3 [.o 1 none, .o 1 none] 0] [(3, [1])] [1, 2, 4, 5] (fun _ => [zP 1 (nu1 0), zP 2 (nu1 1), zI 4 i, zI 5 ((↑(opErr o (↑c.when.length : Int)) : Int))]) (fun _ => [(nu1 0, .cells #[.slice (sA b1 off1) c.when.length c1, nI c.place, .slice (sA b2 off2) c.ops.length c2] 28 (0, 0)), (nu1 1, .cells #[nI ((↑(opErr o (↑c.when.length : Int)) : Int)), nI i] 40 (0, 0))]) (fun _ => ?_)
     refine J_return [[.o 1 none, .o 1 none]] (.agg #[.int .i64 ((↑(opErr o (↑c.when.length : Int)) : Int)), .int .i64 i]) (by kernel_rfl) (fun a w s => ?_)
     rw [hit _ (opErrAt_own ho he) he]
     exact s.ret (by simp) [] [] rfl rfl
   ·obtain ⟨q, hq⟩ : ∃ q, c.ops[(i - 1).toNat]? = some q := ⟨_, List.getElem?_eq_getElem (by omega)⟩
    have hii : i.toNat = (i - 1).toNat + 1 := by omega
    refine J_again1 1 rfl 1 rfl ((i - 1).toNat) (map_at hq) (by kernel_rfl) (fun a3_0 c3_0 hrd3 => ?_)
    have hrd3_0 := rd0 (hrd3 0 _ rfl)
    have hrd3_1 := hrd3 1 _ rfl
    have hrd3_2 := hrd3 2 _ rfl
    have hrd3_3 := hrd3 3 _ rfl
    have hrd3_4 := hrd3 4 _ rfl
    have hrd3_5 := hrd3 5 _ rfl
    have hrd3_6 := hrd3 6 _ rfl
    try simp only [cAp, nAp, aNl]
    refine J_skip ?_
    refine J_seq ?_
    refine J_block ?_
    refine J_seq ?_
    refine jB mixed [(0, true), (1, true), (2, true), (3, true), (4, true), (5, true), (6, true), (7, true), (8, false), (9, true)] [] ?_
    refine Gs (id := 13) (rest := [(8, false), (9, true)]) [zR 0, .rd 1 [.o 0 none] 0 0, zR 2, .rd 3 [] 0 2, .rd 4 [.r 1 (some (nI o.no)), .r 1 (some (.string o.key)), .r 1 (some (nI o.kind)), .r 1 (some (.string o.text)), .r 1 (some (nI o.n)), .r 1 (some (.bool o.remove)), .r 1 (some (.slice (a2_0, c2_0).fst ((List.map eDot o.dots).length) c2_0))] 0 0, zR 5, .rd 6 [.o 0 none] 0 0, zR 7] [1, 2, 4, 55, 58] (fun _ => [zP 1 (nu1 0), zP 2 (nu1 1), zI 4 i, zV 55 (.agg #[nI o.no, .string o.key, nI o.kind, .string o.text, nI o.n, .bool o.remove, .slice (a2_0, c2_0).fst ((List.map eDot o.dots).length) c2_0]), zI 58 (↑c.when.length : Int)]) (fun _ => [(nu1 0, .cells #[.slice (sA b1 off1) c.when.length c1, nI c.place, .slice (sA b2 off2) c.ops.length c2] 28 (0, 0)), (nu1 1, .cells #[nI 0, nI 0] 40 (0, 0))]) (fun _ => [(0 : Int) ≤ i, i < (↑c.ops.length : Int), cs2[off2 + i.toNat * (7 : Nat)]? = some (nI o.no), cs2[off2 + i.toNat * (7 : Nat) + (1 : Nat)]? = some (Value.string o.key), cs2[off2 + i.toNat * (7 : Nat) + (2 : Nat)]? = some (nI o.kind), cs2[off2 + i.toNat * (7 : Nat) + (3 : Nat)]? = some (Value.string o.text), cs2[off2 + i.toNat * (7 : Nat) + (4 : Nat)]? = some (nI o.n), cs2[off2 + i.toNat * (7 : Nat) + (5 : Nat)]? = some (Value.bool o.remove), cs2[off2 + i.toNat * (7 : Nat) + (6 : Nat)]? = some (Value.slice (a2_0, c2_0).fst (List.map eDot o.dots).length (a2_0, c2_0).snd)]) (fun _ => ⟨hi0, hlt2, hrd2_0, hrd2_1, hrd2_2, hrd2_3, hrd2_4, hrd2_5, hrd2_6, trivial⟩) (fun _ => ?_)
    refine JR_callp [] 15 #[.agg #[.int .i64 o.no, .string o.key, .int .i64 o.kind, .string o.text, .int .i64 o.n, .bool o.remove, .slice (a2_0, c2_0).fst ((List.map eDot o.dots).length) c2_0], .int .i64 (↑c.when.length : Int)] (some 59) (by kernel_rfl) (fun w S hG => ?_)
    refine (opError (o := o) (hG.at 2 rfl)).mono ?_
    rintro e1 w1 hR
    refine ⟨_, _, _, hR, ?_⟩
    by_cases he : opErr o c.when.length = 0
    ·have hn := opErrAt_next (p := c.when.length) (by rw [← hii]; exact ho) hq he
     rw [← hii] at hn
     by_cases hno2 : o.no ≤ q.no
     ·rw [if_pos hno2] at hn
      try simp only [cAp, nAp, aNl]
      refine Gr (id := 13) (rest := []) [zR 9] [1, 2, 4, 5] (fun _ => [zP 1 (nu1 0), zP 2 (nu1 1), zI 4 i, zI 5 ((↑(opErr o (↑c.when.length : Int)) : Int))]) (fun _ => [(nu1 0, .cells #[.slice (sA b1 off1) c.when.length c1, nI c.place, .slice (sA b2 off2) c.ops.length c2] 28 (0, 0)), (nu1 1, .cells #[nI 0, nI 0] 40 (0, 0))]) (fun _ => ?_)
      refine JR_end ?_
      refine J_seq ?_
      refine Sp mixed [zR 0, .rd 1 [] 0 6, zR 2, zR 3, .rd 4 [] 0 6, zR 5, zR 6, zR 7, .rd 8 [.o 0 none] 0 0, zR 9, .rd 10 [] 0 2, zR 11, .rd 12 [.r 1 (some (nI o.no))] 0 0, zR 13, .rd 14 [.o 0 none] 0 0, zR 15, .rd 16 [] 0 1, .rd 17 [] 0 2, zR 18, .rd 19 [.r 1 (some (nI q.no))] 0 0, .rd 20 [] 0 6, zR 21] [] [1, 2, 4, 5, 81] (fun _ => [zP 1 (nu1 0), zP 2 (nu1 1), zI 4 i, zI 5 ((↑(opErr o (↑c.when.length : Int)) : Int)), zB 81 true]) (fun _ => [(nu1 0, .cells #[.slice (sA b1 off1) c.when.length c1, nI c.place, .slice (sA b2 off2) c.ops.length c2] 28 (0, 0)), (nu1 1, .cells #[nI 0, nI 0] 40 (0, 0))]) (fun _ => [((↑(opErr o (↑c.when.length : Int)) : Int) == (0 : Int)) = true, decide (i > (0 : Int)) = true, (0 : Int) ≤ i, i < (↑c.ops.length : Int), cs2[off2 + i.toNat * (7 : Nat)]? = some (nI o.no), IntKind.i64.wrap (i - (1 : Int)) = i - (1 : Int), (0 : Int) ≤ i - (1 : Int), i - (1 : Int) < (↑c.ops.length : Int), cs2[off2 + (i - (1 : Int)).toNat * (7 : Nat)]? = some (nI q.no), decide (o.no ≤ q.no) = true]) (fun _ => ⟨by simp; omega, by simp; omega, hi0, hlt2, hrd2_0, wrap_i64 (by omega) (by omega), by omega, by omega, hrd3_0, by simp; omega, trivial⟩) (fun _ => ?_)
      refine cTt ?_
      refine Gq mixed [zR 0] [] [1, 2, 4, 5] (fun _ => [zP 1 (nu1 0), zP 2 (nu1 1), zI 4 i, zI 5 3]) (fun _ => [(nu1 0, .cells #[.slice (sA b1 off1) c.when.length c1, nI c.place, .slice (sA b2 off2) c.ops.length c2] 28 (0, 0)), (nu1 1, .cells #[nI 0, nI 0] 40 (0, 0))]) (fun _ => ?_)
      refine Sq mixed [zR 0, zR 1] [] [1, 2, 4, 5, 83] (fun _ => [zP 1 (nu1 0), zP 2 (nu1 1), zI 4 i, zI 5 3, zB 83 true]) (fun _ => [(nu1 0, .cells #[.slice (sA b1 off1) c.when.length c1, nI c.place, .slice (sA b2 off2) c.ops.length c2] 28 (0, 0)), (nu1 1, .cells #[nI 0, nI 0] 40 (0, 0))]) (fun _ => ?_)
      refine cTt ?_
      refine Sq mixed [zR 0, zR 1, zR 2, .wr 3 [.o 1 none, .o 1 none] 0] [(3, [1])] [1, 2, 4, 5] (fun _ => [zP 1 (nu1 0), zP 2 (nu1 1), zI 4 i, zI 5 3]) (fun _ => [(nu1 0, .cells #[.slice (sA b1 off1) c.when.length c1, nI c.place, .slice (sA b2 off2) c.ops.length c2] 28 (0, 0)), (nu1 1, .cells #[nI 3, nI i] 40 (0, 0))]) (fun _ => ?_)
      refine J_return [[.o 1 none, .o 1 none]] (.agg #[.int .i64 3, .int .i64 i]) (by kernel_rfl) (fun a w s => ?_)
      rw [hit _ hn (by decide)]
      exact s.ret (by simp) [] [] rfl rfl
     ·rw [if_neg hno2] at hn
      try simp only [cAp, nAp, aNl]
      refine Gr (id := 13) (rest := []) [zR 9] [1, 2, 4, 5] (fun _ => [zP 1 (nu1 0), zP 2 (nu1 1), zI 4 i, zI 5 ((↑(opErr o (↑c.when.length : Int)) : Int))]) (fun _ => [(nu1 0, .cells #[.slice (sA b1 off1) c.when.length c1, nI c.place, .slice (sA b2 off2) c.ops.length c2] 28 (0, 0)), (nu1 1, .cells #[nI 0, nI 0] 40 (0, 0))]) (fun _ => ?_)
      refine JR_end ?_
      refine J_seq ?_
      refine Sp mixed [zR 0, .rd 1 [] 0 6, zR 2, zR 3, .rd 4 [] 0 6, zR 5, zR 6, zR 7, .rd 8 [.o 0 none] 0 0, zR 9, .rd 10 [] 0 2, zR 11, .rd 12 [.r 1 (some (nI o.no))] 0 0, zR 13, .rd 14 [.o 0 none] 0 0, zR 15, .rd 16 [] 0 1, .rd 17 [] 0 2, zR 18, .rd 19 [.r 1 (some (nI q.no))] 0 0, .rd 20 [] 0 7, zR 21] [] [1, 2, 4, 5, 81] (fun _ => [zP 1 (nu1 0), zP 2 (nu1 1), zI 4 i, zI 5 ((↑(opErr o (↑c.when.length : Int)) : Int)), zB 81 false]) (fun _ => [(nu1 0, .cells #[.slice (sA b1 off1) c.when.length c1, nI c.place, .slice (sA b2 off2) c.ops.length c2] 28 (0, 0)), (nu1 1, .cells #[nI 0, nI 0] 40 (0, 0))]) (fun _ => [((↑(opErr o (↑c.when.length : Int)) : Int) == (0 : Int)) = true, decide (i > (0 : Int)) = true, (0 : Int) ≤ i, i < (↑c.ops.length : Int), cs2[off2 + i.toNat * (7 : Nat)]? = some (nI o.no), IntKind.i64.wrap (i - (1 : Int)) = i - (1 : Int), (0 : Int) ≤ i - (1 : Int), i - (1 : Int) < (↑c.ops.length : Int), cs2[off2 + (i - (1 : Int)).toNat * (7 : Nat)]? = some (nI q.no), decide (o.no ≤ q.no) = false]) (fun _ => ⟨by simp; omega, by simp; omega, hi0, hlt2, hrd2_0, wrap_i64 (by omega) (by omega), by omega, by omega, hrd3_0, by simp; omega, trivial⟩) (fun _ => ?_)
      refine cF ?_
      refine J_skip ?_
      refine Sp mixed [zR 0, .rd 1 [] 0 7] [] [1, 2, 4, 5, 83] (fun _ => [zP 1 (nu1 0), zP 2 (nu1 1), zI 4 i, zI 5 ((↑(opErr o (↑c.when.length : Int)) : Int)), zB 83 false]) (fun _ => [(nu1 0, .cells #[.slice (sA b1 off1) c.when.length c1, nI c.place, .slice (sA b2 off2) c.ops.length c2] 28 (0, 0)), (nu1 1, .cells #[nI 0, nI 0] 40 (0, 0))]) (fun _ => [decide ((↑(opErr o (↑c.when.length : Int)) : Int) > (0 : Int)) = false]) (fun _ => ⟨by simp; omega, trivial⟩) (fun _ => ?_)
      refine cF ?_
      refine J_skip ?_
      refine J_eb ?_
      refine Gp mixed [zR 0, .rd 1 [] 0 1, zR 2] [] [1, 2, 4, 5] (fun _ => [zP 1 (nu1 0), zP 2 (nu1 1), zI 4 (i + 1), zI 5 ((↑(opErr o (↑c.when.length : Int)) : Int))]) (fun _ => [(nu1 0, .cells #[.slice (sA b1 off1) c.when.length c1, nI c.place, .slice (sA b2 off2) c.ops.length c2] 28 (0, 0)), (nu1 1, .cells #[nI 0, nI 0] 40 (0, 0))]) (fun _ => [IntKind.i64.wrap (i + (1 : Int)) = i + (1 : Int)]) (fun _ => ⟨wrap_i64 (by omega) (by omega), trivial⟩) (fun _ => ?_)
      refine J_backx (i + 1) [1, 2, 4] [0, 1] [] [0, 1] ?_ ?_ (by kernel_rfl) rfl rfl rfl
      ·exact next hn
      ·omega
    ·try simp only [List.cons_append, List.nil_append, List.append_nil]
     refine Gr (id := 13) (rest := []) [zR 9] [1, 2, 4, 5] (fun _ => [zP 1 (nu1 0), zP 2 (nu1 1), zI 4 i, zI 5 ((↑(opErr o (↑c.when.length : Int)) : Int))]) (fun _ => [(nu1 0, .cells #[.slice (sA b1 off1) c.when.length c1, nI c.place, .slice (sA b2 off2) c.ops.length c2] 28 (0, 0)), (nu1 1, .cells #[nI 0, nI 0] 40 (0, 0))]) (fun _ => ?_)
     refine JR_end ?_
     refine J_seq ?_
     refine Sp mixed [zR 0, .rd 1 [] 0 7, zR 2, .rd 3 [] 1 0, .rd 4 [] 1 0, zR 5, zR 6, .rd 7 [] 1 0, .rd 8 [] 1 0, .rd 9 [] 1 0, .rd 10 [] 1 0, .rd 11 [] 1 0, .rd 12 [] 1 0, .rd 13 [] 1 0, .rd 14 [] 1 0, .rd 15 [] 1 0, .rd 16 [] 1 0, .rd 17 [] 1 0, .rd 18 [] 1 0, .rd 19 [] 1 0, .rd 20 [] 1 0, zR 21] [] [1, 2, 4, 5, 81] (fun _ => [zP 1 (nu1 0), zP 2 (nu1 1), zI 4 i, zI 5 ((↑(opErr o (↑c.when.length : Int)) : Int)), zB 81 false]) (fun _ => [(nu1 0, .cells #[.slice (sA b1 off1) c.when.length c1, nI c.place, .slice (sA b2 off2) c.ops.length c2] 28 (0, 0)), (nu1 1, .cells #[nI 0, nI 0] 40 (0, 0))]) (fun _ => [((↑(opErr o (↑c.when.length : Int)) : Int) == (0 : Int)) = false]) (fun _ => ⟨by simp; omega, trivial⟩) (fun _ => ?_)
     refine cF ?_
     refine J_skip ?_
     refine Sp mixed [zR 0, .rd 1 [] 0 6] [] [1, 2, 4, 5, 83] (fun _ => [zP 1 (nu1 0), zP 2 (nu1 1), zI 4 i, zI 5 ((↑(opErr o (↑c.when.length : Int)) : Int)), zB 83 true]) (fun _ => [(nu1 0, .cells #[.slice (sA b1 off1) c.when.length c1, nI c.place, .slice (sA b2 off2) c.ops.length c2] 28 (0, 0)), (nu1 1, .cells #[nI 0, nI 0] 40 (0, 0))]) (fun _ => [decide ((↑(opErr o (↑c.when.length : Int)) : Int) > (0 : Int)) = true]) (fun _ => ⟨by simp; omega, trivial⟩) (fun _ => ?_)
     refine cTt ?_
     refine Sq mixed [zR 0, zR 1, zR 2, .wr 3 [.o 1 none, .o 1 none] 0] [(3, [1])] [1, 2, 4, 5] (fun _ => [zP 1 (nu1 0), zP 2 (nu1 1), zI 4 i, zI 5 ((↑(opErr o (↑c.when.length : Int)) : Int))]) (fun _ => [(nu1 0, .cells #[.slice (sA b1 off1) c.when.length c1, nI c.place, .slice (sA b2 off2) c.ops.length c2] 28 (0, 0)), (nu1 1, .cells #[nI ((↑(opErr o (↑c.when.length : Int)) : Int)), nI i] 40 (0, 0))]) (fun _ => ?_)
     refine J_return [[.o 1 none, .o 1 none]] (.agg #[.int .i64 ((↑(opErr o (↑c.when.length : Int)) : Int)), .int .i64 i]) (by kernel_rfl) (fun a w s => ?_)
     rw [hit _ (opErrAt_own ho he) he]
     exact s.ret (by simp) [] [] rfl rfl
  ·have hend : i.toNat = 0 + c.ops.length := by simp at hlt; omega
   rw [(opsFault_from c.ops.length 0 i.toNat (Nat.zero_le _) hno).1 hend]
   refine J_exit rfl ?_
   refine J_seq ?_
   refine jB mixed [(0, false), (1, false)] [] ?_
   refine JR_callp [] 60 #[] (some 87) (by kernel_rfl) (fun w S hG => ?_)
   refine (rFine (w := w) (S := S)).mono ?_
   rintro e1 w1 hR
   refine ⟨_, _, _, hR, ?_⟩
   try simp only [cAp, nAp, aNl]
   refine Gr (id := 18) (rest := []) [.wr 1 [.o 1 none, .o 1 none] 0] [2] (fun _ => [zP 2 (nu1 1)]) (fun _ => [(nu1 0, .cells #[.slice (sA b1 off1) c.when.length c1, nI c.place, .slice a2 c.ops.length c2] 28 (0, 0)), (nu1 1, .cells #[nI 0, nI (-1)] 40 (0, 0))]) (fun _ => ?_)
   refine JR_end ?_
   refine J_return [[.o 1 none, .o 1 none]] (.agg #[.int .i64 0, .int .i64 (-1)]) (by kernel_rfl) (fun a w s => ?_)
   exact s.ret (by simp) [] [] rfl rfl
 ·have e : comFault c = ⟨vecErr c.when, -1⟩ := by rw [comFault, if_pos hv]
  try simp only [cAp, nAp, aNl]
  refine Gr (id := 1) (rest := []) [zR 3] [1, 2, 3] (fun _ => [zP 1 (nu1 0), zP 2 (nu1 1), zI 3 ((↑(vecErr c.when) : Int))]) (fun _ => [(nu1 0, .cells #[.slice a1 c.when.length c1, nI c.place, .slice a2 c.ops.length c2] 28 (0, 0)), (nu1 1, .cells #[nI 0, nI 0] 40 (0, 0))]) (fun _ => ?_)
  refine JR_end ?_
  refine J_seq ?_
  refine Sp mixed [zR 0, .rd 1 [] 0 6] [] [1, 2, 3, 10] (fun _ => [zP 1 (nu1 0), zP 2 (nu1 1), zI 3 ((↑(vecErr c.when) : Int)), zB 10 true]) (fun _ => [(nu1 0, .cells #[.slice a1 c.when.length c1, nI c.place, .slice a2 c.ops.length c2] 28 (0, 0)), (nu1 1, .cells #[nI 0, nI 0] 40 (0, 0))]) (fun _ => [decide ((↑(vecErr c.when) : Int) > (0 : Int)) = true]) (fun _ => ⟨by simp; omega, trivial⟩) (fun _ => ?_)
  refine cTt ?_
  refine J_seq ?_
  refine jB mixed [(0, true), (1, false), (2, false)] [] ?_
  refine Gr (id := 3) (rest := [(1, false), (2, false)]) [zR 0] [1, 2, 11] (fun _ => [zP 1 (nu1 0), zP 2 (nu1 1), zI 11 ((↑(vecErr c.when) : Int))]) (fun _ => [(nu1 0, .cells #[.slice a1 c.when.length c1, nI c.place, .slice a2 c.ops.length c2] 28 (0, 0)), (nu1 1, .cells #[nI 0, nI 0] 40 (0, 0))]) (fun _ => ?_)
  refine JR_callp [] 26 #[.int .i64 ((↑(vecErr c.when) : Int))] (some 12) (by kernel_rfl) (fun w S hG => ?_)
  refine (rBare (w := w) (S := S)).mono ?_
  rintro e1 w1 hR
  refine ⟨_, _, _, hR, ?_⟩
  try simp only [cAp, nAp, aNl]
  refine Gr (id := 3) (rest := []) [.wr 2 [.o 1 none, .o 1 none] 0] [1, 2] (fun _ => [zP 1 (nu1 0), zP 2 (nu1 1)]) (fun _ => [(nu1 0, .cells #[.slice a1 c.when.length c1, nI c.place, .slice a2 c.ops.length c2] 28 (0, 0)), (nu1 1, .cells #[nI ((↑(vecErr c.when) : Int)), nI (-1)] 40 (0, 0))]) (fun _ => ?_)
  refine JR_end ?_
  refine J_return [[.o 1 none, .o 1 none]] (.agg #[.int .i64 ((↑(vecErr c.when) : Int)), .int .i64 (-1)]) (by kernel_rfl) (fun a w s => ?_)
  rw [e]
  exact s.ret (by simp) [] [] rfl rfl
end Go.Proofs.YtpjkiomccpjboaaGreatDoor
namespace Go.Proofs.YtpjkiomccpjboaaGreatDoor
open Go Go.Sx
def FRet (w : World) (S : Nat → Prop) (w' : World) (e : Ending) (er : Nat → Addr) (f : FT) : Prop :=
 (f.at' = -1 ∧ ∃ v, Ret [] w S w' e v [] [] ∧ ErrIs 243 er f.code v) ∨
 (1 ≤ f.code ∧ 0 ≤ f.at' ∧ ∃ pb, Ret [] w S w' e (.iface 102 (.pointer (some ⟨pb, 0, none⟩))) [] [(.pointer (some ⟨pb, 0, none⟩), .ptr [.v (.int .i64 f.at'), .v (.iface 243 (.pointer (some (er f.code))))])])
set_option maxHeartbeats 2000000 in
theorem checkCommit {w : World} {S : Nat → Prop} {er : Nat → Addr} {eb : Nat → Array Value × TypeId} {a1 a2 : Option Addr} {n1 c1 n2 c2 : Nat} {c : ComT} (hC : Rep w S .nilIface (dC er eb)) (h1 : Rep w S (.slice a1 n1 c1) (dInts c.when)) (h2 : Rep w S (.slice a2 n2 c2) (.sl 7 (c.ops.map eOp))) (hl1 : c.when.length ≤ 1000000) (hl2 : c.ops.length ≤ 1000000) :
  Calls Tryz.prog 17 #[.agg #[.slice a1 n1 c1, .int .i64 c.place, .slice a2 n2 c2]] w fun e w' => FRet w S w' e er (comFault c) := by
 obtain rfl := rep_ints_len h1
 have e2 := h2.slen
 rw [List.length_map] at e2
 subst e2
 refine ep17 (args := [.agg #[.slice a1 c.when.length c1, .int .i64 c.place, .slice a2 c.ops.length c2]]) (G := [(_, dC er eb), (_, dInts c.when), (_, .sl 7 (c.ops.map eOp))]) (by kernel_rfl) (.cons hC (.cons h1 (.cons h2 (.nil _ _)))) ?_
 refine J_stp (stp_all 0 [1, 2] rfl rfl) ?_
 refine J_glob 3 rfl (fun csg1 tyg1 fzg1 hglob1 => ?_)
 refine J_glob 4 rfl (fun csg2 tyg2 fzg2 hglob2 => ?_)
 try simp only [cAp, nAp, aNl]
 refine Sq mixed [.wr 0 [] 0, zR 1] [] [1, 2] (fun nu1 => [zP 1 (nu1 0), zV 2 .nilIface]) (fun nu1 => [(nu1 0, .cells #[.slice a1 c.when.length c1, nI c.place, .slice a2 c.ops.length c2] 28 (0, 0))]) (fun nu1 => ?_)
 refine J_seq ?_
 refine J_seq ?_
 refine jB mixed [(0, true), (1, true), (2, false), (3, true)] [] ?_
 refine Gr (id := 1) (rest := [(2, false), (3, true)]) [zR 0, .rd 1 [.o 0 none] 0 0] [1, 2, 8] (fun _ => [zP 1 (nu1 0), zV 2 .nilIface, zS 8 a1 c.when.length c1]) (fun _ => [(nu1 0, .cells #[.slice a1 c.when.length c1, nI c.place, .slice a2 c.ops.length c2] 28 (0, 0))]) (fun _ => ?_)
 refine JR_callp [] 59 #[.slice a1 c.when.length c1] (some 9) (by kernel_rfl) (fun w S hG => ?_)
 refine (vcheck (globs_of (hG.at 0 rfl)) (hG.at 1 rfl) hl1).mono ?_
 rintro e1 w1 ⟨v, hR, hv⟩
 refine ⟨_, _, _, hR, ?_⟩
 obtain ⟨hv0, rfl⟩ | ⟨hv0, rfl⟩ := hv
 ·try simp only [List.cons_append, List.nil_append, List.append_nil]
  refine Gr (id := 1) (rest := []) [zR 3] [1, 2, 3] (fun _ => [zP 1 (nu1 0), zV 2 .nilIface, zV 3 .nilIface]) (fun _ => [(nu1 0, .cells #[.slice a1 c.when.length c1, nI c.place, .slice a2 c.ops.length c2] 28 (0, 0))]) (fun _ => ?_)
  refine JR_end ?_
  refine Sq mixed [zR 0, zR 1] [] [1, 2, 3, 11] (fun _ => [zP 1 (nu1 0), zV 2 .nilIface, zV 3 .nilIface, zB 11 false]) (fun _ => [(nu1 0, .cells #[.slice a1 c.when.length c1, nI c.place, .slice a2 c.ops.length c2] 28 (0, 0))]) (fun _ => ?_)
  refine cF ?_
  refine J_skip ?_
  refine J_seq ?_
  refine J_seq ?_
  by_cases hb : c.place < 0 ∨ c.when.length ≤ c.place
  ·have e : comFault c = ⟨2, -1⟩ := by rw [comFault, if_neg (by simp [hv0]), if_pos (by omega)]
   rcases (by omega : c.place < 0 ∨ (0 ≤ c.place ∧ c.when.length ≤ c.place)) with hb1 | ⟨hb1, hb2⟩
   ·refine J_reg mixed [.rd 0 [] 0 0, .rd 1 [.o 0 none] 0 0, .rd 2 [] 0 6, .rd 3 [] 0 0, .rd 4 [] 1 0, .rd 5 [] 1 0, .rd 6 [] 1 0, .rd 7 [] 1 0, .rd 8 [] 1 0, .rd 9 [] 1 0, .rd 10 [] 0 0, .rd 11 [] 0 0, .rd 12 [] 1 0, .rd 13 [] 1 0, .rd 14 [] 1 0, .rd 15 [] 1 0, .rd 16 [] 1 0, .rd 17 [] 1 0, .rd 18 [] 1 0, .rd 19 [] 0 0, .rd 20 [] 0 0, .rd 21 [] 1 0, .rd 22 [] 1 0, .rd 23 [] 1 0, .rd 24 [] 1 0, .rd 25 [] 0 0] [] [1, 2, 38] (E1 := fun _ => [(1, .val (.pointer (some (⟨nu1 0, 0, none⟩)))), (2, .val (.nilIface)), (38, .val (.bool true))]) (h1 := fun _ => [(nu1 0, .cells #[.slice a1 c.when.length c1, .int .i64 c.place, .slice a2 c.ops.length c2] 28 (0, 0))]) (p1 := fun _ => [decide (c.place < (0 : Int)) = true]) (W1 := []) (by kernel_rfl) (fun _ => by kernel_rfl) (fun _ => ⟨by simp; omega, trivial⟩) (fun _ => ?_)
    refine cTt ?_
    refine Sp mixed [.rd 0 [.r 0 (some (.iface 243 (.pointer (some (er 2)))))] 0 0, zR 1] [] [1, 2] (fun _ => [zP 1 (nu1 0), zV 2 (.iface 243 (.pointer (some (er 2))))]) (fun _ => [(nu1 0, .cells #[.slice a1 c.when.length c1, nI c.place, .slice a2 c.ops.length c2] 28 (0, 0))]) (fun _ => [csg1[(0 : Nat)]? = some (Value.iface (243 : Nat) (Value.pointer (some (er (2 : Nat)))))]) (fun _ => ⟨hglob1, trivial⟩) (fun _ => ?_)
    refine J_return [[]] (.iface 243 (.pointer (some (er 2)))) (by kernel_rfl) (fun a w s => ?_)
    rw [e]
    exact .inl ⟨rfl, _, s.ret (by simp) [] [] rfl rfl, .inr ⟨by decide, rfl⟩⟩
   ·refine J_reg mixed [.rd 0 [] 0 0, .rd 1 [.o 0 none] 0 0, .rd 2 [] 0 7, .rd 3 [] 0 0, .rd 4 [] 0 0, .rd 5 [.o 0 none] 0 0, .rd 6 [] 0 0, .rd 7 [.o 0 none] 0 0, .rd 8 [] 0 0, .rd 9 [] 0 6, .rd 10 [] 0 0, .rd 11 [] 0 0, .rd 12 [] 1 0, .rd 13 [] 1 0, .rd 14 [] 1 0, .rd 15 [] 1 0, .rd 16 [] 1 0, .rd 17 [] 1 0, .rd 18 [] 1 0, .rd 19 [] 0 0, .rd 20 [] 0 0, .rd 21 [] 1 0, .rd 22 [] 1 0, .rd 23 [] 1 0, .rd 24 [] 1 0, .rd 25 [] 0 0] [] [1, 2, 38] (E1 := fun _ => [(1, .val (.pointer (some (⟨nu1 0, 0, none⟩)))), (2, .val (.nilIface)), (38, .val (.bool true))]) (h1 := fun _ => [(nu1 0, .cells #[.slice a1 c.when.length c1, .int .i64 c.place, .slice a2 c.ops.length c2] 28 (0, 0))]) (p1 := fun _ => [decide (c.place < (0 : Int)) = false, decide (c.place ≥ (↑c.when.length : Int)) = true]) (W1 := []) (by kernel_rfl) (fun _ => by kernel_rfl) (fun _ => ⟨by simp; omega, by simp; omega, trivial⟩) (fun _ => ?_)
    refine cTt ?_
    refine Sp mixed [.rd 0 [.r 0 (some (.iface 243 (.pointer (some (er 2)))))] 0 0, zR 1] [] [1, 2] (fun _ => [zP 1 (nu1 0), zV 2 (.iface 243 (.pointer (some (er 2))))]) (fun _ => [(nu1 0, .cells #[.slice a1 c.when.length c1, nI c.place, .slice a2 c.ops.length c2] 28 (0, 0))]) (fun _ => [csg1[(0 : Nat)]? = some (Value.iface (243 : Nat) (Value.pointer (some (er (2 : Nat)))))]) (fun _ => ⟨hglob1, trivial⟩) (fun _ => ?_)
    refine J_return [[]] (.iface 243 (.pointer (some (er 2)))) (by kernel_rfl) (fun a w s => ?_)
    rw [e]
    exact .inl ⟨rfl, _, s.ret (by simp) [] [] rfl rfl, .inr ⟨by decide, rfl⟩⟩
  obtain ⟨t, ht⟩ : ∃ t, c.when[c.place.toNat]? = some t := ⟨_, List.getElem?_eq_getElem (by omega)⟩
  have hg : ¬ (vecErr c.when ≠ 0) := by simp [hv0]
  refine J_read0 1 rfl c.place.toNat (map_at ht) (by kernel_rfl) (fun b1 off1 cs1 ty1 fz1 ha1 hrd1 => ?_)
  cases ha1
  have hrd1_0 := rd0 (hrd1 0 _ rfl)
  by_cases h0 : t = 0
  ·have e : comFault c = ⟨2, -1⟩ := by
    by_cases h12 : 12 < c.ops.length
    ·rw [comFault, if_neg hg, if_pos (by omega)]
    ·rw [comFault, if_neg hg, if_neg (by omega), if_pos (by rw [ht, h0])]
   try simp only [cAp, nAp, aNl]
   refine Gp mixed [zR 0, .rd 1 [.o 0 none] 0 0, .rd 2 [] 0 7, zR 3, zR 4, .rd 5 [.o 0 none] 0 0, zR 6, .rd 7 [.o 0 none] 0 0, zR 8, .rd 9 [] 0 7, zR 10, zR 11, zR 12, .rd 13 [.o 0 none] 0 0, zR 14, .rd 15 [.o 0 none] 0 0, .rd 16 [] 0 2, .rd 17 [.r 2 (some (nI t))] 0 0, .rd 18 [] 0 6, zR 19, zR 20, .rd 21 [] 1 0, .rd 22 [] 1 0, .rd 23 [] 1 0, .rd 24 [] 1 0, zR 25] [] [1, 2, 38] (fun _ => [zP 1 (nu1 0), zV 2 .nilIface, zB 38 true]) (fun _ => [(nu1 0, .cells #[.slice (sA b1 off1) c.when.length c1, nI c.place, .slice a2 c.ops.length c2] 28 (0, 0))]) (fun _ => [decide (c.place < (0 : Int)) = false, decide (c.place ≥ (↑c.when.length : Int)) = false, (0 : Int) ≤ c.place, c.place < (↑c.when.length : Int), cs1[off1 + c.place.toNat * (1 : Nat)]? = some (nI t), (t == (0 : Int)) = true]) (fun _ => ⟨by simp; omega, by simp; omega, by omega, by omega, hrd1_0, by simp; omega, trivial⟩) (fun _ => ?_)
   refine cTt ?_
   refine Sp mixed [.rd 0 [.r 0 (some (.iface 243 (.pointer (some (er 2)))))] 0 0, zR 1] [] [1, 2] (fun _ => [zP 1 (nu1 0), zV 2 (.iface 243 (.pointer (some (er 2))))]) (fun _ => [(nu1 0, .cells #[.slice (sA b1 off1) c.when.length c1, nI c.place, .slice a2 c.ops.length c2] 28 (0, 0))]) (fun _ => [csg1[(0 : Nat)]? = some (Value.iface (243 : Nat) (Value.pointer (some (er (2 : Nat)))))]) (fun _ => ⟨hglob1, trivial⟩) (fun _ => ?_)
   refine J_return [[]] (.iface 243 (.pointer (some (er 2)))) (by kernel_rfl) (fun a w s => ?_)
   rw [e]
   exact .inl ⟨rfl, _, s.ret (by simp) [] [] rfl rfl, .inr ⟨by decide, rfl⟩⟩
  have h00 : ¬ c.when[c.place.toNat]? = some 0 := by rw [ht]; simpa using h0
  by_cases h12 : 12 < c.ops.length
  ·have e : comFault c = ⟨2, -1⟩ := by rw [comFault, if_neg hg, if_pos (by omega)]
   try simp only [cAp, nAp, aNl]
   refine Gp mixed [zR 0, .rd 1 [.o 0 none] 0 0, .rd 2 [] 0 7, zR 3, zR 4, .rd 5 [.o 0 none] 0 0, zR 6, .rd 7 [.o 0 none] 0 0, zR 8, .rd 9 [] 0 7, zR 10, zR 11, zR 12, .rd 13 [.o 0 none] 0 0, zR 14, .rd 15 [.o 0 none] 0 0, .rd 16 [] 0 2, .rd 17 [.r 2 (some (nI t))] 0 0, .rd 18 [] 0 7, zR 19, zR 20, zR 21, .rd 22 [.o 0 none] 0 0, zR 23, .rd 24 [] 0 6, zR 25] [] [1, 2, 38] (fun _ => [zP 1 (nu1 0), zV 2 .nilIface, zB 38 true]) (fun _ => [(nu1 0, .cells #[.slice (sA b1 off1) c.when.length c1, nI c.place, .slice a2 c.ops.length c2] 28 (0, 0))]) (fun _ => [decide (c.place < (0 : Int)) = false, decide (c.place ≥ (↑c.when.length : Int)) = false, (0 : Int) ≤ c.place, c.place < (↑c.when.length : Int), cs1[off1 + c.place.toNat * (1 : Nat)]? = some (nI t), (t == (0 : Int)) = false, decide ((↑c.ops.length : Int) > (12 : Int)) = true]) (fun _ => ⟨by simp; omega, by simp; omega, by omega, by omega, hrd1_0, by simp; omega, by simp; omega, trivial⟩) (fun _ => ?_)
   refine cTt ?_
   refine Sp mixed [.rd 0 [.r 0 (some (.iface 243 (.pointer (some (er 2)))))] 0 0, zR 1] [] [1, 2] (fun _ => [zP 1 (nu1 0), zV 2 (.iface 243 (.pointer (some (er 2))))]) (fun _ => [(nu1 0, .cells #[.slice (sA b1 off1) c.when.length c1, nI c.place, .slice a2 c.ops.length c2] 28 (0, 0))]) (fun _ => [csg1[(0 : Nat)]? = some (Value.iface (243 : Nat) (Value.pointer (some (er (2 : Nat)))))]) (fun _ => ⟨hglob1, trivial⟩) (fun _ => ?_)
   refine J_return [[]] (.iface 243 (.pointer (some (er 2)))) (by kernel_rfl) (fun a w s => ?_)
   rw [e]
   exact .inl ⟨rfl, _, s.ret (by simp) [] [] rfl rfl, .inr ⟨by decide, rfl⟩⟩
  have hb2 : ¬ (c.place < 0 ∨ c.when.length ≤ c.place ∨ 12 < c.ops.length) := by omega
  try simp only [cAp, nAp, aNl]
  refine Gp mixed [zR 0, .rd 1 [.o 0 none] 0 0, .rd 2 [] 0 7, zR 3, zR 4, .rd 5 [.o 0 none] 0 0, zR 6, .rd 7 [.o 0 none] 0 0, zR 8, .rd 9 [] 0 7, zR 10, zR 11, zR 12, .rd 13 [.o 0 none] 0 0, zR 14, .rd 15 [.o 0 none] 0 0, .rd 16 [] 0 2, .rd 17 [.r 2 (some (nI t))] 0 0, .rd 18 [] 0 7, zR 19, zR 20, zR 21, .rd 22 [.o 0 none] 0 0, zR 23, .rd 24 [] 0 7, zR 25] [] [1, 2, 38] (fun _ => [zP 1 (nu1 0), zV 2 .nilIface, zB 38 false]) (fun _ => [(nu1 0, .cells #[.slice (sA b1 off1) c.when.length c1, nI c.place, .slice a2 c.ops.length c2] 28 (0, 0))]) (fun _ => [decide (c.place < (0 : Int)) = false, decide (c.place ≥ (↑c.when.length : Int)) = false, (0 : Int) ≤ c.place, c.place < (↑c.when.length : Int), cs1[off1 + c.place.toNat * (1 : Nat)]? = some (nI t), (t == (0 : Int)) = false, decide ((↑c.ops.length : Int) > (12 : Int)) = false]) (fun _ => ⟨by simp; omega, by simp; omega, by omega, by omega, hrd1_0, by simp; omega, by simp; omega, trivial⟩) (fun _ => ?_)
  refine cF ?_
  refine J_skip ?_
  refine J_seq ?_
  refine Sq mixed [zR 0, .rd 1 [.o 0 none] 0 0, zR 2, zR 3] [] [1, 2, 43] (fun _ => [zP 1 (nu1 0), zV 2 .nilIface, zB 43 ((↑c.ops.length : Int) == 0)]) (fun _ => [(nu1 0, .cells #[.slice (sA b1 off1) c.when.length c1, nI c.place, .slice a2 c.ops.length c2] 28 (0, 0))]) (fun _ => ?_)
  refine cC (t := (↑c.ops.length : Int) == 0) (fun hz => ?_) (fun hz => ?_)
  ·have e : comFault c = ⟨3, -1⟩ := by rw [comFault, if_neg hg, if_neg hb2, if_neg h00, if_pos (by simp at hz; simp [hz])]
   refine Sp mixed [.rd 0 [.r 1 (some (.iface 243 (.pointer (some (er 3)))))] 0 0, zR 1] [] [1, 2] (fun _ => [zP 1 (nu1 0), zV 2 (.iface 243 (.pointer (some (er 3))))]) (fun _ => [(nu1 0, .cells #[.slice (sA b1 off1) c.when.length c1, nI c.place, .slice a2 c.ops.length c2] 28 (0, 0))]) (fun _ => [csg2[(0 : Nat)]? = some (Value.iface (243 : Nat) (Value.pointer (some (er (3 : Nat)))))]) (fun _ => ⟨hglob2, trivial⟩) (fun _ => ?_)
   refine J_return [[]] (.iface 243 (.pointer (some (er 3)))) (by kernel_rfl) (fun a w s => ?_)
   rw [e]
   exact .inl ⟨rfl, _, s.ret (by simp) [] [] rfl rfl, .inr ⟨by decide, rfl⟩⟩
  have hz2 : ¬ c.ops.length = 0 := by simp at hz; simp [hz]
  have e : comFault c = opsFault c.ops c.when.length c.ops.length 0 := by rw [comFault, if_neg hg, if_neg hb2, if_neg h00, if_neg hz2]
  rw [e]
  refine J_skip ?_
  refine J_seq ?_
  refine Sq mixed [zR 0, .rd 1 [.o 0 none] 0 0, zR 2, zR 3] [] [1, 2, 46, 47, 48] (fun _ => [zP 1 (nu1 0), zV 2 .nilIface, zS 46 a2 c.ops.length c2, zI 47 (↑c.ops.length : Int), zI 48 0]) (fun _ => [(nu1 0, .cells #[.slice (sA b1 off1) c.when.length c1, nI c.place, .slice a2 c.ops.length c2] 28 (0, 0))]) (fun _ => ?_)
  refine J_block ?_
  refine J_loopx (fun i : Int => [zP 1 (nu1 0), zV 2 .nilIface, zS 46 a2 c.ops.length c2, zI 47 (↑c.ops.length : Int), zI 48 i]) (fun i : Int => [(nu1 0, .cells #[.slice (sA b1 off1) c.when.length c1, nI c.place, .slice a2 c.ops.length c2] 28 (0, 0))]) (fun i : Int => []) (fun i : Int => [(.nilIface, (dC er eb)), (.slice (sA b1 off1) c.when.length c1, (dInts c.when)), (.slice a2 c.ops.length c2, (D.sl 7 (List.map eOp c.ops))), (.pointer (sA 0 0), (D.ptr [D.v (Value.iface 243 (Value.pointer (some (er 2))))])), (.pointer (sA 3 0), (D.ptr [D.v (Value.iface 243 (Value.pointer (some (er 3))))]))]) (fun i : Int => (c.ops.length - i).toNat) (fun i : Int => (0 ≤ i ∧ i ≤ c.ops.length ∧ ∀ j : Nat, 0 ≤ j → j < i.toNat → opErrAt c.ops c.when.length j = 0)) 0 [1, 2, 46, 47, 48] [0] [] [0, 1, 2, 3, 4] ?_ (by kernel_rfl) rfl rfl rfl ?_
  ·exact ⟨by simp, by omega, by simp⟩
  rintro i ⟨hi0, hi, hno⟩
  refine Sq mixed [zR 0] [] [1, 2, 46, 47, 48, 49] (fun _ => [zP 1 (nu1 0), zV 2 .nilIface, zS 46 a2 c.ops.length c2, zI 47 (↑c.ops.length : Int), zI 48 i, zB 49 (decide (i < (↑c.ops.length : Int)))]) (fun _ => [(nu1 0, .cells #[.slice (sA b1 off1) c.when.length c1, nI c.place, .slice a2 c.ops.length c2] 28 (0, 0))]) (fun _ => ?_)
  refine J_seq ?_
  refine cC (t := decide (i < (↑c.ops.length : Int))) (fun hlt => ?_) (fun hlt => ?_)
  ·have hlt2 : i < c.ops.length := by simpa using hlt
   obtain ⟨o, ho⟩ : ∃ o, c.ops[i.toNat]? = some o := ⟨_, List.getElem?_eq_getElem (by omega)⟩
   have hit : ∀ k : Nat, opErrAt c.ops c.when.length i.toNat = k → k ≠ 0 → opsFault c.ops c.when.length c.ops.length 0 = ⟨k, i⟩ := fun k hk h0 => by
    rw [(opsFault_from c.ops.length 0 i.toNat (Nat.zero_le _) hno).2 (by omega) (by rw [hk]; exact h0), hk]
    congr 1
    omega
   have next : opErrAt c.ops c.when.length i.toNat = 0 → 0 ≤ i + 1 ∧ i + 1 ≤ c.ops.length ∧ ∀ j : Nat, 0 ≤ j → j < (i + 1).toNat → opErrAt c.ops c.when.length j = 0 := fun h => ⟨by omega, by omega, fun j h0 hj => by
    by_cases hji : j = i.toNat
    ·rw [hji]; exact h
    ·exact hno j h0 (by omega)⟩
   refine J_glob 4 rfl (fun csg3 tyg3 fzg3 hglob3 => ?_)
   refine J_read1 2 rfl i.toNat (map_at ho) (by kernel_rfl) (fun b2 off2 cs2 ty2 fz2 a2_0 c2_0 ha2 hrd2 => ?_)
   cases ha2
   have hrd2_0 := rd0 (hrd2 0 _ rfl)
   have hrd2_1 := hrd2 1 _ rfl
   have hrd2_2 := hrd2 2 _ rfl
   have hrd2_3 := hrd2 3 _ rfl
   have hrd2_4 := hrd2 4 _ rfl
   have hrd2_5 := hrd2 5 _ rfl
   have hrd2_6 := hrd2 6 _ rfl
   by_cases hi1 : i = 0
   ·have hz0 : i.toNat = 0 := by omega
    try simp only [cAp, nAp, aNl]
    refine J_skip ?_
    refine J_seq ?_
    refine J_block ?_
    refine Sp mixed [zR 0, .rd 1 [] 0 2, .rd 2 [.r 4 (some (nI o.no)), .r 4 (some (.string o.key)), .r 4 (some (nI o.kind)), .r 4 (some (.string o.text)), .r 4 (some (nI o.n)), .r 4 (some (.bool o.remove)), .r 4 (some (.slice (a2_0, c2_0).fst ((List.map eDot o.dots).length) c2_0))] 0 0, .wr 3 [] 0, zR 4, .wr 5 [.o 1 none, .o 1 none, .o 1 none, .o 1 none, .o 1 none, .o 1 none, .o 1 none] 0] [(5, [])] [1, 2, 4, 5, 46, 47, 48] (fun nu2 => [zP 1 (nu1 0), zV 2 .nilIface, zI 4 i, zP 5 (nu2 0), zS 46 (sA b2 off2) c.ops.length c2, zI 47 (↑c.ops.length : Int), zI 48 i]) (fun nu2 => [(nu1 0, .cells #[.slice (sA b1 off1) c.when.length c1, nI c.place, .slice (sA b2 off2) c.ops.length c2] 28 (0, 0)), (nu2 0, .cells #[nI o.no, .string o.key, nI o.kind, .string o.text, nI o.n, .bool o.remove, .slice (a2_0, c2_0).fst ((List.map eDot o.dots).length) c2_0] 24 (0, 0))]) (fun nu2 => [(0 : Int) ≤ i, i < (↑c.ops.length : Int), cs2[off2 + i.toNat * (7 : Nat)]? = some (nI o.no), cs2[off2 + i.toNat * (7 : Nat) + (1 : Nat)]? = some (Value.string o.key), cs2[off2 + i.toNat * (7 : Nat) + (2 : Nat)]? = some (nI o.kind), cs2[off2 + i.toNat * (7 : Nat) + (3 : Nat)]? = some (Value.string o.text), cs2[off2 + i.toNat * (7 : Nat) + (4 : Nat)]? = some (nI o.n), cs2[off2 + i.toNat * (7 : Nat) + (5 : Nat)]? = some (Value.bool o.remove), cs2[off2 + i.toNat * (7 : Nat) + (6 : Nat)]? = some (Value.slice (a2_0, c2_0).fst (List.map eDot o.dots).length (a2_0, c2_0).snd)]) (fun _ => ⟨hi0, hlt2, hrd2_0, hrd2_1, hrd2_2, hrd2_3, hrd2_4, hrd2_5, hrd2_6, trivial⟩) (fun nu2 => ?_)
    refine J_seq ?_
    refine jB mixed [(0, true), (1, true), (2, true), (3, true), (4, false), (5, true)] [] ?_
    refine Gr (id := 11) (rest := [(4, false), (5, true)]) [.rd 0 [.o 1 none, .o 1 none, .o 1 none, .o 1 none, .o 1 none, .o 1 none, .o 1 none] 0 0, zR 1, .rd 2 [.o 0 none] 0 0, zR 3] [1, 2, 4, 5, 46, 47, 48, 53, 56] (fun _ => [zP 1 (nu1 0), zV 2 .nilIface, zI 4 i, zP 5 (nu2 0), zS 46 (sA b2 off2) c.ops.length c2, zI 47 (↑c.ops.length : Int), zI 48 i, zV 53 (.agg #[nI o.no, .string o.key, nI o.kind, .string o.text, nI o.n, .bool o.remove, .slice (a2_0, c2_0).fst ((List.map eDot o.dots).length) c2_0]), zI 56 (↑c.when.length : Int)]) (fun _ => [(nu1 0, .cells #[.slice (sA b1 off1) c.when.length c1, nI c.place, .slice (sA b2 off2) c.ops.length c2] 28 (0, 0)), (nu2 0, .cells #[nI o.no, .string o.key, nI o.kind, .string o.text, nI o.n, .bool o.remove, .slice (a2_0, c2_0).fst ((List.map eDot o.dots).length) c2_0] 24 (0, 0))]) (fun _ => ?_)
    refine JR_callp [] 14 #[.agg #[.int .i64 o.no, .string o.key, .int .i64 o.kind, .string o.text, .int .i64 o.n, .bool o.remove, .slice (a2_0, c2_0).fst ((List.map eDot o.dots).length) c2_0], .int .i64 (↑c.when.length : Int)] (some 57) (by kernel_rfl) (fun w S hG => ?_)
    refine (vCheckOp (o := o) (hG.at 0 rfl) (hG.at 5 rfl)).mono ?_
    rintro e1 w1 ⟨v, hR, hv⟩
    refine ⟨_, _, _, hR, ?_⟩
    obtain ⟨he, rfl⟩ | ⟨he, rfl⟩ := hv
    ·try simp only [List.cons_append, List.nil_append, List.append_nil]
     refine Gr (id := 11) (rest := []) [zR 5] [1, 2, 4, 5, 6, 46, 47, 48] (fun _ => [zP 1 (nu1 0), zV 2 .nilIface, zI 4 i, zP 5 (nu2 0), zV 6 .nilIface, zS 46 (sA b2 off2) c.ops.length c2, zI 47 (↑c.ops.length : Int), zI 48 i]) (fun _ => [(nu1 0, .cells #[.slice (sA b1 off1) c.when.length c1, nI c.place, .slice (sA b2 off2) c.ops.length c2] 28 (0, 0)), (nu2 0, .cells #[nI o.no, .string o.key, nI o.kind, .string o.text, nI o.n, .bool o.remove, .slice a2_0 ((List.map eDot o.dots).length) c2_0] 24 (0, 0))]) (fun _ => ?_)
     refine JR_end ?_
     refine J_seq ?_
     refine Sp mixed [zR 0, zR 1, zR 2, zR 3, .rd 4 [] 0 7, zR 5, zR 6, .rd 7 [] 1 0, .rd 8 [] 1 0, .rd 9 [] 1 0, .rd 10 [] 1 0, .rd 11 [] 1 0, .rd 12 [] 1 0, .rd 13 [] 1 0, .rd 14 [] 1 0, .rd 15 [] 1 0, .rd 16 [] 1 0, zR 17] [] [1, 2, 4, 5, 6, 46, 47, 48, 75] (fun _ => [zP 1 (nu1 0), zV 2 .nilIface, zI 4 i, zP 5 (nu2 0), zV 6 .nilIface, zS 46 (sA b2 off2) c.ops.length c2, zI 47 (↑c.ops.length : Int), zI 48 i, zB 75 false]) (fun _ => [(nu1 0, .cells #[.slice (sA b1 off1) c.when.length c1, nI c.place, .slice (sA b2 off2) c.ops.length c2] 28 (0, 0)), (nu2 0, .cells #[nI o.no, .string o.key, nI o.kind, .string o.text, nI o.n, .bool o.remove, .slice a2_0 ((List.map eDot o.dots).length) c2_0] 24 (0, 0))]) (fun _ => [decide (i > (0 : Int)) = false]) (fun _ => ⟨by simp; omega, trivial⟩) (fun _ => ?_)
     refine cF ?_
     refine J_skip ?_
     refine Sq mixed [zR 0, zR 1] [] [1, 2, 4, 5, 6, 46, 47, 48, 78] (fun _ => [zP 1 (nu1 0), zV 2 .nilIface, zI 4 i, zP 5 (nu2 0), zV 6 .nilIface, zS 46 (sA b2 off2) c.ops.length c2, zI 47 (↑c.ops.length : Int), zI 48 i, zB 78 false]) (fun _ => [(nu1 0, .cells #[.slice (sA b1 off1) c.when.length c1, nI c.place, .slice (sA b2 off2) c.ops.length c2] 28 (0, 0)), (nu2 0, .cells #[nI o.no, .string o.key, nI o.kind, .string o.text, nI o.n, .bool o.remove, .slice a2_0 ((List.map eDot o.dots).length) c2_0] 24 (0, 0))]) (fun _ => ?_)
     refine cF ?_
     refine J_skip ?_
     refine J_eb ?_
     refine Gp mixed [.rd 0 [] 0 1, zR 1] [] [1, 2, 4, 5, 6, 46, 47, 48] (fun _ => [zP 1 (nu1 0), zV 2 .nilIface, zI 4 i, zP 5 (nu2 0), zV 6 .nilIface, zS 46 (sA b2 off2) c.ops.length c2, zI 47 (↑c.ops.length : Int), zI 48 (i + 1)]) (fun _ => [(nu1 0, .cells #[.slice (sA b1 off1) c.when.length c1, nI c.place, .slice (sA b2 off2) c.ops.length c2] 28 (0, 0)), (nu2 0, .cells #[nI o.no, .string o.key, nI o.kind, .string o.text, nI o.n, .bool o.remove, .slice a2_0 ((List.map eDot o.dots).length) c2_0] 24 (0, 0))]) (fun _ => [IntKind.i64.wrap (i + (1 : Int)) = i + (1 : Int)]) (fun _ => ⟨wrap_i64 (by omega) (by omega), trivial⟩) (fun _ => ?_)
     refine J_backx (i + 1) [1, 2, 46, 47, 48] [0] [] [0, 1, 2, 3, 4] ?_ ?_ (by kernel_rfl) rfl rfl rfl
     ·exact next (by rw [hz0] at ho ⊢; exact opErrAt_first ho he)
     ·omega
    ·try simp only [List.cons_append, List.nil_append, List.append_nil]
     refine Gr (id := 11) (rest := []) [zR 5] [1, 2, 4, 5, 6, 46, 47, 48] (fun _ => [zP 1 (nu1 0), zV 2 .nilIface, zI 4 i, zP 5 (nu2 0), zV 6 (.iface 243 (.pointer (some (er (opErr o (↑c.when.length : Int)))))), zS 46 (sA b2 off2) c.ops.length c2, zI 47 (↑c.ops.length : Int), zI 48 i]) (fun _ => [(nu1 0, .cells #[.slice (sA b1 off1) c.when.length c1, nI c.place, .slice (sA b2 off2) c.ops.length c2] 28 (0, 0)), (nu2 0, .cells #[nI o.no, .string o.key, nI o.kind, .string o.text, nI o.n, .bool o.remove, .slice a2_0 ((List.map eDot o.dots).length) c2_0] 24 (0, 0))]) (fun _ => ?_)
     refine JR_end ?_
     refine J_seq ?_
     refine Sq mixed [zR 0, zR 1, zR 2, .rd 3 [] 1 0, .rd 4 [] 1 0, zR 5, zR 6, .rd 7 [] 1 0, .rd 8 [] 1 0, .rd 9 [] 1 0, .rd 10 [] 1 0, .rd 11 [] 1 0, .rd 12 [] 1 0, .rd 13 [] 1 0, .rd 14 [] 1 0, .rd 15 [] 1 0, .rd 16 [] 1 0, zR 17] [] [1, 2, 4, 5, 6, 46, 47, 48, 75] (fun _ => [zP 1 (nu1 0), zV 2 .nilIface, zI 4 i, zP 5 (nu2 0), zV 6 (.iface 243 (.pointer (some (er (opErr o (↑c.when.length : Int)))))), zS 46 (sA b2 off2) c.ops.length c2, zI 47 (↑c.ops.length : Int), zI 48 i, zB 75 false]) (fun _ => [(nu1 0, .cells #[.slice (sA b1 off1) c.when.length c1, nI c.place, .slice (sA b2 off2) c.ops.length c2] 28 (0, 0)), (nu2 0, .cells #[nI o.no, .string o.key, nI o.kind, .string o.text, nI o.n, .bool o.remove, .slice a2_0 ((List.map eDot o.dots).length) c2_0] 24 (0, 0))]) (fun _ => ?_)
     refine cF ?_
     refine J_skip ?_
     refine Sq mixed [zR 0, zR 1] [] [1, 2, 4, 5, 6, 46, 47, 48, 78] (fun _ => [zP 1 (nu1 0), zV 2 .nilIface, zI 4 i, zP 5 (nu2 0), zV 6 (.iface 243 (.pointer (some (er (opErr o (↑c.when.length : Int)))))), zS 46 (sA b2 off2) c.ops.length c2, zI 47 (↑c.ops.length : Int), zI 48 i, zB 78 true]) (fun _ => [(nu1 0, .cells #[.slice (sA b1 off1) c.when.length c1, nI c.place, .slice (sA b2 off2) c.ops.length c2] 28 (0, 0)), (nu2 0, .cells #[nI o.no, .string o.key, nI o.kind, .string o.text, nI o.n, .bool o.remove, .slice a2_0 ((List.map eDot o.dots).length) c2_0] 24 (0, 0))]) (fun _ => ?_)
     refine cTt ?_
     refine Sq mixed [zR 0, zR 1, zR 2, .wr 3 [] 0, zR 4, zR 5] [] [1, 2, 4, 5, 6, 46, 47, 48] (fun nu3 => [zP 1 (nu1 0), zV 2 (.iface 102 (.pointer (sA (nu3 0) 0))), zI 4 i, zP 5 (nu2 0), zV 6 (.iface 243 (.pointer (some (er (opErr o (↑c.when.length : Int)))))), zS 46 (sA b2 off2) c.ops.length c2, zI 47 (↑c.ops.length : Int), zI 48 i]) (fun nu3 => [(nu1 0, .cells #[.slice (sA b1 off1) c.when.length c1, nI c.place, .slice (sA b2 off2) c.ops.length c2] 28 (0, 0)), (nu2 0, .cells #[nI o.no, .string o.key, nI o.kind, .string o.text, nI o.n, .bool o.remove, .slice a2_0 ((List.map eDot o.dots).length) c2_0] 24 (0, 0)), (nu3 0, .cells #[nI i, .iface 243 (.pointer (some (er (opErr o (↑c.when.length : Int)))))] 104 (0, 0))]) (fun nu3 => ?_)
     refine J_return [[]] (.iface 102 (.pointer (some (⟨nu3 0, 0, none⟩)))) (by kernel_rfl) (fun a w s => ?_)
     rw [hit _ (opErrAt_own ho he) he]
     exact .inr ⟨by simp only; omega, hi0, _, ((s.share 2 rfl).stp (stp_fact fun w S H => ptr_of_obj rfl rfl (H (_, _) (List.mem_of_getElem? (i := 6) rfl)))).ret (by simp) [] [7] rfl rfl⟩
   ·obtain ⟨q, hq⟩ : ∃ q, c.ops[(i - 1).toNat]? = some q := ⟨_, List.getElem?_eq_getElem (by omega)⟩
    have hii : i.toNat = (i - 1).toNat + 1 := by omega
    refine J_again1 2 rfl 4 rfl ((i - 1).toNat) (map_at hq) (by kernel_rfl) (fun a3_0 c3_0 hrd3 => ?_)
    have hrd3_0 := rd0 (hrd3 0 _ rfl)
    have hrd3_1 := hrd3 1 _ rfl
    have hrd3_2 := hrd3 2 _ rfl
    have hrd3_3 := hrd3 3 _ rfl
    have hrd3_4 := hrd3 4 _ rfl
    have hrd3_5 := hrd3 5 _ rfl
    have hrd3_6 := hrd3 6 _ rfl
    try simp only [cAp, nAp, aNl]
    refine J_skip ?_
    refine J_seq ?_
    refine J_block ?_
    refine Sp mixed [zR 0, .rd 1 [] 0 2, .rd 2 [.r 4 (some (nI o.no)), .r 4 (some (.string o.key)), .r 4 (some (nI o.kind)), .r 4 (some (.string o.text)), .r 4 (some (nI o.n)), .r 4 (some (.bool o.remove)), .r 4 (some (.slice (a2_0, c2_0).fst ((List.map eDot o.dots).length) c2_0))] 0 0, .wr 3 [] 0, zR 4, .wr 5 [.o 1 none, .o 1 none, .o 1 none, .o 1 none, .o 1 none, .o 1 none, .o 1 none] 0] [(5, [])] [1, 2, 4, 5, 46, 47, 48] (fun nu2 => [zP 1 (nu1 0), zV 2 .nilIface, zI 4 i, zP 5 (nu2 0), zS 46 (sA b2 off2) c.ops.length c2, zI 47 (↑c.ops.length : Int), zI 48 i]) (fun nu2 => [(nu1 0, .cells #[.slice (sA b1 off1) c.when.length c1, nI c.place, .slice (sA b2 off2) c.ops.length c2] 28 (0, 0)), (nu2 0, .cells #[nI o.no, .string o.key, nI o.kind, .string o.text, nI o.n, .bool o.remove, .slice (a2_0, c2_0).fst ((List.map eDot o.dots).length) c2_0] 24 (0, 0))]) (fun nu2 => [(0 : Int) ≤ i, i < (↑c.ops.length : Int), cs2[off2 + i.toNat * (7 : Nat)]? = some (nI o.no), cs2[off2 + i.toNat * (7 : Nat) + (1 : Nat)]? = some (Value.string o.key), cs2[off2 + i.toNat * (7 : Nat) + (2 : Nat)]? = some (nI o.kind), cs2[off2 + i.toNat * (7 : Nat) + (3 : Nat)]? = some (Value.string o.text), cs2[off2 + i.toNat * (7 : Nat) + (4 : Nat)]? = some (nI o.n), cs2[off2 + i.toNat * (7 : Nat) + (5 : Nat)]? = some (Value.bool o.remove), cs2[off2 + i.toNat * (7 : Nat) + (6 : Nat)]? = some (Value.slice (a2_0, c2_0).fst (List.map eDot o.dots).length (a2_0, c2_0).snd)]) (fun _ => ⟨hi0, hlt2, hrd2_0, hrd2_1, hrd2_2, hrd2_3, hrd2_4, hrd2_5, hrd2_6, trivial⟩) (fun nu2 => ?_)
    refine J_seq ?_
    refine jB mixed [(0, true), (1, true), (2, true), (3, true), (4, false), (5, true)] [] ?_
    refine Gr (id := 11) (rest := [(4, false), (5, true)]) [.rd 0 [.o 1 none, .o 1 none, .o 1 none, .o 1 none, .o 1 none, .o 1 none, .o 1 none] 0 0, zR 1, .rd 2 [.o 0 none] 0 0, zR 3] [1, 2, 4, 5, 46, 47, 48, 53, 56] (fun _ => [zP 1 (nu1 0), zV 2 .nilIface, zI 4 i, zP 5 (nu2 0), zS 46 (sA b2 off2) c.ops.length c2, zI 47 (↑c.ops.length : Int), zI 48 i, zV 53 (.agg #[nI o.no, .string o.key, nI o.kind, .string o.text, nI o.n, .bool o.remove, .slice (a2_0, c2_0).fst ((List.map eDot o.dots).length) c2_0]), zI 56 (↑c.when.length : Int)]) (fun _ => [(nu1 0, .cells #[.slice (sA b1 off1) c.when.length c1, nI c.place, .slice (sA b2 off2) c.ops.length c2] 28 (0, 0)), (nu2 0, .cells #[nI o.no, .string o.key, nI o.kind, .string o.text, nI o.n, .bool o.remove, .slice (a2_0, c2_0).fst ((List.map eDot o.dots).length) c2_0] 24 (0, 0))]) (fun _ => ?_)
    refine JR_callp [] 14 #[.agg #[.int .i64 o.no, .string o.key, .int .i64 o.kind, .string o.text, .int .i64 o.n, .bool o.remove, .slice (a2_0, c2_0).fst ((List.map eDot o.dots).length) c2_0], .int .i64 (↑c.when.length : Int)] (some 57) (by kernel_rfl) (fun w S hG => ?_)
    refine (vCheckOp (o := o) (hG.at 0 rfl) (hG.at 5 rfl)).mono ?_
    rintro e1 w1 ⟨v, hR, hv⟩
    refine ⟨_, _, _, hR, ?_⟩
    obtain ⟨he, rfl⟩ | ⟨he, rfl⟩ := hv
    ·have hn := opErrAt_next (p := c.when.length) (by rw [← hii]; exact ho) hq he
     rw [← hii] at hn
     by_cases hno2 : o.no ≤ q.no
     ·rw [if_pos hno2] at hn
      try simp only [cAp, nAp, aNl]
      refine Gr (id := 11) (rest := []) [zR 5] [1, 2, 4, 5, 6, 46, 47, 48] (fun _ => [zP 1 (nu1 0), zV 2 .nilIface, zI 4 i, zP 5 (nu2 0), zV 6 .nilIface, zS 46 (sA b2 off2) c.ops.length c2, zI 47 (↑c.ops.length : Int), zI 48 i]) (fun _ => [(nu1 0, .cells #[.slice (sA b1 off1) c.when.length c1, nI c.place, .slice (sA b2 off2) c.ops.length c2] 28 (0, 0)), (nu2 0, .cells #[nI o.no, .string o.key, nI o.kind, .string o.text, nI o.n, .bool o.remove, .slice a2_0 ((List.map eDot o.dots).length) c2_0] 24 (0, 0))]) (fun _ => ?_)
      refine JR_end ?_
      refine J_seq ?_
      refine Sp mixed [zR 0, zR 1, zR 2, zR 3, .rd 4 [] 0 6, zR 5, zR 6, zR 7, .rd 8 [.o 1 none] 0 0, zR 9, .rd 10 [.o 0 none] 0 0, zR 11, .rd 12 [] 0 1, .rd 13 [] 0 2, zR 14, .rd 15 [.r 4 (some (nI q.no))] 0 0, .rd 16 [] 0 6, zR 17] [] [1, 2, 4, 5, 6, 46, 47, 48, 75] (fun _ => [zP 1 (nu1 0), zV 2 .nilIface, zI 4 i, zP 5 (nu2 0), zV 6 .nilIface, zS 46 (sA b2 off2) c.ops.length c2, zI 47 (↑c.ops.length : Int), zI 48 i, zB 75 true]) (fun _ => [(nu1 0, .cells #[.slice (sA b1 off1) c.when.length c1, nI c.place, .slice (sA b2 off2) c.ops.length c2] 28 (0, 0)), (nu2 0, .cells #[nI o.no, .string o.key, nI o.kind, .string o.text, nI o.n, .bool o.remove, .slice a2_0 ((List.map eDot o.dots).length) c2_0] 24 (0, 0))]) (fun _ => [decide (i > (0 : Int)) = true, IntKind.i64.wrap (i - (1 : Int)) = i - (1 : Int), (0 : Int) ≤ i - (1 : Int), i - (1 : Int) < (↑c.ops.length : Int), cs2[off2 + (i - (1 : Int)).toNat * (7 : Nat)]? = some (nI q.no), decide (o.no ≤ q.no) = true]) (fun _ => ⟨by simp; omega, wrap_i64 (by omega) (by omega), by omega, by omega, hrd3_0, by simp; omega, trivial⟩) (fun _ => ?_)
      refine cTt ?_
      refine Gp mixed [.rd 0 [.r 1 (some (.iface 243 (.pointer (some (er 3)))))] 0 0, zR 1] [] [1, 2, 4, 5, 6, 46, 47, 48] (fun _ => [zP 1 (nu1 0), zV 2 .nilIface, zI 4 i, zP 5 (nu2 0), zV 6 (.iface 243 (.pointer (some (er 3)))), zS 46 (sA b2 off2) c.ops.length c2, zI 47 (↑c.ops.length : Int), zI 48 i]) (fun _ => [(nu1 0, .cells #[.slice (sA b1 off1) c.when.length c1, nI c.place, .slice (sA b2 off2) c.ops.length c2] 28 (0, 0)), (nu2 0, .cells #[nI o.no, .string o.key, nI o.kind, .string o.text, nI o.n, .bool o.remove, .slice a2_0 ((List.map eDot o.dots).length) c2_0] 24 (0, 0))]) (fun _ => [csg2[(0 : Nat)]? = some (Value.iface (243 : Nat) (Value.pointer (some (er (3 : Nat)))))]) (fun _ => ⟨hglob2, trivial⟩) (fun _ => ?_)
      refine Sq mixed [zR 0, zR 1] [] [1, 2, 4, 5, 6, 46, 47, 48, 78] (fun _ => [zP 1 (nu1 0), zV 2 .nilIface, zI 4 i, zP 5 (nu2 0), zV 6 (.iface 243 (.pointer (some (er 3)))), zS 46 (sA b2 off2) c.ops.length c2, zI 47 (↑c.ops.length : Int), zI 48 i, zB 78 true]) (fun _ => [(nu1 0, .cells #[.slice (sA b1 off1) c.when.length c1, nI c.place, .slice (sA b2 off2) c.ops.length c2] 28 (0, 0)), (nu2 0, .cells #[nI o.no, .string o.key, nI o.kind, .string o.text, nI o.n, .bool o.remove, .slice a2_0 ((List.map eDot o.dots).length) c2_0] 24 (0, 0))]) (fun _ => ?_)
      refine cTt ?_
      refine Sq mixed [zR 0, zR 1, zR 2, .wr 3 [] 0, zR 4, zR 5] [] [1, 2, 4, 5, 6, 46, 47, 48] (fun nu3 => [zP 1 (nu1 0), zV 2 (.iface 102 (.pointer (sA (nu3 0) 0))), zI 4 i, zP 5 (nu2 0), zV 6 (.iface 243 (.pointer (some (er 3)))), zS 46 (sA b2 off2) c.ops.length c2, zI 47 (↑c.ops.length : Int), zI 48 i]) (fun nu3 => [(nu1 0, .cells #[.slice (sA b1 off1) c.when.length c1, nI c.place, .slice (sA b2 off2) c.ops.length c2] 28 (0, 0)), (nu2 0, .cells #[nI o.no, .string o.key, nI o.kind, .string o.text, nI o.n, .bool o.remove, .slice a2_0 ((List.map eDot o.dots).length) c2_0] 24 (0, 0)), (nu3 0, .cells #[nI i, .iface 243 (.pointer (some (er 3)))] 104 (0, 0))]) (fun nu3 => ?_)
      refine J_return [[]] (.iface 102 (.pointer (some (⟨nu3 0, 0, none⟩)))) (by kernel_rfl) (fun a w s => ?_)
      rw [hit _ hn (by decide)]
      exact .inr ⟨by simp only; omega, hi0, _, ((s.share 2 rfl).stp (stp_fact fun w S H => ptr_of_obj rfl rfl (H (_, _) (List.mem_of_getElem? (i := 7) rfl)))).ret (by simp) [] [8] rfl rfl⟩
     ·rw [if_neg hno2] at hn
      try simp only [cAp, nAp, aNl]
      refine Gr (id := 11) (rest := []) [zR 5] [1, 2, 4, 5, 6, 46, 47, 48] (fun _ => [zP 1 (nu1 0), zV 2 .nilIface, zI 4 i, zP 5 (nu2 0), zV 6 .nilIface, zS 46 (sA b2 off2) c.ops.length c2, zI 47 (↑c.ops.length : Int), zI 48 i]) (fun _ => [(nu1 0, .cells #[.slice (sA b1 off1) c.when.length c1, nI c.place, .slice (sA b2 off2) c.ops.length c2] 28 (0, 0)), (nu2 0, .cells #[nI o.no, .string o.key, nI o.kind, .string o.text, nI o.n, .bool o.remove, .slice a2_0 ((List.map eDot o.dots).length) c2_0] 24 (0, 0))]) (fun _ => ?_)
      refine JR_end ?_
      refine J_seq ?_
      refine Sp mixed [zR 0, zR 1, zR 2, zR 3, .rd 4 [] 0 6, zR 5, zR 6, zR 7, .rd 8 [.o 1 none] 0 0, zR 9, .rd 10 [.o 0 none] 0 0, zR 11, .rd 12 [] 0 1, .rd 13 [] 0 2, zR 14, .rd 15 [.r 4 (some (nI q.no))] 0 0, .rd 16 [] 0 7, zR 17] [] [1, 2, 4, 5, 6, 46, 47, 48, 75] (fun _ => [zP 1 (nu1 0), zV 2 .nilIface, zI 4 i, zP 5 (nu2 0), zV 6 .nilIface, zS 46 (sA b2 off2) c.ops.length c2, zI 47 (↑c.ops.length : Int), zI 48 i, zB 75 false]) (fun _ => [(nu1 0, .cells #[.slice (sA b1 off1) c.when.length c1, nI c.place, .slice (sA b2 off2) c.ops.length c2] 28 (0, 0)), (nu2 0, .cells #[nI o.no, .string o.key, nI o.kind, .string o.text, nI o.n, .bool o.remove, .slice a2_0 ((List.map eDot o.dots).length) c2_0] 24 (0, 0))]) (fun _ => [decide (i > (0 : Int)) = true, IntKind.i64.wrap (i - (1 : Int)) = i - (1 : Int), (0 : Int) ≤ i - (1 : Int), i - (1 : Int) < (↑c.ops.length : Int), cs2[off2 + (i - (1 : Int)).toNat * (7 : Nat)]? = some (nI q.no), decide (o.no ≤ q.no) = false]) (fun _ => ⟨by simp; omega, wrap_i64 (by omega) (by omega), by omega, by omega, hrd3_0, by simp; omega, trivial⟩) (fun _ => ?_)
      refine cF ?_
      refine J_skip ?_
      refine Sq mixed [zR 0, zR 1] [] [1, 2, 4, 5, 6, 46, 47, 48, 78] (fun _ => [zP 1 (nu1 0), zV 2 .nilIface, zI 4 i, zP 5 (nu2 0), zV 6 .nilIface, zS 46 (sA b2 off2) c.ops.length c2, zI 47 (↑c.ops.length : Int), zI 48 i, zB 78 false]) (fun _ => [(nu1 0, .cells #[.slice (sA b1 off1) c.when.length c1, nI c.place, .slice (sA b2 off2) c.ops.length c2] 28 (0, 0)), (nu2 0, .cells #[nI o.no, .string o.key, nI o.kind, .string o.text, nI o.n, .bool o.remove, .slice a2_0 ((List.map eDot o.dots).length) c2_0] 24 (0, 0))]) (fun _ => ?_)
      refine cF ?_
      refine J_skip ?_
      refine J_eb ?_
      refine Gp mixed [.rd 0 [] 0 1, zR 1] [] [1, 2, 4, 5, 6, 46, 47, 48] (fun _ => [zP 1 (nu1 0), zV 2 .nilIface, zI 4 i, zP 5 (nu2 0), zV 6 .nilIface, zS 46 (sA b2 off2) c.ops.length c2, zI 47 (↑c.ops.length : Int), zI 48 (i + 1)]) (fun _ => [(nu1 0, .cells #[.slice (sA b1 off1) c.when.length c1, nI c.place, .slice (sA b2 off2) c.ops.length c2] 28 (0, 0)), (nu2 0, .cells #[nI o.no, .string o.key, nI o.kind, .string o.text, nI o.n, .bool o.remove, .slice a2_0 ((List.map eDot o.dots).length) c2_0] 24 (0, 0))]) (fun _ => [IntKind.i64.wrap (i + (1 : Int)) = i + (1 : Int)]) (fun _ => ⟨wrap_i64 (by omega) (by omega), trivial⟩) (fun _ => ?_)
      refine J_backx (i + 1) [1, 2, 46, 47, 48] [0] [] [0, 1, 2, 3, 4] ?_ ?_ (by kernel_rfl) rfl rfl rfl
      ·exact next hn
      ·omega
    ·try simp only [List.cons_append, List.nil_append, List.append_nil]
     refine Gr (id := 11) (rest := []) [zR 5] [1, 2, 4, 5, 6, 46, 47, 48] (fun _ => [zP 1 (nu1 0), zV 2 .nilIface, zI 4 i, zP 5 (nu2 0), zV 6 (.iface 243 (.pointer (some (er (opErr o (↑c.when.length : Int)))))), zS 46 (sA b2 off2) c.ops.length c2, zI 47 (↑c.ops.length : Int), zI 48 i]) (fun _ => [(nu1 0, .cells #[.slice (sA b1 off1) c.when.length c1, nI c.place, .slice (sA b2 off2) c.ops.length c2] 28 (0, 0)), (nu2 0, .cells #[nI o.no, .string o.key, nI o.kind, .string o.text, nI o.n, .bool o.remove, .slice a2_0 ((List.map eDot o.dots).length) c2_0] 24 (0, 0))]) (fun _ => ?_)
     refine JR_end ?_
     refine J_seq ?_
     refine Sq mixed [zR 0, zR 1, zR 2, .rd 3 [] 1 0, .rd 4 [] 1 0, zR 5, zR 6, .rd 7 [] 1 0, .rd 8 [] 1 0, .rd 9 [] 1 0, .rd 10 [] 1 0, .rd 11 [] 1 0, .rd 12 [] 1 0, .rd 13 [] 1 0, .rd 14 [] 1 0, .rd 15 [] 1 0, .rd 16 [] 1 0, zR 17] [] [1, 2, 4, 5, 6, 46, 47, 48, 75] (fun _ => [zP 1 (nu1 0), zV 2 .nilIface, zI 4 i, zP 5 (nu2 0), zV 6 (.iface 243 (.pointer (some (er (opErr o (↑c.when.length : Int)))))), zS 46 (sA b2 off2) c.ops.length c2, zI 47 (↑c.ops.length : Int), zI 48 i, zB 75 false]) (fun _ => [(nu1 0, .cells #[.slice (sA b1 off1) c.when.length c1, nI c.place, .slice (sA b2 off2) c.ops.length c2] 28 (0, 0)), (nu2 0, .cells #[nI o.no, .string o.key, nI o.kind, .string o.text, nI o.n, .bool o.remove, .slice a2_0 ((List.map eDot o.dots).length) c2_0] 24 (0, 0))]) (fun _ => ?_)
     refine cF ?_
     refine J_skip ?_
     refine Sq mixed [zR 0, zR 1] [] [1, 2, 4, 5, 6, 46, 47, 48, 78] (fun _ => [zP 1 (nu1 0), zV 2 .nilIface, zI 4 i, zP 5 (nu2 0), zV 6 (.iface 243 (.pointer (some (er (opErr o (↑c.when.length : Int)))))), zS 46 (sA b2 off2) c.ops.length c2, zI 47 (↑c.ops.length : Int), zI 48 i, zB 78 true]) (fun _ => [(nu1 0, .cells #[.slice (sA b1 off1) c.when.length c1, nI c.place, .slice (sA b2 off2) c.ops.length c2] 28 (0, 0)), (nu2 0, .cells #[nI o.no, .string o.key, nI o.kind, .string o.text, nI o.n, .bool o.remove, .slice a2_0 ((List.map eDot o.dots).length) c2_0] 24 (0, 0))]) (fun _ => ?_)
     refine cTt ?_
     refine Sq mixed [zR 0, zR 1, zR 2, .wr 3 [] 0, zR 4, zR 5] [] [1, 2, 4, 5, 6, 46, 47, 48] (fun nu3 => [zP 1 (nu1 0), zV 2 (.iface 102 (.pointer (sA (nu3 0) 0))), zI 4 i, zP 5 (nu2 0), zV 6 (.iface 243 (.pointer (some (er (opErr o (↑c.when.length : Int)))))), zS 46 (sA b2 off2) c.ops.length c2, zI 47 (↑c.ops.length : Int), zI 48 i]) (fun nu3 => [(nu1 0, .cells #[.slice (sA b1 off1) c.when.length c1, nI c.place, .slice (sA b2 off2) c.ops.length c2] 28 (0, 0)), (nu2 0, .cells #[nI o.no, .string o.key, nI o.kind, .string o.text, nI o.n, .bool o.remove, .slice a2_0 ((List.map eDot o.dots).length) c2_0] 24 (0, 0)), (nu3 0, .cells #[nI i, .iface 243 (.pointer (some (er (opErr o (↑c.when.length : Int)))))] 104 (0, 0))]) (fun nu3 => ?_)
     refine J_return [[]] (.iface 102 (.pointer (some (⟨nu3 0, 0, none⟩)))) (by kernel_rfl) (fun a w s => ?_)
     rw [hit _ (opErrAt_own ho he) he]
     exact .inr ⟨by simp only; omega, hi0, _, ((s.share 2 rfl).stp (stp_fact fun w S H => ptr_of_obj rfl rfl (H (_, _) (List.mem_of_getElem? (i := 7) rfl)))).ret (by simp) [] [8] rfl rfl⟩
  ·have hend : i.toNat = 0 + c.ops.length := by simp at hlt; omega
   rw [(opsFault_from c.ops.length 0 i.toNat (Nat.zero_le _) hno).1 hend]
   refine J_exit rfl ?_
   refine Sq mixed [zR 0] [] [2] (fun _ => [zV 2 .nilIface]) (fun _ => [(nu1 0, .cells #[.slice (sA b1 off1) c.when.length c1, nI c.place, .slice a2 c.ops.length c2] 28 (0, 0))]) (fun _ => ?_)
   refine J_return [[]] (.nilIface) (by kernel_rfl) (fun a w s => ?_)
   exact .inl ⟨rfl, _, s.ret (by simp) [] [] rfl rfl, .inl ⟨rfl, rfl⟩⟩
 ·have e : comFault c = ⟨vecErr c.when, -1⟩ := by rw [comFault, if_pos hv0]
  try simp only [cAp, nAp, aNl]
  refine Gr (id := 1) (rest := []) [zR 3] [1, 2, 3] (fun _ => [zP 1 (nu1 0), zV 2 .nilIface, zV 3 (.iface 243 (.pointer (some (er (vecErr c.when)))))]) (fun _ => [(nu1 0, .cells #[.slice a1 c.when.length c1, nI c.place, .slice a2 c.ops.length c2] 28 (0, 0))]) (fun _ => ?_)
  refine JR_end ?_
  refine Sq mixed [zR 0, zR 1] [] [1, 2, 3, 11] (fun _ => [zP 1 (nu1 0), zV 2 .nilIface, zV 3 (.iface 243 (.pointer (some (er (vecErr c.when))))), zB 11 true]) (fun _ => [(nu1 0, .cells #[.slice a1 c.when.length c1, nI c.place, .slice a2 c.ops.length c2] 28 (0, 0))]) (fun _ => ?_)
  refine cTt ?_
  refine Sq mixed [zR 0, zR 1] [] [1, 2] (fun _ => [zP 1 (nu1 0), zV 2 (.iface 243 (.pointer (some (er (vecErr c.when)))))]) (fun _ => [(nu1 0, .cells #[.slice a1 c.when.length c1, nI c.place, .slice a2 c.ops.length c2] 28 (0, 0))]) (fun _ => ?_)
  refine J_return [[]] (.iface 243 (.pointer (some (er (vecErr c.when))))) (by kernel_rfl) (fun a w s => ?_)
  rw [e]
  exact .inl ⟨rfl, _, s.ret (by simp) [] [] rfl rfl, .inr ⟨hv0, rfl⟩⟩
end Go.Proofs.YtpjkiomccpjboaaGreatDoor
end
section
namespace Go.Proofs.YtpjkiomccpjboaaGreatDoor
open Go Go.Sx
theorem asNil {w : World} {S : Nat → Prop} {t : Addr} : Calls Tryz.prog 86 #[.nilIface, .iface 143 (.pointer (some t))] w fun e w' => Ret [] w S w' e (.bool false) [] [] := by
 refine ep86 (args := [.nilIface, .iface 143 (.pointer (some t))]) (S := S) (G := []) (by kernel_rfl) (.nil _ _) ?_
 refine Sq mixed [zR 0] [] [0, 1, 4] (fun _ => [zV 0 .nilIface, zV 1 (.iface 143 (.pointer (some t))), zB 4 false]) (fun _ => []) (fun _ => ?_)
 refine J_seq ?_
 refine Sq mixed [zR 0, zR 1] [] [0, 1, 4, 9] (fun _ => [zV 0 .nilIface, zV 1 (.iface 143 (.pointer (some t))), zB 4 false, zB 9 true]) (fun _ => []) (fun _ => ?_)
 refine cTt ?_
 refine Sq mixed [zR 0] [] [0, 1, 4] (fun _ => [zV 0 .nilIface, zV 1 (.iface 143 (.pointer (some t))), zB 4 false]) (fun _ => []) (fun _ => ?_)
 refine J_return [[]] (.bool false) (by kernel_rfl) (fun a w s => ?_)
 exact s.ret (by simp) [] [] rfl rfl
theorem bareE {w : World} {S : Nat → Prop} {er : Nat → Addr} {eb : Nat → Array Value × TypeId} {k : Nat} {v : Value} (hC : Rep w S .nilIface (dC er eb)) (hv : ErrIs 243 er k v) :
  Calls Tryz.prog 93 #[v] w fun e w' => Ret [] w S w' e v [] [] := by
 rcases hv with ⟨rfl, rfl⟩ | ⟨h0, rfl⟩
 ·refine ep93 (args := [.nilIface]) (G := [(_, dC er eb)]) (by kernel_rfl) (.cons hC (.nil _ _)) ?_
  refine Sq mixed [zR 0] [] [0, 2] (fun _ => [zV 0 .nilIface, zV 2 .nilIface]) (fun _ => []) (fun _ => ?_)
  refine Sq mixed [.wr 0 [] 0] [] [0, 2, 3] (fun nu1 => [zV 0 .nilIface, zV 2 .nilIface, zP 3 (nu1 0)]) (fun nu1 => [(nu1 0, .cells #[.pointer none] 102 (0, 0))]) (fun nu1 => ?_)
  refine J_seq ?_
  refine J_seq ?_
  refine jB mixed [(0, true), (1, true), (2, false)] [] ?_
  refine Gr (id := 2) (rest := [(2, false)]) [zR 0, zR 1] [0, 2, 3, 4, 5] (fun _ => [zV 0 .nilIface, zV 2 .nilIface, zP 3 (nu1 0), zV 4 .nilIface, zV 5 (.iface 143 (.pointer (sA (nu1 0) 0)))]) (fun _ => [(nu1 0, .cells #[.pointer none] 102 (0, 0))]) (fun _ => ?_)
  refine JR_callp [] 86 #[.nilIface, .iface 143 (.pointer (some (⟨nu1 0, 0, none⟩)))] (some 6) (by kernel_rfl) (fun w S hG => ?_)
  refine (asNil (S := S)).mono ?_
  rintro e1 w1 hR
  refine ⟨_, _, _, hR, ?_⟩
  try simp only [cAp, nAp, aNl]
  refine JR_end ?_
  refine cF ?_
  refine J_skip ?_
  refine Sq mixed [zR 0, zR 1] [] [2] (fun _ => [zV 2 .nilIface]) (fun _ => [(nu1 0, .cells #[.pointer none] 102 (0, 0))]) (fun _ => ?_)
  refine J_return [[]] (.nilIface) (by kernel_rfl) (fun a w s => ?_)
  exact s.ret (by simp) [] [] rfl rfl
 ·refine ep93 (args := [.iface 243 (.pointer (some (er k)))]) (G := [(_, dC er eb)]) (by kernel_rfl) (.cons hC (.nil _ _)) ?_
  refine Sq mixed [zR 0] [] [0, 2] (fun _ => [zV 0 (.iface 243 (.pointer (some (er k)))), zV 2 .nilIface]) (fun _ => []) (fun _ => ?_)
  refine Sq mixed [.wr 0 [] 0] [] [0, 2, 3] (fun nu1 => [zV 0 (.iface 243 (.pointer (some (er k)))), zV 2 .nilIface, zP 3 (nu1 0)]) (fun nu1 => [(nu1 0, .cells #[.pointer none] 102 (0, 0))]) (fun nu1 => ?_)
  refine J_seq ?_
  refine J_seq ?_
  refine jB mixed [(0, true), (1, true), (2, false)] [] ?_
  refine Gr (id := 2) (rest := [(2, false)]) [zR 0, zR 1] [0, 2, 3, 4, 5] (fun _ => [zV 0 (.iface 243 (.pointer (some (er k)))), zV 2 .nilIface, zP 3 (nu1 0), zV 4 (.iface 243 (.pointer (some (er k)))), zV 5 (.iface 143 (.pointer (sA (nu1 0) 0)))]) (fun _ => [(nu1 0, .cells #[.pointer none] 102 (0, 0))]) (fun _ => ?_)
  refine JR_callp [] 86 #[.iface 243 (.pointer (some (er k))), .iface 143 (.pointer (some (⟨nu1 0, 0, none⟩)))] (some 6) (by kernel_rfl) (fun w S hG => ?_)
  refine (asMiss (hG.at 0 rfl)).mono ?_
  rintro e1 w1 hR
  refine ⟨_, _, _, hR, ?_⟩
  try simp only [cAp, nAp, aNl]
  refine JR_end ?_
  refine cF ?_
  refine J_skip ?_
  refine Sq mixed [zR 0, zR 1] [] [2] (fun _ => [zV 2 (.iface 243 (.pointer (some (er k))))]) (fun _ => [(nu1 0, .cells #[.pointer none] 102 (0, 0))]) (fun _ => ?_)
  refine J_return [[]] (.iface 243 (.pointer (some (er k)))) (by kernel_rfl) (fun a w s => ?_)
  exact s.ret (by simp) [] [] rfl rfl
theorem bareF {w : World} {S : Nat → Prop} {er : Nat → Addr} {eb : Nat → Array Value × TypeId} {k pb : Nat} {at' : Int} (hC : Rep w S .nilIface (dC er eb)) (hp : Rep w S (.pointer (some ⟨pb, 0, none⟩)) (.ptr [.v (.int .i64 at'), .v (.iface 243 (.pointer (some (er k))))])) :
  Calls Tryz.prog 93 #[.iface 102 (.pointer (some ⟨pb, 0, none⟩))] w fun e w' => Ret [] w S w' e (.iface 243 (.pointer (some (er k)))) [] [] := by
 refine ep93 (args := [.iface 102 (.pointer (some ⟨pb, 0, none⟩))]) (G := [(_, dC er eb), (_, .ptr [.v (.int .i64 at'), .v (.iface 243 (.pointer (some (er k))))])]) (by kernel_rfl) (.cons hC (.cons hp (.nil _ _))) ?_
 refine J_ptrl 1 rfl fun b off cs e fz ls he hl hc => ?_
 cases he
 obtain rfl : ls = [] := List.eq_nil_of_length_eq_zero hl
 have hc1 : cs[0 + 1]? = some (.iface 243 (.pointer (some (er k)))) := hc 1 _ rfl
 try simp only [cAp, nAp, aNl]
 refine Sq mixed [zR 0] [] [0, 2] (fun _ => [zV 0 (.iface 102 (.pointer (sA pb 0))), zV 2 .nilIface]) (fun _ => []) (fun _ => ?_)
 refine Sq mixed [.wr 0 [] 0] [] [0, 2, 3] (fun nu1 => [zV 0 (.iface 102 (.pointer (sA pb 0))), zV 2 .nilIface, zP 3 (nu1 0)]) (fun nu1 => [(nu1 0, .cells #[.pointer none] 102 (0, 0))]) (fun nu1 => ?_)
 refine J_seq ?_
 refine J_seq ?_
 refine J_hide 0 rfl ?_
 try simp only [cAp, nAp, aNl]
 refine jB mixed [(0, true), (1, true), (2, false)] [] ?_
 refine Gr (id := 2) (rest := [(2, false)]) [zR 0, zR 1] [0, 2, 3, 4, 5] (fun _ => [zV 0 (.iface 102 (.pointer (sA pb 0))), zV 2 .nilIface, zP 3 (nu1 0), zV 4 (.iface 102 (.pointer (sA pb 0))), zV 5 (.iface 143 (.pointer (sA (nu1 0) 0)))]) (fun _ => []) (fun _ => ?_)
 refine JR_call [] [0] 86 #[.iface 102 (.pointer (some (⟨pb, 0, none⟩))), .iface 143 (.pointer (some (⟨nu1 0, 0, none⟩)))] (some 6) (by kernel_rfl) (by kernel_rfl) (by decide) (fun w S M hP hG _ => ?_)
 refine (asHit (hG.at 0 rfl) hP).mono ?_
 rintro e1 w1 hR
 refine ⟨_, _, _, hR, ?_⟩
 try simp only [cAp, nAp, aNl]
 refine JR_end ?_
 try simp only [cAp, nAp, aNl]
 refine cTt ?_
 try simp only [cAp, nAp, aNl]
 refine J_seq ?_
 try simp only [cAp, nAp, aNl]
 refine J_show 0 rfl ?_
 refine Gp mixed [.rd 0 [.o 0 none] 0 0, zR 1, zR 2, .rd 3 [.r 0 (some (.iface 243 (.pointer (some (er k)))))] 0 0, zR 4] [] [0, 2] (fun _ => [zV 0 (.iface 102 (.pointer (sA pb 0))), zV 2 (.iface 243 (.pointer (some (er k))))]) (fun _ => [(nu1 0, .cells #[.pointer (sA pb 0)] 102 (0, 0))]) (fun _ => [cs[(0 : Nat) + (1 : Nat)]? = some (Value.iface (243 : TypeId) (Value.pointer (some (er k))))]) (fun _ => ⟨hc1, trivial⟩) (fun _ => ?_)
 refine J_return [[]] (.iface 243 (.pointer (some (er k)))) (by kernel_rfl) (fun a w s => ?_)
 exact s.ret (by simp) [] [] rfl rfl
end Go.Proofs.YtpjkiomccpjboaaGreatDoor
end
section
namespace Go.Sx
open Go
theorem strEq (a b : ByteArray) : (a.toList == b.toList) = decide (a = b) := by
 rw [ByteArray.toList_eq, ByteArray.toList_eq]
 by_cases h : a = b
 ·subst h; simp
 ·rw [decide_eq_false h]
  simp only [beq_eq_false_iff_ne, ne_eq]
  intro he
  apply h
  cases a; cases b
  simp only [ByteArray.mk.injEq]
  exact Array.toList_inj.1 he
def wsum (xs : List Int) : Int := xs.foldl (· + ·) 0
def cmpI (x y : Int) : Int := if x < y then -1 else if y < x then 1 else 0
def orL : List Int → Int
 | [] => 0
 | x :: l => if x ≠ 0 then x else orL l
theorem orL_none : ∀ {l : List Int}, (∀ (j : Nat) t, l[j]? = some t → t = 0) → orL l = 0
 | [], _ => rfl
 | x :: l, h => by
  have h0 := h 0 x rfl
  rw [orL, if_neg (by simp [h0])]
  exact orL_none fun j t ht => h (j + 1) t (by simpa using ht)
theorem orL_at : ∀ {l : List Int} {i : Nat} {x : Int}, (∀ j : Nat, j < i → ∀ t, l[j]? = some t → t = 0) → l[i]? = some x → x ≠ 0 → orL l = x
 | [], _, _, _, h, _ => by simp at h
 | y :: l, 0, x, _, h, hx => by
  simp only [List.getElem?_cons_zero, Option.some.injEq] at h
  subst h
  rw [orL, if_pos hx]
 | y :: l, i + 1, x, hz, h, hx => by
  have h0 := hz 0 (by omega) y rfl
  rw [orL, if_neg (by simp [h0])]
  exact orL_at (i := i) (fun j hj t ht => hz (j + 1) (by omega) t (by simpa using ht)) (by simpa using h) hx
def lexC : List Int → List Int → Int
 | x :: xs, y :: ys => if cmpI x y ≠ 0 then cmpI x y else lexC xs ys
 | _, _ => 0
theorem cmpI_zero {x y : Int} : cmpI x y = 0 ↔ x = y := by
 unfold cmpI
 split
 ·omega
 ·split <;> omega
theorem cmpI_neg {x y : Int} : cmpI x y < 0 ↔ x < y := by
 unfold cmpI
 split
 ·omega
 ·split <;> omega
theorem lexC_self : ∀ xs : List Int, lexC xs xs = 0
 | [] => rfl
 | x :: xs => by
  have h : cmpI x x = 0 := cmpI_zero.2 rfl
  simp [lexC, h, lexC_self xs]
theorem lexC_neg {x y : Int} {xs ys : List Int} : lexC (x :: xs) (y :: ys) < 0 ↔ x < y ∨ (x = y ∧ lexC xs ys < 0) := by
 rw [lexC]
 by_cases h : cmpI x y = 0
 ·have := cmpI_zero.1 h
  rw [if_neg (by simpa using h)]
  simp [this]
 ·have h2 : x ≠ y := fun he => h (cmpI_zero.2 he)
  rw [if_pos h, cmpI_neg]
  simp [h2]
theorem lexC_tri : ∀ {xs ys : List Int}, xs.length = ys.length → lexC xs ys < 0 ∨ xs = ys ∨ lexC ys xs < 0
 | [], [], _ => .inr (.inl rfl)
 | x :: xs, y :: ys, hl => by
  rw [lexC_neg, lexC_neg]
  rcases Int.lt_trichotomy x y with h | h | h
  ·exact .inl (.inl h)
  ·subst h
   rcases lexC_tri (xs := xs) (ys := ys) (by simpa using hl) with h | h | h
   ·exact .inl (.inr ⟨rfl, h⟩)
   ·subst h; exact .inr (.inl rfl)
   ·exact .inr (.inr (.inr ⟨rfl, h⟩))
  ·exact .inr (.inr (.inl h))
theorem lexC_trans : ∀ {xs ys zs : List Int}, lexC xs ys < 0 → lexC ys zs < 0 → lexC xs zs < 0
 | x :: xs, y :: ys, z :: zs, h1, h2 => by
  rw [lexC_neg] at h1 h2 ⊢
  rcases h1 with h1 | ⟨rfl, h1⟩ <;> rcases h2 with h2 | ⟨rfl, h2⟩
  ·exact .inl (Int.lt_trans h1 h2)
  ·exact .inl h1
  ·exact .inl h2
  ·exact .inr ⟨rfl, lexC_trans h1 h2⟩
 | [], _, _, h1, _ => by simp [lexC] at h1
 | _ :: _, [], _, h1, _ => by simp [lexC] at h1
 | _ :: _, _ :: _, [], _, h2 => by simp [lexC] at h2
theorem lexC_asymm {xs ys : List Int} (h1 : lexC xs ys < 0) (h2 : lexC ys xs < 0) : False := by
 have := lexC_trans h1 h2
 rw [lexC_self] at this
 omega
structure DoneT where
 o : OpT
 d : DotT
 w : Int
abbrev eDone (x : DoneT) : List D := [dI x.o.no, .v (.string x.o.key), dI x.o.kind, .v (.string x.o.text), dI x.o.n, .v (.bool x.o.remove), .sl 3 (x.o.dots.map eDot), dI x.d.place, dI x.d.time, dI x.d.no, dI x.w]
def dotOf (c : ComT) (o : OpT) : DotT := ⟨c.place, c.when.getD c.place.toNat 0, o.no⟩
def doneOf (c : ComT) (o : OpT) : DoneT := ⟨o, dotOf c o, wsum c.when⟩
def allDone (l : List ComT) : List DoneT := l.flatMap fun c => c.ops.map (doneOf c)
def firsts : List DotT → List DoneT → List DoneT
 | _, [] => []
 | s, x :: r => if x.d ∈ s then firsts s r else x :: firsts (x.d :: s) r
theorem firsts_snoc : ∀ {s : List DotT} {l : List DoneT} {x : DoneT}, firsts s (l ++ [x]) = firsts s l ++ if x.d ∈ s ∨ x.d ∈ l.map (·.d) then [] else [x]
 | s, [], x => by simp [firsts]
 | s, y :: r, x => by
  rw [List.cons_append, firsts, firsts]
  by_cases hy : y.d ∈ s
  ·rw [if_pos hy, if_pos hy, firsts_snoc]
   congr 1
   by_cases hx : x.d ∈ s
   ·simp [hx]
   ·by_cases he : x.d = y.d
    ·rw [he] at hx; exact absurd hy hx
    ·simp [hx, he]
  ·rw [if_neg hy, if_neg hy, firsts_snoc]
   simp [or_assoc, or_left_comm]
theorem firsts_sub {s : List DotT} {l : List DoneT} {x : DoneT} (h : x ∈ firsts s l) : x ∈ l ∧ x.d ∉ s := by
 induction l generalizing s with
 | nil => simp [firsts] at h
 | cons y r ih =>
  unfold firsts at h
  split at h
  ·have := ih h
   exact ⟨.tail _ this.1, this.2⟩
  ·rename_i hy
   rcases List.mem_cons.1 h with rfl | h
   ·exact ⟨.head _, hy⟩
   ·have := ih h
    exact ⟨.tail _ this.1, fun hc => this.2 (.tail _ hc)⟩
theorem firsts_nodup {s : List DotT} {l : List DoneT} : ((firsts s l).map (·.d)).Nodup := by
 induction l generalizing s with
 | nil => simp [firsts]
 | cons y r ih =>
  unfold firsts
  split
  ·exact ih
  ·rw [List.map_cons, List.nodup_cons]
   refine ⟨fun hm => ?_, ih⟩
   obtain ⟨x, hx, he⟩ := List.mem_map.1 hm
   exact (firsts_sub hx).2 (by rw [he]; exact .head _)
theorem firsts_has {s : List DotT} {l : List DoneT} {x : DoneT} (h : x ∈ l) (hs : x.d ∉ s) : ∃ y ∈ firsts s l, y.d = x.d := by
 induction l generalizing s with
 | nil => simp at h
 | cons y r ih =>
  unfold firsts
  rcases List.mem_cons.1 h with rfl | h
  ·rw [if_neg hs]
   exact ⟨x, .head _, rfl⟩
  ·split
   ·exact ih h hs
   ·by_cases he : x.d = y.d
    ·exact ⟨y, .head _, he.symm⟩
    ·obtain ⟨z, hz, hzd⟩ := ih (s := y.d :: s) h (by simp [hs, he])
     exact ⟨z, .tail _ hz, hzd⟩
def doneKey (x : DoneT) : List Int := [x.w, x.d.place, x.d.time, x.d.no]
def doneCmp (a b : DoneT) : Int := orL [cmpI a.w b.w, cmpI a.d.place b.d.place, cmpI a.d.time b.d.time, cmpI a.d.no b.d.no]
theorem doneCmp_eq (a b : DoneT) : doneCmp a b = lexC (doneKey a) (doneKey b) := by
 simp [doneCmp, doneKey, lexC, orL]
def doneLt (a b : DoneT) : Bool := decide (doneCmp a b < 0)
theorem doneLt_iff {a b : DoneT} : doneLt a b = true ↔ lexC (doneKey a) (doneKey b) < 0 := by simp [doneLt, doneCmp_eq]
theorem doneKey_dot {a b : DoneT} (h : doneKey a = doneKey b) : a.d = b.d := by
 simp only [doneKey, List.cons.injEq, and_true] at h
 cases ha : a.d; cases hb : b.d
 simp_all
theorem doneLt_trans {a b c : DoneT} (h1 : doneLt a b = true) (h2 : doneLt b c = true) : doneLt a c = true := by
 rw [doneLt_iff] at *
 exact lexC_trans h1 h2
theorem doneLt_asymm {a b : DoneT} (h1 : doneLt a b = true) (h2 : doneLt b a = true) : False := by
 rw [doneLt_iff] at *
 exact lexC_asymm h1 h2
theorem doneLt_tri (a b : DoneT) : doneLt a b = true ∨ doneKey a = doneKey b ∨ doneLt b a = true := by
 rw [doneLt_iff, doneLt_iff]
 exact lexC_tri rfl
def sortDone (l : List DoneT) : List DoneT := l.mergeSort fun x y => !doneLt y x
def opsRaw (key : ByteArray) (l : List ComT) : List DoneT := (firsts [] (allDone l)).filter fun x => decide (x.o.key = key)
def opsOf (key : ByteArray) (l : List ComT) : List DoneT := sortDone (opsRaw key l)
def kindOf (l : List DoneT) : Int := match l with
 | [] => 0
 | x :: _ => x.o.kind
def kindL (l : List DoneT) : List DoneT := l.filter fun x => decide (x.o.kind = kindOf l)
def ofKey (key : ByteArray) (l : List ComT) : List DoneT := kindL (opsOf key l)
def goneB (l : List DoneT) (t : ByteArray) (d : DotT) : Bool := l.any fun r => r.o.remove && (decide (r.o.text = t) && decide (d ∈ r.o.dots))
def liveL (l : List DoneT) : List DoneT := l.filter fun a => !a.o.remove && !goneB l a.o.text a.d
def textDots (l : List DoneT) (t : ByteArray) : List DotT := ((liveL l).filter fun a => decide (a.o.text = t)).map (·.d)
def bLt (a b : ByteArray) : Bool := decide (a.toList < b.toList)
def enterB : List ByteArray → ByteArray → List ByteArray
 | [], s => [s]
 | x :: l, s => if bLt x s then x :: enterB l s else if x = s then x :: l else s :: x :: l
def setOf (l : List ByteArray) : List ByteArray := l.foldl enterB []
structure ValT where
 kind : Int
 text : ByteArray
 n : Int
 set : List ByteArray
def lastText (l : List DoneT) : ByteArray := l.foldl (fun _ x => x.o.text) (ByteArray.mk #[])
def sumN (l : List DoneT) : Int := l.foldl (fun s x => s + x.o.n) 0
def valOf (key : ByteArray) (l : List ComT) : ValT :=
 ⟨kindOf (opsOf key l), if kindOf (opsOf key l) = 1 then lastText (ofKey key l) else ByteArray.mk #[], if kindOf (opsOf key l) = 2 then sumN (ofKey key l) else 0, if kindOf (opsOf key l) = 3 then setOf ((liveL (ofKey key l)).map (·.o.text)) else []⟩
def dotKey (d : DotT) : List Int := [d.place, d.time, d.no]
def dotCmp (a b : DotT) : Int := orL [cmpI a.place b.place, cmpI a.time b.time, cmpI a.no b.no]
theorem dotCmp_eq (a b : DotT) : dotCmp a b = lexC (dotKey a) (dotKey b) := by
 simp [dotCmp, dotKey, lexC, orL]
def dotLt (a b : DotT) : Bool := decide (dotCmp a b < 0)
theorem dotLt_iff {a b : DotT} : dotLt a b = true ↔ lexC (dotKey a) (dotKey b) < 0 := by simp [dotLt, dotCmp_eq]
theorem dotKey_inj {a b : DotT} (h : dotKey a = dotKey b) : a = b := by
 simp only [dotKey, List.cons.injEq, and_true] at h
 cases a; cases b
 simp_all
theorem dotLt_trans {a b c : DotT} (h1 : dotLt a b = true) (h2 : dotLt b c = true) : dotLt a c = true := by
 rw [dotLt_iff] at *
 exact lexC_trans h1 h2
theorem dotLt_asymm {a b : DotT} (h1 : dotLt a b = true) (h2 : dotLt b a = true) : False := by
 rw [dotLt_iff] at *
 exact lexC_asymm h1 h2
theorem dotLt_tri (a b : DotT) : dotLt a b = true ∨ a = b ∨ dotLt b a = true := by
 rw [dotLt_iff, dotLt_iff]
 rcases lexC_tri (xs := dotKey a) (ys := dotKey b) rfl with h | h | h
 ·exact .inl h
 ·exact .inr (.inl (dotKey_inj h))
 ·exact .inr (.inr h)
def sortDots (l : List DotT) : List DotT := l.mergeSort fun x y => !dotLt y x
def dotsOf (key text : ByteArray) (l : List ComT) : List DotT := if kindOf (opsOf key l) = 3 then sortDots (textDots (ofKey key l) text) else []
end Go.Sx
end
