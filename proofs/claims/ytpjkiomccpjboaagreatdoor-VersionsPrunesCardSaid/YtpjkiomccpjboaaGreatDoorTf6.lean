/- Part 6 of the texts of a claim: Vec3 Errs Code OpErr2 Fault Msg2. -/
import Derived.Test.YtpjkiomccpjboaaGreatDoorProg
import Derived.WalkKit
import Derived.LaidEql
import Derived.Stop.Asserts
import Derived.RowKitTokens
import Derived.Test.YtpjkiomccpjboaaGreatDoorTf5
section
namespace Go.Proofs.YtpjkiomccpjboaaGreatDoor
open Go Go.Sx
theorem twoErr_fine {xs ys : List Int} (h : twoErr xs ys = 0) : vecErr xs = 0 ∧ vecErr ys = 0 ∧ xs.length = ys.length := by
 unfold twoErr at h
 split at h
 ·exact absurd h ‹_›
 ·split at h
  ·exact absurd h ‹_›
  ·split at h
   ·cases h
   ·rename_i h1 h2 h3
    exact ⟨by simpa using h1, by simpa using h2, by omega⟩
theorem vMost {w : World} {S : Nat → Prop} {er : Nat → Addr} {a b : Option Addr} {n m c d : Nat} {xs ys : List Int} (hE : AllG w S (globs er)) (ha : Rep w S (.slice a n c) (dInts xs)) (hb : Rep w S (.slice b m d) (dInts ys)) (hl : xs.length ≤ 1000000) (hl2 : ys.length ≤ 1000000) :
  Calls Tryz.prog 79 #[.slice a n c, .slice b m d] w fun e w' =>
   (twoErr xs ys ≠ 0 ∧ Ret [] w S w' e (.tuple #[.slice none 0 0, errV 243 er (twoErr xs ys)]) [] []) ∨
   (twoErr xs ys = 0 ∧ ∃ a' n' c', Ret [] w S w' e (.tuple #[.slice a' n' c', .nilIface]) [] [(.slice a' n' c', dInts (List.zipWith max xs ys))]) := by
 refine ep79 (args := [.slice a n c, .slice b m d]) (G := globs er ++ [(_, dInts xs), (_, dInts ys)]) (by kernel_rfl) (hE.app (.cons ha (.cons hb (.nil _ _)))) ?_
 try simp only [cAp, nAp, aNl]
 refine Sq mixed [zR 0, zR 1] [] [0, 1, 4, 5] (fun _ => [zS 0 a n c, zS 1 b m d, zS 4 none 0 0, zV 5 .nilIface]) (fun _ => []) (fun _ => ?_)
 refine J_seq ?_
 refine jB mixed [(0, true), (1, true), (2, false), (3, true), (4, true), (5, true), (6, true)] [] ?_
 refine Gr (id := 1) (rest := [(2, false), (3, true), (4, true), (5, true), (6, true)]) [zR 0, zR 1] [4, 5, 6, 7] (fun _ => [zS 4 none 0 0, zV 5 .nilIface, zS 6 a n c, zS 7 b m d]) (fun _ => []) (fun _ => ?_)
 refine JR_callp [] 110 #[.slice a n c, .slice b m d, .func (.func 111) #[] #[]] (some 8) (by kernel_rfl) (fun w S hG => ?_)
 refine (eachMost (hG.pick [0, 1, 2] rfl) (hG.at 3 rfl) (hG.at 4 rfl) hl hl2).mono ?_
 rintro e w2 (⟨h2, hR⟩ | ⟨h2, a', n', c', hR⟩)
 ·refine ⟨_, _, _, hR, ?_⟩
  try simp only [cAp, nAp, aNl]
  refine Gr (id := 1) (rest := []) [zR 3, zR 4, zR 5, zR 6] [4, 5] (fun _ => [zS 4 none 0 0, zV 5 (.iface 243 (.pointer (some (er (twoErr xs ys)))))]) (fun _ => []) (fun _ => ?_)
  refine JR_end ?_
  refine J_return [[], []] (.tuple #[.slice none 0 0, .iface 243 (.pointer (some (er (twoErr xs ys))))]) (by kernel_rfl) (fun a w s => ?_)
  exact .inl ⟨h2, s.ret (by simp) [] [] rfl rfl⟩
 ·refine ⟨_, _, _, hR, ?_⟩
  try simp only [cAp, nAp, aNl]
  refine Gr (id := 1) (rest := []) [zR 3, zR 4, zR 5, zR 6] [4, 5] (fun _ => [zS 4 a' n' c', zV 5 .nilIface]) (fun _ => []) (fun _ => ?_)
  refine JR_end ?_
  refine J_return [[], []] (.tuple #[.slice a' n' c', .nilIface]) (by kernel_rfl) (fun a w s => ?_)
  exact .inr ⟨h2, a', n', c', s.ret (by simp) [] [5] rfl rfl⟩
theorem vwithin {w : World} {S : Nat → Prop} {er : Nat → Addr} {a b : Option Addr} {n m c d : Nat} {xs ys : List Int} (hE : AllG w S (globs er)) (ha : Rep w S (.slice a n c) (dInts xs)) (hb : Rep w S (.slice b m d) (dInts ys)) (hl : xs.length ≤ 1000000) (hl2 : ys.length ≤ 1000000) :
  Calls Tryz.prog 52 #[.slice a n c, .slice b m d] w fun e w' =>
   (twoErr xs ys ≠ 0 ∧ Ret [] w S w' e (.tuple #[.bool false, errV 243 er (twoErr xs ys)]) [] []) ∨
   (twoErr xs ys = 0 ∧ Ret [] w S w' e (.tuple #[.bool (inL xs ys), .nilIface]) [] []) := by
 refine ep52 (args := [.slice a n c, .slice b m d]) (G := globs er ++ [(_, dInts xs), (_, dInts ys)]) (by kernel_rfl) (hE.app (.cons ha (.cons hb (.nil _ _)))) ?_
 try simp only [cAp, nAp, aNl]
 refine Sq mixed [zR 0, zR 1] [] [0, 1, 4, 5] (fun _ => [zS 0 a n c, zS 1 b m d, zB 4 false, zV 5 .nilIface]) (fun _ => []) (fun _ => ?_)
 refine J_seq ?_
 refine J_seq ?_
 refine jB mixed [(0, true), (1, true), (2, false), (3, true)] [] ?_
 refine Gr (id := 1) (rest := [(2, false), (3, true)]) [zR 0, zR 1] [0, 1, 4, 5, 7, 8] (fun _ => [zS 0 a n c, zS 1 b m d, zB 4 false, zV 5 .nilIface, zS 7 a n c, zS 8 b m d]) (fun _ => []) (fun _ => ?_)
 refine JR_callp [] 84 #[.slice a n c, .slice b m d] (some 9) (by kernel_rfl) (fun w S hG => ?_)
 refine (vtwo (hG.pick [0, 1, 2] rfl) (hG.at 3 rfl) (hG.at 4 rfl) hl hl2).mono ?_
 rintro e w2 ⟨v, hR, ⟨h2, rfl⟩ | ⟨h2, rfl⟩⟩
 ·refine ⟨_, _, _, hR, ?_⟩
  try simp only [cAp, nAp, aNl]
  refine Gr (id := 1) (rest := []) [zR 3] [0, 1, 4, 5, 6] (fun _ => [zS 0 a n c, zS 1 b m d, zB 4 false, zV 5 .nilIface, zV 6 .nilIface]) (fun _ => []) (fun _ => ?_)
  refine JR_end ?_
  refine Sq mixed [zR 0, zR 1] [] [0, 1, 4, 5, 6, 11] (fun _ => [zS 0 a n c, zS 1 b m d, zB 4 false, zV 5 .nilIface, zV 6 .nilIface, zB 11 false]) (fun _ => []) (fun _ => ?_)
  refine cF ?_
  refine J_skip ?_
  refine J_seq ?_
  refine jB mixed [(0, true), (1, true), (2, false), (3, true), (4, true)] [] ?_
  refine Gr (id := 4) (rest := [(2, false), (3, true), (4, true)]) [zR 0, zR 1] [4, 5, 13, 14] (fun _ => [zB 4 false, zV 5 .nilIface, zS 13 a n c, zS 14 b m d]) (fun _ => []) (fun _ => ?_)
  refine JR_callp [] 85 #[.slice a n c, .slice b m d] (some 15) (by kernel_rfl) (fun w S hG => ?_)
  refine (vin (hG.at 3 rfl) (hG.at 4 rfl) hl (twoErr_fine h2).2.2).mono ?_
  rintro e w2 hR
  refine ⟨_, _, _, hR, ?_⟩
  try simp only [cAp, nAp, aNl]
  refine Gr (id := 4) (rest := []) [zR 3, zR 4] [4, 5] (fun _ => [zB 4 (inL xs ys), zV 5 .nilIface]) (fun _ => []) (fun _ => ?_)
  refine JR_end ?_
  refine J_return [[], []] (.tuple #[.bool (inL xs ys), .nilIface]) (by kernel_rfl) (fun a w s => ?_)
  exact .inr ⟨h2, s.ret (by simp) [] [] rfl rfl⟩
 ·refine ⟨_, _, _, hR, ?_⟩
  try simp only [cAp, nAp, aNl]
  refine Gr (id := 1) (rest := []) [zR 3] [0, 1, 4, 5, 6] (fun _ => [zS 0 a n c, zS 1 b m d, zB 4 false, zV 5 .nilIface, zV 6 (.iface 243 (.pointer (some (er (twoErr xs ys)))))]) (fun _ => []) (fun _ => ?_)
  refine JR_end ?_
  refine Sq mixed [zR 0, zR 1] [] [0, 1, 4, 5, 6, 11] (fun _ => [zS 0 a n c, zS 1 b m d, zB 4 false, zV 5 .nilIface, zV 6 (.iface 243 (.pointer (some (er (twoErr xs ys))))), zB 11 true]) (fun _ => []) (fun _ => ?_)
  refine cTt ?_
  refine Sq mixed [zR 0, zR 1, zR 2] [] [0, 1, 4, 5] (fun _ => [zS 0 a n c, zS 1 b m d, zB 4 false, zV 5 (.iface 243 (.pointer (some (er (twoErr xs ys)))))]) (fun _ => []) (fun _ => ?_)
  refine J_return [[], []] (.tuple #[.bool false, .iface 243 (.pointer (some (er (twoErr xs ys))))]) (by kernel_rfl) (fun a w s => ?_)
  exact .inl ⟨h2, s.ret (by simp) [] [] rfl rfl⟩
def sumL (xs : List Int) : Int := xs.foldl (· + ·) 0
theorem sumL_snoc (xs : List Int) (x : Int) : sumL (xs ++ [x]) = sumL xs + x := by simp [sumL]
theorem sumL_le {xs : List Int} (h : ∀ t ∈ xs, 0 ≤ t ∧ t ≤ 1099511627776) (i : Nat) : 0 ≤ sumL (xs.take i) ∧ sumL (xs.take i) ≤ 1099511627776 * i := by
 induction i with
 | zero => simp [sumL]
 | succ i ih =>
  cases hx : xs[i]? with
  | none =>
   rw [List.take_add_one, hx]
   simp only [Option.toList_none, List.append_nil]
   omega
  | some x =>
   rw [List.take_add_one, hx]
   have := h x (List.mem_of_getElem? hx)
   simp only [Option.toList_some, sumL_snoc]
   omega
theorem vweight {w : World} {S : Nat → Prop} {er : Nat → Addr} {a : Option Addr} {n c : Nat} {xs : List Int} (hE : AllG w S (globs er)) (ha : Rep w S (.slice a n c) (dInts xs)) (hl : xs.length ≤ 1000000) :
  Calls Tryz.prog 94 #[.slice a n c] w fun e w' =>
   (vecErr xs ≠ 0 ∧ Ret [] w S w' e (.tuple #[.int .i64 0, errV 243 er (vecErr xs)]) [] []) ∨
   (vecErr xs = 0 ∧ Ret [] w S w' e (.tuple #[.int .i64 (sumL xs), .nilIface]) [] []) := by
 obtain rfl := rep_ints_len ha
 refine ep94 (args := [.slice a xs.length c]) (G := globs er ++ [(_, dInts xs)]) (by kernel_rfl) (hE.app (.cons ha (.nil _ _))) ?_
 try simp only [cAp, nAp, aNl]
 refine Sq mixed [zR 0, zR 1] [] [0, 2, 3] (fun _ => [zS 0 a xs.length c, zI 2 0, zV 3 .nilIface]) (fun _ => []) (fun _ => ?_)
 refine J_seq ?_
 refine J_seq ?_
 refine jB mixed [(0, true), (1, false), (2, true)] [] ?_
 refine Gr (id := 1) (rest := [(1, false), (2, true)]) [zR 0] [0, 2, 3, 8] (fun _ => [zS 0 a xs.length c, zI 2 0, zV 3 .nilIface, zS 8 a xs.length c]) (fun _ => []) (fun _ => ?_)
 refine JR_callp [] 59 #[.slice a xs.length c] (some 9) (by kernel_rfl) (fun w S hG => ?_)
 refine (vcheck (hG.pick [0, 1, 2] rfl) (hG.at 3 rfl) hl).mono ?_
 rintro e w2 ⟨v, hR, ⟨h2, rfl⟩ | ⟨h2, rfl⟩⟩
 ·refine ⟨_, _, _, hR, ?_⟩
  have h6 := vecErr_len h2
  try simp only [cAp, nAp, aNl]
  refine Gr (id := 1) (rest := []) [zR 2] [0, 2, 3, 4] (fun _ => [zS 0 a xs.length c, zI 2 0, zV 3 .nilIface, zV 4 .nilIface]) (fun _ => []) (fun _ => ?_)
  refine JR_end ?_
  refine Sq mixed [zR 0, zR 1] [] [0, 2, 3, 4, 11] (fun _ => [zS 0 a xs.length c, zI 2 0, zV 3 .nilIface, zV 4 .nilIface, zB 11 false]) (fun _ => []) (fun _ => ?_)
  refine cF ?_
  refine J_skip ?_
  refine Sq mixed [zR 0] [] [0, 2, 3, 5] (fun _ => [zS 0 a xs.length c, zI 2 0, zV 3 .nilIface, zI 5 0]) (fun _ => []) (fun _ => ?_)
  refine J_seq ?_
  refine Sq mixed [zR 0, zR 1, zR 2] [] [2, 3, 5, 13, 14, 15] (fun _ => [zI 2 0, zV 3 .nilIface, zI 5 0, zS 13 a xs.length c, zI 14 (↑xs.length : Int), zI 15 0]) (fun _ => []) (fun _ => ?_)
  refine J_block ?_
  refine J_loopx (fun i : Int => [zI 2 0, zV 3 .nilIface, zI 5 (sumL (xs.take i.toNat)), zS 13 a xs.length c, zI 14 (↑xs.length : Int), zI 15 i]) (fun i : Int => []) (fun i : Int => []) (fun i : Int => [(.nilIface, (D.v Value.nilIface)), (.pointer (sA 0 0), (D.ptr [D.v (Value.iface 243 (Value.pointer (some (er 2))))])), (.pointer (sA 3 0), (D.ptr [D.v (Value.iface 243 (Value.pointer (some (er 3))))])), (.slice a xs.length c, (dInts xs))]) (fun i : Int => (xs.length - i).toNat) (fun i : Int => (0 ≤ i ∧ i ≤ xs.length)) 0 [2, 3, 5, 13, 14, 15] [] [] [0, 1, 2, 3] ?_ (by kernel_rfl) rfl rfl rfl ?_
  ·exact ⟨by simp, by omega⟩
  rintro i ⟨hi0, hi⟩
  refine Sq mixed [zR 0] [] [2, 3, 5, 13, 14, 15, 16] (fun _ => [zI 2 0, zV 3 .nilIface, zI 5 (sumL (List.take i.toNat xs)), zS 13 a xs.length c, zI 14 (↑xs.length : Int), zI 15 i, zB 16 (decide (i < (↑xs.length : Int)))]) (fun _ => []) (fun _ => ?_)
  refine J_seq ?_
  refine cC (t := decide (i < (↑xs.length : Int))) (fun hlt => ?_) (fun hlt => ?_)
  ·have hlt2 : i < xs.length := by simpa using hlt
   obtain ⟨x, hx⟩ : ∃ x, xs[i.toNat]? = some x := ⟨_, List.getElem?_eq_getElem (by omega)⟩
   have hs := sumL_le (vecErr_in h2) i.toNat
   have hs2 := vecErr_in h2 x (List.mem_of_getElem? hx)
   refine J_read0 3 rfl i.toNat (map_at hx) (by kernel_rfl) (fun b1 off1 cs1 ty1 fz1 ha1 hrd1 => ?_)
   cases ha1
   have hrd1_0 := rd0 (hrd1 0 _ rfl)
   try simp only [cAp, nAp, aNl]
   refine J_skip ?_
   refine J_seq ?_
   refine J_block ?_
   refine Sp mixed [.rd 0 [] 0 2, .rd 1 [.r 0 (some (nI x))] 0 0, zR 2] [] [2, 3, 5, 7, 13, 14, 15] (fun _ => [zI 2 0, zV 3 .nilIface, zI 5 (sumL (List.take i.toNat xs)), zI 7 x, zS 13 (sA b1 off1) xs.length c, zI 14 (↑xs.length : Int), zI 15 i]) (fun _ => []) (fun _ => [(0 : Int) ≤ i, i < (↑xs.length : Int), cs1[off1 + i.toNat * (1 : Nat)]? = some (nI x)]) (fun _ => ⟨hi0, hlt2, hrd1_0, trivial⟩) (fun _ => ?_)
   refine Gp mixed [zR 0, zR 1, .rd 2 [] 0 1, zR 3] [] [2, 3, 5, 7, 13, 14, 15] (fun _ => [zI 2 0, zV 3 .nilIface, zI 5 (sumL (List.take i.toNat xs) + x), zI 7 x, zS 13 (sA b1 off1) xs.length c, zI 14 (↑xs.length : Int), zI 15 i]) (fun _ => []) (fun _ => [IntKind.i64.wrap (sumL (List.take i.toNat xs) + x) = sumL (List.take i.toNat xs) + x]) (fun _ => ⟨wrap_i64 (by omega) (by omega), trivial⟩) (fun _ => ?_)
   refine J_eb ?_
   refine Gp mixed [.rd 0 [] 0 1, zR 1] [] [2, 3, 5, 7, 13, 14, 15] (fun _ => [zI 2 0, zV 3 .nilIface, zI 5 (sumL (List.take i.toNat xs) + x), zI 7 x, zS 13 (sA b1 off1) xs.length c, zI 14 (↑xs.length : Int), zI 15 (i + 1)]) (fun _ => []) (fun _ => [IntKind.i64.wrap (i + (1 : Int)) = i + (1 : Int)]) (fun _ => ⟨wrap_i64 (by omega) (by omega), trivial⟩) (fun _ => ?_)
   rw [← sumL_snoc, take_snoc hi0 hx]
   refine J_backx (i + 1) [2, 3, 5, 13, 14, 15] [] [] [0, 1, 2, 3] ?_ ?_ (by kernel_rfl) rfl rfl rfl
   ·exact ⟨by omega, by omega⟩
   ·omega
  ·have e : xs.take i.toNat = xs := List.take_of_length_le (by simp at hlt; omega)
   refine J_exit rfl ?_
   refine Sq mixed [zR 0, zR 1, zR 2] [] [2, 3] (fun _ => [zI 2 (sumL (List.take i.toNat xs)), zV 3 .nilIface]) (fun _ => []) (fun _ => ?_)
   refine J_return [[], []] (.tuple #[.int .i64 (sumL (List.take i.toNat xs)), .nilIface]) (by kernel_rfl) (fun a w s => ?_)
   rw [e]
   exact .inr ⟨h2, s.ret (by simp) [] [] rfl rfl⟩
 ·refine ⟨_, _, _, hR, ?_⟩
  try simp only [cAp, nAp, aNl]
  refine Gr (id := 1) (rest := []) [zR 2] [0, 2, 3, 4] (fun _ => [zS 0 a xs.length c, zI 2 0, zV 3 .nilIface, zV 4 (.iface 243 (.pointer (some (er (vecErr xs)))))]) (fun _ => []) (fun _ => ?_)
  refine JR_end ?_
  refine Sq mixed [zR 0, zR 1] [] [0, 2, 3, 4, 11] (fun _ => [zS 0 a xs.length c, zI 2 0, zV 3 .nilIface, zV 4 (.iface 243 (.pointer (some (er (vecErr xs))))), zB 11 true]) (fun _ => []) (fun _ => ?_)
  refine cTt ?_
  refine Sq mixed [zR 0, zR 1, zR 2] [] [0, 2, 3] (fun _ => [zS 0 a xs.length c, zI 2 0, zV 3 (.iface 243 (.pointer (some (er (vecErr xs)))))]) (fun _ => []) (fun _ => ?_)
  refine J_return [[], []] (.tuple #[.int .i64 0, .iface 243 (.pointer (some (er (vecErr xs))))]) (by kernel_rfl) (fun a w s => ?_)
  exact .inl ⟨h2, s.ret (by simp) [] [] rfl rfl⟩
theorem vown {w : World} {S : Nat → Prop} {a : Option Addr} {n c : Nat} {xs : List Int} (ha : Rep w S (.slice a n c) (dInts xs)) (hl : xs.length ≤ 1000000) :
  Calls Tryz.prog 39 #[.slice a n c] w fun e w' => ∃ a' c', Ret [] w S w' e (.slice a' n c') [] [(.slice a' n c', dInts xs)] := by
 obtain rfl := rep_ints_len ha
 refine ep39 (args := [.slice a xs.length c]) (G := [(_, dInts xs)]) (by kernel_rfl) (.cons ha (.nil _ _)) ?_
 refine J_stp (stp_accm eI 3 1) ?_
 try simp only [cAp, nAp, aNl]
 refine Sq mixed [zR 0] [] [0, 2] (fun _ => [zS 0 a xs.length c, zS 2 none 0 0]) (fun _ => []) (fun _ => ?_)
 refine Sq mixed [zR 0] [] [0, 2, 3] (fun _ => [zS 0 a xs.length c, zS 2 none 0 0, zS 3 none 0 0]) (fun _ => []) (fun _ => ?_)
 refine J_seq ?_
 refine jB mixed [(0, true), (1, true), (2, false), (3, true)] [] ?_
 refine Gr (id := 2) (rest := [(2, false), (3, true)]) [zR 0, zR 1] [2, 4, 5] (fun _ => [zS 2 none 0 0, zS 4 none 0 0, zS 5 a xs.length c]) (fun _ => []) (fun _ => ?_)
 refine JR_appm 0 25 3 1 8 (.int .i64 0) (a0 := none) (len := 0) (cap0 := 0) (ax := a) (m := xs.length) (c := c) (dst := (some 6)) xs (by kernel_rfl) (by kernel_rfl) (by kernel_rfl) (by kernel_rfl) rfl (by decide) rfl (fun _ _ _ s => src_fact s 0 rfl (by decide)) (by simp only [maxLen]; omega) (by omega) (fun av1 cv1 => ?_)
 rw [Nat.zero_add]
 try simp only [cAp, nAp, aNl]
 refine Gr (id := 2) (rest := []) [zR 3] [2] (fun _ => [zS 2 av1 xs.length cv1]) (fun _ => []) (fun _ => ?_)
 try simp only [cAp, nAp, aNl]
 refine JR_end ?_
 try simp only [cAp, nAp, aNl]
 refine J_return [[]] (.slice av1 xs.length cv1) (by kernel_rfl) (fun a w s => ?_)
 exact ⟨av1, cv1, (s.stp (stp_freeze 0 rfl)).ret (by simp) [] [1] rfl rfl⟩
end Go.Proofs.YtpjkiomccpjboaaGreatDoor
end
section
namespace Go.Proofs.YtpjkiomccpjboaaGreatDoor.Er
open Go Go.RowKit Go.Extern.Stop Go.Stop Go.Extern
theorem isTypeOf (v : Value) (w : World) : (Extern.ReflectliteType.typeOf #[.iface 243 v]).run Tryz.prog w = .ok (.iface 204 (.agg #[.pointer (some ⟨13, 243, none⟩)])) w := by kernel_rfl
theorem isComparable (w : World) : (callFunc 194 #[.agg #[.pointer (some ⟨13, 243, none⟩)]]).run Tryz.prog w = .ok (.value (.bool true)) w := by kernel_rfl
theorem isMethodComparable (v : Value) (w : World) : (Go.method 376 204 v "Comparable").run Tryz.prog w = .ok (194, v) w := by kernel_rfl
theorem isComp : (Tryz.prog.info? 243).map (·.comparable) = some true := by kernel_rfl
theorem isSize : (Tryz.prog.info? 264).map (·.size) = some 1 := by kernel_rfl
theorem noIsE (v : Value) (xT : TypeId) (w : World) : (Instr.typeAssert (.iface 243 v) xT 215 true).run Tryz.prog w = .ok (.tuple #[.nilIface, .bool false]) w := run_typeAssert_lacksB Tryz.underlying215 (by kernel_rfl) (by kernel_rfl) v xT w
theorem noUnwrapE (v : Value) (xT : TypeId) (w : World) : (Instr.typeAssert (.iface 243 v) xT 211 true).run Tryz.prog w = .ok (.tuple #[.nilIface, .bool false]) w := run_typeAssert_lacksB Tryz.underlying211 (by kernel_rfl) (by kernel_rfl) v xT w
theorem noUnwrapsE (v : Value) (xT : TypeId) (w : World) : (Instr.typeAssert (.iface 243 v) xT 213 true).run Tryz.prog w = .ok (.tuple #[.nilIface, .bool false]) w := run_typeAssert_lacksB Tryz.underlying213 (by kernel_rfl) (by kernel_rfl) v xT w
theorem noAsE (v : Value) (xT : TypeId) (w : World) : (Instr.typeAssert (.iface 243 v) xT 208 true).run Tryz.prog w = .ok (.tuple #[.nilIface, .bool false]) w := run_typeAssert_lacksB Tryz.underlying208 (by kernel_rfl) (by kernel_rfl) v xT w
theorem is_same (a : Addr) (w : World) :
  Calls Tryz.prog 87 #[.iface 243 (.pointer (some a)), .iface 243 (.pointer (some a))] w fun e w' => e = .returned (.bool true) ∧ w' = w := by
 obtain ⟨i, hi, hcmp⟩ := Option.map_eq_some_iff.1 isComp
 obtain ⟨j, hj, hjs⟩ := Option.map_eq_some_iff.1 isSize
 have h8 := @run_callFunc_extern Tryz.prog 118 _ Extern.ReflectliteType.typeOf Tryz.func118 (by kernel_rfl) (by kernel_rfl) (by kernel_rfl) (by kernel_rfl)
 have tT := isTypeOf
 have cT := isComparable
 have mR := isMethodComparable
 have heq := run_eql_iface_ptr_same (P := Tryz.prog) w a Tryz.underlying33 Tryz.underlying243 hi hcmp hj
 go_enter Tryz.func87, Tryz.ntmps87
 go_wp2
 refine wp_loop_rounds 1 ?_
 rw [rounds_succ]
 go_wp2
 go_ret
 exact ⟨rfl, rfl⟩
theorem is_other (a b : Addr) (ca cb : Array Value) (ta tb : TypeId) (w : World) (hne : a ≠ b) (ha : w.heap[a.block]? = some (.cells ca ta (0, 0))) (hb : w.heap[b.block]? = some (.cells cb tb (0, 0))) :
  Calls Tryz.prog 87 #[.iface 243 (.pointer (some a)), .iface 243 (.pointer (some b))] w fun e w' => e = .returned (.bool false) ∧ w' = w := by
 obtain ⟨i, hi, hcmp⟩ := Option.map_eq_some_iff.1 isComp
 obtain ⟨j, hj, hjs⟩ := Option.map_eq_some_iff.1 isSize
 have h8 := @run_callFunc_extern Tryz.prog 118 _ Extern.ReflectliteType.typeOf Tryz.func118 (by kernel_rfl) (by kernel_rfl) (by kernel_rfl) (by kernel_rfl)
 have tT := isTypeOf
 have cT := isComparable
 have mR := isMethodComparable
 have nE := noIsE
 have uE := noUnwrapE
 have vE := noUnwrapsE
 have heq := run_eql_iface_ptr_other (P := Tryz.prog) w Tryz.underlying33 Tryz.underlying243 hi hcmp hj (by rw [hjs]; decide) hne ha hb
 go_enter Tryz.func87, Tryz.ntmps87
 go_wp2
 refine wp_loop_rounds 1 ?_
 rw [rounds_succ]
 go_wp2
 go_ret
 exact ⟨rfl, rfl⟩
theorem valueOfFF (t : Addr) (w : World) : (ReflectliteValue.unpack (.iface 143 (.pointer (some t)))).run Tryz.prog w
  = .ok (.agg #[.pointer (some ⟨13, 143, none⟩), .pointer (some ⟨w.heap.size, 0, none⟩), .int .u64 150]) (w.alloc (.cells #[.pointer (some t)] 143)) := by kernel_rfl
theorem typeFF (a : Addr) (w : World) : (ReflectliteValue.methodAny (ReflectliteValue.valueError "reflectlite.Value.Type" 0) (fun t _ _ _ => ReflectliteType.toType t) #[.agg #[.pointer (some ⟨13, 143, none⟩), .pointer (some a), .int .u64 150]]).run Tryz.prog w
  = .ok (.iface 204 (.agg #[.pointer (some ⟨13, 143, none⟩)])) w := by kernel_rfl
theorem methodKind (h : Value) (w : World) : (Go.method 376 204 (.agg #[h]) "Kind").run Tryz.prog w = .ok (184, h) w := by kernel_rfl
theorem kindFF (w : World) : ((ReflectliteType.abiMethod fun t => (fun a : Nat => Value.int IntKind.u8 (a : Int)) <$> Rtype.kind t) #[.pointer (some ⟨13, 143, none⟩)]).run Tryz.prog w = .ok (.int .u8 22) w := by kernel_rfl
theorem kindF (w : World) : ((ReflectliteType.abiMethod fun t => (fun a : Nat => Value.int IntKind.u8 (a : Int)) <$> Rtype.kind t) #[.pointer (some ⟨13, 102, none⟩)]).run Tryz.prog w = .ok (.int .u8 22) w := by kernel_rfl
theorem rlm (z : Sem Value) (f : TypeId → Addr → Nat → Nat → Sem Value) (v : Value) :
  ReflectliteValue.method z f #[v] = (do match ← ReflectliteValue.parts v with | none => z | some (t, a, fl) => f t a fl (fl % 32)) := rfl
theorem partsFF (a : Addr) (w : World) : (ReflectliteValue.parts (.agg #[.pointer (some ⟨13, 143, none⟩), .pointer (some a), .int .u64 150])).run Tryz.prog w = .ok (some (143, a, 150)) w := by kernel_rfl
theorem isNilFF (a p : Addr) (W : World) (ha : W.cell? a = some (.pointer (some p))) :
  (ReflectliteValue.method (ReflectliteValue.valueError "reflectlite.Value.IsNil" 0) ReflectliteValue.isNil #[.agg #[.pointer (some ⟨13, 143, none⟩), .pointer (some a), .int .u64 150]]).run Tryz.prog W = .ok (.bool false) W := by
 rw [rlm]
 simp only [Sem.run_bind, partsFF, Result.andThen]
 simp [ReflectliteValue.isNil, loadVar, isAgg, underlying, Tryz.underlying143, ha, Result.andThen]
theorem methodElem (h : Value) (w : World) : (Go.method 376 204 (.agg #[h]) "Elem").run Tryz.prog w = .ok (195, .agg #[h]) w := by kernel_rfl
theorem methodImplements (h : Value) (w : World) : (Go.method 376 204 (.agg #[h]) "Implements").run Tryz.prog w = .ok (196, .agg #[h]) w := by kernel_rfl
theorem methodAssignableTo (h : Value) (w : World) : (Go.method 376 204 (.agg #[h]) "AssignableTo").run Tryz.prog w = .ok (193, .agg #[h]) w := by kernel_rfl
theorem elemFF (w : World) : (ReflectliteType.method ReflectliteType.elem #[.agg #[.pointer (some ⟨13, 143, none⟩)]]).run Tryz.prog w = .ok (.iface 204 (.agg #[.pointer (some ⟨13, 102, none⟩)])) w := by kernel_rfl
theorem implementsF (w : World) : (ReflectliteType.relation "Implements" ReflectliteType.implements_ #[.agg #[.pointer (some ⟨13, 102, none⟩)], .iface 204 (.agg #[.pointer (some ⟨13, 33, none⟩)])]).run Tryz.prog w = .ok (.bool true) w := by kernel_rfl
theorem typeOfF (v : Value) (w : World) : (ReflectliteType.typeOf #[.iface 102 v]).run Tryz.prog w = .ok (.iface 204 (.agg #[.pointer (some ⟨13, 102, none⟩)])) w := by kernel_rfl
theorem assignableF (w : World) : (ReflectliteType.relation "AssignableTo" ReflectliteType.assignableTo #[.agg #[.pointer (some ⟨13, 102, none⟩)], .iface 204 (.agg #[.pointer (some ⟨13, 102, none⟩)])]).run Tryz.prog w = .ok (.bool true) w := by kernel_rfl
theorem assignableT (w : World) : (ReflectliteType.relation "AssignableTo" ReflectliteType.assignableTo #[.agg #[.pointer (some ⟨13, 243, none⟩)], .iface 204 (.agg #[.pointer (some ⟨13, 102, none⟩)])]).run Tryz.prog w = .ok (.bool false) w := by kernel_rfl
theorem valueOfF (e : Addr) (w : World) : (ReflectliteValue.unpack (.iface 102 (.pointer (some e)))).run Tryz.prog w
  = .ok (.agg #[.pointer (some ⟨13, 102, none⟩), .pointer (some ⟨w.heap.size, 0, none⟩), .int .u64 150]) (w.alloc (.cells #[.pointer (some e)] 102)) := by kernel_rfl
theorem elemOfFF (w : World) : (Rtype.elem? 143).run Tryz.prog w = .ok (some 102) w := by kernel_rfl
theorem mkF (p : Addr) (w : World) : (ReflectliteValue.mk 102 p ReflectliteValue.flagAddr).run Tryz.prog w = .ok (.agg #[.pointer (some ⟨13, 102, none⟩), .pointer (some p), .int .u64 406]) w := by kernel_rfl
theorem elemVFF (a p : Addr) (W : World) (ha : W.cell? a = some (.pointer (some p))) :
  (ReflectliteValue.method (ReflectliteValue.valueError "reflectlite.Value.Elem" 0) ReflectliteValue.elem #[.agg #[.pointer (some ⟨13, 143, none⟩), .pointer (some a), .int .u64 150]]).run Tryz.prog W
   = .ok (.agg #[.pointer (some ⟨13, 102, none⟩), .pointer (some p), .int .u64 406]) W := by
 rw [rlm]
 simp only [Sem.run_bind, partsFF, Result.andThen]
 simp [ReflectliteValue.elem, loadVar, isAgg, underlying, Tryz.underlying143, ha, Result.andThen, elemOfFF, mkF]
theorem rls (v x : Value) : ReflectliteValue.set #[v, x] = (do
  let (some (dst, a, fl), some (src, b, _)) := (← ReflectliteValue.parts v, ← ReflectliteValue.parts x)
   | unsupported (.noEntry "extern/(internal/reflectlite.Value).Set.zeroValue")
  if fl / ReflectliteValue.flagAddr % 2 == 0 then unsupported (.noEntry "extern/(internal/reflectlite.Value).Set.unaddressable")
  let val ← loadVar src b
  if ← Rtype.directlyAssignable dst src then storeVar dst a val
  else if ← Rtype.implements dst src then
   if (← Rtype.kind src) == 20 then
    match val with
    | .nilIface => unsupported (.noEntry "extern/reflectlite: a nil value of one interface type handed on as a value of another")
    | _ => storeVar dst a val
   else storeVar dst a (.iface src val)
  else panicString ("reflectlite.Set: value of type " ++ (← Rtype.spelt src) ++ " is not assignable to type " ++ (← Rtype.spelt dst))
  pure (.tuple #[])) := rfl
theorem partsFa (a : Addr) (w : World) : (ReflectliteValue.parts (.agg #[.pointer (some ⟨13, 102, none⟩), .pointer (some a), .int .u64 406])).run Tryz.prog w = .ok (some (102, a, 406)) w := by kernel_rfl
theorem partsF (a : Addr) (w : World) : (ReflectliteValue.parts (.agg #[.pointer (some ⟨13, 102, none⟩), .pointer (some a), .int .u64 150])).run Tryz.prog w = .ok (some (102, a, 150)) w := by kernel_rfl
theorem directF (w : World) : (Rtype.directlyAssignable 102 102).run Tryz.prog w = .ok true w := by kernel_rfl
theorem setF (ta b e : Addr) (old : Value) (W : World) (hb : W.cell? b = some (.pointer (some e))) (ht : W.cell? ta = some old) (hf : W.frozen? ta = false) :
  (ReflectliteValue.set #[.agg #[.pointer (some ⟨13, 102, none⟩), .pointer (some ta), .int .u64 406], .agg #[.pointer (some ⟨13, 102, none⟩), .pointer (some b), .int .u64 150]]).run Tryz.prog W
   = .ok (.tuple #[]) (W.setCell ta (.pointer (some e))) := by
 rw [rls]
 simp only [Sem.run_bind, partsFa, partsF, Result.andThen]
 simp [ReflectliteValue.flagAddr, loadVar, isAgg, underlying, Tryz.underlying102, hb, Result.andThen, directF, storeVar, Value.cells, storeCells, Addr.add]
 rw [run_store Tryz.prog W ta _ _ (by rfl)]
 simp [ht, hf]
theorem cell_lt {w : World} {a : Addr} {v : Value} (h : w.cell? a = some v) : a.block < w.heap.size := by
 rcases Nat.lt_or_ge a.block w.heap.size with h' | h'
 ·exact h'
 ·simp [World.cell?, Array.getElem?_eq_none h'] at h
set_option maxHeartbeats 4000000 in
theorem as_hit (e t : Addr) (old : Value) (w : World) (hg : w.cell? ⟨12, 0, none⟩ = some (.iface 204 (.agg #[.pointer (some ⟨13, 33, none⟩)]))) (ht0 : w.cell? t = some old) (hf0 : w.frozen? t = false) :
  Calls Tryz.prog 86 #[.iface 102 (.pointer (some e)), .iface 143 (.pointer (some t))] w fun ev w' => ev = .returned (.bool true) ∧ w' = ((((w.alloc (.cells #[.pointer (some t)] 143)).alloc (.cells #[.pointer (some ⟨13, 143, none⟩), .pointer (some ⟨w.heap.size, 0, none⟩), .int .u64 150] 174)).alloc (.cells #[.pointer (some ⟨13, 143, none⟩), .pointer (some ⟨w.heap.size, 0, none⟩), .int .u64 150] 174)).alloc (.cells #[.pointer (some e)] 102)).setCell t (.pointer (some e)) := by
 have h6 := @run_callFunc_extern Tryz.prog 114 _ (fun args => ReflectliteValue.unpack (args.getD 0 (.tuple #[]))) Tryz.func114 (by kernel_rfl) (by kernel_rfl) (by kernel_rfl) (by kernel_rfl)
 have h7 := @run_callFunc_extern Tryz.prog 115 _ (ReflectliteValue.methodAny (ReflectliteValue.valueError "reflectlite.Value.Type" 0) (fun t _ _ _ => ReflectliteType.toType t)) Tryz.func115 (by kernel_rfl) (by kernel_rfl) (by kernel_rfl) (by kernel_rfl)
 have h8 := @run_callFunc_extern Tryz.prog 116 _ (ReflectliteValue.method (ReflectliteValue.valueError "reflectlite.Value.IsNil" 0) ReflectliteValue.isNil) Tryz.func116 (by kernel_rfl) (by kernel_rfl) (by kernel_rfl) (by kernel_rfl)
 have h27 := @run_callFunc_extern Tryz.prog 184 _ (ReflectliteType.abiMethod fun t => do pure (.int .u8 (← Rtype.kind t))) Tryz.func184 (by kernel_rfl) (by kernel_rfl) (by kernel_rfl) (by kernel_rfl)
 have h37 := @run_callFunc_extern Tryz.prog 195 _ (ReflectliteType.method ReflectliteType.elem) Tryz.func195 (by kernel_rfl) (by kernel_rfl) (by kernel_rfl) (by kernel_rfl)
 have h38 := @run_callFunc_extern Tryz.prog 196 _ (ReflectliteType.relation "Implements" ReflectliteType.implements_) Tryz.func196 (by kernel_rfl) (by kernel_rfl) (by kernel_rfl) (by kernel_rfl)
 have h10 := @run_callFunc_extern Tryz.prog 118 _ ReflectliteType.typeOf Tryz.func118 (by kernel_rfl) (by kernel_rfl) (by kernel_rfl) (by kernel_rfl)
 have h35 := @run_callFunc_extern Tryz.prog 193 _ (ReflectliteType.relation "AssignableTo" ReflectliteType.assignableTo) Tryz.func193 (by kernel_rfl) (by kernel_rfl) (by kernel_rfl) (by kernel_rfl)
 have h11 := @run_callFunc_extern Tryz.prog 136 _ (ReflectliteValue.method (ReflectliteValue.valueError "reflectlite.Value.Elem" 0) ReflectliteValue.elem) Tryz.func136 (by kernel_rfl) (by kernel_rfl) (by kernel_rfl) (by kernel_rfl)
 have h12 := @run_callFunc_extern Tryz.prog 137 _ ReflectliteValue.set Tryz.func137 (by kernel_rfl) (by kernel_rfl) (by kernel_rfl) (by kernel_rfl)
 have tO := typeOfF
 have mA := methodAssignableTo
 have a25 := assignableF
 have v25 := valueOfF
 have f6 := valueOfFF
 have f7 := typeFF
 have mK := methodKind
 have mE := methodElem
 have mI := methodImplements
 have k27 := kindFF
 have k25 := kindF
 have e27 := elemFF
 have i25 := implementsF
 have n8 := isNilFF ⟨w.heap.size, 0, none⟩ t ((w.alloc (.cells #[.pointer (some t)] 143)).alloc (.cells #[.pointer (some ⟨13, 143, none⟩), .pointer (some ⟨w.heap.size, 0, none⟩), .int .u64 150] 174)) (by simp)
 have hlt : 12 < w.heap.size := cell_lt hg
 have hg2 : ((w.alloc (.cells #[.pointer (some t)] 143)).alloc (.cells #[.pointer (some ⟨13, 143, none⟩), .pointer (some ⟨w.heap.size, 0, none⟩), .int .u64 150] 174)).cell? ⟨12, 0, none⟩ = some (.iface 204 (.agg #[.pointer (some ⟨13, 33, none⟩)])) := by
  rw [World.cell?_alloc_lt _ _ ⟨12, 0, none⟩ (by simp; omega), World.cell?_alloc_lt _ _ ⟨12, 0, none⟩ hlt]; exact hg
 have htl : t.block < w.heap.size := cell_lt ht0
 have el := elemVFF ⟨w.heap.size, 0, none⟩ t (((w.alloc (.cells #[.pointer (some t)] 143)).alloc (.cells #[.pointer (some ⟨13, 143, none⟩), .pointer (some ⟨w.heap.size, 0, none⟩), .int .u64 150] 174)).alloc (.cells #[.pointer (some ⟨13, 143, none⟩), .pointer (some ⟨w.heap.size, 0, none⟩), .int .u64 150] 174)) (by rw [World.cell?_alloc_lt _ _ _ (by simp; omega), World.cell?_alloc_lt _ _ _ (by simp), World.cell?_alloc_at _ _ _ _ (by simp)]; rfl)
 have st := setF t ⟨w.heap.size + 1 + 1 + 1, 0, none⟩ e old ((((w.alloc (.cells #[.pointer (some t)] 143)).alloc (.cells #[.pointer (some ⟨13, 143, none⟩), .pointer (some ⟨w.heap.size, 0, none⟩), .int .u64 150] 174)).alloc (.cells #[.pointer (some ⟨13, 143, none⟩), .pointer (some ⟨w.heap.size, 0, none⟩), .int .u64 150] 174)).alloc (.cells #[.pointer (some e)] 102))
  (by rw [World.cell?_alloc_at _ _ _ _ (by simp)]; rfl)
  (by rw [World.cell?_alloc_lt _ _ t (by simp; omega), World.cell?_alloc_lt _ _ t (by simp; omega), World.cell?_alloc_lt _ _ t (by simp; omega), World.cell?_alloc_lt _ _ t htl]; exact ht0)
  (by rw [World.frozen?_alloc_old _ _ t (by simp; omega), World.frozen?_alloc_old _ _ t (by simp; omega), World.frozen?_alloc_old _ _ t (by simp; omega), World.frozen?_alloc_old _ _ t (Nat.ne_of_lt htl)]; exact hf0)
 go_enter Tryz.func86, Tryz.ntmps86
 go_wp2
 refine wp_loop_rounds 1 ?_
 rw [rounds_succ]
 go_wp2
 go_ret
 exact ⟨rfl, rfl⟩
set_option maxHeartbeats 4000000 in
theorem as_miss (e t : Addr) (w : World) (hg : w.cell? ⟨12, 0, none⟩ = some (.iface 204 (.agg #[.pointer (some ⟨13, 33, none⟩)]))) :
  Calls Tryz.prog 86 #[.iface 243 (.pointer (some e)), .iface 143 (.pointer (some t))] w fun ev w' => ev = .returned (.bool false) ∧ w' = (((w.alloc (.cells #[.pointer (some t)] 143)).alloc (.cells #[.pointer (some ⟨13, 143, none⟩), .pointer (some ⟨w.heap.size, 0, none⟩), .int .u64 150] 174)).alloc (.cells #[.pointer (some ⟨13, 143, none⟩), .pointer (some ⟨w.heap.size, 0, none⟩), .int .u64 150] 174)) := by
 have h6 := @run_callFunc_extern Tryz.prog 114 _ (fun args => ReflectliteValue.unpack (args.getD 0 (.tuple #[]))) Tryz.func114 (by kernel_rfl) (by kernel_rfl) (by kernel_rfl) (by kernel_rfl)
 have h7 := @run_callFunc_extern Tryz.prog 115 _ (ReflectliteValue.methodAny (ReflectliteValue.valueError "reflectlite.Value.Type" 0) (fun t _ _ _ => ReflectliteType.toType t)) Tryz.func115 (by kernel_rfl) (by kernel_rfl) (by kernel_rfl) (by kernel_rfl)
 have h8 := @run_callFunc_extern Tryz.prog 116 _ (ReflectliteValue.method (ReflectliteValue.valueError "reflectlite.Value.IsNil" 0) ReflectliteValue.isNil) Tryz.func116 (by kernel_rfl) (by kernel_rfl) (by kernel_rfl) (by kernel_rfl)
 have h27 := @run_callFunc_extern Tryz.prog 184 _ (ReflectliteType.abiMethod fun t => do pure (.int .u8 (← Rtype.kind t))) Tryz.func184 (by kernel_rfl) (by kernel_rfl) (by kernel_rfl) (by kernel_rfl)
 have h37 := @run_callFunc_extern Tryz.prog 195 _ (ReflectliteType.method ReflectliteType.elem) Tryz.func195 (by kernel_rfl) (by kernel_rfl) (by kernel_rfl) (by kernel_rfl)
 have h38 := @run_callFunc_extern Tryz.prog 196 _ (ReflectliteType.relation "Implements" ReflectliteType.implements_) Tryz.func196 (by kernel_rfl) (by kernel_rfl) (by kernel_rfl) (by kernel_rfl)
 have h10 := @run_callFunc_extern Tryz.prog 118 _ ReflectliteType.typeOf Tryz.func118 (by kernel_rfl) (by kernel_rfl) (by kernel_rfl) (by kernel_rfl)
 have h35 := @run_callFunc_extern Tryz.prog 193 _ (ReflectliteType.relation "AssignableTo" ReflectliteType.assignableTo) Tryz.func193 (by kernel_rfl) (by kernel_rfl) (by kernel_rfl) (by kernel_rfl)
 have tO := isTypeOf
 have mA := methodAssignableTo
 have a25 := assignableT
 have f6 := valueOfFF
 have f7 := typeFF
 have mK := methodKind
 have mE := methodElem
 have mI := methodImplements
 have k27 := kindFF
 have k25 := kindF
 have e27 := elemFF
 have i25 := implementsF
 have nA := noAsE
 have uE := noUnwrapE
 have vE := noUnwrapsE
 have n8 := isNilFF ⟨w.heap.size, 0, none⟩ t ((w.alloc (.cells #[.pointer (some t)] 143)).alloc (.cells #[.pointer (some ⟨13, 143, none⟩), .pointer (some ⟨w.heap.size, 0, none⟩), .int .u64 150] 174)) (by simp)
 have hlt : 12 < w.heap.size := cell_lt hg
 have hg2 : ((w.alloc (.cells #[.pointer (some t)] 143)).alloc (.cells #[.pointer (some ⟨13, 143, none⟩), .pointer (some ⟨w.heap.size, 0, none⟩), .int .u64 150] 174)).cell? ⟨12, 0, none⟩ = some (.iface 204 (.agg #[.pointer (some ⟨13, 33, none⟩)])) := by
  rw [World.cell?_alloc_lt _ _ ⟨12, 0, none⟩ (by simp; omega), World.cell?_alloc_lt _ _ ⟨12, 0, none⟩ hlt]; exact hg
 go_enter Tryz.func86, Tryz.ntmps86
 go_wp2
 refine wp_loop_rounds 1 ?_
 rw [rounds_succ]
 go_wp2
 go_ret
 exact ⟨rfl, rfl⟩
end Go.Proofs.YtpjkiomccpjboaaGreatDoor.Er
end
section
namespace Go.Proofs.YtpjkiomccpjboaaGreatDoor
open Go Go.Sx
abbrev eO (er : Nat → Addr) (eb : Nat → Array Value × TypeId) (k : Nat) : Value × D := (.pointer (some (er k)), .obj (.cells (eb k).1 (eb k).2 (0, 0)))
def cglobs (er : Nat → Addr) (eb : Nat → Array Value × TypeId) : List (Value × D) := [dE 243 er 6 1, dE 243 er 0 2, dE 243 er 3 3, dE 243 er 1 4, dE 243 er 7 5, dE 243 er 5 6, dE 243 er 8 7, dE 243 er 9 8, dE 243 er 4 9, dE 243 er 10 10, dE 243 er 11 11, dE 243 er 2 12, (.pointer (some ⟨12, 0, none⟩), .ptr [.v (.iface 204 (.agg #[.pointer (some ⟨13, 33, none⟩)]))]), eO er eb 1, eO er eb 2, eO er eb 3, eO er eb 4, eO er eb 5, eO er eb 6, eO er eb 7, eO er eb 8, eO er eb 9, eO er eb 10, eO er eb 11, eO er eb 12]
abbrev dC (er : Nat → Addr) (eb : Nat → Array Value × TypeId) : D := .all (cglobs er eb)
def Inj (er : Nat → Addr) : Prop := ∀ i j, 1 ≤ i → i ≤ 12 → 1 ≤ j → j ≤ 12 → er i = er j → i = j
theorem eO_mem (er : Nat → Addr) (eb : Nat → Array Value × TypeId) {k : Nat} (h1 : 1 ≤ k) (h2 : k ≤ 12) : eO er eb k ∈ cglobs er eb := by
 rcases (by omega : k = 1 ∨ k = 2 ∨ k = 3 ∨ k = 4 ∨ k = 5 ∨ k = 6 ∨ k = 7 ∨ k = 8 ∨ k = 9 ∨ k = 10 ∨ k = 11 ∨ k = 12) with rfl | rfl | rfl | rfl | rfl | rfl | rfl | rfl | rfl | rfl | rfl | rfl <;> simp [cglobs, eO]
theorem globs_of {w : World} {S : Nat → Prop} {er : Nat → Addr} {eb : Nat → Array Value × TypeId} (h : Rep w S .nilIface (dC er eb)) : AllG w S (globs er) :=
 .cons (.v rfl) (.cons (h.part _ (List.mem_of_getElem? (i := 1) rfl)) (.cons (h.part _ (List.mem_of_getElem? (i := 2) rfl)) (.nil _ _)))
theorem blk_of {w : World} {S : Nat → Prop} {a : Addr} {o : Obj} (h : Rep w S (.pointer (some a)) (.obj o)) : w.heap[a.block]? = some o := by
 cases h with
 | obj hb => exact hb
theorem var_of {w : World} {S : Nat → Prop} {g : Nat} {v : Value} (h : Rep w S (.pointer (some ⟨g, 0, none⟩)) (.ptr [.v v])) : w.cell? ⟨g, 0, none⟩ = some v := by
 cases h with
 | ptr u hb hS hcell hrep =>
  have h1 := (hrep 0 _ rfl).plain
  have h2 := hcell 0 (by simp)
  rw [h1] at h2
  simpa [World.cell?, hb] using h2
theorem isAt {w : World} {S : Nat → Prop} {a : Addr} {ca : Array Value} {ta : TypeId} {er : Nat → Addr} {eb : Nat → Array Value × TypeId} {j : Nat} (hC : Rep w S .nilIface (dC er eb)) (ha : Rep w S (.pointer (some a)) (.obj (.cells ca ta (0, 0)))) (h1 : 1 ≤ j) (h2 : j ≤ 12) :
  Calls Tryz.prog 87 #[.iface 243 (.pointer (some a)), .iface 243 (.pointer (some (er j)))] w fun e w' => Ret [] w S w' e (.bool (decide (a = er j))) [] [] := by
 by_cases h : a = er j
 ·subst h
  rw [decide_eq_true rfl]
  exact (Er.is_same _ w).mono fun e w' h => ret_same h.1 h.2
 ·rw [decide_eq_false h]
  exact (Er.is_other a (er j) ca (eb j).1 ta (eb j).2 w h (blk_of ha) (blk_of (hC.part _ (eO_mem er eb h1 h2)))).mono fun e w' h => ret_same h.1 h.2
theorem asMiss {w : World} {S : Nat → Prop} {a t : Addr} {er : Nat → Addr} {eb : Nat → Array Value × TypeId} (hC : Rep w S .nilIface (dC er eb)) :
  Calls Tryz.prog 86 #[.iface 243 (.pointer (some a)), .iface 143 (.pointer (some t))] w fun e w' => Ret [] w S w' e (.bool false) [] [] :=
 (Er.as_miss a t w (var_of (hC.part _ (List.mem_of_getElem? (i := 12) rfl)))).mono fun e w' h => ret_below h.1 (by
  rw [h.2]
  exact (((RowKit.Below.refl _ w).alloc (Nat.le_refl _) _).alloc (by simp) _).alloc (by simp; omega) _) (by rw [h.2]; exact Nat.le_refl _)
abbrev eEr (er : Nat → Addr) (k : Nat) : List D := [.v (.iface 243 (.pointer (some (er k))))]
theorem row12 {i : Int} (h0 : 0 ≤ i) (h1 : i < 12) : ([1, 2, 3, 4, 5, 6, 7, 8, 9, 10, 11, 12] : List Nat)[i.toNat]? = some (i.toNat + 1) := by
 obtain ⟨n, rfl⟩ : ∃ n : Nat, i = n := ⟨i.toNat, by omega⟩
 rcases (by omega : n = 0 ∨ n = 1 ∨ n = 2 ∨ n = 3 ∨ n = 4 ∨ n = 5 ∨ n = 6 ∨ n = 7 ∨ n = 8 ∨ n = 9 ∨ n = 10 ∨ n = 11) with rfl | rfl | rfl | rfl | rfl | rfl | rfl | rfl | rfl | rfl | rfl | rfl <;> rfl
theorem codeErr {w : World} {S : Nat → Prop} {er : Nat → Addr} {eb : Nat → Array Value × TypeId} {k : Nat} {v : Value} (hC : Rep w S .nilIface (dC er eb)) (hI : Inj er) (hk : k ≤ 12) (hv : ErrIs 243 er k v) :
  Calls Tryz.prog 53 #[v] w fun e w' => Ret [] w S w' e (.tuple #[.int .i64 k, .int .i64 (-1)]) [] [] := by
 rcases hv with ⟨rfl, rfl⟩ | ⟨h0, rfl⟩
 ·refine ep53 (args := [.nilIface]) (S := S) (G := []) (by kernel_rfl) (.nil _ _) ?_
  refine Sq mixed [zR 0, zR 1] [] [0, 2, 3] (fun _ => [zV 0 .nilIface, zI 2 0, zI 3 0]) (fun _ => []) (fun _ => ?_)
  refine J_seq ?_
  refine Sq mixed [zR 0, zR 1] [] [0, 2, 3, 8] (fun _ => [zV 0 .nilIface, zI 2 0, zI 3 0, zB 8 true]) (fun _ => []) (fun _ => ?_)
  refine cTt ?_
  refine Sq mixed [zR 0, zR 1] [] [0, 2, 3] (fun _ => [zV 0 .nilIface, zI 2 0, zI 3 (-1)]) (fun _ => []) (fun _ => ?_)
  refine J_return [[], []] (.tuple #[.int .i64 0, .int .i64 (-1)]) (by kernel_rfl) (fun a w s => ?_)
  exact s.ret (by simp) [] [] rfl rfl
 ·refine ep53 (args := [.iface 243 (.pointer (some (er k)))]) (G := [(_, dC er eb)]) (by kernel_rfl) (.cons hC (.nil _ _)) ?_
  refine J_stp (stp_all 0 [0, 1, 2, 3, 4, 5, 6, 7, 8, 9, 10, 11] rfl rfl) ?_
  refine J_glob 1 rfl (fun csg1 tyg1 fzg1 hglob1 => ?_)
  refine J_glob 2 rfl (fun csg2 tyg2 fzg2 hglob2 => ?_)
  refine J_glob 3 rfl (fun csg3 tyg3 fzg3 hglob3 => ?_)
  refine J_glob 4 rfl (fun csg4 tyg4 fzg4 hglob4 => ?_)
  refine J_glob 5 rfl (fun csg5 tyg5 fzg5 hglob5 => ?_)
  refine J_glob 6 rfl (fun csg6 tyg6 fzg6 hglob6 => ?_)
  refine J_glob 7 rfl (fun csg7 tyg7 fzg7 hglob7 => ?_)
  refine J_glob 8 rfl (fun csg8 tyg8 fzg8 hglob8 => ?_)
  refine J_glob 9 rfl (fun csg9 tyg9 fzg9 hglob9 => ?_)
  refine J_glob 10 rfl (fun csg10 tyg10 fzg10 hglob10 => ?_)
  refine J_glob 11 rfl (fun csg11 tyg11 fzg11 hglob11 => ?_)
  refine J_glob 12 rfl (fun csg12 tyg12 fzg12 hglob12 => ?_)
  try simp only [cAp, nAp, aNl]
  refine Sq mixed [zR 0, zR 1] [] [0, 2, 3] (fun _ => [zV 0 (.iface 243 (.pointer (some (er k)))), zI 2 0, zI 3 0]) (fun _ => []) (fun _ => ?_)
  refine J_seq ?_
  refine Sq mixed [zR 0, zR 1] [] [0, 2, 3, 8] (fun _ => [zV 0 (.iface 243 (.pointer (some (er k)))), zI 2 0, zI 3 0, zB 8 false]) (fun _ => []) (fun _ => ?_)
  refine cF ?_
  refine J_skip ?_
  refine Sq mixed [zR 0] [] [0, 2, 3] (fun _ => [zV 0 (.iface 243 (.pointer (some (er k)))), zI 2 0, zI 3 (-1)]) (fun _ => []) (fun _ => ?_)
  refine Sq mixed [.wr 0 [] 0] [] [0, 2, 3, 4] (fun nu1 => [zV 0 (.iface 243 (.pointer (some (er k)))), zI 2 0, zI 3 (-1), zP 4 (nu1 0)]) (fun nu1 => [(nu1 0, .cells #[.pointer none] 102 (0, 0))]) (fun nu1 => ?_)
  refine J_seq ?_
  refine J_seq ?_
  refine jB mixed [(0, true), (1, true), (2, false)] [] ?_
  refine Gr (id := 5) (rest := [(2, false)]) [zR 0, zR 1] [0, 2, 3, 4, 9, 10] (fun _ => [zV 0 (.iface 243 (.pointer (some (er k)))), zI 2 0, zI 3 (-1), zP 4 (nu1 0), zV 9 (.iface 243 (.pointer (some (er k)))), zV 10 (.iface 143 (.pointer (sA (nu1 0) 0)))]) (fun _ => [(nu1 0, .cells #[.pointer none] 102 (0, 0))]) (fun _ => ?_)
  refine JR_callp [] 86 #[.iface 243 (.pointer (some (er k))), .iface 143 (.pointer (some (⟨nu1 0, 0, none⟩)))] (some 11) (by kernel_rfl) (fun w S hG => ?_)
  refine (asMiss (hG.at 0 rfl)).mono ?_
  rintro e1 w1 hR
  refine ⟨_, _, _, hR, ?_⟩
  try simp only [cAp, nAp, aNl]
  refine JR_end ?_
  refine cF ?_
  refine J_skip ?_
  refine J_seq ?_
  refine Sp mixed [.rd 0 [.r 0 (some (.iface 243 (.pointer (some (er 1)))))] 0 0, .rd 1 [.r 1 (some (.iface 243 (.pointer (some (er 2)))))] 0 0, .rd 2 [.r 2 (some (.iface 243 (.pointer (some (er 3)))))] 0 0, .rd 3 [.r 3 (some (.iface 243 (.pointer (some (er 4)))))] 0 0, .rd 4 [.r 4 (some (.iface 243 (.pointer (some (er 5)))))] 0 0, .rd 5 [.r 5 (some (.iface 243 (.pointer (some (er 6)))))] 0 0, .rd 6 [.r 6 (some (.iface 243 (.pointer (some (er 7)))))] 0 0, .rd 7 [.r 7 (some (.iface 243 (.pointer (some (er 8)))))] 0 0, .rd 8 [.r 8 (some (.iface 243 (.pointer (some (er 9)))))] 0 0, .rd 9 [.r 9 (some (.iface 243 (.pointer (some (er 10)))))] 0 0, .rd 10 [.r 10 (some (.iface 243 (.pointer (some (er 11)))))] 0 0, .rd 11 [.r 11 (some (.iface 243 (.pointer (some (er 12)))))] 0 0, .wr 12 [] 0, zR 13, zR 14] [] [0, 2, 3, 28, 29, 30] (fun nu2 => [zV 0 (.iface 243 (.pointer (some (er k)))), zI 2 0, zI 3 (-1), zS 28 (sA (nu2 0) 0) 12 12, zI 29 12, zI 30 0]) (fun nu2 => [(nu1 0, .cells #[.pointer none] 102 (0, 0)), (nu2 0, .cells #[.iface 243 (.pointer (some (er 1))), .iface 243 (.pointer (some (er 2))), .iface 243 (.pointer (some (er 3))), .iface 243 (.pointer (some (er 4))), .iface 243 (.pointer (some (er 5))), .iface 243 (.pointer (some (er 6))), .iface 243 (.pointer (some (er 7))), .iface 243 (.pointer (some (er 8))), .iface 243 (.pointer (some (er 9))), .iface 243 (.pointer (some (er 10))), .iface 243 (.pointer (some (er 11))), .iface 243 (.pointer (some (er 12)))] 33 (0, 0))]) (fun nu2 => [csg1[(0 : Nat)]? = some (Value.iface (243 : Nat) (Value.pointer (some (er (1 : Nat))))), csg2[(0 : Nat)]? = some (Value.iface (243 : Nat) (Value.pointer (some (er (2 : Nat))))), csg3[(0 : Nat)]? = some (Value.iface (243 : Nat) (Value.pointer (some (er (3 : Nat))))), csg4[(0 : Nat)]? = some (Value.iface (243 : Nat) (Value.pointer (some (er (4 : Nat))))), csg5[(0 : Nat)]? = some (Value.iface (243 : Nat) (Value.pointer (some (er (5 : Nat))))), csg6[(0 : Nat)]? = some (Value.iface (243 : Nat) (Value.pointer (some (er (6 : Nat))))), csg7[(0 : Nat)]? = some (Value.iface (243 : Nat) (Value.pointer (some (er (7 : Nat))))), csg8[(0 : Nat)]? = some (Value.iface (243 : Nat) (Value.pointer (some (er (8 : Nat))))), csg9[(0 : Nat)]? = some (Value.iface (243 : Nat) (Value.pointer (some (er (9 : Nat))))), csg10[(0 : Nat)]? = some (Value.iface (243 : Nat) (Value.pointer (some (er (10 : Nat))))), csg11[(0 : Nat)]? = some (Value.iface (243 : Nat) (Value.pointer (some (er (11 : Nat))))), csg12[(0 : Nat)]? = some (Value.iface (243 : Nat) (Value.pointer (some (er (12 : Nat)))))]) (fun _ => ⟨hglob1, hglob2, hglob3, hglob4, hglob5, hglob6, hglob7, hglob8, hglob9, hglob10, hglob11, hglob12, trivial⟩) (fun nu2 => ?_)
  refine J_block ?_
  refine J_data (size := 1) 1 (eEr er) [1, 2, 3, 4, 5, 6, 7, 8, 9, 10, 11, 12] 12 rfl (by decide) (by intro x _; rfl) (by simp) ⟨.inl ⟨rfl, rfl⟩, ⟨.inl ⟨rfl, rfl⟩, ⟨.inl ⟨rfl, rfl⟩, ⟨.inl ⟨rfl, rfl⟩, ⟨.inl ⟨rfl, rfl⟩, ⟨.inl ⟨rfl, rfl⟩, ⟨.inl ⟨rfl, rfl⟩, ⟨.inl ⟨rfl, rfl⟩, ⟨.inl ⟨rfl, rfl⟩, ⟨.inl ⟨rfl, rfl⟩, ⟨.inl ⟨rfl, rfl⟩, ⟨.inl ⟨rfl, rfl⟩, trivial⟩⟩⟩⟩⟩⟩⟩⟩⟩⟩⟩⟩ ?_
  refine J_loopx (fun i : Int => [zV 0 (.iface 243 (.pointer (some (er k)))), zI 2 0, zI 3 (-1), zS 28 (sA (nu2 0) 0) 12 12, zI 29 12, zI 30 i]) (fun i : Int => []) (fun i : Int => []) (fun i : Int => [(.nilIface, (dC er eb)), (.slice (sA (nu2 0) 0) ((List.map (eEr er) [1, 2, 3, 4, 5, 6, 7, 8, 9, 10, 11, 12]).length) 12, (D.sl 1 (List.map (eEr er) [1, 2, 3, 4, 5, 6, 7, 8, 9, 10, 11, 12])))]) (fun i : Int => (12 - i).toNat) (fun i : Int => (0 ≤ i ∧ i < k)) 0 [0, 2, 3, 28, 29, 30] [] [] [0, 13] ?_ (by kernel_rfl) rfl rfl rfl ?_
  ·exact ⟨by omega, by omega⟩
  rintro i ⟨hi0, hi⟩
  have hx := row12 hi0 (by omega)
  refine J_read0 1 rfl i.toNat (map_at hx) (by kernel_rfl) (fun b1 off1 cs1 ty1 fz1 ha1 hrd1 => ?_)
  cases ha1
  have hrd1_0 := rd0 (hrd1 0 _ rfl)
  try simp only [cAp, nAp, aNl]
  refine Sq mixed [zR 0] [] [0, 2, 3, 28, 29, 30, 31] (fun _ => [zV 0 (.iface 243 (.pointer (some (er k)))), zI 2 0, zI 3 (-1), zS 28 (sA (nu2 0) 0) 12 12, zI 29 12, zI 30 i, zB 31 (decide (i < 12))]) (fun _ => []) (fun _ => ?_)
  refine J_seq ?_
  refine J_condT (decide (i < 12)) (by kernel_rfl) (by kernel_rfl) (by simp; omega) ?_
  refine J_skip ?_
  refine J_seq ?_
  refine J_block ?_
  refine Sp mixed [zR 0, .rd 1 [] 0 2, .rd 2 [.r 12 (some (.iface 243 (.pointer (some (er (i.toNat + 1))))))] 0 0, zR 3, zR 4] [] [0, 2, 3, 5, 6, 28, 29, 30] (fun _ => [zV 0 (.iface 243 (.pointer (some (er k)))), zI 2 0, zI 3 (-1), zI 5 i, zV 6 (.iface 243 (.pointer (some (er (i.toNat + 1))))), zS 28 (sA (nu2 0) 0) 12 12, zI 29 12, zI 30 i]) (fun _ => []) (fun _ => [(0 : Int) ≤ i, i < (↑(12 : Nat) : Int), cs1[(0 : Nat) + i.toNat * (1 : Nat)]? = some (Value.iface (243 : TypeId) (Value.pointer (some (er (i.toNat + (1 : Nat))))))]) (fun _ => ⟨hi0, by omega, hrd1_0, trivial⟩) (fun _ => ?_)
  refine J_seq ?_
  refine jB mixed [(0, true), (1, true), (2, false)] [] ?_
  refine Gr (id := 10) (rest := [(2, false)]) [zR 0, zR 1] [0, 2, 3, 5, 6, 28, 29, 30, 35, 36] (fun _ => [zV 0 (.iface 243 (.pointer (some (er k)))), zI 2 0, zI 3 (-1), zI 5 i, zV 6 (.iface 243 (.pointer (some (er (i.toNat + 1))))), zS 28 (sA (nu2 0) 0) 12 12, zI 29 12, zI 30 i, zV 35 (.iface 243 (.pointer (some (er k)))), zV 36 (.iface 243 (.pointer (some (er (i.toNat + 1)))))]) (fun _ => []) (fun _ => ?_)
  refine JR_callp [] 87 #[.iface 243 (.pointer (some (er k))), .iface 243 (.pointer (some (er (i.toNat + 1))))] (some 37) (by kernel_rfl) (fun w S hG => ?_)
  refine (isAt (hG.at 0 rfl) ((hG.at 0 rfl).part _ (eO_mem er eb (k := k) (by omega) hk)) (by omega) (by omega)).mono ?_
  rintro e2 w2 hR
  refine ⟨_, _, _, hR, ?_⟩
  try simp only [cAp, nAp, aNl]
  refine JR_end ?_
  refine cC (t := decide (er k = er (i.toNat + 1))) (fun hb => ?_) (fun hb => ?_)
  ·refine J_seq ?_
   refine Gp mixed [zR 0, .rd 1 [] 0 1, zR 2, zR 3, zR 4] [] [0, 2, 3, 5, 6, 28, 29, 30, 35, 36] (fun _ => [zV 0 (.iface 243 (.pointer (some (er k)))), zI 2 (i + 1), zI 3 (-1), zI 5 i, zV 6 (.iface 243 (.pointer (some (er (i.toNat + 1))))), zS 28 (sA (nu2 0) 0) 12 12, zI 29 12, zI 30 i, zV 35 (.iface 243 (.pointer (some (er k)))), zV 36 (.iface 243 (.pointer (some (er (i.toNat + 1)))))]) (fun _ => []) (fun _ => [IntKind.i64.wrap (i + (1 : Int)) = i + (1 : Int)]) (fun _ => ⟨wrap_i64 (by omega) (by omega), trivial⟩) (fun _ => ?_)
   refine J_return [[], []] (.tuple #[.int .i64 (i + 1), .int .i64 (-1)]) (by kernel_rfl) (fun a w s => ?_)
   have e : i + 1 = k := by
    have := hI k (i.toNat + 1) (by omega) hk (by omega) (by omega) (of_decide_eq_true hb)
    omega
   rw [e]
   exact s.ret (by simp) [] [] rfl rfl
  ·refine J_skip ?_
   refine J_eb ?_
   refine Gp mixed [.rd 0 [] 0 1, zR 1] [] [0, 2, 3, 5, 6, 28, 29, 30, 35, 36] (fun _ => [zV 0 (.iface 243 (.pointer (some (er k)))), zI 2 0, zI 3 (-1), zI 5 i, zV 6 (.iface 243 (.pointer (some (er (i.toNat + 1))))), zS 28 (sA (nu2 0) 0) 12 12, zI 29 12, zI 30 (i + 1), zV 35 (.iface 243 (.pointer (some (er k)))), zV 36 (.iface 243 (.pointer (some (er (i.toNat + 1)))))]) (fun _ => []) (fun _ => [IntKind.i64.wrap (i + (1 : Int)) = i + (1 : Int)]) (fun _ => ⟨wrap_i64 (by omega) (by omega), trivial⟩) (fun _ => ?_)
   refine J_backx (i + 1) [0, 2, 3, 28, 29, 30] [] [] [0, 1] ?_ ?_ (by kernel_rfl) rfl rfl rfl
   ·refine ⟨by omega, ?_⟩
    rcases (by omega : i + 1 < k ∨ (i.toNat + 1 = k)) with h | h
    ·exact h
    ·rw [h] at hb
     simp at hb
   ·omega
theorem codedErr {w : World} {S : Nat → Prop} {er : Nat → Addr} {eb : Nat → Array Value × TypeId} {k : Nat} {c : Int} {v : Value} (hC : Rep w S .nilIface (dC er eb)) (hI : Inj er) (hk : k ≤ 12) (hv : ErrIs 243 er k v) :
  Calls Tryz.prog 13 #[v, .int .i64 c] w fun e w' => Ret [] w S w' e (.bool (decide ((k : Int) = c))) [] [] := by
 refine ep13 (args := [v, .int .i64 c]) (G := [(_, dC er eb)]) (by kernel_rfl) (.cons hC (.nil _ _)) ?_
 refine Sq mixed [zR 0] [] [0, 1, 4] (fun _ => [zV 0 v, zI 1 c, zB 4 false]) (fun _ => []) (fun _ => ?_)
 refine J_seq ?_
 refine jB mixed [(0, true), (1, false), (2, true), (3, true), (4, true), (5, true), (6, true)] [] ?_
 refine Gr (id := 1) (rest := [(1, false), (2, true), (3, true), (4, true), (5, true), (6, true)]) [zR 0] [1, 4, 8] (fun _ => [zI 1 c, zB 4 false, zV 8 v]) (fun _ => []) (fun _ => ?_)
 refine JR_callp [] 53 #[v] (some 9) (by kernel_rfl) (fun w S hG => ?_)
 refine (codeErr (er := er) (eb := eb) (k := k) (hG.at 0 rfl) hI hk hv).mono ?_
 rintro e1 w1 hR
 refine ⟨_, _, _, hR, ?_⟩
 try simp only [cAp, nAp, aNl]
 refine Gr (id := 1) (rest := []) [zR 2, zR 3, zR 4, zR 5, zR 6] [1, 4, 5, 6] (fun _ => [zI 1 c, zB 4 false, zI 5 (↑k : Int), zI 6 (-1)]) (fun _ => []) (fun _ => ?_)
 refine JR_end ?_
 refine Sq mixed [zR 0, zR 1, zR 2, zR 3, .rd 4 [] 2 0, .rd 5 [] 2 0, .rd 6 [] 0 3, zR 7] [] [4] (fun _ => [zB 4 ((↑k : Int) == c && true)]) (fun _ => []) (fun _ => ?_)
 refine J_return [[]] (.bool ((↑k : Int) == c && true)) (by kernel_rfl) (fun a w s => ?_)
 have e : decide ((k : Int) = c) = (decide ((k : Int) = c) && true) := by simp
 rw [e]
 exact s.ret (by simp) [] [] rfl rfl
end Go.Proofs.YtpjkiomccpjboaaGreatDoor
end
section
namespace Go.Proofs.YtpjkiomccpjboaaGreatDoor
open Go Go.Sx
def dotOk (places : Int) (d : DotT) : Bool := ((((decide (d.place ≥ 0) && decide (d.place < places)) && decide (d.time ≥ 1)) && decide (d.time ≤ 1099511627776)) && decide (d.no ≥ 0)) && decide (d.no < 12)
def shapeOk (o : OpT) : Bool :=
 if o.kind = 1 then o.n == 0 && !o.remove && (o.dots.length : Int) == 0
 else if o.kind = 2 then o.text.toList == (ByteArray.mk #[]).toList && !o.remove && (o.dots.length : Int) == 0
 else o.n == 0 && (o.remove || (o.dots.length : Int) == 0)
def badDots (places : Int) (l : List DotT) : Bool := l.any fun d => !dotOk places d
def opErr (o : OpT) (places : Int) : Nat :=
 if places < 1 ∨ 6 < places ∨ o.no < 0 ∨ 12 ≤ o.no then 2
 else if nameOk o.key = false then 4
 else if o.kind ≠ 1 ∧ o.kind ≠ 2 ∧ o.kind ≠ 3 then 12
 else if shapeOk o = false then 3
 else if 60 < o.text.size ∨ o.n < -1099511627776 ∨ 1099511627776 < o.n ∨ 60 < o.dots.length then 2
 else if badDots places o.dots = true then 2
 else 0
abbrev dotA (d : DotT) : Value := .agg #[.int .i64 d.place, .int .i64 d.time, .int .i64 d.no]
abbrev opA (o : OpT) (v : Value) : Value := .agg #[.int .i64 o.no, .string o.key, .int .i64 o.kind, .string o.text, .int .i64 o.n, .bool o.remove, v]
theorem vDot {w : World} {S : Nat → Prop} {d : DotT} {places : Int} : Calls Tryz.prog 58 #[dotA d, .int .i64 places] w fun e w' => Ret [] w S w' e (.bool (dotOk places d)) [] [] := by
 refine ep58 (args := [dotA d, .int .i64 places]) (G := []) (by kernel_rfl) (AllG.nil w S) ?_
 refine Sq mixed [.wr 0 [] 0, zR 1] [] [1, 2, 4] (fun nu1 => [zI 1 places, zP 2 (nu1 0), zB 4 false]) (fun nu1 => [(nu1 0, .cells #[nI d.place, nI d.time, nI d.no] 65 (0, 0))]) (fun nu1 => ?_)
 refine Sq mixed [zR 0, .rd 1 [.o 0 none] 0 0, zR 2, zR 3, .rd 4 [] 2 0, .rd 5 [.o 0 none] 2 0, .rd 6 [] 2 0, .rd 7 [] 2 0, .rd 8 [] 0 3, zR 9, .rd 10 [] 2 0, .rd 11 [.o 0 none] 2 0, .rd 12 [] 2 0, .rd 13 [] 0 3, zR 14, .rd 15 [] 2 0, .rd 16 [.o 0 none] 2 0, .rd 17 [] 2 0, .rd 18 [] 0 3, zR 19, .rd 20 [] 2 0, .rd 21 [.o 0 none] 2 0, .rd 22 [] 2 0, .rd 23 [] 0 3, zR 24, .rd 25 [] 2 0, .rd 26 [.o 0 none] 2 0, .rd 27 [] 2 0, .rd 28 [] 0 3, zR 29] [] [4] (fun _ => [zB 4 (decide (d.place ≥ 0) && decide (d.place < places) && decide (d.time ≥ 1) && decide (d.time ≤ 1099511627776) && decide (d.no ≥ 0) && decide (d.no < 12))]) (fun _ => [(nu1 0, .cells #[nI d.place, nI d.time, nI d.no] 65 (0, 0))]) (fun _ => ?_)
 refine J_return [[]] (.bool (decide (d.place ≥ 0) && decide (d.place < places) && decide (d.time ≥ 1) && decide (d.time ≤ 1099511627776) && decide (d.no ≥ 0) && decide (d.no < 12))) (by kernel_rfl) (fun a w s => ?_)
 exact s.ret (by simp) [] [] rfl rfl
theorem vShape {w : World} {S : Nat → Prop} {o : OpT} {a : Option Addr} {n c : Nat} (h : Rep w S (.slice a n c) (.sl 3 (o.dots.map eDot))) : Calls Tryz.prog 55 #[opA o (.slice a n c)] w fun e w' => Ret [] w S w' e (.bool (shapeOk o)) [] [] := by
 have e1 := h.slen
 rw [List.length_map] at e1
 subst e1
 refine ep55 (args := [opA o (.slice a o.dots.length c)]) (G := []) (by kernel_rfl) (AllG.nil w S) ?_
 by_cases h1 : o.kind = 1
 ·refine J_seq ?_
  refine Gq mixed [.wr 0 [] 0, zR 1] [] [1, 2] (fun nu1 => [zP 1 (nu1 0), zB 2 false]) (fun nu1 => [(nu1 0, .cells #[nI o.no, .string o.key, nI o.kind, .string o.text, nI o.n, .bool o.remove, .slice a o.dots.length c] 24 (0, 0))]) (fun nu1 => ?_)
  refine J_seq ?_
  refine Sq mixed [zR 0, .rd 1 [.o 0 none] 0 0] [] [1, 2, 4] (fun _ => [zP 1 (nu1 0), zB 2 false, zI 4 o.kind]) (fun _ => [(nu1 0, .cells #[nI o.no, .string o.key, nI o.kind, .string o.text, nI o.n, .bool o.remove, .slice a o.dots.length c] 24 (0, 0))]) (fun _ => ?_)
  refine J_block ?_
  refine Sp mixed [.rd 0 [] 0 6, zR 1] [] [1, 2, 4, 5] (fun _ => [zP 1 (nu1 0), zB 2 false, zI 4 o.kind, zB 5 true]) (fun _ => [(nu1 0, .cells #[nI o.no, .string o.key, nI o.kind, .string o.text, nI o.n, .bool o.remove, .slice a o.dots.length c] 24 (0, 0))]) (fun _ => [(o.kind == (1 : Int)) = true]) (fun _ => ⟨by simp; omega, trivial⟩) (fun _ => ?_)
  refine cTt ?_
  refine Sq mixed [zR 0, .rd 1 [.o 0 none] 0 0, zR 2, zR 3, .rd 4 [] 2 0, .rd 5 [.o 0 none] 2 0, .rd 6 [] 2 0, .rd 7 [] 0 3, zR 8, .rd 9 [] 2 0, .rd 10 [.o 0 none] 2 0, .rd 11 [] 2 0, .rd 12 [] 2 0, .rd 13 [] 0 3, zR 14] [] [1, 2] (fun _ => [zP 1 (nu1 0), zB 2 (o.n == 0 && !o.remove && (↑o.dots.length : Int) == 0)]) (fun _ => [(nu1 0, .cells #[nI o.no, .string o.key, nI o.kind, .string o.text, nI o.n, .bool o.remove, .slice a o.dots.length c] 24 (0, 0))]) (fun _ => ?_)
  refine J_return [[]] (.bool (o.n == 0 && !o.remove && (↑o.dots.length : Int) == 0)) (by kernel_rfl) (fun a w s => ?_)
  rw [shapeOk, if_pos h1]
  exact s.ret (by simp) [] [] rfl rfl
 ·by_cases h2 : o.kind = 2
  ·refine J_seq ?_
   refine Gq mixed [.wr 0 [] 0, zR 1] [] [1, 2] (fun nu1 => [zP 1 (nu1 0), zB 2 false]) (fun nu1 => [(nu1 0, .cells #[nI o.no, .string o.key, nI o.kind, .string o.text, nI o.n, .bool o.remove, .slice a o.dots.length c] 24 (0, 0))]) (fun nu1 => ?_)
   refine J_seq ?_
   refine Sq mixed [zR 0, .rd 1 [.o 0 none] 0 0] [] [1, 2, 4] (fun _ => [zP 1 (nu1 0), zB 2 false, zI 4 o.kind]) (fun _ => [(nu1 0, .cells #[nI o.no, .string o.key, nI o.kind, .string o.text, nI o.n, .bool o.remove, .slice a o.dots.length c] 24 (0, 0))]) (fun _ => ?_)
   refine J_block ?_
   refine Sp mixed [.rd 0 [] 0 7, zR 1] [] [1, 2, 4, 5] (fun _ => [zP 1 (nu1 0), zB 2 false, zI 4 o.kind, zB 5 false]) (fun _ => [(nu1 0, .cells #[nI o.no, .string o.key, nI o.kind, .string o.text, nI o.n, .bool o.remove, .slice a o.dots.length c] 24 (0, 0))]) (fun _ => [(o.kind == (1 : Int)) = false]) (fun _ => ⟨by simp; omega, trivial⟩) (fun _ => ?_)
   refine cF ?_
   refine Sp mixed [.rd 0 [] 0 6, zR 1] [] [1, 2, 21] (fun _ => [zP 1 (nu1 0), zB 2 false, zB 21 true]) (fun _ => [(nu1 0, .cells #[nI o.no, .string o.key, nI o.kind, .string o.text, nI o.n, .bool o.remove, .slice a o.dots.length c] 24 (0, 0))]) (fun _ => [(o.kind == (2 : Int)) = true]) (fun _ => ⟨by simp; omega, trivial⟩) (fun _ => ?_)
   refine cTt ?_
   refine Sq mixed [zR 0, .rd 1 [.o 0 none] 0 0, zR 2, zR 3, .rd 4 [] 2 0, .rd 5 [.o 0 none] 2 0, .rd 6 [] 2 0, .rd 7 [] 0 3, zR 8, .rd 9 [] 2 0, .rd 10 [.o 0 none] 2 0, .rd 11 [] 2 0, .rd 12 [] 2 0, .rd 13 [] 0 3, zR 14] [] [1, 2] (fun _ => [zP 1 (nu1 0), zB 2 (o.text.toList == (ByteArray.mk #[]).toList && !o.remove && (↑o.dots.length : Int) == 0)]) (fun _ => [(nu1 0, .cells #[nI o.no, .string o.key, nI o.kind, .string o.text, nI o.n, .bool o.remove, .slice a o.dots.length c] 24 (0, 0))]) (fun _ => ?_)
   refine J_return [[]] (.bool (o.text.toList == (ByteArray.mk #[]).toList && !o.remove && (↑o.dots.length : Int) == 0)) (by kernel_rfl) (fun a w s => ?_)
   rw [shapeOk, if_neg h1, if_pos h2]
   exact s.ret (by simp) [] [] rfl rfl
  ·by_cases h3 : o.n = 0
   ·refine J_seq ?_
    refine Gq mixed [.wr 0 [] 0, zR 1] [] [1, 2] (fun nu1 => [zP 1 (nu1 0), zB 2 false]) (fun nu1 => [(nu1 0, .cells #[nI o.no, .string o.key, nI o.kind, .string o.text, nI o.n, .bool o.remove, .slice a o.dots.length c] 24 (0, 0))]) (fun nu1 => ?_)
    refine J_seq ?_
    refine Sq mixed [zR 0, .rd 1 [.o 0 none] 0 0] [] [1, 2, 4] (fun _ => [zP 1 (nu1 0), zB 2 false, zI 4 o.kind]) (fun _ => [(nu1 0, .cells #[nI o.no, .string o.key, nI o.kind, .string o.text, nI o.n, .bool o.remove, .slice a o.dots.length c] 24 (0, 0))]) (fun _ => ?_)
    refine J_block ?_
    refine Sp mixed [.rd 0 [] 0 7, zR 1] [] [1, 2, 4, 5] (fun _ => [zP 1 (nu1 0), zB 2 false, zI 4 o.kind, zB 5 false]) (fun _ => [(nu1 0, .cells #[nI o.no, .string o.key, nI o.kind, .string o.text, nI o.n, .bool o.remove, .slice a o.dots.length c] 24 (0, 0))]) (fun _ => [(o.kind == (1 : Int)) = false]) (fun _ => ⟨by simp; omega, trivial⟩) (fun _ => ?_)
    refine cF ?_
    refine Sp mixed [.rd 0 [] 0 7, zR 1] [] [1, 2, 21] (fun _ => [zP 1 (nu1 0), zB 2 false, zB 21 false]) (fun _ => [(nu1 0, .cells #[nI o.no, .string o.key, nI o.kind, .string o.text, nI o.n, .bool o.remove, .slice a o.dots.length c] 24 (0, 0))]) (fun _ => [(o.kind == (2 : Int)) = false]) (fun _ => ⟨by simp; omega, trivial⟩) (fun _ => ?_)
    refine cF ?_
    refine J_skip ?_
    refine J_eb ?_
    refine Sp mixed [zR 0, .rd 1 [.o 0 none] 0 0, .rd 2 [] 0 6, zR 3, zR 4, .rd 5 [.o 0 none] 0 0, zR 6, .rd 7 [] 2 0, .rd 8 [.o 0 none] 2 0, .rd 9 [] 2 0, .rd 10 [] 2 0, .rd 11 [] 0 3, zR 12, zR 13] [] [2] (fun _ => [zB 2 (o.remove || (↑o.dots.length : Int) == 0)]) (fun _ => [(nu1 0, .cells #[nI o.no, .string o.key, nI o.kind, .string o.text, nI o.n, .bool o.remove, .slice a o.dots.length c] 24 (0, 0))]) (fun _ => [(o.n == (0 : Int)) = true]) (fun _ => ⟨by simp; omega, trivial⟩) (fun _ => ?_)
    refine J_return [[]] (.bool (o.remove || (↑o.dots.length : Int) == 0)) (by kernel_rfl) (fun a w s => ?_)
    rw [shapeOk, if_neg h1, if_neg h2, show (o.n == 0) = true by simpa using h3, Bool.true_and]
    exact s.ret (by simp) [] [] rfl rfl
   ·refine J_seq ?_
    refine Gq mixed [.wr 0 [] 0, zR 1] [] [1, 2] (fun nu1 => [zP 1 (nu1 0), zB 2 false]) (fun nu1 => [(nu1 0, .cells #[nI o.no, .string o.key, nI o.kind, .string o.text, nI o.n, .bool o.remove, .slice a o.dots.length c] 24 (0, 0))]) (fun nu1 => ?_)
    refine J_seq ?_
    refine Sq mixed [zR 0, .rd 1 [.o 0 none] 0 0] [] [1, 2, 4] (fun _ => [zP 1 (nu1 0), zB 2 false, zI 4 o.kind]) (fun _ => [(nu1 0, .cells #[nI o.no, .string o.key, nI o.kind, .string o.text, nI o.n, .bool o.remove, .slice a o.dots.length c] 24 (0, 0))]) (fun _ => ?_)
    refine J_block ?_
    refine Sp mixed [.rd 0 [] 0 7, zR 1] [] [1, 2, 4, 5] (fun _ => [zP 1 (nu1 0), zB 2 false, zI 4 o.kind, zB 5 false]) (fun _ => [(nu1 0, .cells #[nI o.no, .string o.key, nI o.kind, .string o.text, nI o.n, .bool o.remove, .slice a o.dots.length c] 24 (0, 0))]) (fun _ => [(o.kind == (1 : Int)) = false]) (fun _ => ⟨by simp; omega, trivial⟩) (fun _ => ?_)
    refine cF ?_
    refine Sp mixed [.rd 0 [] 0 7, zR 1] [] [1, 2, 21] (fun _ => [zP 1 (nu1 0), zB 2 false, zB 21 false]) (fun _ => [(nu1 0, .cells #[nI o.no, .string o.key, nI o.kind, .string o.text, nI o.n, .bool o.remove, .slice a o.dots.length c] 24 (0, 0))]) (fun _ => [(o.kind == (2 : Int)) = false]) (fun _ => ⟨by simp; omega, trivial⟩) (fun _ => ?_)
    refine cF ?_
    refine J_skip ?_
    refine J_eb ?_
    refine Sp mixed [zR 0, .rd 1 [.o 0 none] 0 0, .rd 2 [] 0 7, zR 3, .rd 4 [] 1 0, .rd 5 [] 1 0, .rd 6 [] 1 0, .rd 7 [] 1 0, .rd 8 [] 1 0, .rd 9 [] 1 0, .rd 10 [] 1 0, .rd 11 [] 1 0, zR 12, zR 13] [] [2] (fun _ => [zB 2 false]) (fun _ => [(nu1 0, .cells #[nI o.no, .string o.key, nI o.kind, .string o.text, nI o.n, .bool o.remove, .slice a o.dots.length c] 24 (0, 0))]) (fun _ => [(o.n == (0 : Int)) = false]) (fun _ => ⟨by simp; omega, trivial⟩) (fun _ => ?_)
    refine J_return [[]] (.bool false) (by kernel_rfl) (fun a w s => ?_)
    rw [shapeOk, if_neg h1, if_neg h2, show (o.n == 0) = false by simpa using h3, Bool.false_and]
    exact s.ret (by simp) [] [] rfl rfl
theorem opRest {o : OpT} {places : Int} (h1 : ¬ (places < 1 ∨ 6 < places ∨ o.no < 0 ∨ 12 ≤ o.no)) (h2 : nameOk o.key = true) (h3 : o.kind = 1 ∨ o.kind = 2 ∨ o.kind = 3) (h4 : shapeOk o = true) : opErr o places = if 60 < o.text.size ∨ o.n < -1099511627776 ∨ 1099511627776 < o.n ∨ 60 < o.dots.length then 2 else if badDots places o.dots = true then 2 else 0 := by
 unfold opErr
 rw [if_neg h1, if_neg (by simp [h2]), if_neg (by omega), if_neg (by simp [h4])]
theorem opShape {o : OpT} {places : Int} (h1 : ¬ (places < 1 ∨ 6 < places ∨ o.no < 0 ∨ 12 ≤ o.no)) (h2 : nameOk o.key = true) (h3 : o.kind = 1 ∨ o.kind = 2 ∨ o.kind = 3) (h4 : shapeOk o = false) : opErr o places = 3 := by
 unfold opErr
 rw [if_neg h1, if_neg (by simp [h2]), if_neg (by omega), if_pos h4]
theorem not_f {x : Bool} (h : (!x) = false) : x = true := by cases x <;> simp_all
end Go.Proofs.YtpjkiomccpjboaaGreatDoor
namespace Go.Proofs.YtpjkiomccpjboaaGreatDoor
open Go Go.Sx
theorem obj_ptr {w : World} {S : Nat → Prop} {b : Nat} {x : Value} {ty : TypeId} {fz : Nat × Nat} (h : Rep w S (.pointer (some ⟨b, 0, none⟩)) (.obj (.cells #[x] ty fz))) (hx : x.oneCell' = true) : Rep w S (.pointer (some ⟨b, 0, none⟩)) (.ptr [.v x]) := by
 cases h with
 | obj hb hS =>
  refine .ptr (fun _ => x) hb hS (fun j hj => ?_) (fun j d hj => ?_)
  ·obtain rfl : j = 0 := by simpa using hj
   rfl
  ·match j, hj with
   | 0, hj =>
    simp only [List.getElem?_cons_zero, Option.some.injEq] at hj
    subst hj
    exact .v hx
   | j + 1, hj => simp at hj
theorem check68 {w : World} {S : Nat → Prop} {d : DotT} {places : Int} {b : Nat} (h : Rep w S (.pointer (some ⟨b, 0, none⟩)) (.ptr [.v (.int .i64 places)])) : Calls Tryz.prog 57 #[dotA d, .pointer (some ⟨b, 0, none⟩)] w fun e w' => Ret [] w S w' e (.bool (!dotOk places d)) [] [] := by
 refine ep57 (args := [dotA d, .pointer (some ⟨b, 0, none⟩)]) (G := [(_, .ptr [.v (.int .i64 places)])]) (by kernel_rfl) (.cons h (.nil _ _)) ?_
 refine J_glob 0 rfl (fun csg1 tyg1 fzg1 hglob1 => ?_)
 refine Sq mixed [.wr 0 [] 0, zR 1] [] [1, 2, 3] (fun nu1 => [zP 1 b, zP 2 (nu1 0), zB 3 false]) (fun nu1 => [(nu1 0, .cells #[nI d.place, nI d.time, nI d.no] 65 (0, 0))]) (fun nu1 => ?_)
 refine J_seq ?_
 refine jB mixed [(0, true), (1, true), (2, false), (3, true), (4, true)] [] ?_
 refine Gs (id := 1) (rest := [(2, false), (3, true), (4, true)]) [.rd 0 [.o 0 none, .o 0 none, .o 0 none] 0 0, .rd 1 [.r 0 (some (nI places))] 0 0] [3, 4, 5] (fun _ => [zB 3 false, zV 4 (.agg #[nI d.place, nI d.time, nI d.no]), zI 5 places]) (fun _ => [(nu1 0, .cells #[nI d.place, nI d.time, nI d.no] 65 (0, 0))]) (fun _ => [csg1[(0 : Nat)]? = some (nI places)]) (fun _ => ⟨hglob1, trivial⟩) (fun _ => ?_)
 refine JR_callp [] 58 #[.agg #[.int .i64 d.place, .int .i64 d.time, .int .i64 d.no], .int .i64 places] (some 6) (by kernel_rfl) (fun w S hG => ?_)
 refine (vDot (w := w) (S := S)).mono ?_
 rintro e1 w1 hR
 refine ⟨_, _, _, hR, ?_⟩
 try simp only [cAp, nAp, aNl]
 refine Gr (id := 1) (rest := []) [zR 3, zR 4] [3] (fun _ => [zB 3 (!dotOk places d)]) (fun _ => [(nu1 0, .cells #[nI d.place, nI d.time, nI d.no] 65 (0, 0))]) (fun _ => ?_)
 refine JR_end ?_
 refine J_return [[]] (.bool (!dotOk places d)) (by kernel_rfl) (fun a w s => ?_)
 exact s.ret (by simp) [] [] rfl rfl
theorem indexBadD {w : World} {S : Nat → Prop} {a : Option Addr} {n c : Nat} {l : List DotT} {places : Int} {b : Nat} (h : Rep w S (.slice a n c) (.sl 3 (l.map eDot))) (hl : l.length ≤ 1000000) (hp : Rep w S (.pointer (some ⟨b, 0, none⟩)) (.ptr [.v (.int .i64 places)])) :
  Calls Tryz.prog 90 #[.slice a n c, .func (.func 57) #[] #[.pointer (some ⟨b, 0, none⟩)]] w fun e w' => ∃ r, Ret [] w S w' e (.int .i64 r) [] [] ∧ decide (0 ≤ r) = badDots places l := by
 have e1 := h.slen
 rw [List.length_map] at e1
 subst e1
 refine ep90 (args := [.slice a l.length c, .func (.func 57) #[] #[.pointer (some ⟨b, 0, none⟩)]]) (G := [(_, .sl 3 (l.map eDot)), (_, .ptr [.v (.int .i64 places)])]) (by kernel_rfl) (.cons h (.cons hp (.nil _ _))) ?_
 refine Sq mixed [zR 0] [] [0, 1, 4] (fun _ => [zS 0 a l.length c, zV 1 (.func (.func 57) #[] #[.pointer (sA b 0)]), zI 4 0]) (fun _ => []) (fun _ => ?_)
 refine J_seq ?_
 refine Sq mixed [zR 0, zR 1, zR 2] [] [0, 1, 4, 7, 8] (fun _ => [zS 0 a l.length c, zV 1 (.func (.func 57) #[] #[.pointer (sA b 0)]), zI 4 0, zI 7 (↑l.length : Int), zI 8 0]) (fun _ => []) (fun _ => ?_)
 refine J_block ?_
 refine J_loopx (fun i : Int => [zS 0 a l.length c, zV 1 (.func (.func 57) #[] #[.pointer (sA b 0)]), zI 4 0, zI 7 (↑l.length : Int), zI 8 i]) (fun i : Int => []) (fun i : Int => []) (fun i : Int => [(.slice a l.length c, (D.sl 3 (List.map eDot l))), (.pointer (sA b 0), (D.ptr [D.v (nI places)]))]) (fun i : Int => (l.length - i).toNat) (fun i : Int => (0 ≤ i ∧ i ≤ l.length ∧ ∀ j : Nat, j < i.toNat → ∀ d, l[j]? = some d → dotOk places d = true)) 0 [0, 1, 4, 7, 8] [] [] [0, 1] ?_ (by kernel_rfl) rfl rfl rfl ?_
 ·exact ⟨by simp, by omega, by simp⟩
 rintro i ⟨hi0, hi, hno⟩
 refine Sq mixed [zR 0] [] [0, 1, 4, 7, 8, 9] (fun _ => [zS 0 a l.length c, zV 1 (.func (.func 57) #[] #[.pointer (sA b 0)]), zI 4 0, zI 7 (↑l.length : Int), zI 8 i, zB 9 (decide (i < (↑l.length : Int)))]) (fun _ => []) (fun _ => ?_)
 refine J_seq ?_
 refine cC (t := decide (i < (↑l.length : Int))) (fun hlt => ?_) (fun hlt => ?_)
 ·have hlt2 : i < l.length := by simpa using hlt
  obtain ⟨x, hx⟩ : ∃ x, l[i.toNat]? = some x := ⟨_, List.getElem?_eq_getElem (by omega)⟩
  refine J_read0 0 rfl i.toNat (map_at hx) (by kernel_rfl) (fun b1 off1 cs1 ty1 fz1 ha1 hrd1 => ?_)
  cases ha1
  have hrd1_0 := rd0 (hrd1 0 _ rfl)
  have hrd1_1 := hrd1 1 _ rfl
  have hrd1_2 := hrd1 2 _ rfl
  try simp only [cAp, nAp, aNl]
  refine J_skip ?_
  refine J_seq ?_
  refine J_block ?_
  refine Sq mixed [zR 0, zR 1] [] [0, 1, 4, 5, 7, 8] (fun _ => [zS 0 (sA b1 off1) l.length c, zV 1 (.func (.func 57) #[] #[.pointer (sA b 0)]), zI 4 0, zI 5 i, zI 7 (↑l.length : Int), zI 8 i]) (fun _ => []) (fun _ => ?_)
  refine J_seq ?_
  refine jB mixed [(0, true), (1, true), (2, true), (3, true), (4, true), (5, false)] [] ?_
  refine Gs (id := 4) (rest := [(5, false)]) [zR 0, zR 1, zR 2, .rd 3 [] 0 2, .rd 4 [.r 0 (some (nI x.place)), .r 0 (some (nI x.time)), .r 0 (some (nI x.no))] 0 0] [0, 1, 4, 5, 7, 8, 11, 15] (fun _ => [zS 0 (sA b1 off1) l.length c, zV 1 (.func (.func 57) #[] #[.pointer (sA b 0)]), zI 4 0, zI 5 i, zI 7 (↑l.length : Int), zI 8 i, zV 11 (.func (.func 57) #[] #[.pointer (sA b 0)]), zV 15 (.agg #[nI x.place, nI x.time, nI x.no])]) (fun _ => []) (fun _ => [(0 : Int) ≤ i, i < (↑l.length : Int), cs1[off1 + i.toNat * (3 : Nat)]? = some (nI x.place), cs1[off1 + i.toNat * (3 : Nat) + (1 : Nat)]? = some (nI x.time), cs1[off1 + i.toNat * (3 : Nat) + (2 : Nat)]? = some (nI x.no)]) (fun _ => ⟨hi0, hlt2, hrd1_0, hrd1_1, hrd1_2, trivial⟩) (fun _ => ?_)
  refine JR_callp [] 57 #[.agg #[.int .i64 x.place, .int .i64 x.time, .int .i64 x.no], .pointer (some (⟨b, 0, none⟩))] (some 16) (by kernel_rfl) (fun w S hG => ?_)
  refine (check68 (d := x) (hG.at 1 rfl)).mono ?_
  rintro e w2 hR
  refine ⟨_, _, _, hR, ?_⟩
  try simp only [cAp, nAp, aNl]
  refine JR_end ?_
  refine cC (t := !dotOk places x) (fun hb => ?_) (fun hb => ?_)
  ·refine J_seq ?_
   refine Gq mixed [zR 0, zR 1] [] [0, 1, 4, 5, 7, 8, 11, 15] (fun _ => [zS 0 (sA b1 off1) l.length c, zV 1 (.func (.func 57) #[] #[.pointer (sA b 0)]), zI 4 i, zI 5 i, zI 7 (↑l.length : Int), zI 8 i, zV 11 (.func (.func 57) #[] #[.pointer (sA b 0)]), zV 15 (.agg #[nI x.place, nI x.time, nI x.no])]) (fun _ => []) (fun _ => ?_)
   refine J_return [[]] (.int .i64 i) (by kernel_rfl) (fun a w s => ?_)
   refine ⟨_, s.ret (by simp) [] [] rfl rfl, ?_⟩
   rw [show badDots places l = true from List.any_eq_true.2 ⟨x, List.mem_of_getElem? hx, hb⟩]
   simpa using hi0
  ·refine J_skip ?_
   refine J_eb ?_
   refine Gp mixed [.rd 0 [] 0 1, zR 1] [] [0, 1, 4, 5, 7, 8, 11, 15] (fun _ => [zS 0 (sA b1 off1) l.length c, zV 1 (.func (.func 57) #[] #[.pointer (sA b 0)]), zI 4 0, zI 5 i, zI 7 (↑l.length : Int), zI 8 (i + 1), zV 11 (.func (.func 57) #[] #[.pointer (sA b 0)]), zV 15 (.agg #[nI x.place, nI x.time, nI x.no])]) (fun _ => []) (fun _ => [IntKind.i64.wrap (i + (1 : Int)) = i + (1 : Int)]) (fun _ => ⟨wrap_i64 (by omega) (by omega), trivial⟩) (fun _ => ?_)
   refine J_backx (i + 1) [0, 1, 4, 7, 8] [] [] [0, 1] ?_ ?_ (by kernel_rfl) rfl rfl rfl
   ·refine ⟨by omega, by omega, fun j hj t ht => ?_⟩
    by_cases hji : j = i.toNat
    ·subst hji
     rw [hx] at ht
     cases ht
     exact not_f hb
    ·exact hno j (by omega) t ht
   ·omega
 ·refine J_exit rfl ?_
  refine Sq mixed [zR 0] [] [4] (fun _ => [zI 4 (-1)]) (fun _ => []) (fun _ => ?_)
  refine J_return [[]] (.int .i64 (-1)) (by kernel_rfl) (fun a w s => ?_)
  refine ⟨_, s.ret (by simp) [] [] rfl rfl, ?_⟩
  have e : badDots places l = false := by
   unfold badDots
   rw [List.any_eq_false]
   intro t ht
   obtain ⟨j, hj⟩ := List.getElem?_of_mem ht
   have hjl := (List.getElem?_eq_some_iff.1 hj).1
   simp [hno j (by simp at hlt; omega) t hj]
  rw [e]
  decide
theorem containsBadD {w : World} {S : Nat → Prop} {a : Option Addr} {n c : Nat} {l : List DotT} {places : Int} {b : Nat} (h : Rep w S (.slice a n c) (.sl 3 (l.map eDot))) (hl : l.length ≤ 1000000) (hp : Rep w S (.pointer (some ⟨b, 0, none⟩)) (.ptr [.v (.int .i64 places)])) :
  Calls Tryz.prog 56 #[.slice a n c, .func (.func 57) #[] #[.pointer (some ⟨b, 0, none⟩)]] w fun e w' => Ret [] w S w' e (.bool (badDots places l)) [] [] := by
 refine ep56 (args := [.slice a n c, .func (.func 57) #[] #[.pointer (some ⟨b, 0, none⟩)]]) (G := [(_, .sl 3 (l.map eDot)), (_, .ptr [.v (.int .i64 places)])]) (by kernel_rfl) (.cons h (.cons hp (.nil _ _))) ?_
 refine Sq mixed [zR 0] [] [0, 1, 4] (fun _ => [zS 0 a n c, zV 1 (.func (.func 57) #[] #[.pointer (sA b 0)]), zB 4 false]) (fun _ => []) (fun _ => ?_)
 refine J_seq ?_
 refine jB mixed [(0, true), (1, true), (2, false), (3, true), (4, true)] [] ?_
 refine Gr (id := 1) (rest := [(2, false), (3, true), (4, true)]) [zR 0, zR 1] [4, 5, 6] (fun _ => [zB 4 false, zS 5 a n c, zV 6 (.func (.func 57) #[] #[.pointer (sA b 0)])]) (fun _ => []) (fun _ => ?_)
 refine JR_callp [] 90 #[.slice a n c, .func (.func 57) #[] #[.pointer (some (⟨b, 0, none⟩))]] (some 7) (by kernel_rfl) (fun w S hG => ?_)
 refine (indexBadD (hG.at 0 rfl) hl (hG.at 1 rfl)).mono ?_
 rintro e w2 ⟨r, hR, hr⟩
 refine ⟨_, _, _, hR, ?_⟩
 try simp only [cAp, nAp, aNl]
 refine Gr (id := 1) (rest := []) [zR 3, zR 4] [4] (fun _ => [zB 4 (decide (r ≥ 0))]) (fun _ => []) (fun _ => ?_)
 refine JR_end ?_
 refine J_return [[]] (.bool (decide (r ≥ 0))) (by kernel_rfl) (fun a w s => ?_)
 rw [← hr]
 exact s.ret (by simp) [] [] rfl rfl
theorem vCheckOp {w : World} {S : Nat → Prop} {er : Nat → Addr} {eb : Nat → Array Value × TypeId} {o : OpT} {a : Option Addr} {n c : Nat} {places : Int} (hC : Rep w S .nilIface (dC er eb)) (h : Rep w S (.slice a n c) (.sl 3 (o.dots.map eDot))) :
  Calls Tryz.prog 14 #[opA o (.slice a n c), .int .i64 places] w fun e w' => ∃ v, Ret [] w S w' e v [] [] ∧ ErrIs 243 er (opErr o places) v := by
 have e1 := h.slen
 rw [List.length_map] at e1
 subst e1
 refine ep14 (args := [opA o (.slice a o.dots.length c), .int .i64 places]) (G := [(_, dC er eb), (_, .sl 3 (o.dots.map eDot))]) (by kernel_rfl) (.cons hC (.cons h (.nil _ _))) ?_
 refine J_stp (stp_all 0 [1, 2, 3, 11] rfl rfl) ?_
 refine J_glob 2 rfl (fun csg1 tyg1 fzg1 hglob1 => ?_)
 refine J_glob 3 rfl (fun csg2 tyg2 fzg2 hglob2 => ?_)
 refine J_glob 4 rfl (fun csg3 tyg3 fzg3 hglob3 => ?_)
 refine J_glob 5 rfl (fun csg4 tyg4 fzg4 hglob4 => ?_)
 try simp only [cAp, nAp, aNl]
 refine Sq mixed [.wr 0 [] 0, .wr 1 [] 0, zR 2] [] [2, 3, 4] (fun nu1 => [zP 2 (nu1 0), zP 3 (nu1 1), zV 4 .nilIface]) (fun nu1 => [(nu1 0, .cells #[nI o.no, .string o.key, nI o.kind, .string o.text, nI o.n, .bool o.remove, .slice a o.dots.length c] 24 (0, 0)), (nu1 1, .cells #[nI places] 3 (0, 0))]) (fun nu1 => ?_)
 refine J_seq ?_
 refine J_block ?_
 refine Sq mixed [.rd 0 [.o 1 none] 0 0, zR 1, zR 2, .rd 3 [.o 1 none] 2 0, .rd 4 [] 2 0, .rd 5 [] 0 3, zR 6, .rd 7 [] 2 0, .rd 8 [.o 0 none] 2 0, .rd 9 [] 2 0, .rd 10 [] 0 3, zR 11, .rd 12 [] 2 0, .rd 13 [.o 0 none] 2 0, .rd 14 [] 2 0, .rd 15 [] 0 3, zR 16] [] [2, 3, 4, 5] (fun _ => [zP 2 (nu1 0), zP 3 (nu1 1), zV 4 .nilIface, zB 5 (decide (places < 1) || decide (places > 6) || decide (o.no < 0) || decide (o.no ≥ 12))]) (fun _ => [(nu1 0, .cells #[nI o.no, .string o.key, nI o.kind, .string o.text, nI o.n, .bool o.remove, .slice a o.dots.length c] 24 (0, 0)), (nu1 1, .cells #[nI places] 3 (0, 0))]) (fun _ => ?_)
 refine cC (t := decide (places < 1) || decide (places > 6) || decide (o.no < 0) || decide (o.no ≥ 12)) (fun hb => ?_) (fun hb => ?_)
 ·have e : opErr o places = 2 := by rw [opErr, if_pos (by simp at hb; omega)]
  refine Sp mixed [.rd 0 [.r 0 (some (.iface 243 (.pointer (some (er 2)))))] 0 0, zR 1] [] [4] (fun _ => [zV 4 (.iface 243 (.pointer (some (er 2))))]) (fun _ => [(nu1 0, .cells #[nI o.no, .string o.key, nI o.kind, .string o.text, nI o.n, .bool o.remove, .slice a o.dots.length c] 24 (0, 0)), (nu1 1, .cells #[nI places] 3 (0, 0))]) (fun _ => [csg1[(0 : Nat)]? = some (Value.iface (243 : Nat) (Value.pointer (some (er (2 : Nat)))))]) (fun _ => ⟨hglob1, trivial⟩) (fun _ => ?_)
  refine J_return [[]] (.iface 243 (.pointer (some (er 2)))) (by kernel_rfl) (fun a w s => ?_)
  rw [e]
  exact ⟨_, s.ret (by simp) [] [] rfl rfl, .inr ⟨by decide, rfl⟩⟩
 have hb2 : ¬ (places < 1 ∨ 6 < places ∨ o.no < 0 ∨ 12 ≤ o.no) := by simp at hb; omega
 refine J_seq ?_
 refine jB mixed [(0, true), (1, true), (2, false), (3, true), (4, true)] [] ?_
 refine Gr (id := 3) (rest := [(2, false), (3, true), (4, true)]) [zR 0, .rd 1 [.o 0 none] 0 0] [2, 3, 4, 25] (fun _ => [zP 2 (nu1 0), zP 3 (nu1 1), zV 4 .nilIface, zV 25 (.string o.key)]) (fun _ => [(nu1 0, .cells #[nI o.no, .string o.key, nI o.kind, .string o.text, nI o.n, .bool o.remove, .slice a o.dots.length c] 24 (0, 0)), (nu1 1, .cells #[nI places] 3 (0, 0))]) (fun _ => ?_)
 refine JR_callp [] 54 #[.string o.key] (some 26) (by kernel_rfl) (fun w S hG => ?_)
 refine (vName (w := w) (S := S) (s0 := o.key)).mono ?_
 rintro e1 w1 hR
 refine ⟨_, _, _, hR, ?_⟩
 cases hname : nameOk o.key with
 | false =>
  have e : opErr o places = 4 := by rw [opErr, if_neg hb2, if_pos hname]
  try simp only [cAp, nAp, aNl]
  refine Gr (id := 3) (rest := []) [zR 3, zR 4] [2, 3, 4, 23] (fun _ => [zP 2 (nu1 0), zP 3 (nu1 1), zV 4 .nilIface, zB 23 true]) (fun _ => [(nu1 0, .cells #[nI o.no, .string o.key, nI o.kind, .string o.text, nI o.n, .bool o.remove, .slice a o.dots.length c] 24 (0, 0)), (nu1 1, .cells #[nI places] 3 (0, 0))]) (fun _ => ?_)
  refine JR_end ?_
  refine cTt ?_
  refine Sp mixed [.rd 0 [.r 2 (some (.iface 243 (.pointer (some (er 4)))))] 0 0, zR 1] [] [4] (fun _ => [zV 4 (.iface 243 (.pointer (some (er 4))))]) (fun _ => [(nu1 0, .cells #[nI o.no, .string o.key, nI o.kind, .string o.text, nI o.n, .bool o.remove, .slice a o.dots.length c] 24 (0, 0)), (nu1 1, .cells #[nI places] 3 (0, 0))]) (fun _ => [csg3[(0 : Nat)]? = some (Value.iface (243 : Nat) (Value.pointer (some (er (4 : Nat)))))]) (fun _ => ⟨hglob3, trivial⟩) (fun _ => ?_)
  refine J_return [[]] (.iface 243 (.pointer (some (er 4)))) (by kernel_rfl) (fun a w s => ?_)
  rw [e]
  exact ⟨_, s.ret (by simp) [] [] rfl rfl, .inr ⟨by decide, rfl⟩⟩
 | true =>
  try simp only [cAp, nAp, aNl]
  refine Gr (id := 3) (rest := []) [zR 3, zR 4] [2, 3, 4, 23] (fun _ => [zP 2 (nu1 0), zP 3 (nu1 1), zV 4 .nilIface, zB 23 false]) (fun _ => [(nu1 0, .cells #[nI o.no, .string o.key, nI o.kind, .string o.text, nI o.n, .bool o.remove, .slice a o.dots.length c] 24 (0, 0)), (nu1 1, .cells #[nI places] 3 (0, 0))]) (fun _ => ?_)
  refine JR_end ?_
  refine cF ?_
  refine Sq mixed [zR 0, .rd 1 [.o 0 none] 0 0, zR 2, zR 3, .rd 4 [] 2 0, .rd 5 [.o 0 none] 2 0, .rd 6 [] 2 0, .rd 7 [] 0 3, zR 8, .rd 9 [] 2 0, .rd 10 [.o 0 none] 2 0, .rd 11 [] 2 0, .rd 12 [] 0 3, zR 13] [] [2, 3, 4, 29] (fun _ => [zP 2 (nu1 0), zP 3 (nu1 1), zV 4 .nilIface, zB 29 (o.kind != 1 && o.kind != 2 && o.kind != 3)]) (fun _ => [(nu1 0, .cells #[nI o.no, .string o.key, nI o.kind, .string o.text, nI o.n, .bool o.remove, .slice a o.dots.length c] 24 (0, 0)), (nu1 1, .cells #[nI places] 3 (0, 0))]) (fun _ => ?_)
  refine cC (t := o.kind != 1 && o.kind != 2 && o.kind != 3) (fun hk => ?_) (fun hk => ?_)
  ·have e : opErr o places = 12 := by rw [opErr, if_neg hb2, if_neg (by simp [hname]), if_pos (by simp at hk; omega)]
   refine Sp mixed [.rd 0 [.r 3 (some (.iface 243 (.pointer (some (er 12)))))] 0 0, zR 1] [] [4] (fun _ => [zV 4 (.iface 243 (.pointer (some (er 12))))]) (fun _ => [(nu1 0, .cells #[nI o.no, .string o.key, nI o.kind, .string o.text, nI o.n, .bool o.remove, .slice a o.dots.length c] 24 (0, 0)), (nu1 1, .cells #[nI places] 3 (0, 0))]) (fun _ => [csg4[(0 : Nat)]? = some (Value.iface (243 : Nat) (Value.pointer (some (er (12 : Nat)))))]) (fun _ => ⟨hglob4, trivial⟩) (fun _ => ?_)
   refine J_return [[]] (.iface 243 (.pointer (some (er 12)))) (by kernel_rfl) (fun a w s => ?_)
   rw [e]
   exact ⟨_, s.ret (by simp) [] [] rfl rfl, .inr ⟨by decide, rfl⟩⟩
  have hk2 : o.kind = 1 ∨ o.kind = 2 ∨ o.kind = 3 := by simp at hk; omega
  refine J_seq ?_
  refine jB mixed [(0, true), (1, false), (2, true), (3, true)] [] ?_
  refine Gr (id := 7) (rest := [(1, false), (2, true), (3, true)]) [.rd 0 [.o 0 none, .o 0 none, .o 0 none, .o 0 none, .o 0 none, .o 0 none, .o 0 none] 0 0] [2, 3, 4, 45] (fun _ => [zP 2 (nu1 0), zP 3 (nu1 1), zV 4 .nilIface, zV 45 (.agg #[nI o.no, .string o.key, nI o.kind, .string o.text, nI o.n, .bool o.remove, .slice a o.dots.length c])]) (fun _ => [(nu1 0, .cells #[nI o.no, .string o.key, nI o.kind, .string o.text, nI o.n, .bool o.remove, .slice a o.dots.length c] 24 (0, 0)), (nu1 1, .cells #[nI places] 3 (0, 0))]) (fun _ => ?_)
  refine JR_callp [] 55 #[.agg #[.int .i64 o.no, .string o.key, .int .i64 o.kind, .string o.text, .int .i64 o.n, .bool o.remove, .slice a o.dots.length c]] (some 46) (by kernel_rfl) (fun w S hG => ?_)
  refine (vShape (o := o) (hG.at 1 rfl)).mono ?_
  rintro e1 w1 hR
  refine ⟨_, _, _, hR, ?_⟩
  cases hsh : shapeOk o with
  | false =>
   rw [opShape hb2 hname hk2 hsh]
   try simp only [cAp, nAp, aNl]
   refine Gr (id := 7) (rest := []) [zR 2, zR 3] [2, 3, 4, 44] (fun _ => [zP 2 (nu1 0), zP 3 (nu1 1), zV 4 .nilIface, zB 44 true]) (fun _ => [(nu1 0, .cells #[nI o.no, .string o.key, nI o.kind, .string o.text, nI o.n, .bool o.remove, .slice a o.dots.length c] 24 (0, 0)), (nu1 1, .cells #[nI places] 3 (0, 0))]) (fun _ => ?_)
   refine JR_end ?_
   refine cTt ?_
   refine Sp mixed [.rd 0 [.r 1 (some (.iface 243 (.pointer (some (er 3)))))] 0 0, zR 1] [] [4] (fun _ => [zV 4 (.iface 243 (.pointer (some (er 3))))]) (fun _ => [(nu1 0, .cells #[nI o.no, .string o.key, nI o.kind, .string o.text, nI o.n, .bool o.remove, .slice a o.dots.length c] 24 (0, 0)), (nu1 1, .cells #[nI places] 3 (0, 0))]) (fun _ => [csg2[(0 : Nat)]? = some (Value.iface (243 : Nat) (Value.pointer (some (er (3 : Nat)))))]) (fun _ => ⟨hglob2, trivial⟩) (fun _ => ?_)
   refine J_return [[]] (.iface 243 (.pointer (some (er 3)))) (by kernel_rfl) (fun a w s => ?_)
   exact ⟨_, s.ret (by simp) [] [] rfl rfl, .inr ⟨by decide, rfl⟩⟩
  | true =>
   rw [opRest hb2 hname hk2 hsh]
   try simp only [cAp, nAp, aNl]
   refine Gr (id := 7) (rest := []) [zR 2, zR 3] [2, 3, 4, 44] (fun _ => [zP 2 (nu1 0), zP 3 (nu1 1), zV 4 .nilIface, zB 44 false]) (fun _ => [(nu1 0, .cells #[nI o.no, .string o.key, nI o.kind, .string o.text, nI o.n, .bool o.remove, .slice a o.dots.length c] 24 (0, 0)), (nu1 1, .cells #[nI places] 3 (0, 0))]) (fun _ => ?_)
   refine JR_end ?_
   refine cF ?_
   refine Sq mixed [zR 0, .rd 1 [.o 0 none] 0 0, zR 2, zR 3, zR 4, .rd 5 [] 2 0, .rd 6 [.o 0 none] 2 0, .rd 7 [] 2 0, .rd 8 [] 0 3, zR 9, .rd 10 [] 2 0, .rd 11 [.o 0 none] 2 0, .rd 12 [] 2 0, .rd 13 [] 0 3, zR 14, .rd 15 [] 2 0, .rd 16 [.o 0 none] 2 0, .rd 17 [] 2 0, .rd 18 [] 2 0, .rd 19 [] 0 3, zR 20] [] [2, 3, 4, 49] (fun _ => [zP 2 (nu1 0), zP 3 (nu1 1), zV 4 .nilIface, zB 49 (decide ((↑o.text.size : Int) > 60) || decide (o.n < -1099511627776) || decide (o.n > 1099511627776) || decide ((↑o.dots.length : Int) > 60))]) (fun _ => [(nu1 0, .cells #[nI o.no, .string o.key, nI o.kind, .string o.text, nI o.n, .bool o.remove, .slice a o.dots.length c] 24 (0, 0)), (nu1 1, .cells #[nI places] 3 (0, 0))]) (fun _ => ?_)
   refine cC (t := decide ((↑o.text.size : Int) > 60) || decide (o.n < -1099511627776) || decide (o.n > 1099511627776) || decide ((↑o.dots.length : Int) > 60)) (fun hbig => ?_) (fun hbig => ?_)
   ·rw [if_pos (by simp at hbig; omega)]
    refine Sp mixed [.rd 0 [.r 0 (some (.iface 243 (.pointer (some (er 2)))))] 0 0, zR 1] [] [4] (fun _ => [zV 4 (.iface 243 (.pointer (some (er 2))))]) (fun _ => [(nu1 0, .cells #[nI o.no, .string o.key, nI o.kind, .string o.text, nI o.n, .bool o.remove, .slice a o.dots.length c] 24 (0, 0)), (nu1 1, .cells #[nI places] 3 (0, 0))]) (fun _ => [csg1[(0 : Nat)]? = some (Value.iface (243 : Nat) (Value.pointer (some (er (2 : Nat)))))]) (fun _ => ⟨hglob1, trivial⟩) (fun _ => ?_)
    refine J_return [[]] (.iface 243 (.pointer (some (er 2)))) (by kernel_rfl) (fun a w s => ?_)
    exact ⟨_, s.ret (by simp) [] [] rfl rfl, .inr ⟨by decide, rfl⟩⟩
   rw [if_neg (by simp at hbig; omega)]
   have hdl : o.dots.length ≤ 1000000 := by simp at hbig; omega
   refine J_seq ?_
   refine J_share 1 rfl ?_
   refine J_stp (stp_fact (v := .pointer (some ⟨nu1 1, 0, none⟩)) (d := .ptr [.v (.int .i64 places)]) fun w S H => obj_ptr (H _ (List.mem_of_getElem? (i := 6) rfl)) rfl) ?_
   try simp only [cAp, nAp, aNl]
   refine jB mixed [(0, true), (1, true), (2, true), (3, false), (4, true)] [] ?_
   refine Gr (id := 11) (rest := [(3, false), (4, true)]) [zR 0, .rd 1 [.o 0 none] 0 0, zR 2] [4, 73, 74] (fun _ => [zV 4 .nilIface, zS 73 a o.dots.length c, zV 74 (.func (.func 57) #[] #[.pointer (sA (nu1 1) 0)])]) (fun _ => [(nu1 0, .cells #[nI o.no, .string o.key, nI o.kind, .string o.text, nI o.n, .bool o.remove, .slice a o.dots.length c] 24 (0, 0))]) (fun _ => ?_)
   refine JR_callp [] 56 #[.slice a o.dots.length c, .func (.func 57) #[] #[.pointer (some (⟨nu1 1, 0, none⟩))]] (some 75) (by kernel_rfl) (fun w S hG => ?_)
   refine (containsBadD (hG.at 1 rfl) hdl (hG.at 7 rfl)).mono ?_
   rintro e1 w1 hR
   refine ⟨_, _, _, hR, ?_⟩
   cases hbd : badDots places o.dots with
   | true =>
    try simp only [cAp, nAp, aNl]
    refine Gr (id := 11) (rest := []) [zR 4] [4, 71] (fun _ => [zV 4 .nilIface, zB 71 true]) (fun _ => [(nu1 0, .cells #[nI o.no, .string o.key, nI o.kind, .string o.text, nI o.n, .bool o.remove, .slice a o.dots.length c] 24 (0, 0))]) (fun _ => ?_)
    refine JR_end ?_
    refine cTt ?_
    refine Sp mixed [.rd 0 [.r 0 (some (.iface 243 (.pointer (some (er 2)))))] 0 0, zR 1] [] [4] (fun _ => [zV 4 (.iface 243 (.pointer (some (er 2))))]) (fun _ => [(nu1 0, .cells #[nI o.no, .string o.key, nI o.kind, .string o.text, nI o.n, .bool o.remove, .slice a o.dots.length c] 24 (0, 0))]) (fun _ => [csg1[(0 : Nat)]? = some (Value.iface (243 : Nat) (Value.pointer (some (er (2 : Nat)))))]) (fun _ => ⟨hglob1, trivial⟩) (fun _ => ?_)
    refine J_return [[]] (.iface 243 (.pointer (some (er 2)))) (by kernel_rfl) (fun a w s => ?_)
    exact ⟨_, s.ret (by simp) [] [] rfl rfl, .inr ⟨by decide, rfl⟩⟩
   | false =>
    try simp only [cAp, nAp, aNl]
    refine Gr (id := 11) (rest := []) [zR 4] [4, 71] (fun _ => [zV 4 .nilIface, zB 71 false]) (fun _ => [(nu1 0, .cells #[nI o.no, .string o.key, nI o.kind, .string o.text, nI o.n, .bool o.remove, .slice a o.dots.length c] 24 (0, 0))]) (fun _ => ?_)
    refine JR_end ?_
    refine cF ?_
    refine J_skip ?_
    refine J_eb ?_
    refine Sq mixed [zR 0] [] [4] (fun _ => [zV 4 .nilIface]) (fun _ => [(nu1 0, .cells #[nI o.no, .string o.key, nI o.kind, .string o.text, nI o.n, .bool o.remove, .slice a o.dots.length c] 24 (0, 0))]) (fun _ => ?_)
    refine J_return [[]] (.nilIface) (by kernel_rfl) (fun a w s => ?_)
    exact ⟨_, s.ret (by simp) [] [] rfl rfl, .inl ⟨rfl, rfl⟩⟩
end Go.Proofs.YtpjkiomccpjboaaGreatDoor
end
section
namespace Go.Proofs.YtpjkiomccpjboaaGreatDoor
open Go Go.Sx
theorem setCell_at {w : World} {b : Nat} {old x : Value} {ty : TypeId} {fz : Nat × Nat} (h : w.heap[b]? = some (.cells #[old] ty fz)) : (w.setCell ⟨b, 0, none⟩ x).heap[b]? = some (.cells #[x] ty fz) := by
 simp [World.setCell, Array.getElem?_modify, h, Array.setIfInBounds]
theorem alloc_old {w : World} {o o' : Obj} {b : Nat} (h : w.heap[b]? = some o) : (w.alloc o').heap[b]? = some o := by
 rw [RowKit.Below.heap_alloc _ _ _ (Array.getElem?_eq_some_iff.1 h).1]
 exact h
theorem asHit {w : World} {S : Nat → Prop} {M : List Nat} {p : Addr} {t : Nat} {old : Value} {ty : TypeId} {er : Nat → Addr} {eb : Nat → Array Value × TypeId} (hC : Rep w S .nilIface (dC er eb)) (hp : Pre w S M [cObj t (.cells #[old] ty (0, 0))]) :
  Calls Tryz.prog 86 #[.iface 102 (.pointer (some p)), .iface 143 (.pointer (some ⟨t, 0, none⟩))] w fun e w' => Ret M w S w' e (.bool true) [cObj t (.cells #[.pointer (some p)] ty (0, 0))] [] := by
 obtain ⟨fps, hch, rfl, hnd, hM⟩ := hp
 match fps, hch with
 | [fp], ⟨⟨hfp, hb⟩, _⟩ =>
  subst hfp
  have hl := (Array.getElem?_eq_some_iff.1 hb).1
  refine (Er.as_hit p ⟨t, 0, none⟩ old w (var_of (hC.part _ (List.mem_of_getElem? (i := 12) rfl))) (by simp [World.cell?, hb]) (by simp [World.frozen?, hb])).mono ?_
  rintro e w' ⟨he, rfl⟩
  have hbl := (((RowKit.Below.refl _ w).alloc (Nat.le_refl _) (.cells #[.pointer (some ⟨t, 0, none⟩)] 143)).alloc (by simp) (.cells #[.pointer (some ⟨13, 143, none⟩), .pointer (some ⟨w.heap.size, 0, none⟩), .int .u64 150] 174)).alloc (by simp; omega) (.cells #[.pointer (some ⟨13, 143, none⟩), .pointer (some ⟨w.heap.size, 0, none⟩), .int .u64 150] 174) |>.alloc (by simp; omega) (.cells #[.pointer (some p)] 102)
  refine ⟨he, ⟨hbl.os, hbl.tape, hbl.output, by simpa [World.setCell] using hbl.size, fun b hbs hn => ?_, Nat.le_refl _⟩, [[t]], ⟨⟨rfl, ?_⟩, trivial⟩, by simp, fun b hb' => ?_, by simp⟩
  ·rw [RowKit.Below.heap_setCell _ _ _ _ (by simpa using hn)]
   exact hbl.block b hbs
  ·exact setCell_at (alloc_old (alloc_old (alloc_old (alloc_old hb))))
  ·obtain rfl : b = t := by simpa using hb'
   refine ⟨.inl (by simp), ?_⟩
   simp [World.setCell]
   omega
 | [], h => exact h.elim
 | _ :: _ :: _, h => exact h.2.elim
theorem ptr_of_obj {w : World} {S : Nat → Prop} {b : Nat} {x y : Value} {ty : TypeId} {fz : Nat × Nat} (hx : x.oneCell' = true) (hy : y.oneCell' = true) (h : Rep w S (.pointer (some ⟨b, 0, none⟩)) (.obj (.cells #[x, y] ty fz))) : Rep w S (.pointer (some ⟨b, 0, none⟩)) (.ptr [.v x, .v y]) := by
 cases h with
 | obj hb hS =>
  refine .ptr (fun j => (#[x, y] : Array Value).getD j .nilIface) hb hS (fun j hj => ?_) fun j d hj => ?_
  ·match j, hj with
   | 0, _ => rfl
   | 1, _ => rfl
   | j + 2, hj => exact absurd hj (by simp)
  ·match j, hj with
   | 0, hj => cases hj; exact .v hx
   | 1, hj => cases hj; exact .v hy
   | j + 2, hj => simp at hj
end Go.Proofs.YtpjkiomccpjboaaGreatDoor
end
section
namespace Go.Proofs.YtpjkiomccpjboaaGreatDoor
open Go Go.Sx
def heavyOp (o : OpT) : Bool := decide (60 < (o.key.size : Int)) || decide (200 < (o.text.size : Int)) || decide (70 < (o.dots.length : Int))
def heavyC (c : ComT) : Int := if 20 < c.when.length ∨ 20 < c.ops.length then 1 else if c.ops.any heavyOp then 1 else 0
theorem heavyCommit {w0 : World} {S : Nat → Prop} {a1 a2 : Option Addr} {n1 c1 n2 c2 : Nat} {c : ComT} (h1 : Rep w0 S (.slice a1 n1 c1) (dInts c.when)) (h2 : Rep w0 S (.slice a2 n2 c2) (.sl 7 (c.ops.map eOp))) :
  Calls Tryz.prog 12 #[.agg #[.slice a1 n1 c1, .int .i64 c.place, .slice a2 n2 c2]] w0 fun e w' => Ret [] w0 S w' e (.int .i64 (heavyC c)) [] [] := by
 obtain rfl := rep_ints_len h1
 have e2 := h2.slen
 rw [List.length_map] at e2
 subst e2
 refine ep12 (args := [.agg #[.slice a1 c.when.length c1, .int .i64 c.place, .slice a2 c.ops.length c2]]) (G := [(_, dInts c.when), (_, .sl 7 (c.ops.map eOp))]) (by kernel_rfl) (.cons h1 (.cons h2 (.nil _ _))) ?_
 refine Sq mixed [.wr 0 [] 0, zR 1] [] [1, 2] (fun nu1 => [zP 1 (nu1 0), zI 2 0]) (fun nu1 => [(nu1 0, .cells #[.slice a1 c.when.length c1, nI c.place, .slice a2 c.ops.length c2] 28 (0, 0))]) (fun nu1 => ?_)
 refine J_seq ?_
 refine Sq mixed [zR 0, .rd 1 [.o 0 none] 0 0, zR 2, zR 3, zR 4, .rd 5 [] 2 0, .rd 6 [.o 0 none] 2 0, .rd 7 [] 2 0, .rd 8 [] 2 0, .rd 9 [] 0 3] [] [1, 2, 13] (fun _ => [zP 1 (nu1 0), zI 2 0, zB 13 (decide ((↑c.when.length : Int) > 20) || decide ((↑c.ops.length : Int) > 20))]) (fun _ => [(nu1 0, .cells #[.slice a1 c.when.length c1, nI c.place, .slice a2 c.ops.length c2] 28 (0, 0))]) (fun _ => ?_)
 refine cC (t := decide ((↑c.when.length : Int) > 20) || decide ((↑c.ops.length : Int) > 20)) (fun hbig => ?_) (fun hbig => ?_)
 ·refine J_seq ?_
  refine Gq mixed [zR 0] [] [1, 2] (fun _ => [zP 1 (nu1 0), zI 2 1]) (fun _ => [(nu1 0, .cells #[.slice a1 c.when.length c1, nI c.place, .slice a2 c.ops.length c2] 28 (0, 0))]) (fun _ => ?_)
  refine J_return [[]] (.int .i64 1) (by kernel_rfl) (fun a w s => ?_)
  have e1 : heavyC c = 1 := by rw [heavyC, if_pos (by simp at hbig; omega)]
  rw [e1]
  exact s.ret (by simp) [] [] rfl rfl
 ·have hn : ¬ (20 < c.when.length ∨ 20 < c.ops.length) := by simp at hbig; omega
  refine J_skip ?_
  refine J_seq ?_
  refine Sq mixed [zR 0] [] [1, 2, 3] (fun _ => [zP 1 (nu1 0), zI 2 0, zI 3 0]) (fun _ => [(nu1 0, .cells #[.slice a1 c.when.length c1, nI c.place, .slice a2 c.ops.length c2] 28 (0, 0))]) (fun _ => ?_)
  refine J_block ?_
  refine J_loopx (fun i : Int => [zP 1 (nu1 0), zI 2 0, zI 3 i]) (fun i : Int => [(nu1 0, .cells #[.slice a1 c.when.length c1, nI c.place, .slice a2 c.ops.length c2] 28 (0, 0))]) (fun i : Int => []) (fun i : Int => [(.slice a1 c.when.length c1, (dInts c.when)), (.slice a2 c.ops.length c2, (D.sl 7 (List.map eOp c.ops)))]) (fun i : Int => (c.ops.length - i).toNat) (fun i : Int => (0 ≤ i ∧ i ≤ c.ops.length ∧ ∀ j : Nat, j < i.toNat → ∀ o, c.ops[j]? = some o → heavyOp o = false)) 0 [1, 2, 3] [0] [] [0, 1] ?_ (by kernel_rfl) rfl rfl rfl ?_
  ·exact ⟨by omega, by omega, by simp⟩
  rintro i ⟨hi0, hi, hno⟩
  refine J_seq ?_
  refine Sq mixed [zR 0, zR 1, .rd 2 [.o 0 none] 0 0, zR 3, zR 4] [] [1, 2, 3, 18] (fun _ => [zP 1 (nu1 0), zI 2 0, zI 3 i, zB 18 (decide (i < (↑c.ops.length : Int)))]) (fun _ => [(nu1 0, .cells #[.slice a1 c.when.length c1, nI c.place, .slice a2 c.ops.length c2] 28 (0, 0))]) (fun _ => ?_)
  refine cC (t := decide (i < (↑c.ops.length : Int))) (fun hlt => ?_) (fun hlt => ?_)
  ·have hlt2 : i < c.ops.length := by simpa using hlt
   obtain ⟨o, ho⟩ : ∃ o, c.ops[i.toNat]? = some o := ⟨_, List.getElem?_eq_getElem (by omega)⟩
   refine J_read1 1 rfl i.toNat (map_at ho) (by kernel_rfl) (fun b1 off1 cs1 ty1 fz1 a1_0 c1_0 ha1 hrd1 => ?_)
   cases ha1
   have hrd1_0 := rd0 (hrd1 0 _ rfl)
   have hrd1_1 := hrd1 1 _ rfl
   have hrd1_2 := hrd1 2 _ rfl
   have hrd1_3 := hrd1 3 _ rfl
   have hrd1_4 := hrd1 4 _ rfl
   have hrd1_5 := hrd1 5 _ rfl
   have hrd1_6 := hrd1 6 _ rfl
   try simp only [cAp, nAp, aNl]
   refine J_skip ?_
   refine J_seq ?_
   refine J_block ?_
   refine Sp mixed [zR 0, .rd 1 [.o 0 none] 0 0, zR 2, .rd 3 [] 0 2, zR 4, .rd 5 [.r 0 (some (.string o.key))] 0 0, zR 6, zR 7, zR 8, .rd 9 [] 2 0, .rd 10 [.o 0 none] 2 0, .rd 11 [] 2 0, .rd 12 [] 2 2, .rd 13 [] 2 0, .rd 14 [.r 0 (some (.string o.text))] 2 0, .rd 15 [] 2 0, .rd 16 [] 2 0, .rd 17 [] 0 3, zR 18, .rd 19 [] 2 0, .rd 20 [.o 0 none] 2 0, .rd 21 [] 2 0, .rd 22 [] 2 2, .rd 23 [] 2 0, .rd 24 [.r 0 (some (.slice (a1_0, c1_0).fst ((List.map eDot o.dots).length) c1_0))] 2 0, .rd 25 [] 2 0, .rd 26 [] 2 0, .rd 27 [] 0 3] [] [1, 2, 3, 48] (fun _ => [zP 1 (nu1 0), zI 2 0, zI 3 i, zB 48 (decide ((↑o.key.size : Int) > 60) || decide ((↑o.text.size : Int) > 200) || decide ((↑(List.map eDot o.dots).length : Int) > 70))]) (fun _ => [(nu1 0, .cells #[.slice a1 c.when.length c1, nI c.place, .slice (sA b1 off1) c.ops.length c2] 28 (0, 0))]) (fun _ => [(0 : Int) ≤ i, i < (↑c.ops.length : Int), cs1[off1 + i.toNat * (7 : Nat) + (1 : Nat)]? = some (Value.string o.key), (decide ((↑o.key.size : Int) > 60)) = false → (0 : Int) ≤ i, (decide ((↑o.key.size : Int) > 60)) = false → i < (↑c.ops.length : Int), (decide ((↑o.key.size : Int) > 60)) = false → cs1[off1 + i.toNat * (7 : Nat) + (3 : Nat)]? = some (Value.string o.text), (decide ((↑o.key.size : Int) > 60) || decide ((↑o.text.size : Int) > 200)) = false → (0 : Int) ≤ i, (decide ((↑o.key.size : Int) > 60) || decide ((↑o.text.size : Int) > 200)) = false → i < (↑c.ops.length : Int), (decide ((↑o.key.size : Int) > 60) || decide ((↑o.text.size : Int) > 200)) = false → cs1[off1 + i.toNat * (7 : Nat) + (6 : Nat)]? = some (Value.slice (a1_0, c1_0).fst (List.map eDot o.dots).length (a1_0, c1_0).snd)]) (fun _ => ⟨hi0, hlt2, hrd1_1, (fun _ => hi0), (fun _ => hlt2), (fun _ => hrd1_3), (fun _ => hi0), (fun _ => hlt2), (fun _ => hrd1_6), trivial⟩) (fun _ => ?_)
   refine cC (t := decide ((↑o.key.size : Int) > 60) || decide ((↑o.text.size : Int) > 200) || decide ((↑(List.map eDot o.dots).length : Int) > 70)) (fun hb => ?_) (fun hb => ?_)
   ·refine J_seq ?_
    refine Gq mixed [zR 0] [] [1, 2, 3] (fun _ => [zP 1 (nu1 0), zI 2 1, zI 3 i]) (fun _ => [(nu1 0, .cells #[.slice a1 c.when.length c1, nI c.place, .slice (sA b1 off1) c.ops.length c2] 28 (0, 0))]) (fun _ => ?_)
    refine J_return [[]] (.int .i64 1) (by kernel_rfl) (fun a w s => ?_)
    have e1 : heavyC c = 1 := by
     rw [heavyC, if_neg hn, if_pos (List.any_eq_true.2 ⟨o, List.mem_of_getElem? ho, ?_⟩)]
     simpa [heavyOp] using hb
    rw [e1]
    exact s.ret (by simp) [] [] rfl rfl
   ·refine J_skip ?_
    refine J_eb ?_
    refine Gp mixed [zR 0, .rd 1 [] 0 1, zR 2] [] [1, 2, 3] (fun _ => [zP 1 (nu1 0), zI 2 0, zI 3 (i + 1)]) (fun _ => [(nu1 0, .cells #[.slice a1 c.when.length c1, nI c.place, .slice (sA b1 off1) c.ops.length c2] 28 (0, 0))]) (fun _ => [IntKind.i64.wrap (i + (1 : Int)) = i + (1 : Int)]) (fun _ => ⟨wrap_i64 (by omega) (by omega), trivial⟩) (fun _ => ?_)
    refine J_backx (i + 1) [1, 2, 3] [0] [] [0, 1] ?_ ?_ (by kernel_rfl) rfl rfl rfl
    ·refine ⟨by omega, by omega, fun j hj o' ho' => ?_⟩
     by_cases hji : j = i.toNat
     ·subst hji
      rw [ho] at ho'
      cases ho'
      simpa [heavyOp] using hb
     ·exact hno j (by omega) o' ho'
    ·omega
  ·refine J_exit rfl ?_
   refine Sq mixed [zR 0] [] [2] (fun _ => [zI 2 0]) (fun _ => [(nu1 0, .cells #[.slice a1 c.when.length c1, nI c.place, .slice a2 c.ops.length c2] 28 (0, 0))]) (fun _ => ?_)
   refine J_return [[]] (.int .i64 0) (by kernel_rfl) (fun a w s => ?_)
   have e1 : heavyC c = 0 := by
    rw [heavyC, if_neg hn, if_neg]
    rw [Bool.not_eq_true, List.any_eq_false]
    intro o ho
    obtain ⟨j, hj⟩ := List.getElem?_of_mem ho
    have hjl := (List.getElem?_eq_some_iff.1 hj).1
    simp [hno j (by simp at hlt; omega) o hj]
   rw [e1]
   exact s.ret (by simp) [] [] rfl rfl
end Go.Proofs.YtpjkiomccpjboaaGreatDoor
end
