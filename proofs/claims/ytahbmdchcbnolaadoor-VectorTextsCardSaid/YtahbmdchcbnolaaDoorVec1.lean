/- vector: Check, two. -/
import Derived.Test.YtahbmdchcbnolaaDoorDat
import Derived.Test.YtahbmdchcbnolaaDoorTk
import Derived.Test.YtahbmdchcbnolaaDoorMz
namespace Go.Proofs.YtahbmdchcbnolaaDoor
open Go Go.Sx

/-- The package's errors: each variable's own value (the first place: nothing). -/
abbrev globs (er : Nat → Addr) : List (Value × D) := [(.nilIface, .v .nilIface), dE 135 er 2 2, dE 135 er 1 3]

def badT (t : Int) : Bool := decide (t < 0) || decide (1099511627776 < t)
def vecErr (xs : List Int) : Nat := if xs.length < 1 ∨ 6 < xs.length then 3 else if xs.any badT then 2 else 0

set_option maxHeartbeats 4000000 in
theorem check1 {w : World} {S : Nat → Prop} {t : Int} : Calls Tryd.prog 21 #[.int .i64 t] w fun e w' => Ret [] w S w' e (.bool (badT t)) [] [] := by
  refine ep21 (args := [.int .i64 t]) (G := []) (by kernel_rfl) (AllG.nil w S) ?_
  refine J_seq ?_
  refine Za [.rd 0 [] 0 0] [] [(2, .val (.bool false))] ?_
  refine J_seq ?_
  refine Za (Rds 0 3 ++ [.rd 3 [] 2 0, .rd 4 [] 2 0, .rd 5 [] 0 3, .rd 6 [] 0 0]) [0] [(2, .val (.bool (decide (t < 0) || decide (t > 1099511627776))))] ?_
  refine Yr [[]] (.bool (decide (t < 0) || decide (t > 1099511627776))) fun a w s => ?_
  exact s.ret (by simp) [] [] rfl rfl

set_option maxHeartbeats 4000000 in
theorem indexBad {w : World} {S : Nat → Prop} {a : Option Addr} {n c : Nat} {xs : List Int} (h : Rep w S (.slice a n c) (dInts xs)) (hl : xs.length ≤ 1000000) :
    Calls Tryd.prog 32 #[.slice a n c, .func (.func 21) #[] #[]] w fun e w' => ∃ r, Ret [] w S w' e (.int .i64 r) [] [] ∧ decide (0 ≤ r) = xs.any badT := by
  obtain rfl := rep_ints_len h
  refine ep32 (args := [.slice a xs.length c, .func (.func 21) #[] #[]]) (G := [(_, dInts xs)]) (by kernel_rfl) (.cons h (.nil _ _)) ?_
  refine J_seq ?_
  refine Za [.rd 0 [] 0 0] [] [(4, .val (.int .i64 0))] ?_
  refine J_seq ?_
  refine J_seq ?_
  refine Za (Rds 0 3) [] [(7, .val (.int .i64 (↑xs.length : Int))), (8, .val (.int .i64 0))] ?_
  refine J_block ?_
  refine J_loopx (fun i : Int => [(0, .val (.slice a xs.length c)), (1, .val (.func (.func 21) #[] #[])), (4, .val (.int .i64 0)), (7, .val (.int .i64 (↑xs.length : Int))), (8, .val (.int .i64 i))]) (fun i : Int => []) (fun i : Int => []) (fun i : Int => [(.slice a xs.length c, (dInts xs))]) (fun i : Int => (xs.length - i).toNat) (fun i : Int => (0 ≤ i ∧ i ≤ xs.length ∧ ∀ j : Nat, j < i.toNat → ∀ t, xs[j]? = some t → badT t = false)) 0 [0, 1, 4, 7, 8] [] [] [0] ?_ (by kernel_rfl) rfl rfl rfl ?_
  · exact ⟨by simp, by omega, by simp⟩
  rintro i ⟨hi0, hi, hno⟩
  refine J_seq ?_
  refine Za [.rd 0 [] 0 0] [] [(9, .val (.bool (decide (i < (↑xs.length : Int)))))] ?_
  refine J_seq ?_
  refine J_cond (t := decide (i < (↑xs.length : Int))) (by kernel_rfl) (by kernel_rfl) (fun hlt => ?_) (fun hlt => ?_)
  · have hlt2 : i < xs.length := by simpa using hlt
    obtain ⟨x, hx⟩ : ∃ x, xs[i.toNat]? = some x := ⟨_, List.getElem?_eq_getElem (by omega)⟩
    refine J_read0 0 rfl i.toNat (map_at hx) (by kernel_rfl) (fun b1 off1 cs1 ty1 fz1 ha1 hrd1 => ?_)
    cases ha1
    have hrd1_0 := rd0 (hrd1 0 _ rfl)
    try simp only [aQ]
    refine J_skip ?_
    refine J_seq ?_
    refine J_block ?_
    refine J_seq ?_
    refine Za [.rd 0 [] 0 0, .rd 1 [] 0 0] [9] [(5, .val (.int .i64 i))] ?_
    refine J_seq ?_
    refine jT [(0, true), (1, true), (2, true), (3, true), (4, true), (5, false)] [] ?_
    refine Yp (Rds 0 3 ++ [.rd 3 [] 0 2, .rd 4 [.r 0 (some (.int .i64 x))] 0 0]) [] [(11, .val (.func (.func 21) #[] #[])), (15, .val (.int .i64 x))] (oC hi0 (oC hlt2 (oC hrd1_0 oN))) ?_
    refine Yc 21 #[.int .i64 x] (some 16) fun w S hG => ?_
    refine (check1 (S := S)).mono ?_
    rintro e w2 hR
    refine ⟨_, _, _, hR, ?_⟩
    try simp only [aQ]
    refine JR_end ?_
    refine J_cond (t := badT x) (by kernel_rfl) (by kernel_rfl) (fun hb => ?_) (fun hb => ?_)
    · refine J_seq ?_
      refine Za [.rd 0 [] 0 0, .rd 1 [] 0 0] [16] [(4, .val (.int .i64 i))] ?_
      refine Yr [[]] (.int .i64 i) fun a w s => ?_
      refine ⟨_, s.ret (by simp) [] [] rfl rfl, ?_⟩
      rw [List.any_eq_true.2 ⟨x, List.mem_of_getElem? hx, hb⟩]
      simpa using hi0
    · refine J_skip ?_
      refine J_eb ?_
      refine Zp [.rd 0 [] 0 1, .rd 1 [] 0 0] [16] [(8, .val (.int .i64 (i + 1)))] (oC (show IntKind.i64.wrap (i + (1 : Int)) = i + (1 : Int) from wrap_i64 (by omega) (by omega)) oN) ?_
      refine J_backx (i + 1) [0, 1, 4, 7, 8] [] [] [0] ?_ ?_ (by kernel_rfl) rfl rfl rfl
      · refine ⟨by omega, by omega, fun j hj t ht => ?_⟩
        by_cases hji : j = i.toNat
        · subst hji
          rw [hx] at ht
          cases ht
          exact hb
        · exact hno j (by omega) t ht
      · omega
  · refine J_exit rfl ?_
    refine J_seq ?_
    refine Za [.rd 0 [] 0 0] [9, 0, 1, 7, 8] [(4, .val (.int .i64 (-1)))] ?_
    refine Yr [[]] (.int .i64 (-1)) fun a w s => ?_
    refine ⟨_, s.ret (by simp) [] [] rfl rfl, ?_⟩
    have e : xs.any badT = false := by
      rw [List.any_eq_false]
      intro t ht
      obtain ⟨j, hj⟩ := List.getElem?_of_mem ht
      have hjl := (List.getElem?_eq_some_iff.1 hj).1
      simp [hno j (by simp at hlt; omega) t hj]
    rw [e]
    decide

set_option maxHeartbeats 4000000 in
theorem containsBad {w : World} {S : Nat → Prop} {a : Option Addr} {n c : Nat} {xs : List Int} (h : Rep w S (.slice a n c) (dInts xs)) (hl : xs.length ≤ 1000000) :
    Calls Tryd.prog 20 #[.slice a n c, .func (.func 21) #[] #[]] w fun e w' => Ret [] w S w' e (.bool (xs.any badT)) [] [] := by
  refine ep20 (args := [.slice a n c, .func (.func 21) #[] #[]]) (G := [(_, dInts xs)]) (by kernel_rfl) (.cons h (.nil _ _)) ?_
  refine J_seq ?_
  refine Za [.rd 0 [] 0 0] [] [(4, .val (.bool false))] ?_
  refine J_seq ?_
  refine jT [(0, true), (1, true), (2, false), (3, true), (4, true)] [] ?_
  refine Ya [.rd 0 [] 0 0, .rd 1 [] 0 0] [0, 1] [(5, .val (.slice a n c)), (6, .val (.func (.func 21) #[] #[]))] ?_
  refine Yc 32 #[.slice a n c, .func (.func 21) #[] #[]] (some 7) fun w S hG => ?_
  refine (indexBad (hG.at 0 rfl) hl).mono ?_
  rintro e w2 ⟨r, hR, hr⟩
  refine ⟨_, _, _, hR, ?_⟩
  try simp only [aQ]
  refine Ya [.rd 3 [] 0 0, .rd 4 [] 0 0] [7, 5, 6] [(4, .val (.bool (decide (r ≥ 0))))] ?_
  refine JR_end ?_
  refine Yr [[]] (.bool (decide (r ≥ 0))) fun a w s => ?_
  rw [← hr]
  exact s.ret (by simp) [] [] rfl rfl

set_option maxHeartbeats 4000000 in
theorem vcheck {w : World} {S : Nat → Prop} {er : Nat → Addr} {a : Option Addr} {n c : Nat} {xs : List Int} (hE : AllG w S (globs er)) (h : Rep w S (.slice a n c) (dInts xs)) (hl : xs.length ≤ 1000000) :
    Calls Tryd.prog 13 #[.slice a n c] w fun e w' => ∃ v, Ret [] w S w' e v [] [] ∧ ErrIs 135 er (vecErr xs) v := by
  obtain rfl := rep_ints_len h
  refine ep13 (args := [.slice a xs.length c]) (G := globs er ++ [(_, dInts xs)]) (by kernel_rfl) (hE.app (.cons h (.nil _ _))) ?_
  refine J_glob 1 rfl (fun csg1 tyg1 fzg1 hglob1 => ?_)
  refine J_glob 2 rfl (fun csg2 tyg2 fzg2 hglob2 => ?_)
  try simp only [aQ]
  refine J_seq ?_
  refine Za [.rd 0 [] 0 0] [] [(2, .val (.nilIface))] ?_
  refine J_seq ?_
  refine J_seq ?_
  refine Za (Rds 0 4 ++ [.rd 4 [] 2 0, .rd 5 [] 2 0, .rd 6 [] 2 0, .rd 7 [] 0 3]) [] [(10, .val (.bool (decide ((↑xs.length : Int) < 1) || decide ((↑xs.length : Int) > 6))))] ?_
  refine J_cond (t := decide ((↑xs.length : Int) < 1) || decide ((↑xs.length : Int) > 6)) (by kernel_rfl) (by kernel_rfl) (fun hn => ?_) (fun hn => ?_)
  · refine J_seq ?_
    refine Zp [.rd 0 [.r 1 (some (.iface 135 (.pointer (some (er 3)))))] 0 0, .rd 1 [] 0 0] [10] [(2, .val (.iface 135 (.pointer (some (er 3)))))] (oC hglob2 oN) ?_
    refine Yr [[]] (.iface 135 (.pointer (some (er 3)))) fun a w s => ?_
    refine ⟨_, s.ret (by simp) [] [] rfl rfl, .inr ⟨?_, ?_⟩⟩ <;> rw [vecErr, if_pos (by simp at hn; omega)]
    · decide
  · have hn2 : ¬ (xs.length < 1 ∨ 6 < xs.length) := by simp at hn; omega
    refine J_skip ?_
    refine J_seq ?_
    refine J_seq ?_
    refine jT [(0, true), (1, false)] [] ?_
    refine Ya [.rd 0 [] 0 0] [10, 0] [(12, .val (.slice a xs.length c))] ?_
    refine Yc 20 #[.slice a xs.length c, .func (.func 21) #[] #[]] (some 13) fun w S hG => ?_
    refine (containsBad (hG.at 3 rfl) hl).mono ?_
    rintro e w2 hR
    refine ⟨_, _, _, hR, ?_⟩
    try simp only [aQ]
    refine JR_end ?_
    refine J_cond (t := xs.any badT) (by kernel_rfl) (by kernel_rfl) (fun hb => ?_) (fun hb => ?_)
    · refine J_seq ?_
      refine Zp [.rd 0 [.r 0 (some (.iface 135 (.pointer (some (er 2)))))] 0 0, .rd 1 [] 0 0] [13, 12] [(2, .val (.iface 135 (.pointer (some (er 2)))))] (oC hglob1 oN) ?_
      refine Yr [[]] (.iface 135 (.pointer (some (er 2)))) fun a w s => ?_
      refine ⟨_, s.ret (by simp) [] [] rfl rfl, .inr ⟨?_, ?_⟩⟩ <;> rw [vecErr, if_neg hn2, if_pos hb]
      · decide
    · refine J_skip ?_
      refine J_seq ?_
      refine Za [.rd 0 [] 0 0] [13, 12] [] ?_
      refine Yr [[]] (.nilIface) fun a w s => ?_
      exact ⟨_, s.ret (by simp) [] [] rfl rfl, .inl ⟨by rw [vecErr, if_neg hn2, hb]; rfl, rfl⟩⟩
end Go.Proofs.YtahbmdchcbnolaaDoor
