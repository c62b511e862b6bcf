/- causewayref1: the same numbers? -/
import Derived.Test.YtahbmdchcbnolaaDoorDat
import Derived.Test.YtahbmdchcbnolaaDoorTk
import Derived.Test.YtahbmdchcbnolaaDoorMz
namespace Go.Proofs.YtahbmdchcbnolaaDoor
open Go Go.Sx

set_option maxHeartbeats 4000000 in
theorem sameInts {w : World} {S : Nat → Prop} {a b : Option Addr} {n m c d : Nat} {xs ys : List Int} (ha : Rep w S (.slice a n c) (dInts xs)) (hb : Rep w S (.slice b m d) (dInts ys)) (hm : xs.length ≤ 1000000) :
    Calls Tryd.prog 11 #[.slice a n c, .slice b m d] w fun e w' => Ret [] w S w' e (.bool (decide (xs = ys))) [] [] := by
  obtain rfl := rep_ints_len ha
  obtain rfl := rep_ints_len hb
  refine ep11 (args := [.slice a xs.length c, .slice b ys.length d]) (G := [(_, dInts xs), (_, dInts ys)]) (by kernel_rfl) (.cons ha (.cons hb (.nil _ _))) ?_
  refine J_seq ?_
  refine Za [.rd 0 [] 0 0] [] [(4, .val (.bool false))] ?_
  refine J_seq ?_
  refine J_seq ?_
  refine Za (Rds 0 5) [] [(10, .val (.bool ((↑xs.length : Int) != (↑ys.length : Int))))] ?_
  refine J_cond (t := (↑xs.length : Int) != (↑ys.length : Int)) (by kernel_rfl) (by kernel_rfl) (fun h => ?_) (fun h => ?_)
  · refine J_seq ?_
    refine Za [.rd 0 [] 0 0] [10] [] ?_
    refine Yr [[]] (.bool false) fun a w s => ?_
    have e : decide (xs = ys) = false := by
      simp only [decide_eq_false_iff_not]
      rintro rfl
      simp at h
    rw [e]
    exact s.ret (by simp) [] [] rfl rfl
  · have hl : xs.length = ys.length := by simp at h; omega
    refine J_skip ?_
    refine J_seq ?_
    refine J_seq ?_
    refine Za [.rd 0 [] 0 0] [10] [(5, .val (.int .i64 0))] ?_
    refine J_block ?_
    refine J_loopx (fun i : Int => [(0, .val (.slice a xs.length c)), (1, .val (.slice b ys.length d)), (4, .val (.bool false)), (5, .val (.int .i64 i))]) (fun i : Int => []) (fun i : Int => []) (fun i : Int => [(.slice a xs.length c, (dInts xs)), (.slice b ys.length d, (dInts ys))]) (fun i : Int => (xs.length - i).toNat) (fun i : Int => (0 ≤ i ∧ i ≤ xs.length ∧ ∀ j : Nat, j < i.toNat → xs[j]? = ys[j]?)) 0 [0, 1, 4, 5] [] [] [0, 1] ?_ (by kernel_rfl) rfl rfl rfl ?_
    · exact ⟨by simp, by omega, by simp⟩
    rintro i ⟨hi0, hi, hsame⟩
    refine J_seq ?_
    refine J_seq ?_
    refine Za (Rds 0 4) [] [(14, .val (.bool (decide (i < (↑xs.length : Int)))))] ?_
    refine J_cond (t := decide (i < (↑xs.length : Int))) (by kernel_rfl) (by kernel_rfl) (fun hlt => ?_) (fun hlt => ?_)
    · have hlt2 : i < xs.length := by simpa using hlt
      obtain ⟨x, hx⟩ : ∃ x, xs[i.toNat]? = some x := ⟨_, List.getElem?_eq_getElem (by omega)⟩
      obtain ⟨y, hy⟩ : ∃ y, ys[i.toNat]? = some y := ⟨_, List.getElem?_eq_getElem (by omega)⟩
      refine J_read0 0 rfl i.toNat (map_at hx) (by kernel_rfl) (fun b1 off1 cs1 ty1 fz1 ha1 hrd1 => ?_)
      cases ha1
      have hrd1_0 := rd0 (hrd1 0 _ rfl)
      refine J_read0 1 rfl i.toNat (map_at hy) (by kernel_rfl) (fun b2 off2 cs2 ty2 fz2 ha2 hrd2 => ?_)
      cases ha2
      have hrd2_0 := rd0 (hrd2 0 _ rfl)
      try simp only [aQ]
      refine J_skip ?_
      refine J_seq ?_
      refine J_block ?_
      refine J_seq ?_
      refine Zp [.rd 0 [] 0 0, .rd 1 [] 0 0, .rd 2 [] 0 2, .rd 3 [.r 0 (some (.int .i64 x))] 0 0, .rd 4 [] 0 0, .rd 5 [] 0 0, .rd 6 [] 0 2, .rd 7 [.r 1 (some (.int .i64 y))] 0 0, .rd 8 [] 0 0] [14] [(25, .val (.bool (x != y)))] (oC hi0 (oC hlt2 (oC hrd1_0 (oC hi0 (oC (show i < (↑ys.length : Int) from by omega) (oC hrd2_0 oN)))))) ?_
      refine J_cond (t := x != y) (by kernel_rfl) (by kernel_rfl) (fun hne => ?_) (fun hne => ?_)
      · refine J_seq ?_
        refine Za [.rd 0 [] 0 0] [25] [] ?_
        refine Yr [[]] (.bool false) fun a w s => ?_
        have e : decide (xs = ys) = false := by
          simp only [decide_eq_false_iff_not]
          rintro rfl
          rw [hx] at hy
          cases hy
          simp at hne
        rw [e]
        exact s.ret (by simp) [] [] rfl rfl
      · refine J_skip ?_
        refine J_eb ?_
        refine Zp [.rd 0 [] 0 0, .rd 1 [] 0 1, .rd 2 [] 0 0] [25] [(5, .val (.int .i64 (i + 1)))] (oC (show IntKind.i64.wrap (i + (1 : Int)) = i + (1 : Int) from wrap_i64 (by omega) (by omega)) oN) ?_
        refine J_backx (i + 1) [0, 1, 4, 5] [] [] [0, 1] ?_ ?_ (by kernel_rfl) rfl rfl rfl
        · refine ⟨by omega, by omega, fun j hj => ?_⟩
          by_cases hji : j = i.toNat
          · subst hji
            rw [hx, hy]
            simpa using hne
          · exact hsame j (by omega)
        · omega
    · refine J_exit rfl ?_
      refine J_seq ?_
      refine Za [.rd 0 [] 0 0] [14, 0, 1, 5] [(4, .val (.bool true))] ?_
      refine Yr [[]] (.bool true) fun a w s => ?_
      have e : decide (xs = ys) = true := by
        simp only [decide_eq_true_eq]
        apply List.ext_getElem?
        intro j
        by_cases hj : j < xs.length
        · exact hsame j (by simp at hlt; omega)
        · rw [List.getElem?_eq_none (by omega), List.getElem?_eq_none (by omega)]
      rw [e]
      exact s.ret (by simp) [] [] rfl rfl
end Go.Proofs.YtahbmdchcbnolaaDoor
