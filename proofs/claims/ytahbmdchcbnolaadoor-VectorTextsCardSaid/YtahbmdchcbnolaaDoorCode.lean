/- plain.Code: the number of an error. -/
import Derived.Test.YtahbmdchcbnolaaDoorVec1
import Derived.Test.YtahbmdchcbnolaaDoorErrs
import Derived.Test.YtahbmdchcbnolaaDoorMz
namespace Go.Proofs.YtahbmdchcbnolaaDoor
open Go Go.Sx

/-- The errors' own blocks. -/
abbrev eO (er : Nat → Addr) (eb : Nat → Array Value × TypeId) (k : Nat) : Value × D := (.pointer (some (er k)), .obj (.cells (eb k).1 (eb k).2 (0, 0)))
/-- The package's errors, the type's handle that errors.As reads, the errors' blocks. -/
def cglobs (er : Nat → Addr) (eb : Nat → Array Value × TypeId) : List (Value × D) := [dE 135 er 0 1, dE 135 er 2 2, dE 135 er 1 3, dE 135 er 3 4, dE 135 er 4 5, dE 135 er 5 6, dE 135 er 6 7, dE 135 er 7 8, dE 135 er 8 9, dE 135 er 9 10, dE 135 er 10 11, dE 135 er 11 12, (.pointer (some ⟨12, 0, none⟩), .ptr [.v (.iface 102 (.agg #[.pointer (some ⟨21, 25, none⟩)]))]), eO er eb 1, eO er eb 2, eO er eb 3, eO er eb 4, eO er eb 5, eO er eb 6, eO er eb 7, eO er eb 8, eO er eb 9, eO er eb 10, eO er eb 11, eO er eb 12]
abbrev dC (er : Nat → Addr) (eb : Nat → Array Value × TypeId) : D := .all (cglobs er eb)
def Inj (er : Nat → Addr) : Prop := ∀ i j, 1 ≤ i → i ≤ 12 → 1 ≤ j → j ≤ 12 → er i = er j → i = j
theorem eO_mem (er : Nat → Addr) (eb : Nat → Array Value × TypeId) {k : Nat} (h1 : 1 ≤ k) (h2 : k ≤ 12) : eO er eb k ∈ cglobs er eb := by
  rcases (by omega : k = 1 ∨ k = 2 ∨ k = 3 ∨ k = 4 ∨ k = 5 ∨ k = 6 ∨ k = 7 ∨ k = 8 ∨ k = 9 ∨ k = 10 ∨ k = 11 ∨ k = 12) with rfl | rfl | rfl | rfl | rfl | rfl | rfl | rfl | rfl | rfl | rfl | rfl <;> simp [cglobs, eO]
set_option maxHeartbeats 4000000 in
theorem globs_of {w : World} {S : Nat → Prop} {er : Nat → Addr} {eb : Nat → Array Value × TypeId} (h : Rep w S .nilIface (dC er eb)) : AllG w S (globs er) :=
  .cons (.v rfl) (.cons (h.part _ (List.mem_of_getElem? (i := 1) rfl)) (.cons (h.part _ (List.mem_of_getElem? (i := 2) rfl)) (.nil _ _)))
set_option maxHeartbeats 4000000 in
theorem blk_of {w : World} {S : Nat → Prop} {a : Addr} {o : Obj} (h : Rep w S (.pointer (some a)) (.obj o)) : w.heap[a.block]? = some o := by
  cases h with
  | obj hb => exact hb
set_option maxHeartbeats 4000000 in
theorem var_of {w : World} {S : Nat → Prop} {g : Nat} {v : Value} (h : Rep w S (.pointer (some ⟨g, 0, none⟩)) (.ptr [.v v])) : w.cell? ⟨g, 0, none⟩ = some v := by
  cases h with
  | ptr u hb hS hcell hrep =>
    have h1 := (hrep 0 _ rfl).plain
    have h2 := hcell 0 (by simp)
    rw [h1] at h2
    simpa [World.cell?, hb] using h2

set_option maxHeartbeats 4000000 in
theorem isAt {w : World} {S : Nat → Prop} {a : Addr} {ca : Array Value} {ta : TypeId} {er : Nat → Addr} {eb : Nat → Array Value × TypeId} {j : Nat} (hC : Rep w S .nilIface (dC er eb)) (ha : Rep w S (.pointer (some a)) (.obj (.cells ca ta (0, 0)))) (h1 : 1 ≤ j) (h2 : j ≤ 12) :
    Calls Tryd.prog 27 #[.iface 135 (.pointer (some a)), .iface 135 (.pointer (some (er j)))] w fun e w' => Ret [] w S w' e (.bool (decide (a = er j))) [] [] := by
  by_cases h : a = er j
  · subst h
    rw [decide_eq_true rfl]
    exact (Er.is_same _ w).mono fun e w' h => ret_same h.1 h.2
  · rw [decide_eq_false h]
    exact (Er.is_other a (er j) ca (eb j).1 ta (eb j).2 w h (blk_of ha) (blk_of (hC.part _ (eO_mem er eb h1 h2)))).mono fun e w' h => ret_same h.1 h.2

set_option maxHeartbeats 4000000 in
theorem asMiss {w : World} {S : Nat → Prop} {a t : Addr} {er : Nat → Addr} {eb : Nat → Array Value × TypeId} (hC : Rep w S .nilIface (dC er eb)) :
    Calls Tryd.prog 26 #[.iface 135 (.pointer (some a)), .iface 59 (.pointer (some t))] w fun e w' => Ret [] w S w' e (.bool false) [] [] :=
  (Er.as_miss a t w (var_of (hC.part _ (List.mem_of_getElem? (i := 12) rfl)))).mono fun e w' h => ret_below h.1 (by
    rw [h.2]
    exact (((RowKit.Below.refl _ w).alloc (Nat.le_refl _) _).alloc (by simp) _).alloc (by simp; omega) _) (by rw [h.2]; exact Nat.le_refl _)

abbrev eEr (er : Nat → Addr) (k : Nat) : List D := [.v (.iface 135 (.pointer (some (er k))))]
theorem row12 {i : Int} (h0 : 0 ≤ i) (h1 : i < 12) : ([1, 2, 3, 4, 5, 6, 7, 8, 9, 10, 11, 12] : List Nat)[i.toNat]? = some (i.toNat + 1) := by
  obtain ⟨n, rfl⟩ : ∃ n : Nat, i = n := ⟨i.toNat, by omega⟩
  rcases (by omega : n = 0 ∨ n = 1 ∨ n = 2 ∨ n = 3 ∨ n = 4 ∨ n = 5 ∨ n = 6 ∨ n = 7 ∨ n = 8 ∨ n = 9 ∨ n = 10 ∨ n = 11) with rfl | rfl | rfl | rfl | rfl | rfl | rfl | rfl | rfl | rfl | rfl | rfl <;> rfl

set_option maxHeartbeats 4000000 in
theorem codeErr {w : World} {S : Nat → Prop} {er : Nat → Addr} {eb : Nat → Array Value × TypeId} {k : Nat} {v : Value} (hC : Rep w S .nilIface (dC er eb)) (hI : Inj er) (hk : k ≤ 12) (hv : ErrIs 135 er k v) :
    Calls Tryd.prog 16 #[v] w fun e w' => Ret [] w S w' e (.tuple #[.int .i64 k, .int .i64 (-1)]) [] [] := by
  rcases hv with ⟨rfl, rfl⟩ | ⟨h0, rfl⟩
  · refine ep16 (args := [.nilIface]) (S := S) (G := []) (by kernel_rfl) (.nil _ _) ?_
    refine J_seq ?_
    refine Za [.rd 0 [] 0 0, .rd 1 [] 0 0] [] [(2, .val (.int .i64 0)), (3, .val (.int .i64 0))] ?_
    refine J_seq ?_
    refine J_seq ?_
    refine Za [.rd 0 [] 0 0, .rd 1 [] 0 0] [] [(8, .val (.bool true))] ?_
    refine J_cond_t (by kernel_rfl) (by kernel_rfl) ?_
    refine J_seq ?_
    refine Za [.rd 0 [] 0 0, .rd 1 [] 0 0] [8] [(3, .val (.int .i64 (-1)))] ?_
    refine Yr [[], []] (.tuple #[.int .i64 0, .int .i64 (-1)]) fun a w s => ?_
    exact s.ret (by simp) [] [] rfl rfl
  · refine ep16 (args := [.iface 135 (.pointer (some (er k)))]) (G := [(_, dC er eb)]) (by kernel_rfl) (.cons hC (.nil _ _)) ?_
    refine J_stp (stp_all 0 [0, 1, 2, 3, 4, 5, 6, 7, 8, 9, 10, 11] rfl rfl) ?_
    refine J_glob 1 rfl (fun csg1 tyg1 fzg1 hglob1 => ?_)
    refine J_glob 2 rfl (fun csg2 tyg2 fzg2 hglob2 => ?_)
    refine J_glob 3 rfl (fun csg3 tyg3 fzg3 hglob3 => ?_)
    refine J_glob 4 rfl (fun csg4 tyg4 fzg4 hglob4 => ?_)
    refine J_glob 5 rfl (fun csg5 tyg5 fzg5 hglob5 => ?_)
    refine J_glob 6 rfl (fun csg6 tyg6 fzg6 hglob6 => ?_)
    refine J_glob 7 rfl (fun csg7 tyg7 fzg7 hglob7 => ?_)
    refine J_glob 8 rfl (fun csg8 tyg8 fzg8 hglob8 => ?_)
    refine J_glob 9 rfl (fun csg9 tyg9 fzg9 hglob9 => ?_)
    refine J_glob 10 rfl (fun csg10 tyg10 fzg10 hglob10 => ?_)
    refine J_glob 11 rfl (fun csg11 tyg11 fzg11 hglob11 => ?_)
    refine J_glob 12 rfl (fun csg12 tyg12 fzg12 hglob12 => ?_)
    try simp only [aQ]
    refine J_seq ?_
    refine Za [.rd 0 [] 0 0, .rd 1 [] 0 0] [] [(2, .val (.int .i64 0)), (3, .val (.int .i64 0))] ?_
    refine J_seq ?_
    refine J_seq ?_
    refine Za [.rd 0 [] 0 0, .rd 1 [] 0 0] [] [(8, .val (.bool false))] ?_
    refine J_cond_f (by kernel_rfl) (by kernel_rfl) ?_
    refine J_skip ?_
    refine J_seq ?_
    refine Za [.rd 0 [] 0 0] [8] [(3, .val (.int .i64 (-1)))] ?_
    refine J_seq ?_
    refine Zm [.wr 0 [] 0] [] [] (fun nu1 => [(4, .val (.pointer (some (⟨nu1 0, 0, none⟩))))]) o0 (fun nu1 => [(nu1 0, .cells #[.pointer none] 57 (0, 0))]) (fun nu1 => ?_)
    refine J_seq ?_
    refine J_seq ?_
    refine jT [(0, true), (1, true), (2, false)] [] ?_
    refine Ya [.rd 0 [] 0 0, .rd 1 [] 0 0] [] [(9, .val (.iface 135 (.pointer (some (er k))))), (10, .val (.iface 59 (.pointer (some (⟨nu1 0, 0, none⟩)))))] ?_
    refine Yc 26 #[.iface 135 (.pointer (some (er k))), .iface 59 (.pointer (some (⟨nu1 0, 0, none⟩)))] (some 11) fun w S hG => ?_
    refine (asMiss (hG.at 0 rfl)).mono ?_
    rintro e1 w1 hR
    refine ⟨_, _, _, hR, ?_⟩
    try simp only [aQ]
    refine JR_end ?_
    refine J_cond_f (by kernel_rfl) (by kernel_rfl) ?_
    refine J_skip ?_
    refine J_seq ?_
    refine J_seq ?_
    refine Zn [.rd 0 [.r 0 (some (.iface 135 (.pointer (some (er 1)))))] 0 0, .rd 1 [.r 1 (some (.iface 135 (.pointer (some (er 2)))))] 0 0, .rd 2 [.r 2 (some (.iface 135 (.pointer (some (er 3)))))] 0 0, .rd 3 [.r 3 (some (.iface 135 (.pointer (some (er 4)))))] 0 0, .rd 4 [.r 4 (some (.iface 135 (.pointer (some (er 5)))))] 0 0, .rd 5 [.r 5 (some (.iface 135 (.pointer (some (er 6)))))] 0 0, .rd 6 [.r 6 (some (.iface 135 (.pointer (some (er 7)))))] 0 0, .rd 7 [.r 7 (some (.iface 135 (.pointer (some (er 8)))))] 0 0, .rd 8 [.r 8 (some (.iface 135 (.pointer (some (er 9)))))] 0 0, .rd 9 [.r 9 (some (.iface 135 (.pointer (some (er 10)))))] 0 0, .rd 10 [.r 10 (some (.iface 135 (.pointer (some (er 11)))))] 0 0, .rd 11 [.r 11 (some (.iface 135 (.pointer (some (er 12)))))] 0 0, .wr 12 [] 0, .rd 13 [] 0 0, .rd 14 [] 0 0] [] [11, 9, 10, 4] (fun nu2 => [(28, .val (.slice (some (⟨nu2 0, 0, none⟩)) 12 12)), (29, .val (.int .i64 12)), (30, .val (.int .i64 0))]) o0 (fun nu2 => [(nu2 0, .cells #[.iface 135 (.pointer (some (er 1))), .iface 135 (.pointer (some (er 2))), .iface 135 (.pointer (some (er 3))), .iface 135 (.pointer (some (er 4))), .iface 135 (.pointer (some (er 5))), .iface 135 (.pointer (some (er 6))), .iface 135 (.pointer (some (er 7))), .iface 135 (.pointer (some (er 8))), .iface 135 (.pointer (some (er 9))), .iface 135 (.pointer (some (er 10))), .iface 135 (.pointer (some (er 11))), .iface 135 (.pointer (some (er 12)))] 25 (0, 0))]) (fun nu2 => (oC hglob1 (oC hglob2 (oC hglob3 (oC hglob4 (oC hglob5 (oC hglob6 (oC hglob7 (oC hglob8 (oC hglob9 (oC hglob10 (oC hglob11 (oC hglob12 oN))))))))))))) (fun nu2 => ?_)
    refine J_block ?_
    refine J_data (size := 1) 1 (eEr er) [1, 2, 3, 4, 5, 6, 7, 8, 9, 10, 11, 12] 12 rfl (by decide) (by intro x _; rfl) (by simp) ⟨.inl ⟨rfl, rfl⟩, ⟨.inl ⟨rfl, rfl⟩, ⟨.inl ⟨rfl, rfl⟩, ⟨.inl ⟨rfl, rfl⟩, ⟨.inl ⟨rfl, rfl⟩, ⟨.inl ⟨rfl, rfl⟩, ⟨.inl ⟨rfl, rfl⟩, ⟨.inl ⟨rfl, rfl⟩, ⟨.inl ⟨rfl, rfl⟩, ⟨.inl ⟨rfl, rfl⟩, ⟨.inl ⟨rfl, rfl⟩, ⟨.inl ⟨rfl, rfl⟩, trivial⟩⟩⟩⟩⟩⟩⟩⟩⟩⟩⟩⟩ ?_
    refine J_loopx (fun i : Int => [(0, .val (.iface 135 (.pointer (some (er k))))), (2, .val (.int .i64 0)), (3, .val (.int .i64 (-1))), (28, .val (.slice (some (⟨nu2 0, 0, none⟩)) 12 12)), (29, .val (.int .i64 12)), (30, .val (.int .i64 i))]) (fun i : Int => []) (fun i : Int => []) (fun i : Int => [(.nilIface, (dC er eb)), (.slice (some (⟨nu2 0, 0, none⟩)) ((List.map (eEr er) [1, 2, 3, 4, 5, 6, 7, 8, 9, 10, 11, 12]).length) 12, (D.sl 1 (List.map (eEr er) [1, 2, 3, 4, 5, 6, 7, 8, 9, 10, 11, 12])))]) (fun i : Int => (12 - i).toNat) (fun i : Int => (0 ≤ i ∧ i < k)) 0 [0, 2, 3, 28, 29, 30] [] [] [0, 13] ?_ (by kernel_rfl) rfl rfl rfl ?_
    · exact ⟨by omega, by omega⟩
    rintro i ⟨hi0, hi⟩
    have hx := row12 hi0 (by omega)
    refine J_read0 1 rfl i.toNat (map_at hx) (by kernel_rfl) (fun b1 off1 cs1 ty1 fz1 ha1 hrd1 => ?_)
    cases ha1
    have hrd1_0 := rd0 (hrd1 0 _ rfl)
    try simp only [aQ]
    refine J_seq ?_
    refine Za [.rd 0 [] 0 0] [] [(31, .val (.bool (decide (i < 12))))] ?_
    refine J_seq ?_
    refine J_condT (decide (i < 12)) (by kernel_rfl) (by kernel_rfl) (by simp; omega) ?_
    refine J_skip ?_
    refine J_seq ?_
    refine J_block ?_
    refine J_seq ?_
    refine Zp [.rd 0 [] 0 0, .rd 1 [] 0 2, .rd 2 [.r 12 (some (.iface 135 (.pointer (some (er (i.toNat + 1))))))] 0 0, .rd 3 [] 0 0, .rd 4 [] 0 0] [31] [(5, .val (.int .i64 i)), (6, .val (.iface 135 (.pointer (some (er (i.toNat + 1))))))] (oC hi0 (oC (show i < (↑(12 : Nat) : Int) from by omega) (oC hrd1_0 oN))) ?_
    refine J_seq ?_
    refine jT [(0, true), (1, true), (2, false)] [] ?_
    refine Ya [.rd 0 [] 0 0, .rd 1 [] 0 0] [] [(35, .val (.iface 135 (.pointer (some (er k))))), (36, .val (.iface 135 (.pointer (some (er (i.toNat + 1))))))] ?_
    refine Yc 27 #[.iface 135 (.pointer (some (er k))), .iface 135 (.pointer (some (er (i.toNat + 1))))] (some 37) fun w S hG => ?_
    refine (isAt (hG.at 0 rfl) ((hG.at 0 rfl).part _ (eO_mem er eb (k := k) (by omega) hk)) (by omega) (by omega)).mono ?_
    rintro e2 w2 hR
    refine ⟨_, _, _, hR, ?_⟩
    try simp only [aQ]
    refine JR_end ?_
    refine J_cond (t := decide (er k = er (i.toNat + 1))) (by kernel_rfl) (by kernel_rfl) (fun hb => ?_) (fun hb => ?_)
    · refine J_seq ?_
      refine Zp ([.rd 0 [] 0 0, .rd 1 [] 0 1] ++ Rds 2 5) [37] [(2, .val (.int .i64 (i + 1)))] (oC (show IntKind.i64.wrap (i + (1 : Int)) = i + (1 : Int) from wrap_i64 (by omega) (by omega)) oN) ?_
      refine Yr [[], []] (.tuple #[.int .i64 (i + 1), .int .i64 (-1)]) fun a w s => ?_
      have e : i + 1 = k := by
        have := hI k (i.toNat + 1) (by omega) hk (by omega) (by omega) (of_decide_eq_true hb)
        omega
      rw [e]
      exact s.ret (by simp) [] [] rfl rfl
    · refine J_skip ?_
      refine J_eb ?_
      refine Zp [.rd 0 [] 0 1, .rd 1 [] 0 0] [37] [(30, .val (.int .i64 (i + 1)))] (oC (show IntKind.i64.wrap (i + (1 : Int)) = i + (1 : Int) from wrap_i64 (by omega) (by omega)) oN) ?_
      refine J_backx (i + 1) [0, 2, 3, 28, 29, 30] [] [] [0, 1] ?_ ?_ (by kernel_rfl) rfl rfl rfl
      · refine ⟨by omega, ?_⟩
        rcases (by omega : i + 1 < k ∨ (i.toNat + 1 = k)) with h | h
        · exact h
        · rw [h] at hb
          simp at hb
      · omega

set_option maxHeartbeats 4000000 in
theorem codedErr {w : World} {S : Nat → Prop} {er : Nat → Addr} {eb : Nat → Array Value × TypeId} {k : Nat} {c : Int} {v : Value} (hC : Rep w S .nilIface (dC er eb)) (hI : Inj er) (hk : k ≤ 12) (hv : ErrIs 135 er k v) :
    Calls Tryd.prog 8 #[v, .int .i64 c] w fun e w' => Ret [] w S w' e (.bool (decide ((k : Int) = c))) [] [] := by
  refine ep8 (args := [v, .int .i64 c]) (G := [(_, dC er eb)]) (by kernel_rfl) (.cons hC (.nil _ _)) ?_
  refine J_seq ?_
  refine Za [.rd 0 [] 0 0] [] [(4, .val (.bool false))] ?_
  refine J_seq ?_
  refine jT [(0, true), (1, false), (2, true), (3, true), (4, true), (5, true), (6, true)] [] ?_
  refine Ya [.rd 0 [] 0 0] [0] [(8, .val (v))] ?_
  refine Yc 16 #[v] (some 9) fun w S hG => ?_
  refine (codeErr (er := er) (eb := eb) (k := k) (hG.at 0 rfl) hI hk hv).mono ?_
  rintro e1 w1 hR
  refine ⟨_, _, _, hR, ?_⟩
  try simp only [aQ]
  refine Ya (Rds 2 7) [9, 8] [(5, .val (.int .i64 (↑k : Int))), (6, .val (.int .i64 (-1)))] ?_
  refine JR_end ?_
  refine J_seq ?_
  refine Za (Rds 0 4 ++ [.rd 4 [] 2 0, .rd 5 [] 2 0, .rd 6 [] 0 3, .rd 7 [] 0 0]) [5, 6, 1] [(4, .val (.bool ((↑k : Int) == c && true)))] ?_
  refine Yr [[]] (.bool ((↑k : Int) == c && true)) fun a w s => ?_
  have e : decide ((k : Int) = c) = (decide ((k : Int) = c) && true) := by simp
  rw [e]
  exact s.ret (by simp) [] [] rfl rfl

set_option maxHeartbeats 4000000 in
theorem codeOther {w : World} {S : Nat → Prop} {er : Nat → Addr} {eb : Nat → Array Value × TypeId} {a : Addr} {ca : Array Value} {ta : TypeId} (hC : Rep w S .nilIface (dC er eb)) (ha : Rep w S (.pointer (some a)) (.obj (.cells ca ta (0, 0)))) (hne : ∀ j, 1 ≤ j → j ≤ 12 → a ≠ er j) :
    Calls Tryd.prog 16 #[.iface 135 (.pointer (some a))] w fun e w' => Ret [] w S w' e (.tuple #[.int .i64 (-1), .int .i64 (-1)]) [] [] := by
  refine ep16 (args := [.iface 135 (.pointer (some a))]) (G := [(_, dC er eb), (_, .obj (.cells ca ta (0, 0)))]) (by kernel_rfl) (.cons hC (.cons ha (.nil _ _))) ?_
  refine J_stp (stp_all 0 [0, 1, 2, 3, 4, 5, 6, 7, 8, 9, 10, 11] rfl rfl) ?_
  refine J_glob 2 rfl (fun csg1 tyg1 fzg1 hglob1 => ?_)
  refine J_glob 3 rfl (fun csg2 tyg2 fzg2 hglob2 => ?_)
  refine J_glob 4 rfl (fun csg3 tyg3 fzg3 hglob3 => ?_)
  refine J_glob 5 rfl (fun csg4 tyg4 fzg4 hglob4 => ?_)
  refine J_glob 6 rfl (fun csg5 tyg5 fzg5 hglob5 => ?_)
  refine J_glob 7 rfl (fun csg6 tyg6 fzg6 hglob6 => ?_)
  refine J_glob 8 rfl (fun csg7 tyg7 fzg7 hglob7 => ?_)
  refine J_glob 9 rfl (fun csg8 tyg8 fzg8 hglob8 => ?_)
  refine J_glob 10 rfl (fun csg9 tyg9 fzg9 hglob9 => ?_)
  refine J_glob 11 rfl (fun csg10 tyg10 fzg10 hglob10 => ?_)
  refine J_glob 12 rfl (fun csg11 tyg11 fzg11 hglob11 => ?_)
  refine J_glob 13 rfl (fun csg12 tyg12 fzg12 hglob12 => ?_)
  try simp only [aQ]
  refine J_seq ?_
  refine Za [.rd 0 [] 0 0, .rd 1 [] 0 0] [] [(2, .val (.int .i64 0)), (3, .val (.int .i64 0))] ?_
  refine J_seq ?_
  refine J_seq ?_
  refine Za [.rd 0 [] 0 0, .rd 1 [] 0 0] [] [(8, .val (.bool false))] ?_
  refine J_cond_f (by kernel_rfl) (by kernel_rfl) ?_
  refine J_skip ?_
  refine J_seq ?_
  refine Za [.rd 0 [] 0 0] [8] [(3, .val (.int .i64 (-1)))] ?_
  refine J_seq ?_
  refine Zm [.wr 0 [] 0] [] [] (fun nu1 => [(4, .val (.pointer (some (⟨nu1 0, 0, none⟩))))]) o0 (fun nu1 => [(nu1 0, .cells #[.pointer none] 57 (0, 0))]) (fun nu1 => ?_)
  refine J_seq ?_
  refine J_seq ?_
  refine jT [(0, true), (1, true), (2, false)] [] ?_
  refine Ya [.rd 0 [] 0 0, .rd 1 [] 0 0] [] [(9, .val (.iface 135 (.pointer (some a)))), (10, .val (.iface 59 (.pointer (some (⟨nu1 0, 0, none⟩)))))] ?_
  refine Yc 26 #[.iface 135 (.pointer (some a)), .iface 59 (.pointer (some (⟨nu1 0, 0, none⟩)))] (some 11) fun w S hG => ?_
  refine (asMiss (hG.at 0 rfl)).mono ?_
  rintro e1 w1 hR
  refine ⟨_, _, _, hR, ?_⟩
  try simp only [aQ]
  refine JR_end ?_
  refine J_cond_f (by kernel_rfl) (by kernel_rfl) ?_
  refine J_skip ?_
  refine J_seq ?_
  refine J_seq ?_
  refine Zn [.rd 0 [.r 0 (some (.iface 135 (.pointer (some (er 1)))))] 0 0, .rd 1 [.r 1 (some (.iface 135 (.pointer (some (er 2)))))] 0 0, .rd 2 [.r 2 (some (.iface 135 (.pointer (some (er 3)))))] 0 0, .rd 3 [.r 3 (some (.iface 135 (.pointer (some (er 4)))))] 0 0, .rd 4 [.r 4 (some (.iface 135 (.pointer (some (er 5)))))] 0 0, .rd 5 [.r 5 (some (.iface 135 (.pointer (some (er 6)))))] 0 0, .rd 6 [.r 6 (some (.iface 135 (.pointer (some (er 7)))))] 0 0, .rd 7 [.r 7 (some (.iface 135 (.pointer (some (er 8)))))] 0 0, .rd 8 [.r 8 (some (.iface 135 (.pointer (some (er 9)))))] 0 0, .rd 9 [.r 9 (some (.iface 135 (.pointer (some (er 10)))))] 0 0, .rd 10 [.r 10 (some (.iface 135 (.pointer (some (er 11)))))] 0 0, .rd 11 [.r 11 (some (.iface 135 (.pointer (some (er 12)))))] 0 0, .wr 12 [] 0, .rd 13 [] 0 0, .rd 14 [] 0 0] [] [11, 9, 10, 4] (fun nu2 => [(28, .val (.slice (some (⟨nu2 0, 0, none⟩)) 12 12)), (29, .val (.int .i64 12)), (30, .val (.int .i64 0))]) o0 (fun nu2 => [(nu2 0, .cells #[.iface 135 (.pointer (some (er 1))), .iface 135 (.pointer (some (er 2))), .iface 135 (.pointer (some (er 3))), .iface 135 (.pointer (some (er 4))), .iface 135 (.pointer (some (er 5))), .iface 135 (.pointer (some (er 6))), .iface 135 (.pointer (some (er 7))), .iface 135 (.pointer (some (er 8))), .iface 135 (.pointer (some (er 9))), .iface 135 (.pointer (some (er 10))), .iface 135 (.pointer (some (er 11))), .iface 135 (.pointer (some (er 12)))] 25 (0, 0))]) (fun nu2 => (oC hglob1 (oC hglob2 (oC hglob3 (oC hglob4 (oC hglob5 (oC hglob6 (oC hglob7 (oC hglob8 (oC hglob9 (oC hglob10 (oC hglob11 (oC hglob12 oN))))))))))))) (fun nu2 => ?_)
  refine J_block ?_
  refine J_data (size := 1) 1 (eEr er) [1, 2, 3, 4, 5, 6, 7, 8, 9, 10, 11, 12] 12 rfl (by decide) (by intro x _; rfl) (by simp) ⟨.inl ⟨rfl, rfl⟩, ⟨.inl ⟨rfl, rfl⟩, ⟨.inl ⟨rfl, rfl⟩, ⟨.inl ⟨rfl, rfl⟩, ⟨.inl ⟨rfl, rfl⟩, ⟨.inl ⟨rfl, rfl⟩, ⟨.inl ⟨rfl, rfl⟩, ⟨.inl ⟨rfl, rfl⟩, ⟨.inl ⟨rfl, rfl⟩, ⟨.inl ⟨rfl, rfl⟩, ⟨.inl ⟨rfl, rfl⟩, ⟨.inl ⟨rfl, rfl⟩, trivial⟩⟩⟩⟩⟩⟩⟩⟩⟩⟩⟩⟩ ?_
  refine J_loopx (fun i : Int => [(0, .val (.iface 135 (.pointer (some a)))), (2, .val (.int .i64 0)), (3, .val (.int .i64 (-1))), (28, .val (.slice (some (⟨nu2 0, 0, none⟩)) 12 12)), (29, .val (.int .i64 12)), (30, .val (.int .i64 i))]) (fun i : Int => []) (fun i : Int => []) (fun i : Int => [(.nilIface, (dC er eb)), (.pointer (some a), (D.obj (Obj.cells ca ta))), (.slice (some (⟨nu2 0, 0, none⟩)) ((List.map (eEr er) [1, 2, 3, 4, 5, 6, 7, 8, 9, 10, 11, 12]).length) 12, (D.sl 1 (List.map (eEr er) [1, 2, 3, 4, 5, 6, 7, 8, 9, 10, 11, 12])))]) (fun i : Int => (12 - i).toNat) (fun i : Int => (0 ≤ i ∧ i ≤ 12)) 0 [0, 2, 3, 28, 29, 30] [] [] [0, 1, 14] ?_ (by kernel_rfl) rfl rfl rfl ?_
  · exact ⟨by omega, by omega⟩
  rintro i ⟨hi0, hi⟩
  refine J_seq ?_
  refine Za [.rd 0 [] 0 0] [] [(31, .val (.bool (decide (i < 12))))] ?_
  refine J_seq ?_
  refine J_cond (t := decide (i < 12)) (by kernel_rfl) (by kernel_rfl) (fun hlt => ?_) (fun hlt => ?_)
  · have hlt2 : i < 12 := by simpa using hlt
    have hx := row12 hi0 (by omega)
    refine J_read0 2 rfl i.toNat (map_at hx) (by kernel_rfl) (fun b1 off1 cs1 ty1 fz1 ha1 hrd1 => ?_)
    cases ha1
    have hrd1_0 := rd0 (hrd1 0 _ rfl)
    try simp only [aQ]
    refine J_skip ?_
    refine J_seq ?_
    refine J_block ?_
    refine J_seq ?_
    refine Zp [.rd 0 [] 0 0, .rd 1 [] 0 2, .rd 2 [.r 12 (some (.iface 135 (.pointer (some (er (i.toNat + 1))))))] 0 0, .rd 3 [] 0 0, .rd 4 [] 0 0] [31] [(5, .val (.int .i64 i)), (6, .val (.iface 135 (.pointer (some (er (i.toNat + 1))))))] (oC hi0 (oC (show i < (↑(12 : Nat) : Int) from by omega) (oC hrd1_0 oN))) ?_
    refine J_seq ?_
    refine jT [(0, true), (1, true), (2, false)] [] ?_
    refine Ya [.rd 0 [] 0 0, .rd 1 [] 0 0] [] [(35, .val (.iface 135 (.pointer (some a)))), (36, .val (.iface 135 (.pointer (some (er (i.toNat + 1))))))] ?_
    refine Yc 27 #[.iface 135 (.pointer (some a)), .iface 135 (.pointer (some (er (i.toNat + 1))))] (some 37) fun w S hG => ?_
    refine (isAt (hG.at 0 rfl) (hG.at 1 rfl) (by omega) (by omega)).mono ?_
    rintro e2 w2 hR
    rw [decide_eq_false (hne _ (by omega) (by omega))] at hR
    refine ⟨_, _, _, hR, ?_⟩
    try simp only [aQ]
    refine JR_end ?_
    refine J_cond_f (by kernel_rfl) (by kernel_rfl) ?_
    refine J_skip ?_
    refine J_eb ?_
    refine Zp [.rd 0 [] 0 1, .rd 1 [] 0 0] [37] [(30, .val (.int .i64 (i + 1)))] (oC (show IntKind.i64.wrap (i + (1 : Int)) = i + (1 : Int) from wrap_i64 (by omega) (by omega)) oN) ?_
    refine J_backx (i + 1) [0, 2, 3, 28, 29, 30] [] [] [0, 1, 2] ?_ ?_ (by kernel_rfl) rfl rfl rfl
    · exact ⟨by omega, by omega⟩
    · omega
  · refine J_exit rfl ?_
    refine J_seq ?_
    refine Za (Rds 0 3) [31, 0, 28, 29, 30] [(2, .val (.int .i64 (-1)))] ?_
    refine Yr [[], []] (.tuple #[.int .i64 (-1), .int .i64 (-1)]) fun a w s => ?_
    exact s.ret (by simp) [] [] rfl rfl
end Go.Proofs.YtahbmdchcbnolaaDoor
