/- Part 6 of the texts of a claim: Code OpErr2 Fault ComErr2 Val CmpD ListF SortK Kind OfR Live Tx18 Worth Light Tx19. -/
import Derived.Shelf.SlSortCmp.InsertionK
import Derived.Test.YtehdegekgdlifaaDoorTa5
section
namespace Go.Proofs.YtehdegekgdlifaaDoor
open Go Go.Sx
abbrev eO (er : Nat → Addr) (eb : Nat → Array Value × TypeId) (k : Nat) : Value × D := (.pointer (some (er k)), .obj (.cells (eb k).1 (eb k).2 (0, 0)))
def cglobs (er : Nat → Addr) (eb : Nat → Array Value × TypeId) : List (Value × D) := [dE 156 er 2 1, dE 156 er 1 2, dE 156 er 3 3, dE 156 er 0 4, dE 156 er 4 5, dE 156 er 5 6, dE 156 er 6 7, dE 156 er 7 8, dE 156 er 8 9, dE 156 er 9 10, dE 156 er 10 11, dE 156 er 11 12, (.pointer (some ⟨12, 0, none⟩), .ptr [.v (.iface 139 (.agg #[.pointer (some ⟨13, 24, none⟩)]))]), eO er eb 1, eO er eb 2, eO er eb 3, eO er eb 4, eO er eb 5, eO er eb 6, eO er eb 7, eO er eb 8, eO er eb 9, eO er eb 10, eO er eb 11, eO er eb 12]
abbrev dC (er : Nat → Addr) (eb : Nat → Array Value × TypeId) : D := .all (cglobs er eb)
def Inj (er : Nat → Addr) : Prop := ∀ i j, 1 ≤ i → i ≤ 12 → 1 ≤ j → j ≤ 12 → er i = er j → i = j
theorem eO_mem (er : Nat → Addr) (eb : Nat → Array Value × TypeId) {k : Nat} (h1 : 1 ≤ k) (h2 : k ≤ 12) : eO er eb k ∈ cglobs er eb := by
  rcases (by omega : k = 1 ∨ k = 2 ∨ k = 3 ∨ k = 4 ∨ k = 5 ∨ k = 6 ∨ k = 7 ∨ k = 8 ∨ k = 9 ∨ k = 10 ∨ k = 11 ∨ k = 12) with rfl | rfl | rfl | rfl | rfl | rfl | rfl | rfl | rfl | rfl | rfl | rfl <;> simp [cglobs, eO]
set_option maxHeartbeats 4000000 in
theorem globs_of {w : World} {S : Nat → Prop} {er : Nat → Addr} {eb : Nat → Array Value × TypeId} (h : Rep w S .nilIface (dC er eb)) : AllG w S (globs er) :=
  .cons (.v rfl) (.cons (h.part _ (List.mem_of_getElem? (i := 1) rfl)) (.cons (h.part _ (List.mem_of_getElem? (i := 2) rfl)) (.nil _ _)))
set_option maxHeartbeats 4000000 in
theorem blk_of {w : World} {S : Nat → Prop} {a : Addr} {o : Obj} (h : Rep w S (.pointer (some a)) (.obj o)) : w.heap[a.block]? = some o := by
  cases h with
  | obj hb => exact hb
set_option maxHeartbeats 4000000 in
theorem var_of {w : World} {S : Nat → Prop} {g : Nat} {v : Value} (h : Rep w S (.pointer (some ⟨g, 0, none⟩)) (.ptr [.v v])) : w.cell? ⟨g, 0, none⟩ = some v := by
  cases h with
  | ptr u hb hS hcell hrep =>
    have h1 := (hrep 0 _ rfl).plain
    have h2 := hcell 0 (by simp)
    rw [h1] at h2
    simpa [World.cell?, hb] using h2
set_option maxHeartbeats 4000000 in
theorem isAt {w : World} {S : Nat → Prop} {a : Addr} {ca : Array Value} {ta : TypeId} {er : Nat → Addr} {eb : Nat → Array Value × TypeId} {j : Nat} (hC : Rep w S .nilIface (dC er eb)) (ha : Rep w S (.pointer (some a)) (.obj (.cells ca ta (0, 0)))) (h1 : 1 ≤ j) (h2 : j ≤ 12) :
    Calls Tryd.prog 29 #[.iface 156 (.pointer (some a)), .iface 156 (.pointer (some (er j)))] w fun e w' => Ret [] w S w' e (.bool (decide (a = er j))) [] [] := by
  by_cases h : a = er j
  · subst h
    rw [decide_eq_true rfl]
    exact (Er.is_same _ w).mono fun e w' h => ret_same h.1 h.2
  · rw [decide_eq_false h]
    exact (Er.is_other a (er j) ca (eb j).1 ta (eb j).2 w h (blk_of ha) (blk_of (hC.part _ (eO_mem er eb h1 h2)))).mono fun e w' h => ret_same h.1 h.2
set_option maxHeartbeats 4000000 in
theorem asMiss {w : World} {S : Nat → Prop} {a t : Addr} {er : Nat → Addr} {eb : Nat → Array Value × TypeId} (hC : Rep w S .nilIface (dC er eb)) :
    Calls Tryd.prog 28 #[.iface 156 (.pointer (some a)), .iface 81 (.pointer (some t))] w fun e w' => Ret [] w S w' e (.bool false) [] [] :=
  (Er.as_miss a t w (var_of (hC.part _ (List.mem_of_getElem? (i := 12) rfl)))).mono fun e w' h => ret_below h.1 (by
    rw [h.2]
    exact (((RowKit.Below.refl _ w).alloc (Nat.le_refl _) _).alloc (by simp) _).alloc (by simp; omega) _) (by rw [h.2]; exact Nat.le_refl _)
abbrev eEr (er : Nat → Addr) (k : Nat) : List D := [.v (.iface 156 (.pointer (some (er k))))]
theorem row12 {i : Int} (h0 : 0 ≤ i) (h1 : i < 12) : ([1, 2, 3, 4, 5, 6, 7, 8, 9, 10, 11, 12] : List Nat)[i.toNat]? = some (i.toNat + 1) := by
  obtain ⟨n, rfl⟩ : ∃ n : Nat, i = n := ⟨i.toNat, by omega⟩
  rcases (by omega : n = 0 ∨ n = 1 ∨ n = 2 ∨ n = 3 ∨ n = 4 ∨ n = 5 ∨ n = 6 ∨ n = 7 ∨ n = 8 ∨ n = 9 ∨ n = 10 ∨ n = 11) with rfl | rfl | rfl | rfl | rfl | rfl | rfl | rfl | rfl | rfl | rfl | rfl <;> rfl
set_option maxHeartbeats 4000000 in
theorem codeErr {w : World} {S : Nat → Prop} {er : Nat → Addr} {eb : Nat → Array Value × TypeId} {k : Nat} {v : Value} (hC : Rep w S .nilIface (dC er eb)) (hI : Inj er) (hk : k ≤ 12) (hv : ErrIs 156 er k v) :
    Calls Tryd.prog 15 #[v] w fun e w' => Ret [] w S w' e (.tuple #[.int .i64 k, .int .i64 (-1)]) [] [] := by
  rcases hv with ⟨rfl, rfl⟩ | ⟨h0, rfl⟩
  · refine ep15 (args := [.nilIface]) (S := S) (G := []) (by kernel_rfl) (.nil _ _) ?_
    refine J_seq ?_
    refine Za [.rd 0 [] 0 0, .rd 1 [] 0 0] [] [(2, .val (.int .i64 0)), (3, .val (.int .i64 0))] ?_
    refine J_seq ?_
    refine J_seq ?_
    refine Za [.rd 0 [] 0 0, .rd 1 [] 0 0] [] [(8, .val (.bool true))] ?_
    refine J_cond_t (by kernel_rfl) (by kernel_rfl) ?_
    refine J_seq ?_
    refine Za [.rd 0 [] 0 0, .rd 1 [] 0 0] [8] [(3, .val (.int .i64 (-1)))] ?_
    refine Yr [[], []] (.tuple #[.int .i64 0, .int .i64 (-1)]) fun a w s => ?_
    exact s.ret (by simp) [] [] rfl rfl
  · refine ep15 (args := [.iface 156 (.pointer (some (er k)))]) (G := [(_, dC er eb)]) (by kernel_rfl) (.cons hC (.nil _ _)) ?_
    refine J_stp (stp_all 0 [0, 1, 2, 3, 4, 5, 6, 7, 8, 9, 10, 11] rfl rfl) ?_
    refine J_glob 1 rfl (fun csg1 tyg1 fzg1 hglob1 => ?_)
    refine J_glob 2 rfl (fun csg2 tyg2 fzg2 hglob2 => ?_)
    refine J_glob 3 rfl (fun csg3 tyg3 fzg3 hglob3 => ?_)
    refine J_glob 4 rfl (fun csg4 tyg4 fzg4 hglob4 => ?_)
    refine J_glob 5 rfl (fun csg5 tyg5 fzg5 hglob5 => ?_)
    refine J_glob 6 rfl (fun csg6 tyg6 fzg6 hglob6 => ?_)
    refine J_glob 7 rfl (fun csg7 tyg7 fzg7 hglob7 => ?_)
    refine J_glob 8 rfl (fun csg8 tyg8 fzg8 hglob8 => ?_)
    refine J_glob 9 rfl (fun csg9 tyg9 fzg9 hglob9 => ?_)
    refine J_glob 10 rfl (fun csg10 tyg10 fzg10 hglob10 => ?_)
    refine J_glob 11 rfl (fun csg11 tyg11 fzg11 hglob11 => ?_)
    refine J_glob 12 rfl (fun csg12 tyg12 fzg12 hglob12 => ?_)
    try simp only [aQ]
    refine J_seq ?_
    refine Za [.rd 0 [] 0 0, .rd 1 [] 0 0] [] [(2, .val (.int .i64 0)), (3, .val (.int .i64 0))] ?_
    refine J_seq ?_
    refine J_seq ?_
    refine Za [.rd 0 [] 0 0, .rd 1 [] 0 0] [] [(8, .val (.bool false))] ?_
    refine J_cond_f (by kernel_rfl) (by kernel_rfl) ?_
    refine J_skip ?_
    refine J_seq ?_
    refine Za [.rd 0 [] 0 0] [8] [(3, .val (.int .i64 (-1)))] ?_
    refine J_seq ?_
    refine Zm [.wr 0 [] 0] [] [] (fun nu1 => [(4, .val (.pointer (some (⟨nu1 0, 0, none⟩))))]) (fun nu1 => [(nu1 0, .cells #[.pointer none] 79 (0, 0))]) (fun nu1 => ?_)
    refine J_seq ?_
    refine J_seq ?_
    refine jT [(0, true), (1, true), (2, false)] [] ?_
    refine Ya (id := 5) (rest := [(2, false)]) [.rd 0 [] 0 0, .rd 1 [] 0 0] [] [(9, .val (.iface 156 (.pointer (some (er k))))), (10, .val (.iface 81 (.pointer (some (⟨nu1 0, 0, none⟩)))))] ?_
    refine Yc 28 #[.iface 156 (.pointer (some (er k))), .iface 81 (.pointer (some (⟨nu1 0, 0, none⟩)))] (some 11) fun w S hG => ?_
    refine (asMiss (hG.at 0 rfl)).mono ?_
    rintro e1 w1 hR
    refine ⟨_, _, _, hR, ?_⟩
    try simp only [aQ]
    refine JR_end ?_
    refine J_cond_f (by kernel_rfl) (by kernel_rfl) ?_
    refine J_skip ?_
    refine J_seq ?_
    refine J_seq ?_
    refine Zn [.rd 0 [.r 0 (some (.iface 156 (.pointer (some (er 1)))))] 0 0, .rd 1 [.r 1 (some (.iface 156 (.pointer (some (er 2)))))] 0 0, .rd 2 [.r 2 (some (.iface 156 (.pointer (some (er 3)))))] 0 0, .rd 3 [.r 3 (some (.iface 156 (.pointer (some (er 4)))))] 0 0, .rd 4 [.r 4 (some (.iface 156 (.pointer (some (er 5)))))] 0 0, .rd 5 [.r 5 (some (.iface 156 (.pointer (some (er 6)))))] 0 0, .rd 6 [.r 6 (some (.iface 156 (.pointer (some (er 7)))))] 0 0, .rd 7 [.r 7 (some (.iface 156 (.pointer (some (er 8)))))] 0 0, .rd 8 [.r 8 (some (.iface 156 (.pointer (some (er 9)))))] 0 0, .rd 9 [.r 9 (some (.iface 156 (.pointer (some (er 10)))))] 0 0, .rd 10 [.r 10 (some (.iface 156 (.pointer (some (er 11)))))] 0 0, .rd 11 [.r 11 (some (.iface 156 (.pointer (some (er 12)))))] 0 0, .wr 12 [] 0, .rd 13 [] 0 0, .rd 14 [] 0 0] [] [11, 9, 10, 4] (fun nu2 => [(28, .val (.slice (some (⟨nu2 0, 0, none⟩)) 12 12)), (29, .val (.int .i64 12)), (30, .val (.int .i64 0))]) (fun nu2 => [(nu1 0, .cells #[.pointer none] 79 (0, 0)), (nu2 0, .cells #[.iface 156 (.pointer (some (er 1))), .iface 156 (.pointer (some (er 2))), .iface 156 (.pointer (some (er 3))), .iface 156 (.pointer (some (er 4))), .iface 156 (.pointer (some (er 5))), .iface 156 (.pointer (some (er 6))), .iface 156 (.pointer (some (er 7))), .iface 156 (.pointer (some (er 8))), .iface 156 (.pointer (some (er 9))), .iface 156 (.pointer (some (er 10))), .iface 156 (.pointer (some (er 11))), .iface 156 (.pointer (some (er 12)))] 24 (0, 0))]) (fun nu2 => [csg1[(0 : Nat)]? = some (Value.iface (156 : Nat) (Value.pointer (some (er (1 : Nat))))), csg2[(0 : Nat)]? = some (Value.iface (156 : Nat) (Value.pointer (some (er (2 : Nat))))), csg3[(0 : Nat)]? = some (Value.iface (156 : Nat) (Value.pointer (some (er (3 : Nat))))), csg4[(0 : Nat)]? = some (Value.iface (156 : Nat) (Value.pointer (some (er (4 : Nat))))), csg5[(0 : Nat)]? = some (Value.iface (156 : Nat) (Value.pointer (some (er (5 : Nat))))), csg6[(0 : Nat)]? = some (Value.iface (156 : Nat) (Value.pointer (some (er (6 : Nat))))), csg7[(0 : Nat)]? = some (Value.iface (156 : Nat) (Value.pointer (some (er (7 : Nat))))), csg8[(0 : Nat)]? = some (Value.iface (156 : Nat) (Value.pointer (some (er (8 : Nat))))), csg9[(0 : Nat)]? = some (Value.iface (156 : Nat) (Value.pointer (some (er (9 : Nat))))), csg10[(0 : Nat)]? = some (Value.iface (156 : Nat) (Value.pointer (some (er (10 : Nat))))), csg11[(0 : Nat)]? = some (Value.iface (156 : Nat) (Value.pointer (some (er (11 : Nat))))), csg12[(0 : Nat)]? = some (Value.iface (156 : Nat) (Value.pointer (some (er (12 : Nat)))))]) (fun _ => ⟨hglob1, hglob2, hglob3, hglob4, hglob5, hglob6, hglob7, hglob8, hglob9, hglob10, hglob11, hglob12, trivial⟩) (fun nu2 => ?_)
    refine J_block ?_
    refine J_data (size := 1) 1 (eEr er) [1, 2, 3, 4, 5, 6, 7, 8, 9, 10, 11, 12] 12 rfl (by decide) (by intro x _; rfl) (by simp) ⟨.inl ⟨rfl, rfl⟩, ⟨.inl ⟨rfl, rfl⟩, ⟨.inl ⟨rfl, rfl⟩, ⟨.inl ⟨rfl, rfl⟩, ⟨.inl ⟨rfl, rfl⟩, ⟨.inl ⟨rfl, rfl⟩, ⟨.inl ⟨rfl, rfl⟩, ⟨.inl ⟨rfl, rfl⟩, ⟨.inl ⟨rfl, rfl⟩, ⟨.inl ⟨rfl, rfl⟩, ⟨.inl ⟨rfl, rfl⟩, ⟨.inl ⟨rfl, rfl⟩, trivial⟩⟩⟩⟩⟩⟩⟩⟩⟩⟩⟩⟩ ?_
    refine J_loopx (fun i : Int => [(0, .val (.iface 156 (.pointer (some (er k))))), (2, .val (.int .i64 0)), (3, .val (.int .i64 (-1))), (28, .val (.slice (some (⟨nu2 0, 0, none⟩)) 12 12)), (29, .val (.int .i64 12)), (30, .val (.int .i64 i))]) (fun i : Int => []) (fun i : Int => []) (fun i : Int => [(.nilIface, (dC er eb)), (.slice (some (⟨nu2 0, 0, none⟩)) ((List.map (eEr er) [1, 2, 3, 4, 5, 6, 7, 8, 9, 10, 11, 12]).length) 12, (D.sl 1 (List.map (eEr er) [1, 2, 3, 4, 5, 6, 7, 8, 9, 10, 11, 12])))]) (fun i : Int => (12 - i).toNat) (fun i : Int => (0 ≤ i ∧ i < k)) 0 [0, 2, 3, 28, 29, 30] [] [] [0, 13] ?_ (by kernel_rfl) rfl rfl rfl ?_
    · exact ⟨by omega, by omega⟩
    rintro i ⟨hi0, hi⟩
    have hx := row12 hi0 (by omega)
    refine J_read0 1 rfl i.toNat (map_at hx) (by kernel_rfl) (fun b1 off1 cs1 ty1 fz1 ha1 hrd1 => ?_)
    cases ha1
    have hrd1_0 := rd0 (hrd1 0 _ rfl)
    try simp only [aQ]
    refine J_seq ?_
    refine Za [.rd 0 [] 0 0] [] [(31, .val (.bool (decide (i < 12))))] ?_
    refine J_seq ?_
    refine J_condT (decide (i < 12)) (by kernel_rfl) (by kernel_rfl) (by simp; omega) ?_
    refine J_skip ?_
    refine J_seq ?_
    refine J_block ?_
    refine J_seq ?_
    refine Zp [.rd 0 [] 0 0, .rd 1 [] 0 2, .rd 2 [.r 12 (some (.iface 156 (.pointer (some (er (i.toNat + 1))))))] 0 0, .rd 3 [] 0 0, .rd 4 [] 0 0] [31] [(5, .val (.int .i64 i)), (6, .val (.iface 156 (.pointer (some (er (i.toNat + 1))))))] [(0 : Int) ≤ i, i < (↑(12 : Nat) : Int), cs1[(0 : Nat) + i.toNat * (1 : Nat)]? = some (Value.iface (156 : TypeId) (Value.pointer (some (er (i.toNat + (1 : Nat))))))] ⟨hi0, by omega, hrd1_0, trivial⟩ ?_
    refine J_seq ?_
    refine jT [(0, true), (1, true), (2, false)] [] ?_
    refine Ya (id := 10) (rest := [(2, false)]) [.rd 0 [] 0 0, .rd 1 [] 0 0] [] [(35, .val (.iface 156 (.pointer (some (er k))))), (36, .val (.iface 156 (.pointer (some (er (i.toNat + 1))))))] ?_
    refine Yc 29 #[.iface 156 (.pointer (some (er k))), .iface 156 (.pointer (some (er (i.toNat + 1))))] (some 37) fun w S hG => ?_
    refine (isAt (hG.at 0 rfl) ((hG.at 0 rfl).part _ (eO_mem er eb (k := k) (by omega) hk)) (by omega) (by omega)).mono ?_
    rintro e2 w2 hR
    refine ⟨_, _, _, hR, ?_⟩
    try simp only [aQ]
    refine JR_end ?_
    refine J_cond (t := decide (er k = er (i.toNat + 1))) (by kernel_rfl) (by kernel_rfl) (fun hb => ?_) (fun hb => ?_)
    · refine J_seq ?_
      refine Zp ([.rd 0 [] 0 0, .rd 1 [] 0 1] ++ Rds 2 5) [37] [(2, .val (.int .i64 (i + 1)))] [IntKind.i64.wrap (i + (1 : Int)) = i + (1 : Int)] ⟨wrap_i64 (by omega) (by omega), trivial⟩ ?_
      refine Yr [[], []] (.tuple #[.int .i64 (i + 1), .int .i64 (-1)]) fun a w s => ?_
      have e : i + 1 = k := by
        have := hI k (i.toNat + 1) (by omega) hk (by omega) (by omega) (of_decide_eq_true hb)
        omega
      rw [e]
      exact s.ret (by simp) [] [] rfl rfl
    · refine J_skip ?_
      refine J_eb ?_
      refine Zp [.rd 0 [] 0 1, .rd 1 [] 0 0] [37] [(30, .val (.int .i64 (i + 1)))] [IntKind.i64.wrap (i + (1 : Int)) = i + (1 : Int)] ⟨wrap_i64 (by omega) (by omega), trivial⟩ ?_
      refine J_backx (i + 1) [0, 2, 3, 28, 29, 30] [] [] [0, 1] ?_ ?_ (by kernel_rfl) rfl rfl rfl
      · refine ⟨by omega, ?_⟩
        rcases (by omega : i + 1 < k ∨ (i.toNat + 1 = k)) with h | h
        · exact h
        · rw [h] at hb
          simp at hb
      · omega
set_option maxHeartbeats 4000000 in
theorem codedErr {w : World} {S : Nat → Prop} {er : Nat → Addr} {eb : Nat → Array Value × TypeId} {k : Nat} {c : Int} {v : Value} (hC : Rep w S .nilIface (dC er eb)) (hI : Inj er) (hk : k ≤ 12) (hv : ErrIs 156 er k v) :
    Calls Tryd.prog 7 #[v, .int .i64 c] w fun e w' => Ret [] w S w' e (.bool (decide ((k : Int) = c))) [] [] := by
  refine ep7 (args := [v, .int .i64 c]) (G := [(_, dC er eb)]) (by kernel_rfl) (.cons hC (.nil _ _)) ?_
  refine J_seq ?_
  refine Za [.rd 0 [] 0 0] [] [(4, .val (.bool false))] ?_
  refine J_seq ?_
  refine jT [(0, true), (1, false), (2, true), (3, true), (4, true), (5, true), (6, true)] [] ?_
  refine Ya (id := 1) (rest := [(1, false), (2, true), (3, true), (4, true), (5, true), (6, true)]) [.rd 0 [] 0 0] [0] [(8, .val (v))] ?_
  refine Yc 15 #[v] (some 9) fun w S hG => ?_
  refine (codeErr (er := er) (eb := eb) (k := k) (hG.at 0 rfl) hI hk hv).mono ?_
  rintro e1 w1 hR
  refine ⟨_, _, _, hR, ?_⟩
  try simp only [aQ]
  refine Ya (id := 1) (rest := []) (Rds 2 7) [9, 8] [(5, .val (.int .i64 (↑k : Int))), (6, .val (.int .i64 (-1)))] ?_
  refine JR_end ?_
  refine J_seq ?_
  refine Za (Rds 0 4 ++ [.rd 4 [] 2 0, .rd 5 [] 2 0, .rd 6 [] 0 3, .rd 7 [] 0 0]) [5, 6, 1] [(4, .val (.bool ((↑k : Int) == c && true)))] ?_
  refine Yr [[]] (.bool ((↑k : Int) == c && true)) fun a w s => ?_
  have e : decide ((k : Int) = c) = (decide ((k : Int) = c) && true) := by simp
  rw [e]
  exact s.ret (by simp) [] [] rfl rfl
end Go.Proofs.YtehdegekgdlifaaDoor
end
section
namespace Go.Proofs.YtehdegekgdlifaaDoor
open Go Go.Sx
def dotOk (places : Int) (d : DotT) : Bool := ((((decide (d.place ≥ 0) && decide (d.place < places)) && decide (d.time ≥ 1)) && decide (d.time ≤ 1099511627776)) && decide (d.no ≥ 0)) && decide (d.no < 12)
def shapeOk (o : OpT) : Bool :=
  if o.kind = 1 then o.n == 0 && !o.remove && (o.dots.length : Int) == 0
  else if o.kind = 2 then o.text.toList == (ByteArray.mk #[]).toList && !o.remove && (o.dots.length : Int) == 0
  else o.n == 0 && (o.remove || (o.dots.length : Int) == 0)
def badDots (places : Int) (l : List DotT) : Bool := l.any fun d => !dotOk places d
def opErr (o : OpT) (places : Int) : Nat :=
  if places < 1 ∨ 6 < places ∨ o.no < 0 ∨ 12 ≤ o.no then 2
  else if nameOk o.key = false then 4
  else if o.kind ≠ 1 ∧ o.kind ≠ 2 ∧ o.kind ≠ 3 then 12
  else if shapeOk o = false then 3
  else if 60 < o.text.size ∨ o.n < -1099511627776 ∨ 1099511627776 < o.n ∨ 60 < o.dots.length then 2
  else if badDots places o.dots = true then 2
  else 0
abbrev dotA (d : DotT) : Value := .agg #[.int .i64 d.place, .int .i64 d.time, .int .i64 d.no]
abbrev opA (o : OpT) (v : Value) : Value := .agg #[.int .i64 o.no, .string o.key, .int .i64 o.kind, .string o.text, .int .i64 o.n, .bool o.remove, v]
set_option maxHeartbeats 4000000 in
theorem vDot {w : World} {S : Nat → Prop} {d : DotT} {places : Int} : Calls Tryd.prog 59 #[dotA d, .int .i64 places] w fun e w' => Ret [] w S w' e (.bool (dotOk places d)) [] [] := by
  refine ep59 (args := [dotA d, .int .i64 places]) (G := []) (by kernel_rfl) (AllG.nil w S) ?_
  refine J_seq ?_
  refine Zm [.wr 0 [] 0, .rd 1 [] 0 0] [] [0] (fun nu1 => [(2, .val (.pointer (some (⟨nu1 0, 0, none⟩)))), (4, .val (.bool false))]) (fun nu1 => [(nu1 0, .cells #[.int .i64 d.place, .int .i64 d.time, .int .i64 d.no] 106 (0, 0))]) (fun nu1 => ?_)
  refine J_seq ?_
  refine Za [.rd 0 [] 0 0, .rd 1 [.o 0 none] 0 0, .rd 2 [] 0 0, .rd 3 [] 0 0, .rd 4 [] 2 0, .rd 5 [.o 0 none] 2 0, .rd 6 [] 2 0, .rd 7 [] 2 0, .rd 8 [] 0 3, .rd 9 [] 0 0, .rd 10 [] 2 0, .rd 11 [.o 0 none] 2 0, .rd 12 [] 2 0, .rd 13 [] 0 3, .rd 14 [] 0 0, .rd 15 [] 2 0, .rd 16 [.o 0 none] 2 0, .rd 17 [] 2 0, .rd 18 [] 0 3, .rd 19 [] 0 0, .rd 20 [] 2 0, .rd 21 [.o 0 none] 2 0, .rd 22 [] 2 0, .rd 23 [] 0 3, .rd 24 [] 0 0, .rd 25 [] 2 0, .rd 26 [.o 0 none] 2 0, .rd 27 [] 2 0, .rd 28 [] 0 3, .rd 29 [] 0 0] [2, 1] [(4, .val (.bool (decide (d.place ≥ 0) && decide (d.place < places) && decide (d.time ≥ 1) && decide (d.time ≤ 1099511627776) && decide (d.no ≥ 0) && decide (d.no < 12))))] ?_
  refine Yr [[]] (.bool (decide (d.place ≥ 0) && decide (d.place < places) && decide (d.time ≥ 1) && decide (d.time ≤ 1099511627776) && decide (d.no ≥ 0) && decide (d.no < 12))) fun a w s => ?_
  exact s.ret (by simp) [] [] rfl rfl
set_option maxHeartbeats 4000000 in
theorem vShape {w : World} {S : Nat → Prop} {o : OpT} {a : Option Addr} {n c : Nat} (h : Rep w S (.slice a n c) (.sl 3 (o.dots.map eDot))) : Calls Tryd.prog 56 #[opA o (.slice a n c)] w fun e w' => Ret [] w S w' e (.bool (shapeOk o)) [] [] := by
  have e1 := h.slen
  rw [List.length_map] at e1
  subst e1
  refine ep56 (args := [opA o (.slice a o.dots.length c)]) (G := []) (by kernel_rfl) (AllG.nil w S) ?_
  by_cases h1 : o.kind = 1
  · refine J_seq ?_
    refine Zm [.wr 0 [] 0, .rd 1 [] 0 0] [] [0] (fun nu1 => [(1, .val (.pointer (some (⟨nu1 0, 0, none⟩)))), (2, .val (.bool false))]) (fun nu1 => [(nu1 0, .cells #[.int .i64 o.no, .string o.key, .int .i64 o.kind, .string o.text, .int .i64 o.n, .bool o.remove, .slice a o.dots.length c] 43 (0, 0))]) (fun nu1 => ?_)
    refine J_seq ?_
    refine J_seq ?_
    refine Za [.rd 0 [] 0 0, .rd 1 [.o 0 none] 0 0] [] [(4, .val (.int .i64 o.kind))] ?_
    refine J_block ?_
    refine J_seq ?_
    refine Zp [.rd 0 [] 0 6, .rd 1 [] 0 0] [] [(5, .val (.bool true))] [(o.kind == (1 : Int)) = true] ⟨by simp; omega, trivial⟩ ?_
    refine J_cond_t (by kernel_rfl) (by kernel_rfl) ?_
    refine J_seq ?_
    refine Za [.rd 0 [] 0 0, .rd 1 [.o 0 none] 0 0, .rd 2 [] 0 0, .rd 3 [] 0 0, .rd 4 [] 2 0, .rd 5 [.o 0 none] 2 0, .rd 6 [] 2 0, .rd 7 [] 0 3, .rd 8 [] 0 0, .rd 9 [] 2 0, .rd 10 [.o 0 none] 2 0, .rd 11 [] 2 0, .rd 12 [] 2 0, .rd 13 [] 0 3, .rd 14 [] 0 0] [5, 4] [(2, .val (.bool (o.n == 0 && !o.remove && (↑o.dots.length : Int) == 0)))] ?_
    refine Yr [[]] (.bool (o.n == 0 && !o.remove && (↑o.dots.length : Int) == 0)) fun a w s => ?_
    rw [shapeOk, if_pos h1]
    exact s.ret (by simp) [] [] rfl rfl
  · by_cases h2 : o.kind = 2
    · refine J_seq ?_
      refine Zm [.wr 0 [] 0, .rd 1 [] 0 0] [] [0] (fun nu1 => [(1, .val (.pointer (some (⟨nu1 0, 0, none⟩)))), (2, .val (.bool false))]) (fun nu1 => [(nu1 0, .cells #[.int .i64 o.no, .string o.key, .int .i64 o.kind, .string o.text, .int .i64 o.n, .bool o.remove, .slice a o.dots.length c] 43 (0, 0))]) (fun nu1 => ?_)
      refine J_seq ?_
      refine J_seq ?_
      refine Za [.rd 0 [] 0 0, .rd 1 [.o 0 none] 0 0] [] [(4, .val (.int .i64 o.kind))] ?_
      refine J_block ?_
      refine J_seq ?_
      refine Zp [.rd 0 [] 0 7, .rd 1 [] 0 0] [] [(5, .val (.bool false))] [(o.kind == (1 : Int)) = false] ⟨by simp; omega, trivial⟩ ?_
      refine J_cond_f (by kernel_rfl) (by kernel_rfl) ?_
      refine J_seq ?_
      refine Zp [.rd 0 [] 0 6, .rd 1 [] 0 0] [5, 4] [(21, .val (.bool true))] [(o.kind == (2 : Int)) = true] ⟨by simp; omega, trivial⟩ ?_
      refine J_cond_t (by kernel_rfl) (by kernel_rfl) ?_
      refine J_seq ?_
      refine Za [.rd 0 [] 0 0, .rd 1 [.o 0 none] 0 0, .rd 2 [] 0 0, .rd 3 [] 0 0, .rd 4 [] 2 0, .rd 5 [.o 0 none] 2 0, .rd 6 [] 2 0, .rd 7 [] 0 3, .rd 8 [] 0 0, .rd 9 [] 2 0, .rd 10 [.o 0 none] 2 0, .rd 11 [] 2 0, .rd 12 [] 2 0, .rd 13 [] 0 3, .rd 14 [] 0 0] [21] [(2, .val (.bool (o.text.toList == (ByteArray.mk #[]).toList && !o.remove && (↑o.dots.length : Int) == 0)))] ?_
      refine Yr [[]] (.bool (o.text.toList == (ByteArray.mk #[]).toList && !o.remove && (↑o.dots.length : Int) == 0)) fun a w s => ?_
      rw [shapeOk, if_neg h1, if_pos h2]
      exact s.ret (by simp) [] [] rfl rfl
    · by_cases h3 : o.n = 0
      · refine J_seq ?_
        refine Zm [.wr 0 [] 0, .rd 1 [] 0 0] [] [0] (fun nu1 => [(1, .val (.pointer (some (⟨nu1 0, 0, none⟩)))), (2, .val (.bool false))]) (fun nu1 => [(nu1 0, .cells #[.int .i64 o.no, .string o.key, .int .i64 o.kind, .string o.text, .int .i64 o.n, .bool o.remove, .slice a o.dots.length c] 43 (0, 0))]) (fun nu1 => ?_)
        refine J_seq ?_
        refine J_seq ?_
        refine Za [.rd 0 [] 0 0, .rd 1 [.o 0 none] 0 0] [] [(4, .val (.int .i64 o.kind))] ?_
        refine J_block ?_
        refine J_seq ?_
        refine Zp [.rd 0 [] 0 7, .rd 1 [] 0 0] [] [(5, .val (.bool false))] [(o.kind == (1 : Int)) = false] ⟨by simp; omega, trivial⟩ ?_
        refine J_cond_f (by kernel_rfl) (by kernel_rfl) ?_
        refine J_seq ?_
        refine Zp [.rd 0 [] 0 7, .rd 1 [] 0 0] [5, 4] [(21, .val (.bool false))] [(o.kind == (2 : Int)) = false] ⟨by simp; omega, trivial⟩ ?_
        refine J_cond_f (by kernel_rfl) (by kernel_rfl) ?_
        refine J_skip ?_
        refine J_eb ?_
        refine J_seq ?_
        refine Zp [.rd 0 [] 0 0, .rd 1 [.o 0 none] 0 0, .rd 2 [] 0 6, .rd 3 [] 0 0, .rd 4 [] 0 0, .rd 5 [.o 0 none] 0 0, .rd 6 [] 0 0, .rd 7 [] 2 0, .rd 8 [.o 0 none] 2 0, .rd 9 [] 2 0, .rd 10 [] 2 0, .rd 11 [] 0 3, .rd 12 [] 0 0, .rd 13 [] 0 0] [21, 1] [(2, .val (.bool (o.remove || (↑o.dots.length : Int) == 0)))] [(o.n == (0 : Int)) = true] ⟨by simp; omega, trivial⟩ ?_
        refine Yr [[]] (.bool (o.remove || (↑o.dots.length : Int) == 0)) fun a w s => ?_
        rw [shapeOk, if_neg h1, if_neg h2, show (o.n == 0) = true by simpa using h3, Bool.true_and]
        exact s.ret (by simp) [] [] rfl rfl
      · refine J_seq ?_
        refine Zm [.wr 0 [] 0, .rd 1 [] 0 0] [] [0] (fun nu1 => [(1, .val (.pointer (some (⟨nu1 0, 0, none⟩)))), (2, .val (.bool false))]) (fun nu1 => [(nu1 0, .cells #[.int .i64 o.no, .string o.key, .int .i64 o.kind, .string o.text, .int .i64 o.n, .bool o.remove, .slice a o.dots.length c] 43 (0, 0))]) (fun nu1 => ?_)
        refine J_seq ?_
        refine J_seq ?_
        refine Za [.rd 0 [] 0 0, .rd 1 [.o 0 none] 0 0] [] [(4, .val (.int .i64 o.kind))] ?_
        refine J_block ?_
        refine J_seq ?_
        refine Zp [.rd 0 [] 0 7, .rd 1 [] 0 0] [] [(5, .val (.bool false))] [(o.kind == (1 : Int)) = false] ⟨by simp; omega, trivial⟩ ?_
        refine J_cond_f (by kernel_rfl) (by kernel_rfl) ?_
        refine J_seq ?_
        refine Zp [.rd 0 [] 0 7, .rd 1 [] 0 0] [5, 4] [(21, .val (.bool false))] [(o.kind == (2 : Int)) = false] ⟨by simp; omega, trivial⟩ ?_
        refine J_cond_f (by kernel_rfl) (by kernel_rfl) ?_
        refine J_skip ?_
        refine J_eb ?_
        refine J_seq ?_
        refine Zp [.rd 0 [] 0 0, .rd 1 [.o 0 none] 0 0, .rd 2 [] 0 7, .rd 3 [] 0 0, .rd 4 [] 1 0, .rd 5 [] 1 0, .rd 6 [] 1 0, .rd 7 [] 1 0, .rd 8 [] 1 0, .rd 9 [] 1 0, .rd 10 [] 1 0, .rd 11 [] 1 0, .rd 12 [] 0 0, .rd 13 [] 0 0] [21, 1] [] [(o.n == (0 : Int)) = false] ⟨by simp; omega, trivial⟩ ?_
        refine Yr [[]] (.bool false) fun a w s => ?_
        rw [shapeOk, if_neg h1, if_neg h2, show (o.n == 0) = false by simpa using h3, Bool.false_and]
        exact s.ret (by simp) [] [] rfl rfl
theorem opRest {o : OpT} {places : Int} (h1 : ¬ (places < 1 ∨ 6 < places ∨ o.no < 0 ∨ 12 ≤ o.no)) (h2 : nameOk o.key = true) (h3 : o.kind = 1 ∨ o.kind = 2 ∨ o.kind = 3) (h4 : shapeOk o = true) : opErr o places = if 60 < o.text.size ∨ o.n < -1099511627776 ∨ 1099511627776 < o.n ∨ 60 < o.dots.length then 2 else if badDots places o.dots = true then 2 else 0 := by
  unfold opErr
  rw [if_neg h1, if_neg (by simp [h2]), if_neg (by omega), if_neg (by simp [h4])]
theorem opShape {o : OpT} {places : Int} (h1 : ¬ (places < 1 ∨ 6 < places ∨ o.no < 0 ∨ 12 ≤ o.no)) (h2 : nameOk o.key = true) (h3 : o.kind = 1 ∨ o.kind = 2 ∨ o.kind = 3) (h4 : shapeOk o = false) : opErr o places = 3 := by
  unfold opErr
  rw [if_neg h1, if_neg (by simp [h2]), if_neg (by omega), if_pos h4]
theorem not_f {x : Bool} (h : (!x) = false) : x = true := by cases x <;> simp_all
end Go.Proofs.YtehdegekgdlifaaDoor
namespace Go.Proofs.YtehdegekgdlifaaDoor
open Go Go.Sx
set_option maxHeartbeats 4000000 in
theorem obj_ptr {w : World} {S : Nat → Prop} {b : Nat} {x : Value} {ty : TypeId} {fz : Nat × Nat} (h : Rep w S (.pointer (some ⟨b, 0, none⟩)) (.obj (.cells #[x] ty fz))) (hx : x.oneCell' = true) : Rep w S (.pointer (some ⟨b, 0, none⟩)) (.ptr [.v x]) := by
  cases h with
  | obj hb hS =>
    refine .ptr (fun _ => x) hb hS (fun j hj => ?_) (fun j d hj => ?_)
    · obtain rfl : j = 0 := by simpa using hj
      rfl
    · match j, hj with
      | 0, hj =>
        simp only [List.getElem?_cons_zero, Option.some.injEq] at hj
        subst hj
        exact .v hx
      | j + 1, hj => simp at hj
set_option maxHeartbeats 4000000 in
theorem check68 {w : World} {S : Nat → Prop} {d : DotT} {places : Int} {b : Nat} (h : Rep w S (.pointer (some ⟨b, 0, none⟩)) (.ptr [.v (.int .i64 places)])) : Calls Tryd.prog 58 #[dotA d, .pointer (some ⟨b, 0, none⟩)] w fun e w' => Ret [] w S w' e (.bool (!dotOk places d)) [] [] := by
  refine ep58 (args := [dotA d, .pointer (some ⟨b, 0, none⟩)]) (G := [(_, .ptr [.v (.int .i64 places)])]) (by kernel_rfl) (.cons h (.nil _ _)) ?_
  refine J_glob 0 rfl (fun csg1 tyg1 fzg1 hglob1 => ?_)
  refine J_seq ?_
  refine Zm [.wr 0 [] 0, .rd 1 [] 0 0] [] [0] (fun nu1 => [(2, .val (.pointer (some (⟨nu1 0, 0, none⟩)))), (3, .val (.bool false))]) (fun nu1 => [(nu1 0, .cells #[.int .i64 d.place, .int .i64 d.time, .int .i64 d.no] 106 (0, 0))]) (fun nu1 => ?_)
  refine J_seq ?_
  refine jT [(0, true), (1, true), (2, false), (3, true), (4, true)] [] ?_
  refine Yp (id := 1) (rest := [(2, false), (3, true), (4, true)]) [.rd 0 [.o 0 none, .o 0 none, .o 0 none] 0 0, .rd 1 [.r 0 (some (.int .i64 places))] 0 0] [2, 1] [(4, .val (.agg #[.int .i64 d.place, .int .i64 d.time, .int .i64 d.no])), (5, .val (.int .i64 places))] [csg1[(0 : Nat)]? = some (Value.int IntKind.i64 places)] ⟨hglob1, trivial⟩ ?_
  refine Yc 59 #[.agg #[.int .i64 d.place, .int .i64 d.time, .int .i64 d.no], .int .i64 places] (some 6) fun w S hG => ?_
  refine (vDot (w := w) (S := S)).mono ?_
  rintro e1 w1 hR
  refine ⟨_, _, _, hR, ?_⟩
  try simp only [aQ]
  refine Ya (id := 1) (rest := []) [.rd 3 [] 0 0, .rd 4 [] 0 0] [6, 4, 5] [(3, .val (.bool (!dotOk places d)))] ?_
  refine JR_end ?_
  refine Yr [[]] (.bool (!dotOk places d)) fun a w s => ?_
  exact s.ret (by simp) [] [] rfl rfl
set_option maxHeartbeats 4000000 in
theorem indexBadD {w : World} {S : Nat → Prop} {a : Option Addr} {n c : Nat} {l : List DotT} {places : Int} {b : Nat} (h : Rep w S (.slice a n c) (.sl 3 (l.map eDot))) (hl : l.length ≤ 1000000) (hp : Rep w S (.pointer (some ⟨b, 0, none⟩)) (.ptr [.v (.int .i64 places)])) :
    Calls Tryd.prog 65 #[.slice a n c, .func (.func 58) #[] #[.pointer (some ⟨b, 0, none⟩)]] w fun e w' => ∃ r, Ret [] w S w' e (.int .i64 r) [] [] ∧ decide (0 ≤ r) = badDots places l := by
  have e1 := h.slen
  rw [List.length_map] at e1
  subst e1
  refine ep65 (args := [.slice a l.length c, .func (.func 58) #[] #[.pointer (some ⟨b, 0, none⟩)]]) (G := [(_, .sl 3 (l.map eDot)), (_, .ptr [.v (.int .i64 places)])]) (by kernel_rfl) (.cons h (.cons hp (.nil _ _))) ?_
  refine J_seq ?_
  refine Za [.rd 0 [] 0 0] [] [(4, .val (.int .i64 0))] ?_
  refine J_seq ?_
  refine J_seq ?_
  refine Za (Rds 0 3) [] [(7, .val (.int .i64 (↑l.length : Int))), (8, .val (.int .i64 0))] ?_
  refine J_block ?_
  refine J_loopx (fun i : Int => [(0, .val (.slice a l.length c)), (1, .val (.func (.func 58) #[] #[.pointer (some (⟨b, 0, none⟩))])), (4, .val (.int .i64 0)), (7, .val (.int .i64 (↑l.length : Int))), (8, .val (.int .i64 i))]) (fun i : Int => []) (fun i : Int => []) (fun i : Int => [(.slice a l.length c, (D.sl 3 (List.map eDot l))), (.pointer (some (⟨b, 0, none⟩)), (D.ptr [D.v (Value.int IntKind.i64 places)]))]) (fun i : Int => (l.length - i).toNat) (fun i : Int => (0 ≤ i ∧ i ≤ l.length ∧ ∀ j : Nat, j < i.toNat → ∀ d, l[j]? = some d → dotOk places d = true)) 0 [0, 1, 4, 7, 8] [] [] [0, 1] ?_ (by kernel_rfl) rfl rfl rfl ?_
  · exact ⟨by simp, by omega, by simp⟩
  rintro i ⟨hi0, hi, hno⟩
  refine J_seq ?_
  refine Za [.rd 0 [] 0 0] [] [(9, .val (.bool (decide (i < (↑l.length : Int)))))] ?_
  refine J_seq ?_
  refine J_cond (t := decide (i < (↑l.length : Int))) (by kernel_rfl) (by kernel_rfl) (fun hlt => ?_) (fun hlt => ?_)
  · have hlt2 : i < l.length := by simpa using hlt
    obtain ⟨x, hx⟩ : ∃ x, l[i.toNat]? = some x := ⟨_, List.getElem?_eq_getElem (by omega)⟩
    refine J_read0 0 rfl i.toNat (map_at hx) (by kernel_rfl) (fun b1 off1 cs1 ty1 fz1 ha1 hrd1 => ?_)
    cases ha1
    have hrd1_0 := rd0 (hrd1 0 _ rfl)
    have hrd1_1 := hrd1 1 _ rfl
    have hrd1_2 := hrd1 2 _ rfl
    try simp only [aQ]
    refine J_skip ?_
    refine J_seq ?_
    refine J_block ?_
    refine J_seq ?_
    refine Za [.rd 0 [] 0 0, .rd 1 [] 0 0] [9] [(5, .val (.int .i64 i))] ?_
    refine J_seq ?_
    refine jT [(0, true), (1, true), (2, true), (3, true), (4, true), (5, false)] [] ?_
    refine Yp (id := 4) (rest := [(5, false)]) (Rds 0 3 ++ [.rd 3 [] 0 2, .rd 4 [.r 0 (some (.int .i64 x.place)), .r 0 (some (.int .i64 x.time)), .r 0 (some (.int .i64 x.no))] 0 0]) [] [(11, .val (.func (.func 58) #[] #[.pointer (some (⟨b, 0, none⟩))])), (15, .val (.agg #[.int .i64 x.place, .int .i64 x.time, .int .i64 x.no]))] [(0 : Int) ≤ i, i < (↑l.length : Int), cs1[off1 + i.toNat * (3 : Nat)]? = some (Value.int IntKind.i64 x.place), cs1[off1 + i.toNat * (3 : Nat) + (1 : Nat)]? = some (Value.int IntKind.i64 x.time), cs1[off1 + i.toNat * (3 : Nat) + (2 : Nat)]? = some (Value.int IntKind.i64 x.no)] ⟨hi0, hlt2, hrd1_0, hrd1_1, hrd1_2, trivial⟩ ?_
    refine Yc 58 #[.agg #[.int .i64 x.place, .int .i64 x.time, .int .i64 x.no], .pointer (some (⟨b, 0, none⟩))] (some 16) fun w S hG => ?_
    refine (check68 (d := x) (hG.at 1 rfl)).mono ?_
    rintro e w2 hR
    refine ⟨_, _, _, hR, ?_⟩
    try simp only [aQ]
    refine JR_end ?_
    refine J_cond (t := !dotOk places x) (by kernel_rfl) (by kernel_rfl) (fun hb => ?_) (fun hb => ?_)
    · refine J_seq ?_
      refine Za [.rd 0 [] 0 0, .rd 1 [] 0 0] [16] [(4, .val (.int .i64 i))] ?_
      refine Yr [[]] (.int .i64 i) fun a w s => ?_
      refine ⟨_, s.ret (by simp) [] [] rfl rfl, ?_⟩
      rw [show badDots places l = true from List.any_eq_true.2 ⟨x, List.mem_of_getElem? hx, hb⟩]
      simpa using hi0
    · refine J_skip ?_
      refine J_eb ?_
      refine Zp [.rd 0 [] 0 1, .rd 1 [] 0 0] [16] [(8, .val (.int .i64 (i + 1)))] [IntKind.i64.wrap (i + (1 : Int)) = i + (1 : Int)] ⟨wrap_i64 (by omega) (by omega), trivial⟩ ?_
      refine J_backx (i + 1) [0, 1, 4, 7, 8] [] [] [0, 1] ?_ ?_ (by kernel_rfl) rfl rfl rfl
      · refine ⟨by omega, by omega, fun j hj t ht => ?_⟩
        by_cases hji : j = i.toNat
        · subst hji
          rw [hx] at ht
          cases ht
          exact not_f hb
        · exact hno j (by omega) t ht
      · omega
  · refine J_exit rfl ?_
    refine J_seq ?_
    refine Za [.rd 0 [] 0 0] [9, 0, 1, 7, 8] [(4, .val (.int .i64 (-1)))] ?_
    refine Yr [[]] (.int .i64 (-1)) fun a w s => ?_
    refine ⟨_, s.ret (by simp) [] [] rfl rfl, ?_⟩
    have e : badDots places l = false := by
      unfold badDots
      rw [List.any_eq_false]
      intro t ht
      obtain ⟨j, hj⟩ := List.getElem?_of_mem ht
      have hjl := (List.getElem?_eq_some_iff.1 hj).1
      simp [hno j (by simp at hlt; omega) t hj]
    rw [e]
    decide
set_option maxHeartbeats 4000000 in
theorem containsBadD {w : World} {S : Nat → Prop} {a : Option Addr} {n c : Nat} {l : List DotT} {places : Int} {b : Nat} (h : Rep w S (.slice a n c) (.sl 3 (l.map eDot))) (hl : l.length ≤ 1000000) (hp : Rep w S (.pointer (some ⟨b, 0, none⟩)) (.ptr [.v (.int .i64 places)])) :
    Calls Tryd.prog 57 #[.slice a n c, .func (.func 58) #[] #[.pointer (some ⟨b, 0, none⟩)]] w fun e w' => Ret [] w S w' e (.bool (badDots places l)) [] [] := by
  refine ep57 (args := [.slice a n c, .func (.func 58) #[] #[.pointer (some ⟨b, 0, none⟩)]]) (G := [(_, .sl 3 (l.map eDot)), (_, .ptr [.v (.int .i64 places)])]) (by kernel_rfl) (.cons h (.cons hp (.nil _ _))) ?_
  refine J_seq ?_
  refine Za [.rd 0 [] 0 0] [] [(4, .val (.bool false))] ?_
  refine J_seq ?_
  refine jT [(0, true), (1, true), (2, false), (3, true), (4, true)] [] ?_
  refine Ya (id := 1) (rest := [(2, false), (3, true), (4, true)]) [.rd 0 [] 0 0, .rd 1 [] 0 0] [0, 1] [(5, .val (.slice a n c)), (6, .val (.func (.func 58) #[] #[.pointer (some (⟨b, 0, none⟩))]))] ?_
  refine Yc 65 #[.slice a n c, .func (.func 58) #[] #[.pointer (some (⟨b, 0, none⟩))]] (some 7) fun w S hG => ?_
  refine (indexBadD (hG.at 0 rfl) hl (hG.at 1 rfl)).mono ?_
  rintro e w2 ⟨r, hR, hr⟩
  refine ⟨_, _, _, hR, ?_⟩
  try simp only [aQ]
  refine Ya (id := 1) (rest := []) [.rd 3 [] 0 0, .rd 4 [] 0 0] [7, 5, 6] [(4, .val (.bool (decide (r ≥ 0))))] ?_
  refine JR_end ?_
  refine Yr [[]] (.bool (decide (r ≥ 0))) fun a w s => ?_
  rw [← hr]
  exact s.ret (by simp) [] [] rfl rfl
set_option maxHeartbeats 4000000 in
theorem vCheckOp {w : World} {S : Nat → Prop} {er : Nat → Addr} {eb : Nat → Array Value × TypeId} {o : OpT} {a : Option Addr} {n c : Nat} {places : Int} (hC : Rep w S .nilIface (dC er eb)) (h : Rep w S (.slice a n c) (.sl 3 (o.dots.map eDot))) :
    Calls Tryd.prog 37 #[opA o (.slice a n c), .int .i64 places] w fun e w' => ∃ v, Ret [] w S w' e v [] [] ∧ ErrIs 156 er (opErr o places) v := by
  have e1 := h.slen
  rw [List.length_map] at e1
  subst e1
  refine ep37 (args := [opA o (.slice a o.dots.length c), .int .i64 places]) (G := [(_, dC er eb), (_, .sl 3 (o.dots.map eDot))]) (by kernel_rfl) (.cons hC (.cons h (.nil _ _))) ?_
  refine J_stp (stp_all 0 [1, 2, 3, 11] rfl rfl) ?_
  refine J_glob 2 rfl (fun csg1 tyg1 fzg1 hglob1 => ?_)
  refine J_glob 3 rfl (fun csg2 tyg2 fzg2 hglob2 => ?_)
  refine J_glob 4 rfl (fun csg3 tyg3 fzg3 hglob3 => ?_)
  refine J_glob 5 rfl (fun csg4 tyg4 fzg4 hglob4 => ?_)
  try simp only [aQ]
  refine J_seq ?_
  refine Zm [.wr 0 [] 0, .wr 1 [] 0, .rd 2 [] 0 0] [] [0, 1] (fun nu1 => [(2, .val (.pointer (some (⟨nu1 0, 0, none⟩)))), (3, .val (.pointer (some (⟨nu1 1, 0, none⟩)))), (4, .val (.nilIface))]) (fun nu1 => [(nu1 0, .cells #[.int .i64 o.no, .string o.key, .int .i64 o.kind, .string o.text, .int .i64 o.n, .bool o.remove, .slice a o.dots.length c] 43 (0, 0)), (nu1 1, .cells #[.int .i64 places] 3 (0, 0))]) (fun nu1 => ?_)
  refine J_seq ?_
  refine J_block ?_
  refine J_seq ?_
  refine Za [.rd 0 [.o 1 none] 0 0, .rd 1 [] 0 0, .rd 2 [] 0 0, .rd 3 [.o 1 none] 2 0, .rd 4 [] 2 0, .rd 5 [] 0 3, .rd 6 [] 0 0, .rd 7 [] 2 0, .rd 8 [.o 0 none] 2 0, .rd 9 [] 2 0, .rd 10 [] 0 3, .rd 11 [] 0 0, .rd 12 [] 2 0, .rd 13 [.o 0 none] 2 0, .rd 14 [] 2 0, .rd 15 [] 0 3, .rd 16 [] 0 0] [] [(5, .val (.bool (decide (places < 1) || decide (places > 6) || decide (o.no < 0) || decide (o.no ≥ 12))))] ?_
  refine J_cond (t := decide (places < 1) || decide (places > 6) || decide (o.no < 0) || decide (o.no ≥ 12)) (by kernel_rfl) (by kernel_rfl) (fun hb => ?_) (fun hb => ?_)
  · have e : opErr o places = 2 := by rw [opErr, if_pos (by simp at hb; omega)]
    refine J_seq ?_
    refine Zp [.rd 0 [.r 0 (some (.iface 156 (.pointer (some (er 2)))))] 0 0, .rd 1 [] 0 0] [5, 2, 3] [(4, .val (.iface 156 (.pointer (some (er 2)))))] [csg1[(0 : Nat)]? = some (Value.iface (156 : Nat) (Value.pointer (some (er (2 : Nat)))))] ⟨hglob1, trivial⟩ ?_
    refine Yr [[]] (.iface 156 (.pointer (some (er 2)))) fun a w s => ?_
    rw [e]
    exact ⟨_, s.ret (by simp) [] [] rfl rfl, .inr ⟨by decide, rfl⟩⟩
  have hb2 : ¬ (places < 1 ∨ 6 < places ∨ o.no < 0 ∨ 12 ≤ o.no) := by simp at hb; omega
  refine J_seq ?_
  refine jT [(0, true), (1, true), (2, false), (3, true), (4, true)] [] ?_
  refine Ya (id := 3) (rest := [(2, false), (3, true), (4, true)]) [.rd 0 [] 0 0, .rd 1 [.o 0 none] 0 0] [5] [(25, .val (.string o.key))] ?_
  refine Yc 13 #[.string o.key] (some 26) fun w S hG => ?_
  refine (vName (w := w) (S := S) (s0 := o.key)).mono ?_
  rintro e1 w1 hR
  refine ⟨_, _, _, hR, ?_⟩
  cases hname : nameOk o.key with
  | false =>
    have e : opErr o places = 4 := by rw [opErr, if_neg hb2, if_pos hname]
    try simp only [aQ]
    refine Ya (id := 3) (rest := []) [.rd 3 [] 0 0, .rd 4 [] 0 0] [26, 25] [(23, .val (.bool true))] ?_
    refine JR_end ?_
    refine J_cond_t (by kernel_rfl) (by kernel_rfl) ?_
    refine J_seq ?_
    refine Zp [.rd 0 [.r 2 (some (.iface 156 (.pointer (some (er 4)))))] 0 0, .rd 1 [] 0 0] [23, 2, 3] [(4, .val (.iface 156 (.pointer (some (er 4)))))] [csg3[(0 : Nat)]? = some (Value.iface (156 : Nat) (Value.pointer (some (er (4 : Nat)))))] ⟨hglob3, trivial⟩ ?_
    refine Yr [[]] (.iface 156 (.pointer (some (er 4)))) fun a w s => ?_
    rw [e]
    exact ⟨_, s.ret (by simp) [] [] rfl rfl, .inr ⟨by decide, rfl⟩⟩
  | true =>
    try simp only [aQ]
    refine Ya (id := 3) (rest := []) [.rd 3 [] 0 0, .rd 4 [] 0 0] [26, 25] [(23, .val (.bool false))] ?_
    refine JR_end ?_
    refine J_cond_f (by kernel_rfl) (by kernel_rfl) ?_
    refine J_seq ?_
    refine Za [.rd 0 [] 0 0, .rd 1 [.o 0 none] 0 0, .rd 2 [] 0 0, .rd 3 [] 0 0, .rd 4 [] 2 0, .rd 5 [.o 0 none] 2 0, .rd 6 [] 2 0, .rd 7 [] 0 3, .rd 8 [] 0 0, .rd 9 [] 2 0, .rd 10 [.o 0 none] 2 0, .rd 11 [] 2 0, .rd 12 [] 0 3, .rd 13 [] 0 0] [23] [(29, .val (.bool (o.kind != 1 && o.kind != 2 && o.kind != 3)))] ?_
    refine J_cond (t := o.kind != 1 && o.kind != 2 && o.kind != 3) (by kernel_rfl) (by kernel_rfl) (fun hk => ?_) (fun hk => ?_)
    · have e : opErr o places = 12 := by rw [opErr, if_neg hb2, if_neg (by simp [hname]), if_pos (by simp at hk; omega)]
      refine J_seq ?_
      refine Zp [.rd 0 [.r 3 (some (.iface 156 (.pointer (some (er 12)))))] 0 0, .rd 1 [] 0 0] [29, 2, 3] [(4, .val (.iface 156 (.pointer (some (er 12)))))] [csg4[(0 : Nat)]? = some (Value.iface (156 : Nat) (Value.pointer (some (er (12 : Nat)))))] ⟨hglob4, trivial⟩ ?_
      refine Yr [[]] (.iface 156 (.pointer (some (er 12)))) fun a w s => ?_
      rw [e]
      exact ⟨_, s.ret (by simp) [] [] rfl rfl, .inr ⟨by decide, rfl⟩⟩
    have hk2 : o.kind = 1 ∨ o.kind = 2 ∨ o.kind = 3 := by simp at hk; omega
    refine J_seq ?_
    refine jT [(0, true), (1, false), (2, true), (3, true)] [] ?_
    refine Ya (id := 7) (rest := [(1, false), (2, true), (3, true)]) [.rd 0 [.o 0 none, .o 0 none, .o 0 none, .o 0 none, .o 0 none, .o 0 none, .o 0 none] 0 0] [29] [(45, .val (.agg #[.int .i64 o.no, .string o.key, .int .i64 o.kind, .string o.text, .int .i64 o.n, .bool o.remove, .slice a o.dots.length c]))] ?_
    refine Yc 56 #[.agg #[.int .i64 o.no, .string o.key, .int .i64 o.kind, .string o.text, .int .i64 o.n, .bool o.remove, .slice a o.dots.length c]] (some 46) fun w S hG => ?_
    refine (vShape (o := o) (hG.at 1 rfl)).mono ?_
    rintro e1 w1 hR
    refine ⟨_, _, _, hR, ?_⟩
    cases hsh : shapeOk o with
    | false =>
      rw [opShape hb2 hname hk2 hsh]
      try simp only [aQ]
      refine Ya (id := 7) (rest := []) [.rd 2 [] 0 0, .rd 3 [] 0 0] [46, 45] [(44, .val (.bool true))] ?_
      refine JR_end ?_
      refine J_cond_t (by kernel_rfl) (by kernel_rfl) ?_
      refine J_seq ?_
      refine Zp [.rd 0 [.r 1 (some (.iface 156 (.pointer (some (er 3)))))] 0 0, .rd 1 [] 0 0] [44, 2, 3] [(4, .val (.iface 156 (.pointer (some (er 3)))))] [csg2[(0 : Nat)]? = some (Value.iface (156 : Nat) (Value.pointer (some (er (3 : Nat)))))] ⟨hglob2, trivial⟩ ?_
      refine Yr [[]] (.iface 156 (.pointer (some (er 3)))) fun a w s => ?_
      exact ⟨_, s.ret (by simp) [] [] rfl rfl, .inr ⟨by decide, rfl⟩⟩
    | true =>
      rw [opRest hb2 hname hk2 hsh]
      try simp only [aQ]
      refine Ya (id := 7) (rest := []) [.rd 2 [] 0 0, .rd 3 [] 0 0] [46, 45] [(44, .val (.bool false))] ?_
      refine JR_end ?_
      refine J_cond_f (by kernel_rfl) (by kernel_rfl) ?_
      refine J_seq ?_
      refine Za ([.rd 0 [] 0 0, .rd 1 [.o 0 none] 0 0] ++ Rds 2 5 ++ [.rd 5 [] 2 0, .rd 6 [.o 0 none] 2 0, .rd 7 [] 2 0, .rd 8 [] 0 3, .rd 9 [] 0 0, .rd 10 [] 2 0, .rd 11 [.o 0 none] 2 0, .rd 12 [] 2 0, .rd 13 [] 0 3, .rd 14 [] 0 0, .rd 15 [] 2 0, .rd 16 [.o 0 none] 2 0, .rd 17 [] 2 0, .rd 18 [] 2 0, .rd 19 [] 0 3, .rd 20 [] 0 0]) [44] [(49, .val (.bool (decide ((↑o.text.size : Int) > 60) || decide (o.n < -1099511627776) || decide (o.n > 1099511627776) || decide ((↑o.dots.length : Int) > 60))))] ?_
      refine J_cond (t := decide ((↑o.text.size : Int) > 60) || decide (o.n < -1099511627776) || decide (o.n > 1099511627776) || decide ((↑o.dots.length : Int) > 60)) (by kernel_rfl) (by kernel_rfl) (fun hbig => ?_) (fun hbig => ?_)
      · rw [if_pos (by simp at hbig; omega)]
        refine J_seq ?_
        refine Zp [.rd 0 [.r 0 (some (.iface 156 (.pointer (some (er 2)))))] 0 0, .rd 1 [] 0 0] [49, 2, 3] [(4, .val (.iface 156 (.pointer (some (er 2)))))] [csg1[(0 : Nat)]? = some (Value.iface (156 : Nat) (Value.pointer (some (er (2 : Nat)))))] ⟨hglob1, trivial⟩ ?_
        refine Yr [[]] (.iface 156 (.pointer (some (er 2)))) fun a w s => ?_
        exact ⟨_, s.ret (by simp) [] [] rfl rfl, .inr ⟨by decide, rfl⟩⟩
      rw [if_neg (by simp at hbig; omega)]
      have hdl : o.dots.length ≤ 1000000 := by simp at hbig; omega
      refine J_seq ?_
      refine J_share 1 rfl ?_
      refine J_stp (stp_fact (v := .pointer (some ⟨nu1 1, 0, none⟩)) (d := .ptr [.v (.int .i64 places)]) fun w S H => obj_ptr (H _ (List.mem_of_getElem? (i := 6) rfl)) rfl) ?_
      try simp only [aQ]
      refine jT [(0, true), (1, true), (2, true), (3, false), (4, true)] [] ?_
      refine Ya (id := 11) (rest := [(3, false), (4, true)]) [.rd 0 [] 0 0, .rd 1 [.o 0 none] 0 0, .rd 2 [] 0 0] [49, 2, 3] [(73, .val (.slice a o.dots.length c)), (74, .val (.func (.func 58) #[] #[.pointer (some (⟨nu1 1, 0, none⟩))]))] ?_
      refine Yc 57 #[.slice a o.dots.length c, .func (.func 58) #[] #[.pointer (some (⟨nu1 1, 0, none⟩))]] (some 75) fun w S hG => ?_
      refine (containsBadD (hG.at 1 rfl) hdl (hG.at 7 rfl)).mono ?_
      rintro e1 w1 hR
      refine ⟨_, _, _, hR, ?_⟩
      cases hbd : badDots places o.dots with
      | true =>
        try simp only [aQ]
        refine Ya (id := 11) (rest := []) [.rd 4 [] 0 0] [75, 73, 74] [(71, .val (.bool true))] ?_
        refine JR_end ?_
        refine J_cond_t (by kernel_rfl) (by kernel_rfl) ?_
        refine J_seq ?_
        refine Zp [.rd 0 [.r 0 (some (.iface 156 (.pointer (some (er 2)))))] 0 0, .rd 1 [] 0 0] [71] [(4, .val (.iface 156 (.pointer (some (er 2)))))] [csg1[(0 : Nat)]? = some (Value.iface (156 : Nat) (Value.pointer (some (er (2 : Nat)))))] ⟨hglob1, trivial⟩ ?_
        refine Yr [[]] (.iface 156 (.pointer (some (er 2)))) fun a w s => ?_
        exact ⟨_, s.ret (by simp) [] [] rfl rfl, .inr ⟨by decide, rfl⟩⟩
      | false =>
        try simp only [aQ]
        refine Ya (id := 11) (rest := []) [.rd 4 [] 0 0] [75, 73, 74] [(71, .val (.bool false))] ?_
        refine JR_end ?_
        refine J_cond_f (by kernel_rfl) (by kernel_rfl) ?_
        refine J_skip ?_
        refine J_eb ?_
        refine J_seq ?_
        refine Za [.rd 0 [] 0 0] [71] [] ?_
        refine Yr [[]] (.nilIface) fun a w s => ?_
        exact ⟨_, s.ret (by simp) [] [] rfl rfl, .inl ⟨rfl, rfl⟩⟩
end Go.Proofs.YtehdegekgdlifaaDoor
end
section
namespace Go.Proofs.YtehdegekgdlifaaDoor
open Go Go.Sx
set_option maxHeartbeats 4000000 in
theorem ptr_of_obj {w : World} {S : Nat → Prop} {b : Nat} {x y : Value} {ty : TypeId} {fz : Nat × Nat} (hx : x.oneCell' = true) (hy : y.oneCell' = true) (h : Rep w S (.pointer (some ⟨b, 0, none⟩)) (.obj (.cells #[x, y] ty fz))) : Rep w S (.pointer (some ⟨b, 0, none⟩)) (.ptr [.v x, .v y]) := by
  cases h with
  | obj hb hS =>
    refine .ptr (fun j => (#[x, y] : Array Value).getD j .nilIface) hb hS (fun j hj => ?_) fun j d hj => ?_
    · match j, hj with
      | 0, _ => rfl
      | 1, _ => rfl
      | j + 2, hj => exact absurd hj (by simp)
    · match j, hj with
      | 0, hj => cases hj; exact .v hx
      | 1, hj => cases hj; exact .v hy
      | j + 2, hj => simp at hj
end Go.Proofs.YtehdegekgdlifaaDoor
end
section
namespace Go.Proofs.YtehdegekgdlifaaDoor
open Go Go.Sx
def opErrAt (l : List OpT) (places : Int) (i : Nat) : Nat :=
  match l[i]? with
  | none => 0
  | some o => if opErr o places ≠ 0 then opErr o places else match i, l[i - 1]? with
      | _ + 1, some p => if o.no ≤ p.no then 3 else 0
      | _, _ => 0
structure FT where
  code : Nat
  at' : Int
def opsFault (l : List OpT) (places : Int) : Nat → Nat → FT
  | 0, _ => ⟨0, -1⟩
  | n + 1, i => if opErrAt l places i = 0 then opsFault l places n (i + 1) else ⟨opErrAt l places i, i⟩
def comFault (c : ComT) : FT :=
  if vecErr c.when ≠ 0 then ⟨vecErr c.when, -1⟩
  else if c.place < 0 ∨ c.when.length ≤ c.place ∨ 12 < c.ops.length then ⟨2, -1⟩
  else if c.when[c.place.toNat]? = some 0 then ⟨2, -1⟩
  else if c.ops.length = 0 then ⟨3, -1⟩
  else opsFault c.ops c.when.length c.ops.length 0
theorem opsFault_from {l : List OpT} {places : Int} : ∀ (n k i : Nat), k ≤ i → (∀ j, k ≤ j → j < i → opErrAt l places j = 0) → (i = k + n → opsFault l places n k = ⟨0, -1⟩) ∧ (i < k + n → opErrAt l places i ≠ 0 → opsFault l places n k = ⟨opErrAt l places i, i⟩)
  | 0, k, i, hk, _ => ⟨fun _ => rfl, fun h => by omega⟩
  | n + 1, k, i, hk, h => by
    rcases Nat.eq_or_lt_of_le hk with rfl | hlt
    · refine ⟨fun he => by omega, fun _ hne => ?_⟩
      rw [opsFault, if_neg hne]
    · obtain ⟨h1, h2⟩ := opsFault_from n (k + 1) i hlt fun j hj1 hj2 => h j (by omega) hj2
      rw [opsFault, if_pos (h k (Nat.le_refl _) hlt)]
      exact ⟨fun he => h1 (by omega), fun he => h2 (by omega)⟩
theorem opErrAt_own {l : List OpT} {p : Int} {i : Nat} {o : OpT} (h : l[i]? = some o) (he : opErr o p ≠ 0) : opErrAt l p i = opErr o p := by
  unfold opErrAt
  simp only [h, if_pos he]
theorem opErrAt_first {l : List OpT} {p : Int} {o : OpT} (h : l[0]? = some o) (he : opErr o p = 0) : opErrAt l p 0 = 0 := by
  unfold opErrAt
  simp [h, he]
theorem opErrAt_next {l : List OpT} {p : Int} {i : Nat} {o q : OpT} (h : l[i + 1]? = some o) (hq : l[i]? = some q) (he : opErr o p = 0) : opErrAt l p (i + 1) = if o.no ≤ q.no then 3 else 0 := by
  unfold opErrAt
  simp [h, hq, he]
end Go.Proofs.YtehdegekgdlifaaDoor
namespace Go.Proofs.YtehdegekgdlifaaDoor
open Go Go.Sx
def FRet (w : World) (S : Nat → Prop) (w' : World) (e : Ending) (er : Nat → Addr) (f : FT) : Prop :=
  (f.at' = -1 ∧ ∃ v, Ret [] w S w' e v [] [] ∧ ErrIs 156 er f.code v) ∨
  (1 ≤ f.code ∧ 0 ≤ f.at' ∧ ∃ pb, Ret [] w S w' e (.iface 79 (.pointer (some ⟨pb, 0, none⟩))) [] [(.pointer (some ⟨pb, 0, none⟩), .ptr [.v (.int .i64 f.at'), .v (.iface 156 (.pointer (some (er f.code))))])])
set_option maxHeartbeats 2000000 in
theorem checkCommit {w : World} {S : Nat → Prop} {er : Nat → Addr} {eb : Nat → Array Value × TypeId} {a1 a2 : Option Addr} {n1 c1 n2 c2 : Nat} {c : ComT} (hC : Rep w S .nilIface (dC er eb)) (h1 : Rep w S (.slice a1 n1 c1) (dInts c.when)) (h2 : Rep w S (.slice a2 n2 c2) (.sl 7 (c.ops.map eOp))) (hl1 : c.when.length ≤ 1000000) (hl2 : c.ops.length ≤ 1000000) :
    Calls Tryd.prog 22 #[.agg #[.slice a1 n1 c1, .int .i64 c.place, .slice a2 n2 c2]] w fun e w' => FRet w S w' e er (comFault c) := by
  obtain rfl := rep_ints_len h1
  have e2 := h2.slen
  rw [List.length_map] at e2
  subst e2
  refine ep22 (args := [.agg #[.slice a1 c.when.length c1, .int .i64 c.place, .slice a2 c.ops.length c2]]) (G := [(_, dC er eb), (_, dInts c.when), (_, .sl 7 (c.ops.map eOp))]) (by kernel_rfl) (.cons hC (.cons h1 (.cons h2 (.nil _ _)))) ?_
  refine J_stp (stp_all 0 [1, 2] rfl rfl) ?_
  refine J_glob 3 rfl (fun csg1 tyg1 fzg1 hglob1 => ?_)
  refine J_glob 4 rfl (fun csg2 tyg2 fzg2 hglob2 => ?_)
  try simp only [aQ]
  refine J_seq ?_
  refine Zm [.wr 0 [] 0, .rd 1 [] 0 0] [] [0] (fun nu1 => [(1, .val (.pointer (some (⟨nu1 0, 0, none⟩)))), (2, .val (.nilIface))]) (fun nu1 => [(nu1 0, .cells #[.slice a1 c.when.length c1, .int .i64 c.place, .slice a2 c.ops.length c2] 37 (0, 0))]) (fun nu1 => ?_)
  refine J_seq ?_
  refine J_seq ?_
  refine jT [(0, true), (1, true), (2, false), (3, true)] [] ?_
  refine Ya (id := 1) (rest := [(2, false), (3, true)]) [.rd 0 [] 0 0, .rd 1 [.o 0 none] 0 0] [] [(8, .val (.slice a1 c.when.length c1))] ?_
  refine Yc 31 #[.slice a1 c.when.length c1] (some 9) fun w S hG => ?_
  refine (vcheck (globs_of (hG.at 0 rfl)) (hG.at 1 rfl) hl1).mono ?_
  rintro e1 w1 ⟨v, hR, hv⟩
  refine ⟨_, _, _, hR, ?_⟩
  obtain ⟨hv0, rfl⟩ | ⟨hv0, rfl⟩ := hv
  · try simp only [aQ]
    refine Ya (id := 1) (rest := []) [.rd 3 [] 0 0] [9, 8] [(3, .val (.nilIface))] ?_
    refine JR_end ?_
    refine J_seq ?_
    refine Za [.rd 0 [] 0 0, .rd 1 [] 0 0] [] [(11, .val (.bool false))] ?_
    refine J_cond_f (by kernel_rfl) (by kernel_rfl) ?_
    refine J_skip ?_
    refine J_seq ?_
    refine J_seq ?_
    by_cases hb : c.place < 0 ∨ c.when.length ≤ c.place
    · have e : comFault c = ⟨2, -1⟩ := by rw [comFault, if_neg (by simp [hv0]), if_pos (by omega)]
      rcases (by omega : c.place < 0 ∨ (0 ≤ c.place ∧ c.when.length ≤ c.place)) with hb1 | ⟨hb1, hb2⟩
      · refine Zp [.rd 0 [] 0 0, .rd 1 [.o 0 none] 0 0, .rd 2 [] 0 6, .rd 3 [] 0 0, .rd 4 [] 1 0, .rd 5 [] 1 0, .rd 6 [] 1 0, .rd 7 [] 1 0, .rd 8 [] 1 0, .rd 9 [] 1 0, .rd 10 [] 0 0, .rd 11 [] 0 0, .rd 12 [] 1 0, .rd 13 [] 1 0, .rd 14 [] 1 0, .rd 15 [] 1 0, .rd 16 [] 1 0, .rd 17 [] 1 0, .rd 18 [] 1 0, .rd 19 [] 0 0, .rd 20 [] 0 0, .rd 21 [] 1 0, .rd 22 [] 1 0, .rd 23 [] 1 0, .rd 24 [] 1 0, .rd 25 [] 0 0] [11, 3] [(38, .val (.bool true))] [decide (c.place < (0 : Int)) = true] ⟨by simp; omega, trivial⟩ ?_
        refine J_cond_t (by kernel_rfl) (by kernel_rfl) ?_
        refine J_seq ?_
        refine Zp [.rd 0 [.r 0 (some (.iface 156 (.pointer (some (er 2)))))] 0 0, .rd 1 [] 0 0] [38] [(2, .val (.iface 156 (.pointer (some (er 2)))))] [csg1[(0 : Nat)]? = some (Value.iface (156 : Nat) (Value.pointer (some (er (2 : Nat)))))] ⟨hglob1, trivial⟩ ?_
        refine Yr [[]] (.iface 156 (.pointer (some (er 2)))) fun a w s => ?_
        rw [e]
        exact .inl ⟨rfl, _, s.ret (by simp) [] [] rfl rfl, .inr ⟨by decide, rfl⟩⟩
      · refine Zp [.rd 0 [] 0 0, .rd 1 [.o 0 none] 0 0, .rd 2 [] 0 7, .rd 3 [] 0 0, .rd 4 [] 0 0, .rd 5 [.o 0 none] 0 0, .rd 6 [] 0 0, .rd 7 [.o 0 none] 0 0, .rd 8 [] 0 0, .rd 9 [] 0 6, .rd 10 [] 0 0, .rd 11 [] 0 0, .rd 12 [] 1 0, .rd 13 [] 1 0, .rd 14 [] 1 0, .rd 15 [] 1 0, .rd 16 [] 1 0, .rd 17 [] 1 0, .rd 18 [] 1 0, .rd 19 [] 0 0, .rd 20 [] 0 0, .rd 21 [] 1 0, .rd 22 [] 1 0, .rd 23 [] 1 0, .rd 24 [] 1 0, .rd 25 [] 0 0] [11, 3] [(38, .val (.bool true))] [decide (c.place < (0 : Int)) = false, decide (c.place ≥ (↑c.when.length : Int)) = true] ⟨by simp; omega, by simp; omega, trivial⟩ ?_
        refine J_cond_t (by kernel_rfl) (by kernel_rfl) ?_
        refine J_seq ?_
        refine Zp [.rd 0 [.r 0 (some (.iface 156 (.pointer (some (er 2)))))] 0 0, .rd 1 [] 0 0] [38] [(2, .val (.iface 156 (.pointer (some (er 2)))))] [csg1[(0 : Nat)]? = some (Value.iface (156 : Nat) (Value.pointer (some (er (2 : Nat)))))] ⟨hglob1, trivial⟩ ?_
        refine Yr [[]] (.iface 156 (.pointer (some (er 2)))) fun a w s => ?_
        rw [e]
        exact .inl ⟨rfl, _, s.ret (by simp) [] [] rfl rfl, .inr ⟨by decide, rfl⟩⟩
    obtain ⟨t, ht⟩ : ∃ t, c.when[c.place.toNat]? = some t := ⟨_, List.getElem?_eq_getElem (by omega)⟩
    have hg : ¬ (vecErr c.when ≠ 0) := by simp [hv0]
    refine J_read0 1 rfl c.place.toNat (map_at ht) (by kernel_rfl) (fun b1 off1 cs1 ty1 fz1 ha1 hrd1 => ?_)
    cases ha1
    have hrd1_0 := rd0 (hrd1 0 _ rfl)
    by_cases h0 : t = 0
    · have e : comFault c = ⟨2, -1⟩ := by
        by_cases h12 : 12 < c.ops.length
        · rw [comFault, if_neg hg, if_pos (by omega)]
        · rw [comFault, if_neg hg, if_neg (by omega), if_pos (by rw [ht, h0])]
      try simp only [aQ]
      refine Zp ([.rd 0 [] 0 0, .rd 1 [.o 0 none] 0 0, .rd 2 [] 0 7, .rd 3 [] 0 0, .rd 4 [] 0 0, .rd 5 [.o 0 none] 0 0, .rd 6 [] 0 0, .rd 7 [.o 0 none] 0 0, .rd 8 [] 0 0, .rd 9 [] 0 7] ++ Rds 10 13 ++ [.rd 13 [.o 0 none] 0 0, .rd 14 [] 0 0, .rd 15 [.o 0 none] 0 0, .rd 16 [] 0 2, .rd 17 [.r 2 (some (.int .i64 t))] 0 0, .rd 18 [] 0 6, .rd 19 [] 0 0, .rd 20 [] 0 0, .rd 21 [] 1 0, .rd 22 [] 1 0, .rd 23 [] 1 0, .rd 24 [] 1 0, .rd 25 [] 0 0]) [11, 3] [(38, .val (.bool true))] [decide (c.place < (0 : Int)) = false, decide (c.place ≥ (↑c.when.length : Int)) = false, (0 : Int) ≤ c.place, c.place < (↑c.when.length : Int), cs1[off1 + c.place.toNat * (1 : Nat)]? = some (Value.int IntKind.i64 t), (t == (0 : Int)) = true] ⟨by simp; omega, by simp; omega, by omega, by omega, hrd1_0, by simp; omega, trivial⟩ ?_
      refine J_cond_t (by kernel_rfl) (by kernel_rfl) ?_
      refine J_seq ?_
      refine Zp [.rd 0 [.r 0 (some (.iface 156 (.pointer (some (er 2)))))] 0 0, .rd 1 [] 0 0] [38] [(2, .val (.iface 156 (.pointer (some (er 2)))))] [csg1[(0 : Nat)]? = some (Value.iface (156 : Nat) (Value.pointer (some (er (2 : Nat)))))] ⟨hglob1, trivial⟩ ?_
      refine Yr [[]] (.iface 156 (.pointer (some (er 2)))) fun a w s => ?_
      rw [e]
      exact .inl ⟨rfl, _, s.ret (by simp) [] [] rfl rfl, .inr ⟨by decide, rfl⟩⟩
    have h00 : ¬ c.when[c.place.toNat]? = some 0 := by rw [ht]; simpa using h0
    by_cases h12 : 12 < c.ops.length
    · have e : comFault c = ⟨2, -1⟩ := by rw [comFault, if_neg hg, if_pos (by omega)]
      try simp only [aQ]
      refine Zp ([.rd 0 [] 0 0, .rd 1 [.o 0 none] 0 0, .rd 2 [] 0 7, .rd 3 [] 0 0, .rd 4 [] 0 0, .rd 5 [.o 0 none] 0 0, .rd 6 [] 0 0, .rd 7 [.o 0 none] 0 0, .rd 8 [] 0 0, .rd 9 [] 0 7] ++ Rds 10 13 ++ [.rd 13 [.o 0 none] 0 0, .rd 14 [] 0 0, .rd 15 [.o 0 none] 0 0, .rd 16 [] 0 2, .rd 17 [.r 2 (some (.int .i64 t))] 0 0, .rd 18 [] 0 7] ++ Rds 19 22 ++ [.rd 22 [.o 0 none] 0 0, .rd 23 [] 0 0, .rd 24 [] 0 6, .rd 25 [] 0 0]) [11, 3] [(38, .val (.bool true))] [decide (c.place < (0 : Int)) = false, decide (c.place ≥ (↑c.when.length : Int)) = false, (0 : Int) ≤ c.place, c.place < (↑c.when.length : Int), cs1[off1 + c.place.toNat * (1 : Nat)]? = some (Value.int IntKind.i64 t), (t == (0 : Int)) = false, decide ((↑c.ops.length : Int) > (12 : Int)) = true] ⟨by simp; omega, by simp; omega, by omega, by omega, hrd1_0, by simp; omega, by simp; omega, trivial⟩ ?_
      refine J_cond_t (by kernel_rfl) (by kernel_rfl) ?_
      refine J_seq ?_
      refine Zp [.rd 0 [.r 0 (some (.iface 156 (.pointer (some (er 2)))))] 0 0, .rd 1 [] 0 0] [38] [(2, .val (.iface 156 (.pointer (some (er 2)))))] [csg1[(0 : Nat)]? = some (Value.iface (156 : Nat) (Value.pointer (some (er (2 : Nat)))))] ⟨hglob1, trivial⟩ ?_
      refine Yr [[]] (.iface 156 (.pointer (some (er 2)))) fun a w s => ?_
      rw [e]
      exact .inl ⟨rfl, _, s.ret (by simp) [] [] rfl rfl, .inr ⟨by decide, rfl⟩⟩
    have hb2 : ¬ (c.place < 0 ∨ c.when.length ≤ c.place ∨ 12 < c.ops.length) := by omega
    try simp only [aQ]
    refine Zp ([.rd 0 [] 0 0, .rd 1 [.o 0 none] 0 0, .rd 2 [] 0 7, .rd 3 [] 0 0, .rd 4 [] 0 0, .rd 5 [.o 0 none] 0 0, .rd 6 [] 0 0, .rd 7 [.o 0 none] 0 0, .rd 8 [] 0 0, .rd 9 [] 0 7] ++ Rds 10 13 ++ [.rd 13 [.o 0 none] 0 0, .rd 14 [] 0 0, .rd 15 [.o 0 none] 0 0, .rd 16 [] 0 2, .rd 17 [.r 2 (some (.int .i64 t))] 0 0, .rd 18 [] 0 7] ++ Rds 19 22 ++ [.rd 22 [.o 0 none] 0 0, .rd 23 [] 0 0, .rd 24 [] 0 7, .rd 25 [] 0 0]) [11, 3] [(38, .val (.bool false))] [decide (c.place < (0 : Int)) = false, decide (c.place ≥ (↑c.when.length : Int)) = false, (0 : Int) ≤ c.place, c.place < (↑c.when.length : Int), cs1[off1 + c.place.toNat * (1 : Nat)]? = some (Value.int IntKind.i64 t), (t == (0 : Int)) = false, decide ((↑c.ops.length : Int) > (12 : Int)) = false] ⟨by simp; omega, by simp; omega, by omega, by omega, hrd1_0, by simp; omega, by simp; omega, trivial⟩ ?_
    refine J_cond_f (by kernel_rfl) (by kernel_rfl) ?_
    refine J_skip ?_
    refine J_seq ?_
    refine J_seq ?_
    refine Za [.rd 0 [] 0 0, .rd 1 [.o 0 none] 0 0, .rd 2 [] 0 0, .rd 3 [] 0 0] [38] [(43, .val (.bool ((↑c.ops.length : Int) == 0)))] ?_
    refine J_cond (t := (↑c.ops.length : Int) == 0) (by kernel_rfl) (by kernel_rfl) (fun hz => ?_) (fun hz => ?_)
    · have e : comFault c = ⟨3, -1⟩ := by rw [comFault, if_neg hg, if_neg hb2, if_neg h00, if_pos (by simp at hz; simp [hz])]
      refine J_seq ?_
      refine Zp [.rd 0 [.r 1 (some (.iface 156 (.pointer (some (er 3)))))] 0 0, .rd 1 [] 0 0] [43] [(2, .val (.iface 156 (.pointer (some (er 3)))))] [csg2[(0 : Nat)]? = some (Value.iface (156 : Nat) (Value.pointer (some (er (3 : Nat)))))] ⟨hglob2, trivial⟩ ?_
      refine Yr [[]] (.iface 156 (.pointer (some (er 3)))) fun a w s => ?_
      rw [e]
      exact .inl ⟨rfl, _, s.ret (by simp) [] [] rfl rfl, .inr ⟨by decide, rfl⟩⟩
    have hz2 : ¬ c.ops.length = 0 := by simp at hz; simp [hz]
    have e : comFault c = opsFault c.ops c.when.length c.ops.length 0 := by rw [comFault, if_neg hg, if_neg hb2, if_neg h00, if_neg hz2]
    rw [e]
    refine J_skip ?_
    refine J_seq ?_
    refine J_seq ?_
    refine Za [.rd 0 [] 0 0, .rd 1 [.o 0 none] 0 0, .rd 2 [] 0 0, .rd 3 [] 0 0] [43] [(46, .val (.slice a2 c.ops.length c2)), (47, .val (.int .i64 (↑c.ops.length : Int))), (48, .val (.int .i64 0))] ?_
    refine J_block ?_
    refine J_loopx (fun i : Int => [(1, .val (.pointer (some (⟨nu1 0, 0, none⟩)))), (2, .val (.nilIface)), (46, .val (.slice a2 c.ops.length c2)), (47, .val (.int .i64 (↑c.ops.length : Int))), (48, .val (.int .i64 i))]) (fun i : Int => [(nu1 0, .cells #[.slice (some (⟨b1, off1, none⟩)) c.when.length c1, .int .i64 c.place, .slice a2 c.ops.length c2] 37 (0, 0))]) (fun i : Int => []) (fun i : Int => [(.nilIface, (dC er eb)), (.slice (some (⟨b1, off1, none⟩)) c.when.length c1, (dInts c.when)), (.slice a2 c.ops.length c2, (D.sl 7 (List.map eOp c.ops))), (.pointer (some (⟨1, 0, none⟩)), (D.ptr [D.v (Value.iface 156 (Value.pointer (some (er 2))))])), (.pointer (some (⟨3, 0, none⟩)), (D.ptr [D.v (Value.iface 156 (Value.pointer (some (er 3))))]))]) (fun i : Int => (c.ops.length - i).toNat) (fun i : Int => (0 ≤ i ∧ i ≤ c.ops.length ∧ ∀ j : Nat, 0 ≤ j → j < i.toNat → opErrAt c.ops c.when.length j = 0)) 0 [1, 2, 46, 47, 48] [0] [] [0, 1, 2, 3, 4] ?_ (by kernel_rfl) rfl rfl rfl ?_
    · exact ⟨by simp, by omega, by simp⟩
    rintro i ⟨hi0, hi, hno⟩
    refine J_seq ?_
    refine Za [.rd 0 [] 0 0] [] [(49, .val (.bool (decide (i < (↑c.ops.length : Int)))))] ?_
    refine J_seq ?_
    refine J_cond (t := decide (i < (↑c.ops.length : Int))) (by kernel_rfl) (by kernel_rfl) (fun hlt => ?_) (fun hlt => ?_)
    · have hlt2 : i < c.ops.length := by simpa using hlt
      obtain ⟨o, ho⟩ : ∃ o, c.ops[i.toNat]? = some o := ⟨_, List.getElem?_eq_getElem (by omega)⟩
      have hit : ∀ k : Nat, opErrAt c.ops c.when.length i.toNat = k → k ≠ 0 → opsFault c.ops c.when.length c.ops.length 0 = ⟨k, i⟩ := fun k hk h0 => by
        rw [(opsFault_from c.ops.length 0 i.toNat (Nat.zero_le _) hno).2 (by omega) (by rw [hk]; exact h0), hk]
        congr 1
        omega
      have next : opErrAt c.ops c.when.length i.toNat = 0 → 0 ≤ i + 1 ∧ i + 1 ≤ c.ops.length ∧ ∀ j : Nat, 0 ≤ j → j < (i + 1).toNat → opErrAt c.ops c.when.length j = 0 := fun h => ⟨by omega, by omega, fun j h0 hj => by
        by_cases hji : j = i.toNat
        · rw [hji]; exact h
        · exact hno j h0 (by omega)⟩
      refine J_glob 4 rfl (fun csg3 tyg3 fzg3 hglob3 => ?_)
      refine J_read1 2 rfl i.toNat (map_at ho) (by kernel_rfl) (fun b2 off2 cs2 ty2 fz2 a2_0 c2_0 ha2 hrd2 => ?_)
      cases ha2
      have hrd2_0 := rd0 (hrd2 0 _ rfl)
      have hrd2_1 := hrd2 1 _ rfl
      have hrd2_2 := hrd2 2 _ rfl
      have hrd2_3 := hrd2 3 _ rfl
      have hrd2_4 := hrd2 4 _ rfl
      have hrd2_5 := hrd2 5 _ rfl
      have hrd2_6 := hrd2 6 _ rfl
      by_cases hi1 : i = 0
      · have hz0 : i.toNat = 0 := by omega
        try simp only [aQ]
        refine J_skip ?_
        refine J_seq ?_
        refine J_block ?_
        refine J_seq ?_
        refine Zn [.rd 0 [] 0 0, .rd 1 [] 0 2, .rd 2 [.r 4 (some (.int .i64 o.no)), .r 4 (some (.string o.key)), .r 4 (some (.int .i64 o.kind)), .r 4 (some (.string o.text)), .r 4 (some (.int .i64 o.n)), .r 4 (some (.bool o.remove)), .r 4 (some (.slice (a2_0, c2_0).fst ((List.map eDot o.dots).length) c2_0))] 0 0, .wr 3 [] 0, .rd 4 [] 0 0, .wr 5 [.o 1 none, .o 1 none, .o 1 none, .o 1 none, .o 1 none, .o 1 none, .o 1 none] 0] [(5, [])] [49] (fun nu2 => [(4, .val (.int .i64 i)), (5, .val (.pointer (some (⟨nu2 0, 0, none⟩))))]) (fun nu2 => [(nu1 0, .cells #[.slice (some (⟨b1, off1, none⟩)) c.when.length c1, .int .i64 c.place, .slice (some (⟨b2, off2, none⟩)) c.ops.length c2] 37 (0, 0)), (nu2 0, .cells #[.int .i64 o.no, .string o.key, .int .i64 o.kind, .string o.text, .int .i64 o.n, .bool o.remove, .slice (a2_0, c2_0).fst ((List.map eDot o.dots).length) c2_0] 43 (0, 0))]) (fun nu2 => [(0 : Int) ≤ i, i < (↑c.ops.length : Int), cs2[off2 + i.toNat * (7 : Nat)]? = some (Value.int IntKind.i64 o.no), cs2[off2 + i.toNat * (7 : Nat) + (1 : Nat)]? = some (Value.string o.key), cs2[off2 + i.toNat * (7 : Nat) + (2 : Nat)]? = some (Value.int IntKind.i64 o.kind), cs2[off2 + i.toNat * (7 : Nat) + (3 : Nat)]? = some (Value.string o.text), cs2[off2 + i.toNat * (7 : Nat) + (4 : Nat)]? = some (Value.int IntKind.i64 o.n), cs2[off2 + i.toNat * (7 : Nat) + (5 : Nat)]? = some (Value.bool o.remove), cs2[off2 + i.toNat * (7 : Nat) + (6 : Nat)]? = some (Value.slice (a2_0, c2_0).fst (List.map eDot o.dots).length (a2_0, c2_0).snd)]) (fun _ => ⟨hi0, hlt2, hrd2_0, hrd2_1, hrd2_2, hrd2_3, hrd2_4, hrd2_5, hrd2_6, trivial⟩) (fun nu2 => ?_)
        refine J_seq ?_
        refine jT [(0, true), (1, true), (2, true), (3, true), (4, false), (5, true)] [] ?_
        refine Ya (id := 11) (rest := [(4, false), (5, true)]) [.rd 0 [.o 1 none, .o 1 none, .o 1 none, .o 1 none, .o 1 none, .o 1 none, .o 1 none] 0 0, .rd 1 [] 0 0, .rd 2 [.o 0 none] 0 0, .rd 3 [] 0 0] [] [(53, .val (.agg #[.int .i64 o.no, .string o.key, .int .i64 o.kind, .string o.text, .int .i64 o.n, .bool o.remove, .slice (a2_0, c2_0).fst ((List.map eDot o.dots).length) c2_0])), (56, .val (.int .i64 (↑c.when.length : Int)))] ?_
        refine Yc 37 #[.agg #[.int .i64 o.no, .string o.key, .int .i64 o.kind, .string o.text, .int .i64 o.n, .bool o.remove, .slice (a2_0, c2_0).fst ((List.map eDot o.dots).length) c2_0], .int .i64 (↑c.when.length : Int)] (some 57) fun w S hG => ?_
        refine (vCheckOp (o := o) (hG.at 0 rfl) (hG.at 5 rfl)).mono ?_
        rintro e1 w1 ⟨v, hR, hv⟩
        refine ⟨_, _, _, hR, ?_⟩
        obtain ⟨he, rfl⟩ | ⟨he, rfl⟩ := hv
        · try simp only [aQ]
          refine Ya (id := 11) (rest := []) [.rd 5 [] 0 0] [57, 53, 56] [(6, .val (.nilIface))] ?_
          refine JR_end ?_
          refine J_seq ?_
          refine J_seq ?_
          refine Zp (Rds 0 4 ++ [.rd 4 [] 0 7, .rd 5 [] 0 0, .rd 6 [] 0 0, .rd 7 [] 1 0, .rd 8 [] 1 0, .rd 9 [] 1 0, .rd 10 [] 1 0, .rd 11 [] 1 0, .rd 12 [] 1 0, .rd 13 [] 1 0, .rd 14 [] 1 0, .rd 15 [] 1 0, .rd 16 [] 1 0, .rd 17 [] 0 0]) [] [(75, .val (.bool false))] [decide (i > (0 : Int)) = false] ⟨by simp; omega, trivial⟩ ?_
          refine J_cond_f (by kernel_rfl) (by kernel_rfl) ?_
          refine J_skip ?_
          refine J_seq ?_
          refine Za [.rd 0 [] 0 0, .rd 1 [] 0 0] [75] [(78, .val (.bool false))] ?_
          refine J_cond_f (by kernel_rfl) (by kernel_rfl) ?_
          refine J_skip ?_
          refine J_eb ?_
          refine Zp [.rd 0 [] 0 1, .rd 1 [] 0 0] [78] [(48, .val (.int .i64 (i + 1)))] [IntKind.i64.wrap (i + (1 : Int)) = i + (1 : Int)] ⟨wrap_i64 (by omega) (by omega), trivial⟩ ?_
          refine J_backx (i + 1) [1, 2, 46, 47, 48] [0] [] [0, 1, 2, 3, 4] ?_ ?_ (by kernel_rfl) rfl rfl rfl
          · exact next (by rw [hz0] at ho ⊢; exact opErrAt_first ho he)
          · omega
        · try simp only [aQ]
          refine Ya (id := 11) (rest := []) [.rd 5 [] 0 0] [57, 53, 56] [(6, .val (.iface 156 (.pointer (some (er (opErr o (↑c.when.length : Int)))))))] ?_
          refine JR_end ?_
          refine J_seq ?_
          refine J_seq ?_
          refine Za (Rds 0 3 ++ [.rd 3 [] 1 0, .rd 4 [] 1 0, .rd 5 [] 0 0, .rd 6 [] 0 0, .rd 7 [] 1 0, .rd 8 [] 1 0, .rd 9 [] 1 0, .rd 10 [] 1 0, .rd 11 [] 1 0, .rd 12 [] 1 0, .rd 13 [] 1 0, .rd 14 [] 1 0, .rd 15 [] 1 0, .rd 16 [] 1 0, .rd 17 [] 0 0]) [] [(75, .val (.bool false))] ?_
          refine J_cond_f (by kernel_rfl) (by kernel_rfl) ?_
          refine J_skip ?_
          refine J_seq ?_
          refine Za [.rd 0 [] 0 0, .rd 1 [] 0 0] [75] [(78, .val (.bool true))] ?_
          refine J_cond_t (by kernel_rfl) (by kernel_rfl) ?_
          refine J_seq ?_
          refine Zm (Rds 0 3 ++ [.wr 3 [] 0, .rd 4 [] 0 0, .rd 5 [] 0 0]) [] [78] (fun nu3 => [(2, .val (.iface 79 (.pointer (some (⟨nu3 0, 0, none⟩)))))]) (fun nu3 => [(nu1 0, .cells #[.slice (some (⟨b1, off1, none⟩)) c.when.length c1, .int .i64 c.place, .slice (some (⟨b2, off2, none⟩)) c.ops.length c2] 37 (0, 0)), (nu2 0, .cells #[.int .i64 o.no, .string o.key, .int .i64 o.kind, .string o.text, .int .i64 o.n, .bool o.remove, .slice a2_0 ((List.map eDot o.dots).length) c2_0] 43 (0, 0)), (nu3 0, .cells #[.int .i64 i, .iface 156 (.pointer (some (er (opErr o (↑c.when.length : Int)))))] 83 (0, 0))]) (fun nu3 => ?_)
          refine Yr [[]] (.iface 79 (.pointer (some (⟨nu3 0, 0, none⟩)))) fun a w s => ?_
          rw [hit _ (opErrAt_own ho he) he]
          exact .inr ⟨by simp only; omega, hi0, _, ((s.share 2 rfl).stp (stp_fact fun w S H => ptr_of_obj rfl rfl (H (_, _) (List.mem_of_getElem? (i := 6) rfl)))).ret (by simp) [] [7] rfl rfl⟩
      · obtain ⟨q, hq⟩ : ∃ q, c.ops[(i - 1).toNat]? = some q := ⟨_, List.getElem?_eq_getElem (by omega)⟩
        have hii : i.toNat = (i - 1).toNat + 1 := by omega
        refine J_again1 2 rfl 4 rfl ((i - 1).toNat) (map_at hq) (by kernel_rfl) (fun a3_0 c3_0 hrd3 => ?_)
        have hrd3_0 := rd0 (hrd3 0 _ rfl)
        have hrd3_1 := hrd3 1 _ rfl
        have hrd3_2 := hrd3 2 _ rfl
        have hrd3_3 := hrd3 3 _ rfl
        have hrd3_4 := hrd3 4 _ rfl
        have hrd3_5 := hrd3 5 _ rfl
        have hrd3_6 := hrd3 6 _ rfl
        try simp only [aQ]
        refine J_skip ?_
        refine J_seq ?_
        refine J_block ?_
        refine J_seq ?_
        refine Zn [.rd 0 [] 0 0, .rd 1 [] 0 2, .rd 2 [.r 4 (some (.int .i64 o.no)), .r 4 (some (.string o.key)), .r 4 (some (.int .i64 o.kind)), .r 4 (some (.string o.text)), .r 4 (some (.int .i64 o.n)), .r 4 (some (.bool o.remove)), .r 4 (some (.slice (a2_0, c2_0).fst ((List.map eDot o.dots).length) c2_0))] 0 0, .wr 3 [] 0, .rd 4 [] 0 0, .wr 5 [.o 1 none, .o 1 none, .o 1 none, .o 1 none, .o 1 none, .o 1 none, .o 1 none] 0] [(5, [])] [49] (fun nu2 => [(4, .val (.int .i64 i)), (5, .val (.pointer (some (⟨nu2 0, 0, none⟩))))]) (fun nu2 => [(nu1 0, .cells #[.slice (some (⟨b1, off1, none⟩)) c.when.length c1, .int .i64 c.place, .slice (some (⟨b2, off2, none⟩)) c.ops.length c2] 37 (0, 0)), (nu2 0, .cells #[.int .i64 o.no, .string o.key, .int .i64 o.kind, .string o.text, .int .i64 o.n, .bool o.remove, .slice (a2_0, c2_0).fst ((List.map eDot o.dots).length) c2_0] 43 (0, 0))]) (fun nu2 => [(0 : Int) ≤ i, i < (↑c.ops.length : Int), cs2[off2 + i.toNat * (7 : Nat)]? = some (Value.int IntKind.i64 o.no), cs2[off2 + i.toNat * (7 : Nat) + (1 : Nat)]? = some (Value.string o.key), cs2[off2 + i.toNat * (7 : Nat) + (2 : Nat)]? = some (Value.int IntKind.i64 o.kind), cs2[off2 + i.toNat * (7 : Nat) + (3 : Nat)]? = some (Value.string o.text), cs2[off2 + i.toNat * (7 : Nat) + (4 : Nat)]? = some (Value.int IntKind.i64 o.n), cs2[off2 + i.toNat * (7 : Nat) + (5 : Nat)]? = some (Value.bool o.remove), cs2[off2 + i.toNat * (7 : Nat) + (6 : Nat)]? = some (Value.slice (a2_0, c2_0).fst (List.map eDot o.dots).length (a2_0, c2_0).snd)]) (fun _ => ⟨hi0, hlt2, hrd2_0, hrd2_1, hrd2_2, hrd2_3, hrd2_4, hrd2_5, hrd2_6, trivial⟩) (fun nu2 => ?_)
        refine J_seq ?_
        refine jT [(0, true), (1, true), (2, true), (3, true), (4, false), (5, true)] [] ?_
        refine Ya (id := 11) (rest := [(4, false), (5, true)]) [.rd 0 [.o 1 none, .o 1 none, .o 1 none, .o 1 none, .o 1 none, .o 1 none, .o 1 none] 0 0, .rd 1 [] 0 0, .rd 2 [.o 0 none] 0 0, .rd 3 [] 0 0] [] [(53, .val (.agg #[.int .i64 o.no, .string o.key, .int .i64 o.kind, .string o.text, .int .i64 o.n, .bool o.remove, .slice (a2_0, c2_0).fst ((List.map eDot o.dots).length) c2_0])), (56, .val (.int .i64 (↑c.when.length : Int)))] ?_
        refine Yc 37 #[.agg #[.int .i64 o.no, .string o.key, .int .i64 o.kind, .string o.text, .int .i64 o.n, .bool o.remove, .slice (a2_0, c2_0).fst ((List.map eDot o.dots).length) c2_0], .int .i64 (↑c.when.length : Int)] (some 57) fun w S hG => ?_
        refine (vCheckOp (o := o) (hG.at 0 rfl) (hG.at 5 rfl)).mono ?_
        rintro e1 w1 ⟨v, hR, hv⟩
        refine ⟨_, _, _, hR, ?_⟩
        obtain ⟨he, rfl⟩ | ⟨he, rfl⟩ := hv
        · have hn := opErrAt_next (p := c.when.length) (by rw [← hii]; exact ho) hq he
          rw [← hii] at hn
          by_cases hno2 : o.no ≤ q.no
          · rw [if_pos hno2] at hn
            try simp only [aQ]
            refine Ya (id := 11) (rest := []) [.rd 5 [] 0 0] [57, 53, 56] [(6, .val (.nilIface))] ?_
            refine JR_end ?_
            refine J_seq ?_
            refine J_seq ?_
            refine Zp (Rds 0 4 ++ [.rd 4 [] 0 6] ++ Rds 5 8 ++ [.rd 8 [.o 1 none] 0 0, .rd 9 [] 0 0, .rd 10 [.o 0 none] 0 0, .rd 11 [] 0 0, .rd 12 [] 0 1, .rd 13 [] 0 2, .rd 14 [] 0 0, .rd 15 [.r 4 (some (.int .i64 q.no))] 0 0, .rd 16 [] 0 6, .rd 17 [] 0 0]) [] [(75, .val (.bool true))] [decide (i > (0 : Int)) = true, IntKind.i64.wrap (i - (1 : Int)) = i - (1 : Int), (0 : Int) ≤ i - (1 : Int), i - (1 : Int) < (↑c.ops.length : Int), cs2[off2 + (i - (1 : Int)).toNat * (7 : Nat)]? = some (Value.int IntKind.i64 q.no), decide (o.no ≤ q.no) = true] ⟨by simp; omega, wrap_i64 (by omega) (by omega), by omega, by omega, hrd3_0, by simp; omega, trivial⟩ ?_
            refine J_cond_t (by kernel_rfl) (by kernel_rfl) ?_
            refine Zp [.rd 0 [.r 1 (some (.iface 156 (.pointer (some (er 3)))))] 0 0, .rd 1 [] 0 0] [75] [(6, .val (.iface 156 (.pointer (some (er 3)))))] [csg2[(0 : Nat)]? = some (Value.iface (156 : Nat) (Value.pointer (some (er (3 : Nat)))))] ⟨hglob2, trivial⟩ ?_
            refine J_seq ?_
            refine Za [.rd 0 [] 0 0, .rd 1 [] 0 0] [] [(78, .val (.bool true))] ?_
            refine J_cond_t (by kernel_rfl) (by kernel_rfl) ?_
            refine J_seq ?_
            refine Zm (Rds 0 3 ++ [.wr 3 [] 0, .rd 4 [] 0 0, .rd 5 [] 0 0]) [] [78] (fun nu3 => [(2, .val (.iface 79 (.pointer (some (⟨nu3 0, 0, none⟩)))))]) (fun nu3 => [(nu1 0, .cells #[.slice (some (⟨b1, off1, none⟩)) c.when.length c1, .int .i64 c.place, .slice (some (⟨b2, off2, none⟩)) c.ops.length c2] 37 (0, 0)), (nu2 0, .cells #[.int .i64 o.no, .string o.key, .int .i64 o.kind, .string o.text, .int .i64 o.n, .bool o.remove, .slice a2_0 ((List.map eDot o.dots).length) c2_0] 43 (0, 0)), (nu3 0, .cells #[.int .i64 i, .iface 156 (.pointer (some (er 3)))] 83 (0, 0))]) (fun nu3 => ?_)
            refine Yr [[]] (.iface 79 (.pointer (some (⟨nu3 0, 0, none⟩)))) fun a w s => ?_
            rw [hit _ hn (by decide)]
            exact .inr ⟨by simp only; omega, hi0, _, ((s.share 2 rfl).stp (stp_fact fun w S H => ptr_of_obj rfl rfl (H (_, _) (List.mem_of_getElem? (i := 7) rfl)))).ret (by simp) [] [8] rfl rfl⟩
          · rw [if_neg hno2] at hn
            try simp only [aQ]
            refine Ya (id := 11) (rest := []) [.rd 5 [] 0 0] [57, 53, 56] [(6, .val (.nilIface))] ?_
            refine JR_end ?_
            refine J_seq ?_
            refine J_seq ?_
            refine Zp (Rds 0 4 ++ [.rd 4 [] 0 6] ++ Rds 5 8 ++ [.rd 8 [.o 1 none] 0 0, .rd 9 [] 0 0, .rd 10 [.o 0 none] 0 0, .rd 11 [] 0 0, .rd 12 [] 0 1, .rd 13 [] 0 2, .rd 14 [] 0 0, .rd 15 [.r 4 (some (.int .i64 q.no))] 0 0, .rd 16 [] 0 7, .rd 17 [] 0 0]) [] [(75, .val (.bool false))] [decide (i > (0 : Int)) = true, IntKind.i64.wrap (i - (1 : Int)) = i - (1 : Int), (0 : Int) ≤ i - (1 : Int), i - (1 : Int) < (↑c.ops.length : Int), cs2[off2 + (i - (1 : Int)).toNat * (7 : Nat)]? = some (Value.int IntKind.i64 q.no), decide (o.no ≤ q.no) = false] ⟨by simp; omega, wrap_i64 (by omega) (by omega), by omega, by omega, hrd3_0, by simp; omega, trivial⟩ ?_
            refine J_cond_f (by kernel_rfl) (by kernel_rfl) ?_
            refine J_skip ?_
            refine J_seq ?_
            refine Za [.rd 0 [] 0 0, .rd 1 [] 0 0] [75] [(78, .val (.bool false))] ?_
            refine J_cond_f (by kernel_rfl) (by kernel_rfl) ?_
            refine J_skip ?_
            refine J_eb ?_
            refine Zp [.rd 0 [] 0 1, .rd 1 [] 0 0] [78] [(48, .val (.int .i64 (i + 1)))] [IntKind.i64.wrap (i + (1 : Int)) = i + (1 : Int)] ⟨wrap_i64 (by omega) (by omega), trivial⟩ ?_
            refine J_backx (i + 1) [1, 2, 46, 47, 48] [0] [] [0, 1, 2, 3, 4] ?_ ?_ (by kernel_rfl) rfl rfl rfl
            · exact next hn
            · omega
        · try simp only [aQ]
          refine Ya (id := 11) (rest := []) [.rd 5 [] 0 0] [57, 53, 56] [(6, .val (.iface 156 (.pointer (some (er (opErr o (↑c.when.length : Int)))))))] ?_
          refine JR_end ?_
          refine J_seq ?_
          refine J_seq ?_
          refine Za (Rds 0 3 ++ [.rd 3 [] 1 0, .rd 4 [] 1 0, .rd 5 [] 0 0, .rd 6 [] 0 0, .rd 7 [] 1 0, .rd 8 [] 1 0, .rd 9 [] 1 0, .rd 10 [] 1 0, .rd 11 [] 1 0, .rd 12 [] 1 0, .rd 13 [] 1 0, .rd 14 [] 1 0, .rd 15 [] 1 0, .rd 16 [] 1 0, .rd 17 [] 0 0]) [] [(75, .val (.bool false))] ?_
          refine J_cond_f (by kernel_rfl) (by kernel_rfl) ?_
          refine J_skip ?_
          refine J_seq ?_
          refine Za [.rd 0 [] 0 0, .rd 1 [] 0 0] [75] [(78, .val (.bool true))] ?_
          refine J_cond_t (by kernel_rfl) (by kernel_rfl) ?_
          refine J_seq ?_
          refine Zm (Rds 0 3 ++ [.wr 3 [] 0, .rd 4 [] 0 0, .rd 5 [] 0 0]) [] [78] (fun nu3 => [(2, .val (.iface 79 (.pointer (some (⟨nu3 0, 0, none⟩)))))]) (fun nu3 => [(nu1 0, .cells #[.slice (some (⟨b1, off1, none⟩)) c.when.length c1, .int .i64 c.place, .slice (some (⟨b2, off2, none⟩)) c.ops.length c2] 37 (0, 0)), (nu2 0, .cells #[.int .i64 o.no, .string o.key, .int .i64 o.kind, .string o.text, .int .i64 o.n, .bool o.remove, .slice a2_0 ((List.map eDot o.dots).length) c2_0] 43 (0, 0)), (nu3 0, .cells #[.int .i64 i, .iface 156 (.pointer (some (er (opErr o (↑c.when.length : Int)))))] 83 (0, 0))]) (fun nu3 => ?_)
          refine Yr [[]] (.iface 79 (.pointer (some (⟨nu3 0, 0, none⟩)))) fun a w s => ?_
          rw [hit _ (opErrAt_own ho he) he]
          exact .inr ⟨by simp only; omega, hi0, _, ((s.share 2 rfl).stp (stp_fact fun w S H => ptr_of_obj rfl rfl (H (_, _) (List.mem_of_getElem? (i := 7) rfl)))).ret (by simp) [] [8] rfl rfl⟩
    · have hend : i.toNat = 0 + c.ops.length := by simp at hlt; omega
      rw [(opsFault_from c.ops.length 0 i.toNat (Nat.zero_le _) hno).1 hend]
      refine J_exit rfl ?_
      refine J_seq ?_
      refine Za [.rd 0 [] 0 0] [49, 1, 46, 47, 48] [] ?_
      refine Yr [[]] (.nilIface) fun a w s => ?_
      exact .inl ⟨rfl, _, s.ret (by simp) [] [] rfl rfl, .inl ⟨rfl, rfl⟩⟩
  · have e : comFault c = ⟨vecErr c.when, -1⟩ := by rw [comFault, if_pos hv0]
    try simp only [aQ]
    refine Ya (id := 1) (rest := []) [.rd 3 [] 0 0] [9, 8] [(3, .val (.iface 156 (.pointer (some (er (vecErr c.when))))))] ?_
    refine JR_end ?_
    refine J_seq ?_
    refine Za [.rd 0 [] 0 0, .rd 1 [] 0 0] [] [(11, .val (.bool true))] ?_
    refine J_cond_t (by kernel_rfl) (by kernel_rfl) ?_
    refine J_seq ?_
    refine Za [.rd 0 [] 0 0, .rd 1 [] 0 0] [11, 3] [(2, .val (.iface 156 (.pointer (some (er (vecErr c.when))))))] ?_
    refine Yr [[]] (.iface 156 (.pointer (some (er (vecErr c.when))))) fun a w s => ?_
    rw [e]
    exact .inl ⟨rfl, _, s.ret (by simp) [] [] rfl rfl, .inr ⟨hv0, rfl⟩⟩
end Go.Proofs.YtehdegekgdlifaaDoor
end
section
namespace Go.Sx
open Go
def wsum (xs : List Int) : Int := xs.foldl (· + ·) 0
structure DoneT where
  o : OpT
  d : DotT
  w : Int
def dotOf (c : ComT) (o : OpT) : DotT := ⟨c.place, c.when.getD c.place.toNat 0, o.no⟩
def doneOf (c : ComT) (o : OpT) : DoneT := ⟨o, dotOf c o, wsum c.when⟩
def allDone (l : List ComT) : List DoneT := l.flatMap fun c => c.ops.map (doneOf c)
def sumN (l : List DoneT) : Int := l.foldl (fun s x => s + x.o.n) 0
end Go.Sx
end
section
namespace Go.Proofs.YtehdegekgdlifaaDoor
open Go Go.Sx
abbrev dotV (d : DotT) : Value := .agg #[.int .i64 d.place, .int .i64 d.time, .int .i64 d.no]
end Go.Proofs.YtehdegekgdlifaaDoor
end
section
namespace Go.Proofs.YtehdegekgdlifaaDoor
open Go Go.Sx Go.MapKept
def okDot (v : Value) : Prop := ∃ a b c : Int, v = .agg #[.int .i64 a, .int .i64 b, .int .i64 c]
theorem sameBits_dot (n : Nat) (a b c : Int) : Instr.sameBits (n + 2) (.agg #[.int .i64 a, .int .i64 b, .int .i64 c]) (.agg #[.int .i64 a, .int .i64 b, .int .i64 c]) = true := by
  simp [Instr.sameBits]
set_option maxHeartbeats 4000000 in
theorem checkKey_dot (e : Bool) (n : Nat) (a b c : Int) (w : World) : (Instr.checkKey e (n + 2) 106 (.agg #[.int .i64 a, .int .i64 b, .int .i64 c])).run Tryd.prog w = .ok () w := by
  have hi : ∀ (x : Int) w, (Instr.checkKey e (n + 1) 3 (.int .i64 x)).run Tryd.prog w = .ok () w := fun x w => run_checkKey Tryd.underlying3 (by simp [IsKey]) e n
  rw [Instr.checkKey]
  simp [run_underlying Tryd.underlying106, hi, partI Tryd.underlying3, Result.andThen]
theorem keyOk_9 : KeyOk Tryd.prog 9 (IsKey .string) := .plain Tryd.underlying9
theorem keyOk_106 : KeyOk Tryd.prog 106 okDot := by
  refine .asking Tryd.underlying106 (fun x y _ _ => rfl) (fun e k hk w => ?_) (fun x y hx hy => ?_) fun k hk => ?_
  · obtain ⟨a, b, c, rfl⟩ := hk
    exact checkKey_dot e 9998 a b c w
  · obtain ⟨a, b, c, rfl⟩ := hx
    obtain ⟨a', b', c', rfl⟩ := hy
    refine ⟨decide (a = a' ∧ b = b' ∧ c = c'), fun w => eqDot 9998 a b c a' b' c' w, ?_⟩
    simp
  · obtain ⟨a, b, c, rfl⟩ := hk
    exact sameBits_dot 9998 a b c
end Go.Proofs.YtehdegekgdlifaaDoor
namespace Go.Proofs.YtehdegekgdlifaaDoor
open Go Go.Sx
def scanF (f : Nat → Nat) : Nat → Nat → FT
  | 0, _ => ⟨0, -1⟩
  | n + 1, i => if f i = 0 then scanF f n (i + 1) else ⟨f i, i⟩
theorem scanF_from {f : Nat → Nat} : ∀ (n k i : Nat), k ≤ i → (∀ j, k ≤ j → j < i → f j = 0) → (i = k + n → scanF f n k = ⟨0, -1⟩) ∧ (i < k + n → f i ≠ 0 → scanF f n k = ⟨f i, i⟩)
  | 0, k, i, hk, _ => ⟨fun _ => rfl, fun h => by omega⟩
  | n + 1, k, i, hk, h => by
    rcases Nat.eq_or_lt_of_le hk with rfl | hlt
    · refine ⟨fun he => by omega, fun _ hne => ?_⟩
      rw [scanF, if_neg hne]
    · obtain ⟨h1, h2⟩ := scanF_from n (k + 1) i hlt fun j hj1 hj2 => h j (by omega) hj2
      rw [scanF, if_pos (h k (Nat.le_refl _) hlt)]
      exact ⟨fun he => h1 (by omega), fun he => h2 (by omega)⟩
structure Right (c : ComT) : Prop where
  vec : vecErr c.when = 0
  p0 : 0 ≤ c.place
  p1 : c.place < c.when.length
  t0 : c.when[c.place.toNat]? ≠ some 0
  o1 : 1 ≤ c.ops.length
  o2 : c.ops.length ≤ 12
  op : opsFault c.ops c.when.length c.ops.length 0 = comFault c
theorem right_of {c : ComT} (h : (comFault c).code = 0) : Right c := by
  have key : ∀ {n : Nat} {a : Int}, comFault c = ⟨n, a⟩ → n ≠ 0 → False := fun he h0 => by rw [he] at h; exact h0 h
  by_cases h1 : vecErr c.when ≠ 0
  · exact (key (by rw [comFault, if_pos h1]) h1).elim
  · by_cases h2 : c.place < 0 ∨ c.when.length ≤ c.place ∨ 12 < c.ops.length
    · exact (key (n := 2) (a := -1) (by rw [comFault, if_neg h1, if_pos h2]) (by decide)).elim
    · by_cases h3 : c.when[c.place.toNat]? = some 0
      · exact (key (n := 2) (a := -1) (by rw [comFault, if_neg h1, if_neg h2, if_pos h3]) (by decide)).elim
      · by_cases h4 : c.ops.length = 0
        · exact (key (n := 3) (a := -1) (by rw [comFault, if_neg h1, if_neg h2, if_neg h3, if_pos h4]) (by decide)).elim
        · exact ⟨by simpa using h1, by omega, by omega, h3, by omega, by omega, by rw [comFault, if_neg h1, if_neg h2, if_neg h3, if_neg h4]⟩
open Classical in
noncomputable def dotSet (ds : List DotT) : Value → Option Value := fun v => if ∃ d ∈ ds, v = .agg #[.int .i64 d.place, .int .i64 d.time, .int .i64 d.no] then some (.bool true) else none
theorem dotSet_in {ds : List DotT} {d : DotT} (h : d ∈ ds) : dotSet ds (.agg #[.int .i64 d.place, .int .i64 d.time, .int .i64 d.no]) = some (.bool true) := by
  rw [dotSet, if_pos ⟨d, h, rfl⟩]
theorem dotSet_out {ds : List DotT} {d : DotT} (h : d ∉ ds) : dotSet ds (.agg #[.int .i64 d.place, .int .i64 d.time, .int .i64 d.no]) = none := by
  rw [dotSet, if_neg]
  rintro ⟨d', h1, h2⟩
  apply h
  have : d = d' := by
    cases d; cases d'
    simp at h2
    simp [h2]
  rw [this]
  exact h1
theorem dotSet_snoc {ds : List DotT} {d : DotT} (v : Value) : fput (dotSet ds) (.agg #[.int .i64 d.place, .int .i64 d.time, .int .i64 d.no]) (.bool true) v = dotSet (ds ++ [d]) v := by
  unfold fput dotSet
  by_cases hv : v = .agg #[.int .i64 d.place, .int .i64 d.time, .int .i64 d.no]
  · rw [if_pos hv, if_pos ⟨d, by simp, hv⟩]
  · rw [if_neg hv]
    by_cases h : ∃ d ∈ ds, v = .agg #[.int .i64 d.place, .int .i64 d.time, .int .i64 d.no]
    · obtain ⟨d', h1, h2⟩ := h
      rw [if_pos ⟨d', h1, h2⟩, if_pos ⟨d', by simp [h1], h2⟩]
    · rw [if_neg h, if_neg]
      rintro ⟨d', h1, h2⟩
      rcases List.mem_append.1 h1 with h1 | h1
      · exact h ⟨d', h1, h2⟩
      · rw [List.mem_singleton] at h1
        subst h1
        exact hv h2
theorem dotSet_nil (v : Value) : (fun _ => none : Value → Option Value) v = dotSet [] v := by simp [dotSet]
end Go.Proofs.YtehdegekgdlifaaDoor
end
section
namespace Go.Sx
open Go Go.Sort Go.Proofs
def CellsOf (us : List Value) (ds : List D) : Prop := us.length = ds.length ∧ ∀ (j : Nat) u d, us[j]? = some u → ds[j]? = some d → ∃ w S, Rep w S u d
theorem CellsOf.plain {us : List Value} {ds : List D} (h : CellsOf us ds) {j : Nat} {v : Value} (hd : ds[j]? = some (.v v)) : us[j]? = some v := by
  have hj : j < us.length := by rw [h.1]; exact (List.getElem?_eq_some_iff.1 hd).1
  obtain ⟨w, S, hr⟩ := h.2 j _ _ (List.getElem?_eq_getElem hj) hd
  rw [List.getElem?_eq_getElem hj, hr.plain]
theorem CellsOf.one {us : List Value} {ds : List D} (h : CellsOf us ds) {j : Nat} {d : D} (hd : ds[j]? = some d) : ∃ u, us[j]? = some u ∧ u.oneCell' = true := by
  have hj : j < us.length := by rw [h.1]; exact (List.getElem?_eq_some_iff.1 hd).1
  obtain ⟨w, S, hr⟩ := h.2 j _ _ (List.getElem?_eq_getElem hj) hd
  exact ⟨_, List.getElem?_eq_getElem hj, hr.one⟩
end Go.Sx
end
section
namespace Go.Proofs.YtehdegekgdlifaaDoor
open Go Go.Sx
theorem len1 {α : Type} {l : List α} (h : l.length = 1) : ∃ x, l = [x] := by
  match l, h with
  | [x], _ => exact ⟨x, rfl⟩
def keepK (L : List DoneT) (seq : Int) : List DoneT := L.filter fun m => decide (m.o.kind = seq)
theorem keepK_snoc {L : List DoneT} {seq : Int} {x : DoneT} : keepK (L ++ [x]) seq = keepK L seq ++ if x.o.kind = seq then [x] else [] := by
  unfold keepK
  rw [List.filter_append]
  congr 1
  by_cases h : x.o.kind = seq <;> simp [h]
theorem set_takeK {L : List DoneT} {i : Nat} {x : DoneT} (hi : i < L.length) : (L.set i x).take (i + 1) = L.take i ++ [x] := by
  rw [List.take_add_one, List.take_set_of_le (Nat.le_refl _)]
  simp [hi]
theorem set_dropK {L : List DoneT} {i j : Nat} {x : DoneT} (hi : i < j) : (L.set i x).drop j = L.drop j := List.drop_set_of_lt hi
structure DelInvK (L : List DoneT) (seq : Int) (i j : Int) (Lc : List DoneT) : Prop where
  len : Lc.length = L.length
  take : Lc.take i.toNat = keepK (L.take j.toNat) seq
  drop : Lc.drop j.toNat = L.drop j.toNat
theorem DelInvK.at {L Lc : List DoneT} {seq i j : Int} {x : DoneT} (h : DelInvK L seq i j Lc) (hx : L[j.toNat]? = some x) : Lc[j.toNat]? = some x := by
  have h1 : (Lc.drop j.toNat)[0]? = (L.drop j.toNat)[0]? := by rw [h.drop]
  rw [List.getElem?_drop, List.getElem?_drop, Nat.add_zero] at h1
  rw [h1, hx]
theorem DelInvK.skip {L Lc : List DoneT} {seq i j : Int} {x : DoneT} (h : DelInvK L seq i j Lc) (hj : 0 ≤ j) (hx : L[j.toNat]? = some x) (hk : ¬ x.o.kind = seq) : DelInvK L seq i (j + 1) Lc := by
  refine ⟨h.len, ?_, ?_⟩
  · rw [h.take, ← take_snoc hj hx, keepK_snoc, if_neg hk, List.append_nil]
  · rw [show (j + 1).toNat = j.toNat + 1 by omega, ← List.drop_drop, ← List.drop_drop, h.drop]
theorem DelInvK.keep {L Lc : List DoneT} {seq i j : Int} {x : DoneT} (h : DelInvK L seq i j Lc) (hi : 0 ≤ i) (hij : i < j) (hj : j < L.length) (hx : L[j.toNat]? = some x) (hk : x.o.kind = seq) : DelInvK L seq (i + 1) (j + 1) (Lc.set i.toNat x) := by
  refine ⟨by rw [List.length_set]; exact h.len, ?_, ?_⟩
  · rw [show (i + 1).toNat = i.toNat + 1 by omega, set_takeK (by have := h.len; omega), h.take, ← take_snoc (by omega) hx, keepK_snoc, if_pos hk]
  · rw [set_dropK (by omega), show (j + 1).toNat = j.toNat + 1 by omega, ← List.drop_drop, ← List.drop_drop, h.drop]
end Go.Proofs.YtehdegekgdlifaaDoor
end
section
namespace Go.Proofs.YtehdegekgdlifaaDoor
open Go Go.Sx
theorem opsFault_zero {l : List OpT} {p : Int} (h : (opsFault l p l.length 0).code = 0) : ∀ j, j < l.length → opErrAt l p j = 0 := by
  intro j
  induction j using Nat.strongRecOn with
  | ind j ih =>
    intro hj
    rcases Nat.eq_zero_or_pos (opErrAt l p j) with h0 | h0
    · exact h0
    · have := (opsFault_from (l := l) (places := p) l.length 0 j (Nat.zero_le _) fun i _ hi => ih i hi (by omega)).2 (by omega) (by omega)
      rw [this] at h
      exact h
theorem right_ops {c : ComT} (h : (comFault c).code = 0) : ∀ o ∈ c.ops, opErr o c.when.length = 0 := fun o ho => by
  have hr := right_of h
  have h1 := opsFault_zero (l := c.ops) (p := c.when.length) (by rw [hr.op]; exact h)
  obtain ⟨j, hj⟩ := List.getElem?_of_mem ho
  have h2 := h1 j (List.getElem?_eq_some_iff.1 hj).1
  rcases Nat.eq_zero_or_pos (opErr o c.when.length) with h0 | h0
  · exact h0
  · rw [opErrAt_own hj (by omega)] at h2
    omega
end Go.Proofs.YtehdegekgdlifaaDoor
end
section
namespace Go.Sx
open Go Go.MapKept
open Classical in
noncomputable def strG (ks : List ByteArray) (F : ByteArray → Value) : Value → Option Value := fun v => match v with
  | .string t => if t ∈ ks then some (F t) else none
  | _ => none
theorem strG_in {ks : List ByteArray} {F : ByteArray → Value} {t : ByteArray} (h : t ∈ ks) : strG ks F (.string t) = some (F t) := if_pos h
theorem strG_out {ks : List ByteArray} {F : ByteArray → Value} {t : ByteArray} (h : t ∉ ks) : strG ks F (.string t) = none := if_neg h
theorem strG_nil (F : ByteArray → Value) (k : Value) : strG [] F k = none := by unfold strG; split <;> simp
def upd {α : Type} (F : ByteArray → α) (t : ByteArray) (v : α) : ByteArray → α := fun s => if s = t then v else F s
theorem upd_at {α : Type} (F : ByteArray → α) (t : ByteArray) (v : α) : upd F t v t = v := if_pos rfl
theorem upd_ne {α : Type} (F : ByteArray → α) {t s : ByteArray} (v : α) (h : s ≠ t) : upd F t v s = F s := if_neg h
theorem strG_new {ks : List ByteArray} {F : ByteArray → Value} {t : ByteArray} {v : Value} (h : t ∉ ks) (k : Value) : fput (strG ks F) (.string t) v k = strG (ks ++ [t]) (upd F t v) k := by
  unfold fput
  by_cases hk : k = .string t
  · subst hk
    rw [if_pos rfl, strG_in (by simp), upd_at]
  · rw [if_neg hk]
    unfold strG
    split
    · rename_i s
      have hs : s ≠ t := fun he => hk (by rw [he])
      by_cases h2 : s ∈ ks
      · rw [if_pos h2, if_pos (by simp [h2]), upd_ne _ _ hs]
      · rw [if_neg h2, if_neg (by simp [h2, hs])]
    · rfl
theorem map_new {α β : Type} {ks : List α} {t : α} {Q Q' : α → β} (h : ∀ s ∈ ks, Q' s = Q s) : ((ks ++ [t]).map Q').eraseIdx ks.length = ks.map Q := by
  rw [List.map_append, List.eraseIdx_append_of_length_le (by simp)]
  simp only [List.length_map, Nat.sub_self, List.map_cons, List.map_nil, List.eraseIdx_cons_zero, List.append_nil]
  exact List.map_congr_left h
theorem strG_set {ks : List ByteArray} {F : ByteArray → Value} {t : ByteArray} {v : Value} (h : t ∈ ks) (k : Value) : fput (strG ks F) (.string t) v k = strG ks (upd F t v) k := by
  unfold fput
  by_cases hk : k = .string t
  · subst hk
    rw [if_pos rfl, strG_in h, upd_at]
  · rw [if_neg hk]
    unfold strG
    split
    · rename_i s
      have hs : s ≠ t := fun he => hk (by rw [he])
      rw [upd_ne _ _ hs]
    · rfl
set_option maxHeartbeats 4000000 in
theorem stp_accform {h r : List (Nat × Obj)} {F : List (List Nat × World)} {S0 : Nat → Prop} {C0 : List Chunk} {G0 : List (Value × D)} (q : Nat) {v : Value} {e k : Nat} {rows : List (List D)} (hq : C0[q]? = some (cAcc v e k rows)) : Stp h r F ⟨S0, C0, G0⟩ (fun x : Option Addr × Nat × Nat => v = .slice x.1 x.2.1 x.2.2 ∧ x.2.1 = rows.length) fun _ => ⟨S0, C0, G0⟩ := by
  intro w fps hO H
  obtain ⟨fp, _, _, hP⟩ := H.chs.at hq
  rcases hP with ⟨h1, h2, _⟩ | ⟨g, cap, cur, xs, h2, _⟩
  · exact ⟨(none, 0, 0), fps, ⟨h2, by rw [h1]; rfl⟩, fun _ hb => hb, H⟩
  · exact ⟨(some ⟨g, 0, none⟩, rows.length, cap), fps, ⟨h2, rfl⟩, fun _ hb => hb, H⟩
section puts
variable {P : Program} {f : Func} {R : Act → World → Prop} {n : Nat} {k : List Itm} {E : Env} {h r : List (Nat × Obj)} {F : List (List Nat × World)} {Y : Ghost}
theorem JRg_puts {id L0 i : Nat} {ck : Bool} {Wp : List (Nat × List Nat)} {rest : List (Nat × Bool)} (p b t kt et : Nat) (ok : Value → Prop) (key val : Value) (dst : Option Tmp) {es : Array MapEntry} {clock : Nat} {g : Value → Option Value}
    (he : putOf n (rgOf f id) E i = some (.map (some b), key, val, t, dst)) (hok : (!ck || okW L0 (Wp.lookup i) [p]) = true) (ht : P.underlying t = some (.map kt et)) (hK : KeyOk P kt ok) (hk : ok key)
    (hp : h[p]? = some (b, .map es clock)) (hm : MapG ok es g)
    (A : ∀ es' clock', MapG ok es' (fput g key val) → es'.size ≤ es.size + 1 → (Stamped es clock → Stamped es' clock') → JR P f R n (rgOf f id) L0 ck rest (Wp.filter (·.1 != i)) k (E.put dst (.val undef)) (h.set p (b, .map es' clock')) r F Y) :
    JR P f R n (rgOf f id) L0 ck ((i, false) :: rest) Wp k E h r F Y := by
  intro BB Hd fps a w s hH hR hN hW
  simp only [PW]
  have hb : w.heap[b]? = some (.map es clock) := s.own.own _ (List.mem_of_getElem? hp)
  refine putOf_sound he s ?_
  rcases hm.look hK hk with ⟨h1, _, h2⟩ | ⟨j, e, h1, h2, h3, _⟩
  · refine ⟨{ w with heap := w.heap.setIfInBounds b (.map (es.push ⟨key, val, clock⟩) (clock + 1)) }, ?_, fun a' hA => JR_setmap hok hp s hH hR hN hW hA (A _ _ (hm.push hk h2) (by simp) fun hst => stamped_push hst h2)⟩
    simp [Instr.mapUpdate, run_underlying ht, MapKept.run_getObj_map hb, hK.chk _ _ hk, h1, MapKept.run_setObj_map _ hb, Result.andThen]
  · have hj : es[j]? = some e := by simpa using h2
    refine ⟨{ w with heap := w.heap.setIfInBounds b (.map (es.modify j fun x => { x with key := key, val := val }) clock) }, ?_, fun a' hA => JR_setmap hok hp s hH hR hN hW hA (A _ _ (hm.turn h2 h3) (by simp) fun hst => stamped_modify hst j _ (fun _ _ => rfl) fun x _ hx => by rw [hj] at hx; cases hx; exact h3.symm)⟩
    simp [Instr.mapUpdate, run_underlying ht, MapKept.run_getObj_map hb, hK.chk _ _ hk, h1, hj, h3, hK.stays _ hk, MapKept.run_setObj_map _ hb, Result.andThen]
end puts
end Go.Sx
end
section
namespace Go.Sx
open Go
def zero (w : World) : World := { w with drawn := 0 }
theorem Rep.zero {w : World} {S : Nat → Prop} {x : Value} {d : D} (h : Rep w S x d) : Rep (zero w) S x d := h.mono fun _ hb _ => ⟨hb, rfl⟩
theorem Fr.zero {M : List Nat} {a b : World} (h : Fr M a b) : Fr M (zero a) b := ⟨h.os, h.tape, h.output, h.size, h.block, Nat.zero_le _⟩
section
variable {P : Program} {f : Func} [Pan f] {R : Act → World → Prop} {n : Nat} [Dfr n] {k : List Itm} {E : Env} {h r : List (Nat × Obj)} {F : List (List Nat × World)} {Y : Ghost}
theorem StF.zero {a : Act} {w : World} {fps : List (List Nat)} (s : StF n E h r F Y a w fps) (hz : ∀ f ∈ F, f.2.drawn = 0) : StF n E h r F Y a (Sx.zero w) fps :=
  ⟨s.ag, ⟨s.own.own, s.own.nodup, s.own.ro, s.own.apart⟩, fun f hf => ⟨(s.fr f hf).os, (s.fr f hf).tape, (s.fr f hf).output, (s.fr f hf).size, (s.fr f hf).block, by rw [hz f hf]; exact Nat.zero_le _⟩, s.may,
    ⟨s.gh.chs.mono (fun _ _ => rfl) (fun _ hb _ => ⟨hb, rfl⟩), s.gh.nodup, s.gh.disj, s.gh.apart, s.gh.may, s.gh.lt, s.gh.own, s.gh.hid, s.gh.top, fun x hx => (s.gh.g x hx).zero⟩⟩
end
end Go.Sx
end
section
namespace Go.Proofs.YtehdegekgdlifaaDoor
open Go Go.Sx
abbrev keyK : ByteArray := ByteArray.mk #[107]
theorem nameK : nameOk keyK = true := by decide
end Go.Proofs.YtehdegekgdlifaaDoor
end
section
namespace Go.Proofs.YtehdegekgdlifaaDoor
open Go Go.Sx
theorem Rep.someA {w : World} {S : Nat → Prop} {a : Option Addr} {n c k : Nat} {rows : List (List D)} (h : Rep w S (.slice a n c) (.sl k rows)) (h0 : rows ≠ []) : ∃ b off, a = some ⟨b, off, none⟩ := by
  cases h with
  | nil => exact absurd rfl h0
  | sl u hb hS hc => exact ⟨_, _, rfl⟩
end Go.Proofs.YtehdegekgdlifaaDoor
end
section
namespace Go.Sx
open Go
section fork
variable {P : Program} {ops : Array Oper} {Q : Exit → Act → World → Prop}
theorem yields_det {us us' : List (Nat × Obj)} {o : Oper} {v v' : Value} {a : Act} {w : World} (h : YieldsIf P ops (Hp us) o v a) (h' : YieldsIf P ops (Hp us') o v' a) (hw : Hp us w) (hw' : Hp us' w) : v = v' := by
  rcases h with ⟨h1, h2⟩ | ⟨h1, h2⟩ <;> rcases h' with ⟨h3, h4⟩ | ⟨h3, h4⟩
  · have := (h2 w hw).symm.trans (h4 w hw')
    simpa using this
  · rw [h1] at h3; cases h3
  · rw [h1] at h3; cases h3
  · rw [h2, h4]
def planF (ops : Array Oper) : Nat → List (Nat × Bool) → List (Nat × Bool) → Array Bool → Bool
  | 0, (i, false) :: r1, (j, false) :: r2, listed => Region.ready .any ops listed == [i, j] && planOk ops r1 (listed.setIfInBounds i true) && planOk ops r2 (listed.setIfInBounds j true)
  | m + 1, (i, true) :: r1, (j, true) :: r2, listed => Nat.beq i j && (Region.ready .any ops listed).contains i && Region.free .any ops listed i && planF ops m r1 r2 (listed.setIfInBounds i true)
  | _, _, _, _ => false
theorem unlisted_after {listed : Array Bool} {i k : Nat} (hk : (listed.setIfInBounds i true).getD k true = false) : i ≠ k ∧ listed.getD k true = false := by
  have hik : i ≠ k := by
    rintro rfl
    rcases Nat.lt_or_ge i listed.size with h' | h'
    · simp [h'] at hk
    · simp [h'] at hk
  rw [getD_set_ne true hik] at hk
  exact ⟨hik, hk⟩
theorem step_write (hs : Region.noSelect ops = true) (hQ : ∀ (i : Nat) (o : Oper), ops[i]? = some o → ∀ c a v w, Q (.panic c) (a.put o.dst v) w → Q (.panic c) a w) {B : Nat} (W0 : Nat → Option (List Nat)) {i : Nat} {rest : List (Nat × Bool)} {W : List (Nat × List Nat)} {listed : Array Bool} {a : Act} {w : World}
    (hr : i ∈ Region.ready .any ops listed) (hp : planOk ops rest (listed.setIfInBounds i true) = true) (hdown : Down .any ops listed) (hW : ∀ j, listed.getD j true = false → W.lookup j = W0 j) (h : PW P ops Q B true ((i, false) :: rest) W a w) :
    wpOp P ops Q i (fun a' w' => BG B (W0 i) w w' ∧ wpAnyG P .any ops Q B W0 rest.length (listed.setIfInBounds i true) a' w') a w := by
  have hun : listed.getD i true = false := (mem_ready.1 hr).1
  refine wpOp_mono (fun a' w' hh => ⟨?_, wpAnyG_of_plan hs hQ W0 rest (W.filter (·.1 != i)) _ _ _ hp (hdown.list hr) (fun k hk => ?_) hh.2⟩) h
  · rw [← hW i hun]; exact hh.1 rfl
  · obtain ⟨hik, hk2⟩ := unlisted_after hk
    rw [lookup_filter_ne i k (Ne.symm hik)]
    exact hW k hk2
theorem wpAnyG_of_fork (hs : Region.noSelect ops = true) (hQ : ∀ (i : Nat) (o : Oper), ops[i]? = some o → ∀ c a v w, Q (.panic c) (a.put o.dst v) w → Q (.panic c) a w) {B : Nat} (W0 : Nat → Option (List Nat)) :
    ∀ (m : Nat) (q1 q2 : List (Nat × Bool)) (W : List (Nat × List Nat)) (listed : Array Bool) (a : Act) (w : World), planF ops m q1 q2 listed = true → q2.length = q1.length → Down .any ops listed →
      (∀ j, listed.getD j true = false → W.lookup j = W0 j) → PW P ops Q B true q1 W a w → PW P ops Q B true q2 W a w → wpAnyG P .any ops Q B W0 q1.length listed a w
  | 0, (i, false) :: r1, (j, false) :: r2, W, listed, a, w, hp, hl, hdown, hW, h1, h2 => by
    simp only [planF, Bool.and_eq_true, beq_iff_eq] at hp
    obtain ⟨⟨hr, hp1⟩, hp2⟩ := hp
    have hi : i ∈ Region.ready .any ops listed := by rw [hr]; simp
    have hj : j ∈ Region.ready .any ops listed := by rw [hr]; simp
    have hl2 : r2.length = r1.length := by simpa using hl
    refine ⟨fun h0 => absurd h0 (by rw [hr]; simp), fun k hk => ?_⟩
    rw [hr] at hk
    rcases List.mem_cons.1 hk with rfl | hk
    · exact step_write hs hQ W0 hi hp1 hdown hW h1
    · obtain rfl := List.mem_singleton.1 hk
      have := step_write hs hQ W0 hj hp2 hdown hW h2
      rw [hl2] at this
      exact this
  | m + 1, (i, true) :: r1, (j, true) :: r2, W, listed, a, w, hp, hl, hdown, hW, h1, h2 => by
    simp only [planF, Bool.and_eq_true] at hp
    obtain ⟨⟨⟨hij, hr⟩, hf⟩, hp'⟩ := hp
    obtain rfl := Nat.eq_of_beq_eq_true hij
    obtain ⟨o, v, us, ho, hy, hS, hd, hrest⟩ := h1
    obtain ⟨o', v', us', ho', hy', hS', _, hrest'⟩ := h2
    rw [ho] at ho'
    cases ho'
    obtain rfl := yields_det hy hy' hS hS'
    refine wpAnyG_first (us := us) ho (Region.noSelect_spec hs) (fun c a w => hQ _ _ ho c a v w) r1.length listed a w ?_ hdown (by simpa using hr) hy hS ?_
    · intro k ok hok hki hun hno
      refine ⟨Region.free_spec ho hf k ok hok hki hun hno, fun l hl => ?_⟩
      rw [← hW k hun] at hl
      exact hd rfl _ (mem_of_lookup hl)
    · exact wpAnyG_of_fork hs hQ W0 m r1 r2 W _ _ _ hp' (by simpa using hl) (hdown.list (by simpa using hr)) (fun k hk => hW k (unlisted_after hk).2) hrest hrest'
  | 0, [], _, _, _, _, _, hp, _, _, _, _, _ => by simp [planF] at hp
  | 0, (_, true) :: _, _, _, _, _, _, hp, _, _, _, _, _ => by simp [planF] at hp
  | 0, (_, false) :: _, [], _, _, _, _, hp, _, _, _, _, _ => by simp [planF] at hp
  | 0, (_, false) :: _, (_, true) :: _, _, _, _, _, hp, _, _, _, _, _ => by simp [planF] at hp
  | _ + 1, [], _, _, _, _, _, hp, _, _, _, _, _ => by simp [planF] at hp
  | _ + 1, (_, false) :: _, _, _, _, _, _, hp, _, _, _, _, _ => by simp [planF] at hp
  | _ + 1, (_, true) :: _, [], _, _, _, _, hp, _, _, _, _, _ => by simp [planF] at hp
  | _ + 1, (_, true) :: _, (_, false) :: _, _, _, _, _, hp, _, _, _, _, _ => by simp [planF] at hp
end fork
end Go.Sx
end
