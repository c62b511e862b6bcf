/- plain.Code: the number of an error. -/
import Derived.Test.YtpjkiomccpjboaaGreatDoorVec1
import Derived.Test.YtpjkiomccpjboaaGreatDoorErrs
namespace Go.Proofs.YtpjkiomccpjboaaGreatDoor
open Go Go.Sx

/-- The errors' own blocks. -/
abbrev eO (er : Nat → Addr) (eb : Nat → Array Value × TypeId) (k : Nat) : Value × D := (.pointer (some (er k)), .obj (.cells (eb k).1 (eb k).2 (0, 0)))
/-- The package's errors, the type's handle that errors.As reads, the errors' blocks. -/
def cglobs (er : Nat → Addr) (eb : Nat → Array Value × TypeId) : List (Value × D) := [dE 243 er 6 1, dE 243 er 0 2, dE 243 er 3 3, dE 243 er 1 4, dE 243 er 7 5, dE 243 er 5 6, dE 243 er 8 7, dE 243 er 9 8, dE 243 er 4 9, dE 243 er 10 10, dE 243 er 11 11, dE 243 er 2 12, (.pointer (some ⟨12, 0, none⟩), .ptr [.v (.iface 204 (.agg #[.pointer (some ⟨13, 33, none⟩)]))]), eO er eb 1, eO er eb 2, eO er eb 3, eO er eb 4, eO er eb 5, eO er eb 6, eO er eb 7, eO er eb 8, eO er eb 9, eO er eb 10, eO er eb 11, eO er eb 12]
abbrev dC (er : Nat → Addr) (eb : Nat → Array Value × TypeId) : D := .all (cglobs er eb)
def Inj (er : Nat → Addr) : Prop := ∀ i j, 1 ≤ i → i ≤ 12 → 1 ≤ j → j ≤ 12 → er i = er j → i = j
theorem eO_mem (er : Nat → Addr) (eb : Nat → Array Value × TypeId) {k : Nat} (h1 : 1 ≤ k) (h2 : k ≤ 12) : eO er eb k ∈ cglobs er eb := by
  rcases (by omega : k = 1 ∨ k = 2 ∨ k = 3 ∨ k = 4 ∨ k = 5 ∨ k = 6 ∨ k = 7 ∨ k = 8 ∨ k = 9 ∨ k = 10 ∨ k = 11 ∨ k = 12) with rfl | rfl | rfl | rfl | rfl | rfl | rfl | rfl | rfl | rfl | rfl | rfl <;> simp [cglobs, eO]
theorem globs_of {w : World} {S : Nat → Prop} {er : Nat → Addr} {eb : Nat → Array Value × TypeId} (h : Rep w S .nilIface (dC er eb)) : AllG w S (globs er) :=
  .cons (.v rfl) (.cons (h.part _ (List.mem_of_getElem? (i := 1) rfl)) (.cons (h.part _ (List.mem_of_getElem? (i := 2) rfl)) (.nil _ _)))
theorem blk_of {w : World} {S : Nat → Prop} {a : Addr} {o : Obj} (h : Rep w S (.pointer (some a)) (.obj o)) : w.heap[a.block]? = some o := by
  cases h with
  | obj hb => exact hb
theorem var_of {w : World} {S : Nat → Prop} {g : Nat} {v : Value} (h : Rep w S (.pointer (some ⟨g, 0, none⟩)) (.ptr [.v v])) : w.cell? ⟨g, 0, none⟩ = some v := by
  cases h with
  | ptr u hb hS hcell hrep =>
    have h1 := (hrep 0 _ rfl).plain
    have h2 := hcell 0 (by simp)
    rw [h1] at h2
    simpa [World.cell?, hb] using h2

theorem isAt {w : World} {S : Nat → Prop} {a : Addr} {ca : Array Value} {ta : TypeId} {er : Nat → Addr} {eb : Nat → Array Value × TypeId} {j : Nat} (hC : Rep w S .nilIface (dC er eb)) (ha : Rep w S (.pointer (some a)) (.obj (.cells ca ta (0, 0)))) (h1 : 1 ≤ j) (h2 : j ≤ 12) :
    Calls Tryz.prog 87 #[.iface 243 (.pointer (some a)), .iface 243 (.pointer (some (er j)))] w fun e w' => Ret [] w S w' e (.bool (decide (a = er j))) [] [] := by
  by_cases h : a = er j
  · subst h
    rw [decide_eq_true rfl]
    exact (Er.is_same _ w).mono fun e w' h => ret_same h.1 h.2
  · rw [decide_eq_false h]
    exact (Er.is_other a (er j) ca (eb j).1 ta (eb j).2 w h (blk_of ha) (blk_of (hC.part _ (eO_mem er eb h1 h2)))).mono fun e w' h => ret_same h.1 h.2

theorem asMiss {w : World} {S : Nat → Prop} {a t : Addr} {er : Nat → Addr} {eb : Nat → Array Value × TypeId} (hC : Rep w S .nilIface (dC er eb)) :
    Calls Tryz.prog 86 #[.iface 243 (.pointer (some a)), .iface 143 (.pointer (some t))] w fun e w' => Ret [] w S w' e (.bool false) [] [] :=
  (Er.as_miss a t w (var_of (hC.part _ (List.mem_of_getElem? (i := 12) rfl)))).mono fun e w' h => ret_below h.1 (by
    rw [h.2]
    exact (((RowKit.Below.refl _ w).alloc (Nat.le_refl _) _).alloc (by simp) _).alloc (by simp; omega) _) (by rw [h.2]; exact Nat.le_refl _)

abbrev eEr (er : Nat → Addr) (k : Nat) : List D := [.v (.iface 243 (.pointer (some (er k))))]
theorem row12 {i : Int} (h0 : 0 ≤ i) (h1 : i < 12) : ([1, 2, 3, 4, 5, 6, 7, 8, 9, 10, 11, 12] : List Nat)[i.toNat]? = some (i.toNat + 1) := by
  obtain ⟨n, rfl⟩ : ∃ n : Nat, i = n := ⟨i.toNat, by omega⟩
  rcases (by omega : n = 0 ∨ n = 1 ∨ n = 2 ∨ n = 3 ∨ n = 4 ∨ n = 5 ∨ n = 6 ∨ n = 7 ∨ n = 8 ∨ n = 9 ∨ n = 10 ∨ n = 11) with rfl | rfl | rfl | rfl | rfl | rfl | rfl | rfl | rfl | rfl | rfl | rfl <;> rfl

theorem codeErr {w : World} {S : Nat → Prop} {er : Nat → Addr} {eb : Nat → Array Value × TypeId} {k : Nat} {v : Value} (hC : Rep w S .nilIface (dC er eb)) (hI : Inj er) (hk : k ≤ 12) (hv : ErrIs 243 er k v) :
    Calls Tryz.prog 53 #[v] w fun e w' => Ret [] w S w' e (.tuple #[.int .i64 k, .int .i64 (-1)]) [] [] := by
  rcases hv with ⟨rfl, rfl⟩ | ⟨h0, rfl⟩
  · refine ep53 (args := [.nilIface]) (S := S) (G := []) (by kernel_rfl) (.nil _ _) ?_
    refine J_seq ?_
    refine J_reg mixed [.rd 0 [] 0 0, .rd 1 [] 0 0] [] [0, 2, 3] (E1 := fun _ => [(0, .val (.nilIface)), (2, .val (.int .i64 0)), (3, .val (.int .i64 0))]) (h1 := fun _ => []) (p1 := fun _ => []) (W1 := []) (by kernel_rfl) (fun _ => by kernel_rfl) (fun _ => trivial) (fun _ => ?_)
    refine J_seq ?_
    refine J_seq ?_
    refine J_reg mixed [.rd 0 [] 0 0, .rd 1 [] 0 0] [] [0, 2, 3, 8] (E1 := fun _ => [(0, .val (.nilIface)), (2, .val (.int .i64 0)), (3, .val (.int .i64 0)), (8, .val (.bool true))]) (h1 := fun _ => []) (p1 := fun _ => []) (W1 := []) (by kernel_rfl) (fun _ => by kernel_rfl) (fun _ => trivial) (fun _ => ?_)
    refine J_cond_t (by kernel_rfl) (by kernel_rfl) ?_
    refine J_seq ?_
    refine J_reg mixed [.rd 0 [] 0 0, .rd 1 [] 0 0] [] [0, 2, 3] (E1 := fun _ => [(0, .val (.nilIface)), (2, .val (.int .i64 0)), (3, .val (.int .i64 (-1)))]) (h1 := fun _ => []) (p1 := fun _ => []) (W1 := []) (by kernel_rfl) (fun _ => by kernel_rfl) (fun _ => trivial) (fun _ => ?_)
    refine J_return [[], []] (.tuple #[.int .i64 0, .int .i64 (-1)]) (by kernel_rfl) (fun a w s => ?_)
    exact s.ret (by simp) [] [] rfl rfl
  · refine ep53 (args := [.iface 243 (.pointer (some (er k)))]) (G := [(_, dC er eb)]) (by kernel_rfl) (.cons hC (.nil _ _)) ?_
    refine J_stp (stp_all 0 [0, 1, 2, 3, 4, 5, 6, 7, 8, 9, 10, 11] rfl rfl) ?_
    refine J_glob 1 rfl (fun csg1 tyg1 fzg1 hglob1 => ?_)
    refine J_glob 2 rfl (fun csg2 tyg2 fzg2 hglob2 => ?_)
    refine J_glob 3 rfl (fun csg3 tyg3 fzg3 hglob3 => ?_)
    refine J_glob 4 rfl (fun csg4 tyg4 fzg4 hglob4 => ?_)
    refine J_glob 5 rfl (fun csg5 tyg5 fzg5 hglob5 => ?_)
    refine J_glob 6 rfl (fun csg6 tyg6 fzg6 hglob6 => ?_)
    refine J_glob 7 rfl (fun csg7 tyg7 fzg7 hglob7 => ?_)
    refine J_glob 8 rfl (fun csg8 tyg8 fzg8 hglob8 => ?_)
    refine J_glob 9 rfl (fun csg9 tyg9 fzg9 hglob9 => ?_)
    refine J_glob 10 rfl (fun csg10 tyg10 fzg10 hglob10 => ?_)
    refine J_glob 11 rfl (fun csg11 tyg11 fzg11 hglob11 => ?_)
    refine J_glob 12 rfl (fun csg12 tyg12 fzg12 hglob12 => ?_)
    try simp only [List.cons_append, List.nil_append, List.append_nil]
    refine J_seq ?_
    refine J_reg mixed [.rd 0 [] 0 0, .rd 1 [] 0 0] [] [0, 2, 3] (E1 := fun _ => [(0, .val (.iface 243 (.pointer (some (er k))))), (2, .val (.int .i64 0)), (3, .val (.int .i64 0))]) (h1 := fun _ => []) (p1 := fun _ => []) (W1 := []) (by kernel_rfl) (fun _ => by kernel_rfl) (fun _ => trivial) (fun _ => ?_)
    refine J_seq ?_
    refine J_seq ?_
    refine J_reg mixed [.rd 0 [] 0 0, .rd 1 [] 0 0] [] [0, 2, 3, 8] (E1 := fun _ => [(0, .val (.iface 243 (.pointer (some (er k))))), (2, .val (.int .i64 0)), (3, .val (.int .i64 0)), (8, .val (.bool false))]) (h1 := fun _ => []) (p1 := fun _ => []) (W1 := []) (by kernel_rfl) (fun _ => by kernel_rfl) (fun _ => trivial) (fun _ => ?_)
    refine J_cond_f (by kernel_rfl) (by kernel_rfl) ?_
    refine J_skip ?_
    refine J_seq ?_
    refine J_reg mixed [.rd 0 [] 0 0] [] [0, 2, 3] (E1 := fun _ => [(0, .val (.iface 243 (.pointer (some (er k))))), (2, .val (.int .i64 0)), (3, .val (.int .i64 (-1)))]) (h1 := fun _ => []) (p1 := fun _ => []) (W1 := []) (by kernel_rfl) (fun _ => by kernel_rfl) (fun _ => trivial) (fun _ => ?_)
    refine J_seq ?_
    refine J_reg mixed [.wr 0 [] 0] [] [0, 2, 3, 4] (E1 := fun nu1 => [(0, .val (.iface 243 (.pointer (some (er k))))), (2, .val (.int .i64 0)), (3, .val (.int .i64 (-1))), (4, .val (.pointer (some (⟨nu1 0, 0, none⟩))))]) (h1 := fun nu1 => [(nu1 0, .cells #[.pointer none] 102 (0, 0))]) (p1 := fun nu1 => []) (W1 := []) (by kernel_rfl) (fun _ => by kernel_rfl) (fun _ => trivial) (fun nu1 => ?_)
    refine J_seq ?_
    refine J_seq ?_
    refine JR_begin mixed [(0, true), (1, true), (2, false)] [] (by kernel_rfl) (by kernel_rfl) ?_
    refine JR_run (id := 5) (rest := [(2, false)]) [.rd 0 [] 0 0, .rd 1 [] 0 0] [0, 2, 3, 4, 9, 10] (E1 := fun _ => [(0, .val (.iface 243 (.pointer (some (er k))))), (2, .val (.int .i64 0)), (3, .val (.int .i64 (-1))), (4, .val (.pointer (some (⟨nu1 0, 0, none⟩)))), (9, .val (.iface 243 (.pointer (some (er k))))), (10, .val (.iface 143 (.pointer (some (⟨nu1 0, 0, none⟩)))))]) (h1 := fun _ => [(nu1 0, .cells #[.pointer none] 102 (0, 0))]) (p1 := fun _ => []) (W1 := []) (fun _ => by kernel_rfl) (fun _ => trivial) (fun _ => ?_)
    refine JR_callp [] 86 #[.iface 243 (.pointer (some (er k))), .iface 143 (.pointer (some (⟨nu1 0, 0, none⟩)))] (some 11) (by kernel_rfl) (fun w S hG => ?_)
    refine (asMiss (hG.at 0 rfl)).mono ?_
    rintro e1 w1 hR
    refine ⟨_, _, _, hR, ?_⟩
    try simp only [List.cons_append, List.nil_append, List.append_nil]
    refine JR_end ?_
    refine J_cond_f (by kernel_rfl) (by kernel_rfl) ?_
    refine J_skip ?_
    refine J_seq ?_
    refine J_seq ?_
    refine J_reg mixed [.rd 0 [.r 0 (some (.iface 243 (.pointer (some (er 1)))))] 0 0, .rd 1 [.r 1 (some (.iface 243 (.pointer (some (er 2)))))] 0 0, .rd 2 [.r 2 (some (.iface 243 (.pointer (some (er 3)))))] 0 0, .rd 3 [.r 3 (some (.iface 243 (.pointer (some (er 4)))))] 0 0, .rd 4 [.r 4 (some (.iface 243 (.pointer (some (er 5)))))] 0 0, .rd 5 [.r 5 (some (.iface 243 (.pointer (some (er 6)))))] 0 0, .rd 6 [.r 6 (some (.iface 243 (.pointer (some (er 7)))))] 0 0, .rd 7 [.r 7 (some (.iface 243 (.pointer (some (er 8)))))] 0 0, .rd 8 [.r 8 (some (.iface 243 (.pointer (some (er 9)))))] 0 0, .rd 9 [.r 9 (some (.iface 243 (.pointer (some (er 10)))))] 0 0, .rd 10 [.r 10 (some (.iface 243 (.pointer (some (er 11)))))] 0 0, .rd 11 [.r 11 (some (.iface 243 (.pointer (some (er 12)))))] 0 0, .wr 12 [] 0, .rd 13 [] 0 0, .rd 14 [] 0 0] [] [0, 2, 3, 28, 29, 30] (E1 := fun nu2 => [(0, .val (.iface 243 (.pointer (some (er k))))), (2, .val (.int .i64 0)), (3, .val (.int .i64 (-1))), (28, .val (.slice (some (⟨nu2 0, 0, none⟩)) 12 12)), (29, .val (.int .i64 12)), (30, .val (.int .i64 0))]) (h1 := fun nu2 => [(nu1 0, .cells #[.pointer none] 102 (0, 0)), (nu2 0, .cells #[.iface 243 (.pointer (some (er 1))), .iface 243 (.pointer (some (er 2))), .iface 243 (.pointer (some (er 3))), .iface 243 (.pointer (some (er 4))), .iface 243 (.pointer (some (er 5))), .iface 243 (.pointer (some (er 6))), .iface 243 (.pointer (some (er 7))), .iface 243 (.pointer (some (er 8))), .iface 243 (.pointer (some (er 9))), .iface 243 (.pointer (some (er 10))), .iface 243 (.pointer (some (er 11))), .iface 243 (.pointer (some (er 12)))] 33 (0, 0))]) (p1 := fun nu2 => [csg1[(0 : Nat)]? = some (Value.iface (243 : Nat) (Value.pointer (some (er (1 : Nat))))), csg2[(0 : Nat)]? = some (Value.iface (243 : Nat) (Value.pointer (some (er (2 : Nat))))), csg3[(0 : Nat)]? = some (Value.iface (243 : Nat) (Value.pointer (some (er (3 : Nat))))), csg4[(0 : Nat)]? = some (Value.iface (243 : Nat) (Value.pointer (some (er (4 : Nat))))), csg5[(0 : Nat)]? = some (Value.iface (243 : Nat) (Value.pointer (some (er (5 : Nat))))), csg6[(0 : Nat)]? = some (Value.iface (243 : Nat) (Value.pointer (some (er (6 : Nat))))), csg7[(0 : Nat)]? = some (Value.iface (243 : Nat) (Value.pointer (some (er (7 : Nat))))), csg8[(0 : Nat)]? = some (Value.iface (243 : Nat) (Value.pointer (some (er (8 : Nat))))), csg9[(0 : Nat)]? = some (Value.iface (243 : Nat) (Value.pointer (some (er (9 : Nat))))), csg10[(0 : Nat)]? = some (Value.iface (243 : Nat) (Value.pointer (some (er (10 : Nat))))), csg11[(0 : Nat)]? = some (Value.iface (243 : Nat) (Value.pointer (some (er (11 : Nat))))), csg12[(0 : Nat)]? = some (Value.iface (243 : Nat) (Value.pointer (some (er (12 : Nat)))))]) (W1 := []) (by kernel_rfl) (fun _ => by kernel_rfl) (fun _ => ⟨hglob1, hglob2, hglob3, hglob4, hglob5, hglob6, hglob7, hglob8, hglob9, hglob10, hglob11, hglob12, trivial⟩) (fun nu2 => ?_)
    refine J_block ?_
    refine J_data (size := 1) 1 (eEr er) [1, 2, 3, 4, 5, 6, 7, 8, 9, 10, 11, 12] 12 rfl (by decide) (by intro x _; rfl) (by simp) ⟨.inl ⟨rfl, rfl⟩, ⟨.inl ⟨rfl, rfl⟩, ⟨.inl ⟨rfl, rfl⟩, ⟨.inl ⟨rfl, rfl⟩, ⟨.inl ⟨rfl, rfl⟩, ⟨.inl ⟨rfl, rfl⟩, ⟨.inl ⟨rfl, rfl⟩, ⟨.inl ⟨rfl, rfl⟩, ⟨.inl ⟨rfl, rfl⟩, ⟨.inl ⟨rfl, rfl⟩, ⟨.inl ⟨rfl, rfl⟩, ⟨.inl ⟨rfl, rfl⟩, trivial⟩⟩⟩⟩⟩⟩⟩⟩⟩⟩⟩⟩ ?_
    refine J_loopx (fun i : Int => [(0, .val (.iface 243 (.pointer (some (er k))))), (2, .val (.int .i64 0)), (3, .val (.int .i64 (-1))), (28, .val (.slice (some (⟨nu2 0, 0, none⟩)) 12 12)), (29, .val (.int .i64 12)), (30, .val (.int .i64 i))]) (fun i : Int => []) (fun i : Int => []) (fun i : Int => [(.nilIface, (dC er eb)), (.slice (some (⟨nu2 0, 0, none⟩)) ((List.map (eEr er) [1, 2, 3, 4, 5, 6, 7, 8, 9, 10, 11, 12]).length) 12, (D.sl 1 (List.map (eEr er) [1, 2, 3, 4, 5, 6, 7, 8, 9, 10, 11, 12])))]) (fun i : Int => (12 - i).toNat) (fun i : Int => (0 ≤ i ∧ i < k)) 0 [0, 2, 3, 28, 29, 30] [] [] [0, 13] ?_ (by kernel_rfl) rfl rfl rfl ?_
    · exact ⟨by omega, by omega⟩
    rintro i ⟨hi0, hi⟩
    have hx := row12 hi0 (by omega)
    refine J_read0 1 rfl i.toNat (map_at hx) (by kernel_rfl) (fun b1 off1 cs1 ty1 fz1 ha1 hrd1 => ?_)
    cases ha1
    have hrd1_0 := rd0 (hrd1 0 _ rfl)
    try simp only [List.cons_append, List.nil_append, List.append_nil]
    refine J_seq ?_
    refine J_reg mixed [.rd 0 [] 0 0] [] [0, 2, 3, 28, 29, 30, 31] (E1 := fun _ => [(0, .val (.iface 243 (.pointer (some (er k))))), (2, .val (.int .i64 0)), (3, .val (.int .i64 (-1))), (28, .val (.slice (some (⟨nu2 0, 0, none⟩)) 12 12)), (29, .val (.int .i64 12)), (30, .val (.int .i64 i)), (31, .val (.bool (decide (i < 12))))]) (h1 := fun _ => []) (p1 := fun _ => []) (W1 := []) (by kernel_rfl) (fun _ => by kernel_rfl) (fun _ => trivial) (fun _ => ?_)
    refine J_seq ?_
    refine J_condT (decide (i < 12)) (by kernel_rfl) (by kernel_rfl) (by simp; omega) ?_
    refine J_skip ?_
    refine J_seq ?_
    refine J_block ?_
    refine J_seq ?_
    refine J_reg mixed [.rd 0 [] 0 0, .rd 1 [] 0 2, .rd 2 [.r 12 (some (.iface 243 (.pointer (some (er (i.toNat + 1))))))] 0 0, .rd 3 [] 0 0, .rd 4 [] 0 0] [] [0, 2, 3, 5, 6, 28, 29, 30] (E1 := fun _ => [(0, .val (.iface 243 (.pointer (some (er k))))), (2, .val (.int .i64 0)), (3, .val (.int .i64 (-1))), (5, .val (.int .i64 i)), (6, .val (.iface 243 (.pointer (some (er (i.toNat + 1)))))), (28, .val (.slice (some (⟨nu2 0, 0, none⟩)) 12 12)), (29, .val (.int .i64 12)), (30, .val (.int .i64 i))]) (h1 := fun _ => []) (p1 := fun _ => [(0 : Int) ≤ i, i < (↑(12 : Nat) : Int), cs1[(0 : Nat) + i.toNat * (1 : Nat)]? = some (Value.iface (243 : TypeId) (Value.pointer (some (er (i.toNat + (1 : Nat))))))]) (W1 := []) (by kernel_rfl) (fun _ => by kernel_rfl) (fun _ => ⟨hi0, by omega, hrd1_0, trivial⟩) (fun _ => ?_)
    refine J_seq ?_
    refine JR_begin mixed [(0, true), (1, true), (2, false)] [] (by kernel_rfl) (by kernel_rfl) ?_
    refine JR_run (id := 10) (rest := [(2, false)]) [.rd 0 [] 0 0, .rd 1 [] 0 0] [0, 2, 3, 5, 6, 28, 29, 30, 35, 36] (E1 := fun _ => [(0, .val (.iface 243 (.pointer (some (er k))))), (2, .val (.int .i64 0)), (3, .val (.int .i64 (-1))), (5, .val (.int .i64 i)), (6, .val (.iface 243 (.pointer (some (er (i.toNat + 1)))))), (28, .val (.slice (some (⟨nu2 0, 0, none⟩)) 12 12)), (29, .val (.int .i64 12)), (30, .val (.int .i64 i)), (35, .val (.iface 243 (.pointer (some (er k))))), (36, .val (.iface 243 (.pointer (some (er (i.toNat + 1))))))]) (h1 := fun _ => []) (p1 := fun _ => []) (W1 := []) (fun _ => by kernel_rfl) (fun _ => trivial) (fun _ => ?_)
    refine JR_callp [] 87 #[.iface 243 (.pointer (some (er k))), .iface 243 (.pointer (some (er (i.toNat + 1))))] (some 37) (by kernel_rfl) (fun w S hG => ?_)
    refine (isAt (hG.at 0 rfl) ((hG.at 0 rfl).part _ (eO_mem er eb (k := k) (by omega) hk)) (by omega) (by omega)).mono ?_
    rintro e2 w2 hR
    refine ⟨_, _, _, hR, ?_⟩
    try simp only [List.cons_append, List.nil_append, List.append_nil]
    refine JR_end ?_
    refine J_cond (t := decide (er k = er (i.toNat + 1))) (by kernel_rfl) (by kernel_rfl) (fun hb => ?_) (fun hb => ?_)
    · refine J_seq ?_
      refine J_reg mixed [.rd 0 [] 0 0, .rd 1 [] 0 1, .rd 2 [] 0 0, .rd 3 [] 0 0, .rd 4 [] 0 0] [] [0, 2, 3, 5, 6, 28, 29, 30, 35, 36] (E1 := fun _ => [(0, .val (.iface 243 (.pointer (some (er k))))), (2, .val (.int .i64 (i + 1))), (3, .val (.int .i64 (-1))), (5, .val (.int .i64 i)), (6, .val (.iface 243 (.pointer (some (er (i.toNat + 1)))))), (28, .val (.slice (some (⟨nu2 0, 0, none⟩)) 12 12)), (29, .val (.int .i64 12)), (30, .val (.int .i64 i)), (35, .val (.iface 243 (.pointer (some (er k))))), (36, .val (.iface 243 (.pointer (some (er (i.toNat + 1))))))]) (h1 := fun _ => []) (p1 := fun _ => [IntKind.i64.wrap (i + (1 : Int)) = i + (1 : Int)]) (W1 := []) (by kernel_rfl) (fun _ => by kernel_rfl) (fun _ => ⟨wrap_i64 (by omega) (by omega), trivial⟩) (fun _ => ?_)
      refine J_return [[], []] (.tuple #[.int .i64 (i + 1), .int .i64 (-1)]) (by kernel_rfl) (fun a w s => ?_)
      have e : i + 1 = k := by
        have := hI k (i.toNat + 1) (by omega) hk (by omega) (by omega) (of_decide_eq_true hb)
        omega
      rw [e]
      exact s.ret (by simp) [] [] rfl rfl
    · refine J_skip ?_
      refine J_eb ?_
      refine J_reg mixed [.rd 0 [] 0 1, .rd 1 [] 0 0] [] [0, 2, 3, 5, 6, 28, 29, 30, 35, 36] (E1 := fun _ => [(0, .val (.iface 243 (.pointer (some (er k))))), (2, .val (.int .i64 0)), (3, .val (.int .i64 (-1))), (5, .val (.int .i64 i)), (6, .val (.iface 243 (.pointer (some (er (i.toNat + 1)))))), (28, .val (.slice (some (⟨nu2 0, 0, none⟩)) 12 12)), (29, .val (.int .i64 12)), (30, .val (.int .i64 (i + 1))), (35, .val (.iface 243 (.pointer (some (er k))))), (36, .val (.iface 243 (.pointer (some (er (i.toNat + 1))))))]) (h1 := fun _ => []) (p1 := fun _ => [IntKind.i64.wrap (i + (1 : Int)) = i + (1 : Int)]) (W1 := []) (by kernel_rfl) (fun _ => by kernel_rfl) (fun _ => ⟨wrap_i64 (by omega) (by omega), trivial⟩) (fun _ => ?_)
      refine J_backx (i + 1) [0, 2, 3, 28, 29, 30] [] [] [0, 1] ?_ ?_ (by kernel_rfl) rfl rfl rfl
      · refine ⟨by omega, ?_⟩
        rcases (by omega : i + 1 < k ∨ (i.toNat + 1 = k)) with h | h
        · exact h
        · rw [h] at hb
          simp at hb
      · omega

theorem codedErr {w : World} {S : Nat → Prop} {er : Nat → Addr} {eb : Nat → Array Value × TypeId} {k : Nat} {c : Int} {v : Value} (hC : Rep w S .nilIface (dC er eb)) (hI : Inj er) (hk : k ≤ 12) (hv : ErrIs 243 er k v) :
    Calls Tryz.prog 13 #[v, .int .i64 c] w fun e w' => Ret [] w S w' e (.bool (decide ((k : Int) = c))) [] [] := by
  refine ep13 (args := [v, .int .i64 c]) (G := [(_, dC er eb)]) (by kernel_rfl) (.cons hC (.nil _ _)) ?_
  refine J_seq ?_
  refine J_reg mixed [.rd 0 [] 0 0] [] [0, 1, 4] (E1 := fun _ => [(0, .val (v)), (1, .val (.int .i64 c)), (4, .val (.bool false))]) (h1 := fun _ => []) (p1 := fun _ => []) (W1 := []) (by kernel_rfl) (fun _ => by kernel_rfl) (fun _ => trivial) (fun _ => ?_)
  refine J_seq ?_
  refine JR_begin mixed [(0, true), (1, false), (2, true), (3, true), (4, true), (5, true), (6, true)] [] (by kernel_rfl) (by kernel_rfl) ?_
  refine JR_run (id := 1) (rest := [(1, false), (2, true), (3, true), (4, true), (5, true), (6, true)]) [.rd 0 [] 0 0] [1, 4, 8] (E1 := fun _ => [(1, .val (.int .i64 c)), (4, .val (.bool false)), (8, .val (v))]) (h1 := fun _ => []) (p1 := fun _ => []) (W1 := []) (fun _ => by kernel_rfl) (fun _ => trivial) (fun _ => ?_)
  refine JR_callp [] 53 #[v] (some 9) (by kernel_rfl) (fun w S hG => ?_)
  refine (codeErr (er := er) (eb := eb) (k := k) (hG.at 0 rfl) hI hk hv).mono ?_
  rintro e1 w1 hR
  refine ⟨_, _, _, hR, ?_⟩
  try simp only [List.cons_append, List.nil_append, List.append_nil]
  refine JR_run (id := 1) (rest := []) [.rd 2 [] 0 0, .rd 3 [] 0 0, .rd 4 [] 0 0, .rd 5 [] 0 0, .rd 6 [] 0 0] [1, 4, 5, 6] (E1 := fun _ => [(1, .val (.int .i64 c)), (4, .val (.bool false)), (5, .val (.int .i64 (↑k : Int))), (6, .val (.int .i64 (-1)))]) (h1 := fun _ => []) (p1 := fun _ => []) (W1 := []) (fun _ => by kernel_rfl) (fun _ => trivial) (fun _ => ?_)
  refine JR_end ?_
  refine J_seq ?_
  refine J_reg mixed [.rd 0 [] 0 0, .rd 1 [] 0 0, .rd 2 [] 0 0, .rd 3 [] 0 0, .rd 4 [] 2 0, .rd 5 [] 2 0, .rd 6 [] 0 3, .rd 7 [] 0 0] [] [4] (E1 := fun _ => [(4, .val (.bool ((↑k : Int) == c && true)))]) (h1 := fun _ => []) (p1 := fun _ => []) (W1 := []) (by kernel_rfl) (fun _ => by kernel_rfl) (fun _ => trivial) (fun _ => ?_)
  refine J_return [[]] (.bool ((↑k : Int) == c && true)) (by kernel_rfl) (fun a w s => ?_)
  have e : decide ((k : Int) = c) = (decide ((k : Int) = c) && true) := by simp
  rw [e]
  exact s.ret (by simp) [] [] rfl rfl

theorem codeOther {w : World} {S : Nat → Prop} {er : Nat → Addr} {eb : Nat → Array Value × TypeId} {a : Addr} {ca : Array Value} {ta : TypeId} (hC : Rep w S .nilIface (dC er eb)) (ha : Rep w S (.pointer (some a)) (.obj (.cells ca ta (0, 0)))) (hne : ∀ j, 1 ≤ j → j ≤ 12 → a ≠ er j) :
    Calls Tryz.prog 53 #[.iface 243 (.pointer (some a))] w fun e w' => Ret [] w S w' e (.tuple #[.int .i64 (-1), .int .i64 (-1)]) [] [] := by
  refine ep53 (args := [.iface 243 (.pointer (some a))]) (G := [(_, dC er eb), (_, .obj (.cells ca ta (0, 0)))]) (by kernel_rfl) (.cons hC (.cons ha (.nil _ _))) ?_
  refine J_stp (stp_all 0 [0, 1, 2, 3, 4, 5, 6, 7, 8, 9, 10, 11] rfl rfl) ?_
  refine J_glob 2 rfl (fun csg1 tyg1 fzg1 hglob1 => ?_)
  refine J_glob 3 rfl (fun csg2 tyg2 fzg2 hglob2 => ?_)
  refine J_glob 4 rfl (fun csg3 tyg3 fzg3 hglob3 => ?_)
  refine J_glob 5 rfl (fun csg4 tyg4 fzg4 hglob4 => ?_)
  refine J_glob 6 rfl (fun csg5 tyg5 fzg5 hglob5 => ?_)
  refine J_glob 7 rfl (fun csg6 tyg6 fzg6 hglob6 => ?_)
  refine J_glob 8 rfl (fun csg7 tyg7 fzg7 hglob7 => ?_)
  refine J_glob 9 rfl (fun csg8 tyg8 fzg8 hglob8 => ?_)
  refine J_glob 10 rfl (fun csg9 tyg9 fzg9 hglob9 => ?_)
  refine J_glob 11 rfl (fun csg10 tyg10 fzg10 hglob10 => ?_)
  refine J_glob 12 rfl (fun csg11 tyg11 fzg11 hglob11 => ?_)
  refine J_glob 13 rfl (fun csg12 tyg12 fzg12 hglob12 => ?_)
  try simp only [List.cons_append, List.nil_append, List.append_nil]
  refine J_seq ?_
  refine J_reg mixed [.rd 0 [] 0 0, .rd 1 [] 0 0] [] [0, 2, 3] (E1 := fun _ => [(0, .val (.iface 243 (.pointer (some a)))), (2, .val (.int .i64 0)), (3, .val (.int .i64 0))]) (h1 := fun _ => []) (p1 := fun _ => []) (W1 := []) (by kernel_rfl) (fun _ => by kernel_rfl) (fun _ => trivial) (fun _ => ?_)
  refine J_seq ?_
  refine J_seq ?_
  refine J_reg mixed [.rd 0 [] 0 0, .rd 1 [] 0 0] [] [0, 2, 3, 8] (E1 := fun _ => [(0, .val (.iface 243 (.pointer (some a)))), (2, .val (.int .i64 0)), (3, .val (.int .i64 0)), (8, .val (.bool false))]) (h1 := fun _ => []) (p1 := fun _ => []) (W1 := []) (by kernel_rfl) (fun _ => by kernel_rfl) (fun _ => trivial) (fun _ => ?_)
  refine J_cond_f (by kernel_rfl) (by kernel_rfl) ?_
  refine J_skip ?_
  refine J_seq ?_
  refine J_reg mixed [.rd 0 [] 0 0] [] [0, 2, 3] (E1 := fun _ => [(0, .val (.iface 243 (.pointer (some a)))), (2, .val (.int .i64 0)), (3, .val (.int .i64 (-1)))]) (h1 := fun _ => []) (p1 := fun _ => []) (W1 := []) (by kernel_rfl) (fun _ => by kernel_rfl) (fun _ => trivial) (fun _ => ?_)
  refine J_seq ?_
  refine J_reg mixed [.wr 0 [] 0] [] [0, 2, 3, 4] (E1 := fun nu1 => [(0, .val (.iface 243 (.pointer (some a)))), (2, .val (.int .i64 0)), (3, .val (.int .i64 (-1))), (4, .val (.pointer (some (⟨nu1 0, 0, none⟩))))]) (h1 := fun nu1 => [(nu1 0, .cells #[.pointer none] 102 (0, 0))]) (p1 := fun nu1 => []) (W1 := []) (by kernel_rfl) (fun _ => by kernel_rfl) (fun _ => trivial) (fun nu1 => ?_)
  refine J_seq ?_
  refine J_seq ?_
  refine JR_begin mixed [(0, true), (1, true), (2, false)] [] (by kernel_rfl) (by kernel_rfl) ?_
  refine JR_run (id := 5) (rest := [(2, false)]) [.rd 0 [] 0 0, .rd 1 [] 0 0] [0, 2, 3, 4, 9, 10] (E1 := fun _ => [(0, .val (.iface 243 (.pointer (some a)))), (2, .val (.int .i64 0)), (3, .val (.int .i64 (-1))), (4, .val (.pointer (some (⟨nu1 0, 0, none⟩)))), (9, .val (.iface 243 (.pointer (some a)))), (10, .val (.iface 143 (.pointer (some (⟨nu1 0, 0, none⟩)))))]) (h1 := fun _ => [(nu1 0, .cells #[.pointer none] 102 (0, 0))]) (p1 := fun _ => []) (W1 := []) (fun _ => by kernel_rfl) (fun _ => trivial) (fun _ => ?_)
  refine JR_callp [] 86 #[.iface 243 (.pointer (some a)), .iface 143 (.pointer (some (⟨nu1 0, 0, none⟩)))] (some 11) (by kernel_rfl) (fun w S hG => ?_)
  refine (asMiss (hG.at 0 rfl)).mono ?_
  rintro e1 w1 hR
  refine ⟨_, _, _, hR, ?_⟩
  try simp only [List.cons_append, List.nil_append, List.append_nil]
  refine JR_end ?_
  refine J_cond_f (by kernel_rfl) (by kernel_rfl) ?_
  refine J_skip ?_
  refine J_seq ?_
  refine J_seq ?_
  refine J_reg mixed [.rd 0 [.r 0 (some (.iface 243 (.pointer (some (er 1)))))] 0 0, .rd 1 [.r 1 (some (.iface 243 (.pointer (some (er 2)))))] 0 0, .rd 2 [.r 2 (some (.iface 243 (.pointer (some (er 3)))))] 0 0, .rd 3 [.r 3 (some (.iface 243 (.pointer (some (er 4)))))] 0 0, .rd 4 [.r 4 (some (.iface 243 (.pointer (some (er 5)))))] 0 0, .rd 5 [.r 5 (some (.iface 243 (.pointer (some (er 6)))))] 0 0, .rd 6 [.r 6 (some (.iface 243 (.pointer (some (er 7)))))] 0 0, .rd 7 [.r 7 (some (.iface 243 (.pointer (some (er 8)))))] 0 0, .rd 8 [.r 8 (some (.iface 243 (.pointer (some (er 9)))))] 0 0, .rd 9 [.r 9 (some (.iface 243 (.pointer (some (er 10)))))] 0 0, .rd 10 [.r 10 (some (.iface 243 (.pointer (some (er 11)))))] 0 0, .rd 11 [.r 11 (some (.iface 243 (.pointer (some (er 12)))))] 0 0, .wr 12 [] 0, .rd 13 [] 0 0, .rd 14 [] 0 0] [] [0, 2, 3, 28, 29, 30] (E1 := fun nu2 => [(0, .val (.iface 243 (.pointer (some a)))), (2, .val (.int .i64 0)), (3, .val (.int .i64 (-1))), (28, .val (.slice (some (⟨nu2 0, 0, none⟩)) 12 12)), (29, .val (.int .i64 12)), (30, .val (.int .i64 0))]) (h1 := fun nu2 => [(nu1 0, .cells #[.pointer none] 102 (0, 0)), (nu2 0, .cells #[.iface 243 (.pointer (some (er 1))), .iface 243 (.pointer (some (er 2))), .iface 243 (.pointer (some (er 3))), .iface 243 (.pointer (some (er 4))), .iface 243 (.pointer (some (er 5))), .iface 243 (.pointer (some (er 6))), .iface 243 (.pointer (some (er 7))), .iface 243 (.pointer (some (er 8))), .iface 243 (.pointer (some (er 9))), .iface 243 (.pointer (some (er 10))), .iface 243 (.pointer (some (er 11))), .iface 243 (.pointer (some (er 12)))] 33 (0, 0))]) (p1 := fun nu2 => [csg1[(0 : Nat)]? = some (Value.iface (243 : Nat) (Value.pointer (some (er (1 : Nat))))), csg2[(0 : Nat)]? = some (Value.iface (243 : Nat) (Value.pointer (some (er (2 : Nat))))), csg3[(0 : Nat)]? = some (Value.iface (243 : Nat) (Value.pointer (some (er (3 : Nat))))), csg4[(0 : Nat)]? = some (Value.iface (243 : Nat) (Value.pointer (some (er (4 : Nat))))), csg5[(0 : Nat)]? = some (Value.iface (243 : Nat) (Value.pointer (some (er (5 : Nat))))), csg6[(0 : Nat)]? = some (Value.iface (243 : Nat) (Value.pointer (some (er (6 : Nat))))), csg7[(0 : Nat)]? = some (Value.iface (243 : Nat) (Value.pointer (some (er (7 : Nat))))), csg8[(0 : Nat)]? = some (Value.iface (243 : Nat) (Value.pointer (some (er (8 : Nat))))), csg9[(0 : Nat)]? = some (Value.iface (243 : Nat) (Value.pointer (some (er (9 : Nat))))), csg10[(0 : Nat)]? = some (Value.iface (243 : Nat) (Value.pointer (some (er (10 : Nat))))), csg11[(0 : Nat)]? = some (Value.iface (243 : Nat) (Value.pointer (some (er (11 : Nat))))), csg12[(0 : Nat)]? = some (Value.iface (243 : Nat) (Value.pointer (some (er (12 : Nat)))))]) (W1 := []) (by kernel_rfl) (fun _ => by kernel_rfl) (fun _ => ⟨hglob1, hglob2, hglob3, hglob4, hglob5, hglob6, hglob7, hglob8, hglob9, hglob10, hglob11, hglob12, trivial⟩) (fun nu2 => ?_)
  refine J_block ?_
  refine J_data (size := 1) 1 (eEr er) [1, 2, 3, 4, 5, 6, 7, 8, 9, 10, 11, 12] 12 rfl (by decide) (by intro x _; rfl) (by simp) ⟨.inl ⟨rfl, rfl⟩, ⟨.inl ⟨rfl, rfl⟩, ⟨.inl ⟨rfl, rfl⟩, ⟨.inl ⟨rfl, rfl⟩, ⟨.inl ⟨rfl, rfl⟩, ⟨.inl ⟨rfl, rfl⟩, ⟨.inl ⟨rfl, rfl⟩, ⟨.inl ⟨rfl, rfl⟩, ⟨.inl ⟨rfl, rfl⟩, ⟨.inl ⟨rfl, rfl⟩, ⟨.inl ⟨rfl, rfl⟩, ⟨.inl ⟨rfl, rfl⟩, trivial⟩⟩⟩⟩⟩⟩⟩⟩⟩⟩⟩⟩ ?_
  refine J_loopx (fun i : Int => [(0, .val (.iface 243 (.pointer (some a)))), (2, .val (.int .i64 0)), (3, .val (.int .i64 (-1))), (28, .val (.slice (some (⟨nu2 0, 0, none⟩)) 12 12)), (29, .val (.int .i64 12)), (30, .val (.int .i64 i))]) (fun i : Int => []) (fun i : Int => []) (fun i : Int => [(.nilIface, (dC er eb)), (.pointer (some a), (D.obj (Obj.cells ca ta))), (.slice (some (⟨nu2 0, 0, none⟩)) ((List.map (eEr er) [1, 2, 3, 4, 5, 6, 7, 8, 9, 10, 11, 12]).length) 12, (D.sl 1 (List.map (eEr er) [1, 2, 3, 4, 5, 6, 7, 8, 9, 10, 11, 12])))]) (fun i : Int => (12 - i).toNat) (fun i : Int => (0 ≤ i ∧ i ≤ 12)) 0 [0, 2, 3, 28, 29, 30] [] [] [0, 1, 14] ?_ (by kernel_rfl) rfl rfl rfl ?_
  · exact ⟨by omega, by omega⟩
  rintro i ⟨hi0, hi⟩
  refine J_seq ?_
  refine J_reg mixed [.rd 0 [] 0 0] [] [0, 2, 3, 28, 29, 30, 31] (E1 := fun _ => [(0, .val (.iface 243 (.pointer (some a)))), (2, .val (.int .i64 0)), (3, .val (.int .i64 (-1))), (28, .val (.slice (some (⟨nu2 0, 0, none⟩)) 12 12)), (29, .val (.int .i64 12)), (30, .val (.int .i64 i)), (31, .val (.bool (decide (i < 12))))]) (h1 := fun _ => []) (p1 := fun _ => []) (W1 := []) (by kernel_rfl) (fun _ => by kernel_rfl) (fun _ => trivial) (fun _ => ?_)
  refine J_seq ?_
  refine J_cond (t := decide (i < 12)) (by kernel_rfl) (by kernel_rfl) (fun hlt => ?_) (fun hlt => ?_)
  · have hlt2 : i < 12 := by simpa using hlt
    have hx := row12 hi0 (by omega)
    refine J_read0 2 rfl i.toNat (map_at hx) (by kernel_rfl) (fun b1 off1 cs1 ty1 fz1 ha1 hrd1 => ?_)
    cases ha1
    have hrd1_0 := rd0 (hrd1 0 _ rfl)
    try simp only [List.cons_append, List.nil_append, List.append_nil]
    refine J_skip ?_
    refine J_seq ?_
    refine J_block ?_
    refine J_seq ?_
    refine J_reg mixed [.rd 0 [] 0 0, .rd 1 [] 0 2, .rd 2 [.r 12 (some (.iface 243 (.pointer (some (er (i.toNat + 1))))))] 0 0, .rd 3 [] 0 0, .rd 4 [] 0 0] [] [0, 2, 3, 5, 6, 28, 29, 30] (E1 := fun _ => [(0, .val (.iface 243 (.pointer (some a)))), (2, .val (.int .i64 0)), (3, .val (.int .i64 (-1))), (5, .val (.int .i64 i)), (6, .val (.iface 243 (.pointer (some (er (i.toNat + 1)))))), (28, .val (.slice (some (⟨nu2 0, 0, none⟩)) 12 12)), (29, .val (.int .i64 12)), (30, .val (.int .i64 i))]) (h1 := fun _ => []) (p1 := fun _ => [(0 : Int) ≤ i, i < (↑(12 : Nat) : Int), cs1[(0 : Nat) + i.toNat * (1 : Nat)]? = some (Value.iface (243 : TypeId) (Value.pointer (some (er (i.toNat + (1 : Nat))))))]) (W1 := []) (by kernel_rfl) (fun _ => by kernel_rfl) (fun _ => ⟨hi0, by omega, hrd1_0, trivial⟩) (fun _ => ?_)
    refine J_seq ?_
    refine JR_begin mixed [(0, true), (1, true), (2, false)] [] (by kernel_rfl) (by kernel_rfl) ?_
    refine JR_run (id := 10) (rest := [(2, false)]) [.rd 0 [] 0 0, .rd 1 [] 0 0] [0, 2, 3, 5, 6, 28, 29, 30, 35, 36] (E1 := fun _ => [(0, .val (.iface 243 (.pointer (some a)))), (2, .val (.int .i64 0)), (3, .val (.int .i64 (-1))), (5, .val (.int .i64 i)), (6, .val (.iface 243 (.pointer (some (er (i.toNat + 1)))))), (28, .val (.slice (some (⟨nu2 0, 0, none⟩)) 12 12)), (29, .val (.int .i64 12)), (30, .val (.int .i64 i)), (35, .val (.iface 243 (.pointer (some a)))), (36, .val (.iface 243 (.pointer (some (er (i.toNat + 1))))))]) (h1 := fun _ => []) (p1 := fun _ => []) (W1 := []) (fun _ => by kernel_rfl) (fun _ => trivial) (fun _ => ?_)
    refine JR_callp [] 87 #[.iface 243 (.pointer (some a)), .iface 243 (.pointer (some (er (i.toNat + 1))))] (some 37) (by kernel_rfl) (fun w S hG => ?_)
    refine (isAt (hG.at 0 rfl) (hG.at 1 rfl) (by omega) (by omega)).mono ?_
    rintro e2 w2 hR
    rw [decide_eq_false (hne _ (by omega) (by omega))] at hR
    refine ⟨_, _, _, hR, ?_⟩
    try simp only [List.cons_append, List.nil_append, List.append_nil]
    refine JR_end ?_
    refine J_cond_f (by kernel_rfl) (by kernel_rfl) ?_
    refine J_skip ?_
    refine J_eb ?_
    refine J_reg mixed [.rd 0 [] 0 1, .rd 1 [] 0 0] [] [0, 2, 3, 5, 6, 28, 29, 30, 35, 36] (E1 := fun _ => [(0, .val (.iface 243 (.pointer (some a)))), (2, .val (.int .i64 0)), (3, .val (.int .i64 (-1))), (5, .val (.int .i64 i)), (6, .val (.iface 243 (.pointer (some (er (i.toNat + 1)))))), (28, .val (.slice (some (⟨nu2 0, 0, none⟩)) 12 12)), (29, .val (.int .i64 12)), (30, .val (.int .i64 (i + 1))), (35, .val (.iface 243 (.pointer (some a)))), (36, .val (.iface 243 (.pointer (some (er (i.toNat + 1))))))]) (h1 := fun _ => []) (p1 := fun _ => [IntKind.i64.wrap (i + (1 : Int)) = i + (1 : Int)]) (W1 := []) (by kernel_rfl) (fun _ => by kernel_rfl) (fun _ => ⟨wrap_i64 (by omega) (by omega), trivial⟩) (fun _ => ?_)
    refine J_backx (i + 1) [0, 2, 3, 28, 29, 30] [] [] [0, 1, 2] ?_ ?_ (by kernel_rfl) rfl rfl rfl
    · exact ⟨by omega, by omega⟩
    · omega
  · refine J_exit rfl ?_
    refine J_seq ?_
    refine J_reg mixed [.rd 0 [] 0 0, .rd 1 [] 0 0, .rd 2 [] 0 0] [] [2, 3] (E1 := fun _ => [(2, .val (.int .i64 (-1))), (3, .val (.int .i64 (-1)))]) (h1 := fun _ => []) (p1 := fun _ => []) (W1 := []) (by kernel_rfl) (fun _ => by kernel_rfl) (fun _ => trivial) (fun _ => ?_)
    refine J_return [[], []] (.tuple #[.int .i64 (-1), .int .i64 (-1)]) (by kernel_rfl) (fun a w s => ?_)
    exact s.ret (by simp) [] [] rfl rfl
end Go.Proofs.YtpjkiomccpjboaaGreatDoor
