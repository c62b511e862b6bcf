/- plain.Code at a Fault: the number of its error, and its place. -/
import Derived.Test.YtpjkiomccpjboaaGreatDoorCode
namespace Go.Proofs.YtpjkiomccpjboaaGreatDoor
open Go Go.Sx

theorem setCell_at {w : World} {b : Nat} {old x : Value} {ty : TypeId} {fz : Nat × Nat} (h : w.heap[b]? = some (.cells #[old] ty fz)) : (w.setCell ⟨b, 0, none⟩ x).heap[b]? = some (.cells #[x] ty fz) := by
  simp [World.setCell, Array.getElem?_modify, h, Array.setIfInBounds]
theorem alloc_old {w : World} {o o' : Obj} {b : Nat} (h : w.heap[b]? = some o) : (w.alloc o').heap[b]? = some o := by
  rw [RowKit.Below.heap_alloc _ _ _ (Array.getElem?_eq_some_iff.1 h).1]
  exact h
theorem asHit {w : World} {S : Nat → Prop} {M : List Nat} {p : Addr} {t : Nat} {old : Value} {ty : TypeId} {er : Nat → Addr} {eb : Nat → Array Value × TypeId} (hC : Rep w S .nilIface (dC er eb)) (hp : Pre w S M [cObj t (.cells #[old] ty (0, 0))]) :
    Calls Tryz.prog 86 #[.iface 102 (.pointer (some p)), .iface 143 (.pointer (some ⟨t, 0, none⟩))] w fun e w' => Ret M w S w' e (.bool true) [cObj t (.cells #[.pointer (some p)] ty (0, 0))] [] := by
  obtain ⟨fps, hch, rfl, hnd, hM⟩ := hp
  match fps, hch with
  | [fp], ⟨⟨hfp, hb⟩, _⟩ =>
    subst hfp
    have hl := (Array.getElem?_eq_some_iff.1 hb).1
    refine (Er.as_hit p ⟨t, 0, none⟩ old w (var_of (hC.part _ (List.mem_of_getElem? (i := 12) rfl))) (by simp [World.cell?, hb]) (by simp [World.frozen?, hb])).mono ?_
    rintro e w' ⟨he, rfl⟩
    have hbl := (((RowKit.Below.refl _ w).alloc (Nat.le_refl _) (.cells #[.pointer (some ⟨t, 0, none⟩)] 143)).alloc (by simp) (.cells #[.pointer (some ⟨13, 143, none⟩), .pointer (some ⟨w.heap.size, 0, none⟩), .int .u64 150] 174)).alloc (by simp; omega) (.cells #[.pointer (some ⟨13, 143, none⟩), .pointer (some ⟨w.heap.size, 0, none⟩), .int .u64 150] 174) |>.alloc (by simp; omega) (.cells #[.pointer (some p)] 102)
    refine ⟨he, ⟨hbl.os, hbl.tape, hbl.output, by simpa [World.setCell] using hbl.size, fun b hbs hn => ?_, Nat.le_refl _⟩, [[t]], ⟨⟨rfl, ?_⟩, trivial⟩, by simp, fun b hb' => ?_, by simp⟩
    · rw [RowKit.Below.heap_setCell _ _ _ _ (by simpa using hn)]
      exact hbl.block b hbs
    · exact setCell_at (alloc_old (alloc_old (alloc_old (alloc_old hb))))
    · obtain rfl : b = t := by simpa using hb'
      refine ⟨.inl (by simp), ?_⟩
      simp [World.setCell]
      omega
  | [], h => exact h.elim
  | _ :: _ :: _, h => exact h.2.elim

theorem wrapAt {w : World} {S : Nat → Prop} {pb : Nat} {x : Value} {k j : Nat} {er : Nat → Addr} {eb : Nat → Array Value × TypeId} (hC : Rep w S .nilIface (dC er eb)) (hI : Inj er) (hp : Rep w S (.pointer (some ⟨pb, 0, none⟩)) (.ptr [.v x, .v (.iface 243 (.pointer (some (er k))))])) (h0 : 1 ≤ k) (hk : k ≤ 12) (h1 : 1 ≤ j) (h2 : j ≤ 12) :
    Calls Tryz.prog 87 #[.iface 102 (.pointer (some ⟨pb, 0, none⟩)), .iface 243 (.pointer (some (er j)))] w fun e w' => Ret [] w S w' e (.bool (decide (k = j))) [] [] := by
  have hc : w.cell? ⟨pb, 0 + 1, none⟩ = some (.iface 243 (.pointer (some (er k)))) := by
    cases hp with
    | ptr u hb hS hcell hrep =>
      have h1 := (hrep 1 _ rfl).plain
      have h2 := hcell 1 (by simp)
      rw [h1] at h2
      simpa [World.cell?, hb] using h2
  by_cases h : k = j
  · subst h
    rw [decide_eq_true rfl]
    exact (Er.is_wrap_same pb 0 _ w hc).mono fun e w' h => ret_same h.1 h.2
  · rw [decide_eq_false h]
    exact (Er.is_wrap_other pb 0 (er j) (er k) (eb k).1 (eb j).1 (eb k).2 (eb j).2 w hc (fun he => h (hI k j h0 hk h1 h2 he)) (blk_of (hC.part _ (eO_mem er eb h0 hk))) (blk_of (hC.part _ (eO_mem er eb h1 h2)))).mono fun e w' h => ret_same h.1 h.2

theorem codeFault {w : World} {S : Nat → Prop} {er : Nat → Addr} {eb : Nat → Array Value × TypeId} {k pb : Nat} {at' : Int} (hC : Rep w S .nilIface (dC er eb)) (hI : Inj er) (h1 : 1 ≤ k) (hk : k ≤ 12) (hp : Rep w S (.pointer (some ⟨pb, 0, none⟩)) (.ptr [.v (.int .i64 at'), .v (.iface 243 (.pointer (some (er k))))])) :
    Calls Tryz.prog 53 #[.iface 102 (.pointer (some ⟨pb, 0, none⟩))] w fun e w' => Ret [] w S w' e (.tuple #[.int .i64 k, .int .i64 at']) [] [] := by
  refine ep53 (args := [.iface 102 (.pointer (some ⟨pb, 0, none⟩))]) (G := [(_, dC er eb), (_, .ptr [.v (.int .i64 at'), .v (.iface 243 (.pointer (some (er k))))])]) (by kernel_rfl) (.cons hC (.cons hp (.nil _ _))) ?_
  refine J_ptrl 1 rfl fun b off cs e fz ls he hl hc => ?_
  cases he
  obtain rfl : ls = [] := List.eq_nil_of_length_eq_zero hl
  have hc0 : cs[0]? = some (.int .i64 at') := hc 0 _ rfl
  refine J_stp (stp_all 0 [0, 1, 2, 3, 4, 5, 6, 7, 8, 9, 10, 11] rfl rfl) ?_
  refine J_glob 2 rfl (fun csg1 tyg1 fzg1 hglob1 => ?_)
  refine J_glob 3 rfl (fun csg2 tyg2 fzg2 hglob2 => ?_)
  refine J_glob 4 rfl (fun csg3 tyg3 fzg3 hglob3 => ?_)
  refine J_glob 5 rfl (fun csg4 tyg4 fzg4 hglob4 => ?_)
  refine J_glob 6 rfl (fun csg5 tyg5 fzg5 hglob5 => ?_)
  refine J_glob 7 rfl (fun csg6 tyg6 fzg6 hglob6 => ?_)
  refine J_glob 8 rfl (fun csg7 tyg7 fzg7 hglob7 => ?_)
  refine J_glob 9 rfl (fun csg8 tyg8 fzg8 hglob8 => ?_)
  refine J_glob 10 rfl (fun csg9 tyg9 fzg9 hglob9 => ?_)
  refine J_glob 11 rfl (fun csg10 tyg10 fzg10 hglob10 => ?_)
  refine J_glob 12 rfl (fun csg11 tyg11 fzg11 hglob11 => ?_)
  refine J_glob 13 rfl (fun csg12 tyg12 fzg12 hglob12 => ?_)
  try simp only [List.cons_append, List.nil_append, List.append_nil]
  refine J_seq ?_
  refine J_reg mixed [.rd 0 [] 0 0, .rd 1 [] 0 0] [] [0, 2, 3] (E1 := fun _ => [(0, .val (.iface 102 (.pointer (some (⟨pb, 0, none⟩))))), (2, .val (.int .i64 0)), (3, .val (.int .i64 0))]) (h1 := fun _ => []) (p1 := fun _ => []) (W1 := []) (by kernel_rfl) (fun _ => by kernel_rfl) (fun _ => trivial) (fun _ => ?_)
  refine J_seq ?_
  refine J_seq ?_
  refine J_reg mixed [.rd 0 [] 0 0, .rd 1 [] 0 0] [] [0, 2, 3, 8] (E1 := fun _ => [(0, .val (.iface 102 (.pointer (some (⟨pb, 0, none⟩))))), (2, .val (.int .i64 0)), (3, .val (.int .i64 0)), (8, .val (.bool false))]) (h1 := fun _ => []) (p1 := fun _ => []) (W1 := []) (by kernel_rfl) (fun _ => by kernel_rfl) (fun _ => trivial) (fun _ => ?_)
  refine J_cond_f (by kernel_rfl) (by kernel_rfl) ?_
  refine J_skip ?_
  refine J_seq ?_
  refine J_reg mixed [.rd 0 [] 0 0] [] [0, 2, 3] (E1 := fun _ => [(0, .val (.iface 102 (.pointer (some (⟨pb, 0, none⟩))))), (2, .val (.int .i64 0)), (3, .val (.int .i64 (-1)))]) (h1 := fun _ => []) (p1 := fun _ => []) (W1 := []) (by kernel_rfl) (fun _ => by kernel_rfl) (fun _ => trivial) (fun _ => ?_)
  refine J_seq ?_
  refine J_reg mixed [.wr 0 [] 0] [] [0, 2, 3, 4] (E1 := fun nu1 => [(0, .val (.iface 102 (.pointer (some (⟨pb, 0, none⟩))))), (2, .val (.int .i64 0)), (3, .val (.int .i64 (-1))), (4, .val (.pointer (some (⟨nu1 0, 0, none⟩))))]) (h1 := fun nu1 => [(nu1 0, .cells #[.pointer none] 102 (0, 0))]) (p1 := fun nu1 => []) (W1 := []) (by kernel_rfl) (fun _ => by kernel_rfl) (fun _ => trivial) (fun nu1 => ?_)
  refine J_seq ?_
  refine J_seq ?_
  refine J_hide 0 rfl ?_
  try simp only [List.cons_append, List.nil_append, List.append_nil]
  refine JR_begin mixed [(0, true), (1, true), (2, false)] [] (by kernel_rfl) (by kernel_rfl) ?_
  refine JR_run (id := 5) (rest := [(2, false)]) [.rd 0 [] 0 0, .rd 1 [] 0 0] [0, 2, 3, 4, 9, 10] (E1 := fun _ => [(0, .val (.iface 102 (.pointer (some (⟨pb, 0, none⟩))))), (2, .val (.int .i64 0)), (3, .val (.int .i64 (-1))), (4, .val (.pointer (some (⟨nu1 0, 0, none⟩)))), (9, .val (.iface 102 (.pointer (some (⟨pb, 0, none⟩))))), (10, .val (.iface 143 (.pointer (some (⟨nu1 0, 0, none⟩)))))]) (h1 := fun _ => []) (p1 := fun _ => []) (W1 := []) (fun _ => by kernel_rfl) (fun _ => trivial) (fun _ => ?_)
  refine JR_call [] [0] 86 #[.iface 102 (.pointer (some (⟨pb, 0, none⟩))), .iface 143 (.pointer (some (⟨nu1 0, 0, none⟩)))] (some 11) (by kernel_rfl) (by kernel_rfl) (by decide) (fun w S M hP hG _ => ?_)
  refine (asHit (hG.at 0 rfl) hP).mono ?_
  rintro e1 w1 hR
  refine ⟨_, _, _, hR, ?_⟩
  try simp only [List.cons_append, List.nil_append, List.append_nil]
  refine JR_end ?_
  try simp only [List.cons_append, List.nil_append, List.append_nil]
  refine J_cond_t (by kernel_rfl) (by kernel_rfl) ?_
  try simp only [List.cons_append, List.nil_append, List.append_nil]
  refine J_show 0 rfl ?_
  refine J_reg mixed [.rd 0 [.o 0 none] 0 0, .rd 1 [] 0 0, .rd 2 [] 0 0, .rd 3 [.r 0 (some (.int .i64 at'))] 0 0, .rd 4 [] 0 0] [] [0, 2, 3] (E1 := fun _ => [(0, .val (.iface 102 (.pointer (some (⟨pb, 0, none⟩))))), (2, .val (.int .i64 0)), (3, .val (.int .i64 at'))]) (h1 := fun _ => [(nu1 0, .cells #[.pointer (some (⟨pb, 0, none⟩))] 102 (0, 0))]) (p1 := fun _ => [cs[(0 : Nat)]? = some (Value.int IntKind.i64 at')]) (W1 := []) (by kernel_rfl) (fun _ => by kernel_rfl) (fun _ => ⟨hc0, trivial⟩) (fun _ => ?_)
  refine J_seq ?_
  refine J_seq ?_
  refine J_reg mixed [.rd 0 [.r 1 (some (.iface 243 (.pointer (some (er 1)))))] 0 0, .rd 1 [.r 2 (some (.iface 243 (.pointer (some (er 2)))))] 0 0, .rd 2 [.r 3 (some (.iface 243 (.pointer (some (er 3)))))] 0 0, .rd 3 [.r 4 (some (.iface 243 (.pointer (some (er 4)))))] 0 0, .rd 4 [.r 5 (some (.iface 243 (.pointer (some (er 5)))))] 0 0, .rd 5 [.r 6 (some (.iface 243 (.pointer (some (er 6)))))] 0 0, .rd 6 [.r 7 (some (.iface 243 (.pointer (some (er 7)))))] 0 0, .rd 7 [.r 8 (some (.iface 243 (.pointer (some (er 8)))))] 0 0, .rd 8 [.r 9 (some (.iface 243 (.pointer (some (er 9)))))] 0 0, .rd 9 [.r 10 (some (.iface 243 (.pointer (some (er 10)))))] 0 0, .rd 10 [.r 11 (some (.iface 243 (.pointer (some (er 11)))))] 0 0, .rd 11 [.r 12 (some (.iface 243 (.pointer (some (er 12)))))] 0 0, .wr 12 [] 0, .rd 13 [] 0 0, .rd 14 [] 0 0] [] [0, 2, 3, 28, 29, 30] (E1 := fun nu2 => [(0, .val (.iface 102 (.pointer (some (⟨pb, 0, none⟩))))), (2, .val (.int .i64 0)), (3, .val (.int .i64 at')), (28, .val (.slice (some (⟨nu2 0, 0, none⟩)) 12 12)), (29, .val (.int .i64 12)), (30, .val (.int .i64 0))]) (h1 := fun nu2 => [(nu1 0, .cells #[.pointer (some (⟨pb, 0, none⟩))] 102 (0, 0)), (nu2 0, .cells #[.iface 243 (.pointer (some (er 1))), .iface 243 (.pointer (some (er 2))), .iface 243 (.pointer (some (er 3))), .iface 243 (.pointer (some (er 4))), .iface 243 (.pointer (some (er 5))), .iface 243 (.pointer (some (er 6))), .iface 243 (.pointer (some (er 7))), .iface 243 (.pointer (some (er 8))), .iface 243 (.pointer (some (er 9))), .iface 243 (.pointer (some (er 10))), .iface 243 (.pointer (some (er 11))), .iface 243 (.pointer (some (er 12)))] 33 (0, 0))]) (p1 := fun nu2 => [csg1[(0 : Nat)]? = some (Value.iface (243 : Nat) (Value.pointer (some (er (1 : Nat))))), csg2[(0 : Nat)]? = some (Value.iface (243 : Nat) (Value.pointer (some (er (2 : Nat))))), csg3[(0 : Nat)]? = some (Value.iface (243 : Nat) (Value.pointer (some (er (3 : Nat))))), csg4[(0 : Nat)]? = some (Value.iface (243 : Nat) (Value.pointer (some (er (4 : Nat))))), csg5[(0 : Nat)]? = some (Value.iface (243 : Nat) (Value.pointer (some (er (5 : Nat))))), csg6[(0 : Nat)]? = some (Value.iface (243 : Nat) (Value.pointer (some (er (6 : Nat))))), csg7[(0 : Nat)]? = some (Value.iface (243 : Nat) (Value.pointer (some (er (7 : Nat))))), csg8[(0 : Nat)]? = some (Value.iface (243 : Nat) (Value.pointer (some (er (8 : Nat))))), csg9[(0 : Nat)]? = some (Value.iface (243 : Nat) (Value.pointer (some (er (9 : Nat))))), csg10[(0 : Nat)]? = some (Value.iface (243 : Nat) (Value.pointer (some (er (10 : Nat))))), csg11[(0 : Nat)]? = some (Value.iface (243 : Nat) (Value.pointer (some (er (11 : Nat))))), csg12[(0 : Nat)]? = some (Value.iface (243 : Nat) (Value.pointer (some (er (12 : Nat)))))]) (W1 := []) (by kernel_rfl) (fun _ => by kernel_rfl) (fun _ => ⟨hglob1, hglob2, hglob3, hglob4, hglob5, hglob6, hglob7, hglob8, hglob9, hglob10, hglob11, hglob12, trivial⟩) (fun nu2 => ?_)
  refine J_block ?_
  refine J_data (size := 1) 1 (eEr er) [1, 2, 3, 4, 5, 6, 7, 8, 9, 10, 11, 12] 12 rfl (by decide) (by intro x _; rfl) (by simp) ⟨.inl ⟨rfl, rfl⟩, ⟨.inl ⟨rfl, rfl⟩, ⟨.inl ⟨rfl, rfl⟩, ⟨.inl ⟨rfl, rfl⟩, ⟨.inl ⟨rfl, rfl⟩, ⟨.inl ⟨rfl, rfl⟩, ⟨.inl ⟨rfl, rfl⟩, ⟨.inl ⟨rfl, rfl⟩, ⟨.inl ⟨rfl, rfl⟩, ⟨.inl ⟨rfl, rfl⟩, ⟨.inl ⟨rfl, rfl⟩, ⟨.inl ⟨rfl, rfl⟩, trivial⟩⟩⟩⟩⟩⟩⟩⟩⟩⟩⟩⟩ ?_
  refine J_loopx (fun i : Int => [(0, .val (.iface 102 (.pointer (some (⟨pb, 0, none⟩))))), (2, .val (.int .i64 0)), (3, .val (.int .i64 at')), (28, .val (.slice (some (⟨nu2 0, 0, none⟩)) 12 12)), (29, .val (.int .i64 12)), (30, .val (.int .i64 i))]) (fun i : Int => []) (fun i : Int => []) (fun i : Int => [(.nilIface, (dC er eb)), (.pointer (some (⟨pb, 0, none⟩)), (D.ptr [D.v (Value.int IntKind.i64 at'), D.v (Value.iface 243 (Value.pointer (some (er k))))])), (.slice (some (⟨nu2 0, 0, none⟩)) ((List.map (eEr er) [1, 2, 3, 4, 5, 6, 7, 8, 9, 10, 11, 12]).length) 12, (D.sl 1 (List.map (eEr er) [1, 2, 3, 4, 5, 6, 7, 8, 9, 10, 11, 12])))]) (fun i : Int => (12 - i).toNat) (fun i : Int => (0 ≤ i ∧ i < k)) 0 [0, 2, 3, 28, 29, 30] [] [] [0, 1, 14] ?_ (by kernel_rfl) rfl rfl rfl ?_
  · exact ⟨by omega, by omega⟩
  rintro i ⟨hi0, hi⟩
  have hx := row12 hi0 (by omega)
  refine J_read0 2 rfl i.toNat (map_at hx) (by kernel_rfl) (fun b1 off1 cs1 ty1 fz1 ha1 hrd1 => ?_)
  cases ha1
  have hrd1_0 := rd0 (hrd1 0 _ rfl)
  try simp only [List.cons_append, List.nil_append, List.append_nil]
  refine J_seq ?_
  refine J_reg mixed [.rd 0 [] 0 0] [] [0, 2, 3, 28, 29, 30, 31] (E1 := fun _ => [(0, .val (.iface 102 (.pointer (some (⟨pb, 0, none⟩))))), (2, .val (.int .i64 0)), (3, .val (.int .i64 at')), (28, .val (.slice (some (⟨nu2 0, 0, none⟩)) 12 12)), (29, .val (.int .i64 12)), (30, .val (.int .i64 i)), (31, .val (.bool (decide (i < 12))))]) (h1 := fun _ => []) (p1 := fun _ => []) (W1 := []) (by kernel_rfl) (fun _ => by kernel_rfl) (fun _ => trivial) (fun _ => ?_)
  refine J_seq ?_
  refine J_condT (decide (i < 12)) (by kernel_rfl) (by kernel_rfl) (by simp; omega) ?_
  refine J_skip ?_
  refine J_seq ?_
  refine J_block ?_
  refine J_seq ?_
  refine J_reg mixed [.rd 0 [] 0 0, .rd 1 [] 0 2, .rd 2 [.r 13 (some (.iface 243 (.pointer (some (er (i.toNat + 1))))))] 0 0, .rd 3 [] 0 0, .rd 4 [] 0 0] [] [0, 2, 3, 5, 6, 28, 29, 30] (E1 := fun _ => [(0, .val (.iface 102 (.pointer (some (⟨pb, 0, none⟩))))), (2, .val (.int .i64 0)), (3, .val (.int .i64 at')), (5, .val (.int .i64 i)), (6, .val (.iface 243 (.pointer (some (er (i.toNat + 1)))))), (28, .val (.slice (some (⟨nu2 0, 0, none⟩)) 12 12)), (29, .val (.int .i64 12)), (30, .val (.int .i64 i))]) (h1 := fun _ => []) (p1 := fun _ => [(0 : Int) ≤ i, i < (↑(12 : Nat) : Int), cs1[(0 : Nat) + i.toNat * (1 : Nat)]? = some (Value.iface (243 : TypeId) (Value.pointer (some (er (i.toNat + (1 : Nat))))))]) (W1 := []) (by kernel_rfl) (fun _ => by kernel_rfl) (fun _ => ⟨hi0, by omega, hrd1_0, trivial⟩) (fun _ => ?_)
  refine J_seq ?_
  refine JR_begin mixed [(0, true), (1, true), (2, false)] [] (by kernel_rfl) (by kernel_rfl) ?_
  refine JR_run (id := 10) (rest := [(2, false)]) [.rd 0 [] 0 0, .rd 1 [] 0 0] [0, 2, 3, 5, 6, 28, 29, 30, 35, 36] (E1 := fun _ => [(0, .val (.iface 102 (.pointer (some (⟨pb, 0, none⟩))))), (2, .val (.int .i64 0)), (3, .val (.int .i64 at')), (5, .val (.int .i64 i)), (6, .val (.iface 243 (.pointer (some (er (i.toNat + 1)))))), (28, .val (.slice (some (⟨nu2 0, 0, none⟩)) 12 12)), (29, .val (.int .i64 12)), (30, .val (.int .i64 i)), (35, .val (.iface 102 (.pointer (some (⟨pb, 0, none⟩))))), (36, .val (.iface 243 (.pointer (some (er (i.toNat + 1))))))]) (h1 := fun _ => []) (p1 := fun _ => []) (W1 := []) (fun _ => by kernel_rfl) (fun _ => trivial) (fun _ => ?_)
  refine JR_callp [] 87 #[.iface 102 (.pointer (some (⟨pb, 0, none⟩))), .iface 243 (.pointer (some (er (i.toNat + 1))))] (some 37) (by kernel_rfl) (fun w S hG => ?_)
  refine (wrapAt (hG.at 0 rfl) hI (hG.at 1 rfl) h1 hk (by omega) (by omega)).mono ?_
  rintro e2 w2 hR
  refine ⟨_, _, _, hR, ?_⟩
  try simp only [List.cons_append, List.nil_append, List.append_nil]
  refine JR_end ?_
  refine J_cond (t := decide (k = i.toNat + 1)) (by kernel_rfl) (by kernel_rfl) (fun hb => ?_) (fun hb => ?_)
  · refine J_seq ?_
    refine J_reg mixed [.rd 0 [] 0 0, .rd 1 [] 0 1, .rd 2 [] 0 0, .rd 3 [] 0 0, .rd 4 [] 0 0] [] [0, 2, 3, 5, 6, 28, 29, 30, 35, 36] (E1 := fun _ => [(0, .val (.iface 102 (.pointer (some (⟨pb, 0, none⟩))))), (2, .val (.int .i64 (i + 1))), (3, .val (.int .i64 at')), (5, .val (.int .i64 i)), (6, .val (.iface 243 (.pointer (some (er (i.toNat + 1)))))), (28, .val (.slice (some (⟨nu2 0, 0, none⟩)) 12 12)), (29, .val (.int .i64 12)), (30, .val (.int .i64 i)), (35, .val (.iface 102 (.pointer (some (⟨pb, 0, none⟩))))), (36, .val (.iface 243 (.pointer (some (er (i.toNat + 1))))))]) (h1 := fun _ => []) (p1 := fun _ => [IntKind.i64.wrap (i + (1 : Int)) = i + (1 : Int)]) (W1 := []) (by kernel_rfl) (fun _ => by kernel_rfl) (fun _ => ⟨wrap_i64 (by omega) (by omega), trivial⟩) (fun _ => ?_)
    refine J_return [[], []] (.tuple #[.int .i64 (i + 1), .int .i64 at']) (by kernel_rfl) (fun a w s => ?_)
    have e : i + 1 = k := by
      have := of_decide_eq_true hb
      omega
    rw [e]
    exact s.ret (by simp) [] [] rfl rfl
  · refine J_skip ?_
    refine J_eb ?_
    refine J_reg mixed [.rd 0 [] 0 1, .rd 1 [] 0 0] [] [0, 2, 3, 5, 6, 28, 29, 30, 35, 36] (E1 := fun _ => [(0, .val (.iface 102 (.pointer (some (⟨pb, 0, none⟩))))), (2, .val (.int .i64 0)), (3, .val (.int .i64 at')), (5, .val (.int .i64 i)), (6, .val (.iface 243 (.pointer (some (er (i.toNat + 1)))))), (28, .val (.slice (some (⟨nu2 0, 0, none⟩)) 12 12)), (29, .val (.int .i64 12)), (30, .val (.int .i64 (i + 1))), (35, .val (.iface 102 (.pointer (some (⟨pb, 0, none⟩))))), (36, .val (.iface 243 (.pointer (some (er (i.toNat + 1))))))]) (h1 := fun _ => []) (p1 := fun _ => [IntKind.i64.wrap (i + (1 : Int)) = i + (1 : Int)]) (W1 := []) (by kernel_rfl) (fun _ => by kernel_rfl) (fun _ => ⟨wrap_i64 (by omega) (by omega), trivial⟩) (fun _ => ?_)
    refine J_backx (i + 1) [0, 2, 3, 28, 29, 30] [] [] [0, 1, 2] ?_ ?_ (by kernel_rfl) rfl rfl rfl
    · have := of_decide_eq_false hb
      exact ⟨by omega, by omega⟩
    · omega

theorem ptr_of_obj {w : World} {S : Nat → Prop} {b : Nat} {x y : Value} {ty : TypeId} {fz : Nat × Nat} (hx : x.oneCell' = true) (hy : y.oneCell' = true) (h : Rep w S (.pointer (some ⟨b, 0, none⟩)) (.obj (.cells #[x, y] ty fz))) : Rep w S (.pointer (some ⟨b, 0, none⟩)) (.ptr [.v x, .v y]) := by
  cases h with
  | obj hb hS =>
    refine .ptr (fun j => (#[x, y] : Array Value).getD j .nilIface) hb hS (fun j hj => ?_) fun j d hj => ?_
    · match j, hj with
      | 0, _ => rfl
      | 1, _ => rfl
      | j + 2, hj => exact absurd hj (by simp)
    · match j, hj with
      | 0, hj => cases hj; exact .v hx
      | 1, hj => cases hj; exact .v hy
      | j + 2, hj => simp at hj
end Go.Proofs.YtpjkiomccpjboaaGreatDoor
