/- Part 7 of the texts of a claim: Fault Msg2. -/
import Derived.Test.YtpjkiomccpjboaaGreatDoorTd6
section
namespace Go.Proofs.YtpjkiomccpjboaaGreatDoor
open Go Go.Sx
theorem setCell_at {w : World} {b : Nat} {old x : Value} {ty : TypeId} {fz : Nat × Nat} (h : w.heap[b]? = some (.cells #[old] ty fz)) : (w.setCell ⟨b, 0, none⟩ x).heap[b]? = some (.cells #[x] ty fz) := by
 simp [World.setCell, Array.getElem?_modify, h, Array.setIfInBounds]
theorem alloc_old {w : World} {o o' : Obj} {b : Nat} (h : w.heap[b]? = some o) : (w.alloc o').heap[b]? = some o := by
 rw [RowKit.Below.heap_alloc _ _ _ (Array.getElem?_eq_some_iff.1 h).1]
 exact h
theorem asHit {w : World} {S : Nat → Prop} {M : List Nat} {p : Addr} {t : Nat} {old : Value} {ty : TypeId} {er : Nat → Addr} {eb : Nat → Array Value × TypeId} (hC : Rep w S .nilIface (dC er eb)) (hp : Pre w S M [cObj t (.cells #[old] ty (0, 0))]) :
  Calls Tryz.prog 86 #[.iface 102 (.pointer (some p)), .iface 143 (.pointer (some ⟨t, 0, none⟩))] w fun e w' => Ret M w S w' e (.bool true) [cObj t (.cells #[.pointer (some p)] ty (0, 0))] [] := by
 obtain ⟨fps, hch, rfl, hnd, hM⟩ := hp
 match fps, hch with
 | [fp], ⟨⟨hfp, hb⟩, _⟩ =>
  subst hfp
  have hl := (Array.getElem?_eq_some_iff.1 hb).1
  refine (Er.as_hit p ⟨t, 0, none⟩ old w (var_of (hC.part _ (List.mem_of_getElem? (i := 12) rfl))) (by simp [World.cell?, hb]) (by simp [World.frozen?, hb])).mono ?_
  rintro e w' ⟨he, rfl⟩
  have hbl := (((RowKit.Below.refl _ w).alloc (Nat.le_refl _) (.cells #[.pointer (some ⟨t, 0, none⟩)] 143)).alloc (by simp) (.cells #[.pointer (some ⟨13, 143, none⟩), .pointer (some ⟨w.heap.size, 0, none⟩), .int .u64 150] 174)).alloc (by simp; omega) (.cells #[.pointer (some ⟨13, 143, none⟩), .pointer (some ⟨w.heap.size, 0, none⟩), .int .u64 150] 174) |>.alloc (by simp; omega) (.cells #[.pointer (some p)] 102)
  refine ⟨he, ⟨hbl.os, hbl.tape, hbl.output, by simpa [World.setCell] using hbl.size, fun b hbs hn => ?_, Nat.le_refl _⟩, [[t]], ⟨⟨rfl, ?_⟩, trivial⟩, by simp, fun b hb' => ?_, by simp⟩
  ·rw [RowKit.Below.heap_setCell _ _ _ _ (by simpa using hn)]
   exact hbl.block b hbs
  ·exact setCell_at (alloc_old (alloc_old (alloc_old (alloc_old hb))))
  ·obtain rfl : b = t := by simpa using hb'
   refine ⟨.inl (by simp), ?_⟩
   simp [World.setCell]
   omega
 | [], h => exact h.elim
 | _ :: _ :: _, h => exact h.2.elim
theorem wrapAt {w : World} {S : Nat → Prop} {pb : Nat} {x : Value} {k j : Nat} {er : Nat → Addr} {eb : Nat → Array Value × TypeId} (hC : Rep w S .nilIface (dC er eb)) (hI : Inj er) (hp : Rep w S (.pointer (some ⟨pb, 0, none⟩)) (.ptr [.v x, .v (.iface 243 (.pointer (some (er k))))])) (h0 : 1 ≤ k) (hk : k ≤ 12) (h1 : 1 ≤ j) (h2 : j ≤ 12) :
  Calls Tryz.prog 87 #[.iface 102 (.pointer (some ⟨pb, 0, none⟩)), .iface 243 (.pointer (some (er j)))] w fun e w' => Ret [] w S w' e (.bool (decide (k = j))) [] [] := by
 have hc : w.cell? ⟨pb, 0 + 1, none⟩ = some (.iface 243 (.pointer (some (er k)))) := by
  cases hp with
  | ptr u hb hS hcell hrep =>
   have h1 := (hrep 1 _ rfl).plain
   have h2 := hcell 1 (by simp)
   rw [h1] at h2
   simpa [World.cell?, hb] using h2
 by_cases h : k = j
 ·subst h
  rw [decide_eq_true rfl]
  exact (Er.is_wrap_same pb 0 _ w hc).mono fun e w' h => ret_same h.1 h.2
 ·rw [decide_eq_false h]
  exact (Er.is_wrap_other pb 0 (er j) (er k) (eb k).1 (eb j).1 (eb k).2 (eb j).2 w hc (fun he => h (hI k j h0 hk h1 h2 he)) (blk_of (hC.part _ (eO_mem er eb h0 hk))) (blk_of (hC.part _ (eO_mem er eb h1 h2)))).mono fun e w' h => ret_same h.1 h.2
theorem codeFault {w : World} {S : Nat → Prop} {er : Nat → Addr} {eb : Nat → Array Value × TypeId} {k pb : Nat} {at' : Int} (hC : Rep w S .nilIface (dC er eb)) (hI : Inj er) (h1 : 1 ≤ k) (hk : k ≤ 12) (hp : Rep w S (.pointer (some ⟨pb, 0, none⟩)) (.ptr [.v (.int .i64 at'), .v (.iface 243 (.pointer (some (er k))))])) :
  Calls Tryz.prog 53 #[.iface 102 (.pointer (some ⟨pb, 0, none⟩))] w fun e w' => Ret [] w S w' e (.tuple #[.int .i64 k, .int .i64 at']) [] [] := by
 refine ep53 (args := [.iface 102 (.pointer (some ⟨pb, 0, none⟩))]) (G := [(_, dC er eb), (_, .ptr [.v (.int .i64 at'), .v (.iface 243 (.pointer (some (er k))))])]) (by kernel_rfl) (.cons hC (.cons hp (.nil _ _))) ?_
 refine J_ptrl 1 rfl fun b off cs e fz ls he hl hc => ?_
 cases he
 obtain rfl : ls = [] := List.eq_nil_of_length_eq_zero hl
 have hc0 : cs[0]? = some (.int .i64 at') := hc 0 _ rfl
 refine J_stp (stp_all 0 [0, 1, 2, 3, 4, 5, 6, 7, 8, 9, 10, 11] rfl rfl) ?_
 refine J_glob 2 rfl (fun csg1 tyg1 fzg1 hglob1 => ?_)
 refine J_glob 3 rfl (fun csg2 tyg2 fzg2 hglob2 => ?_)
 refine J_glob 4 rfl (fun csg3 tyg3 fzg3 hglob3 => ?_)
 refine J_glob 5 rfl (fun csg4 tyg4 fzg4 hglob4 => ?_)
 refine J_glob 6 rfl (fun csg5 tyg5 fzg5 hglob5 => ?_)
 refine J_glob 7 rfl (fun csg6 tyg6 fzg6 hglob6 => ?_)
 refine J_glob 8 rfl (fun csg7 tyg7 fzg7 hglob7 => ?_)
 refine J_glob 9 rfl (fun csg8 tyg8 fzg8 hglob8 => ?_)
 refine J_glob 10 rfl (fun csg9 tyg9 fzg9 hglob9 => ?_)
 refine J_glob 11 rfl (fun csg10 tyg10 fzg10 hglob10 => ?_)
 refine J_glob 12 rfl (fun csg11 tyg11 fzg11 hglob11 => ?_)
 refine J_glob 13 rfl (fun csg12 tyg12 fzg12 hglob12 => ?_)
 try simp only [cAp, nAp, aNl]
 refine Sq mixed [zR 0, zR 1] [] [0, 2, 3] (fun _ => [zV 0 (.iface 102 (.pointer (sA pb 0))), zI 2 0, zI 3 0]) (fun _ => []) (fun _ => ?_)
 refine J_seq ?_
 refine Sq mixed [zR 0, zR 1] [] [0, 2, 3, 8] (fun _ => [zV 0 (.iface 102 (.pointer (sA pb 0))), zI 2 0, zI 3 0, zB 8 false]) (fun _ => []) (fun _ => ?_)
 refine cF ?_
 refine J_skip ?_
 refine Sq mixed [zR 0] [] [0, 2, 3] (fun _ => [zV 0 (.iface 102 (.pointer (sA pb 0))), zI 2 0, zI 3 (-1)]) (fun _ => []) (fun _ => ?_)
 refine Sq mixed [.wr 0 [] 0] [] [0, 2, 3, 4] (fun nu1 => [zV 0 (.iface 102 (.pointer (sA pb 0))), zI 2 0, zI 3 (-1), zP 4 (nu1 0)]) (fun nu1 => [(nu1 0, .cells #[.pointer none] 102 (0, 0))]) (fun nu1 => ?_)
 refine J_seq ?_
 refine J_seq ?_
 refine J_hide 0 rfl ?_
 try simp only [cAp, nAp, aNl]
 refine jB mixed [(0, true), (1, true), (2, false)] [] ?_
 refine Gr (id := 5) (rest := [(2, false)]) [zR 0, zR 1] [0, 2, 3, 4, 9, 10] (fun _ => [zV 0 (.iface 102 (.pointer (sA pb 0))), zI 2 0, zI 3 (-1), zP 4 (nu1 0), zV 9 (.iface 102 (.pointer (sA pb 0))), zV 10 (.iface 143 (.pointer (sA (nu1 0) 0)))]) (fun _ => []) (fun _ => ?_)
 refine JR_call [] [0] 86 #[.iface 102 (.pointer (some (⟨pb, 0, none⟩))), .iface 143 (.pointer (some (⟨nu1 0, 0, none⟩)))] (some 11) (by kernel_rfl) (by kernel_rfl) (by decide) (fun w S M hP hG _ => ?_)
 refine (asHit (hG.at 0 rfl) hP).mono ?_
 rintro e1 w1 hR
 refine ⟨_, _, _, hR, ?_⟩
 try simp only [cAp, nAp, aNl]
 refine JR_end ?_
 try simp only [cAp, nAp, aNl]
 refine cTt ?_
 try simp only [cAp, nAp, aNl]
 refine J_show 0 rfl ?_
 refine Gp mixed [.rd 0 [.o 0 none] 0 0, zR 1, zR 2, .rd 3 [.r 0 (some (nI at'))] 0 0, zR 4] [] [0, 2, 3] (fun _ => [zV 0 (.iface 102 (.pointer (sA pb 0))), zI 2 0, zI 3 at']) (fun _ => [(nu1 0, .cells #[.pointer (sA pb 0)] 102 (0, 0))]) (fun _ => [cs[(0 : Nat)]? = some (nI at')]) (fun _ => ⟨hc0, trivial⟩) (fun _ => ?_)
 refine J_seq ?_
 refine Sp mixed [.rd 0 [.r 1 (some (.iface 243 (.pointer (some (er 1)))))] 0 0, .rd 1 [.r 2 (some (.iface 243 (.pointer (some (er 2)))))] 0 0, .rd 2 [.r 3 (some (.iface 243 (.pointer (some (er 3)))))] 0 0, .rd 3 [.r 4 (some (.iface 243 (.pointer (some (er 4)))))] 0 0, .rd 4 [.r 5 (some (.iface 243 (.pointer (some (er 5)))))] 0 0, .rd 5 [.r 6 (some (.iface 243 (.pointer (some (er 6)))))] 0 0, .rd 6 [.r 7 (some (.iface 243 (.pointer (some (er 7)))))] 0 0, .rd 7 [.r 8 (some (.iface 243 (.pointer (some (er 8)))))] 0 0, .rd 8 [.r 9 (some (.iface 243 (.pointer (some (er 9)))))] 0 0, .rd 9 [.r 10 (some (.iface 243 (.pointer (some (er 10)))))] 0 0, .rd 10 [.r 11 (some (.iface 243 (.pointer (some (er 11)))))] 0 0, .rd 11 [.r 12 (some (.iface 243 (.pointer (some (er 12)))))] 0 0, .wr 12 [] 0, zR 13, zR 14] [] [0, 2, 3, 28, 29, 30] (fun nu2 => [zV 0 (.iface 102 (.pointer (sA pb 0))), zI 2 0, zI 3 at', zS 28 (sA (nu2 0) 0) 12 12, zI 29 12, zI 30 0]) (fun nu2 => [(nu1 0, .cells #[.pointer (sA pb 0)] 102 (0, 0)), (nu2 0, .cells #[.iface 243 (.pointer (some (er 1))), .iface 243 (.pointer (some (er 2))), .iface 243 (.pointer (some (er 3))), .iface 243 (.pointer (some (er 4))), .iface 243 (.pointer (some (er 5))), .iface 243 (.pointer (some (er 6))), .iface 243 (.pointer (some (er 7))), .iface 243 (.pointer (some (er 8))), .iface 243 (.pointer (some (er 9))), .iface 243 (.pointer (some (er 10))), .iface 243 (.pointer (some (er 11))), .iface 243 (.pointer (some (er 12)))] 33 (0, 0))]) (fun nu2 => [csg1[(0 : Nat)]? = some (Value.iface (243 : Nat) (Value.pointer (some (er (1 : Nat))))), csg2[(0 : Nat)]? = some (Value.iface (243 : Nat) (Value.pointer (some (er (2 : Nat))))), csg3[(0 : Nat)]? = some (Value.iface (243 : Nat) (Value.pointer (some (er (3 : Nat))))), csg4[(0 : Nat)]? = some (Value.iface (243 : Nat) (Value.pointer (some (er (4 : Nat))))), csg5[(0 : Nat)]? = some (Value.iface (243 : Nat) (Value.pointer (some (er (5 : Nat))))), csg6[(0 : Nat)]? = some (Value.iface (243 : Nat) (Value.pointer (some (er (6 : Nat))))), csg7[(0 : Nat)]? = some (Value.iface (243 : Nat) (Value.pointer (some (er (7 : Nat))))), csg8[(0 : Nat)]? = some (Value.iface (243 : Nat) (Value.pointer (some (er (8 : Nat))))), csg9[(0 : Nat)]? = some (Value.iface (243 : Nat) (Value.pointer (some (er (9 : Nat))))), csg10[(0 : Nat)]? = some (Value.iface (243 : Nat) (Value.pointer (some (er (10 : Nat))))), csg11[(0 : Nat)]? = some (Value.iface (243 : Nat) (Value.pointer (some (er (11 : Nat))))), csg12[(0 : Nat)]? = some (Value.iface (243 : Nat) (Value.pointer (some (er (12 : Nat)))))]) (fun _ => ⟨hglob1, hglob2, hglob3, hglob4, hglob5, hglob6, hglob7, hglob8, hglob9, hglob10, hglob11, hglob12, trivial⟩) (fun nu2 => ?_)
 refine J_block ?_
 refine J_data (size := 1) 1 (eEr er) [1, 2, 3, 4, 5, 6, 7, 8, 9, 10, 11, 12] 12 rfl (by decide) (by intro x _; rfl) (by simp) ⟨.inl ⟨rfl, rfl⟩, ⟨.inl ⟨rfl, rfl⟩, ⟨.inl ⟨rfl, rfl⟩, ⟨.inl ⟨rfl, rfl⟩, ⟨.inl ⟨rfl, rfl⟩, ⟨.inl ⟨rfl, rfl⟩, ⟨.inl ⟨rfl, rfl⟩, ⟨.inl ⟨rfl, rfl⟩, ⟨.inl ⟨rfl, rfl⟩, ⟨.inl ⟨rfl, rfl⟩, ⟨.inl ⟨rfl, rfl⟩, ⟨.inl ⟨rfl, rfl⟩, trivial⟩⟩⟩⟩⟩⟩⟩⟩⟩⟩⟩⟩ ?_
 refine J_loopx (fun i : Int => [zV 0 (.iface 102 (.pointer (sA pb 0))), zI 2 0, zI 3 at', zS 28 (sA (nu2 0) 0) 12 12, zI 29 12, zI 30 i]) (fun i : Int => []) (fun i : Int => []) (fun i : Int => [(.nilIface, (dC er eb)), (.pointer (sA pb 0), (D.ptr [D.v (nI at'), D.v (Value.iface 243 (Value.pointer (some (er k))))])), (.slice (sA (nu2 0) 0) ((List.map (eEr er) [1, 2, 3, 4, 5, 6, 7, 8, 9, 10, 11, 12]).length) 12, (D.sl 1 (List.map (eEr er) [1, 2, 3, 4, 5, 6, 7, 8, 9, 10, 11, 12])))]) (fun i : Int => (12 - i).toNat) (fun i : Int => (0 ≤ i ∧ i < k)) 0 [0, 2, 3, 28, 29, 30] [] [] [0, 1, 14] ?_ (by kernel_rfl) rfl rfl rfl ?_
 ·exact ⟨by omega, by omega⟩
 rintro i ⟨hi0, hi⟩
 have hx := row12 hi0 (by omega)
 refine J_read0 2 rfl i.toNat (map_at hx) (by kernel_rfl) (fun b1 off1 cs1 ty1 fz1 ha1 hrd1 => ?_)
 cases ha1
 have hrd1_0 := rd0 (hrd1 0 _ rfl)
 try simp only [cAp, nAp, aNl]
 refine Sq mixed [zR 0] [] [0, 2, 3, 28, 29, 30, 31] (fun _ => [zV 0 (.iface 102 (.pointer (sA pb 0))), zI 2 0, zI 3 at', zS 28 (sA (nu2 0) 0) 12 12, zI 29 12, zI 30 i, zB 31 (decide (i < 12))]) (fun _ => []) (fun _ => ?_)
 refine J_seq ?_
 refine J_condT (decide (i < 12)) (by kernel_rfl) (by kernel_rfl) (by simp; omega) ?_
 refine J_skip ?_
 refine J_seq ?_
 refine J_block ?_
 refine Sp mixed [zR 0, .rd 1 [] 0 2, .rd 2 [.r 13 (some (.iface 243 (.pointer (some (er (i.toNat + 1))))))] 0 0, zR 3, zR 4] [] [0, 2, 3, 5, 6, 28, 29, 30] (fun _ => [zV 0 (.iface 102 (.pointer (sA pb 0))), zI 2 0, zI 3 at', zI 5 i, zV 6 (.iface 243 (.pointer (some (er (i.toNat + 1))))), zS 28 (sA (nu2 0) 0) 12 12, zI 29 12, zI 30 i]) (fun _ => []) (fun _ => [(0 : Int) ≤ i, i < (↑(12 : Nat) : Int), cs1[(0 : Nat) + i.toNat * (1 : Nat)]? = some (Value.iface (243 : TypeId) (Value.pointer (some (er (i.toNat + (1 : Nat))))))]) (fun _ => ⟨hi0, by omega, hrd1_0, trivial⟩) (fun _ => ?_)
 refine J_seq ?_
 refine jB mixed [(0, true), (1, true), (2, false)] [] ?_
 refine Gr (id := 10) (rest := [(2, false)]) [zR 0, zR 1] [0, 2, 3, 5, 6, 28, 29, 30, 35, 36] (fun _ => [zV 0 (.iface 102 (.pointer (sA pb 0))), zI 2 0, zI 3 at', zI 5 i, zV 6 (.iface 243 (.pointer (some (er (i.toNat + 1))))), zS 28 (sA (nu2 0) 0) 12 12, zI 29 12, zI 30 i, zV 35 (.iface 102 (.pointer (sA pb 0))), zV 36 (.iface 243 (.pointer (some (er (i.toNat + 1)))))]) (fun _ => []) (fun _ => ?_)
 refine JR_callp [] 87 #[.iface 102 (.pointer (some (⟨pb, 0, none⟩))), .iface 243 (.pointer (some (er (i.toNat + 1))))] (some 37) (by kernel_rfl) (fun w S hG => ?_)
 refine (wrapAt (hG.at 0 rfl) hI (hG.at 1 rfl) h1 hk (by omega) (by omega)).mono ?_
 rintro e2 w2 hR
 refine ⟨_, _, _, hR, ?_⟩
 try simp only [cAp, nAp, aNl]
 refine JR_end ?_
 refine cC (t := decide (k = i.toNat + 1)) (fun hb => ?_) (fun hb => ?_)
 ·refine J_seq ?_
  refine Gp mixed [zR 0, .rd 1 [] 0 1, zR 2, zR 3, zR 4] [] [0, 2, 3, 5, 6, 28, 29, 30, 35, 36] (fun _ => [zV 0 (.iface 102 (.pointer (sA pb 0))), zI 2 (i + 1), zI 3 at', zI 5 i, zV 6 (.iface 243 (.pointer (some (er (i.toNat + 1))))), zS 28 (sA (nu2 0) 0) 12 12, zI 29 12, zI 30 i, zV 35 (.iface 102 (.pointer (sA pb 0))), zV 36 (.iface 243 (.pointer (some (er (i.toNat + 1)))))]) (fun _ => []) (fun _ => [IntKind.i64.wrap (i + (1 : Int)) = i + (1 : Int)]) (fun _ => ⟨wrap_i64 (by omega) (by omega), trivial⟩) (fun _ => ?_)
  refine J_return [[], []] (.tuple #[.int .i64 (i + 1), .int .i64 at']) (by kernel_rfl) (fun a w s => ?_)
  have e : i + 1 = k := by
   have := of_decide_eq_true hb
   omega
  rw [e]
  exact s.ret (by simp) [] [] rfl rfl
 ·refine J_skip ?_
  refine J_eb ?_
  refine Gp mixed [.rd 0 [] 0 1, zR 1] [] [0, 2, 3, 5, 6, 28, 29, 30, 35, 36] (fun _ => [zV 0 (.iface 102 (.pointer (sA pb 0))), zI 2 0, zI 3 at', zI 5 i, zV 6 (.iface 243 (.pointer (some (er (i.toNat + 1))))), zS 28 (sA (nu2 0) 0) 12 12, zI 29 12, zI 30 (i + 1), zV 35 (.iface 102 (.pointer (sA pb 0))), zV 36 (.iface 243 (.pointer (some (er (i.toNat + 1)))))]) (fun _ => []) (fun _ => [IntKind.i64.wrap (i + (1 : Int)) = i + (1 : Int)]) (fun _ => ⟨wrap_i64 (by omega) (by omega), trivial⟩) (fun _ => ?_)
  refine J_backx (i + 1) [0, 2, 3, 28, 29, 30] [] [] [0, 1, 2] ?_ ?_ (by kernel_rfl) rfl rfl rfl
  ·have := of_decide_eq_false hb
   exact ⟨by omega, by omega⟩
  ·omega
theorem ptr_of_obj {w : World} {S : Nat → Prop} {b : Nat} {x y : Value} {ty : TypeId} {fz : Nat × Nat} (hx : x.oneCell' = true) (hy : y.oneCell' = true) (h : Rep w S (.pointer (some ⟨b, 0, none⟩)) (.obj (.cells #[x, y] ty fz))) : Rep w S (.pointer (some ⟨b, 0, none⟩)) (.ptr [.v x, .v y]) := by
 cases h with
 | obj hb hS =>
  refine .ptr (fun j => (#[x, y] : Array Value).getD j .nilIface) hb hS (fun j hj => ?_) fun j d hj => ?_
  ·match j, hj with
   | 0, _ => rfl
   | 1, _ => rfl
   | j + 2, hj => exact absurd hj (by simp)
  ·match j, hj with
   | 0, hj => cases hj; exact .v hx
   | 1, hj => cases hj; exact .v hy
   | j + 2, hj => simp at hj
end Go.Proofs.YtpjkiomccpjboaaGreatDoor
end
section
namespace Go.Proofs.YtpjkiomccpjboaaGreatDoor
open Go Go.Sx
theorem sameDots_eq {w0 : World} {S : Nat → Prop} {a b : Option Addr} {n m c d : Nat} {l : List DotT} (ha : Rep w0 S (.slice a n c) (.sl 3 (l.map eDot))) (hb : Rep w0 S (.slice b m d) (.sl 3 (l.map eDot))) (hl : l.length ≤ 1000000) :
  Calls Tryz.prog 29 #[.slice a n c, .slice b m d] w0 fun e w' => Ret [] w0 S w' e (.bool true) [] [] := by
 have e1 := ha.slen
 have e2 := hb.slen
 rw [List.length_map] at e1 e2
 subst e1 e2
 refine ep29 (args := [.slice a l.length c, .slice b l.length d]) (G := [(_, .sl 3 (l.map eDot)), (_, .sl 3 (l.map eDot))]) (by kernel_rfl) (.cons ha (.cons hb (.nil _ _))) ?_
 refine Sq mixed [zR 0] [] [0, 1, 4] (fun _ => [zS 0 a l.length c, zS 1 b l.length d, zB 4 false]) (fun _ => []) (fun _ => ?_)
 refine J_seq ?_
 refine Sp mixed [zR 0, zR 1, zR 2, zR 3, .rd 4 [] 0 7] [] [0, 1, 4, 10] (fun _ => [zS 0 a l.length c, zS 1 b l.length d, zB 4 false, zB 10 false]) (fun _ => []) (fun _ => [((↑l.length : Int) != (↑l.length : Int)) = false]) (fun _ => ⟨by simp, trivial⟩) (fun _ => ?_)
 refine cF ?_
 refine J_skip ?_
 refine J_seq ?_
 refine Sq mixed [zR 0] [] [0, 1, 4, 5] (fun _ => [zS 0 a l.length c, zS 1 b l.length d, zB 4 false, zI 5 0]) (fun _ => []) (fun _ => ?_)
 refine J_block ?_
 refine J_loopx (fun i : Int => [zS 0 a l.length c, zS 1 b l.length d, zB 4 false, zI 5 i]) (fun i : Int => []) (fun i : Int => []) (fun i : Int => [(.slice a l.length c, (D.sl 3 (List.map eDot l))), (.slice b l.length d, (D.sl 3 (List.map eDot l)))]) (fun i : Int => (l.length - i).toNat) (fun i : Int => (0 ≤ i ∧ i ≤ l.length)) 0 [0, 1, 4, 5] [] [] [0, 1] ?_ (by kernel_rfl) rfl rfl rfl ?_
 ·exact ⟨by omega, by omega⟩
 rintro i ⟨hi0, hi⟩
 refine J_seq ?_
 refine Sq mixed [zR 0, zR 1, zR 2, zR 3] [] [0, 1, 4, 5, 14] (fun _ => [zS 0 a l.length c, zS 1 b l.length d, zB 4 false, zI 5 i, zB 14 (decide (i < (↑l.length : Int)))]) (fun _ => []) (fun _ => ?_)
 refine cC (t := decide (i < (↑l.length : Int))) (fun hlt => ?_) (fun hlt => ?_)
 ·have hlt2 : i < l.length := by simpa using hlt
  obtain ⟨x, hx⟩ : ∃ x, l[i.toNat]? = some x := ⟨_, List.getElem?_eq_getElem (by omega)⟩
  refine J_read0 0 rfl i.toNat (map_at hx) (by kernel_rfl) (fun b1 off1 cs1 ty1 fz1 ha1 hrd1 => ?_)
  cases ha1
  have hrd1_0 := rd0 (hrd1 0 _ rfl)
  have hrd1_1 := hrd1 1 _ rfl
  have hrd1_2 := hrd1 2 _ rfl
  refine J_read0 1 rfl i.toNat (map_at hx) (by kernel_rfl) (fun b2 off2 cs2 ty2 fz2 ha2 hrd2 => ?_)
  cases ha2
  have hrd2_0 := rd0 (hrd2 0 _ rfl)
  have hrd2_1 := hrd2 1 _ rfl
  have hrd2_2 := hrd2 2 _ rfl
  try simp only [cAp, nAp, aNl]
  refine J_skip ?_
  refine J_seq ?_
  refine J_block ?_
  refine Sp mixed [zR 0, zR 1, .rd 2 [] 0 2, .rd 3 [.r 0 (some (nI x.place)), .r 0 (some (nI x.time)), .r 0 (some (nI x.no))] 0 0, zR 4, zR 5, .rd 6 [] 0 2, .rd 7 [.r 1 (some (nI x.place)), .r 1 (some (nI x.time)), .r 1 (some (nI x.no))] 0 0, .rd 8 [.r 0 (some (.bool (!decide (x.place = x.place ∧ x.time = x.time ∧ x.no = x.no))))] 0 10] [] [0, 1, 4, 5, 25] (fun _ => [zS 0 (sA b1 off1) l.length c, zS 1 (sA b2 off2) l.length d, zB 4 false, zI 5 i, zB 25 (!decide (x.place = x.place ∧ x.time = x.time ∧ x.no = x.no))]) (fun _ => []) (fun _ => [(0 : Int) ≤ i, i < (↑l.length : Int), cs1[off1 + i.toNat * (3 : Nat)]? = some (nI x.place), cs1[off1 + i.toNat * (3 : Nat) + (1 : Nat)]? = some (nI x.time), cs1[off1 + i.toNat * (3 : Nat) + (2 : Nat)]? = some (nI x.no), (0 : Int) ≤ i, i < (↑l.length : Int), cs2[off2 + i.toNat * (3 : Nat)]? = some (nI x.place), cs2[off2 + i.toNat * (3 : Nat) + (1 : Nat)]? = some (nI x.time), cs2[off2 + i.toNat * (3 : Nat) + (2 : Nat)]? = some (nI x.no), eqRun Tryz.prog .neq 65 (Operand.tmp 20) (Operand.tmp 24) (.agg #[nI x.place, nI x.time, nI x.no]) (.agg #[nI x.place, nI x.time, nI x.no]) (.bool (!decide (x.place = x.place ∧ x.time = x.time ∧ x.no = x.no)))]) (fun _ => ⟨hi0, hlt2, hrd1_0, hrd1_1, hrd1_2, hi0, hlt2, hrd2_0, hrd2_1, hrd2_2, eqRun_neq_65, trivial⟩) (fun _ => ?_)
  refine J_condF (!decide (x.place = x.place ∧ x.time = x.time ∧ x.no = x.no)) (by kernel_rfl) (by kernel_rfl) (by simp) ?_
  refine J_skip ?_
  refine J_eb ?_
  refine Gp mixed [zR 0, .rd 1 [] 0 1, zR 2] [] [0, 1, 4, 5] (fun _ => [zS 0 (sA b1 off1) l.length c, zS 1 (sA b2 off2) l.length d, zB 4 false, zI 5 (i + 1)]) (fun _ => []) (fun _ => [IntKind.i64.wrap (i + (1 : Int)) = i + (1 : Int)]) (fun _ => ⟨wrap_i64 (by omega) (by omega), trivial⟩) (fun _ => ?_)
  refine J_backx (i + 1) [0, 1, 4, 5] [] [] [0, 1] ?_ ?_ (by kernel_rfl) rfl rfl rfl
  ·exact ⟨by omega, by omega⟩
  ·omega
 ·refine J_exit rfl ?_
  refine Sq mixed [zR 0] [] [4] (fun _ => [zB 4 true]) (fun _ => []) (fun _ => ?_)
  refine J_return [[]] (.bool true) (by kernel_rfl) (fun a w s => ?_)
  exact s.ret (by simp) [] [] rfl rfl
def heavyOp (o : OpT) : Bool := decide (60 < (o.key.size : Int)) || decide (200 < (o.text.size : Int)) || decide (70 < (o.dots.length : Int))
def heavyC (c : ComT) : Int := if 20 < c.when.length ∨ 20 < c.ops.length then 1 else if c.ops.any heavyOp then 1 else 0
theorem heavyCommit {w0 : World} {S : Nat → Prop} {a1 a2 : Option Addr} {n1 c1 n2 c2 : Nat} {c : ComT} (h1 : Rep w0 S (.slice a1 n1 c1) (dInts c.when)) (h2 : Rep w0 S (.slice a2 n2 c2) (.sl 7 (c.ops.map eOp))) :
  Calls Tryz.prog 12 #[.agg #[.slice a1 n1 c1, .int .i64 c.place, .slice a2 n2 c2]] w0 fun e w' => Ret [] w0 S w' e (.int .i64 (heavyC c)) [] [] := by
 obtain rfl := rep_ints_len h1
 have e2 := h2.slen
 rw [List.length_map] at e2
 subst e2
 refine ep12 (args := [.agg #[.slice a1 c.when.length c1, .int .i64 c.place, .slice a2 c.ops.length c2]]) (G := [(_, dInts c.when), (_, .sl 7 (c.ops.map eOp))]) (by kernel_rfl) (.cons h1 (.cons h2 (.nil _ _))) ?_
 refine Sq mixed [.wr 0 [] 0, zR 1] [] [1, 2] (fun nu1 => [zP 1 (nu1 0), zI 2 0]) (fun nu1 => [(nu1 0, .cells #[.slice a1 c.when.length c1, nI c.place, .slice a2 c.ops.length c2] 28 (0, 0))]) (fun nu1 => ?_)
 refine J_seq ?_
 refine Sq mixed [zR 0, .rd 1 [.o 0 none] 0 0, zR 2, zR 3, zR 4, .rd 5 [] 2 0, .rd 6 [.o 0 none] 2 0, .rd 7 [] 2 0, .rd 8 [] 2 0, .rd 9 [] 0 3] [] [1, 2, 13] (fun _ => [zP 1 (nu1 0), zI 2 0, zB 13 (decide ((↑c.when.length : Int) > 20) || decide ((↑c.ops.length : Int) > 20))]) (fun _ => [(nu1 0, .cells #[.slice a1 c.when.length c1, nI c.place, .slice a2 c.ops.length c2] 28 (0, 0))]) (fun _ => ?_)
 refine cC (t := decide ((↑c.when.length : Int) > 20) || decide ((↑c.ops.length : Int) > 20)) (fun hbig => ?_) (fun hbig => ?_)
 ·refine J_seq ?_
  refine Gq mixed [zR 0] [] [1, 2] (fun _ => [zP 1 (nu1 0), zI 2 1]) (fun _ => [(nu1 0, .cells #[.slice a1 c.when.length c1, nI c.place, .slice a2 c.ops.length c2] 28 (0, 0))]) (fun _ => ?_)
  refine J_return [[]] (.int .i64 1) (by kernel_rfl) (fun a w s => ?_)
  have e1 : heavyC c = 1 := by rw [heavyC, if_pos (by simp at hbig; omega)]
  rw [e1]
  exact s.ret (by simp) [] [] rfl rfl
 ·have hn : ¬ (20 < c.when.length ∨ 20 < c.ops.length) := by simp at hbig; omega
  refine J_skip ?_
  refine J_seq ?_
  refine Sq mixed [zR 0] [] [1, 2, 3] (fun _ => [zP 1 (nu1 0), zI 2 0, zI 3 0]) (fun _ => [(nu1 0, .cells #[.slice a1 c.when.length c1, nI c.place, .slice a2 c.ops.length c2] 28 (0, 0))]) (fun _ => ?_)
  refine J_block ?_
  refine J_loopx (fun i : Int => [zP 1 (nu1 0), zI 2 0, zI 3 i]) (fun i : Int => [(nu1 0, .cells #[.slice a1 c.when.length c1, nI c.place, .slice a2 c.ops.length c2] 28 (0, 0))]) (fun i : Int => []) (fun i : Int => [(.slice a1 c.when.length c1, (dInts c.when)), (.slice a2 c.ops.length c2, (D.sl 7 (List.map eOp c.ops)))]) (fun i : Int => (c.ops.length - i).toNat) (fun i : Int => (0 ≤ i ∧ i ≤ c.ops.length ∧ ∀ j : Nat, j < i.toNat → ∀ o, c.ops[j]? = some o → heavyOp o = false)) 0 [1, 2, 3] [0] [] [0, 1] ?_ (by kernel_rfl) rfl rfl rfl ?_
  ·exact ⟨by omega, by omega, by simp⟩
  rintro i ⟨hi0, hi, hno⟩
  refine J_seq ?_
  refine Sq mixed [zR 0, zR 1, .rd 2 [.o 0 none] 0 0, zR 3, zR 4] [] [1, 2, 3, 18] (fun _ => [zP 1 (nu1 0), zI 2 0, zI 3 i, zB 18 (decide (i < (↑c.ops.length : Int)))]) (fun _ => [(nu1 0, .cells #[.slice a1 c.when.length c1, nI c.place, .slice a2 c.ops.length c2] 28 (0, 0))]) (fun _ => ?_)
  refine cC (t := decide (i < (↑c.ops.length : Int))) (fun hlt => ?_) (fun hlt => ?_)
  ·have hlt2 : i < c.ops.length := by simpa using hlt
   obtain ⟨o, ho⟩ : ∃ o, c.ops[i.toNat]? = some o := ⟨_, List.getElem?_eq_getElem (by omega)⟩
   refine J_read1 1 rfl i.toNat (map_at ho) (by kernel_rfl) (fun b1 off1 cs1 ty1 fz1 a1_0 c1_0 ha1 hrd1 => ?_)
   cases ha1
   have hrd1_0 := rd0 (hrd1 0 _ rfl)
   have hrd1_1 := hrd1 1 _ rfl
   have hrd1_2 := hrd1 2 _ rfl
   have hrd1_3 := hrd1 3 _ rfl
   have hrd1_4 := hrd1 4 _ rfl
   have hrd1_5 := hrd1 5 _ rfl
   have hrd1_6 := hrd1 6 _ rfl
   try simp only [cAp, nAp, aNl]
   refine J_skip ?_
   refine J_seq ?_
   refine J_block ?_
   refine Sp mixed [zR 0, .rd 1 [.o 0 none] 0 0, zR 2, .rd 3 [] 0 2, zR 4, .rd 5 [.r 0 (some (.string o.key))] 0 0, zR 6, zR 7, zR 8, .rd 9 [] 2 0, .rd 10 [.o 0 none] 2 0, .rd 11 [] 2 0, .rd 12 [] 2 2, .rd 13 [] 2 0, .rd 14 [.r 0 (some (.string o.text))] 2 0, .rd 15 [] 2 0, .rd 16 [] 2 0, .rd 17 [] 0 3, zR 18, .rd 19 [] 2 0, .rd 20 [.o 0 none] 2 0, .rd 21 [] 2 0, .rd 22 [] 2 2, .rd 23 [] 2 0, .rd 24 [.r 0 (some (.slice (a1_0, c1_0).fst ((List.map eDot o.dots).length) c1_0))] 2 0, .rd 25 [] 2 0, .rd 26 [] 2 0, .rd 27 [] 0 3] [] [1, 2, 3, 48] (fun _ => [zP 1 (nu1 0), zI 2 0, zI 3 i, zB 48 (decide ((↑o.key.size : Int) > 60) || decide ((↑o.text.size : Int) > 200) || decide ((↑(List.map eDot o.dots).length : Int) > 70))]) (fun _ => [(nu1 0, .cells #[.slice a1 c.when.length c1, nI c.place, .slice (sA b1 off1) c.ops.length c2] 28 (0, 0))]) (fun _ => [(0 : Int) ≤ i, i < (↑c.ops.length : Int), cs1[off1 + i.toNat * (7 : Nat) + (1 : Nat)]? = some (Value.string o.key), (decide ((↑o.key.size : Int) > 60)) = false → (0 : Int) ≤ i, (decide ((↑o.key.size : Int) > 60)) = false → i < (↑c.ops.length : Int), (decide ((↑o.key.size : Int) > 60)) = false → cs1[off1 + i.toNat * (7 : Nat) + (3 : Nat)]? = some (Value.string o.text), (decide ((↑o.key.size : Int) > 60) || decide ((↑o.text.size : Int) > 200)) = false → (0 : Int) ≤ i, (decide ((↑o.key.size : Int) > 60) || decide ((↑o.text.size : Int) > 200)) = false → i < (↑c.ops.length : Int), (decide ((↑o.key.size : Int) > 60) || decide ((↑o.text.size : Int) > 200)) = false → cs1[off1 + i.toNat * (7 : Nat) + (6 : Nat)]? = some (Value.slice (a1_0, c1_0).fst (List.map eDot o.dots).length (a1_0, c1_0).snd)]) (fun _ => ⟨hi0, hlt2, hrd1_1, (fun _ => hi0), (fun _ => hlt2), (fun _ => hrd1_3), (fun _ => hi0), (fun _ => hlt2), (fun _ => hrd1_6), trivial⟩) (fun _ => ?_)
   refine cC (t := decide ((↑o.key.size : Int) > 60) || decide ((↑o.text.size : Int) > 200) || decide ((↑(List.map eDot o.dots).length : Int) > 70)) (fun hb => ?_) (fun hb => ?_)
   ·refine J_seq ?_
    refine Gq mixed [zR 0] [] [1, 2, 3] (fun _ => [zP 1 (nu1 0), zI 2 1, zI 3 i]) (fun _ => [(nu1 0, .cells #[.slice a1 c.when.length c1, nI c.place, .slice (sA b1 off1) c.ops.length c2] 28 (0, 0))]) (fun _ => ?_)
    refine J_return [[]] (.int .i64 1) (by kernel_rfl) (fun a w s => ?_)
    have e1 : heavyC c = 1 := by
     rw [heavyC, if_neg hn, if_pos (List.any_eq_true.2 ⟨o, List.mem_of_getElem? ho, ?_⟩)]
     simpa [heavyOp] using hb
    rw [e1]
    exact s.ret (by simp) [] [] rfl rfl
   ·refine J_skip ?_
    refine J_eb ?_
    refine Gp mixed [zR 0, .rd 1 [] 0 1, zR 2] [] [1, 2, 3] (fun _ => [zP 1 (nu1 0), zI 2 0, zI 3 (i + 1)]) (fun _ => [(nu1 0, .cells #[.slice a1 c.when.length c1, nI c.place, .slice (sA b1 off1) c.ops.length c2] 28 (0, 0))]) (fun _ => [IntKind.i64.wrap (i + (1 : Int)) = i + (1 : Int)]) (fun _ => ⟨wrap_i64 (by omega) (by omega), trivial⟩) (fun _ => ?_)
    refine J_backx (i + 1) [1, 2, 3] [0] [] [0, 1] ?_ ?_ (by kernel_rfl) rfl rfl rfl
    ·refine ⟨by omega, by omega, fun j hj o' ho' => ?_⟩
     by_cases hji : j = i.toNat
     ·subst hji
      rw [ho] at ho'
      cases ho'
      simpa [heavyOp] using hb
     ·exact hno j (by omega) o' ho'
    ·omega
  ·refine J_exit rfl ?_
   refine Sq mixed [zR 0] [] [2] (fun _ => [zI 2 0]) (fun _ => [(nu1 0, .cells #[.slice a1 c.when.length c1, nI c.place, .slice a2 c.ops.length c2] 28 (0, 0))]) (fun _ => ?_)
   refine J_return [[]] (.int .i64 0) (by kernel_rfl) (fun a w s => ?_)
   have e1 : heavyC c = 0 := by
    rw [heavyC, if_neg hn, if_neg]
    rw [Bool.not_eq_true, List.any_eq_false]
    intro o ho
    obtain ⟨j, hj⟩ := List.getElem?_of_mem ho
    have hjl := (List.getElem?_eq_some_iff.1 hj).1
    simp [hno j (by simp at hlt; omega) o hj]
   rw [e1]
   exact s.ret (by simp) [] [] rfl rfl
end Go.Proofs.YtpjkiomccpjboaaGreatDoor
end
