/- Part 8 of the texts of a claim: Ops Kind. -/
import Derived.Test.YtpjkiomccpjboaaGreatDoorTf7
section
namespace Go.Proofs.YtpjkiomccpjboaaGreatDoor
open Go Go.Sx
structure OpsS where
 i : Int
 es : Array MapEntry
 clock : Nat
 a : Option Addr
 k : Nat
 c : Nat
set_option maxHeartbeats 4000000 in
theorem vOps {w : World} {S : Nat → Prop} {er : Nat → Addr} {eb : Nat → Array Value × TypeId} {a : Option Addr} {n c : Nat} {key : ByteArray} {l : List ComT} (hC : Rep w S .nilIface (dC er eb)) (h : Rep w S (.slice a n c) (.sl 3 (l.map eCom))) (hl : l.length ≤ 300000) (hl1 : ∀ x ∈ l, x.when.length ≤ 1000000) (hl2 : ∀ x ∈ l, x.ops.length ≤ 1000000) :
  Calls Tryz.prog 61 #[.string key, .slice a n c] w fun e w' => ((valFault key l).code ≠ 0 ∧ FVal w S w' e er (valFault key l) fun v => .tuple #[.slice none 0 0, v]) ∨ ((valFault key l).code = 0 ∧ ∃ a' n' c', Ret [] w S w' e (.tuple #[.slice a' n' c', .nilIface]) [] [(.slice a' n' c', .sl 11 ((opsOf key l).map eDone))]) := by
 have e2 := h.slen
 rw [List.length_map] at e2
 subst e2
 refine ep61 (args := [.string key, .slice a l.length c]) (G := [(_, dC er eb), (_, .sl 3 (l.map eCom))]) (by kernel_rfl) (.cons hC (.cons h (.nil _ _))) ?_
 refine J_stp (stp_all 0 [3, 2] rfl rfl) ?_
 refine J_glob 2 rfl (fun csg1 tyg1 fzg1 hglob1 => ?_)
 refine J_glob 3 rfl (fun csg2 tyg2 fzg2 hglob2 => ?_)
 try simp only [cAp, nAp, aNl]
 refine Sq mixed [zR 0, zR 1] [] [0, 1, 4, 5] (fun _ => [zV 0 (.string key), zS 1 a l.length c, zS 4 none 0 0, zV 5 .nilIface]) (fun _ => []) (fun _ => ?_)
 refine J_seq ?_
 refine J_seq ?_
 refine jB mixed [(0, true), (1, false), (2, true)] [] ?_
 refine Gr (id := 1) (rest := [(1, false), (2, true)]) [zR 0] [0, 1, 4, 5, 16] (fun _ => [zV 0 (.string key), zS 1 a l.length c, zS 4 none 0 0, zV 5 .nilIface, zV 16 (.string key)]) (fun _ => []) (fun _ => ?_)
 refine JR_callp [] 54 #[.string key] (some 17) (by kernel_rfl) (fun w S hG => ?_)
 refine (vName (S := S)).mono ?_
 rintro e1 w1 hR
 refine ⟨_, _, _, hR, ?_⟩
 cases hname : nameOk key with
 | false =>
  have hv : valFault key l = ⟨4, -1⟩ := by rw [valFault, if_pos hname]
  try simp only [cAp, nAp, aNl]
  refine Gr (id := 1) (rest := []) [zR 2] [0, 1, 4, 5, 18] (fun _ => [zV 0 (.string key), zS 1 a l.length c, zS 4 none 0 0, zV 5 .nilIface, zB 18 true]) (fun _ => []) (fun _ => ?_)
  refine JR_end ?_
  refine cTt ?_
  refine Sp mixed [.rd 0 [.r 0 (some (.iface 243 (.pointer (some (er 4)))))] 0 0, zR 1, zR 2] [] [0, 1, 4, 5] (fun _ => [zV 0 (.string key), zS 1 a l.length c, zS 4 none 0 0, zV 5 (.iface 243 (.pointer (some (er 4))))]) (fun _ => []) (fun _ => [csg1[(0 : Nat)]? = some (Value.iface (243 : Nat) (Value.pointer (some (er (4 : Nat)))))]) (fun _ => ⟨hglob1, trivial⟩) (fun _ => ?_)
  refine J_return [[], []] (.tuple #[.slice none 0 0, .iface 243 (.pointer (some (er 4)))]) (by kernel_rfl) (fun a w s => ?_)
  rw [hv]
  exact .inl ⟨by decide, .inl ⟨rfl, _, s.ret (by simp) [] [] rfl rfl, .inr ⟨by decide, rfl⟩⟩⟩
 | true =>
  have hv : valFault key l = listFault l := by rw [valFault, if_neg (by simp [hname])]
  rw [hv]
  try simp only [cAp, nAp, aNl]
  refine Gr (id := 1) (rest := []) [zR 2] [0, 1, 4, 5, 18] (fun _ => [zV 0 (.string key), zS 1 a l.length c, zS 4 none 0 0, zV 5 .nilIface, zB 18 false]) (fun _ => []) (fun _ => ?_)
  refine JR_end ?_
  refine cF ?_
  refine J_skip ?_
  refine Sq mixed [.wr 0 [] 0, zR 1] [] [0, 1, 4, 5, 6] (fun nu1 => [zV 0 (.string key), zS 1 a l.length c, zS 4 none 0 0, zV 5 .nilIface, zV 6 (.map (some (nu1 0)))]) (fun nu1 => [(nu1 0, Obj.map #[] 0)]) (fun nu1 => ?_)
  refine Sq mixed [zR 0] [] [0, 1, 4, 5, 6, 7] (fun _ => [zV 0 (.string key), zS 1 a l.length c, zS 4 none 0 0, zV 5 .nilIface, zV 6 (.map (some (nu1 0))), zS 7 none 0 0]) (fun _ => [(nu1 0, Obj.map #[] 0)]) (fun _ => ?_)
  refine J_seq ?_
  refine Sq mixed [zR 0, zR 1, zR 2] [] [0, 1, 4, 5, 6, 7, 21, 22, 23] (fun _ => [zV 0 (.string key), zS 1 a l.length c, zS 4 none 0 0, zV 5 .nilIface, zV 6 (.map (some (nu1 0))), zS 7 none 0 0, zS 21 a l.length c, zI 22 (↑l.length : Int), zI 23 0]) (fun _ => [(nu1 0, Obj.map #[] 0)]) (fun _ => ?_)
  refine J_block ?_
  refine J_stp (stp_accm eDone 112 11) ?_
  have hm0 : MapG okDot #[] (dotSet ((allDone (l.take (0 : Int).toNat)).map (·.d))) := (MapG.empty okDot).congr dotSet_nil
  refine J_loopx (fun x : OpsS => [zV 0 (.string key), zS 1 a l.length c, zS 4 none 0 0, zV 5 .nilIface, zV 6 (.map (some (nu1 0))), zS 7 x.a x.k x.c, zS 21 a l.length c, zI 22 (↑l.length : Int), zI 23 x.i]) (fun x : OpsS => [(nu1 0, .map x.es x.clock)]) (fun x : OpsS => [cAcc (.slice x.a x.k x.c) 112 11 ((keyFirst key (allDone (l.take x.i.toNat))).map eDone)]) (fun x : OpsS => [(.nilIface, (dC er eb)), (.slice a l.length c, (D.sl 3 (List.map eCom l))), (.pointer (sA 1 0), (D.ptr [D.v (Value.iface 243 (Value.pointer (some (er 4))))])), (.pointer (sA 3 0), (D.ptr [D.v (Value.iface 243 (Value.pointer (some (er 3))))]))]) (fun x : OpsS => (l.length - x.i).toNat) (fun x : OpsS => (0 ≤ x.i ∧ x.i ≤ l.length ∧ (∀ j, j < x.i.toNat → comErrAt l j = 0) ∧ MapG okDot x.es (dotSet ((allDone (l.take x.i.toNat)).map (·.d))))) ⟨0, #[], 0, none, 0, 0⟩ [0, 1, 4, 5, 6, 7, 21, 22, 23] [0] [0] [0, 1, 2, 3] ?_ (by kernel_rfl) rfl rfl rfl ?_
  ·exact ⟨by simp, by simp, by simp, hm0⟩
  rintro ⟨i, es, clock, av, k, cv⟩ ⟨hi0, hi, hno, hm⟩
  dsimp only at hi0 hi hno hm ⊢
  refine Sq mixed [zR 0] [] [0, 1, 4, 5, 6, 7, 21, 22, 23, 24] (fun _ => [zV 0 (.string key), zS 1 a l.length c, zS 4 none 0 0, zV 5 .nilIface, zV 6 (.map (some (nu1 0))), zS 7 av k cv, zS 21 a l.length c, zI 22 (↑l.length : Int), zI 23 i, zB 24 (decide (i < (↑l.length : Int)))]) (fun _ => [(nu1 0, Obj.map es clock)]) (fun _ => ?_)
  refine J_seq ?_
  refine cC (t := decide (i < (↑l.length : Int))) (fun hlt => ?_) (fun hlt => ?_)
  ·have hlt2 : i < l.length := by simpa using hlt
   obtain ⟨x, hx⟩ : ∃ x, l[i.toNat]? = some x := ⟨_, List.getElem?_eq_getElem (by omega)⟩
   refine J_read2 1 rfl i.toNat (map_at hx) (by kernel_rfl) (fun b1 off1 cs1 ty1 fz1 a1_0 c1_0 a1_1 c1_1 ha1 hrd1 => ?_)
   cases ha1
   have hrd1_0 := rd0 (hrd1 0 _ rfl)
   have hrd1_1 := hrd1 1 _ rfl
   have hrd1_2 := hrd1 2 _ rfl
   try simp only [cAp, nAp, aNl]
   refine J_skip ?_
   refine J_seq ?_
   refine J_block ?_
   refine Sp mixed [zR 0, .rd 1 [] 0 2, .rd 2 [.r 2 (some (.slice (a1_0, c1_0).fst ((List.map eI x.when).length) c1_0)), .r 2 (some (nI x.place)), .r 2 (some (.slice (a1_1, c1_1).fst ((List.map eOp x.ops).length) c1_1))] 0 0, .wr 3 [] 0, zR 4, .wr 5 [.o 1 none, .o 1 none, .o 1 none] 0] [(5, [])] [0, 1, 4, 5, 6, 7, 8, 9, 21, 22, 23] (fun nu2 => [zV 0 (.string key), zS 1 (sA b1 off1) l.length c, zS 4 none 0 0, zV 5 .nilIface, zV 6 (.map (some (nu1 0))), zS 7 av k cv, zI 8 i, zP 9 (nu2 0), zS 21 (sA b1 off1) l.length c, zI 22 (↑l.length : Int), zI 23 i]) (fun nu2 => [(nu1 0, Obj.map es clock), (nu2 0, .cells #[.slice (a1_0, c1_0).fst ((List.map eI x.when).length) c1_0, nI x.place, .slice (a1_1, c1_1).fst ((List.map eOp x.ops).length) c1_1] 28 (0, 0))]) (fun nu2 => [(0 : Int) ≤ i, i < (↑l.length : Int), cs1[off1 + i.toNat * (3 : Nat)]? = some (Value.slice (a1_0, c1_0).fst (List.map eI x.when).length (a1_0, c1_0).snd), cs1[off1 + i.toNat * (3 : Nat) + (1 : Nat)]? = some (nI x.place), cs1[off1 + i.toNat * (3 : Nat) + (2 : Nat)]? = some (Value.slice (a1_1, c1_1).fst (List.map eOp x.ops).length (a1_1, c1_1).snd)]) (fun _ => ⟨hi0, hlt2, hrd1_0, hrd1_1, hrd1_2, trivial⟩) (fun nu2 => ?_)
   refine J_seq ?_
   refine jB mixed [(0, true), (1, false), (2, false), (3, true)] [] ?_
   refine Gr (id := 8) (rest := [(1, false), (2, false), (3, true)]) [.rd 0 [.o 1 none, .o 1 none, .o 1 none] 0 0] [0, 1, 4, 5, 6, 7, 8, 9, 21, 22, 23, 28] (fun _ => [zV 0 (.string key), zS 1 (sA b1 off1) l.length c, zS 4 none 0 0, zV 5 .nilIface, zV 6 (.map (some (nu1 0))), zS 7 av k cv, zI 8 i, zP 9 (nu2 0), zS 21 (sA b1 off1) l.length c, zI 22 (↑l.length : Int), zI 23 i, zV 28 (.agg #[.slice (a1_0, c1_0).fst ((List.map eI x.when).length) c1_0, nI x.place, .slice (a1_1, c1_1).fst ((List.map eOp x.ops).length) c1_1])]) (fun _ => [(nu1 0, Obj.map es clock), (nu2 0, .cells #[.slice (a1_0, c1_0).fst ((List.map eI x.when).length) c1_0, nI x.place, .slice (a1_1, c1_1).fst ((List.map eOp x.ops).length) c1_1] 28 (0, 0))]) (fun _ => ?_)
   refine JR_callp [] 17 #[.agg #[.slice (a1_0, c1_0).fst ((List.map eI x.when).length) c1_0, .int .i64 x.place, .slice (a1_1, c1_1).fst ((List.map eOp x.ops).length) c1_1]] (some 29) (by kernel_rfl) (fun w S hG => ?_)
   refine (checkCommit (c := x) (hG.at 0 rfl) (hG.at 4 rfl) (hG.at 5 rfl) (hl1 x (List.mem_of_getElem? hx)) (hl2 x (List.mem_of_getElem? hx))).mono ?_
   rintro e1 w1 (⟨hat, v, hR, hv1⟩ | ⟨hc1, hat, pb, hR⟩)
   ·refine ⟨_, _, _, hR, ?_⟩
    try simp only [cAp, nAp, aNl]
    refine JR_callp [] 93 #[v] (some 30) (by kernel_rfl) (fun w S hG => ?_)
    refine (bareE (hG.at 0 rfl) hv1).mono ?_
    rintro e2 w2 hR
    refine ⟨_, _, _, hR, ?_⟩
    rcases hv1 with ⟨hv2, rfl⟩ | ⟨hv2, rfl⟩
    ·obtain ⟨c0, hc0⟩ : ∃ c0, l[0]? = some c0 := ⟨_, List.getElem?_eq_getElem (by omega)⟩
     have hfl : firstLen l = c0.when.length := by cases l with
      | nil => simp at hc0
      | cons y l => simp at hc0; subst hc0; rfl
     try simp only [cAp, nAp, aNl]
     refine Gr (id := 8) (rest := []) [zR 3] [0, 1, 4, 5, 6, 7, 8, 9, 10, 21, 22, 23] (fun _ => [zV 0 (.string key), zS 1 (sA b1 off1) l.length c, zS 4 none 0 0, zV 5 .nilIface, zV 6 (.map (some (nu1 0))), zS 7 av k cv, zI 8 i, zP 9 (nu2 0), zV 10 .nilIface, zS 21 (sA b1 off1) l.length c, zI 22 (↑l.length : Int), zI 23 i]) (fun _ => [(nu1 0, Obj.map es clock), (nu2 0, .cells #[.slice a1_0 ((List.map eI x.when).length) c1_0, nI x.place, .slice a1_1 ((List.map eOp x.ops).length) c1_1] 28 (0, 0))]) (fun _ => ?_)
     refine JR_end ?_
     refine J_seq ?_
     refine J_seq ?_
     refine J_again2 1 rfl 2 rfl 0 (map_at hc0) (by kernel_rfl) (fun a2_0 c2_0 a2_1 c2_1 hrd2 => ?_)
     have hrd2_0 := rd0 (hrd2 0 _ rfl)
     have hrd2_1 := hrd2 1 _ rfl
     have hrd2_2 := hrd2 2 _ rfl
     have hz0 : cs1[off1]? = some (.slice a2_0 (c0.when.map eI).length c2_0) := hrd2_0
     rw [List.length_map] at hz0
     by_cases hlen : x.when.length = c0.when.length
     ·have hrt := right_of hv2
      obtain ⟨t, ht⟩ : ∃ t, x.when[x.place.toNat]? = some t := ⟨_, List.getElem?_eq_getElem (by have := hrt.p0; have := hrt.p1; omega)⟩
      have hP12 := allDone_len (rights (i := i.toNat) hno (by omega))
      rw [List.length_take] at hP12
      have ho12 := hrt.o2
      have hp0 := hrt.p0
      have hp1 := hrt.p1
      try simp only [cAp, nAp, aNl]
      refine Gp mixed [zR 0, zR 1, zR 2, zR 3, .rd 4 [.o 1 none] 0 0, zR 5, zR 6, .rd 7 [] 0 2, zR 8, .rd 9 [.r 2 (some (.slice (a2_0, c2_0).fst ((List.map eI c0.when).length) c2_0))] 0 0, zR 10, .rd 11 [] 0 7, zR 12] [] [0, 1, 4, 5, 6, 7, 8, 9, 10, 21, 22, 23, 43] (fun _ => [zV 0 (.string key), zS 1 (sA b1 off1) l.length c, zS 4 none 0 0, zV 5 .nilIface, zV 6 (.map (some (nu1 0))), zS 7 av k cv, zI 8 i, zP 9 (nu2 0), zV 10 .nilIface, zS 21 (sA b1 off1) l.length c, zI 22 (↑l.length : Int), zI 23 i, zB 43 false]) (fun _ => [(nu1 0, Obj.map es clock), (nu2 0, .cells #[.slice a1_0 ((List.map eI x.when).length) c1_0, nI x.place, .slice a1_1 ((List.map eOp x.ops).length) c1_1] 28 (0, 0))]) (fun _ => [(0 : Int) ≤ (0 : Int), (0 : Int) < (↑l.length : Int), cs1[off1]? = some (Value.slice (a2_0, c2_0).fst (List.map eI c0.when).length (a2_0, c2_0).snd), ((↑(List.map eI x.when).length : Int) != (↑(List.map eI c0.when).length : Int)) = false]) (fun _ => ⟨by omega, by omega, hrd2_0, by simp; omega, trivial⟩) (fun _ => ?_)
      refine cF ?_
      refine J_skip ?_
      refine J_seq ?_
      refine Sq mixed [zR 0, zR 1] [] [0, 1, 4, 5, 6, 7, 8, 9, 10, 21, 22, 23, 46] (fun _ => [zV 0 (.string key), zS 1 (sA b1 off1) l.length c, zS 4 none 0 0, zV 5 .nilIface, zV 6 (.map (some (nu1 0))), zS 7 av k cv, zI 8 i, zP 9 (nu2 0), zV 10 .nilIface, zS 21 (sA b1 off1) l.length c, zI 22 (↑l.length : Int), zI 23 i, zB 46 false]) (fun _ => [(nu1 0, Obj.map es clock), (nu2 0, .cells #[.slice a1_0 ((List.map eI x.when).length) c1_0, nI x.place, .slice a1_1 ((List.map eOp x.ops).length) c1_1] 28 (0, 0))]) (fun _ => ?_)
      refine cF ?_
      refine J_skip ?_
      refine J_seq ?_
      refine jB mixed [(0, true), (1, true), (2, false), (3, true), (4, true), (5, true), (6, true), (7, true)] [] ?_
      refine Gr (id := 13) (rest := [(2, false), (3, true), (4, true), (5, true), (6, true), (7, true)]) [zR 0, .rd 1 [.o 1 none] 0 0] [0, 1, 4, 5, 6, 7, 8, 9, 10, 21, 22, 23, 54] (fun _ => [zV 0 (.string key), zS 1 (sA b1 off1) l.length c, zS 4 none 0 0, zV 5 .nilIface, zV 6 (.map (some (nu1 0))), zS 7 av k cv, zI 8 i, zP 9 (nu2 0), zV 10 .nilIface, zS 21 (sA b1 off1) l.length c, zI 22 (↑l.length : Int), zI 23 i, zS 54 a1_0 ((List.map eI x.when).length) c1_0]) (fun _ => [(nu1 0, Obj.map es clock), (nu2 0, .cells #[.slice a1_0 ((List.map eI x.when).length) c1_0, nI x.place, .slice a1_1 ((List.map eOp x.ops).length) c1_1] 28 (0, 0))]) (fun _ => ?_)
      refine JR_callp [] 94 #[.slice a1_0 ((List.map eI x.when).length) c1_0] (some 55) (by kernel_rfl) (fun w S hG => ?_)
      refine (vweight (globs_of (hG.at 0 rfl)) (hG.at 4 rfl) (hl1 x (List.mem_of_getElem? hx))).mono ?_
      rintro e3 w3 (⟨hv3, hR⟩ | ⟨hv3, hR⟩)
      ·exact absurd hrt.vec hv3
      refine ⟨_, _, _, hR, ?_⟩
      try simp only [cAp, nAp, aNl]
      refine Gr (id := 13) (rest := []) [zR 3, zR 4, zR 5, zR 6, zR 7] [0, 1, 4, 5, 6, 7, 8, 9, 10, 11, 21, 22, 23] (fun _ => [zV 0 (.string key), zS 1 (sA b1 off1) l.length c, zS 4 none 0 0, zV 5 .nilIface, zV 6 (.map (some (nu1 0))), zS 7 av k cv, zI 8 i, zP 9 (nu2 0), zV 10 .nilIface, zI 11 (sumL x.when), zS 21 (sA b1 off1) l.length c, zI 22 (↑l.length : Int), zI 23 i]) (fun _ => [(nu1 0, Obj.map es clock), (nu2 0, .cells #[.slice a1_0 ((List.map eI x.when).length) c1_0, nI x.place, .slice a1_1 ((List.map eOp x.ops).length) c1_1] 28 (0, 0))]) (fun _ => ?_)
      refine JR_end ?_
      refine Sq mixed [zR 0, .rd 1 [.o 1 none] 0 0, zR 2, zR 3] [] [0, 1, 4, 5, 6, 7, 8, 9, 10, 11, 21, 22, 23, 59, 60, 61] (fun _ => [zV 0 (.string key), zS 1 (sA b1 off1) l.length c, zS 4 none 0 0, zV 5 .nilIface, zV 6 (.map (some (nu1 0))), zS 7 av k cv, zI 8 i, zP 9 (nu2 0), zV 10 .nilIface, zI 11 (sumL x.when), zS 21 (sA b1 off1) l.length c, zI 22 (↑l.length : Int), zI 23 i, zS 59 a1_1 ((List.map eOp x.ops).length) c1_1, zI 60 ((↑(List.map eOp x.ops).length : Int)), zI 61 0]) (fun _ => [(nu1 0, Obj.map es clock), (nu2 0, .cells #[.slice a1_0 ((List.map eI x.when).length) c1_0, nI x.place, .slice a1_1 ((List.map eOp x.ops).length) c1_1] 28 (0, 0))]) (fun _ => ?_)
      refine J_block ?_
      have hm1 : MapG okDot es (dotSet ((allDone (l.take i.toNat) ++ (x.ops.take (0 : Int).toNat).map (doneOf x)).map (·.d))) := by simpa using hm
      rw [show keyFirst key (allDone (l.take i.toNat)) = keyFirst key (allDone (l.take i.toNat) ++ (x.ops.take (0 : Int).toNat).map (doneOf x)) by simp]
      refine J_loopx (fun y : OpsS => [zV 0 (.string key), zS 1 (sA b1 off1) l.length c, zS 4 none 0 0, zV 5 .nilIface, zV 6 (.map (some (nu1 0))), zS 7 y.a y.k y.c, zI 8 i, zP 9 (nu2 0), zV 10 .nilIface, zI 11 (sumL x.when), zS 21 (sA b1 off1) l.length c, zI 22 (↑l.length : Int), zI 23 i, zS 59 a1_1 ((List.map eOp x.ops).length) c1_1, zI 60 ((↑(List.map eOp x.ops).length : Int)), zI 61 y.i]) (fun y : OpsS => [(nu1 0, .map y.es y.clock), (nu2 0, .cells #[.slice a1_0 ((List.map eI x.when).length) c1_0, nI x.place, .slice a1_1 ((List.map eOp x.ops).length) c1_1] 28 (0, 0))]) (fun y : OpsS => [cAcc (.slice y.a y.k y.c) 112 11 ((keyFirst key (allDone (l.take i.toNat) ++ (x.ops.take y.i.toNat).map (doneOf x))).map eDone)]) (fun y : OpsS => [(.nilIface, (dC er eb)), (.slice (sA b1 off1) l.length c, (D.sl 3 (List.map eCom l))), (.pointer (sA 1 0), (D.ptr [D.v (Value.iface 243 (Value.pointer (some (er 4))))])), (.pointer (sA 3 0), (D.ptr [D.v (Value.iface 243 (Value.pointer (some (er 3))))])), (.slice (a1_0, c1_0).fst ((List.map eI x.when).length) c1_0, (D.sl 1 (List.map eI x.when))), (.slice (a1_1, c1_1).fst ((List.map eOp x.ops).length) c1_1, (D.sl 7 (List.map eOp x.ops)))]) (fun y : OpsS => (x.ops.length - y.i).toNat) (fun y : OpsS => (0 ≤ y.i ∧ y.i ≤ x.ops.length ∧ MapG okDot y.es (dotSet ((allDone (l.take i.toNat) ++ (x.ops.take y.i.toNat).map (doneOf x)).map (·.d))))) ⟨0, es, clock, av, k, cv⟩ [0, 1, 4, 5, 6, 7, 8, 9, 10, 11, 21, 22, 23, 59, 60, 61] [0, 1] [0] [0, 1, 2, 3, 4, 5] ?_ (by kernel_rfl) rfl rfl rfl ?_
      ·exact ⟨by simp, by simp, hm1⟩
      rintro ⟨j, es1, clock1, av1, k1, cv1⟩ ⟨hj0, hj, hmj⟩
      dsimp only at hj0 hj hmj ⊢
      refine J_stpx (stp_acclen 0 rfl) fun _ hk => ?_
      have hk1 : k1 ≤ 4000000 := by
       rw [hk, List.length_map]
       refine Nat.le_trans (keyFirst_len _ _) ?_
       rw [List.length_append, List.length_map, List.length_take]
       omega
      clear hk
      refine Sq mixed [zR 0] [] [0, 1, 4, 5, 6, 7, 8, 9, 10, 11, 21, 22, 23, 59, 60, 61, 62] (fun _ => [zV 0 (.string key), zS 1 (sA b1 off1) l.length c, zS 4 none 0 0, zV 5 .nilIface, zV 6 (.map (some (nu1 0))), zS 7 av1 k1 cv1, zI 8 i, zP 9 (nu2 0), zV 10 .nilIface, zI 11 (sumL x.when), zS 21 (sA b1 off1) l.length c, zI 22 (↑l.length : Int), zI 23 i, zS 59 a1_1 ((List.map eOp x.ops).length) c1_1, zI 60 ((↑(List.map eOp x.ops).length : Int)), zI 61 j, zB 62 (decide (j < (↑(List.map eOp x.ops).length : Int)))]) (fun _ => [(nu1 0, Obj.map es1 clock1), (nu2 0, .cells #[.slice a1_0 ((List.map eI x.when).length) c1_0, nI x.place, .slice a1_1 ((List.map eOp x.ops).length) c1_1] 28 (0, 0))]) (fun _ => ?_)
      refine J_seq ?_
      refine cC (t := decide (j < (↑(List.map eOp x.ops).length : Int))) (fun hlt1 => ?_) (fun hlt1 => ?_)
      ·have hlt3 : j < x.ops.length := by simpa using hlt1
       obtain ⟨o, ho⟩ : ∃ o, x.ops[j.toNat]? = some o := ⟨_, List.getElem?_eq_getElem (by omega)⟩
       have hdo : doneOf x o = ⟨o, ⟨x.place, t, o.no⟩, sumL x.when⟩ := by simp [doneOf, dotOf, List.getD_eq_getElem?_getD, ht, wsum, sumL]
       have hsn : (allDone (l.take i.toNat) ++ (x.ops.take (j + 1).toNat).map (doneOf x)) = (allDone (l.take i.toNat) ++ (x.ops.take j.toNat).map (doneOf x)) ++ [⟨o, ⟨x.place, t, o.no⟩, sumL x.when⟩] := by
        rw [← take_snoc hj0 ho, List.map_append, ← List.append_assoc, List.map_singleton, hdo]
       refine J_read1 5 rfl j.toNat (map_at ho) (by kernel_rfl) (fun b3 off3 cs3 ty3 fz3 a3_0 c3_0 ha3 hrd3 => ?_)
       cases ha3
       have hrd3_0 := rd0 (hrd3 0 _ rfl)
       have hrd3_1 := hrd3 1 _ rfl
       have hrd3_2 := hrd3 2 _ rfl
       have hrd3_3 := hrd3 3 _ rfl
       have hrd3_4 := hrd3 4 _ rfl
       have hrd3_5 := hrd3 5 _ rfl
       have hrd3_6 := hrd3 6 _ rfl
       refine J_read0 4 rfl x.place.toNat (map_at ht) (by kernel_rfl) (fun b4 off4 cs4 ty4 fz4 ha4 hrd4 => ?_)
       cases ha4
       have hrd4_0 := rd0 (hrd4 0 _ rfl)
       have hin : ∀ v es', MapG okDot es' (fput (dotSet ((allDone (l.take i.toNat) ++ (x.ops.take j.toNat).map (doneOf x)).map (·.d))) (.agg #[.int .i64 x.place, .int .i64 t, .int .i64 o.no]) (.bool true)) → v = j + 1 → 0 ≤ v ∧ v ≤ x.ops.length ∧ MapG okDot es' (dotSet ((allDone (l.take i.toNat) ++ (x.ops.take v.toNat).map (doneOf x)).map (·.d))) := fun v es' h1 h2 => by
        subst h2
        refine ⟨by omega, by omega, ?_⟩
        rw [hsn, List.map_append]
        exact h1.congr (dotSet_snoc (d := ⟨x.place, t, o.no⟩))
       by_cases hmem : (⟨x.place, t, o.no⟩ : DotT) ∈ (allDone (l.take i.toNat) ++ (x.ops.take j.toNat).map (doneOf x)).map (·.d)
       ·have e4 : keyFirst key (allDone (l.take i.toNat) ++ (x.ops.take j.toNat).map (doneOf x)) = keyFirst key (allDone (l.take i.toNat) ++ (x.ops.take (j + 1).toNat).map (doneOf x)) := by
         rw [hsn, keyFirst_snoc, if_neg (fun h => h.1 hmem), List.append_nil]
        try simp only [cAp, nAp, aNl]
        refine J_skip ?_
        refine J_seq ?_
        refine J_block ?_
        refine Sp mixed [.rd 0 [] 0 2, .rd 1 [.r 3 (some (nI o.no)), .r 3 (some (.string o.key)), .r 3 (some (nI o.kind)), .r 3 (some (.string o.text)), .r 3 (some (nI o.n)), .r 3 (some (.bool o.remove)), .r 3 (some (.slice (a3_0, c3_0).fst ((List.map eDot o.dots).length) c3_0))] 0 0, .wr 2 [] 0, .wr 3 [.o 2 none, .o 2 none, .o 2 none, .o 2 none, .o 2 none, .o 2 none, .o 2 none] 0] [(3, [])] [0, 1, 4, 5, 6, 7, 8, 9, 10, 11, 14, 21, 22, 23, 59, 60, 61] (fun nu3 => [zV 0 (.string key), zS 1 (sA b1 off1) l.length c, zS 4 none 0 0, zV 5 .nilIface, zV 6 (.map (some (nu1 0))), zS 7 av1 k1 cv1, zI 8 i, zP 9 (nu2 0), zV 10 .nilIface, zI 11 (sumL x.when), zP 14 (nu3 0), zS 21 (sA b1 off1) l.length c, zI 22 (↑l.length : Int), zI 23 i, zS 59 (sA b3 off3) ((List.map eOp x.ops).length) c1_1, zI 60 ((↑(List.map eOp x.ops).length : Int)), zI 61 j]) (fun nu3 => [(nu1 0, Obj.map es1 clock1), (nu2 0, .cells #[.slice (sA b4 off4) ((List.map eI x.when).length) c1_0, nI x.place, .slice (sA b3 off3) ((List.map eOp x.ops).length) c1_1] 28 (0, 0)), (nu3 0, .cells #[nI o.no, .string o.key, nI o.kind, .string o.text, nI o.n, .bool o.remove, .slice (a3_0, c3_0).fst ((List.map eDot o.dots).length) c3_0] 24 (0, 0))]) (fun nu3 => [(0 : Int) ≤ j, j < (↑(List.map eOp x.ops).length : Int), cs3[off3 + j.toNat * (7 : Nat)]? = some (nI o.no), cs3[off3 + j.toNat * (7 : Nat) + (1 : Nat)]? = some (Value.string o.key), cs3[off3 + j.toNat * (7 : Nat) + (2 : Nat)]? = some (nI o.kind), cs3[off3 + j.toNat * (7 : Nat) + (3 : Nat)]? = some (Value.string o.text), cs3[off3 + j.toNat * (7 : Nat) + (4 : Nat)]? = some (nI o.n), cs3[off3 + j.toNat * (7 : Nat) + (5 : Nat)]? = some (Value.bool o.remove), cs3[off3 + j.toNat * (7 : Nat) + (6 : Nat)]? = some (Value.slice (a3_0, c3_0).fst (List.map eDot o.dots).length (a3_0, c3_0).snd)]) (fun _ => ⟨hj0, by simp; omega, hrd3_0, hrd3_1, hrd3_2, hrd3_3, hrd3_4, hrd3_5, hrd3_6, trivial⟩) (fun nu3 => ?_)
        refine Sp mixed [zR 0, .rd 1 [.o 1 none] 0 0, zR 2, .rd 3 [.o 1 none] 0 0, zR 4, .rd 5 [.o 1 none] 0 0, .rd 6 [] 0 2, .rd 7 [.r 4 (some (nI t))] 0 0, zR 8, .rd 9 [.o 2 none] 0 0, zR 10, .wr 11 [] 0, .wr 12 [.o 3 none, .o 3 none, .o 3 none] 0] [(12, [])] [0, 1, 4, 5, 6, 7, 8, 9, 10, 11, 14, 15, 21, 22, 23, 59, 60, 61] (fun nu4 => [zV 0 (.string key), zS 1 (sA b1 off1) l.length c, zS 4 none 0 0, zV 5 .nilIface, zV 6 (.map (some (nu1 0))), zS 7 av1 k1 cv1, zI 8 i, zP 9 (nu2 0), zV 10 .nilIface, zI 11 (sumL x.when), zP 14 (nu3 0), zP 15 (nu4 0), zS 21 (sA b1 off1) l.length c, zI 22 (↑l.length : Int), zI 23 i, zS 59 (sA b3 off3) ((List.map eOp x.ops).length) c1_1, zI 60 ((↑(List.map eOp x.ops).length : Int)), zI 61 j]) (fun nu4 => [(nu1 0, Obj.map es1 clock1), (nu2 0, .cells #[.slice (sA b4 off4) ((List.map eI x.when).length) c1_0, nI x.place, .slice (sA b3 off3) ((List.map eOp x.ops).length) c1_1] 28 (0, 0)), (nu3 0, .cells #[nI o.no, .string o.key, nI o.kind, .string o.text, nI o.n, .bool o.remove, .slice (a3_0, c3_0).fst ((List.map eDot o.dots).length) c3_0] 24 (0, 0)), (nu4 0, .cells #[nI x.place, nI t, nI o.no] 65 (0, 0))]) (fun nu4 => [(0 : Int) ≤ x.place, x.place < (↑(List.map eI x.when).length : Int), cs4[off4 + x.place.toNat * (1 : Nat)]? = some (nI t)]) (fun _ => ⟨hp0, by simp; omega, hrd4_0, trivial⟩) (fun nu4 => ?_)
        refine J_seq ?_
        refine J_seq ?_
        refine jB mixed [(0, true), (1, true), (2, true), (3, true), (4, true), (5, true), (6, true), (7, true), (8, true), (9, true)] [] ?_
        refine Gr (id := 18) (rest := [(2, true), (3, true), (4, true), (5, true), (6, true), (7, true), (8, true), (9, true)]) [zR 0, .rd 1 [.o 3 none, .o 3 none, .o 3 none] 0 0] [0, 1, 4, 5, 6, 7, 8, 9, 10, 11, 14, 15, 21, 22, 23, 59, 60, 61, 76, 77] (fun _ => [zV 0 (.string key), zS 1 (sA b1 off1) l.length c, zS 4 none 0 0, zV 5 .nilIface, zV 6 (.map (some (nu1 0))), zS 7 av1 k1 cv1, zI 8 i, zP 9 (nu2 0), zV 10 .nilIface, zI 11 (sumL x.when), zP 14 (nu3 0), zP 15 (nu4 0), zS 21 (sA b1 off1) l.length c, zI 22 (↑l.length : Int), zI 23 i, zS 59 (sA b3 off3) ((List.map eOp x.ops).length) c1_1, zI 60 ((↑(List.map eOp x.ops).length : Int)), zI 61 j, zV 76 (.map (some (nu1 0))), zV 77 (.agg #[nI x.place, nI t, nI o.no])]) (fun _ => [(nu1 0, Obj.map es1 clock1), (nu2 0, .cells #[.slice (sA b4 off4) ((List.map eI x.when).length) c1_0, nI x.place, .slice (sA b3 off3) ((List.map eOp x.ops).length) c1_1] 28 (0, 0)), (nu3 0, .cells #[nI o.no, .string o.key, nI o.kind, .string o.text, nI o.n, .bool o.remove, .slice (a3_0, c3_0).fst ((List.map eDot o.dots).length) c3_0] 24 (0, 0)), (nu4 0, .cells #[nI x.place, nI t, nI o.no] 65 (0, 0))]) (fun _ => ?_)
        refine JRg_lookr (.o 0 none) (nu1 0) 131 65 4 okDot (.agg #[.int .i64 x.place, .int .i64 t, .int .i64 o.no]) (.bool false) false (some 78) (by kernel_rfl) (by kernel_rfl) (by kernel_rfl) keyOk_65 (by first | exact ⟨_, _, _, rfl⟩ | simp [MapKept.IsKey]) (by kernel_rfl) rfl hmj (fun hno => ?_) (fun v hv => ?_)
        ·rw [dotSet_in hmem] at hno
         cases hno
        ·rw [dotSet_in hmem] at hv
         cases hv
         refine Gr (id := 18) (rest := []) [zR 3, zR 4, .rd 5 [] 1 0, .rd 6 [] 1 0, .rd 7 [] 1 0, .rd 8 [] 1 0, zR 9] [0, 1, 4, 5, 6, 7, 8, 9, 10, 11, 14, 15, 21, 22, 23, 59, 60, 61, 85] (fun _ => [zV 0 (.string key), zS 1 (sA b1 off1) l.length c, zS 4 none 0 0, zV 5 .nilIface, zV 6 (.map (some (nu1 0))), zS 7 av1 k1 cv1, zI 8 i, zP 9 (nu2 0), zV 10 .nilIface, zI 11 (sumL x.when), zP 14 (nu3 0), zP 15 (nu4 0), zS 21 (sA b1 off1) l.length c, zI 22 (↑l.length : Int), zI 23 i, zS 59 (sA b3 off3) ((List.map eOp x.ops).length) c1_1, zI 60 ((↑(List.map eOp x.ops).length : Int)), zI 61 j, zB 85 false]) (fun _ => [(nu1 0, Obj.map es1 clock1), (nu2 0, .cells #[.slice (sA b4 off4) ((List.map eI x.when).length) c1_0, nI x.place, .slice (sA b3 off3) ((List.map eOp x.ops).length) c1_1] 28 (0, 0)), (nu3 0, .cells #[nI o.no, .string o.key, nI o.kind, .string o.text, nI o.n, .bool o.remove, .slice (a3_0, c3_0).fst ((List.map eDot o.dots).length) c3_0] 24 (0, 0)), (nu4 0, .cells #[nI x.place, nI t, nI o.no] 65 (0, 0))]) (fun _ => ?_)
         refine JR_end ?_
         refine cF ?_
         refine J_skip ?_
         refine jB mixed [(0, true), (1, true), (2, false)] [] ?_
         refine Gr (id := 20) (rest := [(2, false)]) [zR 0, .rd 1 [.o 3 none, .o 3 none, .o 3 none] 0 0] [0, 1, 4, 5, 6, 7, 8, 9, 10, 11, 14, 15, 21, 22, 23, 59, 60, 61, 93, 94] (fun _ => [zV 0 (.string key), zS 1 (sA b1 off1) l.length c, zS 4 none 0 0, zV 5 .nilIface, zV 6 (.map (some (nu1 0))), zS 7 av1 k1 cv1, zI 8 i, zP 9 (nu2 0), zV 10 .nilIface, zI 11 (sumL x.when), zP 14 (nu3 0), zP 15 (nu4 0), zS 21 (sA b1 off1) l.length c, zI 22 (↑l.length : Int), zI 23 i, zS 59 (sA b3 off3) ((List.map eOp x.ops).length) c1_1, zI 60 ((↑(List.map eOp x.ops).length : Int)), zI 61 j, zV 93 (.map (some (nu1 0))), zV 94 (.agg #[nI x.place, nI t, nI o.no])]) (fun _ => [(nu1 0, Obj.map es1 clock1), (nu2 0, .cells #[.slice (sA b4 off4) ((List.map eI x.when).length) c1_0, nI x.place, .slice (sA b3 off3) ((List.map eOp x.ops).length) c1_1] 28 (0, 0)), (nu3 0, .cells #[nI o.no, .string o.key, nI o.kind, .string o.text, nI o.n, .bool o.remove, .slice (a3_0, c3_0).fst ((List.map eDot o.dots).length) c3_0] 24 (0, 0)), (nu4 0, .cells #[nI x.place, nI t, nI o.no] 65 (0, 0))]) (fun _ => ?_)
         refine JRg_put 0 (nu1 0) 131 65 4 okDot (.agg #[.int .i64 x.place, .int .i64 t, .int .i64 o.no]) (.bool true) none (by kernel_rfl) (by kernel_rfl) (by kernel_rfl) keyOk_65 (by first | exact ⟨_, _, _, rfl⟩ | simp [MapKept.IsKey]) rfl hmj (fun es2 clock2 hm2 hsz2 => ?_)
         refine JR_end ?_
         refine J_eb ?_
         refine Gp mixed [.rd 0 [] 0 1, zR 1] [] [0, 1, 4, 5, 6, 7, 8, 9, 10, 11, 14, 15, 21, 22, 23, 59, 60, 61, 93, 94] (fun _ => [zV 0 (.string key), zS 1 (sA b1 off1) l.length c, zS 4 none 0 0, zV 5 .nilIface, zV 6 (.map (some (nu1 0))), zS 7 av1 k1 cv1, zI 8 i, zP 9 (nu2 0), zV 10 .nilIface, zI 11 (sumL x.when), zP 14 (nu3 0), zP 15 (nu4 0), zS 21 (sA b1 off1) l.length c, zI 22 (↑l.length : Int), zI 23 i, zS 59 (sA b3 off3) ((List.map eOp x.ops).length) c1_1, zI 60 ((↑(List.map eOp x.ops).length : Int)), zI 61 (j + 1), zV 93 (.map (some (nu1 0))), zV 94 (.agg #[nI x.place, nI t, nI o.no])]) (fun _ => [(nu1 0, Obj.map es2 clock2), (nu2 0, .cells #[.slice (sA b4 off4) ((List.map eI x.when).length) c1_0, nI x.place, .slice (sA b3 off3) ((List.map eOp x.ops).length) c1_1] 28 (0, 0)), (nu3 0, .cells #[nI o.no, .string o.key, nI o.kind, .string o.text, nI o.n, .bool o.remove, .slice (a3_0, c3_0).fst ((List.map eDot o.dots).length) c3_0] 24 (0, 0)), (nu4 0, .cells #[nI x.place, nI t, nI o.no] 65 (0, 0))]) (fun _ => [IntKind.i64.wrap (j + (1 : Int)) = j + (1 : Int)]) (fun _ => ⟨wrap_i64 (by omega) (by omega), trivial⟩) (fun _ => ?_)
         rw [e4]
         refine J_backx ⟨j + 1, _, _, _, _, _⟩ [0, 1, 4, 5, 6, 7, 8, 9, 10, 11, 21, 22, 23, 59, 60, 61] [0, 1] [0] [0, 1, 2, 3, 4, 5] ?_ ?_ (by kernel_rfl) rfl rfl rfl
         ·exact hin _ _ hm2 rfl
         ·simp only
          omega
       ·try simp only [List.cons_append, List.nil_append, List.append_nil]
        refine J_skip ?_
        refine J_seq ?_
        refine J_block ?_
        refine Sp mixed [.rd 0 [] 0 2, .rd 1 [.r 3 (some (nI o.no)), .r 3 (some (.string o.key)), .r 3 (some (nI o.kind)), .r 3 (some (.string o.text)), .r 3 (some (nI o.n)), .r 3 (some (.bool o.remove)), .r 3 (some (.slice (a3_0, c3_0).fst ((List.map eDot o.dots).length) c3_0))] 0 0, .wr 2 [] 0, .wr 3 [.o 2 none, .o 2 none, .o 2 none, .o 2 none, .o 2 none, .o 2 none, .o 2 none] 0] [(3, [])] [0, 1, 4, 5, 6, 7, 8, 9, 10, 11, 14, 21, 22, 23, 59, 60, 61] (fun nu3 => [zV 0 (.string key), zS 1 (sA b1 off1) l.length c, zS 4 none 0 0, zV 5 .nilIface, zV 6 (.map (some (nu1 0))), zS 7 av1 k1 cv1, zI 8 i, zP 9 (nu2 0), zV 10 .nilIface, zI 11 (sumL x.when), zP 14 (nu3 0), zS 21 (sA b1 off1) l.length c, zI 22 (↑l.length : Int), zI 23 i, zS 59 (sA b3 off3) ((List.map eOp x.ops).length) c1_1, zI 60 ((↑(List.map eOp x.ops).length : Int)), zI 61 j]) (fun nu3 => [(nu1 0, Obj.map es1 clock1), (nu2 0, .cells #[.slice (sA b4 off4) ((List.map eI x.when).length) c1_0, nI x.place, .slice (sA b3 off3) ((List.map eOp x.ops).length) c1_1] 28 (0, 0)), (nu3 0, .cells #[nI o.no, .string o.key, nI o.kind, .string o.text, nI o.n, .bool o.remove, .slice (a3_0, c3_0).fst ((List.map eDot o.dots).length) c3_0] 24 (0, 0))]) (fun nu3 => [(0 : Int) ≤ j, j < (↑(List.map eOp x.ops).length : Int), cs3[off3 + j.toNat * (7 : Nat)]? = some (nI o.no), cs3[off3 + j.toNat * (7 : Nat) + (1 : Nat)]? = some (Value.string o.key), cs3[off3 + j.toNat * (7 : Nat) + (2 : Nat)]? = some (nI o.kind), cs3[off3 + j.toNat * (7 : Nat) + (3 : Nat)]? = some (Value.string o.text), cs3[off3 + j.toNat * (7 : Nat) + (4 : Nat)]? = some (nI o.n), cs3[off3 + j.toNat * (7 : Nat) + (5 : Nat)]? = some (Value.bool o.remove), cs3[off3 + j.toNat * (7 : Nat) + (6 : Nat)]? = some (Value.slice (a3_0, c3_0).fst (List.map eDot o.dots).length (a3_0, c3_0).snd)]) (fun _ => ⟨hj0, by simp; omega, hrd3_0, hrd3_1, hrd3_2, hrd3_3, hrd3_4, hrd3_5, hrd3_6, trivial⟩) (fun nu3 => ?_)
        refine Sp mixed [zR 0, .rd 1 [.o 1 none] 0 0, zR 2, .rd 3 [.o 1 none] 0 0, zR 4, .rd 5 [.o 1 none] 0 0, .rd 6 [] 0 2, .rd 7 [.r 4 (some (nI t))] 0 0, zR 8, .rd 9 [.o 2 none] 0 0, zR 10, .wr 11 [] 0, .wr 12 [.o 3 none, .o 3 none, .o 3 none] 0] [(12, [])] [0, 1, 4, 5, 6, 7, 8, 9, 10, 11, 14, 15, 21, 22, 23, 59, 60, 61] (fun nu4 => [zV 0 (.string key), zS 1 (sA b1 off1) l.length c, zS 4 none 0 0, zV 5 .nilIface, zV 6 (.map (some (nu1 0))), zS 7 av1 k1 cv1, zI 8 i, zP 9 (nu2 0), zV 10 .nilIface, zI 11 (sumL x.when), zP 14 (nu3 0), zP 15 (nu4 0), zS 21 (sA b1 off1) l.length c, zI 22 (↑l.length : Int), zI 23 i, zS 59 (sA b3 off3) ((List.map eOp x.ops).length) c1_1, zI 60 ((↑(List.map eOp x.ops).length : Int)), zI 61 j]) (fun nu4 => [(nu1 0, Obj.map es1 clock1), (nu2 0, .cells #[.slice (sA b4 off4) ((List.map eI x.when).length) c1_0, nI x.place, .slice (sA b3 off3) ((List.map eOp x.ops).length) c1_1] 28 (0, 0)), (nu3 0, .cells #[nI o.no, .string o.key, nI o.kind, .string o.text, nI o.n, .bool o.remove, .slice (a3_0, c3_0).fst ((List.map eDot o.dots).length) c3_0] 24 (0, 0)), (nu4 0, .cells #[nI x.place, nI t, nI o.no] 65 (0, 0))]) (fun nu4 => [(0 : Int) ≤ x.place, x.place < (↑(List.map eI x.when).length : Int), cs4[off4 + x.place.toNat * (1 : Nat)]? = some (nI t)]) (fun _ => ⟨hp0, by simp; omega, hrd4_0, trivial⟩) (fun nu4 => ?_)
        refine J_seq ?_
        refine J_seq ?_
        refine jB mixed [(0, true), (1, true), (2, true), (3, true), (4, true), (5, true), (6, true), (7, true), (8, true), (9, true)] [] ?_
        refine Gr (id := 18) (rest := [(2, true), (3, true), (4, true), (5, true), (6, true), (7, true), (8, true), (9, true)]) [zR 0, .rd 1 [.o 3 none, .o 3 none, .o 3 none] 0 0] [0, 1, 4, 5, 6, 7, 8, 9, 10, 11, 14, 15, 21, 22, 23, 59, 60, 61, 76, 77] (fun _ => [zV 0 (.string key), zS 1 (sA b1 off1) l.length c, zS 4 none 0 0, zV 5 .nilIface, zV 6 (.map (some (nu1 0))), zS 7 av1 k1 cv1, zI 8 i, zP 9 (nu2 0), zV 10 .nilIface, zI 11 (sumL x.when), zP 14 (nu3 0), zP 15 (nu4 0), zS 21 (sA b1 off1) l.length c, zI 22 (↑l.length : Int), zI 23 i, zS 59 (sA b3 off3) ((List.map eOp x.ops).length) c1_1, zI 60 ((↑(List.map eOp x.ops).length : Int)), zI 61 j, zV 76 (.map (some (nu1 0))), zV 77 (.agg #[nI x.place, nI t, nI o.no])]) (fun _ => [(nu1 0, Obj.map es1 clock1), (nu2 0, .cells #[.slice (sA b4 off4) ((List.map eI x.when).length) c1_0, nI x.place, .slice (sA b3 off3) ((List.map eOp x.ops).length) c1_1] 28 (0, 0)), (nu3 0, .cells #[nI o.no, .string o.key, nI o.kind, .string o.text, nI o.n, .bool o.remove, .slice (a3_0, c3_0).fst ((List.map eDot o.dots).length) c3_0] 24 (0, 0)), (nu4 0, .cells #[nI x.place, nI t, nI o.no] 65 (0, 0))]) (fun _ => ?_)
        refine JRg_lookr (.o 0 none) (nu1 0) 131 65 4 okDot (.agg #[.int .i64 x.place, .int .i64 t, .int .i64 o.no]) (.bool false) false (some 78) (by kernel_rfl) (by kernel_rfl) (by kernel_rfl) keyOk_65 (by first | exact ⟨_, _, _, rfl⟩ | simp [MapKept.IsKey]) (by kernel_rfl) rfl hmj (fun hno => ?_) (fun v hv => ?_)
        ·by_cases hkey : o.key = key
         ·have hkb : (o.key.toList == key.toList) = true := by rw [strEq, decide_eq_true hkey]
          refine Gs (id := 18) (rest := []) [zR 3, zR 4, zR 5, .rd 6 [.o 2 none] 0 0, zR 7, .rd 8 [] 0 6, zR 9] [0, 1, 4, 5, 6, 7, 8, 9, 10, 11, 14, 15, 21, 22, 23, 59, 60, 61, 85] (fun _ => [zV 0 (.string key), zS 1 (sA b1 off1) l.length c, zS 4 none 0 0, zV 5 .nilIface, zV 6 (.map (some (nu1 0))), zS 7 av1 k1 cv1, zI 8 i, zP 9 (nu2 0), zV 10 .nilIface, zI 11 (sumL x.when), zP 14 (nu3 0), zP 15 (nu4 0), zS 21 (sA b1 off1) l.length c, zI 22 (↑l.length : Int), zI 23 i, zS 59 (sA b3 off3) ((List.map eOp x.ops).length) c1_1, zI 60 ((↑(List.map eOp x.ops).length : Int)), zI 61 j, zB 85 true]) (fun _ => [(nu1 0, Obj.map es1 clock1), (nu2 0, .cells #[.slice (sA b4 off4) ((List.map eI x.when).length) c1_0, nI x.place, .slice (sA b3 off3) ((List.map eOp x.ops).length) c1_1] 28 (0, 0)), (nu3 0, .cells #[nI o.no, .string o.key, nI o.kind, .string o.text, nI o.n, .bool o.remove, .slice (a3_0, c3_0).fst ((List.map eDot o.dots).length) c3_0] 24 (0, 0)), (nu4 0, .cells #[nI x.place, nI t, nI o.no] 65 (0, 0))]) (fun _ => [(o.key.toList == key.toList) = true]) (fun _ => ⟨by assumption, trivial⟩) (fun _ => ?_)
          refine JR_end ?_
          refine cTt ?_
          refine jB mixed [(0, true), (1, true), (2, true), (3, true), (4, true), (5, false), (6, false), (7, true)] [] ?_
          refine Gr (id := 19) (rest := [(6, false), (7, true)]) [zR 0, .rd 1 [.o 2 none, .o 2 none, .o 2 none, .o 2 none, .o 2 none, .o 2 none, .o 2 none] 0 0, .rd 2 [.o 3 none, .o 3 none, .o 3 none] 0 0, zR 3, zR 4, .wr 5 [] 0] [0, 1, 4, 5, 6, 7, 8, 9, 10, 11, 14, 15, 21, 22, 23, 59, 60, 61, 86, 91] (fun nu5 => [zV 0 (.string key), zS 1 (sA b1 off1) l.length c, zS 4 none 0 0, zV 5 .nilIface, zV 6 (.map (some (nu1 0))), zS 7 av1 k1 cv1, zI 8 i, zP 9 (nu2 0), zV 10 .nilIface, zI 11 (sumL x.when), zP 14 (nu3 0), zP 15 (nu4 0), zS 21 (sA b1 off1) l.length c, zI 22 (↑l.length : Int), zI 23 i, zS 59 (sA b3 off3) ((List.map eOp x.ops).length) c1_1, zI 60 ((↑(List.map eOp x.ops).length : Int)), zI 61 j, zS 86 av1 k1 cv1, zS 91 (sA (nu5 0) 0) 1 1]) (fun nu5 => [(nu1 0, Obj.map es1 clock1), (nu2 0, .cells #[.slice (sA b4 off4) ((List.map eI x.when).length) c1_0, nI x.place, .slice (sA b3 off3) ((List.map eOp x.ops).length) c1_1] 28 (0, 0)), (nu3 0, .cells #[nI o.no, .string o.key, nI o.kind, .string o.text, nI o.n, .bool o.remove, .slice (a3_0, c3_0).fst ((List.map eDot o.dots).length) c3_0] 24 (0, 0)), (nu4 0, .cells #[nI x.place, nI t, nI o.no] 65 (0, 0)), (nu5 0, .cells #[nI o.no, .string o.key, nI o.kind, .string o.text, nI o.n, .bool o.remove, .slice (a3_0, c3_0).fst ((List.map eDot o.dots).length) c3_0, nI x.place, nI t, nI o.no, nI (sumL x.when)] 112 (0, 0))]) (fun nu5 => ?_)
          refine JR_appm 0 106 112 11 120 (.agg #[.int .i64 0, .string (ByteArray.mk #[]), .int .i64 0, .string (ByteArray.mk #[]), .int .i64 0, .bool false, .slice none 0 0, .int .i64 0, .int .i64 0, .int .i64 0, .int .i64 0]) (a0 := av1) (len := k1) (cap0 := cv1) (ax := (some (⟨nu5 0, 0, none⟩))) (m := 1) (c := 1) (dst := (some 92)) [(⟨o, ⟨x.place, t, o.no⟩, sumL x.when⟩ : DoneT)] (by kernel_rfl) (by kernel_rfl) (by kernel_rfl) (by kernel_rfl) rfl (by decide) rfl (fun _ _ _ s => src_one s 4 rfl rfl ⟨.inl ⟨rfl, rfl⟩, ⟨.inl ⟨rfl, rfl⟩, ⟨.inl ⟨rfl, rfl⟩, ⟨.inl ⟨rfl, rfl⟩, ⟨.inl ⟨rfl, rfl⟩, ⟨.inl ⟨rfl, rfl⟩, ⟨.inr (.inl (List.mem_of_getElem? (i := 6) rfl)), ⟨.inl ⟨rfl, rfl⟩, ⟨.inl ⟨rfl, rfl⟩, ⟨.inl ⟨rfl, rfl⟩, ⟨.inl ⟨rfl, rfl⟩, trivial⟩⟩⟩⟩⟩⟩⟩⟩⟩⟩⟩) (by simp only [maxLen]; omega) (by omega) (fun av2 cv2 => ?_)
          have e4 : keyFirst key (allDone (l.take i.toNat) ++ (x.ops.take j.toNat).map (doneOf x)) ++ [⟨o, ⟨x.place, t, o.no⟩, sumL x.when⟩] = keyFirst key (allDone (l.take i.toNat) ++ (x.ops.take (j + 1).toNat).map (doneOf x)) := by
           rw [hsn, keyFirst_snoc, if_pos ⟨hmem, hkey⟩]
          try simp only [cAp, nAp, aNl]
          refine Gr (id := 19) (rest := []) [zR 7] [0, 1, 4, 5, 6, 7, 8, 9, 10, 11, 14, 15, 21, 22, 23, 59, 60, 61] (fun _ => [zV 0 (.string key), zS 1 (sA b1 off1) l.length c, zS 4 none 0 0, zV 5 .nilIface, zV 6 (.map (some (nu1 0))), zS 7 av2 (k1 + 1) cv2, zI 8 i, zP 9 (nu2 0), zV 10 .nilIface, zI 11 (sumL x.when), zP 14 (nu3 0), zP 15 (nu4 0), zS 21 (sA b1 off1) l.length c, zI 22 (↑l.length : Int), zI 23 i, zS 59 (sA b3 off3) ((List.map eOp x.ops).length) c1_1, zI 60 ((↑(List.map eOp x.ops).length : Int)), zI 61 j]) (fun _ => [(nu1 0, Obj.map es1 clock1), (nu2 0, .cells #[.slice (sA b4 off4) ((List.map eI x.when).length) c1_0, nI x.place, .slice (sA b3 off3) ((List.map eOp x.ops).length) c1_1] 28 (0, 0)), (nu3 0, .cells #[nI o.no, .string o.key, nI o.kind, .string o.text, nI o.n, .bool o.remove, .slice a3_0 ((List.map eDot o.dots).length) c3_0] 24 (0, 0)), (nu4 0, .cells #[nI x.place, nI t, nI o.no] 65 (0, 0)), (nu5 0, .cells #[nI o.no, .string o.key, nI o.kind, .string o.text, nI o.n, .bool o.remove, .slice a3_0 ((List.map eDot o.dots).length) c3_0, nI x.place, nI t, nI o.no, nI (sumL x.when)] 112 (0, 0))]) (fun _ => ?_)
          try simp only [cAp, nAp, aNl]
          refine JR_end ?_
          try simp only [cAp, nAp, aNl]
          refine jB mixed [(0, true), (1, true), (2, false)] [] ?_
          refine Gr (id := 20) (rest := [(2, false)]) [zR 0, .rd 1 [.o 3 none, .o 3 none, .o 3 none] 0 0] [0, 1, 4, 5, 6, 7, 8, 9, 10, 11, 14, 15, 21, 22, 23, 59, 60, 61, 93, 94] (fun _ => [zV 0 (.string key), zS 1 (sA b1 off1) l.length c, zS 4 none 0 0, zV 5 .nilIface, zV 6 (.map (some (nu1 0))), zS 7 av2 (k1 + 1) cv2, zI 8 i, zP 9 (nu2 0), zV 10 .nilIface, zI 11 (sumL x.when), zP 14 (nu3 0), zP 15 (nu4 0), zS 21 (sA b1 off1) l.length c, zI 22 (↑l.length : Int), zI 23 i, zS 59 (sA b3 off3) ((List.map eOp x.ops).length) c1_1, zI 60 ((↑(List.map eOp x.ops).length : Int)), zI 61 j, zV 93 (.map (some (nu1 0))), zV 94 (.agg #[nI x.place, nI t, nI o.no])]) (fun _ => [(nu1 0, Obj.map es1 clock1), (nu2 0, .cells #[.slice (sA b4 off4) ((List.map eI x.when).length) c1_0, nI x.place, .slice (sA b3 off3) ((List.map eOp x.ops).length) c1_1] 28 (0, 0)), (nu3 0, .cells #[nI o.no, .string o.key, nI o.kind, .string o.text, nI o.n, .bool o.remove, .slice a3_0 ((List.map eDot o.dots).length) c3_0] 24 (0, 0)), (nu4 0, .cells #[nI x.place, nI t, nI o.no] 65 (0, 0)), (nu5 0, .cells #[nI o.no, .string o.key, nI o.kind, .string o.text, nI o.n, .bool o.remove, .slice a3_0 ((List.map eDot o.dots).length) c3_0, nI x.place, nI t, nI o.no, nI (sumL x.when)] 112 (0, 0))]) (fun _ => ?_)
          refine JRg_put 0 (nu1 0) 131 65 4 okDot (.agg #[.int .i64 x.place, .int .i64 t, .int .i64 o.no]) (.bool true) none (by kernel_rfl) (by kernel_rfl) (by kernel_rfl) keyOk_65 (by first | exact ⟨_, _, _, rfl⟩ | simp [MapKept.IsKey]) rfl hmj (fun es2 clock2 hm2 hsz2 => ?_)
          try simp only [cAp, nAp, aNl]
          refine JR_end ?_
          try simp only [cAp, nAp, aNl]
          refine J_eb ?_
          try simp only [cAp, nAp, aNl]
          refine Gp mixed [.rd 0 [] 0 1, zR 1] [] [0, 1, 4, 5, 6, 7, 8, 9, 10, 11, 14, 15, 21, 22, 23, 59, 60, 61, 93, 94] (fun _ => [zV 0 (.string key), zS 1 (sA b1 off1) l.length c, zS 4 none 0 0, zV 5 .nilIface, zV 6 (.map (some (nu1 0))), zS 7 av2 (k1 + 1) cv2, zI 8 i, zP 9 (nu2 0), zV 10 .nilIface, zI 11 (sumL x.when), zP 14 (nu3 0), zP 15 (nu4 0), zS 21 (sA b1 off1) l.length c, zI 22 (↑l.length : Int), zI 23 i, zS 59 (sA b3 off3) ((List.map eOp x.ops).length) c1_1, zI 60 ((↑(List.map eOp x.ops).length : Int)), zI 61 (j + 1), zV 93 (.map (some (nu1 0))), zV 94 (.agg #[nI x.place, nI t, nI o.no])]) (fun _ => [(nu1 0, Obj.map es2 clock2), (nu2 0, .cells #[.slice (sA b4 off4) ((List.map eI x.when).length) c1_0, nI x.place, .slice (sA b3 off3) ((List.map eOp x.ops).length) c1_1] 28 (0, 0)), (nu3 0, .cells #[nI o.no, .string o.key, nI o.kind, .string o.text, nI o.n, .bool o.remove, .slice a3_0 ((List.map eDot o.dots).length) c3_0] 24 (0, 0)), (nu4 0, .cells #[nI x.place, nI t, nI o.no] 65 (0, 0)), (nu5 0, .cells #[nI o.no, .string o.key, nI o.kind, .string o.text, nI o.n, .bool o.remove, .slice a3_0 ((List.map eDot o.dots).length) c3_0, nI x.place, nI t, nI o.no, nI (sumL x.when)] 112 (0, 0))]) (fun _ => [IntKind.i64.wrap (j + (1 : Int)) = j + (1 : Int)]) (fun _ => ⟨wrap_i64 (by omega) (by omega), trivial⟩) (fun _ => ?_)
          try simp only [cAp, nAp, aNl]
          rw [e4]
          refine J_backx ⟨j + 1, _, _, _, _, _⟩ [0, 1, 4, 5, 6, 7, 8, 9, 10, 11, 21, 22, 23, 59, 60, 61] [0, 1] [0] [0, 1, 2, 3, 4, 5] ?_ ?_ (by kernel_rfl) rfl rfl rfl
          ·exact hin _ _ hm2 rfl
          ·simp only
           omega
         ·have hkb : (o.key.toList == key.toList) = false := by rw [strEq, decide_eq_false hkey]
          have e4 : keyFirst key (allDone (l.take i.toNat) ++ (x.ops.take j.toNat).map (doneOf x)) = keyFirst key (allDone (l.take i.toNat) ++ (x.ops.take (j + 1).toNat).map (doneOf x)) := by
           rw [hsn, keyFirst_snoc, if_neg (fun h => hkey h.2), List.append_nil]
          refine Gs (id := 18) (rest := []) [zR 3, zR 4, zR 5, .rd 6 [.o 2 none] 0 0, zR 7, .rd 8 [] 0 7, zR 9] [0, 1, 4, 5, 6, 7, 8, 9, 10, 11, 14, 15, 21, 22, 23, 59, 60, 61, 85] (fun _ => [zV 0 (.string key), zS 1 (sA b1 off1) l.length c, zS 4 none 0 0, zV 5 .nilIface, zV 6 (.map (some (nu1 0))), zS 7 av1 k1 cv1, zI 8 i, zP 9 (nu2 0), zV 10 .nilIface, zI 11 (sumL x.when), zP 14 (nu3 0), zP 15 (nu4 0), zS 21 (sA b1 off1) l.length c, zI 22 (↑l.length : Int), zI 23 i, zS 59 (sA b3 off3) ((List.map eOp x.ops).length) c1_1, zI 60 ((↑(List.map eOp x.ops).length : Int)), zI 61 j, zB 85 false]) (fun _ => [(nu1 0, Obj.map es1 clock1), (nu2 0, .cells #[.slice (sA b4 off4) ((List.map eI x.when).length) c1_0, nI x.place, .slice (sA b3 off3) ((List.map eOp x.ops).length) c1_1] 28 (0, 0)), (nu3 0, .cells #[nI o.no, .string o.key, nI o.kind, .string o.text, nI o.n, .bool o.remove, .slice (a3_0, c3_0).fst ((List.map eDot o.dots).length) c3_0] 24 (0, 0)), (nu4 0, .cells #[nI x.place, nI t, nI o.no] 65 (0, 0))]) (fun _ => [(o.key.toList == key.toList) = false]) (fun _ => ⟨by assumption, trivial⟩) (fun _ => ?_)
          refine JR_end ?_
          refine cF ?_
          refine J_skip ?_
          refine jB mixed [(0, true), (1, true), (2, false)] [] ?_
          refine Gr (id := 20) (rest := [(2, false)]) [zR 0, .rd 1 [.o 3 none, .o 3 none, .o 3 none] 0 0] [0, 1, 4, 5, 6, 7, 8, 9, 10, 11, 14, 15, 21, 22, 23, 59, 60, 61, 93, 94] (fun _ => [zV 0 (.string key), zS 1 (sA b1 off1) l.length c, zS 4 none 0 0, zV 5 .nilIface, zV 6 (.map (some (nu1 0))), zS 7 av1 k1 cv1, zI 8 i, zP 9 (nu2 0), zV 10 .nilIface, zI 11 (sumL x.when), zP 14 (nu3 0), zP 15 (nu4 0), zS 21 (sA b1 off1) l.length c, zI 22 (↑l.length : Int), zI 23 i, zS 59 (sA b3 off3) ((List.map eOp x.ops).length) c1_1, zI 60 ((↑(List.map eOp x.ops).length : Int)), zI 61 j, zV 93 (.map (some (nu1 0))), zV 94 (.agg #[nI x.place, nI t, nI o.no])]) (fun _ => [(nu1 0, Obj.map es1 clock1), (nu2 0, .cells #[.slice (sA b4 off4) ((List.map eI x.when).length) c1_0, nI x.place, .slice (sA b3 off3) ((List.map eOp x.ops).length) c1_1] 28 (0, 0)), (nu3 0, .cells #[nI o.no, .string o.key, nI o.kind, .string o.text, nI o.n, .bool o.remove, .slice (a3_0, c3_0).fst ((List.map eDot o.dots).length) c3_0] 24 (0, 0)), (nu4 0, .cells #[nI x.place, nI t, nI o.no] 65 (0, 0))]) (fun _ => ?_)
          refine JRg_put 0 (nu1 0) 131 65 4 okDot (.agg #[.int .i64 x.place, .int .i64 t, .int .i64 o.no]) (.bool true) none (by kernel_rfl) (by kernel_rfl) (by kernel_rfl) keyOk_65 (by first | exact ⟨_, _, _, rfl⟩ | simp [MapKept.IsKey]) rfl hmj (fun es2 clock2 hm2 hsz2 => ?_)
          refine JR_end ?_
          refine J_eb ?_
          refine Gp mixed [.rd 0 [] 0 1, zR 1] [] [0, 1, 4, 5, 6, 7, 8, 9, 10, 11, 14, 15, 21, 22, 23, 59, 60, 61, 93, 94] (fun _ => [zV 0 (.string key), zS 1 (sA b1 off1) l.length c, zS 4 none 0 0, zV 5 .nilIface, zV 6 (.map (some (nu1 0))), zS 7 av1 k1 cv1, zI 8 i, zP 9 (nu2 0), zV 10 .nilIface, zI 11 (sumL x.when), zP 14 (nu3 0), zP 15 (nu4 0), zS 21 (sA b1 off1) l.length c, zI 22 (↑l.length : Int), zI 23 i, zS 59 (sA b3 off3) ((List.map eOp x.ops).length) c1_1, zI 60 ((↑(List.map eOp x.ops).length : Int)), zI 61 (j + 1), zV 93 (.map (some (nu1 0))), zV 94 (.agg #[nI x.place, nI t, nI o.no])]) (fun _ => [(nu1 0, Obj.map es2 clock2), (nu2 0, .cells #[.slice (sA b4 off4) ((List.map eI x.when).length) c1_0, nI x.place, .slice (sA b3 off3) ((List.map eOp x.ops).length) c1_1] 28 (0, 0)), (nu3 0, .cells #[nI o.no, .string o.key, nI o.kind, .string o.text, nI o.n, .bool o.remove, .slice (a3_0, c3_0).fst ((List.map eDot o.dots).length) c3_0] 24 (0, 0)), (nu4 0, .cells #[nI x.place, nI t, nI o.no] 65 (0, 0))]) (fun _ => [IntKind.i64.wrap (j + (1 : Int)) = j + (1 : Int)]) (fun _ => ⟨wrap_i64 (by omega) (by omega), trivial⟩) (fun _ => ?_)
          rw [e4]
          refine J_backx ⟨j + 1, _, _, _, _, _⟩ [0, 1, 4, 5, 6, 7, 8, 9, 10, 11, 21, 22, 23, 59, 60, 61] [0, 1] [0] [0, 1, 2, 3, 4, 5] ?_ ?_ (by kernel_rfl) rfl rfl rfl
          ·exact hin _ _ hm2 rfl
          ·simp only
           omega
        ·rw [dotSet_out hmem] at hv
         cases hv
      ·have hjl : (x.ops.take j.toNat) = x.ops := List.take_of_length_le (by simp at hlt1; omega)
       rw [hjl, allDone_snoc hi0 hx] at hmj
       rw [hjl, allDone_snoc hi0 hx]
       refine J_exit rfl ?_
       refine J_eb ?_
       refine Gp mixed [.rd 0 [] 0 1, zR 1] [] [0, 1, 4, 5, 6, 7, 8, 9, 10, 11, 21, 22, 23, 59, 60, 61] (fun _ => [zV 0 (.string key), zS 1 (sA b1 off1) l.length c, zS 4 none 0 0, zV 5 .nilIface, zV 6 (.map (some (nu1 0))), zS 7 av1 k1 cv1, zI 8 i, zP 9 (nu2 0), zV 10 .nilIface, zI 11 (sumL x.when), zS 21 (sA b1 off1) l.length c, zI 22 (↑l.length : Int), zI 23 (i + 1), zS 59 a1_1 ((List.map eOp x.ops).length) c1_1, zI 60 ((↑(List.map eOp x.ops).length : Int)), zI 61 j]) (fun _ => [(nu1 0, Obj.map es1 clock1), (nu2 0, .cells #[.slice a1_0 ((List.map eI x.when).length) c1_0, nI x.place, .slice a1_1 ((List.map eOp x.ops).length) c1_1] 28 (0, 0))]) (fun _ => [IntKind.i64.wrap (i + (1 : Int)) = i + (1 : Int)]) (fun _ => ⟨wrap_i64 (by omega) (by omega), trivial⟩) (fun _ => ?_)
       refine J_backx ⟨i + 1, _, _, _, _, _⟩ [0, 1, 4, 5, 6, 7, 21, 22, 23] [0] [0] [0, 1, 2, 3] ?_ ?_ (by kernel_rfl) rfl rfl rfl
       ·refine ⟨by simp only; omega, by simp only; omega, fun q hq => ?_, hmj⟩
        by_cases hqi : q = i.toNat
        ·subst hqi
         exact comErrAt_fine hx hv2 (by rw [hfl]; exact hlen)
        ·exact hno q (by simp only at hq; omega)
       ·simp only
        omega
     ·have hit : listFault l = ⟨3, i⟩ := by rw [listFault_at hno (by omega) (comErrAt_len hx hv2 (by rw [hfl]; exact hlen)) (by decide)]; congr 1; omega
      try simp only [cAp, nAp, aNl]
      refine Gp mixed [zR 0, zR 1, zR 2, zR 3, .rd 4 [.o 1 none] 0 0, zR 5, zR 6, .rd 7 [] 0 2, zR 8, .rd 9 [.r 2 (some (.slice (a2_0, c2_0).fst ((List.map eI c0.when).length) c2_0))] 0 0, zR 10, .rd 11 [] 0 6, zR 12] [] [0, 1, 4, 5, 6, 7, 8, 9, 10, 21, 22, 23, 43] (fun _ => [zV 0 (.string key), zS 1 (sA b1 off1) l.length c, zS 4 none 0 0, zV 5 .nilIface, zV 6 (.map (some (nu1 0))), zS 7 av k cv, zI 8 i, zP 9 (nu2 0), zV 10 .nilIface, zS 21 (sA b1 off1) l.length c, zI 22 (↑l.length : Int), zI 23 i, zB 43 true]) (fun _ => [(nu1 0, Obj.map es clock), (nu2 0, .cells #[.slice a1_0 ((List.map eI x.when).length) c1_0, nI x.place, .slice a1_1 ((List.map eOp x.ops).length) c1_1] 28 (0, 0))]) (fun _ => [(0 : Int) ≤ (0 : Int), (0 : Int) < (↑l.length : Int), cs1[off1]? = some (Value.slice (a2_0, c2_0).fst (List.map eI c0.when).length (a2_0, c2_0).snd), ((↑(List.map eI x.when).length : Int) != (↑(List.map eI c0.when).length : Int)) = true]) (fun _ => ⟨by omega, by omega, hrd2_0, by simp; omega, trivial⟩) (fun _ => ?_)
      refine cTt ?_
      refine Gp mixed [.rd 0 [.r 1 (some (.iface 243 (.pointer (some (er 3)))))] 0 0, zR 1] [] [0, 1, 4, 5, 6, 7, 8, 9, 10, 21, 22, 23] (fun _ => [zV 0 (.string key), zS 1 (sA b1 off1) l.length c, zS 4 none 0 0, zV 5 .nilIface, zV 6 (.map (some (nu1 0))), zS 7 av k cv, zI 8 i, zP 9 (nu2 0), zV 10 (.iface 243 (.pointer (some (er 3)))), zS 21 (sA b1 off1) l.length c, zI 22 (↑l.length : Int), zI 23 i]) (fun _ => [(nu1 0, Obj.map es clock), (nu2 0, .cells #[.slice a1_0 ((List.map eI x.when).length) c1_0, nI x.place, .slice a1_1 ((List.map eOp x.ops).length) c1_1] 28 (0, 0))]) (fun _ => [csg2[(0 : Nat)]? = some (Value.iface (243 : Nat) (Value.pointer (some (er (3 : Nat)))))]) (fun _ => ⟨hglob2, trivial⟩) (fun _ => ?_)
      refine J_seq ?_
      refine Sq mixed [zR 0, zR 1] [] [0, 1, 4, 5, 6, 7, 8, 9, 10, 21, 22, 23, 46] (fun _ => [zV 0 (.string key), zS 1 (sA b1 off1) l.length c, zS 4 none 0 0, zV 5 .nilIface, zV 6 (.map (some (nu1 0))), zS 7 av k cv, zI 8 i, zP 9 (nu2 0), zV 10 (.iface 243 (.pointer (some (er 3)))), zS 21 (sA b1 off1) l.length c, zI 22 (↑l.length : Int), zI 23 i, zB 46 true]) (fun _ => [(nu1 0, Obj.map es clock), (nu2 0, .cells #[.slice a1_0 ((List.map eI x.when).length) c1_0, nI x.place, .slice a1_1 ((List.map eOp x.ops).length) c1_1] 28 (0, 0))]) (fun _ => ?_)
      refine cTt ?_
      refine Sq mixed [zR 0, zR 1, zR 2, .wr 3 [] 0, zR 4, zR 5, zR 6] [] [0, 1, 4, 5, 6, 7, 8, 9, 10, 21, 22, 23] (fun nu3 => [zV 0 (.string key), zS 1 (sA b1 off1) l.length c, zS 4 none 0 0, zV 5 (.iface 102 (.pointer (sA (nu3 0) 0))), zV 6 (.map (some (nu1 0))), zS 7 av k cv, zI 8 i, zP 9 (nu2 0), zV 10 (.iface 243 (.pointer (some (er 3)))), zS 21 (sA b1 off1) l.length c, zI 22 (↑l.length : Int), zI 23 i]) (fun nu3 => [(nu1 0, Obj.map es clock), (nu2 0, .cells #[.slice a1_0 ((List.map eI x.when).length) c1_0, nI x.place, .slice a1_1 ((List.map eOp x.ops).length) c1_1] 28 (0, 0)), (nu3 0, .cells #[nI i, .iface 243 (.pointer (some (er 3)))] 104 (0, 0))]) (fun nu3 => ?_)
      refine J_return [[], []] (.tuple #[.slice none 0 0, .iface 102 (.pointer (some (⟨nu3 0, 0, none⟩)))]) (by kernel_rfl) (fun a w s => ?_)
      rw [hit]
      exact .inl ⟨by simp, .inr ⟨by simp, by simp only; omega, _, ((s.share 2 rfl).stp (stp_fact fun w S H => ptr_of_obj rfl rfl (H (_, _) (List.mem_of_getElem? (i := 8) rfl)))).ret (by simp) [] [9] rfl rfl⟩⟩
    ·have hit : listFault l = ⟨(comFault x).code, i⟩ := by rw [listFault_at hno (by omega) (comErrAt_own hx hv2) hv2]; congr 1; omega
     try simp only [cAp, nAp, aNl]
     refine Gr (id := 8) (rest := []) [zR 3] [0, 1, 4, 5, 6, 7, 8, 9, 10, 21, 22, 23] (fun _ => [zV 0 (.string key), zS 1 (sA b1 off1) l.length c, zS 4 none 0 0, zV 5 .nilIface, zV 6 (.map (some (nu1 0))), zS 7 av k cv, zI 8 i, zP 9 (nu2 0), zV 10 (.iface 243 (.pointer (some (er (comFault x).code)))), zS 21 (sA b1 off1) l.length c, zI 22 (↑l.length : Int), zI 23 i]) (fun _ => [(nu1 0, Obj.map es clock), (nu2 0, .cells #[.slice a1_0 ((List.map eI x.when).length) c1_0, nI x.place, .slice a1_1 ((List.map eOp x.ops).length) c1_1] 28 (0, 0))]) (fun _ => ?_)
     refine JR_end ?_
     refine J_seq ?_
     refine Sq mixed [zR 0, zR 1, zR 2, .rd 3 [] 1 0, .rd 4 [] 1 0, .rd 5 [] 1 0, .rd 6 [] 1 0, .rd 7 [] 1 0, .rd 8 [] 1 0, .rd 9 [] 1 0, .rd 10 [] 1 0, .rd 11 [] 1 0, zR 12] [] [0, 1, 4, 5, 6, 7, 8, 9, 10, 21, 22, 23, 43] (fun _ => [zV 0 (.string key), zS 1 (sA b1 off1) l.length c, zS 4 none 0 0, zV 5 .nilIface, zV 6 (.map (some (nu1 0))), zS 7 av k cv, zI 8 i, zP 9 (nu2 0), zV 10 (.iface 243 (.pointer (some (er (comFault x).code)))), zS 21 (sA b1 off1) l.length c, zI 22 (↑l.length : Int), zI 23 i, zB 43 false]) (fun _ => [(nu1 0, Obj.map es clock), (nu2 0, .cells #[.slice a1_0 ((List.map eI x.when).length) c1_0, nI x.place, .slice a1_1 ((List.map eOp x.ops).length) c1_1] 28 (0, 0))]) (fun _ => ?_)
     refine cF ?_
     refine J_skip ?_
     refine J_seq ?_
     refine Sq mixed [zR 0, zR 1] [] [0, 1, 4, 5, 6, 7, 8, 9, 10, 21, 22, 23, 46] (fun _ => [zV 0 (.string key), zS 1 (sA b1 off1) l.length c, zS 4 none 0 0, zV 5 .nilIface, zV 6 (.map (some (nu1 0))), zS 7 av k cv, zI 8 i, zP 9 (nu2 0), zV 10 (.iface 243 (.pointer (some (er (comFault x).code)))), zS 21 (sA b1 off1) l.length c, zI 22 (↑l.length : Int), zI 23 i, zB 46 true]) (fun _ => [(nu1 0, Obj.map es clock), (nu2 0, .cells #[.slice a1_0 ((List.map eI x.when).length) c1_0, nI x.place, .slice a1_1 ((List.map eOp x.ops).length) c1_1] 28 (0, 0))]) (fun _ => ?_)
     refine cTt ?_
     refine Sq mixed [zR 0, zR 1, zR 2, .wr 3 [] 0, zR 4, zR 5, zR 6] [] [0, 1, 4, 5, 6, 7, 8, 9, 10, 21, 22, 23] (fun nu3 => [zV 0 (.string key), zS 1 (sA b1 off1) l.length c, zS 4 none 0 0, zV 5 (.iface 102 (.pointer (sA (nu3 0) 0))), zV 6 (.map (some (nu1 0))), zS 7 av k cv, zI 8 i, zP 9 (nu2 0), zV 10 (.iface 243 (.pointer (some (er (comFault x).code)))), zS 21 (sA b1 off1) l.length c, zI 22 (↑l.length : Int), zI 23 i]) (fun nu3 => [(nu1 0, Obj.map es clock), (nu2 0, .cells #[.slice a1_0 ((List.map eI x.when).length) c1_0, nI x.place, .slice a1_1 ((List.map eOp x.ops).length) c1_1] 28 (0, 0)), (nu3 0, .cells #[nI i, .iface 243 (.pointer (some (er (comFault x).code)))] 104 (0, 0))]) (fun nu3 => ?_)
     refine J_return [[], []] (.tuple #[.slice none 0 0, .iface 102 (.pointer (some (⟨nu3 0, 0, none⟩)))]) (by kernel_rfl) (fun a w s => ?_)
     rw [hit]
     exact .inl ⟨hv2, .inr ⟨by simp only; omega, by simp only; omega, _, ((s.share 2 rfl).stp (stp_fact fun w S H => ptr_of_obj rfl rfl (H (_, _) (List.mem_of_getElem? (i := 6) rfl)))).ret (by simp) [] [7] rfl rfl⟩⟩
   ·refine ⟨_, _, _, hR, ?_⟩
    have hv2 : (comFault x).code ≠ 0 := by omega
    have hit : listFault l = ⟨(comFault x).code, i⟩ := by rw [listFault_at hno (by omega) (comErrAt_own hx hv2) hv2]; congr 1; omega
    try simp only [cAp, nAp, aNl]
    refine JR_callp [] 93 #[.iface 102 (.pointer (some (⟨pb, 0, none⟩)))] (some 30) (by kernel_rfl) (fun w S hG => ?_)
    refine (bareF (hG.at 0 rfl) (hG.at 6 rfl)).mono ?_
    rintro e2 w2 hR
    refine ⟨_, _, _, hR, ?_⟩
    try simp only [cAp, nAp, aNl]
    refine Gr (id := 8) (rest := []) [zR 3] [0, 1, 4, 5, 6, 7, 8, 9, 10, 21, 22, 23] (fun _ => [zV 0 (.string key), zS 1 (sA b1 off1) l.length c, zS 4 none 0 0, zV 5 .nilIface, zV 6 (.map (some (nu1 0))), zS 7 av k cv, zI 8 i, zP 9 (nu2 0), zV 10 (.iface 243 (.pointer (some (er (comFault x).code)))), zS 21 (sA b1 off1) l.length c, zI 22 (↑l.length : Int), zI 23 i]) (fun _ => [(nu1 0, Obj.map es clock), (nu2 0, .cells #[.slice a1_0 ((List.map eI x.when).length) c1_0, nI x.place, .slice a1_1 ((List.map eOp x.ops).length) c1_1] 28 (0, 0))]) (fun _ => ?_)
    refine JR_end ?_
    refine J_seq ?_
    refine Sq mixed [zR 0, zR 1, zR 2, .rd 3 [] 1 0, .rd 4 [] 1 0, .rd 5 [] 1 0, .rd 6 [] 1 0, .rd 7 [] 1 0, .rd 8 [] 1 0, .rd 9 [] 1 0, .rd 10 [] 1 0, .rd 11 [] 1 0, zR 12] [] [0, 1, 4, 5, 6, 7, 8, 9, 10, 21, 22, 23, 43] (fun _ => [zV 0 (.string key), zS 1 (sA b1 off1) l.length c, zS 4 none 0 0, zV 5 .nilIface, zV 6 (.map (some (nu1 0))), zS 7 av k cv, zI 8 i, zP 9 (nu2 0), zV 10 (.iface 243 (.pointer (some (er (comFault x).code)))), zS 21 (sA b1 off1) l.length c, zI 22 (↑l.length : Int), zI 23 i, zB 43 false]) (fun _ => [(nu1 0, Obj.map es clock), (nu2 0, .cells #[.slice a1_0 ((List.map eI x.when).length) c1_0, nI x.place, .slice a1_1 ((List.map eOp x.ops).length) c1_1] 28 (0, 0))]) (fun _ => ?_)
    refine cF ?_
    refine J_skip ?_
    refine J_seq ?_
    refine Sq mixed [zR 0, zR 1] [] [0, 1, 4, 5, 6, 7, 8, 9, 10, 21, 22, 23, 46] (fun _ => [zV 0 (.string key), zS 1 (sA b1 off1) l.length c, zS 4 none 0 0, zV 5 .nilIface, zV 6 (.map (some (nu1 0))), zS 7 av k cv, zI 8 i, zP 9 (nu2 0), zV 10 (.iface 243 (.pointer (some (er (comFault x).code)))), zS 21 (sA b1 off1) l.length c, zI 22 (↑l.length : Int), zI 23 i, zB 46 true]) (fun _ => [(nu1 0, Obj.map es clock), (nu2 0, .cells #[.slice a1_0 ((List.map eI x.when).length) c1_0, nI x.place, .slice a1_1 ((List.map eOp x.ops).length) c1_1] 28 (0, 0))]) (fun _ => ?_)
    refine cTt ?_
    refine Sq mixed [zR 0, zR 1, zR 2, .wr 3 [] 0, zR 4, zR 5, zR 6] [] [0, 1, 4, 5, 6, 7, 8, 9, 10, 21, 22, 23] (fun nu3 => [zV 0 (.string key), zS 1 (sA b1 off1) l.length c, zS 4 none 0 0, zV 5 (.iface 102 (.pointer (sA (nu3 0) 0))), zV 6 (.map (some (nu1 0))), zS 7 av k cv, zI 8 i, zP 9 (nu2 0), zV 10 (.iface 243 (.pointer (some (er (comFault x).code)))), zS 21 (sA b1 off1) l.length c, zI 22 (↑l.length : Int), zI 23 i]) (fun nu3 => [(nu1 0, Obj.map es clock), (nu2 0, .cells #[.slice a1_0 ((List.map eI x.when).length) c1_0, nI x.place, .slice a1_1 ((List.map eOp x.ops).length) c1_1] 28 (0, 0)), (nu3 0, .cells #[nI i, .iface 243 (.pointer (some (er (comFault x).code)))] 104 (0, 0))]) (fun nu3 => ?_)
    refine J_return [[], []] (.tuple #[.slice none 0 0, .iface 102 (.pointer (some (⟨nu3 0, 0, none⟩)))]) (by kernel_rfl) (fun a w s => ?_)
    rw [hit]
    exact .inl ⟨hv2, .inr ⟨by simp only; omega, by simp only; omega, _, ((s.share 2 rfl).stp (stp_fact fun w S H => ptr_of_obj rfl rfl (H (_, _) (List.mem_of_getElem? (i := 7) rfl)))).ret (by simp) [] [8] rfl rfl⟩⟩
  ·have hil : l.take i.toNat = l := List.take_of_length_le (by simp at hlt; omega)
   rw [hil]
   have hz := listFault_none fun j hj => hno j (by simp at hlt; omega)
   have hrs := allDone_len (rights (i := l.length) (fun j hj => hno j (by simp at hlt; omega)) (Nat.le_refl _))
   rw [List.take_length] at hrs
   rw [hz]
   refine J_exit rfl ?_
   refine J_seq ?_
   refine jB mixed [(0, true), (1, false)] [] ?_
   refine Gr (id := 23) (rest := [(1, false)]) [zR 0] [4, 5, 7, 97] (fun _ => [zS 4 none 0 0, zV 5 .nilIface, zS 7 av k cv, zS 97 av k cv]) (fun _ => [(nu1 0, Obj.map es clock)]) (fun _ => ?_)
   refine JR_call [] [0] 95 #[.slice av k cv, .func (.func 96) #[] #[]] (some 98) (by kernel_rfl) (by kernel_rfl) (by decide) (fun w S M hP hG _ => ?_)
   refine (sortDoneAcc hP (by have := keyFirst_len key (allDone l); omega) (keyFirst_nodup key (allDone l))).mono ?_
   rintro e5 w5 hR
   refine ⟨_, _, _, hR, ?_⟩
   try simp only [cAp, nAp, aNl]
   refine JR_end ?_
   try simp only [cAp, nAp, aNl]
   refine J_seq ?_
   try simp only [cAp, nAp, aNl]
   refine Gq mixed [zR 0, zR 1, zR 2] [] [4, 5] (fun _ => [zS 4 av k cv, zV 5 .nilIface]) (fun _ => [(nu1 0, Obj.map es clock)]) (fun _ => ?_)
   try simp only [cAp, nAp, aNl]
   refine J_return [[], []] (.tuple #[.slice av k cv, .nilIface]) (by kernel_rfl) (fun a w s => ?_)
   have s2 := s.stp (stp_freeze 0 rfl)
   exact .inr ⟨trivial, _, _, _, s2.ret (by simp) [] [4] rfl rfl⟩
end Go.Proofs.YtpjkiomccpjboaaGreatDoor
end
section
namespace Go.Proofs.YtpjkiomccpjboaaGreatDoor
open Go Go.Sx
theorem len1 {α : Type} {l : List α} (h : l.length = 1) : ∃ x, l = [x] := by
 match l, h with
 | [x], _ => exact ⟨x, rfl⟩
theorem cloneDone {w0 : World} {S : Nat → Prop} {a : Option Addr} {n c : Nat} {xs : List DoneT} (ha : Rep w0 S (.slice a n c) (.sl 11 (xs.map eDone))) (hl : xs.length ≤ 4000000) :
  Calls Tryz.prog 98 #[.slice a n c] w0 fun e w' => ∃ a' c', Ret [] w0 S w' e (.slice a' n c') [cAcc (.slice a' n c') 112 11 (xs.map eDone)] [] := by
 have hlen := ha.slen
 rw [List.length_map] at hlen
 subst hlen
 cases a with
 | none =>
  have h0 : xs = [] := by simpa using rep_none ha
  subst h0
  refine ep98 (args := [.slice none ([] : List DoneT).length c]) (S := S) (G := []) (by kernel_rfl) (.nil _ _) ?_
  refine J_stp (stp_accm eDone 112 11) ?_
  try simp only [cAp, nAp, aNl]
  refine Sq mixed [zR 0] [] [0, 2] (fun _ => [zS 0 none 0 c, zS 2 none 0 0]) (fun _ => []) (fun _ => ?_)
  refine J_seq ?_
  refine Sq mixed [zR 0, zR 1] [] [0, 2, 4] (fun _ => [zS 0 none 0 c, zS 2 none 0 0, zB 4 true]) (fun _ => []) (fun _ => ?_)
  refine cTt ?_
  refine Sq mixed [zR 0] [] [0, 2] (fun _ => [zS 0 none 0 c, zS 2 none 0 0]) (fun _ => []) (fun _ => ?_)
  refine J_return [[]] (.slice none 0 0) (by kernel_rfl) (fun a w s => ?_)
  exact ⟨none, 0, s.ret (by simp) [0] [] rfl rfl⟩
 | some ad =>
  refine ep98 (args := [.slice (some ad) xs.length c]) (G := [(_, .sl 11 (xs.map eDone))]) (by kernel_rfl) (.cons ha (.nil _ _)) ?_
  refine Sq mixed [zR 0] [] [0, 2] (fun _ => [zS 0 (some ad) xs.length c, zS 2 none 0 0]) (fun _ => []) (fun _ => ?_)
  refine J_seq ?_
  refine Sq mixed [zR 0, zR 1] [] [0, 2, 4] (fun _ => [zS 0 (some ad) xs.length c, zS 2 none 0 0, zB 4 false]) (fun _ => []) (fun _ => ?_)
  refine cF ?_
  refine J_skip ?_
  refine J_seq ?_
  refine jB mixed [(0, false), (1, true), (2, false), (3, true)] [] ?_
  refine Gr (id := 3) (rest := [(2, false), (3, true)]) [.wr 0 [] 0, zR 1] [2, 5, 6] (fun nu1 => [zS 2 none 0 0, zS 5 (sA (nu1 0) 0) 0 0, zS 6 (some ad) xs.length c]) (fun nu1 => [(nu1 0, .cells #[] 112 (0, 0))]) (fun nu1 => ?_)
  refine JR_acczm eDone 0 11 rfl (by kernel_rfl) (by decide) ?_
  refine JR_appm 0 106 112 11 120 (.agg #[.int .i64 0, .string (ByteArray.mk #[]), .int .i64 0, .string (ByteArray.mk #[]), .int .i64 0, .bool false, .slice none 0 0, .int .i64 0, .int .i64 0, .int .i64 0, .int .i64 0]) (a0 := (some (⟨nu1 0, 0, none⟩))) (len := 0) (cap0 := 0) (ax := (some ad)) (m := xs.length) (c := c) (dst := (some 7)) xs (by kernel_rfl) (by kernel_rfl) (by kernel_rfl) (by kernel_rfl) rfl (by decide) rfl (fun _ _ _ s => src_fact s 0 rfl (by decide)) (by simp only [maxLen]; omega) (by omega) (fun av1 cv1 => ?_)
  rw [Nat.zero_add]
  try simp only [cAp, nAp, aNl]
  refine Gr (id := 3) (rest := []) [zR 3] [2] (fun _ => [zS 2 av1 xs.length cv1]) (fun _ => []) (fun _ => ?_)
  try simp only [cAp, nAp, aNl]
  refine JR_end ?_
  try simp only [cAp, nAp, aNl]
  refine J_return [[]] (.slice av1 xs.length cv1) (by kernel_rfl) (fun a w s => ?_)
  exact ⟨_, _, s.ret (by simp) [0] [] rfl rfl⟩
theorem kind1 {w : World} {S : Nat → Prop} {m : DoneT} {v1 : Value} {seq : Int} {b : Nat} (o1 : v1.oneCell' = true) (h : Rep w S (.pointer (some ⟨b, 0, none⟩)) (.ptr [.v (.int .i64 seq)])) : Calls Tryz.prog 99 #[doneA m v1, .pointer (some ⟨b, 0, none⟩)] w fun e w' => Ret [] w S w' e (.bool (!decide (m.o.kind = seq))) [] [] := by
 refine ep99 (args := [doneA m v1, .pointer (some ⟨b, 0, none⟩)]) (G := [(_, .ptr [.v (.int .i64 seq)])]) (by kernel_rfl) (.cons h (.nil _ _)) ?_
 refine J_glob 0 rfl (fun csg1 tyg1 fzg1 hglob1 => ?_)
 refine Sq mixed [.wr 0 [] 0, zR 1] [] [1, 2, 3] (fun nu1 => [zP 1 b, zP 2 (nu1 0), zB 3 false]) (fun nu1 => [(nu1 0, .cells #[nI m.o.no, .string m.o.key, nI m.o.kind, .string m.o.text, nI m.o.n, .bool m.o.remove, v1, nI m.d.place, nI m.d.time, nI m.d.no, nI m.w] 112 (0, 0))]) (fun nu1 => ?_)
 refine Sp mixed [zR 0, zR 1, .rd 2 [.o 0 none] 0 0, .rd 3 [.r 0 (some (nI seq))] 0 0, zR 4, zR 5] [] [3] (fun _ => [zB 3 (m.o.kind != seq)]) (fun _ => [(nu1 0, .cells #[nI m.o.no, .string m.o.key, nI m.o.kind, .string m.o.text, nI m.o.n, .bool m.o.remove, v1, nI m.d.place, nI m.d.time, nI m.d.no, nI m.w] 112 (0, 0))]) (fun _ => [csg1[(0 : Nat)]? = some (nI seq)]) (fun _ => ⟨hglob1, trivial⟩) (fun _ => ?_)
 refine J_return [[]] (.bool (m.o.kind != seq)) (by kernel_rfl) (fun a w s => ?_)
 all_goals first | assumption | exact s.ret (by simp) [] [] rfl rfl
theorem indexKind {w : World} {S : Nat → Prop} {M : List Nat} {a : Option Addr} {n c : Nat} {L : List DoneT} {seq : Int} {b : Nat} (hP : Pre w S M [cAcc (.slice a n c) 112 11 (L.map eDone)]) (hl : L.length ≤ 4000000) (h : Rep w S (.pointer (some ⟨b, 0, none⟩)) (.ptr [.v (.int .i64 seq)])) :
  Calls Tryz.prog 123 #[.slice a n c, .func (.func 99) #[] #[.pointer (some ⟨b, 0, none⟩)]] w fun e w' => ∃ r : Int, Ret M w S w' e (.int .i64 r) [cAcc (.slice a n c) 112 11 (L.map eDone)] [] ∧
   ((r = -1 ∧ ∀ x ∈ L, x.o.kind = seq) ∨ (0 ≤ r ∧ r < L.length ∧ (∃ x, L[r.toNat]? = some x ∧ ¬ x.o.kind = seq) ∧ ∀ x ∈ L.take r.toNat, x.o.kind = seq)) := by
 refine en123 (args := [.slice a n c, .func (.func 99) #[] #[.pointer (some ⟨b, 0, none⟩)]]) (S := S) (C := [cAcc (.slice a n c) 112 11 (L.map eDone)]) (G := [(_, .ptr [.v (.int .i64 seq)])]) (by kernel_rfl) hP (.cons h (.nil _ _)) ?_
 refine J_stpx (stp_acclen 0 rfl) fun _ hk => ?_
 rw [List.length_map] at hk
 subst hk
 refine Sq mixed [zR 0] [] [0, 1, 4] (fun _ => [zS 0 a L.length c, zV 1 (.func (.func 99) #[] #[.pointer (sA b 0)]), zI 4 0]) (fun _ => []) (fun _ => ?_)
 refine J_seq ?_
 refine Sq mixed [zR 0, zR 1, zR 2] [] [0, 1, 4, 7, 8] (fun _ => [zS 0 a L.length c, zV 1 (.func (.func 99) #[] #[.pointer (sA b 0)]), zI 4 0, zI 7 (↑L.length : Int), zI 8 0]) (fun _ => []) (fun _ => ?_)
 refine J_block ?_
 refine J_loopx (fun i : Int => [zS 0 a L.length c, zV 1 (.func (.func 99) #[] #[.pointer (sA b 0)]), zI 4 0, zI 7 (↑L.length : Int), zI 8 i]) (fun i : Int => []) (fun i : Int => [cAcc (.slice a L.length c) 112 11 (L.map eDone)]) (fun i : Int => [(.pointer (sA b 0), (D.ptr [D.v (nI seq)]))]) (fun i : Int => (L.length - i).toNat) (fun i : Int => (0 ≤ i ∧ i ≤ L.length ∧ ∀ x ∈ L.take i.toNat, x.o.kind = seq)) 0 [0, 1, 4, 7, 8] [] [0] [0] ?_ (by kernel_rfl) rfl rfl rfl ?_
 ·exact ⟨by simp, by omega, by simp⟩
 rintro i ⟨hi0, hi, hno⟩
 refine Sq mixed [zR 0] [] [0, 1, 4, 7, 8, 9] (fun _ => [zS 0 a L.length c, zV 1 (.func (.func 99) #[] #[.pointer (sA b 0)]), zI 4 0, zI 7 (↑L.length : Int), zI 8 i, zB 9 (decide (i < (↑L.length : Int)))]) (fun _ => []) (fun _ => ?_)
 refine J_seq ?_
 refine cC (t := decide (i < (↑L.length : Int))) (fun hlt => ?_) (fun hlt => ?_)
 ·have hlt2 : i < L.length := by simpa using hlt
  obtain ⟨x, hx⟩ : ∃ x, L[i.toNat]? = some x := ⟨_, List.getElem?_eq_getElem (by omega)⟩
  refine J_openacc 0 rfl (by intro h0; rw [List.map_eq_nil_iff] at h0; rw [h0] at hx; simp at hx) fun g cur xs hu _ _ hrow => ?_
  subst hu
  refine J_stpx (stp_readrows 0 rfl i.toNat (map_at hx)) fun ls hls => ?_
  obtain ⟨hls1, hls2⟩ := hls
  obtain ⟨⟨xa, xc⟩, rfl⟩ : ∃ l0, ls = [l0] := len1 hls1
  have f := fun (j : Nat) v h => hrow.atx (hls2 j v h)
  have r0 : cur[0 + i.toNat * 11]? = some (.int .i64 x.o.no) := by rw [Nat.zero_add]; exact f 0 _ rfl
  have r1 : cur[0 + i.toNat * 11 + 1]? = some (.string x.o.key) := by rw [Nat.zero_add]; exact f 1 _ rfl
  have r2 : cur[0 + i.toNat * 11 + 2]? = some (.int .i64 x.o.kind) := by rw [Nat.zero_add]; exact f 2 _ rfl
  have r3 : cur[0 + i.toNat * 11 + 3]? = some (.string x.o.text) := by rw [Nat.zero_add]; exact f 3 _ rfl
  have r4 : cur[0 + i.toNat * 11 + 4]? = some (.int .i64 x.o.n) := by rw [Nat.zero_add]; exact f 4 _ rfl
  have r5 : cur[0 + i.toNat * 11 + 5]? = some (.bool x.o.remove) := by rw [Nat.zero_add]; exact f 5 _ rfl
  have r6 : cur[0 + i.toNat * 11 + 6]? = some (.slice xa (x.o.dots.map eDot).length xc) := by rw [Nat.zero_add]; exact f 6 _ rfl
  have r7 : cur[0 + i.toNat * 11 + 7]? = some (.int .i64 x.d.place) := by rw [Nat.zero_add]; exact f 7 _ rfl
  have r8 : cur[0 + i.toNat * 11 + 8]? = some (.int .i64 x.d.time) := by rw [Nat.zero_add]; exact f 8 _ rfl
  have r9 : cur[0 + i.toNat * 11 + 9]? = some (.int .i64 x.d.no) := by rw [Nat.zero_add]; exact f 9 _ rfl
  have r10 : cur[0 + i.toNat * 11 + 10]? = some (.int .i64 x.w) := by rw [Nat.zero_add]; exact f 10 _ rfl
  try simp only [cAp, nAp, aNl]
  refine J_skip ?_
  try simp only [cAp, nAp, aNl]
  refine J_seq ?_
  try simp only [cAp, nAp, aNl]
  refine J_block ?_
  try simp only [cAp, nAp, aNl]
  refine J_seq ?_
  try simp only [cAp, nAp, aNl]
  refine Gq mixed [zR 0, zR 1] [] [0, 1, 4, 5, 7, 8] (fun _ => [zS 0 (sA g 0) L.length c, zV 1 (.func (.func 99) #[] #[.pointer (sA b 0)]), zI 4 0, zI 5 i, zI 7 (↑L.length : Int), zI 8 i]) (fun _ => [(g, .cells cur 112 (0, 0))]) (fun _ => ?_)
  try simp only [cAp, nAp, aNl]
  refine J_seq ?_
  try simp only [cAp, nAp, aNl]
  refine jB mixed [(0, true), (1, true), (2, true), (3, true), (4, true), (5, false)] [] ?_
  refine Gs (id := 4) (rest := [(5, false)]) [zR 0, zR 1, zR 2, .rd 3 [] 0 2, .rd 4 [.o 0 (some (nI x.o.no)), .o 0 (some (.string x.o.key)), .o 0 (some (nI x.o.kind)), .o 0 (some (.string x.o.text)), .o 0 (some (nI x.o.n)), .o 0 (some (.bool x.o.remove)), .o 0 (some (.slice xa ((List.map eDot x.o.dots).length) xc)), .o 0 (some (nI x.d.place)), .o 0 (some (nI x.d.time)), .o 0 (some (nI x.d.no)), .o 0 (some (nI x.w))] 0 0] [0, 1, 4, 5, 7, 8, 11, 15] (fun _ => [zS 0 (sA g 0) L.length c, zV 1 (.func (.func 99) #[] #[.pointer (sA b 0)]), zI 4 0, zI 5 i, zI 7 (↑L.length : Int), zI 8 i, zV 11 (.func (.func 99) #[] #[.pointer (sA b 0)]), zV 15 (.agg #[nI x.o.no, .string x.o.key, nI x.o.kind, .string x.o.text, nI x.o.n, .bool x.o.remove, .slice xa ((List.map eDot x.o.dots).length) xc, nI x.d.place, nI x.d.time, nI x.d.no, nI x.w])]) (fun _ => [(g, .cells cur 112 (0, 0))]) (fun _ => [(0 : Int) ≤ i, i < (↑L.length : Int), cur[(0 : Nat) + i.toNat * (11 : Nat)]? = some (nI x.o.no), cur[(0 : Nat) + i.toNat * (11 : Nat) + (1 : Nat)]? = some (Value.string x.o.key), cur[(0 : Nat) + i.toNat * (11 : Nat) + (2 : Nat)]? = some (nI x.o.kind), cur[(0 : Nat) + i.toNat * (11 : Nat) + (3 : Nat)]? = some (Value.string x.o.text), cur[(0 : Nat) + i.toNat * (11 : Nat) + (4 : Nat)]? = some (nI x.o.n), cur[(0 : Nat) + i.toNat * (11 : Nat) + (5 : Nat)]? = some (Value.bool x.o.remove), cur[(0 : Nat) + i.toNat * (11 : Nat) + (6 : Nat)]? = some (Value.slice xa (List.map eDot x.o.dots).length xc), cur[(0 : Nat) + i.toNat * (11 : Nat) + (7 : Nat)]? = some (nI x.d.place), cur[(0 : Nat) + i.toNat * (11 : Nat) + (8 : Nat)]? = some (nI x.d.time), cur[(0 : Nat) + i.toNat * (11 : Nat) + (9 : Nat)]? = some (nI x.d.no), cur[(0 : Nat) + i.toNat * (11 : Nat) + (10 : Nat)]? = some (nI x.w)]) (fun _ => ⟨hi0, hlt2, r0, r1, r2, r3, r4, r5, r6, r7, r8, r9, r10, trivial⟩) (fun _ => ?_)
  refine JR_callp [] 99 #[.agg #[.int .i64 x.o.no, .string x.o.key, .int .i64 x.o.kind, .string x.o.text, .int .i64 x.o.n, .bool x.o.remove, .slice xa ((List.map eDot x.o.dots).length) xc, .int .i64 x.d.place, .int .i64 x.d.time, .int .i64 x.d.no, .int .i64 x.w], .pointer (some (⟨b, 0, none⟩))] (some 16) (by kernel_rfl) (fun w S hG => ?_)
  refine (kind1 (m := x) rfl (hG.at 0 rfl)).mono ?_
  rintro e w2 hR
  refine ⟨_, _, _, hR, ?_⟩
  try simp only [cAp, nAp, aNl]
  refine JR_end ?_
  try simp only [cAp, nAp, aNl]
  refine J_hide 0 rfl ?_
  refine J_stp (stp_closeacc 1 0 rfl rfl hrow (by decide)) ?_
  rw [show (List.map eDone L).length = L.length from List.length_map ..]
  refine cC (t := !decide (x.o.kind = seq)) (fun hb => ?_) (fun hb => ?_)
  ·try simp only [List.cons_append, List.nil_append, List.append_nil]
   refine J_seq ?_
   try simp only [cAp, nAp, aNl]
   refine Gq mixed [zR 0, zR 1] [] [0, 1, 4, 5, 7, 8, 11, 15] (fun _ => [zS 0 (sA g 0) L.length c, zV 1 (.func (.func 99) #[] #[.pointer (sA b 0)]), zI 4 i, zI 5 i, zI 7 (↑L.length : Int), zI 8 i, zV 11 (.func (.func 99) #[] #[.pointer (sA b 0)]), zV 15 (.agg #[nI x.o.no, .string x.o.key, nI x.o.kind, .string x.o.text, nI x.o.n, .bool x.o.remove, .slice xa ((List.map eDot x.o.dots).length) xc, nI x.d.place, nI x.d.time, nI x.d.no, nI x.w])]) (fun _ => []) (fun _ => ?_)
   try simp only [cAp, nAp, aNl]
   refine J_return [[]] (.int .i64 i) (by kernel_rfl) (fun a w s => ?_)
   exact ⟨i, s.ret (by simp) [0] [] rfl rfl, .inr ⟨hi0, hlt2, ⟨x, hx, by simpa using hb⟩, hno⟩⟩
  ·try simp only [List.cons_append, List.nil_append, List.append_nil]
   refine J_skip ?_
   try simp only [cAp, nAp, aNl]
   refine J_eb ?_
   try simp only [cAp, nAp, aNl]
   refine Gp mixed [.rd 0 [] 0 1, zR 1] [] [0, 1, 4, 5, 7, 8, 11, 15] (fun _ => [zS 0 (sA g 0) L.length c, zV 1 (.func (.func 99) #[] #[.pointer (sA b 0)]), zI 4 0, zI 5 i, zI 7 (↑L.length : Int), zI 8 (i + 1), zV 11 (.func (.func 99) #[] #[.pointer (sA b 0)]), zV 15 (.agg #[nI x.o.no, .string x.o.key, nI x.o.kind, .string x.o.text, nI x.o.n, .bool x.o.remove, .slice xa ((List.map eDot x.o.dots).length) xc, nI x.d.place, nI x.d.time, nI x.d.no, nI x.w])]) (fun _ => []) (fun _ => [IntKind.i64.wrap (i + (1 : Int)) = i + (1 : Int)]) (fun _ => ⟨wrap_i64 (by omega) (by omega), trivial⟩) (fun _ => ?_)
   try simp only [cAp, nAp, aNl]
   refine J_backx (i + 1) [0, 1, 4, 7, 8] [] [0] [0] ?_ ?_ (by kernel_rfl) rfl rfl rfl
   ·refine ⟨by omega, by omega, fun y hy => ?_⟩
    rw [← take_snoc hi0 hx, List.mem_append, List.mem_singleton] at hy
    rcases hy with hy | rfl
    ·exact hno y hy
    ·simpa using hb
   ·omega
 ·have e : List.take i.toNat L = L := List.take_of_length_le (by simp at hlt; omega)
  rw [e] at hno
  refine J_exit rfl ?_
  refine Sq mixed [zR 0] [] [4] (fun _ => [zI 4 (-1)]) (fun _ => []) (fun _ => ?_)
  refine J_return [[]] (.int .i64 (-1)) (by kernel_rfl) (fun a w s => ?_)
  exact ⟨-1, s.ret (by simp) [0] [] rfl rfl, .inl ⟨rfl, hno⟩⟩
def keepK (L : List DoneT) (seq : Int) : List DoneT := L.filter fun m => decide (m.o.kind = seq)
theorem keepK_all {L : List DoneT} {seq : Int} (h : ∀ x ∈ L, x.o.kind = seq) : keepK L seq = L := List.filter_eq_self.2 fun x hx => by simpa using h x hx
theorem keepK_snoc {L : List DoneT} {seq : Int} {x : DoneT} : keepK (L ++ [x]) seq = keepK L seq ++ if x.o.kind = seq then [x] else [] := by
 unfold keepK
 rw [List.filter_append]
 congr 1
 by_cases h : x.o.kind = seq <;> simp [h]
theorem set_takeK {L : List DoneT} {i : Nat} {x : DoneT} (hi : i < L.length) : (L.set i x).take (i + 1) = L.take i ++ [x] := by
 rw [List.take_add_one, List.take_set_of_le (Nat.le_refl _)]
 simp [hi]
theorem set_dropK {L : List DoneT} {i j : Nat} {x : DoneT} (hi : i < j) : (L.set i x).drop j = L.drop j := List.drop_set_of_lt hi
structure DelSK where
 i : Int
 j : Int
 cur : Array Value
 xs : List Value
 Lc : List DoneT
structure DelInvK (L : List DoneT) (seq : Int) (i j : Int) (Lc : List DoneT) : Prop where
 len : Lc.length = L.length
 take : Lc.take i.toNat = keepK (L.take j.toNat) seq
 drop : Lc.drop j.toNat = L.drop j.toNat
theorem DelInvK.at {L Lc : List DoneT} {seq i j : Int} {x : DoneT} (h : DelInvK L seq i j Lc) (hx : L[j.toNat]? = some x) : Lc[j.toNat]? = some x := by
 have h1 : (Lc.drop j.toNat)[0]? = (L.drop j.toNat)[0]? := by rw [h.drop]
 rw [List.getElem?_drop, List.getElem?_drop, Nat.add_zero] at h1
 rw [h1, hx]
theorem DelInvK.skip {L Lc : List DoneT} {seq i j : Int} {x : DoneT} (h : DelInvK L seq i j Lc) (hj : 0 ≤ j) (hx : L[j.toNat]? = some x) (hk : ¬ x.o.kind = seq) : DelInvK L seq i (j + 1) Lc := by
 refine ⟨h.len, ?_, ?_⟩
 ·rw [h.take, ← take_snoc hj hx, keepK_snoc, if_neg hk, List.append_nil]
 ·rw [show (j + 1).toNat = j.toNat + 1 by omega, ← List.drop_drop, ← List.drop_drop, h.drop]
theorem DelInvK.keep {L Lc : List DoneT} {seq i j : Int} {x : DoneT} (h : DelInvK L seq i j Lc) (hi : 0 ≤ i) (hij : i < j) (hj : j < L.length) (hx : L[j.toNat]? = some x) (hk : x.o.kind = seq) : DelInvK L seq (i + 1) (j + 1) (Lc.set i.toNat x) := by
 refine ⟨by rw [List.length_set]; exact h.len, ?_, ?_⟩
 ·rw [show (i + 1).toNat = i.toNat + 1 by omega, set_takeK (by have := h.len; omega), h.take, ← take_snoc (by omega) hx, keepK_snoc, if_pos hk]
 ·rw [set_dropK (by omega), show (j + 1).toNat = j.toNat + 1 by omega, ← List.drop_drop, ← List.drop_drop, h.drop]
set_option maxHeartbeats 4000000 in
theorem deleteKind {w : World} {S : Nat → Prop} {M : List Nat} {a : Option Addr} {n c : Nat} {L : List DoneT} {seq : Int} {b : Nat} (hP : Pre w S M [cAcc (.slice a n c) 112 11 (L.map eDone)]) (hl : L.length ≤ 4000000) (h : Rep w S (.pointer (some ⟨b, 0, none⟩)) (.ptr [.v (.int .i64 seq)])) :
  Calls Tryz.prog 97 #[.slice a n c, .func (.func 99) #[] #[.pointer (some ⟨b, 0, none⟩)]] w fun e w' => ∃ a' n' c', Ret M w S w' e (.slice a' n' c') [cAcc (.slice a' n' c') 112 11 ((keepK L seq).map eDone)] [] := by
 refine en97 (args := [.slice a n c, .func (.func 99) #[] #[.pointer (some ⟨b, 0, none⟩)]]) (S := S) (C := [cAcc (.slice a n c) 112 11 (L.map eDone)]) (G := [(_, .ptr [.v (.int .i64 seq)])]) (by kernel_rfl) hP (.cons h (.nil _ _)) ?_
 refine J_stpx (stp_acclen 0 rfl) fun _ hk => ?_
 rw [List.length_map] at hk
 subst hk
 refine Sq mixed [zR 0] [] [0, 1, 4] (fun _ => [zS 0 a L.length c, zV 1 (.func (.func 99) #[] #[.pointer (sA b 0)]), zS 4 none 0 0]) (fun _ => []) (fun _ => ?_)
 refine J_seq ?_
 refine jB mixed [(0, true), (1, true), (2, false), (3, true)] [] ?_
 refine Gr (id := 1) (rest := [(2, false), (3, true)]) [zR 0, zR 1] [0, 1, 4, 8, 9] (fun _ => [zS 0 a L.length c, zV 1 (.func (.func 99) #[] #[.pointer (sA b 0)]), zS 4 none 0 0, zS 8 a L.length c, zV 9 (.func (.func 99) #[] #[.pointer (sA b 0)])]) (fun _ => []) (fun _ => ?_)
 refine JR_call [] [0] 123 #[.slice a L.length c, .func (.func 99) #[] #[.pointer (some (⟨b, 0, none⟩))]] (some 10) (by kernel_rfl) (by kernel_rfl) (by decide) (fun w S M hP hG _ => ?_)
 refine (indexKind hP hl (hG.at 0 rfl)).mono ?_
 rintro e1 w1 ⟨r, hR, hr⟩
 refine ⟨_, _, _, hR, ?_⟩
 obtain ⟨rfl, hall⟩ | ⟨hr0, hr1, ⟨y, hy, hys⟩, hrn⟩ := hr
 ·try simp only [List.cons_append, List.nil_append, List.append_nil]
  refine Gr (id := 1) (rest := []) [zR 3] [0, 1, 4, 5] (fun _ => [zS 0 a L.length c, zV 1 (.func (.func 99) #[] #[.pointer (sA b 0)]), zS 4 none 0 0, zI 5 (-1)]) (fun _ => []) (fun _ => ?_)
  try simp only [cAp, nAp, aNl]
  refine JR_end ?_
  try simp only [cAp, nAp, aNl]
  refine J_seq ?_
  try simp only [cAp, nAp, aNl]
  refine J_seq ?_
  try simp only [cAp, nAp, aNl]
  refine Gq mixed [zR 0, zR 1] [] [0, 1, 4, 5, 12] (fun _ => [zS 0 a L.length c, zV 1 (.func (.func 99) #[] #[.pointer (sA b 0)]), zS 4 none 0 0, zI 5 (-1), zB 12 true]) (fun _ => []) (fun _ => ?_)
  try simp only [cAp, nAp, aNl]
  refine cTt ?_
  try simp only [cAp, nAp, aNl]
  refine J_seq ?_
  try simp only [cAp, nAp, aNl]
  refine Gq mixed [zR 0, zR 1] [] [0, 1, 4, 5] (fun _ => [zS 0 a L.length c, zV 1 (.func (.func 99) #[] #[.pointer (sA b 0)]), zS 4 a L.length c, zI 5 (-1)]) (fun _ => []) (fun _ => ?_)
  try simp only [cAp, nAp, aNl]
  refine J_return [[]] (.slice a L.length c) (by kernel_rfl) (fun a w s => ?_)
  rw [keepK_all hall]
  exact ⟨_, _, _, s.ret (by simp) [0] [] rfl rfl⟩
 ·have hrm : ¬ r = -1 := by omega
  try simp only [cAp, nAp, aNl]
  refine Gr (id := 1) (rest := []) [zR 3] [0, 1, 4, 5] (fun _ => [zS 0 a L.length c, zV 1 (.func (.func 99) #[] #[.pointer (sA b 0)]), zS 4 none 0 0, zI 5 r]) (fun _ => []) (fun _ => ?_)
  try simp only [cAp, nAp, aNl]
  refine JR_end ?_
  try simp only [cAp, nAp, aNl]
  refine J_seq ?_
  try simp only [cAp, nAp, aNl]
  refine J_seq ?_
  try simp only [cAp, nAp, aNl]
  refine Gp mixed [zR 0, .rd 1 [] 0 7] [] [0, 1, 4, 5, 12] (fun _ => [zS 0 a L.length c, zV 1 (.func (.func 99) #[] #[.pointer (sA b 0)]), zS 4 none 0 0, zI 5 r, zB 12 false]) (fun _ => []) (fun _ => [(r == (-1 : Int)) = false]) (fun _ => ⟨by simp; omega, trivial⟩) (fun _ => ?_)
  try simp only [cAp, nAp, aNl]
  refine cF ?_
  try simp only [cAp, nAp, aNl]
  refine J_skip ?_
  try simp only [cAp, nAp, aNl]
  refine J_seq ?_
  try simp only [cAp, nAp, aNl]
  refine J_seq ?_
  try simp only [cAp, nAp, aNl]
  refine Gp mixed [zR 0, .rd 1 [] 0 1, zR 2] [] [0, 1, 4, 5, 6] (fun _ => [zS 0 a L.length c, zV 1 (.func (.func 99) #[] #[.pointer (sA b 0)]), zS 4 none 0 0, zI 5 r, zI 6 (r + 1)]) (fun _ => []) (fun _ => [IntKind.i64.wrap (r + (1 : Int)) = r + (1 : Int)]) (fun _ => ⟨wrap_i64 (by omega) (by omega), trivial⟩) (fun _ => ?_)
  try simp only [cAp, nAp, aNl]
  refine J_block ?_
  try simp only [cAp, nAp, aNl]
  refine J_openacc 0 rfl (by intro h0; rw [List.map_eq_nil_iff] at h0; rw [h0] at hy; simp at hy) fun g cur0 xs0 hu _ _ hrow0 => ?_
  subst hu
  rw [List.length_map] at hrow0
  have hcap : L.length ≤ c := hrow0.le
  have hk0 : (L.take (r + 1).toNat).filter (fun m => decide (m.o.kind = seq)) = L.take r.toNat := by
   have := keepK_snoc (L := L.take r.toNat) (seq := seq) (x := y)
   rw [take_snoc hr0 hy, keepK_all hrn, if_neg hys, List.append_nil] at this
   exact this
  refine J_loopx (fun x : DelSK => [zS 0 (sA g 0) L.length c, zV 1 (.func (.func 99) #[] #[.pointer (sA b 0)]), zS 4 none 0 0, zI 5 x.i, zI 6 x.j]) (fun x : DelSK => [(g, .cells x.cur 112 (0, 0))]) (fun x : DelSK => [cRows x.xs 11 (x.Lc.map eDone)]) (fun x : DelSK => [(.pointer (sA b 0), (D.ptr [D.v (nI seq)]))]) (fun x : DelSK => (L.length - x.j).toNat) (fun x : DelSK => (0 ≤ x.i ∧ x.i < x.j ∧ x.j ≤ L.length ∧ Row x.cur c L.length 11 x.xs ∧ DelInvK L seq x.i x.j x.Lc)) ⟨r, r + 1, cur0, xs0, L⟩ [0, 1, 4, 5, 6] [0] [0] [0] ?_ (by kernel_rfl) rfl rfl rfl ?_
  ·exact ⟨hr0, by simp only; omega, by simp only; omega, hrow0, ⟨rfl, hk0.symm, rfl⟩⟩
  rintro ⟨i, j, cu, xs, Lc⟩ ⟨hi0, hij, hj, hrow, hinv⟩
  dsimp only at hi0 hij hj hrow hinv ⊢
  refine J_seq ?_
  refine Sq mixed [zR 0, zR 1, zR 2, zR 3] [] [0, 1, 4, 5, 6, 19] (fun _ => [zS 0 (sA g 0) L.length c, zV 1 (.func (.func 99) #[] #[.pointer (sA b 0)]), zS 4 none 0 0, zI 5 i, zI 6 j, zB 19 (decide (j < (↑L.length : Int)))]) (fun _ => [(g, .cells cu 112 (0, 0))]) (fun _ => ?_)
  refine cC (t := decide (j < (↑L.length : Int))) (fun hlt => ?_) (fun hlt => ?_)
  ·have hlt2 : j < L.length := by simpa using hlt
   obtain ⟨x, hx⟩ : ∃ x, L[j.toNat]? = some x := ⟨_, List.getElem?_eq_getElem (by omega)⟩
   have hxc := hinv.at hx
   refine J_stpx (stp_readrows 0 rfl j.toNat (map_at hxc)) fun ls hls => ?_
   obtain ⟨hls1, hls2⟩ := hls
   obtain ⟨⟨xa, xc⟩, rfl⟩ : ∃ l0, ls = [l0] := len1 hls1
   have f := fun (j : Nat) v h => hrow.atx (hls2 j v h)
   have r0 : cu[0 + j.toNat * 11]? = some (.int .i64 x.o.no) := by rw [Nat.zero_add]; exact f 0 _ rfl
   have r1 : cu[0 + j.toNat * 11 + 1]? = some (.string x.o.key) := by rw [Nat.zero_add]; exact f 1 _ rfl
   have r2 : cu[0 + j.toNat * 11 + 2]? = some (.int .i64 x.o.kind) := by rw [Nat.zero_add]; exact f 2 _ rfl
   have r3 : cu[0 + j.toNat * 11 + 3]? = some (.string x.o.text) := by rw [Nat.zero_add]; exact f 3 _ rfl
   have r4 : cu[0 + j.toNat * 11 + 4]? = some (.int .i64 x.o.n) := by rw [Nat.zero_add]; exact f 4 _ rfl
   have r5 : cu[0 + j.toNat * 11 + 5]? = some (.bool x.o.remove) := by rw [Nat.zero_add]; exact f 5 _ rfl
   have r6 : cu[0 + j.toNat * 11 + 6]? = some (.slice xa (x.o.dots.map eDot).length xc) := by rw [Nat.zero_add]; exact f 6 _ rfl
   have r7 : cu[0 + j.toNat * 11 + 7]? = some (.int .i64 x.d.place) := by rw [Nat.zero_add]; exact f 7 _ rfl
   have r8 : cu[0 + j.toNat * 11 + 8]? = some (.int .i64 x.d.time) := by rw [Nat.zero_add]; exact f 8 _ rfl
   have r9 : cu[0 + j.toNat * 11 + 9]? = some (.int .i64 x.d.no) := by rw [Nat.zero_add]; exact f 9 _ rfl
   have r10 : cu[0 + j.toNat * 11 + 10]? = some (.int .i64 x.w) := by rw [Nat.zero_add]; exact f 10 _ rfl
   try simp only [cAp, nAp, aNl]
   refine J_skip ?_
   refine J_seq ?_
   refine J_block ?_
   refine Sp mixed [zR 0, zR 1, .rd 2 [] 0 2, .rd 3 [.o 0 (some (nI x.o.no)), .o 0 (some (.string x.o.key)), .o 0 (some (nI x.o.kind)), .o 0 (some (.string x.o.text)), .o 0 (some (nI x.o.n)), .o 0 (some (.bool x.o.remove)), .o 0 (some (.slice xa ((List.map eDot x.o.dots).length) xc)), .o 0 (some (nI x.d.place)), .o 0 (some (nI x.d.time)), .o 0 (some (nI x.d.no)), .o 0 (some (nI x.w))] 0 0, .wr 4 [] 0, .wr 5 [.o 1 none, .o 1 none, .o 1 none, .o 1 none, .o 1 none, .o 1 none, .o 1 none, .o 1 none, .o 1 none, .o 1 none, .o 1 none] 0] [(5, [])] [0, 1, 4, 5, 6, 7] (fun nu1 => [zS 0 (sA g 0) L.length c, zV 1 (.func (.func 99) #[] #[.pointer (sA b 0)]), zS 4 none 0 0, zI 5 i, zI 6 j, zP 7 (nu1 0)]) (fun nu1 => [(g, .cells cu 112 (0, 0)), (nu1 0, .cells #[nI x.o.no, .string x.o.key, nI x.o.kind, .string x.o.text, nI x.o.n, .bool x.o.remove, .slice xa ((List.map eDot x.o.dots).length) xc, nI x.d.place, nI x.d.time, nI x.d.no, nI x.w] 112 (0, 0))]) (fun nu1 => [(0 : Int) ≤ j, j < (↑L.length : Int), cu[(0 : Nat) + j.toNat * (11 : Nat)]? = some (nI x.o.no), cu[(0 : Nat) + j.toNat * (11 : Nat) + (1 : Nat)]? = some (Value.string x.o.key), cu[(0 : Nat) + j.toNat * (11 : Nat) + (2 : Nat)]? = some (nI x.o.kind), cu[(0 : Nat) + j.toNat * (11 : Nat) + (3 : Nat)]? = some (Value.string x.o.text), cu[(0 : Nat) + j.toNat * (11 : Nat) + (4 : Nat)]? = some (nI x.o.n), cu[(0 : Nat) + j.toNat * (11 : Nat) + (5 : Nat)]? = some (Value.bool x.o.remove), cu[(0 : Nat) + j.toNat * (11 : Nat) + (6 : Nat)]? = some (Value.slice xa (List.map eDot x.o.dots).length xc), cu[(0 : Nat) + j.toNat * (11 : Nat) + (7 : Nat)]? = some (nI x.d.place), cu[(0 : Nat) + j.toNat * (11 : Nat) + (8 : Nat)]? = some (nI x.d.time), cu[(0 : Nat) + j.toNat * (11 : Nat) + (9 : Nat)]? = some (nI x.d.no), cu[(0 : Nat) + j.toNat * (11 : Nat) + (10 : Nat)]? = some (nI x.w)]) (fun _ => ⟨by omega, hlt2, r0, r1, r2, r3, r4, r5, r6, r7, r8, r9, r10, trivial⟩) (fun nu1 => ?_)
   refine J_seq ?_
   refine jB mixed [(0, true), (1, true), (2, false), (3, true)] [] ?_
   refine Gr (id := 8) (rest := [(2, false), (3, true)]) [zR 0, .rd 1 [.o 1 none, .o 1 none, .o 1 none, .o 1 none, .o 1 none, .o 1 none, .o 1 none, .o 1 none, .o 1 none, .o 1 none, .o 1 none] 0 0] [0, 1, 4, 5, 6, 7, 26, 27] (fun _ => [zS 0 (sA g 0) L.length c, zV 1 (.func (.func 99) #[] #[.pointer (sA b 0)]), zS 4 none 0 0, zI 5 i, zI 6 j, zP 7 (nu1 0), zV 26 (.func (.func 99) #[] #[.pointer (sA b 0)]), zV 27 (.agg #[nI x.o.no, .string x.o.key, nI x.o.kind, .string x.o.text, nI x.o.n, .bool x.o.remove, .slice xa ((List.map eDot x.o.dots).length) xc, nI x.d.place, nI x.d.time, nI x.d.no, nI x.w])]) (fun _ => [(g, .cells cu 112 (0, 0)), (nu1 0, .cells #[nI x.o.no, .string x.o.key, nI x.o.kind, .string x.o.text, nI x.o.n, .bool x.o.remove, .slice xa ((List.map eDot x.o.dots).length) xc, nI x.d.place, nI x.d.time, nI x.d.no, nI x.w] 112 (0, 0))]) (fun _ => ?_)
   refine JR_callp [] 99 #[.agg #[.int .i64 x.o.no, .string x.o.key, .int .i64 x.o.kind, .string x.o.text, .int .i64 x.o.n, .bool x.o.remove, .slice xa ((List.map eDot x.o.dots).length) xc, .int .i64 x.d.place, .int .i64 x.d.time, .int .i64 x.d.no, .int .i64 x.w], .pointer (some (⟨b, 0, none⟩))] (some 28) (by kernel_rfl) (fun w S hG => ?_)
   refine (kind1 (m := x) rfl (hG.at 0 rfl)).mono ?_
   rintro e w2 hR
   refine ⟨_, _, _, hR, ?_⟩
   try simp only [cAp, nAp, aNl]
   refine Gr (id := 8) (rest := []) [zR 3] [0, 1, 4, 5, 6, 7, 29] (fun _ => [zS 0 (sA g 0) L.length c, zV 1 (.func (.func 99) #[] #[.pointer (sA b 0)]), zS 4 none 0 0, zI 5 i, zI 6 j, zP 7 (nu1 0), zB 29 (!!decide (x.o.kind = seq))]) (fun _ => [(g, .cells cu 112 (0, 0)), (nu1 0, .cells #[nI x.o.no, .string x.o.key, nI x.o.kind, .string x.o.text, nI x.o.n, .bool x.o.remove, .slice xa ((List.map eDot x.o.dots).length) xc, nI x.d.place, nI x.d.time, nI x.d.no, nI x.w] 112 (0, 0))]) (fun _ => ?_)
   refine JR_end ?_
   refine cC (t := !!decide (x.o.kind = seq)) (fun hb => ?_) (fun hb => ?_)
   ·have hkeep : x.o.kind = seq := by simpa using hb
    have hsz := hrow.siz
    have hll := hinv.len
    have hi9 : 0 + i.toNat * 11 + 11 ≤ cu.size := by omega
    refine J_seq ?_
    refine jB mixed [(0, true), (1, true), (2, true), (3, true), (4, false)] [] ?_
    refine Gs (id := 9) (rest := [(4, false)]) [zR 0, zR 1, .rd 2 [.o 1 none, .o 1 none, .o 1 none, .o 1 none, .o 1 none, .o 1 none, .o 1 none, .o 1 none, .o 1 none, .o 1 none, .o 1 none] 0 0, .rd 3 [] 0 2] [0, 1, 4, 5, 6, 7, 32, 33] (fun _ => [zS 0 (sA g 0) L.length c, zV 1 (.func (.func 99) #[] #[.pointer (sA b 0)]), zS 4 none 0 0, zI 5 i, zI 6 j, zP 7 (nu1 0), zV 32 (.agg #[nI x.o.no, .string x.o.key, nI x.o.kind, .string x.o.text, nI x.o.n, .bool x.o.remove, .slice xa ((List.map eDot x.o.dots).length) xc, nI x.d.place, nI x.d.time, nI x.d.no, nI x.w]), zV 33 (.pointer (sA g (0 + i.toNat * 11)))]) (fun _ => [(g, .cells cu 112 (0, 0)), (nu1 0, .cells #[nI x.o.no, .string x.o.key, nI x.o.kind, .string x.o.text, nI x.o.n, .bool x.o.remove, .slice xa ((List.map eDot x.o.dots).length) xc, nI x.d.place, nI x.d.time, nI x.d.no, nI x.w] 112 (0, 0))]) (fun _ => [(0 : Int) ≤ i, i < (↑L.length : Int)]) (fun _ => ⟨hi0, by omega, trivial⟩) (fun _ => ?_)
    refine JR_storerow 0 g (0 + i.toNat * 11) 112 112 (.agg #[.int .i64 x.o.no, .string x.o.key, .int .i64 x.o.kind, .string x.o.text, .int .i64 x.o.n, .bool x.o.remove, .slice xa ((List.map eDot x.o.dots).length) xc, .int .i64 x.d.place, .int .i64 x.d.time, .int .i64 x.d.no, .int .i64 x.w]) [.int .i64 x.o.no, .string x.o.key, .int .i64 x.o.kind, .string x.o.text, .int .i64 x.o.n, .bool x.o.remove, .slice xa ((List.map eDot x.o.dots).length) xc, .int .i64 x.d.place, .int .i64 x.d.time, .int .i64 x.d.no, .int .i64 x.w] none (by kernel_rfl) (by kernel_rfl) (by kernel_rfl) rfl rfl rfl hi9 (by simp [Value.oneCell']) ?_
    refine JR_end ?_
    rw [Nat.zero_add]
    refine J_stp (stp_putrow 0 i.toNat (vs := [.int .i64 x.o.no, .string x.o.key, .int .i64 x.o.kind, .string x.o.text, .int .i64 x.o.n, .bool x.o.remove, .slice xa (x.o.dots.map eDot).length xc, .int .i64 x.d.place, .int .i64 x.d.time, .int .i64 x.d.no, .int .i64 x.w]) (row := eDone x) rfl (by rw [hrow.len, List.length_map, hll]) (by rw [List.length_map]; omega) rfl ⟨.inl ⟨rfl, rfl⟩, .inl ⟨rfl, rfl⟩, .inl ⟨rfl, rfl⟩, .inl ⟨rfl, rfl⟩, .inl ⟨rfl, rfl⟩, .inl ⟨rfl, rfl⟩, .inr (.inl (List.mem_of_getElem? (i := 1) rfl)), .inl ⟨rfl, rfl⟩, .inl ⟨rfl, rfl⟩, .inl ⟨rfl, rfl⟩, .inl ⟨rfl, rfl⟩, trivial⟩) ?_
    rw [show (List.map eDone Lc).set i.toNat (eDone x) = List.map eDone (Lc.set i.toNat x) from List.map_set.symm]
    refine Gp mixed [zR 0, .rd 1 [] 0 1, zR 2] [] [0, 1, 4, 5, 6, 7, 32, 33] (fun _ => [zS 0 (sA g 0) L.length c, zV 1 (.func (.func 99) #[] #[.pointer (sA b 0)]), zS 4 none 0 0, zI 5 (i + 1), zI 6 j, zP 7 (nu1 0), zV 32 (.agg #[nI x.o.no, .string x.o.key, nI x.o.kind, .string x.o.text, nI x.o.n, .bool x.o.remove, .slice xa ((List.map eDot x.o.dots).length) xc, nI x.d.place, nI x.d.time, nI x.d.no, nI x.w]), zV 33 (.pointer (sA g (i.toNat * 11)))]) (fun _ => [(g, .cells (seg cu (i.toNat * 11) [nI x.o.no, Value.string x.o.key, nI x.o.kind, Value.string x.o.text, nI x.o.n, Value.bool x.o.remove, Value.slice xa (List.map eDot x.o.dots).length xc, nI x.d.place, nI x.d.time, nI x.d.no, nI x.w]) 112 (0, 0)), (nu1 0, .cells #[nI x.o.no, .string x.o.key, nI x.o.kind, .string x.o.text, nI x.o.n, .bool x.o.remove, .slice xa ((List.map eDot x.o.dots).length) xc, nI x.d.place, nI x.d.time, nI x.d.no, nI x.w] 112 (0, 0))]) (fun _ => [IntKind.i64.wrap (i + (1 : Int)) = i + (1 : Int)]) (fun _ => ⟨wrap_i64 (by omega) (by omega), trivial⟩) (fun _ => ?_)
    refine J_eb ?_
    refine Gp mixed [zR 0, .rd 1 [] 0 1, zR 2] [] [0, 1, 4, 5, 6, 7, 32, 33] (fun _ => [zS 0 (sA g 0) L.length c, zV 1 (.func (.func 99) #[] #[.pointer (sA b 0)]), zS 4 none 0 0, zI 5 (i + 1), zI 6 (j + 1), zP 7 (nu1 0), zV 32 (.agg #[nI x.o.no, .string x.o.key, nI x.o.kind, .string x.o.text, nI x.o.n, .bool x.o.remove, .slice xa ((List.map eDot x.o.dots).length) xc, nI x.d.place, nI x.d.time, nI x.d.no, nI x.w]), zV 33 (.pointer (sA g (i.toNat * 11)))]) (fun _ => [(g, .cells (seg cu (i.toNat * 11) [nI x.o.no, Value.string x.o.key, nI x.o.kind, Value.string x.o.text, nI x.o.n, Value.bool x.o.remove, Value.slice xa (List.map eDot x.o.dots).length xc, nI x.d.place, nI x.d.time, nI x.d.no, nI x.w]) 112 (0, 0)), (nu1 0, .cells #[nI x.o.no, .string x.o.key, nI x.o.kind, .string x.o.text, nI x.o.n, .bool x.o.remove, .slice xa ((List.map eDot x.o.dots).length) xc, nI x.d.place, nI x.d.time, nI x.d.no, nI x.w] 112 (0, 0))]) (fun _ => [IntKind.i64.wrap (j + (1 : Int)) = j + (1 : Int)]) (fun _ => ⟨wrap_i64 (by omega) (by omega), trivial⟩) (fun _ => ?_)
    refine J_backx ⟨i + 1, j + 1, _, _, Lc.set i.toNat x⟩ [0, 1, 4, 5, 6] [0] [0] [0] ?_ ?_ (by kernel_rfl) rfl rfl rfl
    ·exact ⟨by simp only; omega, by simp only; omega, by simp only; omega, hrow.turn (by omega) rfl, hinv.keep hi0 hij hlt2 hx hkeep⟩
    ·simp only
     omega
   ·have hdel : ¬ x.o.kind = seq := by simpa using hb
    refine J_skip ?_
    refine J_eb ?_
    refine Gp mixed [zR 0, .rd 1 [] 0 1, zR 2] [] [0, 1, 4, 5, 6, 7] (fun _ => [zS 0 (sA g 0) L.length c, zV 1 (.func (.func 99) #[] #[.pointer (sA b 0)]), zS 4 none 0 0, zI 5 i, zI 6 (j + 1), zP 7 (nu1 0)]) (fun _ => [(g, .cells cu 112 (0, 0)), (nu1 0, .cells #[nI x.o.no, .string x.o.key, nI x.o.kind, .string x.o.text, nI x.o.n, .bool x.o.remove, .slice xa ((List.map eDot x.o.dots).length) xc, nI x.d.place, nI x.d.time, nI x.d.no, nI x.w] 112 (0, 0))]) (fun _ => [IntKind.i64.wrap (j + (1 : Int)) = j + (1 : Int)]) (fun _ => ⟨wrap_i64 (by omega) (by omega), trivial⟩) (fun _ => ?_)
    refine J_backx ⟨i, j + 1, cu, xs, Lc⟩ [0, 1, 4, 5, 6] [0] [0] [0] ?_ ?_ (by kernel_rfl) rfl rfl rfl
    ·exact ⟨hi0, by simp only; omega, by simp only; omega, hrow, hinv.skip (by omega) hx hdel⟩
    ·simp only
     omega
  ·have hjl : j = L.length := by simp at hlt; omega
   have hsz := hrow.siz
   have hll := hinv.len
   have hil : i < L.length := by omega
   have hic : i < c := by omega
   have hfin : Lc.take i.toNat = keepK L seq := by
    rw [hinv.take, hjl, List.take_of_length_le (by simp)]
   have hcl : 0 + i.toNat * 11 + (L.length - i.toNat) * 11 ≤ cu.size := by omega
   refine J_exit rfl ?_
   refine J_seq ?_
   refine jB mixed [(0, true), (1, true), (2, true), (3, false)] [] ?_
   refine Gs (id := 11) (rest := [(3, false)]) [zR 0, zR 1, .rd 2 [] 0 4] [0, 4, 5, 38] (fun _ => [zS 0 (sA g 0) L.length c, zS 4 none 0 0, zI 5 i, zS 38 (sA g (0 + i.toNat * 11)) (L.length - i.toNat) (c - i.toNat)]) (fun _ => [(g, .cells cu 112 (0, 0))]) (fun _ => [(0 : Int) ≤ i, i ≤ (↑L.length : Int), i < (↑c : Int)]) (fun _ => ⟨hi0, by omega, hic, trivial⟩) (fun _ => ?_)
   refine JR_clear (size := 11) (bytes := 120) 0 g (0 + i.toNat * 11) (L.length - i.toNat) (c - i.toNat) 106 112 (.agg #[.int .i64 0, .string (ByteArray.mk #[]), .int .i64 0, .string (ByteArray.mk #[]), .int .i64 0, .bool false, .slice none 0 0, .int .i64 0, .int .i64 0, .int .i64 0, .int .i64 0]) none (by kernel_rfl) (by kernel_rfl) (by kernel_rfl) (by kernel_rfl) (by omega) rfl rfl hcl (by simp [Value.cells, Value.oneCell']) (fun vs1 hvs1 => ?_)
   refine JR_end ?_
   refine J_seq ?_
   rw [Nat.zero_add]
   refine J_stp (stp_cutrows 0 i.toNat rfl) ?_
   refine J_hide 0 rfl ?_
   refine J_norm (C' := [(cRows (List.take (i.toNat * 11) xs) 11 (List.take i.toNat (List.map eDone Lc))), cObj g (.cells (seg cu (i.toNat * 11) vs1) 112 (0, 0))]) (G' := [(.pointer (some (⟨b, 0, none⟩)), (D.ptr [D.v (Value.int IntKind.i64 seq)]))]) (by kernel_rfl) (by kernel_rfl) ?_
   rw [show List.take i.toNat (List.map eDone Lc) = List.map eDone (keepK L seq) by rw [← List.map_take, hfin]]
   have hrow2 := hrow.clr (i := i.toNat) (by omega) hvs1
   have hkl : (List.map eDone (keepK L seq)).length = i.toNat := by rw [← hfin]; simp; omega
   refine J_stp (stp_closeacc 1 0 rfl rfl (by rw [hkl]; exact hrow2) (by decide)) ?_
   rw [hkl]
   try simp only [cAp, nAp, aNl]
   refine Gp mixed [zR 0, zR 1, .rd 2 [] 0 4, zR 3] [] [4] (fun _ => [zS 4 (sA g 0) i.toNat c]) (fun _ => []) (fun _ => [(0 : Int) ≤ i, i ≤ (↑c : Int)]) (fun _ => ⟨hi0, by omega, trivial⟩) (fun _ => ?_)
   try simp only [cAp, nAp, aNl]
   refine J_return [[]] (.slice (some (⟨g, 0, none⟩)) i.toNat c) (by kernel_rfl) (fun a w s => ?_)
   exact ⟨_, _, _, s.ret (by simp) [0] [] rfl rfl⟩
end Go.Proofs.YtpjkiomccpjboaaGreatDoor
namespace Go.Proofs.YtpjkiomccpjboaaGreatDoor
open Go Go.Sx
theorem vKind {w : World} {S : Nat → Prop} {a : Option Addr} {n c : Nat} {l : List DoneT} (h : Rep w S (.slice a n c) (.sl 11 (l.map eDone))) (hl : l.length ≤ 4000000) :
  Calls Tryz.prog 62 #[.slice a n c] w fun e w' => ∃ a' n' c', Ret [] w S w' e (.tuple #[.int .i64 (kindOf l), .slice a' n' c']) [] [(.slice a' n' c', .sl 11 ((kindL l).map eDone))] := by
 have e1 := h.slen
 rw [List.length_map] at e1
 subst e1
 refine ep62 (args := [.slice a l.length c]) (G := [(_, .sl 11 (l.map eDone))]) (by kernel_rfl) (.cons h (.nil _ _)) ?_
 cases hl0 : l with
 | nil =>
  subst hl0
  refine Sq mixed [zR 0, zR 1] [] [0, 2, 3] (fun _ => [zS 0 a 0 c, zI 2 0, zS 3 none 0 0]) (fun _ => []) (fun _ => ?_)
  refine J_seq ?_
  refine Sq mixed [zR 0, zR 1, zR 2] [] [0, 2, 3, 7] (fun _ => [zS 0 a 0 c, zI 2 0, zS 3 none 0 0, zB 7 true]) (fun _ => []) (fun _ => ?_)
  refine cTt ?_
  refine Sq mixed [zR 0, zR 1] [] [0, 2, 3] (fun _ => [zS 0 a 0 c, zI 2 0, zS 3 none 0 0]) (fun _ => []) (fun _ => ?_)
  refine J_return [[], []] (.tuple #[.int .i64 0, .slice none 0 0]) (by kernel_rfl) (fun a w s => ?_)
  exact ⟨_, _, _, (s.stp (stp_fact (v := .slice none 0 0) (d := .sl 11 []) fun _ _ _ => .nil)).ret (by simp) [] [1] rfl rfl⟩
 | cons x r =>
  have hx : l[0]? = some x := by rw [hl0]; rfl
  have hk : kindOf (x :: r) = x.o.kind := rfl
  have hpos : ¬ ((l.length : Int) = 0) := by rw [hl0]; simp; omega
  rw [hk, ← hl0]
  refine J_read1 0 rfl 0 (map_at hx) (by kernel_rfl) (fun b1 off1 cs1 ty1 fz1 a1_0 c1_0 ha1 hrd1 => ?_)
  cases ha1
  have hrd1_0 := rd0 (hrd1 0 _ rfl)
  have hrd1_1 := hrd1 1 _ rfl
  have hrd1_2 := hrd1 2 _ rfl
  have hrd1_3 := hrd1 3 _ rfl
  have hrd1_4 := hrd1 4 _ rfl
  have hrd1_5 := hrd1 5 _ rfl
  have hrd1_6 := hrd1 6 _ rfl
  have hrd1_7 := hrd1 7 _ rfl
  have hrd1_8 := hrd1 8 _ rfl
  have hrd1_9 := hrd1 9 _ rfl
  have hrd1_10 := hrd1 10 _ rfl
  have hz : cs1[off1 + 2]? = some (.int .i64 x.o.kind) := hrd1_2
  try simp only [cAp, nAp, aNl]
  refine Sq mixed [zR 0, zR 1] [] [0, 2, 3] (fun _ => [zS 0 (sA b1 off1) l.length c, zI 2 0, zS 3 none 0 0]) (fun _ => []) (fun _ => ?_)
  refine J_seq ?_
  refine Sq mixed [zR 0, zR 1, zR 2] [] [0, 2, 3, 7] (fun _ => [zS 0 (sA b1 off1) l.length c, zI 2 0, zS 3 none 0 0, zB 7 ((↑l.length : Int) == 0)]) (fun _ => []) (fun _ => ?_)
  refine cC (t := (↑l.length : Int) == 0) (fun hz0 => ?_) (fun hz0 => ?_)
  ·exact absurd (by simpa using hz0) hpos
  refine J_skip ?_
  refine Sp mixed [zR 0, .rd 1 [] 0 2, zR 2, zR 3, .rd 4 [.r 0 (some (nI x.o.kind))] 0 0, .wr 5 [] 0, .wr 6 [.o 0 none] 0] [(6, [])] [0, 2, 3, 4] (fun nu1 => [zS 0 (sA b1 off1) l.length c, zI 2 0, zS 3 none 0 0, zP 4 (nu1 0)]) (fun nu1 => [(nu1 0, .cells #[nI x.o.kind] 3 (0, 0))]) (fun nu1 => [(0 : Int) ≤ (0 : Int), (0 : Int) < (↑l.length : Int), cs1[off1 + (0 : Nat) * (11 : Nat) + (2 : Nat)]? = some (nI x.o.kind)]) (fun _ => ⟨by omega, by omega, hrd1_2, trivial⟩) (fun nu1 => ?_)
  refine J_seq ?_
  refine J_share 0 rfl ?_
  refine J_stp (stp_fact fun w S H => obj_ptr (H (_, _) (List.mem_of_getElem? (i := 2) rfl)) rfl) ?_
  refine J_glob 3 rfl (fun csg1 tyg1 fzg1 hglob1 => ?_)
  try simp only [cAp, nAp, aNl]
  refine jB mixed [(0, true), (1, true), (3, true), (2, false), (4, false), (5, true), (6, true)] [(4, [])] ?_
  refine JR_run (id := 4) (rest := [(2, false), (4, false), (5, true), (6, true)]) [.rd 0 [.r 1 (some (.int .i64 x.o.kind))] 0 0, .rd 1 [] 0 0, .rd 3 [] 0 0] [2, 3, 13, 14, 16] (E1 := fun _ => [(2, .val (.int .i64 0)), (3, .val (.slice none 0 0)), (13, .val (.int .i64 x.o.kind)), (14, .val (.slice (some (⟨b1, off1, none⟩)) l.length c)), (16, .val (.func (.func 99) #[] #[.pointer (some (⟨nu1 0, 0, none⟩))]))]) (h1 := fun _ => []) (p1 := fun _ => [csg1[(0 : Nat)]? = some (Value.int IntKind.i64 x.o.kind)]) (W1 := [(4, [])]) (fun _ => by kernel_rfl) (fun _ => ⟨hglob1, trivial⟩) (fun _ => ?_)
  refine JR_callp [] 98 #[.slice (some (⟨b1, off1, none⟩)) l.length c] (some 15) (by kernel_rfl) (fun w S hG => ?_)
  refine (cloneDone (hG.at 0 rfl) hl).mono ?_
  rintro e2 w2 ⟨a2, c2, hR⟩
  refine ⟨_, _, _, hR, ?_⟩
  try simp only [cAp, nAp, aNl]
  refine JR_call [] [0] 97 #[.slice a2 l.length c2, .func (.func 99) #[] #[.pointer (some (⟨nu1 0, 0, none⟩))]] (some 17) (by kernel_rfl) (by kernel_rfl) (by decide) (fun w S M hP hG _ => ?_)
  refine (deleteKind hP hl (hG.at 3 rfl)).mono ?_
  rintro e3 w3 ⟨a3, n3, c3, hR⟩
  refine ⟨_, _, _, hR, ?_⟩
  try simp only [cAp, nAp, aNl]
  refine Gr (id := 4) (rest := []) [zR 5, zR 6] [2, 3] (fun _ => [zI 2 x.o.kind, zS 3 a3 n3 c3]) (fun _ => []) (fun _ => ?_)
  try simp only [cAp, nAp, aNl]
  refine JR_end ?_
  try simp only [cAp, nAp, aNl]
  refine J_return [[], []] (.tuple #[.int .i64 x.o.kind, .slice a3 n3 c3]) (by kernel_rfl) (fun a w s => ?_)
  have e4 : keepK l x.o.kind = kindL l := by rw [kindL, hl0]; rfl
  rw [e4] at s
  have s2 := s.stp (stp_freeze 0 rfl)
  exact ⟨_, _, _, s2.ret (by simp) [] [4] rfl rfl⟩
end Go.Proofs.YtpjkiomccpjboaaGreatDoor
end
