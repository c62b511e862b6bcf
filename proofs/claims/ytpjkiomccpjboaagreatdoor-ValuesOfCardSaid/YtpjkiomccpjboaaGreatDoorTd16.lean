/- Part 16 of the texts of a claim: RefD VCheck OfL. -/
import Derived.Test.YtpjkiomccpjboaaGreatDoorTd15
section
namespace Go.Sx
open Go
def dotsU (L P : List DoneT) (t : ByteArray) : List DotT := ((livesU L P).filter fun a => decide (a.o.text = t)).map (·.d)
theorem dotsU_snoc (L P : List DoneT) (t : ByteArray) (x : DoneT) : dotsU L (P ++ [x]) t = dotsU L P t ++ if (!x.o.remove && !goneB L x.o.text x.d) = true ∧ x.o.text = t then [x.d] else [] := by
 rw [dotsU, livesU_snoc, List.filter_append, List.map_append, dotsU]
 congr 1
 by_cases h1 : (!x.o.remove && !goneB L x.o.text x.d) = true
 ·by_cases h2 : x.o.text = t
  ·rw [if_pos h1, if_pos ⟨h1, h2⟩]
   simp [List.filter, h2]
  ·rw [if_pos h1, if_neg fun h => h2 h.2]
   simp [List.filter, h2]
 ·rw [if_neg h1, if_neg fun h => h1 h.1]
  rfl
theorem dotsU_len (L P : List DoneT) (t : ByteArray) : (dotsU L P t).length ≤ P.length := by
 rw [dotsU, List.length_map]
 exact Nat.le_trans (List.length_filter_le _ _) (List.length_filter_le _ _)
def outD (K : Int) (L P : List DoneT) (t : ByteArray) : List DotT := if K = 3 then (dotsU L P t).foldl (insG dotLt) [] else []
theorem outD_len (K : Int) (L P : List DoneT) (t : ByteArray) : (outD K L P t).length ≤ P.length := by
 unfold outD
 split
 ·rw [insG_flen, List.length_nil, Nat.zero_add]
  exact dotsU_len L P t
 ·simp
end Go.Sx
namespace Go.Proofs.YtpjkiomccpjboaaGreatDoor
open Go Go.Sx
set_option maxHeartbeats 4000000 in
theorem rDotsOf {w : World} {S : Nat → Prop} {a : Option Addr} {n c : Nat} {key text : ByteArray} {l : List ComT} (h : Rep w S (.slice a n c) (.sl 3 (l.map eCom))) (hl : l.length ≤ 300000) (hc : (valFault key l).code = 0) :
  Calls Tryz.prog 30 #[.string key, .string text, .slice a n c] w fun e w' => ∃ ua un uc, Ret [] w S w' e (.slice ua un uc) [] [(.slice ua un uc, .sl 3 ((dotsOf key text l).map eDot))] := by
 refine ep30 (args := [.string key, .string text, .slice a n c]) (S := S) (G := [(_, .sl 3 (l.map eCom))]) (by kernel_rfl) (.cons h (.nil _ _)) ?_
 have hf : (listFault l).code = 0 := by
  have h1 := allRight hc
  rw [listFault_none h1.2]
 have hfin : ∀ x ∈ ofKey key l, x.o.dots.length ≤ 1000000 := fun x hx => by
  obtain ⟨p, hp⟩ := fine_mem hc (mem_ofKey hx)
  have := opErr_fine hp
  omega
 have hlk := ofKey_len hc
 refine Sq mixed [zR 0] [] [0, 1, 2, 6] (fun _ => [zV 0 (.string key), zV 1 (.string text), zS 2 a n c, zS 6 none 0 0]) (fun _ => []) (fun _ => ?_)
 refine J_seq ?_
 refine jB mixed [(0, true), (1, true), (2, false), (3, true)] [] ?_
 refine Gr (id := 1) (rest := [(2, false), (3, true)]) [zR 0, zR 1] [1, 6, 13, 14] (fun _ => [zV 1 (.string text), zS 6 none 0 0, zV 13 (.string key), zS 14 a n c]) (fun _ => []) (fun _ => ?_)
 refine JR_callp [] 70 #[.string key, .slice a n c] (some 15) (by kernel_rfl) (fun w S hG => ?_)
 refine (rOpsOf (hG.at 0 rfl) hl hf).mono ?_
 rintro e1 w1 ⟨a1, n1, c1, hR⟩
 refine ⟨_, _, _, hR, ?_⟩
 try simp only [cAp, nAp, aNl]
 refine Gr (id := 1) (rest := []) [zR 3] [1, 6, 7] (fun _ => [zV 1 (.string text), zS 6 none 0 0, zS 7 a1 n1 c1]) (fun _ => []) (fun _ => ?_)
 refine JR_end ?_
 refine Sq mixed [zR 0] [] [1, 6, 7, 8] (fun _ => [zV 1 (.string text), zS 6 none 0 0, zS 7 a1 n1 c1, zS 8 none 0 0]) (fun _ => []) (fun _ => ?_)
 refine J_seq ?_
 refine Sq mixed [zR 0] [] [1, 6, 7, 8, 9] (fun _ => [zV 1 (.string text), zS 6 none 0 0, zS 7 a1 n1 c1, zS 8 none 0 0, zI 9 0]) (fun _ => []) (fun _ => ?_)
 refine J_block ?_
 refine J_stpx (stp_replen 1 rfl) fun _ hn1 => ?_
 rw [List.length_map] at hn1
 subst hn1
 have hkd := fun (x : DoneT) (hx : x ∈ ofKey key l) => ofKey_kind hx
 have hdo : dotsOf key text l = outD (kindOf (opsOf key l)) (ofKey key l) (ofKey key l) text := by
  unfold dotsOf outD
  split
  ·exact (sort_dots (textDots_nodup (ofKey_nodup key l) text)).symm
  ·rfl
 rw [hdo]
 generalize kindOf (opsOf key l) = K at hkd
 generalize ofKey key l = L at hfin hlk hkd
 refine J_stp (stp_add (cRep (.slice none 0 0) (.sl 3 (([] : List DotT).map eDot))) fun _ _ => ⟨rfl, .nil⟩) ?_
 have e0 : ([] : List DotT) = outD K L [] text := by
  unfold outD
  split <;> rfl
 rw [e0]
 refine J_norm (C' := [(cRep (Value.slice none 0 0) (D.sl 3 (List.map eDot (outD K L [] text))))]) (G' := [(.slice a n c, (D.sl 3 (List.map eCom l))), (.slice a1 L.length c1, (D.sl 11 (List.map eDone L)))]) (by kernel_rfl) (by kernel_rfl) ?_
 refine J_loopx (fun y : DotR => [zV 1 (.string text), zS 6 none 0 0, zS 7 a1 L.length c1, zS 8 y.a y.n y.c, zI 9 y.i]) (fun y : DotR => []) (fun y : DotR => [cRep (.slice y.a y.n y.c) (.sl 3 ((outD K L (L.take y.i.toNat) text).map eDot))]) (fun y : DotR => [(.slice a n c, (D.sl 3 (List.map eCom l))), (.slice a1 L.length c1, (D.sl 11 (List.map eDone L)))]) (fun y : DotR => (L.length - y.i).toNat) (fun y : DotR => (0 ≤ y.i ∧ y.i ≤ L.length ∧ GoodS y.a y.c)) ⟨0, none, 0, 0⟩ [1, 6, 7, 8, 9] [] [0] [0, 1] ?_ (by kernel_rfl) rfl rfl rfl ?_
 ·exact ⟨by simp, by simp, .inl ⟨rfl, rfl⟩⟩
 rintro ⟨i, a2, n2, c2⟩ ⟨hi0, hi, hg2⟩
 dsimp only at hi0 hi hg2 ⊢
 refine J_seq ?_
 refine Sq mixed [zR 0, zR 1, zR 2, zR 3] [] [1, 6, 7, 8, 9, 19] (fun _ => [zV 1 (.string text), zS 6 none 0 0, zS 7 a1 L.length c1, zS 8 a2 n2 c2, zI 9 i, zB 19 (decide (i < (↑L.length : Int)))]) (fun _ => []) (fun _ => ?_)
 refine cC (t := decide (i < (↑L.length : Int))) (fun hlt => ?_) (fun hlt => ?_)
 ·have hlt2 : i < L.length := by simpa using hlt
  obtain ⟨x, hx⟩ : ∃ x, L[i.toNat]? = some x := ⟨_, List.getElem?_eq_getElem (by omega)⟩
  have hxk := hkd x (List.mem_of_getElem? hx)
  have hsn := dotsU_snoc L (L.take i.toNat) text x
  rw [take_snoc hi0 hx] at hsn
  have hO12 := outD_len K L (L.take i.toNat) text
  rw [List.length_take] at hO12
  have hskip : ¬ (K = 3 ∧ x.o.text = text ∧ (!x.o.remove && !goneB L x.o.text x.d) = true) → outD K L (L.take i.toNat) text = outD K L (L.take (i + 1).toNat) text := fun hno => by
   unfold outD
   by_cases h3 : K = 3
   ·rw [if_pos h3, if_pos h3, hsn, if_neg fun h => hno ⟨h3, h.2, h.1⟩, List.append_nil]
   ·rw [if_neg h3, if_neg h3]
  refine J_read1 1 rfl i.toNat (map_at hx) (by kernel_rfl) (fun b1 off1 cs1 ty1 fz1 a1_0 c1_0 ha1 hrd1 => ?_)
  cases ha1
  have hrd1_0 := rd0 (hrd1 0 _ rfl)
  have hrd1_1 := hrd1 1 _ rfl
  have hrd1_2 := hrd1 2 _ rfl
  have hrd1_3 := hrd1 3 _ rfl
  have hrd1_4 := hrd1 4 _ rfl
  have hrd1_5 := hrd1 5 _ rfl
  have hrd1_6 := hrd1 6 _ rfl
  have hrd1_7 := hrd1 7 _ rfl
  have hrd1_8 := hrd1 8 _ rfl
  have hrd1_9 := hrd1 9 _ rfl
  have hrd1_10 := hrd1 10 _ rfl
  try simp only [cAp, nAp, aNl]
  refine J_skip ?_
  refine J_seq ?_
  refine J_block ?_
  refine J_seq ?_
  refine jB mixed [(0, true), (1, true), (2, true), (3, true), (4, true), (5, false), (6, true)] [] ?_
  refine Gs (id := 6) (rest := [(5, false), (6, true)]) [zR 0, zR 1, zR 2, .rd 3 [] 0 2, .rd 4 [.r 0 (some (nI x.o.no)), .r 0 (some (.string x.o.key)), .r 0 (some (nI x.o.kind)), .r 0 (some (.string x.o.text)), .r 0 (some (nI x.o.n)), .r 0 (some (.bool x.o.remove)), .r 0 (some (.slice (a1_0, c1_0).fst ((List.map eDot x.o.dots).length) c1_0)), .r 0 (some (nI x.d.place)), .r 0 (some (nI x.d.time)), .r 0 (some (nI x.d.no)), .r 0 (some (nI x.w))] 0 0] [1, 6, 7, 8, 9, 22, 26] (fun _ => [zV 1 (.string text), zS 6 none 0 0, zS 7 (sA b1 off1) L.length c1, zS 8 a2 n2 c2, zI 9 i, zS 22 (sA b1 off1) L.length c1, zV 26 (.agg #[nI x.o.no, .string x.o.key, nI x.o.kind, .string x.o.text, nI x.o.n, .bool x.o.remove, .slice (a1_0, c1_0).fst ((List.map eDot x.o.dots).length) c1_0, nI x.d.place, nI x.d.time, nI x.d.no, nI x.w])]) (fun _ => []) (fun _ => [(0 : Int) ≤ i, i < (↑L.length : Int), cs1[off1 + i.toNat * (11 : Nat)]? = some (nI x.o.no), cs1[off1 + i.toNat * (11 : Nat) + (1 : Nat)]? = some (Value.string x.o.key), cs1[off1 + i.toNat * (11 : Nat) + (2 : Nat)]? = some (nI x.o.kind), cs1[off1 + i.toNat * (11 : Nat) + (3 : Nat)]? = some (Value.string x.o.text), cs1[off1 + i.toNat * (11 : Nat) + (4 : Nat)]? = some (nI x.o.n), cs1[off1 + i.toNat * (11 : Nat) + (5 : Nat)]? = some (Value.bool x.o.remove), cs1[off1 + i.toNat * (11 : Nat) + (6 : Nat)]? = some (Value.slice (a1_0, c1_0).fst (List.map eDot x.o.dots).length (a1_0, c1_0).snd), cs1[off1 + i.toNat * (11 : Nat) + (7 : Nat)]? = some (nI x.d.place), cs1[off1 + i.toNat * (11 : Nat) + (8 : Nat)]? = some (nI x.d.time), cs1[off1 + i.toNat * (11 : Nat) + (9 : Nat)]? = some (nI x.d.no), cs1[off1 + i.toNat * (11 : Nat) + (10 : Nat)]? = some (nI x.w)]) (fun _ => ⟨hi0, hlt2, hrd1_0, hrd1_1, hrd1_2, hrd1_3, hrd1_4, hrd1_5, hrd1_6, hrd1_7, hrd1_8, hrd1_9, hrd1_10, trivial⟩) (fun _ => ?_)
  refine JR_callp [] 71 #[.slice (some (⟨b1, off1, none⟩)) L.length c1, .agg #[.int .i64 x.o.no, .string x.o.key, .int .i64 x.o.kind, .string x.o.text, .int .i64 x.o.n, .bool x.o.remove, .slice (a1_0, c1_0).fst ((List.map eDot x.o.dots).length) c1_0, .int .i64 x.d.place, .int .i64 x.d.time, .int .i64 x.d.no, .int .i64 x.w]] (some 27) (by kernel_rfl) (fun w S hG => ?_)
  refine (rLive (x := x) (hG.at 1 rfl) (by omega) hfin rfl).mono ?_
  rintro e2 w2 hR
  refine ⟨_, _, _, hR, ?_⟩
  by_cases h3 : K = 3
  ·rw [h3] at hxk
   by_cases htt : x.o.text = text
   ·have hkb : (x.o.text.toList == text.toList) = true := by rw [strEq, decide_eq_true htt]
    cases hlv : (!x.o.remove && !goneB L x.o.text x.d) with
    | false =>
     rw [hskip (fun h => by rw [hlv] at h; exact absurd h.2.2 (by decide))]
     try simp only [cAp, nAp, aNl]
     refine Gr (id := 6) (rest := []) [zR 6] [1, 6, 7, 8, 9, 10] (fun _ => [zV 1 (.string text), zS 6 none 0 0, zS 7 (sA b1 off1) L.length c1, zS 8 a2 n2 c2, zI 9 i, zB 10 false]) (fun _ => []) (fun _ => ?_)
     refine JR_end ?_
     refine J_seq ?_
     refine Sp mixed [zR 0, zR 1, .rd 2 [] 0 2, zR 3, zR 4, .rd 5 [.r 0 (some (nI x.o.kind))] 0 0, .rd 6 [] 0 7, zR 7, zR 8, zR 9, .rd 10 [] 0 2, zR 11, zR 12, .rd 13 [.r 0 (some (.string x.o.text))] 0 0, zR 14, .rd 15 [] 0 7, zR 16, zR 17, zR 18, zR 19, zR 20] [] [1, 6, 7, 8, 9, 10, 48] (fun _ => [zV 1 (.string text), zS 6 none 0 0, zS 7 (sA b1 off1) L.length c1, zS 8 a2 n2 c2, zI 9 i, zB 10 false, zB 48 true]) (fun _ => []) (fun _ => [(0 : Int) ≤ i, i < (↑L.length : Int), cs1[off1 + i.toNat * (11 : Nat) + (2 : Nat)]? = some (nI x.o.kind), (x.o.kind != (3 : Int)) = false, (0 : Int) ≤ i, i < (↑L.length : Int), cs1[off1 + i.toNat * (11 : Nat) + (3 : Nat)]? = some (Value.string x.o.text), (!x.o.text.toList == text.toList) = false]) (fun _ => ⟨hi0, hlt2, hrd1_2, by simp; omega, hi0, hlt2, hrd1_3, by simp [*]; done, trivial⟩) (fun _ => ?_)
     refine cTt ?_
     refine J_exit rfl ?_
     refine Gp mixed [zR 0, .rd 1 [] 0 1, zR 2] [] [1, 6, 7, 8, 9, 10] (fun _ => [zV 1 (.string text), zS 6 none 0 0, zS 7 (sA b1 off1) L.length c1, zS 8 a2 n2 c2, zI 9 (i + 1), zB 10 false]) (fun _ => []) (fun _ => [IntKind.i64.wrap (i + (1 : Int)) = i + (1 : Int)]) (fun _ => ⟨wrap_i64 (by omega) (by omega), trivial⟩) (fun _ => ?_)
     refine J_backx ⟨i + 1, _, _, _⟩ [1, 6, 7, 8, 9] [] [0] [0, 1] ?_ ?_ (by kernel_rfl) rfl rfl rfl
     ·exact ⟨by simp only; omega, by simp only; omega, hg2⟩
     ·simp only
      omega
    | true =>
     have e6 : insG dotLt (outD K L (L.take i.toNat) text) x.d = outD K L (L.take (i + 1).toNat) text := by
      unfold outD
      rw [if_pos h3, if_pos h3, hsn, if_pos ⟨hlv, htt⟩, List.foldl_append]
      rfl
     generalize outD K L (L.take i.toNat) text = OUT at hO12 e6
     try simp only [cAp, nAp, aNl]
     refine Gr (id := 6) (rest := []) [zR 6] [1, 6, 7, 8, 9, 10] (fun _ => [zV 1 (.string text), zS 6 none 0 0, zS 7 (sA b1 off1) L.length c1, zS 8 a2 n2 c2, zI 9 i, zB 10 true]) (fun _ => []) (fun _ => ?_)
     refine JR_end ?_
     refine J_seq ?_
     refine Sp mixed [zR 0, zR 1, .rd 2 [] 0 2, zR 3, zR 4, .rd 5 [.r 0 (some (nI x.o.kind))] 0 0, .rd 6 [] 0 7, zR 7, zR 8, zR 9, .rd 10 [] 0 2, zR 11, zR 12, .rd 13 [.r 0 (some (.string x.o.text))] 0 0, zR 14, .rd 15 [] 0 7, zR 16, zR 17, zR 18, zR 19, zR 20] [] [1, 6, 7, 8, 9, 10, 48] (fun _ => [zV 1 (.string text), zS 6 none 0 0, zS 7 (sA b1 off1) L.length c1, zS 8 a2 n2 c2, zI 9 i, zB 10 true, zB 48 false]) (fun _ => []) (fun _ => [(0 : Int) ≤ i, i < (↑L.length : Int), cs1[off1 + i.toNat * (11 : Nat) + (2 : Nat)]? = some (nI x.o.kind), (x.o.kind != (3 : Int)) = false, (0 : Int) ≤ i, i < (↑L.length : Int), cs1[off1 + i.toNat * (11 : Nat) + (3 : Nat)]? = some (Value.string x.o.text), (!x.o.text.toList == text.toList) = false]) (fun _ => ⟨hi0, hlt2, hrd1_2, by simp; omega, hi0, hlt2, hrd1_3, by simp [*]; done, trivial⟩) (fun _ => ?_)
     refine cF ?_
     refine J_skip ?_
     refine J_seq ?_
     refine J_stp (stp_rep 0 rfl) ?_
     refine J_norm (C' := []) (G' := [(.slice a n c, (D.sl 3 (List.map eCom l))), (.slice (some (⟨b1, off1, none⟩)) L.length c1, (D.sl 11 (List.map eDone L))), (.slice (a1_0, c1_0).fst ((List.map eDot x.o.dots).length) c1_0, (D.sl 3 (List.map eDot x.o.dots))), (.slice a2 n2 c2, (D.sl 3 (List.map eDot OUT)))]) (by kernel_rfl) (by kernel_rfl) ?_
     refine Gq mixed [zR 0] [] [1, 6, 7, 8, 9, 10, 11] (fun _ => [zV 1 (.string text), zS 6 none 0 0, zS 7 (sA b1 off1) L.length c1, zS 8 a2 n2 c2, zI 9 i, zB 10 true, zI 11 0]) (fun _ => []) (fun _ => ?_)
     refine J_seq ?_
     refine J_block ?_
     refine J_stpx (stp_replen 3 rfl) fun _ hn2 => ?_
     rw [List.length_map] at hn2
     subst hn2
     refine J_stpx (stp_know (p := OUT.length ≤ c2) fun _ _ H => (H.g (_, _) (List.mem_of_getElem? (i := 3) rfl)).cap) fun _ hcap2 => ?_
     refine J_loopx (fun k : Int => [zV 1 (.string text), zS 6 none 0 0, zS 7 (sA b1 off1) L.length c1, zS 8 a2 OUT.length c2, zI 9 i, zB 10 true, zI 11 k]) (fun k : Int => []) (fun k : Int => []) (fun k : Int => [(.slice a n c, (D.sl 3 (List.map eCom l))), (.slice (sA b1 off1) L.length c1, (D.sl 11 (List.map eDone L))), (.slice (a1_0, c1_0).fst ((List.map eDot x.o.dots).length) c1_0, (D.sl 3 (List.map eDot x.o.dots))), (.slice a2 OUT.length c2, (D.sl 3 (List.map eDot OUT)))]) (fun k : Int => (OUT.length - k).toNat) (fun k : Int => (0 ≤ k ∧ k ≤ OUT.length ∧ ∀ z ∈ OUT.take k.toNat, dotLt z x.d = true)) 0 [1, 6, 7, 8, 9, 10, 11] [] [] [0, 1, 2, 3] ?_ (by kernel_rfl) rfl rfl rfl ?_
     ·exact ⟨by simp, by simp, by simp⟩
     rintro k ⟨hk0, hk, hkn⟩
     by_cases hlt5 : k < OUT.length
     ·obtain ⟨z, hz⟩ : ∃ z, OUT[k.toNat]? = some z := ⟨_, List.getElem?_eq_getElem (by omega)⟩
      refine J_read0 3 rfl k.toNat (map_at hz) (by kernel_rfl) (fun b2 off2 cs2 ty2 fz2 ha2 hrd2 => ?_)
      cases ha2
      have hrd2_0 := rd0 (hrd2 0 _ rfl)
      have hrd2_1 := hrd2 1 _ rfl
      have hrd2_2 := hrd2 2 _ rfl
      try simp only [cAp, nAp, aNl]
      refine J_seq ?_
      refine J_seq ?_
      refine jB mixed [(0, true), (1, true), (2, true), (3, true), (4, true), (5, true), (6, true), (7, true), (8, true), (9, true), (10, true), (11, true), (12, true), (13, true), (14, false), (15, true)] [] ?_
      refine Gs (id := 9) (rest := [(14, false), (15, true)]) [zR 0, zR 1, zR 2, .rd 3 [] 0 6, zR 4, zR 5, zR 6, .rd 7 [] 0 2, .rd 8 [.r 1 (some (nI z.place)), .r 1 (some (nI z.time)), .r 1 (some (nI z.no))] 0 0, zR 9, zR 10, .rd 11 [] 0 2, zR 12, .rd 13 [.r 0 (some (nI x.d.place)), .r 0 (some (nI x.d.time)), .r 0 (some (nI x.d.no))] 0 0] [1, 6, 7, 8, 9, 10, 11, 53, 57, 62] (fun _ => [zV 1 (.string text), zS 6 none 0 0, zS 7 (sA b1 off1) L.length c1, zS 8 (sA b2 off2) OUT.length c2, zI 9 i, zB 10 true, zI 11 k, zB 53 true, zV 57 (.agg #[nI z.place, nI z.time, nI z.no]), zV 62 (.agg #[nI x.d.place, nI x.d.time, nI x.d.no])]) (fun _ => []) (fun _ => [decide (k < (↑OUT.length : Int)) = true, (0 : Int) ≤ k, k < (↑OUT.length : Int), cs2[off2 + k.toNat * (3 : Nat)]? = some (nI z.place), cs2[off2 + k.toNat * (3 : Nat) + (1 : Nat)]? = some (nI z.time), cs2[off2 + k.toNat * (3 : Nat) + (2 : Nat)]? = some (nI z.no), (0 : Int) ≤ i, i < (↑L.length : Int), cs1[off1 + i.toNat * (11 : Nat) + (7 : Nat)]? = some (nI x.d.place), cs1[off1 + i.toNat * (11 : Nat) + (8 : Nat)]? = some (nI x.d.time), cs1[off1 + i.toNat * (11 : Nat) + (9 : Nat)]? = some (nI x.d.no)]) (fun _ => ⟨by simp; omega, hk0, hlt5, hrd2_0, hrd2_1, hrd2_2, hi0, hlt2, hrd1_7, hrd1_8, hrd1_9, trivial⟩) (fun _ => ?_)
      refine JR_callp [] 73 #[.agg #[.int .i64 z.place, .int .i64 z.time, .int .i64 z.no], .agg #[.int .i64 x.d.place, .int .i64 x.d.time, .int .i64 x.d.no]] (some 63) (by kernel_rfl) (fun w S hG => ?_)
      refine (rLessDot (w := w) (S := S) (x := z) (y := x.d)).mono ?_
      rintro e3 w3 hR
      refine ⟨_, _, _, hR, ?_⟩
      cases hzy : dotLt z x.d with
      | true =>
       try simp only [cAp, nAp, aNl]
       refine Gr (id := 9) (rest := []) [zR 15] [1, 6, 7, 8, 9, 10, 11, 64] (fun _ => [zV 1 (.string text), zS 6 none 0 0, zS 7 (sA b1 off1) L.length c1, zS 8 (sA b2 off2) OUT.length c2, zI 9 i, zB 10 true, zI 11 k, zB 64 true]) (fun _ => []) (fun _ => ?_)
       refine JR_end ?_
       refine cTt ?_
       refine J_skip ?_
       refine J_block ?_
       refine Gp mixed [zR 0, .rd 1 [] 0 1, zR 2] [] [1, 6, 7, 8, 9, 10, 11] (fun _ => [zV 1 (.string text), zS 6 none 0 0, zS 7 (sA b1 off1) L.length c1, zS 8 (sA b2 off2) OUT.length c2, zI 9 i, zB 10 true, zI 11 (k + 1)]) (fun _ => []) (fun _ => [IntKind.i64.wrap (k + (1 : Int)) = k + (1 : Int)]) (fun _ => ⟨wrap_i64 (by omega) (by omega), trivial⟩) (fun _ => ?_)
       refine J_eb ?_
       refine J_backx (k + 1) [1, 6, 7, 8, 9, 10, 11] [] [] [0, 1, 2, 3] ?_ ?_ (by kernel_rfl) rfl rfl rfl
       ·refine ⟨by omega, by omega, fun q hq => ?_⟩
        rw [← take_snoc hk0 hz, List.mem_append, List.mem_singleton] at hq
        rcases hq with hq | rfl
        ·exact hkn q hq
        ·exact hzy
       ·omega
      | false =>
       have hins := insG_at dotLt (l := OUT) (x := x.d) (k := k.toNat) hkn fun q hq => by rw [hz] at hq; cases hq; exact hzy
       rw [e6] at hins
       have e8 : OUT.take k.toNat ++ [x.d] ++ OUT.drop k.toNat = outD K L (L.take (i + 1).toNat) text := by
        rw [List.append_assoc, List.singleton_append]
        exact hins.symm
       try simp only [cAp, nAp, aNl]
       refine Gr (id := 9) (rest := []) [zR 15] [1, 6, 7, 8, 9, 10, 11, 64] (fun _ => [zV 1 (.string text), zS 6 none 0 0, zS 7 (sA b1 off1) L.length c1, zS 8 (sA b2 off2) OUT.length c2, zI 9 i, zB 10 true, zI 11 k, zB 64 false]) (fun _ => []) (fun _ => ?_)
       refine JR_end ?_
       refine cF ?_
       refine J_exit rfl ?_
       refine Sq mixed [zR 0] [] [1, 6, 7, 8, 9, 10, 11, 12] (fun _ => [zV 1 (.string text), zS 6 none 0 0, zS 7 (sA b1 off1) L.length c1, zS 8 (sA b2 off2) OUT.length c2, zI 9 i, zB 10 true, zI 11 k, zS 12 none 0 0]) (fun _ => []) (fun _ => ?_)
       refine J_seq ?_
       refine J_stp (stp_fact fun w S H => (H (_, _) (List.mem_of_getElem? (i := 3) rfl)).takeM k.toNat (by omega)) ?_
       refine J_stp (stp_accm eDot 65 3) ?_
       refine J_norm (C' := [cAcc (.slice none 0 0) 65 3 (List.map eDot [])]) (G' := [(.slice a n c, (D.sl 3 (List.map eCom l))), (.slice (some (⟨b1, off1, none⟩)) L.length c1, (D.sl 11 (List.map eDone L))), (.slice a1_0 ((List.map eDot x.o.dots).length) c1_0, (D.sl 3 (List.map eDot x.o.dots))), (.slice (some (⟨b2, off2, none⟩)) OUT.length c2, (D.sl 3 (List.map eDot OUT))), (.slice (some (⟨b2, off2, none⟩)) k.toNat c2, (D.sl 3 (List.map eDot (List.take k.toNat OUT))))]) (by kernel_rfl) (by kernel_rfl) ?_
       refine jB mixed [(0, true), (1, true), (2, true), (3, true), (4, false), (5, true)] [] ?_
       refine Gs (id := 12) (rest := [(4, false), (5, true)]) [zR 0, zR 1, zR 2, .rd 3 [] 0 4] [1, 6, 7, 8, 9, 10, 11, 12, 67, 70] (fun _ => [zV 1 (.string text), zS 6 none 0 0, zS 7 (sA b1 off1) L.length c1, zS 8 (sA b2 off2) OUT.length c2, zI 9 i, zB 10 true, zI 11 k, zS 12 none 0 0, zS 67 none 0 0, zS 70 (sA b2 off2) k.toNat c2]) (fun _ => []) (fun _ => [(0 : Int) ≤ k, k ≤ (↑c2 : Int)]) (fun _ => ⟨hk0, by omega, trivial⟩) (fun _ => ?_)
       refine JR_appm 0 22 65 3 24 (.agg #[.int .i64 0, .int .i64 0, .int .i64 0]) (a0 := none) (len := 0) (cap0 := 0) (ax := (some (⟨b2, off2, none⟩))) (m := k.toNat) (c := c2) (dst := (some 71)) (List.take k.toNat OUT) (by kernel_rfl) (by kernel_rfl) (by kernel_rfl) (by kernel_rfl) rfl (by decide) rfl (fun _ _ _ s => src_fact s 4 rfl (by decide)) (by simp only [maxLen]; omega) (by omega) (fun av1 cv1 => ?_)
       rw [Nat.zero_add]
       try simp only [cAp, nAp, aNl]
       refine Gr (id := 12) (rest := []) [zR 5] [1, 6, 7, 8, 9, 10, 11, 12] (fun _ => [zV 1 (.string text), zS 6 none 0 0, zS 7 (sA b1 off1) L.length c1, zS 8 (sA b2 off2) OUT.length c2, zI 9 i, zB 10 true, zI 11 k, zS 12 av1 k.toNat cv1]) (fun _ => []) (fun _ => ?_)
       try simp only [cAp, nAp, aNl]
       refine JR_end ?_
       try simp only [cAp, nAp, aNl]
       refine J_seq ?_
       try simp only [cAp, nAp, aNl]
       refine J_again1 1 rfl 0 rfl i.toNat (map_at hx) (by kernel_rfl) (fun a3_0 c3_0 hrd3 => ?_)
       have hrd3_0 := rd0 (hrd3 0 _ rfl)
       have hrd3_1 := hrd3 1 _ rfl
       have hrd3_2 := hrd3 2 _ rfl
       have hrd3_3 := hrd3 3 _ rfl
       have hrd3_4 := hrd3 4 _ rfl
       have hrd3_5 := hrd3 5 _ rfl
       have hrd3_6 := hrd3 6 _ rfl
       have hrd3_7 := hrd3 7 _ rfl
       have hrd3_8 := hrd3 8 _ rfl
       have hrd3_9 := hrd3 9 _ rfl
       have hrd3_10 := hrd3 10 _ rfl
       try simp only [cAp, nAp, aNl]
       refine jB mixed [(0, true), (1, true), (2, true), (3, true), (4, true), (5, true), (6, false), (7, false), (8, true)] [] ?_
       refine Gs (id := 13) (rest := [(7, false), (8, true)]) [zR 0, zR 1, zR 2, .rd 3 [] 0 2, zR 4, .rd 5 [.r 0 (some (nI x.d.place)), .r 0 (some (nI x.d.time)), .r 0 (some (nI x.d.no))] 0 0, .wr 6 [] 0] [1, 6, 7, 8, 9, 10, 11, 12, 72, 78] (fun nu1 => [zV 1 (.string text), zS 6 none 0 0, zS 7 (sA b1 off1) L.length c1, zS 8 (sA b2 off2) OUT.length c2, zI 9 i, zB 10 true, zI 11 k, zS 12 av1 k.toNat cv1, zS 72 av1 k.toNat cv1, zS 78 (sA (nu1 0) 0) 1 1]) (fun nu1 => [(nu1 0, .cells #[nI x.d.place, nI x.d.time, nI x.d.no] 65 (0, 0))]) (fun nu1 => [(0 : Int) ≤ i, i < (↑L.length : Int), cs1[off1 + i.toNat * (11 : Nat) + (7 : Nat)]? = some (nI x.d.place), cs1[off1 + i.toNat * (11 : Nat) + (8 : Nat)]? = some (nI x.d.time), cs1[off1 + i.toNat * (11 : Nat) + (9 : Nat)]? = some (nI x.d.no)]) (fun _ => ⟨hi0, hlt2, hrd1_7, hrd1_8, hrd1_9, trivial⟩) (fun nu1 => ?_)
       refine JR_appm 0 22 65 3 24 (.agg #[.int .i64 0, .int .i64 0, .int .i64 0]) (a0 := av1) (len := k.toNat) (cap0 := cv1) (ax := (some (⟨nu1 0, 0, none⟩))) (m := 1) (c := 1) (dst := (some 79)) [x.d] (by kernel_rfl) (by kernel_rfl) (by kernel_rfl) (by kernel_rfl) rfl (by decide) rfl (fun _ _ _ s => src_one s 0 rfl rfl ⟨.inl ⟨rfl, rfl⟩, ⟨.inl ⟨rfl, rfl⟩, ⟨.inl ⟨rfl, rfl⟩, trivial⟩⟩⟩) (by simp only [maxLen]; omega) (by omega) (fun av2 cv2 => ?_)
       try simp only [cAp, nAp, aNl]
       refine Gr (id := 13) (rest := []) [zR 8] [1, 6, 7, 8, 9, 10, 11, 12] (fun _ => [zV 1 (.string text), zS 6 none 0 0, zS 7 (sA b1 off1) L.length c1, zS 8 (sA b2 off2) OUT.length c2, zI 9 i, zB 10 true, zI 11 k, zS 12 av2 (k.toNat + 1) cv2]) (fun _ => [(nu1 0, .cells #[nI x.d.place, nI x.d.time, nI x.d.no] 65 (0, 0))]) (fun _ => ?_)
       try simp only [cAp, nAp, aNl]
       refine JR_end ?_
       try simp only [cAp, nAp, aNl]
       refine J_stp (stp_fact fun w S H => (H (_, _) (List.mem_of_getElem? (i := 3) rfl)).dropM k.toNat (by omega)) ?_
       refine J_norm (C' := [cAcc (.slice av2 (k.toNat + 1) cv2) 65 3 (List.map eDot (List.take k.toNat OUT ++ [x.d]))]) (G' := [(.slice a n c, (D.sl 3 (List.map eCom l))), (.slice (some (⟨b1, off1, none⟩)) L.length c1, (D.sl 11 (List.map eDone L))), (.slice a1_0 ((List.map eDot x.o.dots).length) c1_0, (D.sl 3 (List.map eDot x.o.dots))), (.slice (some (⟨b2, off2, none⟩)) OUT.length c2, (D.sl 3 (List.map eDot OUT))), (.slice (some (⟨b2, off2, none⟩)) k.toNat c2, (D.sl 3 (List.map eDot (List.take k.toNat OUT)))), (.slice (a3_0, c3_0).fst ((List.map eDot x.o.dots).length) c3_0, (D.sl 3 (List.map eDot x.o.dots))), (.slice (some (⟨b2, off2 + k.toNat * 3, none⟩)) (OUT.length - k.toNat) (c2 - k.toNat), (D.sl 3 (List.map eDot (List.drop k.toNat OUT))))]) (by kernel_rfl) (by kernel_rfl) ?_
       refine jB mixed [(0, true), (1, true), (2, true), (3, true), (4, false), (5, true)] [] ?_
       refine Gs (id := 14) (rest := [(4, false), (5, true)]) [zR 0, zR 1, zR 2, .rd 3 [] 0 4] [1, 6, 7, 8, 9, 10, 11, 12, 80, 83] (fun _ => [zV 1 (.string text), zS 6 none 0 0, zS 7 (sA b1 off1) L.length c1, zS 8 (sA b2 off2) OUT.length c2, zI 9 i, zB 10 true, zI 11 k, zS 12 av2 (k.toNat + 1) cv2, zS 80 av2 (k.toNat + 1) cv2, zS 83 (sA b2 (off2 + k.toNat * 3)) (OUT.length - k.toNat) (c2 - k.toNat)]) (fun _ => [(nu1 0, .cells #[nI x.d.place, nI x.d.time, nI x.d.no] 65 (0, 0))]) (fun _ => [(0 : Int) ≤ k, k ≤ (↑OUT.length : Int), k < (↑c2 : Int)]) (fun _ => ⟨hk0, hk, by omega, trivial⟩) (fun _ => ?_)
       refine JR_appm 0 22 65 3 24 (.agg #[.int .i64 0, .int .i64 0, .int .i64 0]) (a0 := av2) (len := k.toNat + 1) (cap0 := cv2) (ax := (some (⟨b2, off2 + k.toNat * 3, none⟩))) (m := OUT.length - k.toNat) (c := c2 - k.toNat) (dst := (some 84)) (List.drop k.toNat OUT) (by kernel_rfl) (by kernel_rfl) (by kernel_rfl) (by kernel_rfl) rfl (by decide) rfl (fun _ _ _ s => src_fact s 6 rfl (by decide)) (by simp only [maxLen]; omega) (by omega) (fun av3 cv3 => ?_)
       rw [e8]
       try simp only [cAp, nAp, aNl]
       refine Gr (id := 14) (rest := []) [zR 5] [1, 6, 7, 8, 9, 10, 11, 12] (fun _ => [zV 1 (.string text), zS 6 none 0 0, zS 7 (sA b1 off1) L.length c1, zS 8 av3 (k.toNat + 1 + (OUT.length - k.toNat)) cv3, zI 9 i, zB 10 true, zI 11 k, zS 12 av2 (k.toNat + 1) cv2]) (fun _ => [(nu1 0, .cells #[nI x.d.place, nI x.d.time, nI x.d.no] 65 (0, 0))]) (fun _ => ?_)
       try simp only [cAp, nAp, aNl]
       refine JR_end ?_
       try simp only [cAp, nAp, aNl]
       refine J_eb ?_
       try simp only [cAp, nAp, aNl]
       refine Gp mixed [zR 0, .rd 1 [] 0 1, zR 2] [] [1, 6, 7, 8, 9, 10, 11, 12] (fun _ => [zV 1 (.string text), zS 6 none 0 0, zS 7 (sA b1 off1) L.length c1, zS 8 av3 (k.toNat + 1 + (OUT.length - k.toNat)) cv3, zI 9 (i + 1), zB 10 true, zI 11 k, zS 12 av2 (k.toNat + 1) cv2]) (fun _ => [(nu1 0, .cells #[nI x.d.place, nI x.d.time, nI x.d.no] 65 (0, 0))]) (fun _ => [IntKind.i64.wrap (i + (1 : Int)) = i + (1 : Int)]) (fun _ => ⟨wrap_i64 (by omega) (by omega), trivial⟩) (fun _ => ?_)
       try simp only [cAp, nAp, aNl]
       refine J_stpx (stp_good 0 rfl) fun _ hga => ?_
       refine J_stp (stp_freeze 0 rfl) ?_
       refine J_norm (C' := []) (G' := [(.slice a n c, (D.sl 3 (List.map eCom l))), (.slice (some (⟨b1, off1, none⟩)) L.length c1, (D.sl 11 (List.map eDone L))), (.slice a1_0 ((List.map eDot x.o.dots).length) c1_0, (D.sl 3 (List.map eDot x.o.dots))), (.slice (some (⟨b2, off2, none⟩)) OUT.length c2, (D.sl 3 (List.map eDot OUT))), (.slice (some (⟨b2, off2, none⟩)) k.toNat c2, (D.sl 3 (List.map eDot (List.take k.toNat OUT)))), (.slice a3_0 ((List.map eDot x.o.dots).length) c3_0, (D.sl 3 (List.map eDot x.o.dots))), (.slice (some (⟨b2, off2 + k.toNat * 3, none⟩)) (OUT.length - k.toNat) (c2 - k.toNat), (D.sl 3 (List.map eDot (List.drop k.toNat OUT)))), (.slice av3 (k.toNat + 1 + (OUT.length - k.toNat)) cv3, (D.sl 3 (List.map eDot (outD K L (List.take (i + 1).toNat L) text))))]) (by kernel_rfl) (by kernel_rfl) ?_
       refine J_stp (stp_keep 7 rfl) ?_
       refine J_norm (C' := [(cRep (Value.slice av3 (k.toNat + 1 + (OUT.length - k.toNat)) cv3) (D.sl 3 (List.map eDot (outD K L (List.take (i + 1).toNat L) text))))]) (G' := [(.slice a n c, (D.sl 3 (List.map eCom l))), (.slice (some (⟨b1, off1, none⟩)) L.length c1, (D.sl 11 (List.map eDone L))), (.slice a1_0 ((List.map eDot x.o.dots).length) c1_0, (D.sl 3 (List.map eDot x.o.dots))), (.slice (some (⟨b2, off2, none⟩)) OUT.length c2, (D.sl 3 (List.map eDot OUT))), (.slice (some (⟨b2, off2, none⟩)) k.toNat c2, (D.sl 3 (List.map eDot (List.take k.toNat OUT)))), (.slice a3_0 ((List.map eDot x.o.dots).length) c3_0, (D.sl 3 (List.map eDot x.o.dots))), (.slice (some (⟨b2, off2 + k.toNat * 3, none⟩)) (OUT.length - k.toNat) (c2 - k.toNat), (D.sl 3 (List.map eDot (List.drop k.toNat OUT)))), (.slice av3 (k.toNat + 1 + (OUT.length - k.toNat)) cv3, (D.sl 3 (List.map eDot (outD K L (List.take (i + 1).toNat L) text))))]) (by kernel_rfl) (by kernel_rfl) ?_
       refine J_backx ⟨i + 1, _, _, _⟩ [1, 6, 7, 8, 9] [] [0] [0, 1] ?_ ?_ (by kernel_rfl) rfl rfl rfl
       ·exact ⟨by simp only; omega, by simp only; omega, hga⟩
       ·simp only
        omega
     ·have hins := insG_at dotLt (l := OUT) (x := x.d) (k := k.toNat) hkn fun q hq => by
       have := (List.getElem?_eq_some_iff.1 hq).1
       omega
      rw [e6] at hins
      have e8 : OUT.take k.toNat ++ [x.d] ++ OUT.drop k.toNat = outD K L (L.take (i + 1).toNat) text := by
       rw [List.append_assoc, List.singleton_append]
       exact hins.symm
      refine J_seq ?_
      refine Sp mixed [zR 0, zR 1, zR 2, .rd 3 [] 0 7, zR 4, .rd 5 [] 1 0, .rd 6 [] 1 0, .rd 7 [] 1 0, .rd 8 [] 1 0, .rd 9 [] 1 0, .rd 10 [] 1 0, .rd 11 [] 1 0, .rd 12 [] 1 0, .rd 13 [] 1 0, .wr 14 [] 1, zR 15] [] [1, 6, 7, 8, 9, 10, 11, 64] (fun _ => [zV 1 (.string text), zS 6 none 0 0, zS 7 (sA b1 off1) L.length c1, zS 8 a2 OUT.length c2, zI 9 i, zB 10 true, zI 11 k, zB 64 false]) (fun _ => []) (fun _ => [decide (k < (↑OUT.length : Int)) = false]) (fun _ => ⟨by simp; omega, trivial⟩) (fun _ => ?_)
      refine cF ?_
      refine J_exit rfl ?_
      refine Sq mixed [zR 0] [] [1, 6, 7, 8, 9, 10, 11, 12] (fun _ => [zV 1 (.string text), zS 6 none 0 0, zS 7 (sA b1 off1) L.length c1, zS 8 a2 OUT.length c2, zI 9 i, zB 10 true, zI 11 k, zS 12 none 0 0]) (fun _ => []) (fun _ => ?_)
      refine J_seq ?_
      refine J_stp (stp_fact fun w S H => (H (_, _) (List.mem_of_getElem? (i := 3) rfl)).takeM k.toNat (by omega)) ?_
      refine J_stp (stp_accm eDot 65 3) ?_
      refine J_norm (C' := [cAcc (.slice none 0 0) 65 3 (List.map eDot [])]) (G' := [(.slice a n c, (D.sl 3 (List.map eCom l))), (.slice (some (⟨b1, off1, none⟩)) L.length c1, (D.sl 11 (List.map eDone L))), (.slice (a1_0, c1_0).fst ((List.map eDot x.o.dots).length) c1_0, (D.sl 3 (List.map eDot x.o.dots))), (.slice a2 OUT.length c2, (D.sl 3 (List.map eDot OUT))), (.slice a2 k.toNat c2, (D.sl 3 (List.map eDot (List.take k.toNat OUT))))]) (by kernel_rfl) (by kernel_rfl) ?_
      refine jB mixed [(0, true), (1, true), (2, true), (3, true), (4, false), (5, true)] [] ?_
      refine Gs (id := 12) (rest := [(4, false), (5, true)]) [zR 0, zR 1, zR 2, .rd 3 [] 0 4] [1, 6, 7, 8, 9, 10, 11, 12, 67, 70] (fun _ => [zV 1 (.string text), zS 6 none 0 0, zS 7 (sA b1 off1) L.length c1, zS 8 a2 OUT.length c2, zI 9 i, zB 10 true, zI 11 k, zS 12 none 0 0, zS 67 none 0 0, zS 70 a2 k.toNat c2]) (fun _ => []) (fun _ => [(0 : Int) ≤ k, k ≤ (↑c2 : Int)]) (fun _ => ⟨hk0, by omega, trivial⟩) (fun _ => ?_)
      refine JR_appm 0 22 65 3 24 (.agg #[.int .i64 0, .int .i64 0, .int .i64 0]) (a0 := none) (len := 0) (cap0 := 0) (ax := a2) (m := k.toNat) (c := c2) (dst := (some 71)) (List.take k.toNat OUT) (by kernel_rfl) (by kernel_rfl) (by kernel_rfl) (by kernel_rfl) rfl (by decide) rfl (fun _ _ _ s => src_fact s 4 rfl (by decide)) (by simp only [maxLen]; omega) (by omega) (fun av1 cv1 => ?_)
      rw [Nat.zero_add]
      try simp only [cAp, nAp, aNl]
      refine Gr (id := 12) (rest := []) [zR 5] [1, 6, 7, 8, 9, 10, 11, 12] (fun _ => [zV 1 (.string text), zS 6 none 0 0, zS 7 (sA b1 off1) L.length c1, zS 8 a2 OUT.length c2, zI 9 i, zB 10 true, zI 11 k, zS 12 av1 k.toNat cv1]) (fun _ => []) (fun _ => ?_)
      try simp only [cAp, nAp, aNl]
      refine JR_end ?_
      try simp only [cAp, nAp, aNl]
      refine J_seq ?_
      try simp only [cAp, nAp, aNl]
      refine J_again1 1 rfl 0 rfl i.toNat (map_at hx) (by kernel_rfl) (fun a2_0 c2_0 hrd2 => ?_)
      have hrd2_0 := rd0 (hrd2 0 _ rfl)
      have hrd2_1 := hrd2 1 _ rfl
      have hrd2_2 := hrd2 2 _ rfl
      have hrd2_3 := hrd2 3 _ rfl
      have hrd2_4 := hrd2 4 _ rfl
      have hrd2_5 := hrd2 5 _ rfl
      have hrd2_6 := hrd2 6 _ rfl
      have hrd2_7 := hrd2 7 _ rfl
      have hrd2_8 := hrd2 8 _ rfl
      have hrd2_9 := hrd2 9 _ rfl
      have hrd2_10 := hrd2 10 _ rfl
      try simp only [cAp, nAp, aNl]
      refine jB mixed [(0, true), (1, true), (2, true), (3, true), (4, true), (5, true), (6, false), (7, false), (8, true)] [] ?_
      refine Gs (id := 13) (rest := [(7, false), (8, true)]) [zR 0, zR 1, zR 2, .rd 3 [] 0 2, zR 4, .rd 5 [.r 0 (some (nI x.d.place)), .r 0 (some (nI x.d.time)), .r 0 (some (nI x.d.no))] 0 0, .wr 6 [] 0] [1, 6, 7, 8, 9, 10, 11, 12, 72, 78] (fun nu1 => [zV 1 (.string text), zS 6 none 0 0, zS 7 (sA b1 off1) L.length c1, zS 8 a2 OUT.length c2, zI 9 i, zB 10 true, zI 11 k, zS 12 av1 k.toNat cv1, zS 72 av1 k.toNat cv1, zS 78 (sA (nu1 0) 0) 1 1]) (fun nu1 => [(nu1 0, .cells #[nI x.d.place, nI x.d.time, nI x.d.no] 65 (0, 0))]) (fun nu1 => [(0 : Int) ≤ i, i < (↑L.length : Int), cs1[off1 + i.toNat * (11 : Nat) + (7 : Nat)]? = some (nI x.d.place), cs1[off1 + i.toNat * (11 : Nat) + (8 : Nat)]? = some (nI x.d.time), cs1[off1 + i.toNat * (11 : Nat) + (9 : Nat)]? = some (nI x.d.no)]) (fun _ => ⟨hi0, hlt2, hrd1_7, hrd1_8, hrd1_9, trivial⟩) (fun nu1 => ?_)
      refine JR_appm 0 22 65 3 24 (.agg #[.int .i64 0, .int .i64 0, .int .i64 0]) (a0 := av1) (len := k.toNat) (cap0 := cv1) (ax := (some (⟨nu1 0, 0, none⟩))) (m := 1) (c := 1) (dst := (some 79)) [x.d] (by kernel_rfl) (by kernel_rfl) (by kernel_rfl) (by kernel_rfl) rfl (by decide) rfl (fun _ _ _ s => src_one s 0 rfl rfl ⟨.inl ⟨rfl, rfl⟩, ⟨.inl ⟨rfl, rfl⟩, ⟨.inl ⟨rfl, rfl⟩, trivial⟩⟩⟩) (by simp only [maxLen]; omega) (by omega) (fun av2 cv2 => ?_)
      try simp only [cAp, nAp, aNl]
      refine Gr (id := 13) (rest := []) [zR 8] [1, 6, 7, 8, 9, 10, 11, 12] (fun _ => [zV 1 (.string text), zS 6 none 0 0, zS 7 (sA b1 off1) L.length c1, zS 8 a2 OUT.length c2, zI 9 i, zB 10 true, zI 11 k, zS 12 av2 (k.toNat + 1) cv2]) (fun _ => [(nu1 0, .cells #[nI x.d.place, nI x.d.time, nI x.d.no] 65 (0, 0))]) (fun _ => ?_)
      try simp only [cAp, nAp, aNl]
      refine JR_end ?_
      try simp only [cAp, nAp, aNl]
      have hkl : k = OUT.length := by omega
      have hnil : ∀ w S, Rep w S (.slice a2 0 0) (.sl 3 ((OUT.drop k.toNat).map eDot)) := fun w S => by
       rw [List.drop_of_length_le (by omega)]
       exact .nil
      by_cases hcc : OUT.length = c2
      ·refine J_stp (stp_fact fun w S _ => hnil w S) ?_
       refine J_norm (C' := [cAcc (.slice av2 (k.toNat + 1) cv2) 65 3 (List.map eDot (List.take k.toNat OUT ++ [x.d]))]) (G' := [(.slice a n c, (D.sl 3 (List.map eCom l))), (.slice (some (⟨b1, off1, none⟩)) L.length c1, (D.sl 11 (List.map eDone L))), (.slice a1_0 ((List.map eDot x.o.dots).length) c1_0, (D.sl 3 (List.map eDot x.o.dots))), (.slice a2 OUT.length c2, (D.sl 3 (List.map eDot OUT))), (.slice a2 k.toNat c2, (D.sl 3 (List.map eDot (List.take k.toNat OUT)))), (.slice (a2_0, c2_0).fst ((List.map eDot x.o.dots).length) c2_0, (D.sl 3 (List.map eDot x.o.dots))), (.slice a2 0 0, (D.sl 3 (List.map eDot (List.drop k.toNat OUT))))]) (by kernel_rfl) (by kernel_rfl) ?_
       refine jB mixed [(0, true), (1, true), (2, true), (3, true), (4, false), (5, true)] [] ?_
       refine Gs (id := 14) (rest := [(4, false), (5, true)]) [zR 0, zR 1, zR 2, .rd 3 [] 0 5] [1, 6, 7, 8, 9, 10, 11, 12, 80, 83] (fun _ => [zV 1 (.string text), zS 6 none 0 0, zS 7 (sA b1 off1) L.length c1, zS 8 a2 OUT.length c2, zI 9 i, zB 10 true, zI 11 k, zS 12 av2 (k.toNat + 1) cv2, zS 80 av2 (k.toNat + 1) cv2, zS 83 a2 0 0]) (fun _ => [(nu1 0, .cells #[nI x.d.place, nI x.d.time, nI x.d.no] 65 (0, 0))]) (fun _ => [k = (↑c2 : Int), OUT.length = c2]) (fun _ => ⟨by omega, hcc, trivial⟩) (fun _ => ?_)
       refine JR_appm 0 22 65 3 24 (.agg #[.int .i64 0, .int .i64 0, .int .i64 0]) (a0 := av2) (len := k.toNat + 1) (cap0 := cv2) (ax := a2) (m := 0) (c := 0) (dst := (some 84)) (List.drop k.toNat OUT) (by kernel_rfl) (by kernel_rfl) (by kernel_rfl) (by kernel_rfl) rfl (by decide) rfl (fun _ _ _ s => src_fact s 6 rfl (by decide)) (by simp only [maxLen]; omega) (by omega) (fun av3 cv3 => ?_)
       rw [e8]
       try simp only [cAp, nAp, aNl]
       refine Gr (id := 14) (rest := []) [zR 5] [1, 6, 7, 8, 9, 10, 11, 12] (fun _ => [zV 1 (.string text), zS 6 none 0 0, zS 7 (sA b1 off1) L.length c1, zS 8 av3 (k.toNat + 1) cv3, zI 9 i, zB 10 true, zI 11 k, zS 12 av2 (k.toNat + 1) cv2]) (fun _ => [(nu1 0, .cells #[nI x.d.place, nI x.d.time, nI x.d.no] 65 (0, 0))]) (fun _ => ?_)
       try simp only [cAp, nAp, aNl]
       refine JR_end ?_
       try simp only [cAp, nAp, aNl]
       refine J_eb ?_
       try simp only [cAp, nAp, aNl]
       refine Gp mixed [zR 0, .rd 1 [] 0 1, zR 2] [] [1, 6, 7, 8, 9, 10, 11, 12] (fun _ => [zV 1 (.string text), zS 6 none 0 0, zS 7 (sA b1 off1) L.length c1, zS 8 av3 (k.toNat + 1) cv3, zI 9 (i + 1), zB 10 true, zI 11 k, zS 12 av2 (k.toNat + 1) cv2]) (fun _ => [(nu1 0, .cells #[nI x.d.place, nI x.d.time, nI x.d.no] 65 (0, 0))]) (fun _ => [IntKind.i64.wrap (i + (1 : Int)) = i + (1 : Int)]) (fun _ => ⟨wrap_i64 (by omega) (by omega), trivial⟩) (fun _ => ?_)
       try simp only [cAp, nAp, aNl]
       refine J_stpx (stp_good 0 rfl) fun _ hga => ?_
       refine J_stp (stp_freeze 0 rfl) ?_
       refine J_norm (C' := []) (G' := [(.slice a n c, (D.sl 3 (List.map eCom l))), (.slice (some (⟨b1, off1, none⟩)) L.length c1, (D.sl 11 (List.map eDone L))), (.slice a1_0 ((List.map eDot x.o.dots).length) c1_0, (D.sl 3 (List.map eDot x.o.dots))), (.slice a2 OUT.length c2, (D.sl 3 (List.map eDot OUT))), (.slice a2 k.toNat c2, (D.sl 3 (List.map eDot (List.take k.toNat OUT)))), (.slice a2_0 ((List.map eDot x.o.dots).length) c2_0, (D.sl 3 (List.map eDot x.o.dots))), (.slice a2 0 0, (D.sl 3 (List.map eDot (List.drop k.toNat OUT)))), (.slice av3 (k.toNat + 1) cv3, (D.sl 3 (List.map eDot (outD K L (List.take (i + 1).toNat L) text))))]) (by kernel_rfl) (by kernel_rfl) ?_
       refine J_stp (stp_keep 7 rfl) ?_
       refine J_norm (C' := [(cRep (Value.slice av3 (k.toNat + 1) cv3) (D.sl 3 (List.map eDot (outD K L (List.take (i + 1).toNat L) text))))]) (G' := [(.slice a n c, (D.sl 3 (List.map eCom l))), (.slice (some (⟨b1, off1, none⟩)) L.length c1, (D.sl 11 (List.map eDone L))), (.slice a1_0 ((List.map eDot x.o.dots).length) c1_0, (D.sl 3 (List.map eDot x.o.dots))), (.slice a2 OUT.length c2, (D.sl 3 (List.map eDot OUT))), (.slice a2 k.toNat c2, (D.sl 3 (List.map eDot (List.take k.toNat OUT)))), (.slice a2_0 ((List.map eDot x.o.dots).length) c2_0, (D.sl 3 (List.map eDot x.o.dots))), (.slice a2 0 0, (D.sl 3 (List.map eDot (List.drop k.toNat OUT)))), (.slice av3 (k.toNat + 1) cv3, (D.sl 3 (List.map eDot (outD K L (List.take (i + 1).toNat L) text))))]) (by kernel_rfl) (by kernel_rfl) ?_
       refine J_backx ⟨i + 1, _, _, _⟩ [1, 6, 7, 8, 9] [] [0] [0, 1] ?_ ?_ (by kernel_rfl) rfl rfl rfl
       ·exact ⟨by simp only; omega, by simp only; omega, hga⟩
       ·simp only
        omega
      ·rcases hg2 with ⟨rfl, rfl⟩ | ⟨b, off, rfl⟩
       ·omega
       ·refine J_stp (stp_fact fun w S H => (H (_, _) (List.mem_of_getElem? (i := 3) rfl)).dropM k.toNat (by omega)) ?_
        refine J_norm (C' := [cAcc (.slice av2 (k.toNat + 1) cv2) 65 3 (List.map eDot (List.take k.toNat OUT ++ [x.d]))]) (G' := [(.slice a n c, (D.sl 3 (List.map eCom l))), (.slice (some (⟨b1, off1, none⟩)) L.length c1, (D.sl 11 (List.map eDone L))), (.slice a1_0 ((List.map eDot x.o.dots).length) c1_0, (D.sl 3 (List.map eDot x.o.dots))), (.slice (some (⟨b, off, none⟩)) OUT.length c2, (D.sl 3 (List.map eDot OUT))), (.slice (some (⟨b, off, none⟩)) k.toNat c2, (D.sl 3 (List.map eDot (List.take k.toNat OUT)))), (.slice (a2_0, c2_0).fst ((List.map eDot x.o.dots).length) c2_0, (D.sl 3 (List.map eDot x.o.dots))), (.slice (some (⟨b, off + k.toNat * 3, none⟩)) (OUT.length - k.toNat) (c2 - k.toNat), (D.sl 3 (List.map eDot (List.drop k.toNat OUT))))]) (by kernel_rfl) (by kernel_rfl) ?_
        refine jB mixed [(0, true), (1, true), (2, true), (3, true), (4, false), (5, true)] [] ?_
        refine Gs (id := 14) (rest := [(4, false), (5, true)]) [zR 0, zR 1, zR 2, .rd 3 [] 0 4] [1, 6, 7, 8, 9, 10, 11, 12, 80, 83] (fun _ => [zV 1 (.string text), zS 6 none 0 0, zS 7 (sA b1 off1) L.length c1, zS 8 (sA b off) OUT.length c2, zI 9 i, zB 10 true, zI 11 k, zS 12 av2 (k.toNat + 1) cv2, zS 80 av2 (k.toNat + 1) cv2, zS 83 (sA b (off + k.toNat * 3)) (OUT.length - k.toNat) (c2 - k.toNat)]) (fun _ => [(nu1 0, .cells #[nI x.d.place, nI x.d.time, nI x.d.no] 65 (0, 0))]) (fun _ => [(0 : Int) ≤ k, k ≤ (↑OUT.length : Int), k < (↑c2 : Int)]) (fun _ => ⟨hk0, hk, by omega, trivial⟩) (fun _ => ?_)
        refine JR_appm 0 22 65 3 24 (.agg #[.int .i64 0, .int .i64 0, .int .i64 0]) (a0 := av2) (len := k.toNat + 1) (cap0 := cv2) (ax := (some (⟨b, off + k.toNat * 3, none⟩))) (m := OUT.length - k.toNat) (c := c2 - k.toNat) (dst := (some 84)) (List.drop k.toNat OUT) (by kernel_rfl) (by kernel_rfl) (by kernel_rfl) (by kernel_rfl) rfl (by decide) rfl (fun _ _ _ s => src_fact s 6 rfl (by decide)) (by simp only [maxLen]; omega) (by omega) (fun av3 cv3 => ?_)
        rw [e8]
        try simp only [cAp, nAp, aNl]
        refine Gr (id := 14) (rest := []) [zR 5] [1, 6, 7, 8, 9, 10, 11, 12] (fun _ => [zV 1 (.string text), zS 6 none 0 0, zS 7 (sA b1 off1) L.length c1, zS 8 av3 (k.toNat + 1 + (OUT.length - k.toNat)) cv3, zI 9 i, zB 10 true, zI 11 k, zS 12 av2 (k.toNat + 1) cv2]) (fun _ => [(nu1 0, .cells #[nI x.d.place, nI x.d.time, nI x.d.no] 65 (0, 0))]) (fun _ => ?_)
        try simp only [cAp, nAp, aNl]
        refine JR_end ?_
        try simp only [cAp, nAp, aNl]
        refine J_eb ?_
        try simp only [cAp, nAp, aNl]
        refine Gp mixed [zR 0, .rd 1 [] 0 1, zR 2] [] [1, 6, 7, 8, 9, 10, 11, 12] (fun _ => [zV 1 (.string text), zS 6 none 0 0, zS 7 (sA b1 off1) L.length c1, zS 8 av3 (k.toNat + 1 + (OUT.length - k.toNat)) cv3, zI 9 (i + 1), zB 10 true, zI 11 k, zS 12 av2 (k.toNat + 1) cv2]) (fun _ => [(nu1 0, .cells #[nI x.d.place, nI x.d.time, nI x.d.no] 65 (0, 0))]) (fun _ => [IntKind.i64.wrap (i + (1 : Int)) = i + (1 : Int)]) (fun _ => ⟨wrap_i64 (by omega) (by omega), trivial⟩) (fun _ => ?_)
        try simp only [cAp, nAp, aNl]
        refine J_stpx (stp_good 0 rfl) fun _ hga => ?_
        refine J_stp (stp_freeze 0 rfl) ?_
        refine J_norm (C' := []) (G' := [(.slice a n c, (D.sl 3 (List.map eCom l))), (.slice (some (⟨b1, off1, none⟩)) L.length c1, (D.sl 11 (List.map eDone L))), (.slice a1_0 ((List.map eDot x.o.dots).length) c1_0, (D.sl 3 (List.map eDot x.o.dots))), (.slice (some (⟨b, off, none⟩)) OUT.length c2, (D.sl 3 (List.map eDot OUT))), (.slice (some (⟨b, off, none⟩)) k.toNat c2, (D.sl 3 (List.map eDot (List.take k.toNat OUT)))), (.slice a2_0 ((List.map eDot x.o.dots).length) c2_0, (D.sl 3 (List.map eDot x.o.dots))), (.slice (some (⟨b, off + k.toNat * 3, none⟩)) (OUT.length - k.toNat) (c2 - k.toNat), (D.sl 3 (List.map eDot (List.drop k.toNat OUT)))), (.slice av3 (k.toNat + 1 + (OUT.length - k.toNat)) cv3, (D.sl 3 (List.map eDot (outD K L (List.take (i + 1).toNat L) text))))]) (by kernel_rfl) (by kernel_rfl) ?_
        refine J_stp (stp_keep 7 rfl) ?_
        refine J_norm (C' := [(cRep (Value.slice av3 (k.toNat + 1 + (OUT.length - k.toNat)) cv3) (D.sl 3 (List.map eDot (outD K L (List.take (i + 1).toNat L) text))))]) (G' := [(.slice a n c, (D.sl 3 (List.map eCom l))), (.slice (some (⟨b1, off1, none⟩)) L.length c1, (D.sl 11 (List.map eDone L))), (.slice a1_0 ((List.map eDot x.o.dots).length) c1_0, (D.sl 3 (List.map eDot x.o.dots))), (.slice (some (⟨b, off, none⟩)) OUT.length c2, (D.sl 3 (List.map eDot OUT))), (.slice (some (⟨b, off, none⟩)) k.toNat c2, (D.sl 3 (List.map eDot (List.take k.toNat OUT)))), (.slice a2_0 ((List.map eDot x.o.dots).length) c2_0, (D.sl 3 (List.map eDot x.o.dots))), (.slice (some (⟨b, off + k.toNat * 3, none⟩)) (OUT.length - k.toNat) (c2 - k.toNat), (D.sl 3 (List.map eDot (List.drop k.toNat OUT)))), (.slice av3 (k.toNat + 1 + (OUT.length - k.toNat)) cv3, (D.sl 3 (List.map eDot (outD K L (List.take (i + 1).toNat L) text))))]) (by kernel_rfl) (by kernel_rfl) ?_
        refine J_backx ⟨i + 1, _, _, _⟩ [1, 6, 7, 8, 9] [] [0] [0, 1] ?_ ?_ (by kernel_rfl) rfl rfl rfl
        ·exact ⟨by simp only; omega, by simp only; omega, hga⟩
        ·simp only
         omega
   ·have hkb : (x.o.text.toList == text.toList) = false := by rw [strEq, decide_eq_false htt]
    rw [hskip fun h => htt h.2.1]
    try simp only [cAp, nAp, aNl]
    refine Gr (id := 6) (rest := []) [zR 6] [1, 6, 7, 8, 9, 10] (fun _ => [zV 1 (.string text), zS 6 none 0 0, zS 7 (sA b1 off1) L.length c1, zS 8 a2 n2 c2, zI 9 i, zB 10 (!x.o.remove && !goneB L x.o.text x.d)]) (fun _ => []) (fun _ => ?_)
    refine JR_end ?_
    refine J_seq ?_
    refine Sp mixed [zR 0, zR 1, .rd 2 [] 0 2, zR 3, zR 4, .rd 5 [.r 0 (some (nI x.o.kind))] 0 0, .rd 6 [] 0 7, zR 7, zR 8, zR 9, .rd 10 [] 0 2, zR 11, zR 12, .rd 13 [.r 0 (some (.string x.o.text))] 0 0, zR 14, .rd 15 [] 0 6, zR 16, zR 17, .rd 18 [] 1 0, .rd 19 [] 1 0, zR 20] [] [1, 6, 7, 8, 9, 10, 48] (fun _ => [zV 1 (.string text), zS 6 none 0 0, zS 7 (sA b1 off1) L.length c1, zS 8 a2 n2 c2, zI 9 i, zB 10 (!x.o.remove && !goneB L x.o.text x.d), zB 48 true]) (fun _ => []) (fun _ => [(0 : Int) ≤ i, i < (↑L.length : Int), cs1[off1 + i.toNat * (11 : Nat) + (2 : Nat)]? = some (nI x.o.kind), (x.o.kind != (3 : Int)) = false, (0 : Int) ≤ i, i < (↑L.length : Int), cs1[off1 + i.toNat * (11 : Nat) + (3 : Nat)]? = some (Value.string x.o.text), (!x.o.text.toList == text.toList) = true]) (fun _ => ⟨hi0, hlt2, hrd1_2, by simp; omega, hi0, hlt2, hrd1_3, by simp [*]; done, trivial⟩) (fun _ => ?_)
    refine cTt ?_
    refine J_exit rfl ?_
    refine Gp mixed [zR 0, .rd 1 [] 0 1, zR 2] [] [1, 6, 7, 8, 9, 10] (fun _ => [zV 1 (.string text), zS 6 none 0 0, zS 7 (sA b1 off1) L.length c1, zS 8 a2 n2 c2, zI 9 (i + 1), zB 10 (!x.o.remove && !goneB L x.o.text x.d)]) (fun _ => []) (fun _ => [IntKind.i64.wrap (i + (1 : Int)) = i + (1 : Int)]) (fun _ => ⟨wrap_i64 (by omega) (by omega), trivial⟩) (fun _ => ?_)
    refine J_backx ⟨i + 1, _, _, _⟩ [1, 6, 7, 8, 9] [] [0] [0, 1] ?_ ?_ (by kernel_rfl) rfl rfl rfl
    ·exact ⟨by simp only; omega, by simp only; omega, hg2⟩
    ·simp only
     omega
  ·have hxk3 : ¬ x.o.kind = 3 := by omega
   rw [hskip fun h => h3 h.1]
   try simp only [cAp, nAp, aNl]
   refine Gr (id := 6) (rest := []) [zR 6] [1, 6, 7, 8, 9, 10] (fun _ => [zV 1 (.string text), zS 6 none 0 0, zS 7 (sA b1 off1) L.length c1, zS 8 a2 n2 c2, zI 9 i, zB 10 (!x.o.remove && !goneB L x.o.text x.d)]) (fun _ => []) (fun _ => ?_)
   refine JR_end ?_
   refine J_seq ?_
   refine Sp mixed [zR 0, zR 1, .rd 2 [] 0 2, zR 3, zR 4, .rd 5 [.r 0 (some (nI x.o.kind))] 0 0, .rd 6 [] 0 6, zR 7, .rd 8 [] 1 0, .rd 9 [] 1 0, .rd 10 [] 1 0, .rd 11 [] 1 0, .rd 12 [] 1 0, .rd 13 [] 1 0, .rd 14 [] 1 0, .rd 15 [] 1 0, zR 16, zR 17, .rd 18 [] 1 0, .rd 19 [] 1 0, zR 20] [] [1, 6, 7, 8, 9, 10, 48] (fun _ => [zV 1 (.string text), zS 6 none 0 0, zS 7 (sA b1 off1) L.length c1, zS 8 a2 n2 c2, zI 9 i, zB 10 (!x.o.remove && !goneB L x.o.text x.d), zB 48 true]) (fun _ => []) (fun _ => [(0 : Int) ≤ i, i < (↑L.length : Int), cs1[off1 + i.toNat * (11 : Nat) + (2 : Nat)]? = some (nI x.o.kind), (x.o.kind != (3 : Int)) = true]) (fun _ => ⟨hi0, hlt2, hrd1_2, by simp; omega, trivial⟩) (fun _ => ?_)
   refine cTt ?_
   refine J_exit rfl ?_
   refine Gp mixed [zR 0, .rd 1 [] 0 1, zR 2] [] [1, 6, 7, 8, 9, 10] (fun _ => [zV 1 (.string text), zS 6 none 0 0, zS 7 (sA b1 off1) L.length c1, zS 8 a2 n2 c2, zI 9 (i + 1), zB 10 (!x.o.remove && !goneB L x.o.text x.d)]) (fun _ => []) (fun _ => [IntKind.i64.wrap (i + (1 : Int)) = i + (1 : Int)]) (fun _ => ⟨wrap_i64 (by omega) (by omega), trivial⟩) (fun _ => ?_)
   refine J_backx ⟨i + 1, _, _, _⟩ [1, 6, 7, 8, 9] [] [0] [0, 1] ?_ ?_ (by kernel_rfl) rfl rfl rfl
   ·exact ⟨by simp only; omega, by simp only; omega, hg2⟩
   ·simp only
    omega
 ·have hil : L.take i.toNat = L := List.take_of_length_le (by simp at hlt; omega)
  rw [hil]
  refine J_exit rfl ?_
  refine Sq mixed [zR 0, zR 1] [] [6] (fun _ => [zS 6 a2 n2 c2]) (fun _ => []) (fun _ => ?_)
  refine J_return [[]] (.slice a2 n2 c2) (by kernel_rfl) (fun a w s => ?_)
  exact ⟨_, _, _, (s.stp (stp_rep 0 rfl)).ret (by simp) [] [2] rfl rfl⟩
end Go.Proofs.YtpjkiomccpjboaaGreatDoor
end
section
namespace Go.Proofs.YtpjkiomccpjboaaGreatDoor
open Go Go.Sx
theorem faultedErr {w : World} {S : Nat → Prop} {er : Nat → Addr} {eb : Nat → Array Value × TypeId} {k : Nat} {a : Int} {v : Value} (hC : Rep w S .nilIface (dC er eb)) (hI : Inj er) (hk : k ≤ 12) (hv : ErrIs 243 er k v) (ha : a = -1) :
  Calls Tryz.prog 16 #[v, .agg #[.int .i64 k, .int .i64 a]] w fun e w' => Ret [] w S w' e (.bool true) [] [] := by
 subst ha
 have hv1 : v.oneCell' = true := by rcases hv with ⟨_, rfl⟩ | ⟨_, rfl⟩ <;> rfl
 refine ep16 (args := [v, .agg #[.int .i64 k, .int .i64 (-1)]]) (G := [(_, dC er eb)]) (by kernel_rfl) (.cons hC (.nil _ _)) ?_
 refine Sq mixed [.wr 0 [] 0, zR 1] [] [0, 3, 4] (fun nu1 => [zV 0 v, zP 3 (nu1 0), zB 4 false]) (fun nu1 => [(nu1 0, .cells #[nI (↑k : Int), nI (-1)] 40 (0, 0))]) (fun nu1 => ?_)
 refine J_seq ?_
 refine jB mixed [(0, true), (1, false), (2, true), (3, true), (4, true), (5, true), (6, true)] [] ?_
 refine Gr (id := 1) (rest := [(1, false), (2, true), (3, true), (4, true), (5, true), (6, true)]) [zR 0] [3, 4, 8] (fun _ => [zP 3 (nu1 0), zB 4 false, zV 8 v]) (fun _ => [(nu1 0, .cells #[nI (↑k : Int), nI (-1)] 40 (0, 0))]) (fun _ => ?_)
 refine JR_callp [] 53 #[v] (some 9) (by kernel_rfl) (fun w S hG => ?_)
 refine (codeErr (hG.at 0 rfl) hI hk hv).mono ?_
 rintro e1 w1 hR
 refine ⟨_, _, _, hR, ?_⟩
 by_cases h0 : k = 0
 ·subst h0
  try simp only [cAp, nAp, aNl]
  refine Gr (id := 1) (rest := []) [zR 2, zR 3, zR 4, zR 5, zR 6] [3, 4, 5, 6] (fun _ => [zP 3 (nu1 0), zB 4 false, zI 5 0, zI 6 (-1)]) (fun _ => [(nu1 0, .cells #[nI 0, nI (-1)] 40 (0, 0))]) (fun _ => ?_)
  refine JR_end ?_
  refine Sq mixed [zR 0, zR 1, .rd 2 [.o 0 none] 0 0, zR 3, zR 4, zR 5, zR 6, zR 7, .rd 8 [] 1 0, .rd 9 [] 1 0, .rd 10 [] 1 0, .rd 11 [] 1 0, zR 12, zR 13, zR 14] [] [4] (fun _ => [zB 4 true]) (fun _ => [(nu1 0, .cells #[nI 0, nI (-1)] 40 (0, 0))]) (fun _ => ?_)
  refine J_return [[]] (.bool true) (by kernel_rfl) (fun a w s => ?_)
  exact s.ret (by simp) [] [] rfl rfl
 ·try simp only [List.cons_append, List.nil_append, List.append_nil]
  refine Gr (id := 1) (rest := []) [zR 2, zR 3, zR 4, zR 5, zR 6] [3, 4, 5, 6] (fun _ => [zP 3 (nu1 0), zB 4 false, zI 5 (↑k : Int), zI 6 (-1)]) (fun _ => [(nu1 0, .cells #[nI (↑k : Int), nI (-1)] 40 (0, 0))]) (fun _ => ?_)
  refine JR_end ?_
  refine Sp mixed [zR 0, zR 1, .rd 2 [.o 0 none] 0 0, .rd 3 [] 0 6, zR 4, zR 5, .rd 6 [] 0 7, zR 7, zR 8, zR 9, .rd 10 [.o 0 none] 0 0, zR 11, zR 12, zR 13, zR 14] [] [4] (fun _ => [zB 4 true]) (fun _ => [(nu1 0, .cells #[nI (↑k : Int), nI (-1)] 40 (0, 0))]) (fun _ => [((↑k : Int) == (↑k : Int)) = true, ((↑k : Int) == (0 : Int)) = false]) (fun _ => ⟨by simp, by simp; omega, trivial⟩) (fun _ => ?_)
  refine J_return [[]] (.bool true) (by kernel_rfl) (fun a w s => ?_)
  exact s.ret (by simp) [] [] rfl rfl
theorem faultedAt {w : World} {S : Nat → Prop} {er : Nat → Addr} {eb : Nat → Array Value × TypeId} {k pb : Nat} {at' : Int} (hC : Rep w S .nilIface (dC er eb)) (hI : Inj er) (h1 : 1 ≤ k) (hk : k ≤ 12) (hp : Rep w S (.pointer (some ⟨pb, 0, none⟩)) (.ptr [.v (.int .i64 at'), .v (.iface 243 (.pointer (some (er k))))])) :
  Calls Tryz.prog 16 #[.iface 102 (.pointer (some ⟨pb, 0, none⟩)), .agg #[.int .i64 k, .int .i64 at']] w fun e w' => Ret [] w S w' e (.bool true) [] [] := by
 refine ep16 (args := [.iface 102 (.pointer (some ⟨pb, 0, none⟩)), .agg #[.int .i64 k, .int .i64 at']]) (G := [(_, dC er eb), (_, .ptr [.v (.int .i64 at'), .v (.iface 243 (.pointer (some (er k))))])]) (by kernel_rfl) (.cons hC (.cons hp (.nil _ _))) ?_
 refine Sq mixed [.wr 0 [] 0, zR 1] [] [0, 3, 4] (fun nu1 => [zV 0 (.iface 102 (.pointer (sA pb 0))), zP 3 (nu1 0), zB 4 false]) (fun nu1 => [(nu1 0, .cells #[nI (↑k : Int), nI at'] 40 (0, 0))]) (fun nu1 => ?_)
 refine J_seq ?_
 refine jB mixed [(0, true), (1, false), (2, true), (3, true), (4, true), (5, true), (6, true)] [] ?_
 refine Gr (id := 1) (rest := [(1, false), (2, true), (3, true), (4, true), (5, true), (6, true)]) [zR 0] [3, 4, 8] (fun _ => [zP 3 (nu1 0), zB 4 false, zV 8 (.iface 102 (.pointer (sA pb 0)))]) (fun _ => [(nu1 0, .cells #[nI (↑k : Int), nI at'] 40 (0, 0))]) (fun _ => ?_)
 refine JR_callp [] 53 #[.iface 102 (.pointer (some (⟨pb, 0, none⟩)))] (some 9) (by kernel_rfl) (fun w S hG => ?_)
 refine (codeFault (hG.at 0 rfl) hI h1 hk (hG.at 1 rfl)).mono ?_
 rintro e1 w1 hR
 refine ⟨_, _, _, hR, ?_⟩
 have h0 : ¬ k = 0 := by omega
 try simp only [cAp, nAp, aNl]
 refine Gr (id := 1) (rest := []) [zR 2, zR 3, zR 4, zR 5, zR 6] [3, 4, 5, 6] (fun _ => [zP 3 (nu1 0), zB 4 false, zI 5 (↑k : Int), zI 6 at']) (fun _ => [(nu1 0, .cells #[nI (↑k : Int), nI at'] 40 (0, 0))]) (fun _ => ?_)
 refine JR_end ?_
 refine Sp mixed [zR 0, zR 1, .rd 2 [.o 0 none] 0 0, .rd 3 [] 0 6, zR 4, zR 5, .rd 6 [] 0 7, zR 7, zR 8, zR 9, .rd 10 [.o 0 none] 0 0, .rd 11 [] 0 6, zR 12, zR 13, zR 14] [] [4] (fun _ => [zB 4 true]) (fun _ => [(nu1 0, .cells #[nI (↑k : Int), nI at'] 40 (0, 0))]) (fun _ => [((↑k : Int) == (↑k : Int)) = true, ((↑k : Int) == (0 : Int)) = false, (at' == at') = true]) (fun _ => ⟨by simp, by simp; omega, by simp, trivial⟩) (fun _ => ?_)
 refine J_return [[]] (.bool true) (by kernel_rfl) (fun a w s => ?_)
 exact s.ret (by simp) [] [] rfl rfl
end Go.Proofs.YtpjkiomccpjboaaGreatDoor
end
section
namespace Go.Proofs.YtpjkiomccpjboaaGreatDoor
open Go Go.Sx
theorem valFault_name {key : ByteArray} {l : List ComT} (h : nameOk key = true) : valFault key l = listFault l := by
 rw [valFault, if_neg (by simp [h])]
theorem valFault_no {key : ByteArray} {l : List ComT} (h : nameOk key = false) : valFault key l = ⟨4, -1⟩ := by
 rw [valFault, if_pos h]
theorem dotsOf_len {key text : ByteArray} {l : List ComT} (h : (valFault key l).code = 0) : (dotsOf key text l).length ≤ 12 * l.length := by
 unfold dotsOf
 split
 ·rw [sortDots, List.length_mergeSort]
  exact Nat.le_trans (textDots_len _ _) (ofKey_len h)
 ·simp
set_option maxHeartbeats 4000000 in
theorem valuesOf {w : World} {S : Nat → Prop} {er : Nat → Addr} {eb : Nat → Array Value × TypeId} {a : Option Addr} {n c : Nat} {key text : ByteArray} {l : List ComT} (hC : Rep w S .nilIface (dC er eb)) (hI : Inj er) (h : Rep w S (.slice a n c) (.sl 3 (l.map eCom))) :
  Calls Tryz.prog 4 #[.string key, .string text, .slice a n c] w fun e w' => Ret [] (zero w) S w' e (.bool true) [] [] := by
 have e1 := h.slen
 rw [List.length_map] at e1
 subst e1
 refine ep4 (args := [.string key, .string text, .slice a l.length c]) (S := S) (G := [(_, dC er eb), (_, .sl 3 (l.map eCom))]) (by kernel_rfl) (.cons hC (.cons h (.nil _ _))) ?_
 refine J_zero ?_
 refine Sq mixed [zR 0] [] [0, 1, 2, 6] (fun _ => [zV 0 (.string key), zV 1 (.string text), zS 2 a l.length c, zB 6 false]) (fun _ => []) (fun _ => ?_)
 refine J_seq ?_
 refine jB mixed [(0, false), (1, true)] [] ?_
 refine JR_callp [] 11 #[] (some 14) (by kernel_rfl) (fun w S hG => ?_)
 refine (worth (hG.at 0 rfl)).mono ?_
 rintro e1 w1 hR
 refine ⟨_, _, _, hR, ?_⟩
 by_cases hkey : key.size ≤ 60
 case neg =>
  try simp only [cAp, nAp, aNl]
  refine Gr (id := 1) (rest := []) [zR 1] [0, 1, 2, 6, 7] (fun _ => [zV 0 (.string key), zV 1 (.string text), zS 2 a l.length c, zB 6 false, zB 7 true]) (fun _ => []) (fun _ => ?_)
  refine JR_end ?_
  refine J_seq ?_
  refine Sp mixed [zR 0, zR 1, zR 2, zR 3, zR 4, .rd 5 [] 0 6, zR 6, zR 7, .rd 8 [] 1 0, .rd 9 [] 1 0, .rd 10 [] 1 0, zR 11, zR 12, .rd 13 [] 1 0, .wr 14 [] 1, zR 15] [] [0, 1, 2, 6, 7, 30] (fun _ => [zV 0 (.string key), zV 1 (.string text), zS 2 a l.length c, zB 6 false, zB 7 true, zB 30 true]) (fun _ => []) (fun _ => [decide ((↑key.size : Int) > (60 : Int)) = true]) (fun _ => ⟨by simp; omega, trivial⟩) (fun _ => ?_)
  refine cTt ?_
  refine Sq mixed [zR 0, zR 1] [] [0, 1, 2, 6] (fun _ => [zV 0 (.string key), zV 1 (.string text), zS 2 a l.length c, zB 6 true]) (fun _ => []) (fun _ => ?_)
  refine J_return [[]] (.bool true) (by kernel_rfl) (fun a w s => ?_)
  exact s.retz (by simp) [] [] rfl rfl
 by_cases htx : text.size ≤ 200
 case neg =>
  try simp only [cAp, nAp, aNl]
  refine Gr (id := 1) (rest := []) [zR 1] [0, 1, 2, 6, 7] (fun _ => [zV 0 (.string key), zV 1 (.string text), zS 2 a l.length c, zB 6 false, zB 7 true]) (fun _ => []) (fun _ => ?_)
  refine JR_end ?_
  refine J_seq ?_
  refine Sp mixed [zR 0, zR 1, zR 2, zR 3, zR 4, .rd 5 [] 0 7, zR 6, zR 7, zR 8, zR 9, .rd 10 [] 0 6, zR 11, zR 12, .rd 13 [] 1 0, .wr 14 [] 1, zR 15] [] [0, 1, 2, 6, 7, 30] (fun _ => [zV 0 (.string key), zV 1 (.string text), zS 2 a l.length c, zB 6 false, zB 7 true, zB 30 true]) (fun _ => []) (fun _ => [decide ((↑key.size : Int) > (60 : Int)) = false, decide ((↑text.size : Int) > (200 : Int)) = true]) (fun _ => ⟨by simp; omega, by simp; omega, trivial⟩) (fun _ => ?_)
  refine cTt ?_
  refine Sq mixed [zR 0, zR 1] [] [0, 1, 2, 6] (fun _ => [zV 0 (.string key), zV 1 (.string text), zS 2 a l.length c, zB 6 true]) (fun _ => []) (fun _ => ?_)
  refine J_return [[]] (.bool true) (by kernel_rfl) (fun a w s => ?_)
  exact s.retz (by simp) [] [] rfl rfl
 try simp only [cAp, nAp, aNl]
 refine Gr (id := 1) (rest := []) [zR 1] [0, 1, 2, 6, 7] (fun _ => [zV 0 (.string key), zV 1 (.string text), zS 2 a l.length c, zB 6 false, zB 7 true]) (fun _ => []) (fun _ => ?_)
 refine JR_end ?_
 refine J_seq ?_
 refine J_seq ?_
 refine jB mixed [(0, true), (1, true), (2, true), (3, true), (4, true), (5, true), (6, true), (7, true), (8, true), (9, true), (10, true), (11, true), (12, true), (13, true), (14, false), (15, true)] [] ?_
 refine Gs (id := 2) (rest := [(14, false), (15, true)]) [zR 0, zR 1, zR 2, zR 3, zR 4, .rd 5 [] 0 7, zR 6, zR 7, zR 8, zR 9, .rd 10 [] 0 7, zR 11, zR 12, zR 13] [0, 1, 2, 6, 7, 27, 28] (fun _ => [zV 0 (.string key), zV 1 (.string text), zS 2 a l.length c, zB 6 false, zB 7 true, zB 27 false, zS 28 a l.length c]) (fun _ => []) (fun _ => [decide ((↑key.size : Int) > (60 : Int)) = false, decide ((↑text.size : Int) > (200 : Int)) = false]) (fun _ => ⟨by simp; omega, by simp; omega, trivial⟩) (fun _ => ?_)
 refine JR_callp [] 20 #[.slice a l.length c] (some 29) (by kernel_rfl) (fun w S hG => ?_)
 refine (heavyB (hG.at 1 rfl)).mono ?_
 rintro e2 w2 hR
 refine ⟨_, _, _, hR, ?_⟩
 cases hhv : heavyL l with
 | true =>
  try simp only [cAp, nAp, aNl]
  refine Gr (id := 2) (rest := []) [zR 15] [0, 1, 2, 6, 7, 30] (fun _ => [zV 0 (.string key), zV 1 (.string text), zS 2 a l.length c, zB 6 false, zB 7 true, zB 30 true]) (fun _ => []) (fun _ => ?_)
  refine JR_end ?_
  refine cTt ?_
  refine Sq mixed [zR 0, zR 1] [] [0, 1, 2, 6] (fun _ => [zV 0 (.string key), zV 1 (.string text), zS 2 a l.length c, zB 6 true]) (fun _ => []) (fun _ => ?_)
  refine J_return [[]] (.bool true) (by kernel_rfl) (fun a w s => ?_)
  exact s.retz (by simp) [] [] rfl rfl
 | false =>
  obtain ⟨hl30, hlc⟩ := light hhv
  have hcode := valFault_code key l
  have hw1 : ∀ x ∈ l, x.when.length ≤ 1000000 := fun x hx => by have := light_com (hlc x hx); omega
  have ho1 : ∀ x ∈ l, x.ops.length ≤ 1000000 := fun x hx => by have := light_com (hlc x hx); omega
  try simp only [cAp, nAp, aNl]
  refine Gr (id := 2) (rest := []) [zR 15] [0, 1, 2, 6, 7, 30] (fun _ => [zV 0 (.string key), zV 1 (.string text), zS 2 a l.length c, zB 6 false, zB 7 true, zB 30 false]) (fun _ => []) (fun _ => ?_)
  refine JR_end ?_
  refine cF ?_
  refine J_skip ?_
  refine J_seq ?_
  refine jB mixed [(0, true), (1, true), (2, false), (3, false), (4, true), (5, true), (6, true), (7, false), (8, false), (9, true)] [] ?_
  refine Gr (id := 4) (rest := [(2, false), (3, false), (4, true), (5, true), (6, true), (7, false), (8, false), (9, true)]) [zR 0, zR 1] [0, 1, 2, 6, 33, 34] (fun _ => [zV 0 (.string key), zV 1 (.string text), zS 2 a l.length c, zB 6 false, zV 33 (.string key), zS 34 a l.length c]) (fun _ => []) (fun _ => ?_)
  refine JR_callp [] 22 #[.slice a l.length c] (some 35) (by kernel_rfl) (fun w S hG => ?_)
  refine (ownCommits (hG.at 1 rfl) (by omega) hw1 ho1 (fun x hx o ho => by have := (light_com (hlc x hx)).2.2 o ho; omega)).mono ?_
  rintro e3 w3 ⟨a3, n3, c3, hR⟩
  refine ⟨_, _, _, hR, ?_⟩
  try simp only [cAp, nAp, aNl]
  refine JR_callzp [] 21 #[.string key, .slice a3 n3 c3] (some 36) zero_all (by kernel_rfl) (fun w S hG => ?_)
  refine (vOf (key := key) (hG.at 0 rfl) (hG.at 2 rfl) (by omega) hw1 ho1).mono ?_
  rintro e4 w4 (⟨hc, ⟨hat, v, hR, hv⟩ | ⟨hc1, hat, pb, hR⟩⟩ | ⟨hc, ua, un, uc, hR⟩)
  ·refine ⟨_, _, _, hR, ?_⟩
   have hvo : v.oneCell' = true := by rcases hv with ⟨_, rfl⟩ | ⟨_, rfl⟩ <;> rfl
   try simp only [cAp, nAp, aNl]
   refine Gr (id := 4) (rest := []) [zR 4, zR 5, zR 6, .wr 7 [] 0, .wr 8 [.o 0 none, .o 0 none, .o 0 none, .o 0 none] 0, zR 9] [0, 1, 2, 6, 8, 9] (fun nu1 => [zV 0 (.string key), zV 1 (.string text), zS 2 a l.length c, zB 6 false, zP 8 (nu1 0), zV 9 v]) (fun nu1 => [(nu1 0, .cells #[nI 0, .string (ByteArray.mk #[]), nI 0, .slice none 0 0] 47 (0, 0))]) (fun nu1 => ?_)
   refine JR_end ?_
   refine J_seq ?_
   refine jB mixed [(0, true), (1, true), (2, true), (3, false), (4, false), (5, true), (6, true), (7, true), (8, true), (9, true)] [] ?_
   refine Gr (id := 5) (rest := [(3, false), (4, false), (5, true), (6, true), (7, true), (8, true), (9, true)]) [zR 0, zR 1, zR 2] [0, 1, 2, 6, 8, 9, 40, 41, 42] (fun _ => [zV 0 (.string key), zV 1 (.string text), zS 2 a l.length c, zB 6 false, zP 8 (nu1 0), zV 9 v, zV 40 (.string key), zV 41 (.string text), zS 42 a l.length c]) (fun _ => [(nu1 0, .cells #[nI 0, .string (ByteArray.mk #[]), nI 0, .slice none 0 0] 47 (0, 0))]) (fun _ => ?_)
   refine JR_callp [] 22 #[.slice a l.length c] (some 43) (by kernel_rfl) (fun w S hG => ?_)
   refine (ownCommits (hG.at 1 rfl) (by omega) hw1 ho1 (fun x hx o ho => by have := (light_com (hlc x hx)).2.2 o ho; omega)).mono ?_
   rintro e5 w5 ⟨a5, n5, c5, hR⟩
   refine ⟨_, _, _, hR, ?_⟩
   try simp only [cAp, nAp, aNl]
   refine JR_callp [] 23 #[.string key, .string text, .slice a5 n5 c5] (some 44) (by kernel_rfl) (fun w S hG => ?_)
   refine (vDots (key := key) (text := text) (hG.at 0 rfl) (hG.at 3 rfl) (by omega) hw1 ho1).mono ?_
   rintro e6 w6 (⟨_, ⟨_, u, hR, hu⟩ | ⟨_, hat2, _, _⟩⟩ | ⟨hc6, _⟩)
   case inl.inr => exact absurd hat2 (by omega)
   case inr => exact absurd hc6 hc
   have huo : u.oneCell' = true := by rcases hu with ⟨_, rfl⟩ | ⟨_, rfl⟩ <;> rfl
   refine ⟨_, _, _, hR, ?_⟩
   try simp only [cAp, nAp, aNl]
   refine Gr (id := 5) (rest := []) [zR 5, zR 6, zR 7, zR 8, zR 9] [0, 1, 2, 6, 8, 9, 10, 11] (fun _ => [zV 0 (.string key), zV 1 (.string text), zS 2 a l.length c, zB 6 false, zP 8 (nu1 0), zV 9 v, zS 10 none 0 0, zV 11 u]) (fun _ => [(nu1 0, .cells #[nI 0, .string (ByteArray.mk #[]), nI 0, .slice none 0 0] 47 (0, 0))]) (fun _ => ?_)
   refine JR_end ?_
   refine J_seq ?_
   refine jB mixed [(0, true), (1, false), (2, false), (3, false)] [] ?_
   refine Gr (id := 6) (rest := [(1, false), (2, false), (3, false)]) [zR 0] [0, 1, 2, 6, 8, 9, 10, 11, 47] (fun _ => [zV 0 (.string key), zV 1 (.string text), zS 2 a l.length c, zB 6 false, zP 8 (nu1 0), zV 9 v, zS 10 none 0 0, zV 11 u, zS 47 a l.length c]) (fun _ => [(nu1 0, .cells #[nI 0, .string (ByteArray.mk #[]), nI 0, .slice none 0 0] 47 (0, 0))]) (fun _ => ?_)
   refine JR_callp [] 24 #[.slice a l.length c] (some 48) (by kernel_rfl) (fun w S hG => ?_)
   refine (rListFault (hG.at 1 rfl) (by omega) hw1 ho1).mono ?_
   rintro e7 w7 hR
   refine ⟨_, _, _, hR, ?_⟩
   try simp only [cAp, nAp, aNl]
   refine Gr (id := 6) (rest := []) [.wr 2 [] 0, .wr 3 [.o 1 none, .o 1 none] 0] [0, 1, 2, 6, 8, 9, 10, 11, 12] (fun nu2 => [zV 0 (.string key), zV 1 (.string text), zS 2 a l.length c, zB 6 false, zP 8 (nu1 0), zV 9 v, zS 10 none 0 0, zV 11 u, zP 12 (nu2 0)]) (fun nu2 => [(nu1 0, .cells #[nI 0, .string (ByteArray.mk #[]), nI 0, .slice none 0 0] 47 (0, 0)), (nu2 0, .cells #[nI ((↑(listFault l).code : Int)), nI ((listFault l).at')] 40 (0, 0))]) (fun nu2 => ?_)
   refine JR_end ?_
   refine J_seq ?_
   refine jB mixed [(0, true), (1, false), (2, true)] [] ?_
   refine Gr (id := 7) (rest := [(1, false), (2, true)]) [zR 0] [0, 1, 2, 6, 8, 9, 10, 11, 12, 49] (fun _ => [zV 0 (.string key), zV 1 (.string text), zS 2 a l.length c, zB 6 false, zP 8 (nu1 0), zV 9 v, zS 10 none 0 0, zV 11 u, zP 12 (nu2 0), zV 49 (.string key)]) (fun _ => [(nu1 0, .cells #[nI 0, .string (ByteArray.mk #[]), nI 0, .slice none 0 0] 47 (0, 0)), (nu2 0, .cells #[nI ((↑(listFault l).code : Int)), nI ((listFault l).at')] 40 (0, 0))]) (fun _ => ?_)
   refine JR_callp [] 25 #[.string key] (some 50) (by kernel_rfl) (fun w S hG => ?_)
   refine (isName (w := w) (S := S) (s0 := key)).mono ?_
   rintro e8 w8 hR
   refine ⟨_, _, _, hR, ?_⟩
   cases hnm : nameOk key with
   | true =>
    have hV : valFault key l = listFault l := valFault_name hnm
    rw [hV] at hc hat hv hu hcode
    have hx1 : ((listFault l).code : Int) > 0 := by omega
    try simp only [cAp, nAp, aNl]
    refine Gr (id := 7) (rest := []) [zR 2] [0, 1, 2, 6, 8, 9, 10, 11, 12, 13] (fun _ => [zV 0 (.string key), zV 1 (.string text), zS 2 a l.length c, zB 6 false, zP 8 (nu1 0), zV 9 v, zS 10 none 0 0, zV 11 u, zP 12 (nu2 0), zB 13 true]) (fun _ => [(nu1 0, .cells #[nI 0, .string (ByteArray.mk #[]), nI 0, .slice none 0 0] 47 (0, 0)), (nu2 0, .cells #[nI ((↑(listFault l).code : Int)), nI ((listFault l).at')] 40 (0, 0))]) (fun _ => ?_)
    refine JR_end ?_
    refine J_seq ?_
    refine Sq mixed [zR 0, zR 1] [] [0, 1, 2, 6, 8, 9, 10, 11, 12, 52] (fun _ => [zV 0 (.string key), zV 1 (.string text), zS 2 a l.length c, zB 6 false, zP 8 (nu1 0), zV 9 v, zS 10 none 0 0, zV 11 u, zP 12 (nu2 0), zB 52 false]) (fun _ => [(nu1 0, .cells #[nI 0, .string (ByteArray.mk #[]), nI 0, .slice none 0 0] 47 (0, 0)), (nu2 0, .cells #[nI ((↑(listFault l).code : Int)), nI ((listFault l).at')] 40 (0, 0))]) (fun _ => ?_)
    refine cF ?_
    refine J_skip ?_
    refine J_seq ?_
    refine Sp mixed [zR 0, .rd 1 [.o 1 none] 0 0, .rd 2 [] 0 6] [] [0, 1, 2, 6, 8, 9, 10, 11, 12, 56] (fun _ => [zV 0 (.string key), zV 1 (.string text), zS 2 a l.length c, zB 6 false, zP 8 (nu1 0), zV 9 v, zS 10 none 0 0, zV 11 u, zP 12 (nu2 0), zB 56 true]) (fun _ => [(nu1 0, .cells #[nI 0, .string (ByteArray.mk #[]), nI 0, .slice none 0 0] 47 (0, 0)), (nu2 0, .cells #[nI ((↑(listFault l).code : Int)), nI ((listFault l).at')] 40 (0, 0))]) (fun _ => [decide ((↑(listFault l).code : Int) > (0 : Int)) = true]) (fun _ => ⟨by simp; omega, trivial⟩) (fun _ => ?_)
    refine cTt ?_
    refine J_seq ?_
    refine jB mixed [(0, true), (1, true), (2, false), (3, true), (4, true), (5, true), (6, false), (7, true), (8, true), (9, true), (10, true), (11, false), (12, true), (13, true), (14, true), (15, true), (16, true), (17, true), (18, true)] [] ?_
    refine Gr (id := 11) (rest := [(2, false), (3, true), (4, true), (5, true), (6, false), (7, true), (8, true), (9, true), (10, true), (11, false), (12, true), (13, true), (14, true), (15, true), (16, true), (17, true), (18, true)]) [zR 0, .rd 1 [.o 1 none, .o 1 none] 0 0] [0, 1, 2, 6, 8, 9, 10, 11, 12, 57, 58] (fun _ => [zV 0 (.string key), zV 1 (.string text), zS 2 a l.length c, zB 6 false, zP 8 (nu1 0), zV 9 v, zS 10 none 0 0, zV 11 u, zP 12 (nu2 0), zV 57 v, zV 58 (.agg #[nI ((↑(listFault l).code : Int)), nI ((listFault l).at')])]) (fun _ => [(nu1 0, .cells #[nI 0, .string (ByteArray.mk #[]), nI 0, .slice none 0 0] 47 (0, 0)), (nu2 0, .cells #[nI ((↑(listFault l).code : Int)), nI ((listFault l).at')] 40 (0, 0))]) (fun _ => ?_)
    refine JR_callp [] 16 #[v, .agg #[.int .i64 ((↑(listFault l).code : Int)), .int .i64 ((listFault l).at')]] (some 59) (by kernel_rfl) (fun w S hG => ?_)
    refine (faultedErr (hG.at 0 rfl) hI hcode hv hat).mono ?_
    rintro e9 w9 hR
    refine ⟨_, _, _, hR, ?_⟩
    try simp only [cAp, nAp, aNl]
    refine Gr (id := 11) (rest := [(6, false), (7, true), (8, true), (9, true), (10, true), (11, false), (12, true), (13, true), (14, true), (15, true), (16, true), (17, true), (18, true)]) [zR 3, .rd 4 [.o 0 none, .o 0 none, .o 0 none, .o 0 none] 0 0, zR 5] [0, 1, 2, 6, 8, 9, 10, 11, 12, 60, 61, 62] (fun _ => [zV 0 (.string key), zV 1 (.string text), zS 2 a l.length c, zB 6 false, zP 8 (nu1 0), zV 9 v, zS 10 none 0 0, zV 11 u, zP 12 (nu2 0), zB 60 true, zV 61 (.agg #[nI 0, .string (ByteArray.mk #[]), nI 0, .slice none 0 0]), zV 62 (.agg #[nI 0, .string (ByteArray.mk #[]), nI 0, .slice none 0 0])]) (fun _ => [(nu1 0, .cells #[nI 0, .string (ByteArray.mk #[]), nI 0, .slice none 0 0] 47 (0, 0)), (nu2 0, .cells #[nI ((↑(listFault l).code : Int)), nI ((listFault l).at')] 40 (0, 0))]) (fun _ => ?_)
    refine JR_callp [] 27 #[.agg #[.int .i64 0, .string (ByteArray.mk #[]), .int .i64 0, .slice none 0 0], .agg #[.int .i64 0, .string (ByteArray.mk #[]), .int .i64 0, .slice none 0 0]] (some 63) (by kernel_rfl) (fun w S hG => ?_)
    refine (sameValue_eq (w0 := w) (S := S) (v := ⟨0, ByteArray.mk #[], 0, []⟩) .nil .nil (by simp)).mono ?_
    rintro e10 w10 hR
    refine ⟨_, _, _, hR, ?_⟩
    try simp only [cAp, nAp, aNl]
    refine Gr (id := 11) (rest := [(11, false), (12, true), (13, true), (14, true), (15, true), (16, true), (17, true), (18, true)]) [zR 7, zR 8, zR 9, .rd 10 [.o 1 none, .o 1 none] 0 0] [0, 1, 2, 6, 8, 9, 10, 11, 65, 66, 67] (fun _ => [zV 0 (.string key), zV 1 (.string text), zS 2 a l.length c, zB 6 false, zP 8 (nu1 0), zV 9 v, zS 10 none 0 0, zV 11 u, zB 65 true, zV 66 u, zV 67 (.agg #[nI ((↑(listFault l).code : Int)), nI ((listFault l).at')])]) (fun _ => [(nu1 0, .cells #[nI 0, .string (ByteArray.mk #[]), nI 0, .slice none 0 0] 47 (0, 0)), (nu2 0, .cells #[nI ((↑(listFault l).code : Int)), nI ((listFault l).at')] 40 (0, 0))]) (fun _ => ?_)
    refine JR_callp [] 16 #[u, .agg #[.int .i64 ((↑(listFault l).code : Int)), .int .i64 ((listFault l).at')]] (some 68) (by kernel_rfl) (fun w S hG => ?_)
    refine (faultedErr (hG.at 0 rfl) hI hcode hu hat).mono ?_
    rintro e11 w11 hR
    refine ⟨_, _, _, hR, ?_⟩
    try simp only [cAp, nAp, aNl]
    refine Gr (id := 11) (rest := []) [zR 12, zR 13, zR 14, zR 15, zR 16, zR 17, zR 18] [0, 1, 2, 6, 8, 9, 10, 11] (fun _ => [zV 0 (.string key), zV 1 (.string text), zS 2 a l.length c, zB 6 true, zP 8 (nu1 0), zV 9 v, zS 10 none 0 0, zV 11 u]) (fun _ => [(nu1 0, .cells #[nI 0, .string (ByteArray.mk #[]), nI 0, .slice none 0 0] 47 (0, 0)), (nu2 0, .cells #[nI ((↑(listFault l).code : Int)), nI ((listFault l).at')] 40 (0, 0))]) (fun _ => ?_)
    refine JR_end ?_
    refine J_return [[]] (.bool true) (by kernel_rfl) (fun a w s => ?_)
    exact s.retz (by simp) [] [] rfl rfl
   | false =>
    have hV : valFault key l = ⟨4, -1⟩ := valFault_no hnm
    rw [hV] at hv hu hcode
    dsimp only at hv hu hcode
    try simp only [cAp, nAp, aNl]
    refine Gr (id := 7) (rest := []) [zR 2] [0, 1, 2, 6, 8, 9, 10, 11, 12, 13] (fun _ => [zV 0 (.string key), zV 1 (.string text), zS 2 a l.length c, zB 6 false, zP 8 (nu1 0), zV 9 v, zS 10 none 0 0, zV 11 u, zP 12 (nu2 0), zB 13 false]) (fun _ => [(nu1 0, .cells #[nI 0, .string (ByteArray.mk #[]), nI 0, .slice none 0 0] 47 (0, 0)), (nu2 0, .cells #[nI ((↑(listFault l).code : Int)), nI ((listFault l).at')] 40 (0, 0))]) (fun _ => ?_)
    refine JR_end ?_
    refine J_seq ?_
    refine Sq mixed [zR 0, zR 1] [] [0, 1, 2, 6, 8, 9, 10, 11, 12, 52] (fun _ => [zV 0 (.string key), zV 1 (.string text), zS 2 a l.length c, zB 6 false, zP 8 (nu1 0), zV 9 v, zS 10 none 0 0, zV 11 u, zP 12 (nu2 0), zB 52 true]) (fun _ => [(nu1 0, .cells #[nI 0, .string (ByteArray.mk #[]), nI 0, .slice none 0 0] 47 (0, 0)), (nu2 0, .cells #[nI ((↑(listFault l).code : Int)), nI ((listFault l).at')] 40 (0, 0))]) (fun _ => ?_)
    refine cTt ?_
    refine jB mixed [(0, false), (1, false)] [] ?_
    refine JR_callp [] 26 #[.int .i64 4] (some 53) (by kernel_rfl) (fun w S hG => ?_)
    refine (rBare (w := w) (S := S) (c := 4)).mono ?_
    rintro e9 w9 hR
    refine ⟨_, _, _, hR, ?_⟩
    try simp only [cAp, nAp, aNl]
    refine Gr (id := 9) (rest := []) [.wr 1 [.o 1 none, .o 1 none] 0] [0, 1, 2, 6, 8, 9, 10, 11, 12] (fun _ => [zV 0 (.string key), zV 1 (.string text), zS 2 a l.length c, zB 6 false, zP 8 (nu1 0), zV 9 v, zS 10 none 0 0, zV 11 u, zP 12 (nu2 0)]) (fun _ => [(nu1 0, .cells #[nI 0, .string (ByteArray.mk #[]), nI 0, .slice none 0 0] 47 (0, 0)), (nu2 0, .cells #[nI 4, nI (-1)] 40 (0, 0))]) (fun _ => ?_)
    refine JR_end ?_
    refine J_seq ?_
    refine Sq mixed [zR 0, .rd 1 [.o 1 none] 0 0, zR 2] [] [0, 1, 2, 6, 8, 9, 10, 11, 12, 56] (fun _ => [zV 0 (.string key), zV 1 (.string text), zS 2 a l.length c, zB 6 false, zP 8 (nu1 0), zV 9 v, zS 10 none 0 0, zV 11 u, zP 12 (nu2 0), zB 56 true]) (fun _ => [(nu1 0, .cells #[nI 0, .string (ByteArray.mk #[]), nI 0, .slice none 0 0] 47 (0, 0)), (nu2 0, .cells #[nI 4, nI (-1)] 40 (0, 0))]) (fun _ => ?_)
    refine cTt ?_
    refine J_seq ?_
    refine jB mixed [(0, true), (1, true), (2, false), (3, true), (4, true), (5, true), (6, false), (7, true), (8, true), (9, true), (10, true), (11, false), (12, true), (13, true), (14, true), (15, true), (16, true), (17, true), (18, true)] [] ?_
    refine Gr (id := 11) (rest := [(2, false), (3, true), (4, true), (5, true), (6, false), (7, true), (8, true), (9, true), (10, true), (11, false), (12, true), (13, true), (14, true), (15, true), (16, true), (17, true), (18, true)]) [zR 0, .rd 1 [.o 1 none, .o 1 none] 0 0] [0, 1, 2, 6, 8, 9, 10, 11, 12, 57, 58] (fun _ => [zV 0 (.string key), zV 1 (.string text), zS 2 a l.length c, zB 6 false, zP 8 (nu1 0), zV 9 v, zS 10 none 0 0, zV 11 u, zP 12 (nu2 0), zV 57 v, zV 58 (.agg #[nI 4, nI (-1)])]) (fun _ => [(nu1 0, .cells #[nI 0, .string (ByteArray.mk #[]), nI 0, .slice none 0 0] 47 (0, 0)), (nu2 0, .cells #[nI 4, nI (-1)] 40 (0, 0))]) (fun _ => ?_)
    refine JR_callp [] 16 #[v, .agg #[.int .i64 4, .int .i64 (-1)]] (some 59) (by kernel_rfl) (fun w S hG => ?_)
    refine (faultedErr (hG.at 0 rfl) hI hcode hv rfl).mono ?_
    rintro e9 w9 hR
    refine ⟨_, _, _, hR, ?_⟩
    try simp only [cAp, nAp, aNl]
    refine Gr (id := 11) (rest := [(6, false), (7, true), (8, true), (9, true), (10, true), (11, false), (12, true), (13, true), (14, true), (15, true), (16, true), (17, true), (18, true)]) [zR 3, .rd 4 [.o 0 none, .o 0 none, .o 0 none, .o 0 none] 0 0, zR 5] [0, 1, 2, 6, 8, 9, 10, 11, 12, 60, 61, 62] (fun _ => [zV 0 (.string key), zV 1 (.string text), zS 2 a l.length c, zB 6 false, zP 8 (nu1 0), zV 9 v, zS 10 none 0 0, zV 11 u, zP 12 (nu2 0), zB 60 true, zV 61 (.agg #[nI 0, .string (ByteArray.mk #[]), nI 0, .slice none 0 0]), zV 62 (.agg #[nI 0, .string (ByteArray.mk #[]), nI 0, .slice none 0 0])]) (fun _ => [(nu1 0, .cells #[nI 0, .string (ByteArray.mk #[]), nI 0, .slice none 0 0] 47 (0, 0)), (nu2 0, .cells #[nI 4, nI (-1)] 40 (0, 0))]) (fun _ => ?_)
    refine JR_callp [] 27 #[.agg #[.int .i64 0, .string (ByteArray.mk #[]), .int .i64 0, .slice none 0 0], .agg #[.int .i64 0, .string (ByteArray.mk #[]), .int .i64 0, .slice none 0 0]] (some 63) (by kernel_rfl) (fun w S hG => ?_)
    refine (sameValue_eq (w0 := w) (S := S) (v := ⟨0, ByteArray.mk #[], 0, []⟩) .nil .nil (by simp)).mono ?_
    rintro e10 w10 hR
    refine ⟨_, _, _, hR, ?_⟩
    try simp only [cAp, nAp, aNl]
    refine Gr (id := 11) (rest := [(11, false), (12, true), (13, true), (14, true), (15, true), (16, true), (17, true), (18, true)]) [zR 7, zR 8, zR 9, .rd 10 [.o 1 none, .o 1 none] 0 0] [0, 1, 2, 6, 8, 9, 10, 11, 65, 66, 67] (fun _ => [zV 0 (.string key), zV 1 (.string text), zS 2 a l.length c, zB 6 false, zP 8 (nu1 0), zV 9 v, zS 10 none 0 0, zV 11 u, zB 65 true, zV 66 u, zV 67 (.agg #[nI 4, nI (-1)])]) (fun _ => [(nu1 0, .cells #[nI 0, .string (ByteArray.mk #[]), nI 0, .slice none 0 0] 47 (0, 0)), (nu2 0, .cells #[nI 4, nI (-1)] 40 (0, 0))]) (fun _ => ?_)
    refine JR_callp [] 16 #[u, .agg #[.int .i64 4, .int .i64 (-1)]] (some 68) (by kernel_rfl) (fun w S hG => ?_)
    refine (faultedErr (hG.at 0 rfl) hI hcode hu rfl).mono ?_
    rintro e11 w11 hR
    refine ⟨_, _, _, hR, ?_⟩
    try simp only [cAp, nAp, aNl]
    refine Gr (id := 11) (rest := []) [zR 12, zR 13, zR 14, zR 15, zR 16, zR 17, zR 18] [0, 1, 2, 6, 8, 9, 10, 11] (fun _ => [zV 0 (.string key), zV 1 (.string text), zS 2 a l.length c, zB 6 true, zP 8 (nu1 0), zV 9 v, zS 10 none 0 0, zV 11 u]) (fun _ => [(nu1 0, .cells #[nI 0, .string (ByteArray.mk #[]), nI 0, .slice none 0 0] 47 (0, 0)), (nu2 0, .cells #[nI 4, nI (-1)] 40 (0, 0))]) (fun _ => ?_)
    refine JR_end ?_
    refine J_return [[]] (.bool true) (by kernel_rfl) (fun a w s => ?_)
    exact s.retz (by simp) [] [] rfl rfl
  ·refine ⟨_, _, _, hR, ?_⟩
   have hnm : nameOk key = true := by
    cases hn : nameOk key with
    | true => rfl
    | false =>
     rw [valFault_no hn] at hat
     exact absurd hat (by decide)
   have hV : valFault key l = listFault l := valFault_name hnm
   rw [hV] at hc hc1 hat hcode
   have hx1 : ((listFault l).code : Int) > 0 := by omega
   try simp only [cAp, nAp, aNl]
   refine Gr (id := 4) (rest := []) [zR 4, zR 5, zR 6, .wr 7 [] 0, .wr 8 [.o 0 none, .o 0 none, .o 0 none, .o 0 none] 0, zR 9] [0, 1, 2, 6, 8, 9] (fun nu1 => [zV 0 (.string key), zV 1 (.string text), zS 2 a l.length c, zB 6 false, zP 8 (nu1 0), zV 9 (.iface 102 (.pointer (sA pb 0)))]) (fun nu1 => [(nu1 0, .cells #[nI 0, .string (ByteArray.mk #[]), nI 0, .slice none 0 0] 47 (0, 0))]) (fun nu1 => ?_)
   refine JR_end ?_
   refine J_seq ?_
   refine jB mixed [(0, true), (1, true), (2, true), (3, false), (4, false), (5, true), (6, true), (7, true), (8, true), (9, true)] [] ?_
   refine Gr (id := 5) (rest := [(3, false), (4, false), (5, true), (6, true), (7, true), (8, true), (9, true)]) [zR 0, zR 1, zR 2] [0, 1, 2, 6, 8, 9, 40, 41, 42] (fun _ => [zV 0 (.string key), zV 1 (.string text), zS 2 a l.length c, zB 6 false, zP 8 (nu1 0), zV 9 (.iface 102 (.pointer (sA pb 0))), zV 40 (.string key), zV 41 (.string text), zS 42 a l.length c]) (fun _ => [(nu1 0, .cells #[nI 0, .string (ByteArray.mk #[]), nI 0, .slice none 0 0] 47 (0, 0))]) (fun _ => ?_)
   refine JR_callp [] 22 #[.slice a l.length c] (some 43) (by kernel_rfl) (fun w S hG => ?_)
   refine (ownCommits (hG.at 1 rfl) (by omega) hw1 ho1 (fun x hx o ho => by have := (light_com (hlc x hx)).2.2 o ho; omega)).mono ?_
   rintro e5 w5 ⟨a5, n5, c5, hR⟩
   refine ⟨_, _, _, hR, ?_⟩
   try simp only [cAp, nAp, aNl]
   refine JR_callp [] 23 #[.string key, .string text, .slice a5 n5 c5] (some 44) (by kernel_rfl) (fun w S hG => ?_)
   refine (vDots (key := key) (text := text) (hG.at 0 rfl) (hG.at 4 rfl) (by omega) hw1 ho1).mono ?_
   rintro e6 w6 (⟨_, ⟨hat2, _⟩ | ⟨hc2, hat2, pb2, hR⟩⟩ | ⟨hc6, _⟩)
   case inl.inl =>
    rw [hV] at hat2
    omega
   rotate_left
   ·rw [hV] at hc6
    exact absurd hc6 hc
   refine ⟨_, _, _, hR, ?_⟩
   try simp only [cAp, nAp, aNl]
   refine Gr (id := 5) (rest := []) [zR 5, zR 6, zR 7, zR 8, zR 9] [0, 1, 2, 6, 8, 9, 10, 11] (fun _ => [zV 0 (.string key), zV 1 (.string text), zS 2 a l.length c, zB 6 false, zP 8 (nu1 0), zV 9 (.iface 102 (.pointer (sA pb 0))), zS 10 none 0 0, zV 11 (.iface 102 (.pointer (sA pb2 0)))]) (fun _ => [(nu1 0, .cells #[nI 0, .string (ByteArray.mk #[]), nI 0, .slice none 0 0] 47 (0, 0))]) (fun _ => ?_)
   refine JR_end ?_
   refine J_seq ?_
   refine jB mixed [(0, true), (1, false), (2, false), (3, false)] [] ?_
   refine Gr (id := 6) (rest := [(1, false), (2, false), (3, false)]) [zR 0] [0, 1, 2, 6, 8, 9, 10, 11, 47] (fun _ => [zV 0 (.string key), zV 1 (.string text), zS 2 a l.length c, zB 6 false, zP 8 (nu1 0), zV 9 (.iface 102 (.pointer (sA pb 0))), zS 10 none 0 0, zV 11 (.iface 102 (.pointer (sA pb2 0))), zS 47 a l.length c]) (fun _ => [(nu1 0, .cells #[nI 0, .string (ByteArray.mk #[]), nI 0, .slice none 0 0] 47 (0, 0))]) (fun _ => ?_)
   refine JR_callp [] 24 #[.slice a l.length c] (some 48) (by kernel_rfl) (fun w S hG => ?_)
   refine (rListFault (hG.at 1 rfl) (by omega) hw1 ho1).mono ?_
   rintro e7 w7 hR
   refine ⟨_, _, _, hR, ?_⟩
   try simp only [cAp, nAp, aNl]
   refine Gr (id := 6) (rest := []) [.wr 2 [] 0, .wr 3 [.o 1 none, .o 1 none] 0] [0, 1, 2, 6, 8, 9, 10, 11, 12] (fun nu2 => [zV 0 (.string key), zV 1 (.string text), zS 2 a l.length c, zB 6 false, zP 8 (nu1 0), zV 9 (.iface 102 (.pointer (sA pb 0))), zS 10 none 0 0, zV 11 (.iface 102 (.pointer (sA pb2 0))), zP 12 (nu2 0)]) (fun nu2 => [(nu1 0, .cells #[nI 0, .string (ByteArray.mk #[]), nI 0, .slice none 0 0] 47 (0, 0)), (nu2 0, .cells #[nI ((↑(listFault l).code : Int)), nI ((listFault l).at')] 40 (0, 0))]) (fun nu2 => ?_)
   refine JR_end ?_
   refine J_seq ?_
   refine jB mixed [(0, true), (1, false), (2, true)] [] ?_
   refine Gr (id := 7) (rest := [(1, false), (2, true)]) [zR 0] [0, 1, 2, 6, 8, 9, 10, 11, 12, 49] (fun _ => [zV 0 (.string key), zV 1 (.string text), zS 2 a l.length c, zB 6 false, zP 8 (nu1 0), zV 9 (.iface 102 (.pointer (sA pb 0))), zS 10 none 0 0, zV 11 (.iface 102 (.pointer (sA pb2 0))), zP 12 (nu2 0), zV 49 (.string key)]) (fun _ => [(nu1 0, .cells #[nI 0, .string (ByteArray.mk #[]), nI 0, .slice none 0 0] 47 (0, 0)), (nu2 0, .cells #[nI ((↑(listFault l).code : Int)), nI ((listFault l).at')] 40 (0, 0))]) (fun _ => ?_)
   refine JR_callp [] 25 #[.string key] (some 50) (by kernel_rfl) (fun w S hG => ?_)
   refine (isName (w := w) (S := S) (s0 := key)).mono ?_
   rintro e8 w8 hR
   rw [hnm] at hR
   refine ⟨_, _, _, hR, ?_⟩
   rw [hV]
   try simp only [cAp, nAp, aNl]
   refine Gr (id := 7) (rest := []) [zR 2] [0, 1, 2, 6, 8, 9, 10, 11, 12, 13] (fun _ => [zV 0 (.string key), zV 1 (.string text), zS 2 a l.length c, zB 6 false, zP 8 (nu1 0), zV 9 (.iface 102 (.pointer (sA pb 0))), zS 10 none 0 0, zV 11 (.iface 102 (.pointer (sA pb2 0))), zP 12 (nu2 0), zB 13 true]) (fun _ => [(nu1 0, .cells #[nI 0, .string (ByteArray.mk #[]), nI 0, .slice none 0 0] 47 (0, 0)), (nu2 0, .cells #[nI ((↑(listFault l).code : Int)), nI ((listFault l).at')] 40 (0, 0))]) (fun _ => ?_)
   refine JR_end ?_
   refine J_seq ?_
   refine Sq mixed [zR 0, zR 1] [] [0, 1, 2, 6, 8, 9, 10, 11, 12, 52] (fun _ => [zV 0 (.string key), zV 1 (.string text), zS 2 a l.length c, zB 6 false, zP 8 (nu1 0), zV 9 (.iface 102 (.pointer (sA pb 0))), zS 10 none 0 0, zV 11 (.iface 102 (.pointer (sA pb2 0))), zP 12 (nu2 0), zB 52 false]) (fun _ => [(nu1 0, .cells #[nI 0, .string (ByteArray.mk #[]), nI 0, .slice none 0 0] 47 (0, 0)), (nu2 0, .cells #[nI ((↑(listFault l).code : Int)), nI ((listFault l).at')] 40 (0, 0))]) (fun _ => ?_)
   refine cF ?_
   refine J_skip ?_
   refine J_seq ?_
   refine Sp mixed [zR 0, .rd 1 [.o 1 none] 0 0, .rd 2 [] 0 6] [] [0, 1, 2, 6, 8, 9, 10, 11, 12, 56] (fun _ => [zV 0 (.string key), zV 1 (.string text), zS 2 a l.length c, zB 6 false, zP 8 (nu1 0), zV 9 (.iface 102 (.pointer (sA pb 0))), zS 10 none 0 0, zV 11 (.iface 102 (.pointer (sA pb2 0))), zP 12 (nu2 0), zB 56 true]) (fun _ => [(nu1 0, .cells #[nI 0, .string (ByteArray.mk #[]), nI 0, .slice none 0 0] 47 (0, 0)), (nu2 0, .cells #[nI ((↑(listFault l).code : Int)), nI ((listFault l).at')] 40 (0, 0))]) (fun _ => [decide ((↑(listFault l).code : Int) > (0 : Int)) = true]) (fun _ => ⟨by simp; omega, trivial⟩) (fun _ => ?_)
   refine cTt ?_
   refine J_seq ?_
   refine jB mixed [(0, true), (1, true), (2, false), (3, true), (4, true), (5, true), (6, false), (7, true), (8, true), (9, true), (10, true), (11, false), (12, true), (13, true), (14, true), (15, true), (16, true), (17, true), (18, true)] [] ?_
   refine Gr (id := 11) (rest := [(2, false), (3, true), (4, true), (5, true), (6, false), (7, true), (8, true), (9, true), (10, true), (11, false), (12, true), (13, true), (14, true), (15, true), (16, true), (17, true), (18, true)]) [zR 0, .rd 1 [.o 1 none, .o 1 none] 0 0] [0, 1, 2, 6, 8, 9, 10, 11, 12, 57, 58] (fun _ => [zV 0 (.string key), zV 1 (.string text), zS 2 a l.length c, zB 6 false, zP 8 (nu1 0), zV 9 (.iface 102 (.pointer (sA pb 0))), zS 10 none 0 0, zV 11 (.iface 102 (.pointer (sA pb2 0))), zP 12 (nu2 0), zV 57 (.iface 102 (.pointer (sA pb 0))), zV 58 (.agg #[nI ((↑(listFault l).code : Int)), nI ((listFault l).at')])]) (fun _ => [(nu1 0, .cells #[nI 0, .string (ByteArray.mk #[]), nI 0, .slice none 0 0] 47 (0, 0)), (nu2 0, .cells #[nI ((↑(listFault l).code : Int)), nI ((listFault l).at')] 40 (0, 0))]) (fun _ => ?_)
   refine JR_callp [] 16 #[.iface 102 (.pointer (some (⟨pb, 0, none⟩))), .agg #[.int .i64 ((↑(listFault l).code : Int)), .int .i64 ((listFault l).at')]] (some 59) (by kernel_rfl) (fun w S hG => ?_)
   refine (faultedAt (hG.at 0 rfl) hI hc1 hcode (hG.at 3 rfl)).mono ?_
   rintro e9 w9 hR
   refine ⟨_, _, _, hR, ?_⟩
   try simp only [cAp, nAp, aNl]
   refine Gr (id := 11) (rest := [(6, false), (7, true), (8, true), (9, true), (10, true), (11, false), (12, true), (13, true), (14, true), (15, true), (16, true), (17, true), (18, true)]) [zR 3, .rd 4 [.o 0 none, .o 0 none, .o 0 none, .o 0 none] 0 0, zR 5] [0, 1, 2, 6, 8, 9, 10, 11, 12, 60, 61, 62] (fun _ => [zV 0 (.string key), zV 1 (.string text), zS 2 a l.length c, zB 6 false, zP 8 (nu1 0), zV 9 (.iface 102 (.pointer (sA pb 0))), zS 10 none 0 0, zV 11 (.iface 102 (.pointer (sA pb2 0))), zP 12 (nu2 0), zB 60 true, zV 61 (.agg #[nI 0, .string (ByteArray.mk #[]), nI 0, .slice none 0 0]), zV 62 (.agg #[nI 0, .string (ByteArray.mk #[]), nI 0, .slice none 0 0])]) (fun _ => [(nu1 0, .cells #[nI 0, .string (ByteArray.mk #[]), nI 0, .slice none 0 0] 47 (0, 0)), (nu2 0, .cells #[nI ((↑(listFault l).code : Int)), nI ((listFault l).at')] 40 (0, 0))]) (fun _ => ?_)
   refine JR_callp [] 27 #[.agg #[.int .i64 0, .string (ByteArray.mk #[]), .int .i64 0, .slice none 0 0], .agg #[.int .i64 0, .string (ByteArray.mk #[]), .int .i64 0, .slice none 0 0]] (some 63) (by kernel_rfl) (fun w S hG => ?_)
   refine (sameValue_eq (w0 := w) (S := S) (v := ⟨0, ByteArray.mk #[], 0, []⟩) .nil .nil (by simp)).mono ?_
   rintro e10 w10 hR
   refine ⟨_, _, _, hR, ?_⟩
   try simp only [cAp, nAp, aNl]
   refine Gr (id := 11) (rest := [(11, false), (12, true), (13, true), (14, true), (15, true), (16, true), (17, true), (18, true)]) [zR 7, zR 8, zR 9, .rd 10 [.o 1 none, .o 1 none] 0 0] [0, 1, 2, 6, 8, 9, 10, 11, 65, 66, 67] (fun _ => [zV 0 (.string key), zV 1 (.string text), zS 2 a l.length c, zB 6 false, zP 8 (nu1 0), zV 9 (.iface 102 (.pointer (sA pb 0))), zS 10 none 0 0, zV 11 (.iface 102 (.pointer (sA pb2 0))), zB 65 true, zV 66 (.iface 102 (.pointer (sA pb2 0))), zV 67 (.agg #[nI ((↑(listFault l).code : Int)), nI ((listFault l).at')])]) (fun _ => [(nu1 0, .cells #[nI 0, .string (ByteArray.mk #[]), nI 0, .slice none 0 0] 47 (0, 0)), (nu2 0, .cells #[nI ((↑(listFault l).code : Int)), nI ((listFault l).at')] 40 (0, 0))]) (fun _ => ?_)
   refine JR_callp [] 16 #[.iface 102 (.pointer (some (⟨pb2, 0, none⟩))), .agg #[.int .i64 ((↑(listFault l).code : Int)), .int .i64 ((listFault l).at')]] (some 68) (by kernel_rfl) (fun w S hG => ?_)
   refine (faultedAt (hG.at 0 rfl) hI hc1 hcode (hG.at 5 rfl)).mono ?_
   rintro e11 w11 hR
   refine ⟨_, _, _, hR, ?_⟩
   try simp only [cAp, nAp, aNl]
   refine Gr (id := 11) (rest := []) [zR 12, zR 13, zR 14, zR 15, zR 16, zR 17, zR 18] [0, 1, 2, 6, 8, 9, 10, 11] (fun _ => [zV 0 (.string key), zV 1 (.string text), zS 2 a l.length c, zB 6 true, zP 8 (nu1 0), zV 9 (.iface 102 (.pointer (sA pb 0))), zS 10 none 0 0, zV 11 (.iface 102 (.pointer (sA pb2 0)))]) (fun _ => [(nu1 0, .cells #[nI 0, .string (ByteArray.mk #[]), nI 0, .slice none 0 0] 47 (0, 0)), (nu2 0, .cells #[nI ((↑(listFault l).code : Int)), nI ((listFault l).at')] 40 (0, 0))]) (fun _ => ?_)
   refine JR_end ?_
   refine J_return [[]] (.bool true) (by kernel_rfl) (fun a w s => ?_)
   exact s.retz (by simp) [] [] rfl rfl
  ·refine ⟨_, _, _, hR, ?_⟩
   have hnm : nameOk key = true := (allRight hc).1
   have hV : valFault key l = listFault l := valFault_name hnm
   have hx1 : ¬ ((listFault l).code : Int) > 0 := by
    rw [← hV]
    omega
   try simp only [cAp, nAp, aNl]
   refine Gr (id := 4) (rest := []) [zR 4, zR 5, zR 6, .wr 7 [] 0, .wr 8 [.o 0 none, .o 0 none, .o 0 none, .o 0 none] 0, zR 9] [0, 1, 2, 6, 8, 9] (fun nu1 => [zV 0 (.string key), zV 1 (.string text), zS 2 a l.length c, zB 6 false, zP 8 (nu1 0), zV 9 .nilIface]) (fun nu1 => [(nu1 0, .cells #[nI ((Sx.valOf key l).kind), .string ((Sx.valOf key l).text), nI ((Sx.valOf key l).n), .slice ua un uc] 47 (0, 0))]) (fun nu1 => ?_)
   refine JR_end ?_
   refine J_seq ?_
   refine jB mixed [(0, true), (1, true), (2, true), (3, false), (4, false), (5, true), (6, true), (7, true), (8, true), (9, true)] [] ?_
   refine Gr (id := 5) (rest := [(3, false), (4, false), (5, true), (6, true), (7, true), (8, true), (9, true)]) [zR 0, zR 1, zR 2] [0, 1, 2, 6, 8, 9, 40, 41, 42] (fun _ => [zV 0 (.string key), zV 1 (.string text), zS 2 a l.length c, zB 6 false, zP 8 (nu1 0), zV 9 .nilIface, zV 40 (.string key), zV 41 (.string text), zS 42 a l.length c]) (fun _ => [(nu1 0, .cells #[nI ((Sx.valOf key l).kind), .string ((Sx.valOf key l).text), nI ((Sx.valOf key l).n), .slice ua un uc] 47 (0, 0))]) (fun _ => ?_)
   refine JR_callp [] 22 #[.slice a l.length c] (some 43) (by kernel_rfl) (fun w S hG => ?_)
   refine (ownCommits (hG.at 1 rfl) (by omega) hw1 ho1 (fun x hx o ho => by have := (light_com (hlc x hx)).2.2 o ho; omega)).mono ?_
   rintro e5 w5 ⟨a5, n5, c5, hR⟩
   refine ⟨_, _, _, hR, ?_⟩
   try simp only [cAp, nAp, aNl]
   refine JR_callp [] 23 #[.string key, .string text, .slice a5 n5 c5] (some 44) (by kernel_rfl) (fun w S hG => ?_)
   refine (vDots (key := key) (text := text) (hG.at 0 rfl) (hG.at 4 rfl) (by omega) hw1 ho1).mono ?_
   rintro e6 w6 (⟨hc6, _⟩ | ⟨_, da, dn, dc, hR⟩)
   case inl => exact absurd hc hc6
   refine ⟨_, _, _, hR, ?_⟩
   try simp only [cAp, nAp, aNl]
   refine Gr (id := 5) (rest := []) [zR 5, zR 6, zR 7, zR 8, zR 9] [0, 1, 2, 6, 8, 9, 10, 11] (fun _ => [zV 0 (.string key), zV 1 (.string text), zS 2 a l.length c, zB 6 false, zP 8 (nu1 0), zV 9 .nilIface, zS 10 da dn dc, zV 11 .nilIface]) (fun _ => [(nu1 0, .cells #[nI ((Sx.valOf key l).kind), .string ((Sx.valOf key l).text), nI ((Sx.valOf key l).n), .slice ua un uc] 47 (0, 0))]) (fun _ => ?_)
   refine JR_end ?_
   refine J_seq ?_
   refine jB mixed [(0, true), (1, false), (2, false), (3, false)] [] ?_
   refine Gr (id := 6) (rest := [(1, false), (2, false), (3, false)]) [zR 0] [0, 1, 2, 6, 8, 9, 10, 11, 47] (fun _ => [zV 0 (.string key), zV 1 (.string text), zS 2 a l.length c, zB 6 false, zP 8 (nu1 0), zV 9 .nilIface, zS 10 da dn dc, zV 11 .nilIface, zS 47 a l.length c]) (fun _ => [(nu1 0, .cells #[nI ((Sx.valOf key l).kind), .string ((Sx.valOf key l).text), nI ((Sx.valOf key l).n), .slice ua un uc] 47 (0, 0))]) (fun _ => ?_)
   refine JR_callp [] 24 #[.slice a l.length c] (some 48) (by kernel_rfl) (fun w S hG => ?_)
   refine (rListFault (hG.at 1 rfl) (by omega) hw1 ho1).mono ?_
   rintro e7 w7 hR
   refine ⟨_, _, _, hR, ?_⟩
   try simp only [cAp, nAp, aNl]
   refine Gr (id := 6) (rest := []) [.wr 2 [] 0, .wr 3 [.o 1 none, .o 1 none] 0] [0, 1, 2, 6, 8, 9, 10, 11, 12] (fun nu2 => [zV 0 (.string key), zV 1 (.string text), zS 2 a l.length c, zB 6 false, zP 8 (nu1 0), zV 9 .nilIface, zS 10 da dn dc, zV 11 .nilIface, zP 12 (nu2 0)]) (fun nu2 => [(nu1 0, .cells #[nI ((Sx.valOf key l).kind), .string ((Sx.valOf key l).text), nI ((Sx.valOf key l).n), .slice ua un uc] 47 (0, 0)), (nu2 0, .cells #[nI ((↑(listFault l).code : Int)), nI ((listFault l).at')] 40 (0, 0))]) (fun nu2 => ?_)
   refine JR_end ?_
   refine J_seq ?_
   refine jB mixed [(0, true), (1, false), (2, true)] [] ?_
   refine Gr (id := 7) (rest := [(1, false), (2, true)]) [zR 0] [0, 1, 2, 6, 8, 9, 10, 11, 12, 49] (fun _ => [zV 0 (.string key), zV 1 (.string text), zS 2 a l.length c, zB 6 false, zP 8 (nu1 0), zV 9 .nilIface, zS 10 da dn dc, zV 11 .nilIface, zP 12 (nu2 0), zV 49 (.string key)]) (fun _ => [(nu1 0, .cells #[nI ((Sx.valOf key l).kind), .string ((Sx.valOf key l).text), nI ((Sx.valOf key l).n), .slice ua un uc] 47 (0, 0)), (nu2 0, .cells #[nI ((↑(listFault l).code : Int)), nI ((listFault l).at')] 40 (0, 0))]) (fun _ => ?_)
   refine JR_callp [] 25 #[.string key] (some 50) (by kernel_rfl) (fun w S hG => ?_)
   refine (isName (w := w) (S := S) (s0 := key)).mono ?_
   rintro e8 w8 hR
   rw [hnm] at hR
   refine ⟨_, _, _, hR, ?_⟩
   have hvl := valOf_len hc
   have hdl := dotsOf_len (text := text) hc
   try simp only [cAp, nAp, aNl]
   refine Gr (id := 7) (rest := []) [zR 2] [0, 1, 2, 6, 8, 9, 10, 11, 12, 13] (fun _ => [zV 0 (.string key), zV 1 (.string text), zS 2 a l.length c, zB 6 false, zP 8 (nu1 0), zV 9 .nilIface, zS 10 da dn dc, zV 11 .nilIface, zP 12 (nu2 0), zB 13 true]) (fun _ => [(nu1 0, .cells #[nI ((Sx.valOf key l).kind), .string ((Sx.valOf key l).text), nI ((Sx.valOf key l).n), .slice ua un uc] 47 (0, 0)), (nu2 0, .cells #[nI ((↑(listFault l).code : Int)), nI ((listFault l).at')] 40 (0, 0))]) (fun _ => ?_)
   refine JR_end ?_
   refine J_seq ?_
   refine Sq mixed [zR 0, zR 1] [] [0, 1, 2, 6, 8, 9, 10, 11, 12, 52] (fun _ => [zV 0 (.string key), zV 1 (.string text), zS 2 a l.length c, zB 6 false, zP 8 (nu1 0), zV 9 .nilIface, zS 10 da dn dc, zV 11 .nilIface, zP 12 (nu2 0), zB 52 false]) (fun _ => [(nu1 0, .cells #[nI ((Sx.valOf key l).kind), .string ((Sx.valOf key l).text), nI ((Sx.valOf key l).n), .slice ua un uc] 47 (0, 0)), (nu2 0, .cells #[nI ((↑(listFault l).code : Int)), nI ((listFault l).at')] 40 (0, 0))]) (fun _ => ?_)
   refine cF ?_
   refine J_skip ?_
   refine J_seq ?_
   refine Sp mixed [zR 0, .rd 1 [.o 1 none] 0 0, .rd 2 [] 0 7] [] [0, 1, 2, 6, 8, 9, 10, 11, 12, 56] (fun _ => [zV 0 (.string key), zV 1 (.string text), zS 2 a l.length c, zB 6 false, zP 8 (nu1 0), zV 9 .nilIface, zS 10 da dn dc, zV 11 .nilIface, zP 12 (nu2 0), zB 56 false]) (fun _ => [(nu1 0, .cells #[nI ((Sx.valOf key l).kind), .string ((Sx.valOf key l).text), nI ((Sx.valOf key l).n), .slice ua un uc] 47 (0, 0)), (nu2 0, .cells #[nI ((↑(listFault l).code : Int)), nI ((listFault l).at')] 40 (0, 0))]) (fun _ => [decide ((↑(listFault l).code : Int) > (0 : Int)) = false]) (fun _ => ⟨by simp; omega, trivial⟩) (fun _ => ?_)
   refine cF ?_
   refine J_skip ?_
   refine J_seq ?_
   refine jB mixed [(0, true), (1, true), (2, true), (3, true), (4, true), (5, true), (6, true), (7, true), (8, true), (9, true), (10, false), (11, false), (12, true), (13, true), (14, true), (15, true), (16, true), (17, true), (18, false), (19, false), (20, true), (21, true)] [] ?_
   refine Gr (id := 12) (rest := [(10, false), (11, false), (12, true), (13, true), (14, true), (15, true), (16, true), (17, true), (18, false), (19, false), (20, true), (21, true)]) [zR 0, zR 1, zR 2, zR 3, zR 4, zR 5, zR 6, .rd 7 [.o 0 none, .o 0 none, .o 0 none, .o 0 none] 0 0, zR 8, zR 9] [0, 1, 2, 6, 10, 81, 82, 83, 84] (fun _ => [zV 0 (.string key), zV 1 (.string text), zS 2 a l.length c, zB 6 false, zS 10 da dn dc, zB 81 true, zV 82 (.agg #[nI ((Sx.valOf key l).kind), .string ((Sx.valOf key l).text), nI ((Sx.valOf key l).n), .slice ua un uc]), zV 83 (.string key), zS 84 a l.length c]) (fun _ => [(nu1 0, .cells #[nI ((Sx.valOf key l).kind), .string ((Sx.valOf key l).text), nI ((Sx.valOf key l).n), .slice ua un uc] 47 (0, 0)), (nu2 0, .cells #[nI ((↑(listFault l).code : Int)), nI ((listFault l).at')] 40 (0, 0))]) (fun _ => ?_)
   refine JR_callp [] 28 #[.string key, .slice a l.length c] (some 85) (by kernel_rfl) (fun w S hG => ?_)
   refine (rValueOf (hG.at 1 rfl) (by omega) hc).mono ?_
   rintro e9 w9 ⟨ra, rn, rc, hR⟩
   refine ⟨_, _, _, hR, ?_⟩
   try simp only [cAp, nAp, aNl]
   refine JR_callp [] 27 #[.agg #[.int .i64 ((Sx.valOf key l).kind), .string ((Sx.valOf key l).text), .int .i64 ((Sx.valOf key l).n), .slice ua un uc], .agg #[.int .i64 ((Sx.valOf key l).kind), .string ((Sx.valOf key l).text), .int .i64 ((Sx.valOf key l).n), .slice ra rn rc]] (some 86) (by kernel_rfl) (fun w S hG => ?_)
   refine (sameValue_eq (v := Sx.valOf key l) (hG.at 3 rfl) (hG.at 6 rfl) (by omega)).mono ?_
   rintro e10 w10 hR
   refine ⟨_, _, _, hR, ?_⟩
   try simp only [cAp, nAp, aNl]
   refine Gr (id := 12) (rest := [(18, false), (19, false), (20, true), (21, true)]) [zR 12, zR 13, zR 14, zR 15, zR 16, zR 17] [6, 88, 89, 90, 91, 92] (fun _ => [zB 6 false, zB 88 true, zS 89 da dn dc, zV 90 (.string key), zV 91 (.string text), zS 92 a l.length c]) (fun _ => [(nu1 0, .cells #[nI ((Sx.valOf key l).kind), .string ((Sx.valOf key l).text), nI ((Sx.valOf key l).n), .slice ua un uc] 47 (0, 0)), (nu2 0, .cells #[nI ((↑(listFault l).code : Int)), nI ((listFault l).at')] 40 (0, 0))]) (fun _ => ?_)
   refine JR_callp [] 30 #[.string key, .string text, .slice a l.length c] (some 93) (by kernel_rfl) (fun w S hG => ?_)
   refine (rDotsOf (text := text) (hG.at 1 rfl) (by omega) hc).mono ?_
   rintro e11 w11 ⟨qa, qn, qc, hR⟩
   refine ⟨_, _, _, hR, ?_⟩
   try simp only [cAp, nAp, aNl]
   refine JR_callp [] 29 #[.slice da dn dc, .slice qa qn qc] (some 94) (by kernel_rfl) (fun w S hG => ?_)
   refine (sameDots_eq (l := dotsOf key text l) (hG.at 5 rfl) (hG.at 7 rfl) (by omega)).mono ?_
   rintro e12 w12 hR
   refine ⟨_, _, _, hR, ?_⟩
   try simp only [cAp, nAp, aNl]
   refine Gr (id := 12) (rest := []) [zR 20, zR 21] [6] (fun _ => [zB 6 true]) (fun _ => [(nu1 0, .cells #[nI ((Sx.valOf key l).kind), .string ((Sx.valOf key l).text), nI ((Sx.valOf key l).n), .slice ua un uc] 47 (0, 0)), (nu2 0, .cells #[nI ((↑(listFault l).code : Int)), nI ((listFault l).at')] 40 (0, 0))]) (fun _ => ?_)
   refine JR_end ?_
   refine J_return [[]] (.bool true) (by kernel_rfl) (fun a w s => ?_)
   exact s.retz (by simp) [] [] rfl rfl
end Go.Proofs.YtpjkiomccpjboaaGreatDoor
end
