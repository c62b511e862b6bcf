/- Part 15 of the texts of a claim: VPrunes Tx9. -/
import Derived.Stop.LaidErr
import Derived.Below
import Derived.Carry
import Derived.ChangeSame
import Derived.OpenShut
import Derived.ChangeSlices
import Derived.Test.YtpjkiomccpjboaaGreatDoorTf14
section
namespace Go.Proofs.YtpjkiomccpjboaaGreatDoor
open Go Go.Sx
structure PutsOk (p : Nat) (i : Nat) (L : List PutT) : Prop where
 len : L.length ≤ 12 * i
 right : ∀ q ∈ L, (comFault (oneC q)).code = 0 ∧ q.when.length = p
theorem PutsOk.put {p i : Nat} {base : List Int} {L : List PutT} {c : ComT} (h : PutsOk p i L) (hc : CanPut p base L c) : PutsOk p (i + 1) (L ++ putsOf c c.ops) := by
 refine ⟨?_, fun q hq => ?_⟩
 ·have h1 := (right_of hc.com).o2
  have h2 := h.len
  rw [List.length_append, putsOf, List.length_map]
  omega
 ·rcases List.mem_append.1 hq with hq | hq
  ·exact h.right q hq
  ·obtain ⟨o, ho, rfl⟩ := List.mem_map.1 hq
   exact ⟨PartOf.fault (c' := oneC ⟨c.when, c.place, o⟩) (c := c) ⟨rfl, rfl, by simp [oneC], List.singleton_sublist.2 ho⟩ hc.com, hc.len⟩
theorem PutsOk.next {p i : Nat} {L : List PutT} (h : PutsOk p i L) : PutsOk p (i + 1) L := ⟨by have := h.len; omega, h.right⟩
set_option maxHeartbeats 4000000 in
theorem versionsPrunes {w : World} {S : Nat → Prop} {er : Nat → Addr} {eb : Nat → Array Value × TypeId} {places : Int} {a a2 a3 : Option Addr} {n c n2 c2 n3 c3 : Nat} {key : ByteArray} {l : List ComT} {base at' : List Int} (hC : Rep w S .nilIface (dC er eb)) (hI : Inj er) (h : Rep w S (.slice a n c) (.sl 3 (l.map eCom))) (hbs : Rep w S (.slice a2 n2 c2) (dInts base)) (ha : Rep w S (.slice a3 n3 c3) (dInts at')) :
  Calls Tryz.prog 10 #[.int .i64 places, .slice a n c, .slice a2 n2 c2, .slice a3 n3 c3, .string key] w fun e w' => Ret [] (zero w) S w' e (.bool true) [] [] := by
 have e1 := h.slen
 rw [List.length_map] at e1
 subst e1
 obtain rfl := rep_ints_len hbs
 obtain rfl := rep_ints_len ha
 refine ep10 (args := [.int .i64 places, .slice a l.length c, .slice a2 base.length c2, .slice a3 at'.length c3, .string key]) (S := S) (G := [(_, dC er eb), (_, .sl 3 (l.map eCom)), (_, dInts base), (_, dInts at')]) (by kernel_rfl) (.cons hC (.cons h (.cons hbs (.cons ha (.nil _ _))))) ?_
 refine J_zero ?_
 refine Sq mixed [zR 0] [] [0, 1, 2, 3, 4, 10] (fun _ => [zI 0 places, zS 1 a l.length c, zS 2 a2 base.length c2, zS 3 a3 at'.length c3, zV 4 (.string key), zB 10 false]) (fun _ => []) (fun _ => ?_)
 refine J_seq ?_
 refine jB mixed [(0, false), (1, true)] [] ?_
 refine JR_callzp [] 33 #[] (some 22) zero_all (by kernel_rfl) (fun w S hG => ?_)
 refine (stored (hG.at 0 rfl)).mono ?_
 rintro e1 w1 hR
 refine ⟨_, _, _, hR, ?_⟩
 try simp only [cAp, nAp, aNl]
 refine Gr (id := 1) (rest := []) [zR 1] [0, 1, 2, 3, 4, 10, 11] (fun _ => [zI 0 places, zS 1 a l.length c, zS 2 a2 base.length c2, zS 3 a3 at'.length c3, zV 4 (.string key), zB 10 false, zB 11 true]) (fun _ => []) (fun _ => ?_)
 refine JR_end ?_
 refine J_seq ?_
 refine J_seq ?_
 refine jB mixed [(0, true), (1, true), (2, true), (3, true), (4, false), (5, true), (6, true), (7, true), (8, true), (9, true), (10, true), (11, true), (12, true), (13, true), (14, true), (15, true), (16, true), (17, true), (18, true), (19, true), (20, true)] [] ?_
 refine Gr (id := 2) (rest := [(4, false), (5, true), (6, true), (7, true), (8, true), (9, true), (10, true), (11, true), (12, true), (13, true), (14, true), (15, true), (16, true), (17, true), (18, true), (19, true), (20, true)]) [zR 0, zR 1, zR 2, zR 3] [0, 1, 2, 3, 4, 10, 11, 25, 26] (fun _ => [zI 0 places, zS 1 a l.length c, zS 2 a2 base.length c2, zS 3 a3 at'.length c3, zV 4 (.string key), zB 10 false, zB 11 true, zB 25 false, zS 26 a l.length c]) (fun _ => []) (fun _ => ?_)
 refine JR_callp [] 20 #[.slice a l.length c] (some 27) (by kernel_rfl) (fun w S hG => ?_)
 refine (heavyB (hG.at 1 rfl)).mono ?_
 rintro e2 w2 hR
 refine ⟨_, _, _, hR, ?_⟩
 cases hhv : heavyL l with
 | true =>
  try simp only [cAp, nAp, aNl]
  refine Gr (id := 2) (rest := []) [zR 5, zR 6, .rd 7 [] 1 0, .rd 8 [] 1 0, .rd 9 [] 1 0, zR 10, zR 11, .rd 12 [] 1 0, .rd 13 [] 1 0, .rd 14 [] 1 0, zR 15, zR 16, .rd 17 [] 1 0, .rd 18 [] 1 0, .rd 19 [] 1 0, zR 20] [0, 1, 2, 3, 4, 10, 11, 43] (fun _ => [zI 0 places, zS 1 a l.length c, zS 2 a2 base.length c2, zS 3 a3 at'.length c3, zV 4 (.string key), zB 10 false, zB 11 true, zB 43 true]) (fun _ => []) (fun _ => ?_)
  refine JR_end ?_
  refine cTt ?_
  refine Sq mixed [zR 0, zR 1] [] [0, 1, 2, 3, 4, 10] (fun _ => [zI 0 places, zS 1 a l.length c, zS 2 a2 base.length c2, zS 3 a3 at'.length c3, zV 4 (.string key), zB 10 true]) (fun _ => []) (fun _ => ?_)
  refine J_return [[]] (.bool true) (by kernel_rfl) (fun a w s => ?_)
  exact s.retz (by simp) [] [] rfl rfl
 | false =>
 obtain ⟨hl30, hlc⟩ := light hhv
 by_cases hba : base.length ≤ 20
 case neg =>
  try simp only [cAp, nAp, aNl]
  refine Gs (id := 2) (rest := []) [zR 5, zR 6, zR 7, zR 8, .rd 9 [] 0 6, zR 10, zR 11, .rd 12 [] 1 0, .rd 13 [] 1 0, .rd 14 [] 1 0, zR 15, zR 16, .rd 17 [] 1 0, .rd 18 [] 1 0, .rd 19 [] 1 0, zR 20] [0, 1, 2, 3, 4, 10, 11, 43] (fun _ => [zI 0 places, zS 1 a l.length c, zS 2 a2 base.length c2, zS 3 a3 at'.length c3, zV 4 (.string key), zB 10 false, zB 11 true, zB 43 true]) (fun _ => []) (fun _ => [decide ((↑base.length : Int) > (20 : Int)) = true]) (fun _ => ⟨by simp; omega, trivial⟩) (fun _ => ?_)
  refine JR_end ?_
  refine cTt ?_
  refine Sq mixed [zR 0, zR 1] [] [0, 1, 2, 3, 4, 10] (fun _ => [zI 0 places, zS 1 a l.length c, zS 2 a2 base.length c2, zS 3 a3 at'.length c3, zV 4 (.string key), zB 10 true]) (fun _ => []) (fun _ => ?_)
  refine J_return [[]] (.bool true) (by kernel_rfl) (fun a w s => ?_)
  exact s.retz (by simp) [] [] rfl rfl
 by_cases hat : at'.length ≤ 20
 case neg =>
  try simp only [cAp, nAp, aNl]
  refine Gs (id := 2) (rest := []) [zR 5, zR 6, zR 7, zR 8, .rd 9 [] 0 7, zR 10, zR 11, zR 12, zR 13, .rd 14 [] 0 6, zR 15, zR 16, .rd 17 [] 1 0, .rd 18 [] 1 0, .rd 19 [] 1 0, zR 20] [0, 1, 2, 3, 4, 10, 11, 43] (fun _ => [zI 0 places, zS 1 a l.length c, zS 2 a2 base.length c2, zS 3 a3 at'.length c3, zV 4 (.string key), zB 10 false, zB 11 true, zB 43 true]) (fun _ => []) (fun _ => [decide ((↑base.length : Int) > (20 : Int)) = false, decide ((↑at'.length : Int) > (20 : Int)) = true]) (fun _ => ⟨by simp; omega, by simp; omega, trivial⟩) (fun _ => ?_)
  refine JR_end ?_
  refine cTt ?_
  refine Sq mixed [zR 0, zR 1] [] [0, 1, 2, 3, 4, 10] (fun _ => [zI 0 places, zS 1 a l.length c, zS 2 a2 base.length c2, zS 3 a3 at'.length c3, zV 4 (.string key), zB 10 true]) (fun _ => []) (fun _ => ?_)
  refine J_return [[]] (.bool true) (by kernel_rfl) (fun a w s => ?_)
  exact s.retz (by simp) [] [] rfl rfl
 by_cases hkey : key.size ≤ 60
 case neg =>
  try simp only [cAp, nAp, aNl]
  refine Gs (id := 2) (rest := []) [zR 5, zR 6, zR 7, zR 8, .rd 9 [] 0 7, zR 10, zR 11, zR 12, zR 13, .rd 14 [] 0 7, zR 15, zR 16, zR 17, zR 18, .rd 19 [] 0 6, zR 20] [0, 1, 2, 3, 4, 10, 11, 43] (fun _ => [zI 0 places, zS 1 a l.length c, zS 2 a2 base.length c2, zS 3 a3 at'.length c3, zV 4 (.string key), zB 10 false, zB 11 true, zB 43 true]) (fun _ => []) (fun _ => [decide ((↑base.length : Int) > (20 : Int)) = false, decide ((↑at'.length : Int) > (20 : Int)) = false, decide ((↑key.size : Int) > (60 : Int)) = true]) (fun _ => ⟨by simp; omega, by simp; omega, by simp; omega, trivial⟩) (fun _ => ?_)
  refine JR_end ?_
  refine cTt ?_
  refine Sq mixed [zR 0, zR 1] [] [0, 1, 2, 3, 4, 10] (fun _ => [zI 0 places, zS 1 a l.length c, zS 2 a2 base.length c2, zS 3 a3 at'.length c3, zV 4 (.string key), zB 10 true]) (fun _ => []) (fun _ => ?_)
  refine J_return [[]] (.bool true) (by kernel_rfl) (fun a w s => ?_)
  exact s.retz (by simp) [] [] rfl rfl
 try simp only [cAp, nAp, aNl]
 refine Gs (id := 2) (rest := []) [zR 5, zR 6, zR 7, zR 8, .rd 9 [] 0 7, zR 10, zR 11, zR 12, zR 13, .rd 14 [] 0 7, zR 15, zR 16, zR 17, zR 18, .rd 19 [] 0 7, zR 20] [0, 1, 2, 3, 4, 10, 11, 43] (fun _ => [zI 0 places, zS 1 a l.length c, zS 2 a2 base.length c2, zS 3 a3 at'.length c3, zV 4 (.string key), zB 10 false, zB 11 true, zB 43 false]) (fun _ => []) (fun _ => [decide ((↑base.length : Int) > (20 : Int)) = false, decide ((↑at'.length : Int) > (20 : Int)) = false, decide ((↑key.size : Int) > (60 : Int)) = false]) (fun _ => ⟨by simp; omega, by simp; omega, by simp; omega, trivial⟩) (fun _ => ?_)
 refine JR_end ?_
 refine cF ?_
 refine J_skip ?_
 refine J_seq ?_
 refine jB mixed [(0, true), (1, false), (2, true), (3, true), (4, true), (5, true), (6, true)] [] ?_
 refine Gr (id := 4) (rest := [(1, false), (2, true), (3, true), (4, true), (5, true), (6, true)]) [zR 0] [1, 2, 3, 4, 10, 46] (fun _ => [zS 1 a l.length c, zS 2 a2 base.length c2, zS 3 a3 at'.length c3, zV 4 (.string key), zB 10 false, zI 46 places]) (fun _ => []) (fun _ => ?_)
 refine JR_callp [] 34 #[.int .i64 places] (some 47) (by kernel_rfl) (fun w S hG => ?_)
 refine (vNew (p := places) (hG.at 0 rfl)).mono ?_
 rintro e3 w3 (⟨hpl, hR⟩ | ⟨⟨hp1, hp6⟩, b, bb, mk, md, hR⟩)
 ·refine ⟨_, _, _, hR, ?_⟩
  try simp only [cAp, nAp, aNl]
  refine Gr (id := 4) (rest := []) [zR 2, zR 3, zR 4, zR 5, zR 6] [1, 2, 3, 4, 10, 12, 13] (fun _ => [zS 1 a l.length c, zS 2 a2 base.length c2, zS 3 a3 at'.length c3, zV 4 (.string key), zB 10 false, zV 12 (.pointer none), zV 13 (.iface 243 (.pointer (some (er 2))))]) (fun _ => []) (fun _ => ?_)
  refine JR_end ?_
  refine J_seq ?_
  refine Sq mixed [zR 0, zR 1] [] [1, 2, 3, 4, 10, 12, 13, 51] (fun _ => [zS 1 a l.length c, zS 2 a2 base.length c2, zS 3 a3 at'.length c3, zV 4 (.string key), zB 10 false, zV 12 (.pointer none), zV 13 (.iface 243 (.pointer (some (er 2)))), zB 51 true]) (fun _ => []) (fun _ => ?_)
  refine cTt ?_
  refine Sq mixed [zR 0, zR 1, zR 2] [] [1, 2, 3, 4, 10, 12, 13] (fun _ => [zS 1 a l.length c, zS 2 a2 base.length c2, zS 3 a3 at'.length c3, zV 4 (.string key), zB 10 true, zV 12 (.pointer none), zV 13 (.iface 243 (.pointer (some (er 2))))]) (fun _ => []) (fun _ => ?_)
  refine J_return [[]] (.bool true) (by kernel_rfl) (fun a w s => ?_)
  exact s.retz (by simp) [] [] rfl rfl
 obtain ⟨p, rfl⟩ : ∃ p : Nat, places = p := ⟨places.toNat, by omega⟩
 rw [Int.toNat_natCast] at hR
 refine ⟨_, _, _, hR, ?_⟩
 have hbv : vecErr (List.replicate p (0 : Int)) = 0 := vecErr_zeros (by omega) (by omega)
 have hbl : (List.replicate p (0 : Int)).length = p := List.length_replicate
 try simp only [cAp, nAp, aNl]
 refine Gr (id := 4) (rest := []) [zR 2, zR 3, zR 4, zR 5, zR 6] [1, 2, 3, 4, 10, 12, 13] (fun _ => [zS 1 a l.length c, zS 2 a2 base.length c2, zS 3 a3 at'.length c3, zV 4 (.string key), zB 10 false, zP 12 b, zV 13 .nilIface]) (fun _ => []) (fun _ => ?_)
 refine JR_end ?_
 refine J_seq ?_
 refine Sq mixed [zR 0, zR 1] [] [1, 2, 3, 4, 10, 12, 13, 51] (fun _ => [zS 1 a l.length c, zS 2 a2 base.length c2, zS 3 a3 at'.length c3, zV 4 (.string key), zB 10 false, zP 12 b, zV 13 .nilIface, zB 51 false]) (fun _ => []) (fun _ => ?_)
 refine cF ?_
 refine J_skip ?_
 refine J_seq ?_
 refine Sq mixed [zR 0] [] [1, 2, 3, 4, 10, 12, 13, 14] (fun _ => [zS 1 a l.length c, zS 2 a2 base.length c2, zS 3 a3 at'.length c3, zV 4 (.string key), zB 10 false, zP 12 b, zV 13 .nilIface, zI 14 0]) (fun _ => []) (fun _ => ?_)
 refine J_block ?_
 have hm0 : MapG (MapKept.IsKey .string) #[] (strG [] fun _ => .nilIface) := (MapG.empty _).congr fun k => (strG_nil _ k).symm
 refine J_loopx (fun y : PutsB => [zS 1 a l.length c, zS 2 a2 base.length c2, zS 3 a3 at'.length c3, zV 4 (.string key), zB 10 false, zP 12 b, zV 13 .nilIface, zI 14 y.i]) (fun y : PutsB => []) (fun y : PutsB => [cObj b (.cells #[nI (p : Nat), .slice (some ⟨bb, 0, none⟩) p p, .map (some mk), .map (some md)] 133 (0, 0)), cObj mk (.map y.es y.clock), cStar (y.ks.map fun t => cAcc (y.F t) 28 3 ((keyC y.L t).map eCom)), cMapG md okDot (dotSet (y.L.map dotP))]) (fun y : PutsB => [(.nilIface, (dC er eb)), (.slice a l.length c, (D.sl 3 (List.map eCom l))), (.slice a2 base.length c2, (dInts base)), (.slice a3 at'.length c3, (dInts at')), (.slice (sA bb 0) p p, (dInts (List.replicate p 0)))]) (fun y : PutsB => (l.length - y.i).toNat) (fun y : PutsB => (0 ≤ y.i ∧ y.i ≤ l.length ∧ PutsOk p y.i.toNat y.L ∧ MapG (MapKept.IsKey .string) y.es (strG y.ks y.F) ∧ MapKept.Stamped y.es y.clock ∧ y.ks.Nodup ∧ (∀ t, t ∈ y.ks ↔ keyC y.L t ≠ []))) ⟨0, [], #[], 0, [], fun _ => .nilIface⟩ [1, 2, 3, 4, 10, 12, 13, 14] [] [0, 1, 2, 3] [0, 1, 2, 3, 4] ?_ (by kernel_rfl) rfl rfl rfl ?_
 ·exact ⟨by simp, by simp, ⟨by simp, by simp⟩, hm0, MapKept.stamped_empty 0, by simp, by simp [keyC]⟩
 rintro ⟨i, L, es, clock, ks, F⟩ ⟨hi0, hi, hK, hm, hst, hnd, hiff⟩
 dsimp only at hi0 hi hK hm hst hnd hiff ⊢
 have hLl := hK.len
 refine J_seq ?_
 refine Sq mixed [zR 0, zR 1, zR 2, zR 3] [] [1, 2, 3, 4, 10, 12, 13, 14, 57] (fun _ => [zS 1 a l.length c, zS 2 a2 base.length c2, zS 3 a3 at'.length c3, zV 4 (.string key), zB 10 false, zP 12 b, zV 13 .nilIface, zI 14 i, zB 57 (decide (i < (↑l.length : Int)))]) (fun _ => []) (fun _ => ?_)
 refine cC (t := decide (i < (↑l.length : Int))) (fun hlt => ?_) (fun hlt => ?_)
 ·have hlt2 : i < l.length := by simpa using hlt
  obtain ⟨x, hx⟩ : ∃ x, l[i.toNat]? = some x := ⟨_, List.getElem?_eq_getElem (by omega)⟩
  have hxm := List.mem_of_getElem? hx
  have hxl := light_com (hlc x hxm)
  refine J_read2 1 rfl i.toNat (map_at hx) (by kernel_rfl) (fun b1 off1 cs1 ty1 fz1 a1_0 c1_0 a1_1 c1_1 ha1 hrd1 => ?_)
  cases ha1
  have hrd1_0 := rd0 (hrd1 0 _ rfl)
  have hrd1_1 := hrd1 1 _ rfl
  have hrd1_2 := hrd1 2 _ rfl
  try simp only [cAp, nAp, aNl]
  refine J_skip ?_
  refine J_seq ?_
  refine J_block ?_
  refine jB mixed [(0, true), (1, true), (2, true), (3, true), (4, true), (5, false), (6, false)] [] ?_
  refine Gs (id := 10) (rest := [(5, false), (6, false)]) [zR 0, zR 1, zR 2, .rd 3 [] 0 2, .rd 4 [.r 0 (some (.slice (a1_0, c1_0).fst ((List.map eI x.when).length) c1_0)), .r 0 (some (nI x.place)), .r 0 (some (.slice (a1_1, c1_1).fst ((List.map eOp x.ops).length) c1_1))] 0 0] [1, 2, 3, 4, 10, 12, 13, 14, 60, 64] (fun _ => [zS 1 (sA b1 off1) l.length c, zS 2 a2 base.length c2, zS 3 a3 at'.length c3, zV 4 (.string key), zB 10 false, zP 12 b, zV 13 .nilIface, zI 14 i, zP 60 b, zV 64 (.agg #[.slice (a1_0, c1_0).fst ((List.map eI x.when).length) c1_0, nI x.place, .slice (a1_1, c1_1).fst ((List.map eOp x.ops).length) c1_1])]) (fun _ => []) (fun _ => [(0 : Int) ≤ i, i < (↑l.length : Int), cs1[off1 + i.toNat * (3 : Nat)]? = some (Value.slice (a1_0, c1_0).fst (List.map eI x.when).length (a1_0, c1_0).snd), cs1[off1 + i.toNat * (3 : Nat) + (1 : Nat)]? = some (nI x.place), cs1[off1 + i.toNat * (3 : Nat) + (2 : Nat)]? = some (Value.slice (a1_1, c1_1).fst (List.map eOp x.ops).length (a1_1, c1_1).snd)]) (fun _ => ⟨hi0, hlt2, hrd1_0, hrd1_1, hrd1_2, trivial⟩) (fun _ => ?_)
  refine JR_callp [] 18 #[.agg #[.slice (a1_0, c1_0).fst ((List.map eI x.when).length) c1_0, .int .i64 x.place, .slice (a1_1, c1_1).fst ((List.map eOp x.ops).length) c1_1]] (some 65) (by kernel_rfl) (fun w S hG => ?_)
  refine (ownCommit (c := x) (hG.at 5 rfl) (hG.at 6 rfl) (by omega) (by omega) (fun o ho => by have := hxl.2.2 o ho; omega)).mono ?_
  rintro e5 w5 ⟨q1, m1, d1, q2, m2, d2, hR⟩
  refine ⟨_, _, _, hR, ?_⟩
  try simp only [cAp, nAp, aNl]
  refine JR_call [] [0, 1, 2, 3] 36 #[.pointer (some (⟨b, 0, none⟩)), .agg #[.slice q1 m1 d1, .int .i64 x.place, .slice q2 m2 d2]] (some 66) (by kernel_rfl) (by kernel_rfl) (by decide) (fun w S M hP hG _ => ?_)
  refine (vPut (p := p) (base := List.replicate p 0) (L := L) (c := x) (hG.at 0 rfl) hP (hG.at 4 rfl) hbv hbl (hG.at 7 rfl) (hG.at 8 rfl) (by omega) (by omega) (fun o ho => by have := hxl.2.2 o ho; omega) (by omega) hm hst hnd hiff).mono ?_
  have hi1 : (i + 1).toNat = i.toNat + 1 := by omega
  rintro e6 w6 (⟨hf, v, G, hR, hv⟩ | ⟨hf, es1, clock1, ks1, F1, hR, hm1, hst1, hnd1, hiff1⟩)
  ·have hR := ret_drop hR
   refine ⟨_, _, _, hR, ?_⟩
   try simp only [cAp, nAp, aNl]
   refine JR_end ?_
   try simp only [cAp, nAp, aNl]
   refine J_eb ?_
   try simp only [cAp, nAp, aNl]
   refine Gp mixed [zR 0, .rd 1 [] 0 1, zR 2] [] [1, 2, 3, 4, 10, 12, 13, 14, 60, 64, 65] (fun _ => [zS 1 (sA b1 off1) l.length c, zS 2 a2 base.length c2, zS 3 a3 at'.length c3, zV 4 (.string key), zB 10 false, zP 12 b, zV 13 .nilIface, zI 14 (i + 1), zP 60 b, zV 64 (.agg #[.slice a1_0 ((List.map eI x.when).length) c1_0, nI x.place, .slice a1_1 ((List.map eOp x.ops).length) c1_1]), zV 65 (.agg #[.slice q1 m1 d1, nI x.place, .slice q2 m2 d2])]) (fun _ => []) (fun _ => [IntKind.i64.wrap (i + (1 : Int)) = i + (1 : Int)]) (fun _ => ⟨wrap_i64 (by omega) (by omega), trivial⟩) (fun _ => ?_)
   try simp only [cAp, nAp, aNl]
   refine J_backx ⟨i + 1, L, _, _, _, _⟩ [1, 2, 3, 4, 10, 12, 13, 14] [] [0, 1, 2, 3] [0, 1, 2, 3, 4] ?_ ?_ (by kernel_rfl) rfl rfl rfl
   ·exact ⟨by simp only; omega, by simp only; omega, by rw [hi1]; exact hK.next, hm, hst, hnd, hiff⟩
   ·simp only
    omega
  ·have hcp := putFault_zero.1 hf
   refine ⟨_, _, _, hR, ?_⟩
   try simp only [cAp, nAp, aNl]
   refine JR_end ?_
   try simp only [cAp, nAp, aNl]
   refine J_eb ?_
   try simp only [cAp, nAp, aNl]
   refine Gp mixed [zR 0, .rd 1 [] 0 1, zR 2] [] [1, 2, 3, 4, 10, 12, 13, 14, 60, 64, 65] (fun _ => [zS 1 (sA b1 off1) l.length c, zS 2 a2 base.length c2, zS 3 a3 at'.length c3, zV 4 (.string key), zB 10 false, zP 12 b, zV 13 .nilIface, zI 14 (i + 1), zP 60 b, zV 64 (.agg #[.slice a1_0 ((List.map eI x.when).length) c1_0, nI x.place, .slice a1_1 ((List.map eOp x.ops).length) c1_1]), zV 65 (.agg #[.slice q1 m1 d1, nI x.place, .slice q2 m2 d2])]) (fun _ => []) (fun _ => [IntKind.i64.wrap (i + (1 : Int)) = i + (1 : Int)]) (fun _ => ⟨wrap_i64 (by omega) (by omega), trivial⟩) (fun _ => ?_)
   try simp only [cAp, nAp, aNl]
   refine J_backx ⟨i + 1, L ++ putsOf x x.ops, _, _, _, _⟩ [1, 2, 3, 4, 10, 12, 13, 14] [] [0, 1, 2, 3] [0, 1, 2, 3, 4] ?_ ?_ (by kernel_rfl) rfl rfl rfl
   ·exact ⟨by simp only; omega, by simp only; omega, by rw [hi1]; exact hK.put hcp, hm1, hst1, hnd1, hiff1⟩
   ·simp only
    omega
 ·have hLm : L.length ≤ 360 := by
   have := hK.len
   omega
  refine J_exit rfl ?_
  refine J_seq ?_
  refine J_norm (C' := [cObj b (.cells #[.int .i64 (↑p : Int), .slice (some (⟨bb, 0, none⟩)) p p, .map (some mk), .map (some md)] 133 (0, 0)), cObj mk (Obj.map es clock), (cStar (List.map (fun t => cAcc (F t) 28 3 (List.map eCom (keyC L t))) ks)), (cMapG md okDot (dotSet (List.map dotP L)))]) (G' := [(.nilIface, (dC er eb)), (.slice a l.length c, (D.sl 3 (List.map eCom l))), (.slice a2 base.length c2, (dInts base)), (.slice a3 at'.length c3, (dInts at')), (.slice (some (⟨bb, 0, none⟩)) p p, (dInts (List.replicate p 0)))]) (by kernel_rfl) (by kernel_rfl) ?_
  refine jB mixed [(0, true), (1, false), (2, true)] [] ?_
  refine Gr (id := 11) (rest := [(1, false), (2, true)]) [zR 0] [2, 3, 4, 10, 12, 13, 67] (fun _ => [zS 2 a2 base.length c2, zS 3 a3 at'.length c3, zV 4 (.string key), zB 10 false, zP 12 b, zV 13 .nilIface, zP 67 b]) (fun _ => []) (fun _ => ?_)
  refine JR_call [] [0, 1, 2, 3] 46 #[.pointer (some (⟨b, 0, none⟩))] (some 68) (by kernel_rfl) (by kernel_rfl) (by decide) (fun w S M hP hG _ => ?_)
  refine (vCopy (p := p) (base := List.replicate p 0) (L := L) hP (hG.at 4 rfl) (by omega) (by omega) hm hst hnd hiff).mono ?_
  rintro e5 w5 ⟨b2, mk2, md2, ua, uc, es2, clock2, ks2, F2, hR, hm2, hst2, hnd2, hiff2⟩
  refine ⟨_, _, _, hR, ?_⟩
  try simp only [cAp, nAp, aNl]
  refine Gr (id := 11) (rest := []) [zR 2] [2, 3, 4, 10, 12, 13, 15] (fun _ => [zS 2 a2 base.length c2, zS 3 a3 at'.length c3, zV 4 (.string key), zB 10 false, zP 12 b, zV 13 .nilIface, zP 15 b2]) (fun _ => []) (fun _ => ?_)
  try simp only [cAp, nAp, aNl]
  refine JR_end ?_
  try simp only [cAp, nAp, aNl]
  refine J_seq ?_
  try simp only [cAp, nAp, aNl]
  refine J_seq ?_
  try simp only [cAp, nAp, aNl]
  refine Gq mixed [zR 0, zR 1] [] [2, 3, 4, 10, 12, 13, 15, 70] (fun _ => [zS 2 a2 base.length c2, zS 3 a3 at'.length c3, zV 4 (.string key), zB 10 false, zP 12 b, zV 13 .nilIface, zP 15 b2, zB 70 false]) (fun _ => []) (fun _ => ?_)
  try simp only [cAp, nAp, aNl]
  refine cF ?_
  try simp only [cAp, nAp, aNl]
  refine J_skip ?_
  try simp only [cAp, nAp, aNl]
  refine J_seq ?_
  try simp only [cAp, nAp, aNl]
  refine J_norm (C' := [cObj b (.cells #[.int .i64 (↑p : Int), .slice (some (⟨bb, 0, none⟩)) p p, .map (some mk), .map (some md)] 133 (0, 0)), cObj mk (Obj.map es clock), (cStar (List.map (fun t => cAcc (F t) 28 3 (List.map eCom (keyC L t))) ks)), (cMapG md okDot (dotSet (List.map dotP L))), cObj b2 (.cells #[.int .i64 (↑p : Int), .slice ua p uc, .map (some mk2), .map (some md2)] 133 (0, 0)), cObj mk2 (Obj.map es2 clock2), (cStar (List.map (fun t => cAcc (F2 t) 28 3 (List.map eCom (keyC L t))) ks2)), (cMapG md2 okDot (dotSet (List.map dotP L)))]) (G' := [(.nilIface, (dC er eb)), (.slice a l.length c, (D.sl 3 (List.map eCom l))), (.slice a2 base.length c2, (dInts base)), (.slice a3 at'.length c3, (dInts at')), (.slice (some (⟨bb, 0, none⟩)) p p, (dInts (List.replicate p 0))), (.slice ua p uc, (dInts (List.replicate p 0)))]) (by kernel_rfl) (by kernel_rfl) ?_
  refine jB mixed [(0, true), (1, true), (2, false), (3, false), (4, true)] [] ?_
  refine Gr (id := 14) (rest := [(2, false), (3, false), (4, true)]) [zR 0, zR 1] [2, 3, 4, 10, 12, 13, 15, 71, 72] (fun _ => [zS 2 a2 base.length c2, zS 3 a3 at'.length c3, zV 4 (.string key), zB 10 false, zP 12 b, zV 13 .nilIface, zP 15 b2, zP 71 b2, zS 72 a2 base.length c2]) (fun _ => []) (fun _ => ?_)
  refine JR_callp [] 39 #[.slice a2 base.length c2] (some 73) (by kernel_rfl) (fun w S hG => ?_)
  refine (vown (hG.at 2 rfl) (by omega)).mono ?_
  rintro e6 w6 ⟨a6, c6, hR⟩
  refine ⟨_, _, _, hR, ?_⟩
  try simp only [cAp, nAp, aNl]
  refine JR_call [] [4] 44 #[.pointer (some (⟨b2, 0, none⟩)), .slice a6 base.length c6] (some 74) (by kernel_rfl) (by kernel_rfl) (by decide) (fun w S M hP hG _ => ?_)
  refine (vPrune (clock := 0) (es := #[]) (ks := []) (F := fun _ => .nilIface) (L := []) (p := p) (base := List.replicate p 0) (at' := base) (hG.at 0 rfl) hP (hG.at 5 rfl) hbv hbl (hG.at 6 rfl) (by omega)).mono ?_
  rintro e7 w7 (⟨hpe, hR⟩ | ⟨hpe, ub, un, uc2, hR⟩)
  ·refine ⟨_, _, _, hR, ?_⟩
   try simp only [cAp, nAp, aNl]
   refine Gr (id := 14) (rest := []) [zR 4] [2, 3, 4, 10, 12, 13, 15, 16] (fun _ => [zS 2 a2 base.length c2, zS 3 a3 at'.length c3, zV 4 (.string key), zB 10 false, zP 12 b, zV 13 .nilIface, zP 15 b2, zV 16 (.iface 243 (.pointer (some (er (pruneErr p base)))))]) (fun _ => []) (fun _ => ?_)
   try simp only [cAp, nAp, aNl]
   refine JR_end ?_
   try simp only [cAp, nAp, aNl]
   refine J_seq ?_
   try simp only [cAp, nAp, aNl]
   refine J_seq ?_
   try simp only [cAp, nAp, aNl]
   refine Gq mixed [zR 0, zR 1] [] [2, 3, 4, 10, 12, 13, 15, 76] (fun _ => [zS 2 a2 base.length c2, zS 3 a3 at'.length c3, zV 4 (.string key), zB 10 false, zP 12 b, zV 13 .nilIface, zP 15 b2, zB 76 true]) (fun _ => []) (fun _ => ?_)
   try simp only [cAp, nAp, aNl]
   refine cTt ?_
   try simp only [cAp, nAp, aNl]
   refine J_seq ?_
   try simp only [cAp, nAp, aNl]
   refine Gq mixed [zR 0] [] [2, 3, 4, 10, 12, 13, 15] (fun _ => [zS 2 a2 base.length c2, zS 3 a3 at'.length c3, zV 4 (.string key), zB 10 true, zP 12 b, zV 13 .nilIface, zP 15 b2]) (fun _ => []) (fun _ => ?_)
   try simp only [cAp, nAp, aNl]
   refine J_return [[]] (.bool true) (by kernel_rfl) (fun a w s => ?_)
   exact s.retz (by simp) [] [] rfl rfl
  obtain ⟨hbv2, hbl2⟩ := prune_fine hpe
  rw [max_zeros hbv2 hbl2] at hR
  refine ⟨_, _, _, hR, ?_⟩
  try simp only [cAp, nAp, aNl]
  refine Gr (id := 14) (rest := []) [zR 4] [2, 3, 4, 10, 12, 13, 15, 16] (fun _ => [zS 2 a2 base.length c2, zS 3 a3 at'.length c3, zV 4 (.string key), zB 10 false, zP 12 b, zV 13 .nilIface, zP 15 b2, zV 16 .nilIface]) (fun _ => []) (fun _ => ?_)
  try simp only [cAp, nAp, aNl]
  refine JR_end ?_
  try simp only [cAp, nAp, aNl]
  refine J_seq ?_
  try simp only [cAp, nAp, aNl]
  refine J_seq ?_
  try simp only [cAp, nAp, aNl]
  refine Gq mixed [zR 0, zR 1] [] [2, 3, 4, 10, 12, 13, 15, 76] (fun _ => [zS 2 a2 base.length c2, zS 3 a3 at'.length c3, zV 4 (.string key), zB 10 false, zP 12 b, zV 13 .nilIface, zP 15 b2, zB 76 false]) (fun _ => []) (fun _ => ?_)
  try simp only [cAp, nAp, aNl]
  refine cF ?_
  try simp only [cAp, nAp, aNl]
  refine J_skip ?_
  try simp only [cAp, nAp, aNl]
  refine J_seq ?_
  try simp only [cAp, nAp, aNl]
  refine J_norm (C' := [cObj b (.cells #[.int .i64 (↑p : Int), .slice (some (⟨bb, 0, none⟩)) p p, .map (some mk), .map (some md)] 133 (0, 0)), cObj mk (Obj.map es clock), (cStar (List.map (fun t => cAcc (F t) 28 3 (List.map eCom (keyC L t))) ks)), (cMapG md okDot (dotSet (List.map dotP L))), cObj mk2 (Obj.map es2 clock2), (cStar (List.map (fun t => cAcc (F2 t) 28 3 (List.map eCom (keyC L t))) ks2)), (cMapG md2 okDot (dotSet (List.map dotP L))), cObj b2 (.cells #[.int .i64 (↑p : Int), .slice ub un uc2, .map (some mk2), .map (some md2)] 133 (0, 0))]) (G' := [(.nilIface, (dC er eb)), (.slice a l.length c, (D.sl 3 (List.map eCom l))), (.slice a2 base.length c2, (dInts base)), (.slice a3 at'.length c3, (dInts at')), (.slice (some (⟨bb, 0, none⟩)) p p, (dInts (List.replicate p 0))), (.slice ua p uc, (dInts (List.replicate p 0))), (.slice a6 base.length c6, (dInts base)), (.slice ub un uc2, (dInts base))]) (by kernel_rfl) (by kernel_rfl) ?_
  refine jB mixed [(0, true), (1, true), (2, true), (3, false), (4, false), (5, true), (6, true), (7, true), (8, false), (9, false), (10, true)] [] ?_
  refine Gr (id := 17) (rest := [(3, false), (4, false), (5, true), (6, true), (7, true), (8, false), (9, false), (10, true)]) [zR 0, zR 1, zR 2] [2, 3, 4, 10, 13, 15, 78, 79, 80] (fun _ => [zS 2 a2 base.length c2, zS 3 a3 at'.length c3, zV 4 (.string key), zB 10 false, zV 13 .nilIface, zP 15 b2, zP 78 b, zV 79 (.string key), zS 80 a3 at'.length c3]) (fun _ => []) (fun _ => ?_)
  refine JR_callp [] 39 #[.slice a3 at'.length c3] (some 81) (by kernel_rfl) (fun w S hG => ?_)
  refine (vown (hG.at 3 rfl) (by omega)).mono ?_
  rintro e8 w8 ⟨a8, c8, hR⟩
  refine ⟨_, _, _, hR, ?_⟩
  try simp only [cAp, nAp, aNl]
  refine JR_callz [] [0, 1, 2, 3] 38 #[.pointer (some (⟨b, 0, none⟩)), .string key, .slice a8 at'.length c8] (some 82) zero_all (by kernel_rfl) (by kernel_rfl) (by decide) (fun w S M hP hG _ => ?_)
  refine (vRead (p := p) (base := List.replicate p 0) (at' := at') (key := key) (L := L) (hG.at 0 rfl) hP (hG.at 4 rfl) hbv hbl (hG.at 8 rfl) (by omega) (by omega) hK.right hm hnd hiff).mono ?_
  rintro e9 w9 (⟨hae, hR⟩ | ⟨hae, xa, xn, xc, hR⟩)
  ·refine ⟨_, _, _, hR, ?_⟩
   try simp only [cAp, nAp, aNl]
   refine Gr (id := 17) (rest := []) [zR 5, zR 6, zR 7, .wr 8 [] 0, .wr 9 [.o 0 none, .o 0 none, .o 0 none, .o 0 none] 0, zR 10] [2, 3, 4, 10, 13, 15, 17, 18] (fun nu1 => [zS 2 a2 base.length c2, zS 3 a3 at'.length c3, zV 4 (.string key), zB 10 false, zV 13 .nilIface, zP 15 b2, zP 17 (nu1 0), zV 18 (.iface 243 (.pointer (some (er (atErr p (List.replicate p 0) key at')))))]) (fun nu1 => [(nu1 0, .cells #[nI 0, .string (ByteArray.mk #[]), nI 0, .slice none 0 0] 47 (0, 0))]) (fun nu1 => ?_)
   try simp only [cAp, nAp, aNl]
   refine JR_end ?_
   try simp only [cAp, nAp, aNl]
   refine J_seq ?_
   try simp only [cAp, nAp, aNl]
   refine J_norm (C' := [cObj mk2 (Obj.map es2 clock2), (cStar (List.map (fun t => cAcc (F2 t) 28 3 (List.map eCom (keyC L t))) ks2)), (cMapG md2 okDot (dotSet (List.map dotP L))), cObj b2 (.cells #[.int .i64 (↑p : Int), .slice ub un uc2, .map (some mk2), .map (some md2)] 133 (0, 0)), cObj b (.cells #[.int .i64 (↑p : Int), .slice (some (⟨bb, 0, none⟩)) p p, .map (some mk), .map (some md)] 133 (0, 0)), cObj mk (Obj.map es clock), (cStar (List.map (fun t => cAcc (F t) 28 3 (List.map eCom (keyC L t))) ks)), (cMapG md okDot (dotSet (List.map dotP L)))]) (G' := [(.nilIface, (dC er eb)), (.slice a l.length c, (D.sl 3 (List.map eCom l))), (.slice a2 base.length c2, (dInts base)), (.slice a3 at'.length c3, (dInts at')), (.slice (some (⟨bb, 0, none⟩)) p p, (dInts (List.replicate p 0))), (.slice ua p uc, (dInts (List.replicate p 0))), (.slice a6 base.length c6, (dInts base)), (.slice ub un uc2, (dInts base)), (.slice a8 at'.length c8, (dInts at'))]) (by kernel_rfl) (by kernel_rfl) ?_
   refine jB mixed [(0, true), (1, true), (2, true), (3, false), (4, false), (5, true), (6, true), (7, true), (8, false), (9, false), (10, true)] [] ?_
   refine Gr (id := 18) (rest := [(3, false), (4, false), (5, true), (6, true), (7, true), (8, false), (9, false), (10, true)]) [zR 0, zR 1, zR 2] [2, 3, 10, 13, 17, 18, 86, 87, 88] (fun _ => [zS 2 a2 base.length c2, zS 3 a3 at'.length c3, zB 10 false, zV 13 .nilIface, zP 17 (nu1 0), zV 18 (.iface 243 (.pointer (some (er (atErr p (List.replicate p 0) key at'))))), zP 86 b2, zV 87 (.string key), zS 88 a3 at'.length c3]) (fun _ => [(nu1 0, .cells #[nI 0, .string (ByteArray.mk #[]), nI 0, .slice none 0 0] 47 (0, 0))]) (fun _ => ?_)
   refine JR_callp [] 39 #[.slice a3 at'.length c3] (some 89) (by kernel_rfl) (fun w S hG => ?_)
   refine (vown (hG.at 3 rfl) (by omega)).mono ?_
   rintro e10 w10 ⟨a10, c10, hR⟩
   refine ⟨_, _, _, hR, ?_⟩
   try simp only [cAp, nAp, aNl]
   refine JR_callz [] [3, 0, 1, 2] 38 #[.pointer (some (⟨b2, 0, none⟩)), .string key, .slice a10 at'.length c10] (some 90) zero_all (by kernel_rfl) (by kernel_rfl) (by decide) (fun w S M hP hG _ => ?_)
   refine (vRead (p := p) (base := base) (at' := at') (key := key) (L := L) (hG.at 0 rfl) hP (hG.at 7 rfl) hbv2 hbl2 (hG.at 9 rfl) (by omega) (by omega) hK.right hm2 hnd2 hiff2).mono ?_
   rintro e11 w11 (⟨_, hR⟩ | ⟨hae2, _⟩)
   ·refine ⟨_, _, _, hR, ?_⟩
    try simp only [cAp, nAp, aNl]
    refine Gr (id := 18) (rest := []) [zR 5, zR 6, zR 7, .wr 8 [] 0, .wr 9 [.o 1 none, .o 1 none, .o 1 none, .o 1 none] 0, zR 10] [2, 3, 10, 13, 17, 18, 19, 20] (fun nu2 => [zS 2 a2 base.length c2, zS 3 a3 at'.length c3, zB 10 false, zV 13 .nilIface, zP 17 (nu1 0), zV 18 (.iface 243 (.pointer (some (er (atErr p (List.replicate p 0) key at'))))), zP 19 (nu2 0), zV 20 (.iface 243 (.pointer (some (er (atErr p base key at')))))]) (fun nu2 => [(nu1 0, .cells #[nI 0, .string (ByteArray.mk #[]), nI 0, .slice none 0 0] 47 (0, 0)), (nu2 0, .cells #[nI 0, .string (ByteArray.mk #[]), nI 0, .slice none 0 0] 47 (0, 0))]) (fun nu2 => ?_)
    try simp only [cAp, nAp, aNl]
    refine JR_end ?_
    try simp only [cAp, nAp, aNl]
    refine J_seq ?_
    try simp only [cAp, nAp, aNl]
    refine J_seq ?_
    try simp only [cAp, nAp, aNl]
    refine Gq mixed [zR 0, zR 1] [] [2, 3, 10, 13, 17, 19, 20, 94] (fun _ => [zS 2 a2 base.length c2, zS 3 a3 at'.length c3, zB 10 false, zV 13 .nilIface, zP 17 (nu1 0), zP 19 (nu2 0), zV 20 (.iface 243 (.pointer (some (er (atErr p base key at'))))), zB 94 true]) (fun _ => [(nu1 0, .cells #[nI 0, .string (ByteArray.mk #[]), nI 0, .slice none 0 0] 47 (0, 0)), (nu2 0, .cells #[nI 0, .string (ByteArray.mk #[]), nI 0, .slice none 0 0] 47 (0, 0))]) (fun _ => ?_)
    try simp only [cAp, nAp, aNl]
    refine cTt ?_
    try simp only [cAp, nAp, aNl]
    refine J_seq ?_
    try simp only [cAp, nAp, aNl]
    refine Gq mixed [zR 0, zR 1, zR 2] [] [2, 3, 10, 13, 17, 19, 20] (fun _ => [zS 2 a2 base.length c2, zS 3 a3 at'.length c3, zB 10 true, zV 13 .nilIface, zP 17 (nu1 0), zP 19 (nu2 0), zV 20 (.iface 243 (.pointer (some (er (atErr p base key at')))))]) (fun _ => [(nu1 0, .cells #[nI 0, .string (ByteArray.mk #[]), nI 0, .slice none 0 0] 47 (0, 0)), (nu2 0, .cells #[nI 0, .string (ByteArray.mk #[]), nI 0, .slice none 0 0] 47 (0, 0))]) (fun _ => ?_)
    try simp only [cAp, nAp, aNl]
    refine J_return [[]] (.bool true) (by kernel_rfl) (fun a w s => ?_)
    exact s.retz (by simp) [] [] rfl rfl
   ·exact absurd hae2 (at_some hae base)
  ·obtain ⟨hav, hal, hall⟩ := at_zero hae
   have htw : twoErr base at' = 0 := by rw [twoErr, if_neg (by simp [hbv2]), if_neg (by simp [hav]), if_neg (by simp [hbl2, hal])]
   have hnm : nameOk key = true := by
    cases hn : nameOk key with
    | true => rfl
    | false =>
     rw [atErr, if_pos hn] at hae
     cases hae
   have hvl := valOf_len (withinC_fine (at' := at') hnm hK.right)
   have hwl := withinC_len L key at'
   refine ⟨_, _, _, hR, ?_⟩
   try simp only [cAp, nAp, aNl]
   refine Gr (id := 17) (rest := []) [zR 5, zR 6, zR 7, .wr 8 [] 0, .wr 9 [.o 0 none, .o 0 none, .o 0 none, .o 0 none] 0, zR 10] [2, 3, 4, 10, 13, 15, 17, 18] (fun nu1 => [zS 2 a2 base.length c2, zS 3 a3 at'.length c3, zV 4 (.string key), zB 10 false, zV 13 .nilIface, zP 15 b2, zP 17 (nu1 0), zV 18 .nilIface]) (fun nu1 => [(nu1 0, .cells #[nI ((Sx.valOf key (withinC L key at')).kind), .string ((Sx.valOf key (withinC L key at')).text), nI ((Sx.valOf key (withinC L key at')).n), .slice xa xn xc] 47 (0, 0))]) (fun nu1 => ?_)
   try simp only [cAp, nAp, aNl]
   refine JR_end ?_
   try simp only [cAp, nAp, aNl]
   refine J_seq ?_
   try simp only [cAp, nAp, aNl]
   refine J_norm (C' := [cObj mk2 (Obj.map es2 clock2), (cStar (List.map (fun t => cAcc (F2 t) 28 3 (List.map eCom (keyC L t))) ks2)), (cMapG md2 okDot (dotSet (List.map dotP L))), cObj b2 (.cells #[.int .i64 (↑p : Int), .slice ub un uc2, .map (some mk2), .map (some md2)] 133 (0, 0)), cObj b (.cells #[.int .i64 (↑p : Int), .slice (some (⟨bb, 0, none⟩)) p p, .map (some mk), .map (some md)] 133 (0, 0)), cObj mk (Obj.map es clock), (cStar (List.map (fun t => cAcc (F t) 28 3 (List.map eCom (keyC L t))) ks)), (cMapG md okDot (dotSet (List.map dotP L)))]) (G' := [(.nilIface, (dC er eb)), (.slice a l.length c, (D.sl 3 (List.map eCom l))), (.slice a2 base.length c2, (dInts base)), (.slice a3 at'.length c3, (dInts at')), (.slice (some (⟨bb, 0, none⟩)) p p, (dInts (List.replicate p 0))), (.slice ua p uc, (dInts (List.replicate p 0))), (.slice a6 base.length c6, (dInts base)), (.slice ub un uc2, (dInts base)), (.slice a8 at'.length c8, (dInts at')), (.slice xa xn xc, (dStrs (Sx.valOf key (withinC L key at')).set))]) (by kernel_rfl) (by kernel_rfl) ?_
   refine jB mixed [(0, true), (1, true), (2, true), (3, false), (4, false), (5, true), (6, true), (7, true), (8, false), (9, false), (10, true)] [] ?_
   refine Gr (id := 18) (rest := [(3, false), (4, false), (5, true), (6, true), (7, true), (8, false), (9, false), (10, true)]) [zR 0, zR 1, zR 2] [2, 3, 10, 13, 17, 18, 86, 87, 88] (fun _ => [zS 2 a2 base.length c2, zS 3 a3 at'.length c3, zB 10 false, zV 13 .nilIface, zP 17 (nu1 0), zV 18 .nilIface, zP 86 b2, zV 87 (.string key), zS 88 a3 at'.length c3]) (fun _ => [(nu1 0, .cells #[nI ((Sx.valOf key (withinC L key at')).kind), .string ((Sx.valOf key (withinC L key at')).text), nI ((Sx.valOf key (withinC L key at')).n), .slice xa xn xc] 47 (0, 0))]) (fun _ => ?_)
   refine JR_callp [] 39 #[.slice a3 at'.length c3] (some 89) (by kernel_rfl) (fun w S hG => ?_)
   refine (vown (hG.at 3 rfl) (by omega)).mono ?_
   rintro e10 w10 ⟨a10, c10, hR⟩
   refine ⟨_, _, _, hR, ?_⟩
   try simp only [cAp, nAp, aNl]
   refine JR_callz [] [3, 0, 1, 2] 38 #[.pointer (some (⟨b2, 0, none⟩)), .string key, .slice a10 at'.length c10] (some 90) zero_all (by kernel_rfl) (by kernel_rfl) (by decide) (fun w S M hP hG _ => ?_)
   refine (vRead (p := p) (base := base) (at' := at') (key := key) (L := L) (hG.at 0 rfl) hP (hG.at 7 rfl) hbv2 hbl2 (hG.at 10 rfl) (by omega) (by omega) hK.right hm2 hnd2 hiff2).mono ?_
   cases hin : inL base at' with
   | false =>
    have h9 : atErr p base key at' = 9 := by rw [hall, hin, if_pos rfl]
    rintro e11 w11 (⟨_, hR⟩ | ⟨hae2, _⟩)
    ·rw [h9] at hR
     refine ⟨_, _, _, hR, ?_⟩
     try simp only [cAp, nAp, aNl]
     refine Gr (id := 18) (rest := []) [zR 5, zR 6, zR 7, .wr 8 [] 0, .wr 9 [.o 1 none, .o 1 none, .o 1 none, .o 1 none] 0, zR 10] [2, 3, 10, 13, 17, 18, 19, 20] (fun nu2 => [zS 2 a2 base.length c2, zS 3 a3 at'.length c3, zB 10 false, zV 13 .nilIface, zP 17 (nu1 0), zV 18 .nilIface, zP 19 (nu2 0), zV 20 (.iface 243 (.pointer (some (er 9))))]) (fun nu2 => [(nu1 0, .cells #[nI ((Sx.valOf key (withinC L key at')).kind), .string ((Sx.valOf key (withinC L key at')).text), nI ((Sx.valOf key (withinC L key at')).n), .slice xa xn xc] 47 (0, 0)), (nu2 0, .cells #[nI 0, .string (ByteArray.mk #[]), nI 0, .slice none 0 0] 47 (0, 0))]) (fun nu2 => ?_)
     try simp only [cAp, nAp, aNl]
     refine JR_end ?_
     try simp only [cAp, nAp, aNl]
     refine J_seq ?_
     try simp only [cAp, nAp, aNl]
     refine J_seq ?_
     try simp only [cAp, nAp, aNl]
     refine Gq mixed [zR 0, zR 1] [] [2, 3, 10, 13, 17, 19, 20, 94] (fun _ => [zS 2 a2 base.length c2, zS 3 a3 at'.length c3, zB 10 false, zV 13 .nilIface, zP 17 (nu1 0), zP 19 (nu2 0), zV 20 (.iface 243 (.pointer (some (er 9)))), zB 94 false]) (fun _ => [(nu1 0, .cells #[nI ((Sx.valOf key (withinC L key at')).kind), .string ((Sx.valOf key (withinC L key at')).text), nI ((Sx.valOf key (withinC L key at')).n), .slice xa xn xc] 47 (0, 0)), (nu2 0, .cells #[nI 0, .string (ByteArray.mk #[]), nI 0, .slice none 0 0] 47 (0, 0))]) (fun _ => ?_)
     try simp only [cAp, nAp, aNl]
     refine cF ?_
     try simp only [cAp, nAp, aNl]
     refine J_skip ?_
     try simp only [cAp, nAp, aNl]
     refine J_seq ?_
     try simp only [cAp, nAp, aNl]
     refine J_norm (C' := [cObj b (.cells #[.int .i64 (↑p : Int), .slice (some (⟨bb, 0, none⟩)) p p, .map (some mk), .map (some md)] 133 (0, 0)), cObj mk (Obj.map es clock), (cStar (List.map (fun t => cAcc (F t) 28 3 (List.map eCom (keyC L t))) ks)), (cMapG md okDot (dotSet (List.map dotP L))), cObj b2 (.cells #[.int .i64 (↑p : Int), .slice ub un uc2, .map (some mk2), .map (some md2)] 133 (0, 0)), cObj mk2 (Obj.map es2 clock2), (cStar (List.map (fun t => cAcc (F2 t) 28 3 (List.map eCom (keyC L t))) ks2)), (cMapG md2 okDot (dotSet (List.map dotP L)))]) (G' := [(.nilIface, (dC er eb)), (.slice a l.length c, (D.sl 3 (List.map eCom l))), (.slice a2 base.length c2, (dInts base)), (.slice a3 at'.length c3, (dInts at')), (.slice (some (⟨bb, 0, none⟩)) p p, (dInts (List.replicate p 0))), (.slice ua p uc, (dInts (List.replicate p 0))), (.slice a6 base.length c6, (dInts base)), (.slice ub un uc2, (dInts base)), (.slice a8 at'.length c8, (dInts at')), (.slice xa xn xc, (dStrs (Sx.valOf key (withinC L key at')).set)), (.slice a10 at'.length c10, (dInts at'))]) (by kernel_rfl) (by kernel_rfl) ?_
     refine jB mixed [(0, true), (1, false), (2, true), (3, false), (4, false), (5, true), (6, true), (7, true), (8, true), (9, true)] [] ?_
     refine Gr (id := 21) (rest := [(1, false), (2, true), (3, false), (4, false), (5, true), (6, true), (7, true), (8, true), (9, true)]) [zR 0] [3, 10, 13, 17, 19, 20, 98] (fun _ => [zS 3 a3 at'.length c3, zB 10 false, zV 13 .nilIface, zP 17 (nu1 0), zP 19 (nu2 0), zV 20 (.iface 243 (.pointer (some (er 9)))), zS 98 a2 base.length c2]) (fun _ => [(nu1 0, .cells #[nI ((Sx.valOf key (withinC L key at')).kind), .string ((Sx.valOf key (withinC L key at')).text), nI ((Sx.valOf key (withinC L key at')).n), .slice xa xn xc] 47 (0, 0)), (nu2 0, .cells #[nI 0, .string (ByteArray.mk #[]), nI 0, .slice none 0 0] 47 (0, 0))]) (fun _ => ?_)
     refine JR_callp [] 39 #[.slice a2 base.length c2] (some 99) (by kernel_rfl) (fun w S hG => ?_)
     refine (vown (hG.at 2 rfl) (by omega)).mono ?_
     rintro e12 w12 ⟨a12, c12, hR⟩
     refine ⟨_, _, _, hR, ?_⟩
     try simp only [cAp, nAp, aNl]
     refine Gr (id := 21) (rest := [(3, false), (4, false), (5, true), (6, true), (7, true), (8, true), (9, true)]) [zR 2] [10, 13, 17, 19, 20, 99, 100] (fun _ => [zB 10 false, zV 13 .nilIface, zP 17 (nu1 0), zP 19 (nu2 0), zV 20 (.iface 243 (.pointer (some (er 9)))), zS 99 a12 base.length c12, zS 100 a3 at'.length c3]) (fun _ => [(nu1 0, .cells #[nI ((Sx.valOf key (withinC L key at')).kind), .string ((Sx.valOf key (withinC L key at')).text), nI ((Sx.valOf key (withinC L key at')).n), .slice xa xn xc] 47 (0, 0)), (nu2 0, .cells #[nI 0, .string (ByteArray.mk #[]), nI 0, .slice none 0 0] 47 (0, 0))]) (fun _ => ?_)
     refine JR_callp [] 39 #[.slice a3 at'.length c3] (some 101) (by kernel_rfl) (fun w S hG => ?_)
     refine (vown (hG.at 3 rfl) (by omega)).mono ?_
     rintro e13 w13 ⟨a13, c13, hR⟩
     refine ⟨_, _, _, hR, ?_⟩
     try simp only [cAp, nAp, aNl]
     refine JR_callp [] 52 #[.slice a12 base.length c12, .slice a13 at'.length c13] (some 102) (by kernel_rfl) (fun w S hG => ?_)
     refine (vwithin (xs := base) (ys := at') (globs_of (hG.at 0 rfl)) (hG.at 11 rfl) (hG.at 12 rfl) (by omega) (by omega)).mono ?_
     rintro e14 w14 (⟨htw2, _⟩ | ⟨_, hR⟩)
     ·exact absurd htw htw2
     rw [hin] at hR
     refine ⟨_, _, _, hR, ?_⟩
     try simp only [cAp, nAp, aNl]
     refine Gr (id := 21) (rest := []) [zR 5, zR 6, zR 7, zR 8, zR 9] [10, 13, 17, 19, 20, 21] (fun _ => [zB 10 false, zV 13 .nilIface, zP 17 (nu1 0), zP 19 (nu2 0), zV 20 (.iface 243 (.pointer (some (er 9)))), zB 21 false]) (fun _ => [(nu1 0, .cells #[nI ((Sx.valOf key (withinC L key at')).kind), .string ((Sx.valOf key (withinC L key at')).text), nI ((Sx.valOf key (withinC L key at')).n), .slice xa xn xc] 47 (0, 0)), (nu2 0, .cells #[nI 0, .string (ByteArray.mk #[]), nI 0, .slice none 0 0] 47 (0, 0))]) (fun _ => ?_)
     refine JR_end ?_
     refine J_seq ?_
     refine Sq mixed [zR 0, zR 1] [] [10, 17, 19, 20, 21, 106] (fun _ => [zB 10 false, zP 17 (nu1 0), zP 19 (nu2 0), zV 20 (.iface 243 (.pointer (some (er 9)))), zB 21 false, zB 106 false]) (fun _ => [(nu1 0, .cells #[nI ((Sx.valOf key (withinC L key at')).kind), .string ((Sx.valOf key (withinC L key at')).text), nI ((Sx.valOf key (withinC L key at')).n), .slice xa xn xc] 47 (0, 0)), (nu2 0, .cells #[nI 0, .string (ByteArray.mk #[]), nI 0, .slice none 0 0] 47 (0, 0))]) (fun _ => ?_)
     refine cF ?_
     refine J_skip ?_
     refine J_seq ?_
     refine Sq mixed [zR 0, zR 1] [] [10, 17, 19, 20, 108] (fun _ => [zB 10 false, zP 17 (nu1 0), zP 19 (nu2 0), zV 20 (.iface 243 (.pointer (some (er 9)))), zB 108 true]) (fun _ => [(nu1 0, .cells #[nI ((Sx.valOf key (withinC L key at')).kind), .string ((Sx.valOf key (withinC L key at')).text), nI ((Sx.valOf key (withinC L key at')).n), .slice xa xn xc] 47 (0, 0)), (nu2 0, .cells #[nI 0, .string (ByteArray.mk #[]), nI 0, .slice none 0 0] 47 (0, 0))]) (fun _ => ?_)
     refine cTt ?_
     refine J_seq ?_
     refine jB mixed [(0, true), (1, false), (2, true)] [] ?_
     refine Gr (id := 25) (rest := [(1, false), (2, true)]) [zR 0] [10, 17, 19, 20, 109] (fun _ => [zB 10 false, zP 17 (nu1 0), zP 19 (nu2 0), zV 20 (.iface 243 (.pointer (some (er 9)))), zV 109 (.iface 243 (.pointer (some (er 9))))]) (fun _ => [(nu1 0, .cells #[nI ((Sx.valOf key (withinC L key at')).kind), .string ((Sx.valOf key (withinC L key at')).text), nI ((Sx.valOf key (withinC L key at')).n), .slice xa xn xc] 47 (0, 0)), (nu2 0, .cells #[nI 0, .string (ByteArray.mk #[]), nI 0, .slice none 0 0] 47 (0, 0))]) (fun _ => ?_)
     refine JR_callp [] 13 #[.iface 243 (.pointer (some (er 9))), .int .i64 9] (some 110) (by kernel_rfl) (fun w S hG => ?_)
     refine (codedErr (c := 9) (hG.at 0 rfl) hI (k := 9) (by omega) (.inr ⟨by decide, rfl⟩)).mono ?_
     rintro e15 w15 hR
     refine ⟨_, _, _, hR, ?_⟩
     try simp only [cAp, nAp, aNl]
     refine Gr (id := 25) (rest := []) [zR 2] [10, 17, 19, 20] (fun _ => [zB 10 true, zP 17 (nu1 0), zP 19 (nu2 0), zV 20 (.iface 243 (.pointer (some (er 9))))]) (fun _ => [(nu1 0, .cells #[nI ((Sx.valOf key (withinC L key at')).kind), .string ((Sx.valOf key (withinC L key at')).text), nI ((Sx.valOf key (withinC L key at')).n), .slice xa xn xc] 47 (0, 0)), (nu2 0, .cells #[nI 0, .string (ByteArray.mk #[]), nI 0, .slice none 0 0] 47 (0, 0))]) (fun _ => ?_)
     refine JR_end ?_
     refine J_return [[]] (.bool true) (by kernel_rfl) (fun a w s => ?_)
     exact s.retz (by simp) [] [] rfl rfl
    ·exact absurd (h9.symm.trans hae2) (by decide)
   | true =>
    have h0 : atErr p base key at' = 0 := by rw [hall, hin, if_neg (by decide)]
    rintro e11 w11 (⟨hae2, _⟩ | ⟨_, ya, yn, yc, hR⟩)
    ·exact absurd h0 hae2
    refine ⟨_, _, _, hR, ?_⟩
    try simp only [cAp, nAp, aNl]
    refine Gr (id := 18) (rest := []) [zR 5, zR 6, zR 7, .wr 8 [] 0, .wr 9 [.o 1 none, .o 1 none, .o 1 none, .o 1 none] 0, zR 10] [2, 3, 10, 13, 17, 18, 19, 20] (fun nu2 => [zS 2 a2 base.length c2, zS 3 a3 at'.length c3, zB 10 false, zV 13 .nilIface, zP 17 (nu1 0), zV 18 .nilIface, zP 19 (nu2 0), zV 20 .nilIface]) (fun nu2 => [(nu1 0, .cells #[nI ((Sx.valOf key (withinC L key at')).kind), .string ((Sx.valOf key (withinC L key at')).text), nI ((Sx.valOf key (withinC L key at')).n), .slice xa xn xc] 47 (0, 0)), (nu2 0, .cells #[nI ((Sx.valOf key (withinC L key at')).kind), .string ((Sx.valOf key (withinC L key at')).text), nI ((Sx.valOf key (withinC L key at')).n), .slice ya yn yc] 47 (0, 0))]) (fun nu2 => ?_)
    try simp only [cAp, nAp, aNl]
    refine JR_end ?_
    try simp only [cAp, nAp, aNl]
    refine J_seq ?_
    try simp only [cAp, nAp, aNl]
    refine J_seq ?_
    try simp only [cAp, nAp, aNl]
    refine Gq mixed [zR 0, zR 1] [] [2, 3, 10, 13, 17, 19, 20, 94] (fun _ => [zS 2 a2 base.length c2, zS 3 a3 at'.length c3, zB 10 false, zV 13 .nilIface, zP 17 (nu1 0), zP 19 (nu2 0), zV 20 .nilIface, zB 94 false]) (fun _ => [(nu1 0, .cells #[nI ((Sx.valOf key (withinC L key at')).kind), .string ((Sx.valOf key (withinC L key at')).text), nI ((Sx.valOf key (withinC L key at')).n), .slice xa xn xc] 47 (0, 0)), (nu2 0, .cells #[nI ((Sx.valOf key (withinC L key at')).kind), .string ((Sx.valOf key (withinC L key at')).text), nI ((Sx.valOf key (withinC L key at')).n), .slice ya yn yc] 47 (0, 0))]) (fun _ => ?_)
    try simp only [cAp, nAp, aNl]
    refine cF ?_
    try simp only [cAp, nAp, aNl]
    refine J_skip ?_
    try simp only [cAp, nAp, aNl]
    refine J_seq ?_
    try simp only [cAp, nAp, aNl]
    refine J_norm (C' := [cObj b (.cells #[.int .i64 (↑p : Int), .slice (some (⟨bb, 0, none⟩)) p p, .map (some mk), .map (some md)] 133 (0, 0)), cObj mk (Obj.map es clock), (cStar (List.map (fun t => cAcc (F t) 28 3 (List.map eCom (keyC L t))) ks)), (cMapG md okDot (dotSet (List.map dotP L))), cObj b2 (.cells #[.int .i64 (↑p : Int), .slice ub un uc2, .map (some mk2), .map (some md2)] 133 (0, 0)), cObj mk2 (Obj.map es2 clock2), (cStar (List.map (fun t => cAcc (F2 t) 28 3 (List.map eCom (keyC L t))) ks2)), (cMapG md2 okDot (dotSet (List.map dotP L)))]) (G' := [(.nilIface, (dC er eb)), (.slice a l.length c, (D.sl 3 (List.map eCom l))), (.slice a2 base.length c2, (dInts base)), (.slice a3 at'.length c3, (dInts at')), (.slice (some (⟨bb, 0, none⟩)) p p, (dInts (List.replicate p 0))), (.slice ua p uc, (dInts (List.replicate p 0))), (.slice a6 base.length c6, (dInts base)), (.slice ub un uc2, (dInts base)), (.slice a8 at'.length c8, (dInts at')), (.slice xa xn xc, (dStrs (Sx.valOf key (withinC L key at')).set)), (.slice a10 at'.length c10, (dInts at')), (.slice ya yn yc, (dStrs (Sx.valOf key (withinC L key at')).set))]) (by kernel_rfl) (by kernel_rfl) ?_
    refine jB mixed [(0, true), (1, false), (2, true), (3, false), (4, false), (5, true), (6, true), (7, true), (8, true), (9, true)] [] ?_
    refine Gr (id := 21) (rest := [(1, false), (2, true), (3, false), (4, false), (5, true), (6, true), (7, true), (8, true), (9, true)]) [zR 0] [3, 10, 13, 17, 19, 20, 98] (fun _ => [zS 3 a3 at'.length c3, zB 10 false, zV 13 .nilIface, zP 17 (nu1 0), zP 19 (nu2 0), zV 20 .nilIface, zS 98 a2 base.length c2]) (fun _ => [(nu1 0, .cells #[nI ((Sx.valOf key (withinC L key at')).kind), .string ((Sx.valOf key (withinC L key at')).text), nI ((Sx.valOf key (withinC L key at')).n), .slice xa xn xc] 47 (0, 0)), (nu2 0, .cells #[nI ((Sx.valOf key (withinC L key at')).kind), .string ((Sx.valOf key (withinC L key at')).text), nI ((Sx.valOf key (withinC L key at')).n), .slice ya yn yc] 47 (0, 0))]) (fun _ => ?_)
    refine JR_callp [] 39 #[.slice a2 base.length c2] (some 99) (by kernel_rfl) (fun w S hG => ?_)
    refine (vown (hG.at 2 rfl) (by omega)).mono ?_
    rintro e12 w12 ⟨a12, c12, hR⟩
    refine ⟨_, _, _, hR, ?_⟩
    try simp only [cAp, nAp, aNl]
    refine Gr (id := 21) (rest := [(3, false), (4, false), (5, true), (6, true), (7, true), (8, true), (9, true)]) [zR 2] [10, 13, 17, 19, 20, 99, 100] (fun _ => [zB 10 false, zV 13 .nilIface, zP 17 (nu1 0), zP 19 (nu2 0), zV 20 .nilIface, zS 99 a12 base.length c12, zS 100 a3 at'.length c3]) (fun _ => [(nu1 0, .cells #[nI ((Sx.valOf key (withinC L key at')).kind), .string ((Sx.valOf key (withinC L key at')).text), nI ((Sx.valOf key (withinC L key at')).n), .slice xa xn xc] 47 (0, 0)), (nu2 0, .cells #[nI ((Sx.valOf key (withinC L key at')).kind), .string ((Sx.valOf key (withinC L key at')).text), nI ((Sx.valOf key (withinC L key at')).n), .slice ya yn yc] 47 (0, 0))]) (fun _ => ?_)
    refine JR_callp [] 39 #[.slice a3 at'.length c3] (some 101) (by kernel_rfl) (fun w S hG => ?_)
    refine (vown (hG.at 3 rfl) (by omega)).mono ?_
    rintro e13 w13 ⟨a13, c13, hR⟩
    refine ⟨_, _, _, hR, ?_⟩
    try simp only [cAp, nAp, aNl]
    refine JR_callp [] 52 #[.slice a12 base.length c12, .slice a13 at'.length c13] (some 102) (by kernel_rfl) (fun w S hG => ?_)
    refine (vwithin (xs := base) (ys := at') (globs_of (hG.at 0 rfl)) (hG.at 12 rfl) (hG.at 13 rfl) (by omega) (by omega)).mono ?_
    rintro e14 w14 (⟨htw2, _⟩ | ⟨_, hR⟩)
    ·exact absurd htw htw2
    rw [hin] at hR
    refine ⟨_, _, _, hR, ?_⟩
    try simp only [cAp, nAp, aNl]
    refine Gr (id := 21) (rest := []) [zR 5, zR 6, zR 7, zR 8, zR 9] [10, 13, 17, 19, 20, 21] (fun _ => [zB 10 false, zV 13 .nilIface, zP 17 (nu1 0), zP 19 (nu2 0), zV 20 .nilIface, zB 21 true]) (fun _ => [(nu1 0, .cells #[nI ((Sx.valOf key (withinC L key at')).kind), .string ((Sx.valOf key (withinC L key at')).text), nI ((Sx.valOf key (withinC L key at')).n), .slice xa xn xc] 47 (0, 0)), (nu2 0, .cells #[nI ((Sx.valOf key (withinC L key at')).kind), .string ((Sx.valOf key (withinC L key at')).text), nI ((Sx.valOf key (withinC L key at')).n), .slice ya yn yc] 47 (0, 0))]) (fun _ => ?_)
    refine JR_end ?_
    refine J_seq ?_
    refine Sq mixed [zR 0, zR 1] [] [10, 17, 19, 20, 21, 106] (fun _ => [zB 10 false, zP 17 (nu1 0), zP 19 (nu2 0), zV 20 .nilIface, zB 21 true, zB 106 false]) (fun _ => [(nu1 0, .cells #[nI ((Sx.valOf key (withinC L key at')).kind), .string ((Sx.valOf key (withinC L key at')).text), nI ((Sx.valOf key (withinC L key at')).n), .slice xa xn xc] 47 (0, 0)), (nu2 0, .cells #[nI ((Sx.valOf key (withinC L key at')).kind), .string ((Sx.valOf key (withinC L key at')).text), nI ((Sx.valOf key (withinC L key at')).n), .slice ya yn yc] 47 (0, 0))]) (fun _ => ?_)
    refine cF ?_
    refine J_skip ?_
    refine J_seq ?_
    refine Sq mixed [zR 0, zR 1] [] [10, 17, 19, 20, 108] (fun _ => [zB 10 false, zP 17 (nu1 0), zP 19 (nu2 0), zV 20 .nilIface, zB 108 false]) (fun _ => [(nu1 0, .cells #[nI ((Sx.valOf key (withinC L key at')).kind), .string ((Sx.valOf key (withinC L key at')).text), nI ((Sx.valOf key (withinC L key at')).n), .slice xa xn xc] 47 (0, 0)), (nu2 0, .cells #[nI ((Sx.valOf key (withinC L key at')).kind), .string ((Sx.valOf key (withinC L key at')).text), nI ((Sx.valOf key (withinC L key at')).n), .slice ya yn yc] 47 (0, 0))]) (fun _ => ?_)
    refine cF ?_
    refine J_skip ?_
    refine J_seq ?_
    refine jB mixed [(0, true), (1, true), (2, true), (3, true), (4, true), (5, false), (6, true), (7, true)] [] ?_
    refine Gr (id := 26) (rest := [(5, false), (6, true), (7, true)]) [zR 0, zR 1, zR 2, .rd 3 [.o 0 none, .o 0 none, .o 0 none, .o 0 none] 0 0, .rd 4 [.o 1 none, .o 1 none, .o 1 none, .o 1 none] 0 0] [10, 113, 114, 115] (fun _ => [zB 10 false, zB 113 true, zV 114 (.agg #[nI ((Sx.valOf key (withinC L key at')).kind), .string ((Sx.valOf key (withinC L key at')).text), nI ((Sx.valOf key (withinC L key at')).n), .slice xa xn xc]), zV 115 (.agg #[nI ((Sx.valOf key (withinC L key at')).kind), .string ((Sx.valOf key (withinC L key at')).text), nI ((Sx.valOf key (withinC L key at')).n), .slice ya yn yc])]) (fun _ => [(nu1 0, .cells #[nI ((Sx.valOf key (withinC L key at')).kind), .string ((Sx.valOf key (withinC L key at')).text), nI ((Sx.valOf key (withinC L key at')).n), .slice xa xn xc] 47 (0, 0)), (nu2 0, .cells #[nI ((Sx.valOf key (withinC L key at')).kind), .string ((Sx.valOf key (withinC L key at')).text), nI ((Sx.valOf key (withinC L key at')).n), .slice ya yn yc] 47 (0, 0))]) (fun _ => ?_)
    refine JR_callp [] 27 #[.agg #[.int .i64 ((Sx.valOf key (withinC L key at')).kind), .string ((Sx.valOf key (withinC L key at')).text), .int .i64 ((Sx.valOf key (withinC L key at')).n), .slice xa xn xc], .agg #[.int .i64 ((Sx.valOf key (withinC L key at')).kind), .string ((Sx.valOf key (withinC L key at')).text), .int .i64 ((Sx.valOf key (withinC L key at')).n), .slice ya yn yc]] (some 116) (by kernel_rfl) (fun w S hG => ?_)
    refine (sameValue_eq (v := Sx.valOf key (withinC L key at')) (hG.at 9 rfl) (hG.at 11 rfl) (by omega)).mono ?_
    rintro e15 w15 hR
    refine ⟨_, _, _, hR, ?_⟩
    try simp only [cAp, nAp, aNl]
    refine Gr (id := 26) (rest := []) [zR 6, zR 7] [10] (fun _ => [zB 10 true]) (fun _ => [(nu1 0, .cells #[nI ((Sx.valOf key (withinC L key at')).kind), .string ((Sx.valOf key (withinC L key at')).text), nI ((Sx.valOf key (withinC L key at')).n), .slice xa xn xc] 47 (0, 0)), (nu2 0, .cells #[nI ((Sx.valOf key (withinC L key at')).kind), .string ((Sx.valOf key (withinC L key at')).text), nI ((Sx.valOf key (withinC L key at')).n), .slice ya yn yc] 47 (0, 0))]) (fun _ => ?_)
    refine JR_end ?_
    refine J_return [[]] (.bool true) (by kernel_rfl) (fun a w s => ?_)
    exact s.retz (by simp) [] [] rfl rfl
end Go.Proofs.YtpjkiomccpjboaaGreatDoor
end
section
namespace Go.Sx
open Go Go.RowKit Go.ChangeShapes Go.WideShapes
theorem Fr.below {w w' : World} (h : Fr [] w w') : Below w.heap.size w w' := ⟨h.os, h.tape, h.output, h.size, fun b hb => h.block b hb (by simp)⟩
def IntsAt (w : World) (ad : Option Addr) (zs : List Int) : Prop := zs ≠ [] → ∃ bo off cs ty fz, ad = some ⟨bo, off, none⟩ ∧ w.heap[bo]? = some (.cells cs ty fz) ∧ ∀ (i : Nat) z, zs[i]? = some z → cs[off + i]? = some (.int .i64 z)
theorem cell_blk {w : World} {a : Addr} {v : Value} (h : w.cell? a = some v) : ∃ cs ty fz, w.heap[a.block]? = some (.cells cs ty fz) ∧ a.spot = none ∧ cs[a.off]? = some v := by
 unfold World.cell? at h
 split at h
 ·rename_i cs ty fz hb
  split at h
  ·cases h
  ·rename_i hs
   exact ⟨cs, ty, fz, hb, by simpa using hs, h⟩
 ·cases h
section
variable {H : Type} {enc : TypeId × Value → H} {P : Program}
theorem open_intsAt {W : World} {base : Nat} {t e : TypeId} {v : Value} {d : DataW H} {ps : List MemPlace} (ht : P.underlying t = some (.slice e)) (he : P.underlying e = some (.int .i64)) (hc : P.cellsOf e = 1)
  (hv : Value.okWide P W .any base t v) (h : DataW.Trod enc P W 0 (fun _ => true) true t v d ps) : ∃ ad zs c, v = .slice ad zs.length c ∧ IntsAt W ad zs ∧ (∀ z ∈ zs, -9223372036854775808 ≤ z ∧ z ≤ 9223372036854775807) ∧ zs.length ≤ maxLen := by
 obtain ⟨a0, len, cap, rfl⟩ := okWide_slice ht hv
 obtain ⟨fuel, hf⟩ := h
 rcases open_ints ht he hc hf with ⟨hcs, hx⟩ | ⟨a, len', cap', zs, hcs, _, hl, hm, hz, hx, hcell, hwz⟩
 ·simp [Value.cells] at hcs
  obtain ⟨rfl, rfl, rfl⟩ := hcs
  exact ⟨none, [], 0, rfl, fun h => absurd rfl h, by simp, by simp⟩
 ·simp [Value.cells] at hcs
  obtain ⟨rfl, rfl, rfl⟩ := hcs
  simp only [if_true] at hz
  refine ⟨some a, zs.take len, cap, by rw [List.length_take, Nat.min_eq_left (by omega)], fun hne => ?_, fun z hz => ?_, by rw [List.length_take]; omega⟩
  ·have hpos : 0 < zs.length := by
    rcases zs with _ | ⟨z, zs⟩
    ·simp at hne
    ·simp
   obtain ⟨cs, ty, fz, hb, hs, _⟩ := cell_blk (hcell 0 hpos)
   have e0 : a.add 0 = a := by simp [Addr.add]
   rw [e0] at hb hs
   obtain ⟨b, off, sp⟩ := a
   simp only at hb hs
   subst hs
   refine ⟨b, off, cs, ty, fz, rfl, hb, fun i z hi => ?_⟩
   rw [List.getElem?_take] at hi
   split at hi
   ·have hil := (List.getElem?_eq_some_iff.1 hi).1
    obtain ⟨cs', ty', fz', hb', _, hc'⟩ := cell_blk (hcell i hil)
    rw [addr_add] at hb' hc'
    simp only at hb' hc'
    rw [hb] at hb'
    cases hb'
    rw [hc', List.getD_eq_getElem?_getD, hi]
    rfl
   ·cases hi
  ·have := hwz z (List.mem_of_mem_take hz)
   simp [Lit.wf, IntKind.min, IntKind.max, IntKind.signed, IntKind.bits] at this
   exact this
theorem open_intsRep {W : World} {base : Nat} {t e : TypeId} {v : Value} {d : DataW H} {ps : List MemPlace} (ht : P.underlying t = some (.slice e)) (he : P.underlying e = some (.int .i64)) (hc : P.cellsOf e = 1)
  (hv : Value.okWide P W .any base t v) (h : DataW.Trod enc P W 0 (fun _ => true) true t v d ps) : ∃ ad zs c, v = .slice ad zs.length c ∧ Rep W (fun _ => True) (.slice ad zs.length c) (dInts zs) ∧ (∀ z ∈ zs, -9223372036854775808 ≤ z ∧ z ≤ 9223372036854775807) ∧ zs.length ≤ maxLen := by
 obtain ⟨a0, len, cap, rfl⟩ := okWide_slice ht hv
 obtain ⟨ad, zs, c, hx, hat, hz, hl⟩ := open_intsAt ht he hc hv h
 injection hx with h1 h2 h3
 subst h1 h2 h3
 refine ⟨a0, zs, cap, rfl, ?_, hz, hl⟩
 by_cases hne : zs = []
 ·subst hne
  exact .nil
 ·obtain ⟨fuel, hf⟩ := h
  have hcap : zs.length ≤ cap := by
   rcases open_ints ht he hc hf with ⟨hcs, _⟩ | ⟨a, len', cap', zs', hcs, _, hl', _⟩
   ·simp [Value.cells] at hcs
    exact absurd hcs.2.1 hne
   ·simp [Value.cells] at hcs
    obtain ⟨rfl, rfl, rfl⟩ := hcs
    exact hl'
  obtain ⟨bo, off, cs, ty, fz, rfl, hb, hcell⟩ := hat hne
  have hlen : (zs.map eI).length = zs.length := by simp
  have := Rep.sl (S := fun _ => True) (off := off) (cap := cap) (k := 1) (rows := zs.map eI) (fun i _ => .int .i64 (zs.getD i 0)) hb trivial (by simpa using hcap) (by decide) (by simp) (fun i j hi hj => ?_) (fun i j row d hi hj => ?_)
  ·simpa using this
  ·obtain rfl : j = 0 := by omega
   rw [hlen] at hi
   have := hcell i (zs[i]) (List.getElem?_eq_getElem hi)
   rw [Nat.mul_one, Nat.add_zero, this]
   simp [List.getD_eq_getElem?_getD, List.getElem?_eq_getElem hi]
  ·rw [List.getElem?_map] at hi
   obtain ⟨z, hz', rfl⟩ := Option.map_eq_some_iff.1 hi
   match j, hj with
   | 0, hj =>
    simp only [List.getElem?_cons_zero, Option.some.injEq] at hj
    subst hj
    simp only [List.getD_eq_getElem?_getD, hz', Option.getD_some]
    exact .v rfl
   | j + 1, hj => simp at hj
theorem rep_var {W : World} {n : String} {g : Nat} {x : Value} (hg : P.globalNamed n = some g) (h : W.var? P n = some #[x]) (hx : x.oneCell' = true) : Rep W (fun _ => True) (.pointer (some ⟨g, 0, none⟩)) (.ptr [.v x]) := by
 unfold World.var? at h
 simp only [hg, Option.bind_some] at h
 split at h
 ·rename_i cs ty fz hb
  cases h
  refine .ptr (fun _ => x) hb trivial (fun j hj => ?_) (fun j d hj => ?_)
  ·obtain rfl : j = 0 := by simpa using hj
   rfl
  ·match j, hj with
   | 0, hj =>
    simp only [List.getElem?_cons_zero, Option.some.injEq] at hj
    subst hj
    exact .v hx
   | j + 1, hj => simp at hj
 ·cases h
theorem sents {W : World} {ti tp te ts : TypeId} {ms : Array (String × TypeId)} {nm : String} {f : Field} (hi : P.underlying ti = some (.interface ms)) (hrow : ∀ u, P.typeName? 3 u = some nm → u = tp)
  (hp : P.underlying tp = some (.pointer te)) (he : P.underlying te = some (.struct #[f])) (hft : f.type = ts) (hfo : f.offset = 0) (hs : P.underlying ts = some .string) (hc : P.cellsOf te = 1) (hcs : P.cellsOf ts = 1) :
  ∀ (ns : List (String × List UInt8)) (ps : List MemPlace), DataW.LaidVars P W (ns.map fun x => (x.1, DataW.iface nm (.ptr (.agg [.lit (.string x.2)])))) ps →
   ns.all (fun x => match P.globalNamed x.1 with
    | some g => (P.globals[g]?).map (·.type) == some ti
    | none => false) = true →
   (∀ b off, MemPlace.cell b off ∈ ps → ∀ u v, W.cell? ⟨b, off, none⟩ = some (.iface u v) → Value.okWide P W .any 0 u v) →
   ∃ adz : List Addr, adz.length = ns.length ∧ (∀ (i : Nat) x a, ns[i]? = some x → adz[i]? = some a → W.var? P x.1 = some #[.iface tp (.pointer (some a))] ∧ a.spot = none) ∧ (adz.map fun a => MemPlace.cell a.block a.off).Sublist ps
 | [], ps, _, _, _ => ⟨[], rfl, by simp, by simp⟩
 | (n, text) :: ns, ps, h, hg, hr => by
  rw [List.map_cons] at h
  obtain ⟨g0, t0, cs0, f0, p0, q0, hg0, ht0, hv0, hd0, hq, e0⟩ := h
  rw [List.all_cons, Bool.and_eq_true] at hg
  obtain ⟨hg1, hg2⟩ := hg
  simp only [hg0, ht0, beq_iff_eq, Option.some.injEq] at hg1
  subst hg1 e0
  obtain ⟨l0⟩ := cs0
  have ok0 : ∀ u v, l0 = [.iface u v] → Value.okWide P W .any 0 u v := fun u v e => by
   subst e
   exact hr g0 0 (by simp [MemPlace.row]) u v (by simpa using World.var?_cell hg0 hv0 0)
  obtain ⟨a0, s0, rfl, hc0, hs0, hz0, rfl⟩ := errorString_of_trod hi hrow hp he hft hfo hs hc hcs hd0 ok0
  obtain ⟨adz, h1, h2, h3⟩ := sents hi hrow hp he hft hfo hs hc hcs ns q0 hq hg2 fun b off hm => hr b off (List.mem_append_right _ hm)
  obtain ⟨_, _, _, _, hspot, _⟩ := cell_blk hc0
  refine ⟨a0 :: adz, by simp [h1], fun i x a hx ha => ?_, ?_⟩
  ·cases i with
   | zero =>
    simp only [List.getElem?_cons_zero, Option.some.injEq] at hx ha
    subst hx ha
    exact ⟨hv0, hspot⟩
   | succ i =>
    simp only [List.getElem?_cons_succ] at hx ha
    exact h2 i x a hx ha
  ·rw [List.map_cons, List.append_assoc]
   refine (List.Sublist.cons_cons _ h3).trans (?_ : List.Sublist _ (MemPlace.row a0 1 ++ q0)) |>.trans (List.sublist_append_right _ _)
   simp [MemPlace.row]
theorem errs_of {W : World} {ti tp te ts : TypeId} {ms : Array (String × TypeId)} {nm : String} {f : Field} (hi : P.underlying ti = some (.interface ms)) (hrow : ∀ u, P.typeName? 3 u = some nm → u = tp)
  (hp : P.underlying tp = some (.pointer te)) (he : P.underlying te = some (.struct #[f])) (hft : f.type = ts) (hfo : f.offset = 0) (hs : P.underlying ts = some .string) (hc : P.cellsOf te = 1) (hcs : P.cellsOf ts = 1)
  (ns : List (String × List UInt8)) (h : laidMet P (ns.map fun x => (x.1, DataW.iface nm (.ptr (.agg [.lit (.string x.2)])))) W)
  (hg : ns.all (fun x => match P.globalNamed x.1 with
    | some g => (P.globals[g]?).map (·.type) == some ti
    | none => false) = true) :
  ∃ (er : Nat → Addr) (eb : Nat → Array Value × TypeId), (∀ (i : Nat) x, ns[i]? = some x → W.var? P x.1 = some #[.iface tp (.pointer (some (er (i + 1))))] ∧ W.heap[(er (i + 1)).block]? = some (.cells (eb (i + 1)).1 (eb (i + 1)).2 (0, 0))) ∧
   ∀ i j, 1 ≤ i → i ≤ ns.length → 1 ≤ j → j ≤ ns.length → er i = er j → i = j := by
 obtain ⟨ps, hv, hnd, hrows⟩ := h
 obtain ⟨adz, h1, h2, h3⟩ := sents hi hrow hp he hft hfo hs hc hcs ns ps hv hg fun b off hm => (hrows b off hm).2
 have hnd2 := h3.nodup hnd
 have key : ∀ i : Nat, i < ns.length → ∃ a, adz[i]? = some a := fun i hi => ⟨_, List.getElem?_eq_getElem (by omega)⟩
 have hcell : ∀ (i : Nat) a, adz[i]? = some a → ∃ c : Array Value × TypeId, W.heap[a.block]? = some (.cells c.1 c.2 (0, 0)) := fun i a ha => by
  obtain ⟨c, t, hct⟩ := (hrows a.block a.off (h3.subset (List.mem_map.2 ⟨a, List.mem_of_getElem? ha, rfl⟩))).1
  exact ⟨(c, t), hct⟩
 classical
 refine ⟨fun k => adz.getD (k - 1) ⟨0, 0, none⟩, fun k => if hx : ∃ c : Array Value × TypeId, W.heap[(adz.getD (k - 1) ⟨0, 0, none⟩).block]? = some (.cells c.1 c.2 (0, 0)) then hx.choose else (#[], 0), fun i x hx => ?_, fun i j hi1 hi2 hj1 hj2 he => ?_⟩
 ·obtain ⟨a, ha⟩ := key i (List.getElem?_eq_some_iff.1 hx).1
  have e : adz.getD (i + 1 - 1) ⟨0, 0, none⟩ = a := by simp [List.getD_eq_getElem?_getD, ha]
  have hh := hcell i a ha
  simp only [e]
  refine ⟨(h2 i x a hx ha).1, ?_⟩
  rw [dif_pos hh]
  exact hh.choose_spec
 ·obtain ⟨a, ha⟩ := key (i - 1) (by omega)
  obtain ⟨b, hb⟩ := key (j - 1) (by omega)
  simp only [List.getD_eq_getElem?_getD, ha, hb, Option.getD_some] at he
  subst he
  have e1 : (adz.map fun a => MemPlace.cell a.block a.off)[i - 1]? = some (.cell a.block a.off) := by simp [ha]
  have e2 : (adz.map fun a => MemPlace.cell a.block a.off)[j - 1]? = some (.cell a.block a.off) := by simp [hb]
  have := (List.getElem?_inj (List.getElem?_eq_some_iff.1 e1).1 hnd2).1 (e1.trans e2.symm)
  omega
theorem trodAll_again (hl : laidOutB P = true) {W W' : World} {sp : Nat → Bool} (hb : Below W.heap.size W W') : ∀ {ts : List TypeId} {vs : List Value} {ds : List (DataW H)} {ps : List MemPlace},
  (∀ t ∈ ts, P.readableRec t = true ∧ t < P.types.size) → DataW.TrodAll enc P W 0 (fun _ => true) true ts vs ds ps → (∀ x ∈ ps, x.block < W.heap.size) → (∀ x ∈ ps, sp x.block = true) → DataW.TrodAll enc P W' 0 sp true ts vs ds ps
 | [], vs, ds, ps, _, h, _, _ => by
  obtain ⟨rfl, rfl, rfl⟩ := trodAll_nil h
  exact trodAll_mk0
 | t :: ts, vs, ds, ps, ht, h, hlt, hsp => by
  obtain ⟨v, vs', d, ds', p, q, rfl, rfl, rfl, h0, h1⟩ := trodAll_cons h
  obtain ⟨hr, hrow⟩ := ht t (List.mem_cons_self ..)
  refine trodAll_cons_mk (WideElems.Trod_stays hl hr hrow h0 (fun x hx => hb.same (hlt x (List.mem_append_left _ hx))) fun x hx => hsp x (List.mem_append_left _ hx)) ?_
  exact trodAll_again hl hb (fun t ht' => ht t (List.mem_cons_of_mem _ ht')) h1 (fun x hx => hlt x (List.mem_append_right _ hx)) fun x hx => hsp x (List.mem_append_right _ hx)
theorem law_post {f : Func} {s : ChangeSpec} {apart fresh handsOn again : Bool} {W W' : World} {args : Array Value} {ds gs : List (DataW H)} {before : List MemPlace} {tb : TypeId}
  (hl : laidOutB P = true) (hts : f.params.toList.all (fun t => P.readableRec t && Nat.blt t P.types.size) = true) (hb4 : P.underlying tb = some .bool) (hrt : f.resultTypes = #[tb]) (hvs : s.vars = [])
  (hW : DataW.Whole enc P f.params.toList s.vars apart W args.toList ds gs before) (hfn : ∀ gs, gs = [] → s.fn H (ds ++ gs) = { results := [.lit (.bool true)], args := ds })
  (hb : Below W.heap.size W W') : s.post enc P f apart fresh handsOn again W args (.bool true) W' := by
 have hlt : ∀ x ∈ before, x.block < W.heap.size := fun x hx => hW.lt x hx
 have hold : ∀ x ∈ before, (fun b => decide (b < W.heap.size)) x.block = true := fun x hx => by simpa using hlt x hx
 have hW' := hW
 obtain ⟨p, q, hA, hV, hpq, hz, hn⟩ := hW'
 rw [hvs] at hV
 obtain ⟨rfl, rfl⟩ := trodVars_none hV
 rw [List.append_nil] at hpq
 subst hpq
 have hfn := hfn [] rfl
 have htt : ∀ t ∈ f.params.toList, P.readableRec t = true ∧ t < P.types.size := fun t ht => by
  have := List.all_eq_true.1 hts t ht
  simp only [Bool.and_eq_true] at this
  exact ⟨this.1, Nat.lt_of_succ_le (Nat.le_of_ble_eq_true this.2)⟩
 have hres : ∀ (b : Nat) (sp : Nat → Bool) (hd : Bool), DataW.TrodAll enc P W' b sp hd f.resultTypes.toList ((Value.bool true).resultList f.resultTypes.size) (s.fn H (ds ++ [])).results [] := fun b sp hd => by
  rw [hfn, hrt]
  exact trodAll_mk1 ⟨1, by simp [DataW.trod, Value.cells, hb4]⟩
 have hargs : ∀ sp : Nat → Bool, (∀ x ∈ before, sp x.block = true) → DataW.TrodAll enc P W' 0 sp true f.params.toList args.toList (s.fn H (ds ++ [])).args before := fun sp hsp => by
  rw [hfn]
  exact trodAll_again hl hb htt hA hlt hsp
 have hvars : ∀ sp : Nat → Bool, DataW.TrodVars enc P W' sp s.vars (s.fn H (ds ++ [])).vars [] := fun sp => by
  rw [hvs, hfn]
  rfl
 refine ⟨ds, [], before, [], before, [], hW, hres _ _ _, hargs _ hold, hvars _, World.keptBut_mono (fun x hx => ⟨hx, .inr (.inl hx)⟩) (hb.frame (· ∈ before)), fun _ => ?_⟩
 refine ⟨?_, _, _, ([] ++ before) ++ [], ⟨[] ++ before, [], trodAll_append (hargs _ (fun _ _ => rfl)) (hres _ _ _), hvars _, rfl, ?_, ?_⟩, ?_⟩
 ·intro j t r hj hv
  rw [hrt] at hj hv
  match j, hj, hv with
  | 0, hj, hv =>
   simp [Value.resultList] at hj hv
   subst hj; subst hv
   simp [Value.okWide, hb4, Cell.okWide, Cell.ok]
  | j + 1, hj, hv => simp at hj
 ·intro b off hp
  have hin : MemPlace.cell b off ∈ before := by simpa using hp
  rw [hb.frozen (hlt _ hin)]
  exact hz b off hin
 ·intro ha
  simpa using hn ha
 ·intro x hx _
  simpa using hx
end
end Go.Sx
end
