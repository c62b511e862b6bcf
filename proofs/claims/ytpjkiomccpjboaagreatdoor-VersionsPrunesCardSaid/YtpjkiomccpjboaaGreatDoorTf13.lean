/- Part 13 of the texts of a claim: Within PartP Read PartsV Stored VParts Tx19 Tx20 Tx21. -/
import Derived.Laws.IdiomRangeMap
import Derived.Test.YtpjkiomccpjboaaGreatDoorTf12
section
namespace Go.Proofs.YtpjkiomccpjboaaGreatDoor
open Go Go.Sx
def atErr (p : Nat) (base : List Int) (key : ByteArray) (at' : List Int) : Nat :=
 if nameOk key = false then 4 else if vecErr at' ≠ 0 then vecErr at' else if at'.length ≠ p then 3 else if inL base at' = false then 9 else 0
def withinC (L : List PutT) (key : ByteArray) (at' : List Int) : List ComT := (keyC L key).filter fun c => inL c.when at'
theorem len2 {α : Type} {l : List α} (h : l.length = 2) : ∃ x y, l = [x, y] := by
 match l, h with
 | [x, y], _ => exact ⟨x, y, rfl⟩
theorem mem_keyC {L : List PutT} {key : ByteArray} {x : ComT} (h : x ∈ keyC L key) : ∃ q ∈ L, x = oneC q := by
 obtain ⟨q, hq, rfl⟩ := List.mem_map.1 h
 exact ⟨q, (List.mem_filter.1 hq).1, rfl⟩
structure WithR where
 i : Int
 a : Option Addr
 k : Nat
 c : Nat
set_option maxHeartbeats 4000000 in
theorem vWithinK {w : World} {S : Nat → Prop} {M : List Nat} {er : Nat → Addr} {eb : Nat → Array Value × TypeId} {b mk md : Nat} {ba a1 : Option Addr} {p nb cb n1 c1 clock : Nat} {base at' : List Int} {es : Array MapEntry} {ks : List ByteArray} {F : ByteArray → Value} {L : List PutT} {key : ByteArray} (hC : Rep w S .nilIface (dC er eb))
  (hP : Pre w S M [cObj b (.cells #[.int .i64 p, .slice ba nb cb, .map (some mk), .map (some md)] 133 (0, 0)), cObj mk (.map es clock), cStar (ks.map fun t => cAcc (F t) 28 3 ((keyC L t).map eCom)), cMapG md okDot (dotSet (L.map dotP))])
  (hb : Rep w S (.slice ba nb cb) (dInts base)) (hbv : vecErr base = 0) (hbl : base.length = p) (h1 : Rep w S (.slice a1 n1 c1) (dInts at')) (hl1 : at'.length ≤ 1000000) (hL : L.length ≤ 1000000) (hLv : ∀ q ∈ L, vecErr q.when = 0 ∧ q.when.length = p)
  (hm : MapG (MapKept.IsKey .string) es (strG ks F)) (hnd : ks.Nodup) (hiff : ∀ t, t ∈ ks ↔ keyC L t ≠ []) :
  Calls Tryz.prog 78 #[.pointer (some ⟨b, 0, none⟩), .string key, .slice a1 n1 c1] w fun e w' =>
   (atErr p base key at' ≠ 0 ∧ Ret M w S w' e (.tuple #[.slice none 0 0, .iface 243 (.pointer (some (er (atErr p base key at'))))]) [cObj b (.cells #[.int .i64 p, .slice ba nb cb, .map (some mk), .map (some md)] 133 (0, 0)), cObj mk (.map es clock), cStar (ks.map fun t => cAcc (F t) 28 3 ((keyC L t).map eCom)), cMapG md okDot (dotSet (L.map dotP))] []) ∨
   (atErr p base key at' = 0 ∧ ∃ ua un uc, Ret M w S w' e (.tuple #[.slice ua un uc, .nilIface]) [cObj b (.cells #[.int .i64 p, .slice ba nb cb, .map (some mk), .map (some md)] 133 (0, 0)), cObj mk (.map es clock), cStar (ks.map fun t => cAcc (F t) 28 3 ((keyC L t).map eCom)), cMapG md okDot (dotSet (L.map dotP))] [(.slice ua un uc, .sl 3 ((withinC L key at').map eCom))]) := by
 obtain rfl := rep_ints_len h1
 obtain rfl := rep_ints_len hb
 subst hbl
 refine en78 (args := [.pointer (some ⟨b, 0, none⟩), .string key, .slice a1 at'.length c1]) (S := S) (G := [(_, dC er eb), (_, dInts at'), (_, dInts base)]) (by kernel_rfl) hP (.cons hC (.cons h1 (.cons hb (.nil _ _)))) ?_
 refine J_show 0 rfl ?_
 refine J_stp (stp_all 0 [3, 2, 8] rfl rfl) ?_
 refine J_glob 3 rfl (fun csg1 tyg1 fzg1 hglob1 => ?_)
 refine J_glob 4 rfl (fun csg2 tyg2 fzg2 hglob2 => ?_)
 refine J_glob 5 rfl (fun csg3 tyg3 fzg3 hglob3 => ?_)
 try simp only [cAp, nAp, aNl]
 refine Sq mixed [zR 0, zR 1] [] [0, 1, 2, 6, 7] (fun _ => [zP 0 b, zV 1 (.string key), zS 2 a1 at'.length c1, zS 6 none 0 0, zV 7 .nilIface]) (fun _ => [(b, .cells #[nI (↑base.length : Int), .slice ba base.length cb, .map (some mk), .map (some md)] 133 (0, 0))]) (fun _ => ?_)
 refine J_seq ?_
 refine J_seq ?_
 refine jB mixed [(0, true), (1, false), (2, true)] [] ?_
 refine Gr (id := 1) (rest := [(1, false), (2, true)]) [zR 0] [0, 1, 2, 6, 7, 16] (fun _ => [zP 0 b, zV 1 (.string key), zS 2 a1 at'.length c1, zS 6 none 0 0, zV 7 .nilIface, zV 16 (.string key)]) (fun _ => [(b, .cells #[nI (↑base.length : Int), .slice ba base.length cb, .map (some mk), .map (some md)] 133 (0, 0))]) (fun _ => ?_)
 refine JR_callp [] 54 #[.string key] (some 17) (by kernel_rfl) (fun w S hG => ?_)
 refine (vName (w := w) (S := S) (s0 := key)).mono ?_
 rintro e1 w1 hR
 refine ⟨_, _, _, hR, ?_⟩
 cases hnm : nameOk key with
 | false =>
  have hae : atErr base.length base key at' = 4 := by rw [atErr, if_pos hnm]
  rw [hae]
  try simp only [cAp, nAp, aNl]
  refine Gr (id := 1) (rest := []) [zR 2] [0, 1, 2, 6, 7, 18] (fun _ => [zP 0 b, zV 1 (.string key), zS 2 a1 at'.length c1, zS 6 none 0 0, zV 7 .nilIface, zB 18 true]) (fun _ => [(b, .cells #[nI (↑base.length : Int), .slice ba base.length cb, .map (some mk), .map (some md)] 133 (0, 0))]) (fun _ => ?_)
  refine JR_end ?_
  refine cTt ?_
  refine Sp mixed [.rd 0 [.r 0 (some (.iface 243 (.pointer (some (er 4)))))] 0 0, zR 1, zR 2] [] [0, 1, 2, 6, 7] (fun _ => [zP 0 b, zV 1 (.string key), zS 2 a1 at'.length c1, zS 6 none 0 0, zV 7 (.iface 243 (.pointer (some (er 4))))]) (fun _ => [(b, .cells #[nI (↑base.length : Int), .slice ba base.length cb, .map (some mk), .map (some md)] 133 (0, 0))]) (fun _ => [csg1[(0 : Nat)]? = some (Value.iface (243 : Nat) (Value.pointer (some (er (4 : Nat)))))]) (fun _ => ⟨hglob1, trivial⟩) (fun _ => ?_)
  refine J_return [[], []] (.tuple #[.slice none 0 0, .iface 243 (.pointer (some (er 4)))]) (by kernel_rfl) (fun a w s => ?_)
  exact .inl ⟨by decide, (s.hide 0 rfl).ret (by simp) [3, 0, 1, 2] [] rfl rfl⟩
 | true =>
 try simp only [cAp, nAp, aNl]
 refine Gr (id := 1) (rest := []) [zR 2] [0, 1, 2, 6, 7, 18] (fun _ => [zP 0 b, zV 1 (.string key), zS 2 a1 at'.length c1, zS 6 none 0 0, zV 7 .nilIface, zB 18 false]) (fun _ => [(b, .cells #[nI (↑base.length : Int), .slice ba base.length cb, .map (some mk), .map (some md)] 133 (0, 0))]) (fun _ => ?_)
 refine JR_end ?_
 refine cF ?_
 refine J_skip ?_
 refine J_seq ?_
 refine J_seq ?_
 refine jB mixed [(0, true), (1, false), (2, true)] [] ?_
 refine Gr (id := 3) (rest := [(1, false), (2, true)]) [zR 0] [0, 1, 2, 6, 7, 20] (fun _ => [zP 0 b, zV 1 (.string key), zS 2 a1 at'.length c1, zS 6 none 0 0, zV 7 .nilIface, zS 20 a1 at'.length c1]) (fun _ => [(b, .cells #[nI (↑base.length : Int), .slice ba base.length cb, .map (some mk), .map (some md)] 133 (0, 0))]) (fun _ => ?_)
 refine JR_callp [] 59 #[.slice a1 at'.length c1] (some 21) (by kernel_rfl) (fun w S hG => ?_)
 refine (vcheck (globs_of (hG.at 0 rfl)) (hG.at 1 rfl) hl1).mono ?_
 rintro e2 w2 ⟨v, hR, hv⟩
 refine ⟨_, _, _, hR, ?_⟩
 obtain ⟨hv0, rfl⟩ | ⟨hv0, rfl⟩ := hv
 case inr =>
  have hae : atErr base.length base key at' = vecErr at' := by rw [atErr, if_neg (by simp [hnm]), if_pos hv0]
  rw [hae]
  try simp only [cAp, nAp, aNl]
  refine Gr (id := 3) (rest := []) [zR 2] [0, 1, 2, 6, 7, 8] (fun _ => [zP 0 b, zV 1 (.string key), zS 2 a1 at'.length c1, zS 6 none 0 0, zV 7 .nilIface, zV 8 (.iface 243 (.pointer (some (er (vecErr at')))))]) (fun _ => [(b, .cells #[nI (↑base.length : Int), .slice ba base.length cb, .map (some mk), .map (some md)] 133 (0, 0))]) (fun _ => ?_)
  refine JR_end ?_
  refine Sq mixed [zR 0, zR 1] [] [0, 1, 2, 6, 7, 8, 23] (fun _ => [zP 0 b, zV 1 (.string key), zS 2 a1 at'.length c1, zS 6 none 0 0, zV 7 .nilIface, zV 8 (.iface 243 (.pointer (some (er (vecErr at'))))), zB 23 true]) (fun _ => [(b, .cells #[nI (↑base.length : Int), .slice ba base.length cb, .map (some mk), .map (some md)] 133 (0, 0))]) (fun _ => ?_)
  refine cTt ?_
  refine Sq mixed [zR 0, zR 1, zR 2] [] [0, 1, 2, 6, 7] (fun _ => [zP 0 b, zV 1 (.string key), zS 2 a1 at'.length c1, zS 6 none 0 0, zV 7 (.iface 243 (.pointer (some (er (vecErr at')))))]) (fun _ => [(b, .cells #[nI (↑base.length : Int), .slice ba base.length cb, .map (some mk), .map (some md)] 133 (0, 0))]) (fun _ => ?_)
  refine J_return [[], []] (.tuple #[.slice none 0 0, .iface 243 (.pointer (some (er (vecErr at'))))]) (by kernel_rfl) (fun a w s => ?_)
  exact .inl ⟨hv0, (s.hide 0 rfl).ret (by simp) [3, 0, 1, 2] [] rfl rfl⟩
 by_cases hal : at'.length = base.length
 case neg =>
  have hae : atErr base.length base key at' = 3 := by rw [atErr, if_neg (by simp [hnm]), if_neg (by simp [hv0]), if_pos hal]
  have hal2 : ¬ (at'.length : Int) = base.length := by omega
  rw [hae]
  try simp only [cAp, nAp, aNl]
  refine Gr (id := 3) (rest := []) [zR 2] [0, 1, 2, 6, 7, 8] (fun _ => [zP 0 b, zV 1 (.string key), zS 2 a1 at'.length c1, zS 6 none 0 0, zV 7 .nilIface, zV 8 .nilIface]) (fun _ => [(b, .cells #[nI (↑base.length : Int), .slice ba base.length cb, .map (some mk), .map (some md)] 133 (0, 0))]) (fun _ => ?_)
  refine JR_end ?_
  refine Sq mixed [zR 0, zR 1] [] [0, 1, 2, 6, 7, 8, 23] (fun _ => [zP 0 b, zV 1 (.string key), zS 2 a1 at'.length c1, zS 6 none 0 0, zV 7 .nilIface, zV 8 .nilIface, zB 23 false]) (fun _ => [(b, .cells #[nI (↑base.length : Int), .slice ba base.length cb, .map (some mk), .map (some md)] 133 (0, 0))]) (fun _ => ?_)
  refine cF ?_
  refine J_skip ?_
  refine J_seq ?_
  refine Sp mixed [zR 0, zR 1, zR 2, zR 3, zR 4, .rd 5 [.o 0 none] 0 0, .rd 6 [] 0 6] [] [0, 1, 2, 6, 7, 31] (fun _ => [zP 0 b, zV 1 (.string key), zS 2 a1 at'.length c1, zS 6 none 0 0, zV 7 .nilIface, zB 31 true]) (fun _ => [(b, .cells #[nI (↑base.length : Int), .slice ba base.length cb, .map (some mk), .map (some md)] 133 (0, 0))]) (fun _ => [((↑at'.length : Int) != (↑base.length : Int)) = true]) (fun _ => ⟨by simp; omega, trivial⟩) (fun _ => ?_)
  refine cTt ?_
  refine Sp mixed [.rd 0 [.r 1 (some (.iface 243 (.pointer (some (er 3)))))] 0 0, zR 1, zR 2] [] [0, 1, 2, 6, 7] (fun _ => [zP 0 b, zV 1 (.string key), zS 2 a1 at'.length c1, zS 6 none 0 0, zV 7 (.iface 243 (.pointer (some (er 3))))]) (fun _ => [(b, .cells #[nI (↑base.length : Int), .slice ba base.length cb, .map (some mk), .map (some md)] 133 (0, 0))]) (fun _ => [csg2[(0 : Nat)]? = some (Value.iface (243 : Nat) (Value.pointer (some (er (3 : Nat)))))]) (fun _ => ⟨hglob2, trivial⟩) (fun _ => ?_)
  refine J_return [[], []] (.tuple #[.slice none 0 0, .iface 243 (.pointer (some (er 3)))]) (by kernel_rfl) (fun a w s => ?_)
  exact .inl ⟨by decide, (s.hide 0 rfl).ret (by simp) [3, 0, 1, 2] [] rfl rfl⟩
 have htw : twoErr base at' = 0 := by rw [twoErr, if_neg (by simp [hbv]), if_neg (by simp [hv0]), if_neg (by simp [hal])]
 have hvl := vecErr_len hbv
 have hal2 : (at'.length : Int) = base.length := by omega
 try simp only [cAp, nAp, aNl]
 refine Gr (id := 3) (rest := []) [zR 2] [0, 1, 2, 6, 7, 8] (fun _ => [zP 0 b, zV 1 (.string key), zS 2 a1 at'.length c1, zS 6 none 0 0, zV 7 .nilIface, zV 8 .nilIface]) (fun _ => [(b, .cells #[nI (↑base.length : Int), .slice ba base.length cb, .map (some mk), .map (some md)] 133 (0, 0))]) (fun _ => ?_)
 refine JR_end ?_
 refine Sq mixed [zR 0, zR 1] [] [0, 1, 2, 6, 7, 8, 23] (fun _ => [zP 0 b, zV 1 (.string key), zS 2 a1 at'.length c1, zS 6 none 0 0, zV 7 .nilIface, zV 8 .nilIface, zB 23 false]) (fun _ => [(b, .cells #[nI (↑base.length : Int), .slice ba base.length cb, .map (some mk), .map (some md)] 133 (0, 0))]) (fun _ => ?_)
 refine cF ?_
 refine J_skip ?_
 refine J_seq ?_
 refine Sp mixed [zR 0, zR 1, zR 2, zR 3, zR 4, .rd 5 [.o 0 none] 0 0, .rd 6 [] 0 7] [] [0, 1, 2, 6, 7, 31] (fun _ => [zP 0 b, zV 1 (.string key), zS 2 a1 at'.length c1, zS 6 none 0 0, zV 7 .nilIface, zB 31 false]) (fun _ => [(b, .cells #[nI (↑base.length : Int), .slice ba base.length cb, .map (some mk), .map (some md)] 133 (0, 0))]) (fun _ => [((↑at'.length : Int) != (↑base.length : Int)) = false]) (fun _ => ⟨by simp; omega, trivial⟩) (fun _ => ?_)
 refine cF ?_
 refine J_skip ?_
 refine J_seq ?_
 refine J_seq ?_
 refine jB mixed [(0, true), (1, true), (2, true), (3, true), (4, true), (5, false), (6, true), (7, true), (8, true), (9, true), (10, true)] [] ?_
 refine Gr (id := 8) (rest := [(5, false), (6, true), (7, true), (8, true), (9, true), (10, true)]) [zR 0, zR 1, zR 2, .rd 3 [.o 0 none] 0 0, zR 4] [0, 1, 2, 6, 7, 37, 38] (fun _ => [zP 0 b, zV 1 (.string key), zS 2 a1 at'.length c1, zS 6 none 0 0, zV 7 .nilIface, zS 37 ba base.length cb, zS 38 a1 at'.length c1]) (fun _ => [(b, .cells #[nI (↑base.length : Int), .slice ba base.length cb, .map (some mk), .map (some md)] 133 (0, 0))]) (fun _ => ?_)
 refine JR_callp [] 52 #[.slice ba base.length cb, .slice a1 at'.length c1] (some 39) (by kernel_rfl) (fun w S hG => ?_)
 refine (vwithin (globs_of (hG.at 0 rfl)) (hG.at 2 rfl) (hG.at 1 rfl) (by omega) hl1).mono ?_
 rintro e3 w3 (⟨htw2, _⟩ | ⟨_, hR⟩)
 ·exact absurd htw htw2
 refine ⟨_, _, _, hR, ?_⟩
 cases hin : inL base at' with
 | false =>
  have hae : atErr base.length base key at' = 9 := by rw [atErr, if_neg (by simp [hnm]), if_neg (by simp [hv0]), if_neg (by simp [hal]), if_pos hin]
  rw [hae]
  try simp only [cAp, nAp, aNl]
  refine Gr (id := 8) (rest := []) [zR 6, zR 7, zR 8, zR 9, zR 10] [0, 1, 2, 6, 7, 9] (fun _ => [zP 0 b, zV 1 (.string key), zS 2 a1 at'.length c1, zS 6 none 0 0, zV 7 .nilIface, zB 9 false]) (fun _ => [(b, .cells #[nI (↑base.length : Int), .slice ba base.length cb, .map (some mk), .map (some md)] 133 (0, 0))]) (fun _ => ?_)
  refine JR_end ?_
  refine Sq mixed [zR 0, zR 1] [] [0, 1, 2, 6, 7, 43] (fun _ => [zP 0 b, zV 1 (.string key), zS 2 a1 at'.length c1, zS 6 none 0 0, zV 7 .nilIface, zB 43 true]) (fun _ => [(b, .cells #[nI (↑base.length : Int), .slice ba base.length cb, .map (some mk), .map (some md)] 133 (0, 0))]) (fun _ => ?_)
  refine cTt ?_
  refine Sp mixed [.rd 0 [.r 2 (some (.iface 243 (.pointer (some (er 9)))))] 0 0, zR 1, zR 2] [] [0, 1, 2, 6, 7] (fun _ => [zP 0 b, zV 1 (.string key), zS 2 a1 at'.length c1, zS 6 none 0 0, zV 7 (.iface 243 (.pointer (some (er 9))))]) (fun _ => [(b, .cells #[nI (↑base.length : Int), .slice ba base.length cb, .map (some mk), .map (some md)] 133 (0, 0))]) (fun _ => [csg3[(0 : Nat)]? = some (Value.iface (243 : Nat) (Value.pointer (some (er (9 : Nat)))))]) (fun _ => ⟨hglob3, trivial⟩) (fun _ => ?_)
  refine J_return [[], []] (.tuple #[.slice none 0 0, .iface 243 (.pointer (some (er 9)))]) (by kernel_rfl) (fun a w s => ?_)
  exact .inl ⟨by decide, (s.hide 0 rfl).ret (by simp) [3, 0, 1, 2] [] rfl rfl⟩
 | true =>
  have hae : atErr base.length base key at' = 0 := by rw [atErr, if_neg (by simp [hnm]), if_neg (by simp [hv0]), if_neg (by simp [hal]), if_neg (by simp [hin])]
  rw [hae]
  try simp only [cAp, nAp, aNl]
  refine Gr (id := 8) (rest := []) [zR 6, zR 7, zR 8, zR 9, zR 10] [0, 1, 2, 6, 7, 9] (fun _ => [zP 0 b, zV 1 (.string key), zS 2 a1 at'.length c1, zS 6 none 0 0, zV 7 .nilIface, zB 9 true]) (fun _ => [(b, .cells #[nI (↑base.length : Int), .slice ba base.length cb, .map (some mk), .map (some md)] 133 (0, 0))]) (fun _ => ?_)
  refine JR_end ?_
  refine Sq mixed [zR 0, zR 1] [] [0, 1, 2, 6, 7, 43] (fun _ => [zP 0 b, zV 1 (.string key), zS 2 a1 at'.length c1, zS 6 none 0 0, zV 7 .nilIface, zB 43 false]) (fun _ => [(b, .cells #[nI (↑base.length : Int), .slice ba base.length cb, .map (some mk), .map (some md)] 133 (0, 0))]) (fun _ => ?_)
  refine cF ?_
  refine J_skip ?_
  refine Sq mixed [zR 0] [] [0, 1, 2, 6, 7, 11] (fun _ => [zP 0 b, zV 1 (.string key), zS 2 a1 at'.length c1, zS 6 none 0 0, zV 7 .nilIface, zS 11 none 0 0]) (fun _ => [(b, .cells #[nI (↑base.length : Int), .slice ba base.length cb, .map (some mk), .map (some md)] 133 (0, 0))]) (fun _ => ?_)
  refine J_seq ?_
  refine J_seq ?_
  refine J_show 0 rfl ?_
  by_cases hT : key ∈ ks
  ·obtain ⟨iT, hit⟩ := List.getElem?_of_mem hT
   refine J_norm (C' := [(cStar (List.map (fun t => cAcc (F t) 28 3 (List.map eCom (keyC L t))) ks)), (cMapG md okDot (dotSet (List.map dotP L)))]) (G' := [(.nilIface, (dC er eb)), (.slice a1 at'.length c1, (dInts at')), (.slice ba base.length cb, (dInts base)), (.pointer (some (⟨1, 0, none⟩)), (D.ptr [D.v (Value.iface 243 (Value.pointer (some (er 4))))])), (.pointer (some (⟨3, 0, none⟩)), (D.ptr [D.v (Value.iface 243 (Value.pointer (some (er 3))))])), (.pointer (some (⟨4, 0, none⟩)), (D.ptr [D.v (Value.iface 243 (Value.pointer (some (er 9))))]))]) (by kernel_rfl) (by kernel_rfl) ?_
   refine J_stp (stp_take (c := cAcc (F key) 28 3 ((keyC L key).map eCom)) 0 iT rfl (by rw [List.getElem?_map, hit]; rfl)) ?_
   refine J_stpx (stp_accform 1 rfl) fun y hF => ?_
   obtain ⟨av, nv, cv⟩ := y
   obtain ⟨hF, hn⟩ := hF
   dsimp only at hF hn
   rw [List.length_map] at hn
   rw [hF]
   refine J_stp (stp_accm eCom 28 3) ?_
   refine J_norm (C' := [(cMapG md okDot (dotSet (List.map dotP L))), cAcc (.slice av nv cv) 28 3 (List.map eCom (keyC L key)), (cStar ((List.map (fun t => cAcc (F t) 28 3 (List.map eCom (keyC L t))) ks).eraseIdx iT)), cAcc (.slice none 0 0) 28 3 (List.map eCom [])]) (G' := [(.nilIface, (dC er eb)), (.slice a1 at'.length c1, (dInts at')), (.slice ba base.length cb, (dInts base)), (.pointer (some (⟨1, 0, none⟩)), (D.ptr [D.v (Value.iface 243 (Value.pointer (some (er 4))))])), (.pointer (some (⟨3, 0, none⟩)), (D.ptr [D.v (Value.iface 243 (Value.pointer (some (er 3))))])), (.pointer (some (⟨4, 0, none⟩)), (D.ptr [D.v (Value.iface 243 (Value.pointer (some (er 9))))]))]) (by kernel_rfl) (by kernel_rfl) ?_
   refine jB mixed [(0, true), (1, true), (2, true), (3, true), (4, true), (5, true), (6, true), (7, true)] [] ?_
   refine Gr (id := 12) (rest := [(5, true), (6, true), (7, true)]) [zR 0, zR 1, zR 2, .rd 3 [.o 0 none] 0 0, zR 4] [2, 6, 7, 11, 48, 49] (fun _ => [zS 2 a1 at'.length c1, zS 6 none 0 0, zV 7 .nilIface, zS 11 none 0 0, zV 48 (.map (some mk)), zV 49 (.string key)]) (fun _ => [(b, .cells #[nI (↑base.length : Int), .slice ba base.length cb, .map (some mk), .map (some md)] 133 (0, 0)), (mk, Obj.map es clock)]) (fun _ => ?_)
   refine JRg_lookr (.o 1 none) mk 130 9 43 (MapKept.IsKey TypeDesc.string) (.string key) (.slice none 0 0) false (some 50) (by kernel_rfl) (by kernel_rfl) (by kernel_rfl) keyOk_9 (by first | exact ⟨_, _, _, rfl⟩ | simp [MapKept.IsKey]) (by kernel_rfl) rfl hm (fun hno => ?_) (fun v hv => ?_)
   ·rw [strG_in hT] at hno
    cases hno
   ·rw [strG_in hT, hF] at hv
    cases hv
    have hkl := keyC_len L key
    subst hn
    refine Gr (id := 12) (rest := []) [zR 6, zR 7] [2, 6, 7, 11, 50, 51, 52] (fun _ => [zS 2 a1 at'.length c1, zS 6 none 0 0, zV 7 .nilIface, zS 11 none 0 0, zS 50 av ((keyC L key).length) cv, zI 51 ((↑(keyC L key).length : Int)), zI 52 0]) (fun _ => [(b, .cells #[nI (↑base.length : Int), .slice ba base.length cb, .map (some mk), .map (some md)] 133 (0, 0)), (mk, Obj.map es clock)]) (fun _ => ?_)
    refine JR_end ?_
    refine J_block ?_
    have hwd : withinC L key at' = ((keyC L key).take (keyC L key).length).filter fun c => inL c.when at' := by rw [List.take_length]; rfl
    rw [hwd]
    have hKv : ∀ x ∈ keyC L key, twoErr x.when at' = 0 ∧ x.when.length ≤ 6 := fun x hx => by
     obtain ⟨q, hq, rfl⟩ := mem_keyC hx
     obtain ⟨h1, h2⟩ := hLv q hq
     have h3 : (oneC q).when = q.when := rfl
     rw [h3]
     refine ⟨?_, ?_⟩
     ·rw [twoErr, if_neg (by simp [h1]), if_neg (by simp [hv0]), if_neg (by simp [h2, hal])]
     ·omega
    generalize hKL : keyC L key = KL at hkl hKv ⊢
    refine J_loopx (fun x : WithR => [zS 2 a1 at'.length c1, zS 6 none 0 0, zV 7 .nilIface, zS 11 x.a x.k x.c, zS 50 av KL.length cv, zI 51 (↑KL.length : Int), zI 52 x.i]) (fun x : WithR => [(b, .cells #[nI (↑base.length : Int), .slice ba base.length cb, .map (some mk), .map (some md)] 133 (0, 0)), (mk, Obj.map es clock)]) (fun x : WithR => [cMapG md okDot (dotSet (L.map dotP)), cAcc (.slice av KL.length cv) 28 3 (KL.map eCom), cStar ((ks.map fun t => cAcc (F t) 28 3 ((keyC L t).map eCom)).eraseIdx iT), cAcc (.slice x.a x.k x.c) 28 3 (((KL.take x.i.toNat).filter fun c => inL c.when at').map eCom)]) (fun x : WithR => [(.nilIface, (dC er eb)), (.slice a1 at'.length c1, (dInts at')), (.slice ba base.length cb, (dInts base)), (.pointer (sA 1 0), (D.ptr [D.v (Value.iface 243 (Value.pointer (some (er 4))))])), (.pointer (sA 3 0), (D.ptr [D.v (Value.iface 243 (Value.pointer (some (er 3))))])), (.pointer (sA 4 0), (D.ptr [D.v (Value.iface 243 (Value.pointer (some (er 9))))]))]) (fun x : WithR => (KL.length - x.i).toNat) (fun x : WithR => (0 ≤ x.i ∧ x.i ≤ KL.length)) ⟨0, none, 0, 0⟩ [2, 6, 7, 11, 50, 51, 52] [0, 1] [0, 1, 2, 3] [0, 1, 2, 3, 4, 5] ?_ (by kernel_rfl) rfl rfl rfl ?_
    ·exact ⟨by simp, by simp⟩
    rintro ⟨i, a3, k3, c3⟩ ⟨hi0, hi⟩
    dsimp only at hi0 hi ⊢
    refine J_stpx (stp_acclen 3 rfl) fun _ hk3 => ?_
    have hk4 : k3 ≤ 1000000 := by
     rw [List.length_map] at hk3
     have h1 := List.length_filter_le (fun c : ComT => inL c.when at') (KL.take i.toNat)
     rw [List.length_take] at h1
     omega
    refine Sq mixed [zR 0] [] [2, 6, 7, 11, 50, 51, 52, 53] (fun _ => [zS 2 a1 at'.length c1, zS 6 none 0 0, zV 7 .nilIface, zS 11 a3 k3 c3, zS 50 av KL.length cv, zI 51 (↑KL.length : Int), zI 52 i, zB 53 (decide (i < (↑KL.length : Int)))]) (fun _ => [(b, .cells #[nI (↑base.length : Int), .slice ba base.length cb, .map (some mk), .map (some md)] 133 (0, 0)), (mk, Obj.map es clock)]) (fun _ => ?_)
    refine J_seq ?_
    refine cC (t := decide (i < (↑KL.length : Int))) (fun hlt => ?_) (fun hlt => ?_)
    ·have hlt2 : i < KL.length := by simpa using hlt
     obtain ⟨x, hx⟩ : ∃ x, KL[i.toNat]? = some x := ⟨_, List.getElem?_eq_getElem (by omega)⟩
     obtain ⟨hx1, hx2⟩ := hKv x (List.mem_of_getElem? hx)
     refine J_openacc 1 rfl (by intro h0; rw [List.map_eq_nil_iff] at h0; rw [h0] at hx; simp at hx) fun g cur xs hu _ _ hrow => ?_
     subst hu
     refine J_stpx (stp_readrows 3 rfl i.toNat (map_at hx)) fun ls hls => ?_
     obtain ⟨hls1, hls2⟩ := hls
     obtain ⟨⟨xa, xc⟩, ⟨ya, yc⟩, rfl⟩ := len2 hls1
     have f := fun (j : Nat) v h => hrow.atx (hls2 j v h)
     have r0 := f 0 _ rfl
     have r1 := f 1 _ rfl
     have r2 := f 2 _ rfl
     rw [Nat.add_zero] at r0
     rw [← Nat.zero_add (i.toNat * 3)] at r0 r1 r2
     refine J_norm (C' := [(cMapG md okDot (dotSet (List.map dotP L))), (cStar ((List.map (fun t => cAcc (F t) 28 3 (List.map eCom (keyC L t))) ks).eraseIdx iT)), cAcc (.slice a3 k3 c3) 28 3 (List.map eCom (List.filter (fun c => inL c.when at') (List.take i.toNat KL))), (cRows xs 3 (List.map eCom KL))]) (G' := [(.nilIface, (dC er eb)), (.slice a1 at'.length c1, (dInts at')), (.slice ba base.length cb, (dInts base)), (.pointer (some (⟨1, 0, none⟩)), (D.ptr [D.v (Value.iface 243 (Value.pointer (some (er 4))))])), (.pointer (some (⟨3, 0, none⟩)), (D.ptr [D.v (Value.iface 243 (Value.pointer (some (er 3))))])), (.pointer (some (⟨4, 0, none⟩)), (D.ptr [D.v (Value.iface 243 (Value.pointer (some (er 9))))])), (.slice (xa, xc).fst ((List.map eI x.when).length) xc, (D.sl 1 (List.map eI x.when))), (.slice (ya, yc).fst ((List.map eOp x.ops).length) yc, (D.sl 7 (List.map eOp x.ops)))]) (by kernel_rfl) (by kernel_rfl) ?_
     refine J_skip ?_
     refine J_seq ?_
     refine J_block ?_
     refine Sp mixed [.rd 0 [] 0 2, .rd 1 [.o 2 (some (.slice (xa, xc).fst ((List.map eI x.when).length) xc)), .o 2 (some (nI x.place)), .o 2 (some (.slice (ya, yc).fst ((List.map eOp x.ops).length) yc))] 0 0, .wr 2 [] 0, .wr 3 [.o 3 none, .o 3 none, .o 3 none] 0] [(3, [])] [2, 6, 7, 11, 13, 50, 51, 52] (fun nu1 => [zS 2 a1 at'.length c1, zS 6 none 0 0, zV 7 .nilIface, zS 11 a3 k3 c3, zP 13 (nu1 0), zS 50 (sA g 0) KL.length cv, zI 51 (↑KL.length : Int), zI 52 i]) (fun nu1 => [(b, .cells #[nI (↑base.length : Int), .slice ba base.length cb, .map (some mk), .map (some md)] 133 (0, 0)), (mk, Obj.map es clock), (g, .cells cur 28 (0, 0)), (nu1 0, .cells #[.slice (xa, xc).fst ((List.map eI x.when).length) xc, nI x.place, .slice (ya, yc).fst ((List.map eOp x.ops).length) yc] 28 (0, 0))]) (fun nu1 => [(0 : Int) ≤ i, i < (↑KL.length : Int), cur[(0 : Nat) + i.toNat * (3 : Nat)]? = some (Value.slice (xa, xc).fst (List.map eI x.when).length (xa, xc).snd), cur[(0 : Nat) + i.toNat * (3 : Nat) + (1 : Nat)]? = some (nI x.place), cur[(0 : Nat) + i.toNat * (3 : Nat) + (2 : Nat)]? = some (Value.slice (ya, yc).fst (List.map eOp x.ops).length (ya, yc).snd)]) (fun _ => ⟨hi0, hlt2, r0, r1, r2, trivial⟩) (fun nu1 => ?_)
     refine J_seq ?_
     refine J_hide 2 rfl ?_
     refine J_stp (stp_closeacc 4 3 rfl rfl hrow (by decide)) ?_
     rw [show (List.map eCom KL).length = KL.length from List.length_map ..]
     refine J_norm (C' := [(cMapG md okDot (dotSet (List.map dotP L))), (cStar ((List.map (fun t => cAcc (F t) 28 3 (List.map eCom (keyC L t))) ks).eraseIdx iT)), cAcc (.slice a3 k3 c3) 28 3 (List.map eCom (List.filter (fun c => inL c.when at') (List.take i.toNat KL))), cAcc (.slice (some (⟨g, 0, none⟩)) KL.length cv) 28 3 (List.map eCom KL)]) (G' := [(.nilIface, (dC er eb)), (.slice a1 at'.length c1, (dInts at')), (.slice ba base.length cb, (dInts base)), (.pointer (some (⟨1, 0, none⟩)), (D.ptr [D.v (Value.iface 243 (Value.pointer (some (er 4))))])), (.pointer (some (⟨3, 0, none⟩)), (D.ptr [D.v (Value.iface 243 (Value.pointer (some (er 3))))])), (.pointer (some (⟨4, 0, none⟩)), (D.ptr [D.v (Value.iface 243 (Value.pointer (some (er 9))))])), (.slice (xa, xc).fst ((List.map eI x.when).length) xc, (D.sl 1 (List.map eI x.when))), (.slice (ya, yc).fst ((List.map eOp x.ops).length) yc, (D.sl 7 (List.map eOp x.ops)))]) (by kernel_rfl) (by kernel_rfl) ?_
     refine jB mixed [(0, true), (1, true), (2, true), (3, false), (4, true), (5, true), (6, true), (7, true), (8, true)] [] ?_
     refine Gr (id := 15) (rest := [(3, false), (4, true), (5, true), (6, true), (7, true), (8, true)]) [zR 0, .rd 1 [.o 2 none] 0 0, zR 2] [2, 6, 7, 11, 13, 50, 51, 52, 58, 59] (fun _ => [zS 2 a1 at'.length c1, zS 6 none 0 0, zV 7 .nilIface, zS 11 a3 k3 c3, zP 13 (nu1 0), zS 50 (sA g 0) KL.length cv, zI 51 (↑KL.length : Int), zI 52 i, zS 58 (xa, xc).fst ((List.map eI x.when).length) xc, zS 59 a1 at'.length c1]) (fun _ => [(b, .cells #[nI (↑base.length : Int), .slice ba base.length cb, .map (some mk), .map (some md)] 133 (0, 0)), (mk, Obj.map es clock), (nu1 0, .cells #[.slice (xa, xc).fst ((List.map eI x.when).length) xc, nI x.place, .slice (ya, yc).fst ((List.map eOp x.ops).length) yc] 28 (0, 0))]) (fun _ => ?_)
     refine JR_callp [] 52 #[.slice (xa, xc).fst ((List.map eI x.when).length) xc, .slice a1 at'.length c1] (some 60) (by kernel_rfl) (fun w S hG => ?_)
     refine (vwithin (globs_of (hG.at 0 rfl)) (hG.at 6 rfl) (hG.at 1 rfl) (by omega) hl1).mono ?_
     rintro e4 w4 (⟨hx3, _⟩ | ⟨_, hR⟩)
     ·exact absurd hx1 hx3
     refine ⟨_, _, _, hR, ?_⟩
     cases hxi : inL x.when at' with
     | false =>
      have e9 : (KL.take i.toNat).filter (fun c => inL c.when at') = (KL.take (i + 1).toNat).filter fun c => inL c.when at' := by
       rw [← take_snoc hi0 hx, List.filter_append]
       simp [hxi]
      try simp only [cAp, nAp, aNl]
      refine Gr (id := 15) (rest := []) [zR 4, zR 5, zR 6, zR 7, zR 8] [2, 6, 7, 11, 13, 14, 50, 51, 52] (fun _ => [zS 2 a1 at'.length c1, zS 6 none 0 0, zV 7 .nilIface, zS 11 a3 k3 c3, zP 13 (nu1 0), zB 14 false, zS 50 (sA g 0) KL.length cv, zI 51 (↑KL.length : Int), zI 52 i]) (fun _ => [(b, .cells #[nI (↑base.length : Int), .slice ba base.length cb, .map (some mk), .map (some md)] 133 (0, 0)), (mk, Obj.map es clock), (nu1 0, .cells #[.slice xa ((List.map eI x.when).length) xc, nI x.place, .slice ya ((List.map eOp x.ops).length) yc] 28 (0, 0))]) (fun _ => ?_)
      refine JR_end ?_
      refine Sq mixed [zR 0] [] [2, 6, 7, 11, 13, 14, 50, 51, 52, 63] (fun _ => [zS 2 a1 at'.length c1, zS 6 none 0 0, zV 7 .nilIface, zS 11 a3 k3 c3, zP 13 (nu1 0), zB 14 false, zS 50 (sA g 0) KL.length cv, zI 51 (↑KL.length : Int), zI 52 i, zB 63 false]) (fun _ => [(b, .cells #[nI (↑base.length : Int), .slice ba base.length cb, .map (some mk), .map (some md)] 133 (0, 0)), (mk, Obj.map es clock), (nu1 0, .cells #[.slice xa ((List.map eI x.when).length) xc, nI x.place, .slice ya ((List.map eOp x.ops).length) yc] 28 (0, 0))]) (fun _ => ?_)
      refine cF ?_
      refine J_skip ?_
      refine J_eb ?_
      refine Gp mixed [.rd 0 [] 0 1, zR 1] [] [2, 6, 7, 11, 13, 14, 50, 51, 52] (fun _ => [zS 2 a1 at'.length c1, zS 6 none 0 0, zV 7 .nilIface, zS 11 a3 k3 c3, zP 13 (nu1 0), zB 14 false, zS 50 (sA g 0) KL.length cv, zI 51 (↑KL.length : Int), zI 52 (i + 1)]) (fun _ => [(b, .cells #[nI (↑base.length : Int), .slice ba base.length cb, .map (some mk), .map (some md)] 133 (0, 0)), (mk, Obj.map es clock), (nu1 0, .cells #[.slice xa ((List.map eI x.when).length) xc, nI x.place, .slice ya ((List.map eOp x.ops).length) yc] 28 (0, 0))]) (fun _ => [IntKind.i64.wrap (i + (1 : Int)) = i + (1 : Int)]) (fun _ => ⟨wrap_i64 (by omega) (by omega), trivial⟩) (fun _ => ?_)
      rw [e9]
      refine J_backx ⟨i + 1, _, _, _⟩ [2, 6, 7, 11, 50, 51, 52] [0, 1] [0, 3, 1, 2] [0, 1, 2, 3, 4, 5] ?_ ?_ (by kernel_rfl) rfl rfl rfl
      ·exact ⟨by simp only; omega, by simp only; omega⟩
      ·simp only
       omega
     | true =>
      have e9 : (KL.take i.toNat).filter (fun c => inL c.when at') ++ [x] = (KL.take (i + 1).toNat).filter fun c => inL c.when at' := by
       rw [← take_snoc hi0 hx, List.filter_append]
       simp [hxi]
      try simp only [cAp, nAp, aNl]
      refine Gr (id := 15) (rest := []) [zR 4, zR 5, zR 6, zR 7, zR 8] [2, 6, 7, 11, 13, 14, 50, 51, 52] (fun _ => [zS 2 a1 at'.length c1, zS 6 none 0 0, zV 7 .nilIface, zS 11 a3 k3 c3, zP 13 (nu1 0), zB 14 true, zS 50 (sA g 0) KL.length cv, zI 51 (↑KL.length : Int), zI 52 i]) (fun _ => [(b, .cells #[nI (↑base.length : Int), .slice ba base.length cb, .map (some mk), .map (some md)] 133 (0, 0)), (mk, Obj.map es clock), (nu1 0, .cells #[.slice xa ((List.map eI x.when).length) xc, nI x.place, .slice ya ((List.map eOp x.ops).length) yc] 28 (0, 0))]) (fun _ => ?_)
      refine JR_end ?_
      refine Sq mixed [zR 0] [] [2, 6, 7, 11, 13, 14, 50, 51, 52, 63] (fun _ => [zS 2 a1 at'.length c1, zS 6 none 0 0, zV 7 .nilIface, zS 11 a3 k3 c3, zP 13 (nu1 0), zB 14 true, zS 50 (sA g 0) KL.length cv, zI 51 (↑KL.length : Int), zI 52 i, zB 63 true]) (fun _ => [(b, .cells #[nI (↑base.length : Int), .slice ba base.length cb, .map (some mk), .map (some md)] 133 (0, 0)), (mk, Obj.map es clock), (nu1 0, .cells #[.slice xa ((List.map eI x.when).length) xc, nI x.place, .slice ya ((List.map eOp x.ops).length) yc] 28 (0, 0))]) (fun _ => ?_)
      refine cTt ?_
      refine jB mixed [(0, true), (1, true), (2, false), (3, false), (4, true)] [] ?_
      refine Gr (id := 17) (rest := [(3, false), (4, true)]) [zR 0, .rd 1 [.o 2 none, .o 2 none, .o 2 none] 0 0, .wr 2 [] 0] [2, 6, 7, 11, 13, 14, 50, 51, 52, 64, 66] (fun nu2 => [zS 2 a1 at'.length c1, zS 6 none 0 0, zV 7 .nilIface, zS 11 a3 k3 c3, zP 13 (nu1 0), zB 14 true, zS 50 (sA g 0) KL.length cv, zI 51 (↑KL.length : Int), zI 52 i, zS 64 a3 k3 c3, zS 66 (sA (nu2 0) 0) 1 1]) (fun nu2 => [(b, .cells #[nI (↑base.length : Int), .slice ba base.length cb, .map (some mk), .map (some md)] 133 (0, 0)), (mk, Obj.map es clock), (nu1 0, .cells #[.slice xa ((List.map eI x.when).length) xc, nI x.place, .slice ya ((List.map eOp x.ops).length) yc] 28 (0, 0)), (nu2 0, .cells #[.slice xa ((List.map eI x.when).length) xc, nI x.place, .slice ya ((List.map eOp x.ops).length) yc] 28 (0, 0))]) (fun nu2 => ?_)
      refine JR_appm 2 43 28 3 56 (.agg #[.slice none 0 0, .int .i64 0, .slice none 0 0]) (a0 := a3) (len := k3) (cap0 := c3) (ax := (some (⟨nu2 0, 0, none⟩))) (m := 1) (c := 1) (dst := (some 67)) [x] (by kernel_rfl) (by kernel_rfl) (by kernel_rfl) (by kernel_rfl) rfl (by decide) rfl (fun _ _ _ s => src_one s 3 rfl rfl ⟨.inr (.inl (List.mem_of_getElem? (i := 6) rfl)), ⟨.inl ⟨rfl, rfl⟩, ⟨.inr (.inl (List.mem_of_getElem? (i := 7) rfl)), trivial⟩⟩⟩) (by simp only [maxLen]; omega) (by omega) (fun av1 cv1 => ?_)
      rw [e9]
      try simp only [cAp, nAp, aNl]
      refine Gr (id := 17) (rest := []) [zR 4] [2, 6, 7, 11, 13, 14, 50, 51, 52] (fun _ => [zS 2 a1 at'.length c1, zS 6 none 0 0, zV 7 .nilIface, zS 11 av1 (k3 + 1) cv1, zP 13 (nu1 0), zB 14 true, zS 50 (sA g 0) KL.length cv, zI 51 (↑KL.length : Int), zI 52 i]) (fun _ => [(b, .cells #[nI (↑base.length : Int), .slice ba base.length cb, .map (some mk), .map (some md)] 133 (0, 0)), (mk, Obj.map es clock), (nu1 0, .cells #[.slice xa ((List.map eI x.when).length) xc, nI x.place, .slice ya ((List.map eOp x.ops).length) yc] 28 (0, 0)), (nu2 0, .cells #[.slice xa ((List.map eI x.when).length) xc, nI x.place, .slice ya ((List.map eOp x.ops).length) yc] 28 (0, 0))]) (fun _ => ?_)
      try simp only [cAp, nAp, aNl]
      refine JR_end ?_
      try simp only [cAp, nAp, aNl]
      refine J_eb ?_
      try simp only [cAp, nAp, aNl]
      refine Gp mixed [.rd 0 [] 0 1, zR 1] [] [2, 6, 7, 11, 13, 14, 50, 51, 52] (fun _ => [zS 2 a1 at'.length c1, zS 6 none 0 0, zV 7 .nilIface, zS 11 av1 (k3 + 1) cv1, zP 13 (nu1 0), zB 14 true, zS 50 (sA g 0) KL.length cv, zI 51 (↑KL.length : Int), zI 52 (i + 1)]) (fun _ => [(b, .cells #[nI (↑base.length : Int), .slice ba base.length cb, .map (some mk), .map (some md)] 133 (0, 0)), (mk, Obj.map es clock), (nu1 0, .cells #[.slice xa ((List.map eI x.when).length) xc, nI x.place, .slice ya ((List.map eOp x.ops).length) yc] 28 (0, 0)), (nu2 0, .cells #[.slice xa ((List.map eI x.when).length) xc, nI x.place, .slice ya ((List.map eOp x.ops).length) yc] 28 (0, 0))]) (fun _ => [IntKind.i64.wrap (i + (1 : Int)) = i + (1 : Int)]) (fun _ => ⟨wrap_i64 (by omega) (by omega), trivial⟩) (fun _ => ?_)
      try simp only [cAp, nAp, aNl]
      refine J_backx ⟨i + 1, _, _, _⟩ [2, 6, 7, 11, 50, 51, 52] [0, 1] [0, 2, 1, 3] [0, 1, 2, 3, 4, 5] ?_ ?_ (by kernel_rfl) rfl rfl rfl
      ·exact ⟨by simp only; omega, by simp only; omega⟩
      ·simp only
       omega
    ·have hil : KL.take i.toNat = KL := List.take_of_length_le (by simp at hlt; omega)
     rw [hil, List.take_length]
     refine J_exit rfl ?_
     refine Sq mixed [zR 0, zR 1, zR 2] [] [6, 7] (fun _ => [zS 6 a3 k3 c3, zV 7 .nilIface]) (fun _ => [(b, .cells #[nI (↑base.length : Int), .slice ba base.length cb, .map (some mk), .map (some md)] 133 (0, 0)), (mk, Obj.map es clock)]) (fun _ => ?_)
     refine J_return [[], []] (.tuple #[.slice a3 k3 c3, .nilIface]) (by kernel_rfl) (fun a w s => ?_)
     have hjn : (ks.map fun t => cAcc (F t) 28 3 ((keyC L t).map eCom))[iT]? = some (cAcc (.slice av KL.length cv) 28 3 (KL.map eCom)) := by
      rw [List.getElem?_map, hit]
      show some (cAcc (F key) _ 3 ((keyC L key).map eCom)) = _
      rw [hF, hKL]
     exact .inr ⟨by first | rfl | trivial, _, _, _, ((((s.stp (stp_freeze 3 rfl)).stp (stp_join 1 2 iT (cs' := ks.map fun t => cAcc (F t) 28 3 ((keyC L t).map eCom)) rfl rfl (by decide) hjn rfl)).hide 0 rfl).hide 0 rfl).ret (by simp) [2, 3, 1, 0] [6] rfl rfl⟩
  ·have ho0 : keyC L key = [] := Classical.byContradiction fun h => hT ((hiff _).2 h)
   refine jB mixed [(0, true), (1, true), (2, true), (3, true), (4, true), (5, true), (6, true), (7, true)] [] ?_
   refine Gr (id := 12) (rest := [(5, true), (6, true), (7, true)]) [zR 0, zR 1, zR 2, .rd 3 [.o 0 none] 0 0, zR 4] [2, 6, 7, 11, 48, 49] (fun _ => [zS 2 a1 at'.length c1, zS 6 none 0 0, zV 7 .nilIface, zS 11 none 0 0, zV 48 (.map (some mk)), zV 49 (.string key)]) (fun _ => [(b, .cells #[nI (↑base.length : Int), .slice ba base.length cb, .map (some mk), .map (some md)] 133 (0, 0)), (mk, Obj.map es clock)]) (fun _ => ?_)
   refine JRg_lookr (.o 1 none) mk 130 9 43 (MapKept.IsKey TypeDesc.string) (.string key) (.slice none 0 0) false (some 50) (by kernel_rfl) (by kernel_rfl) (by kernel_rfl) keyOk_9 (by first | exact ⟨_, _, _, rfl⟩ | simp [MapKept.IsKey]) (by kernel_rfl) rfl hm (fun hno => ?_) (fun v hv => ?_)
   ·have hw0 : withinC L key at' = [] := by rw [withinC, ho0]; rfl
    rw [hw0]
    refine Gr (id := 12) (rest := []) [zR 6, zR 7] [2, 6, 7, 11, 50, 51, 52] (fun _ => [zS 2 a1 at'.length c1, zS 6 none 0 0, zV 7 .nilIface, zS 11 none 0 0, zS 50 none 0 0, zI 51 0, zI 52 0]) (fun _ => [(b, .cells #[nI (↑base.length : Int), .slice ba base.length cb, .map (some mk), .map (some md)] 133 (0, 0)), (mk, Obj.map es clock)]) (fun _ => ?_)
    refine JR_end ?_
    refine J_block ?_
    refine J_loop1 fun I => ?_
    refine Sq mixed [zR 0] [] [2, 6, 7, 11, 50, 51, 52, 53] (fun _ => [zS 2 a1 at'.length c1, zS 6 none 0 0, zV 7 .nilIface, zS 11 none 0 0, zS 50 none 0 0, zI 51 0, zI 52 0, zB 53 false]) (fun _ => [(b, .cells #[nI (↑base.length : Int), .slice ba base.length cb, .map (some mk), .map (some md)] 133 (0, 0)), (mk, Obj.map es clock)]) (fun _ => ?_)
    refine J_seq ?_
    refine cF ?_
    refine J_exit rfl ?_
    refine Sq mixed [zR 0, zR 1, zR 2] [] [6, 7] (fun _ => [zS 6 none 0 0, zV 7 .nilIface]) (fun _ => [(b, .cells #[nI (↑base.length : Int), .slice ba base.length cb, .map (some mk), .map (some md)] 133 (0, 0)), (mk, Obj.map es clock)]) (fun _ => ?_)
    refine J_return [[], []] (.tuple #[.slice none 0 0, .nilIface]) (by kernel_rfl) (fun a w s => ?_)
    exact .inr ⟨by first | rfl | trivial, _, _, _, (((s.stp (stp_fact (v := .slice none 0 0) (d := .sl 3 (([] : List ComT).map eCom)) fun _ _ _ => .nil)).hide 0 rfl).hide 0 rfl).ret (by simp) [2, 3, 0, 1] [6] rfl rfl⟩
   ·rw [strG_out hT] at hv
    cases hv
end Go.Proofs.YtpjkiomccpjboaaGreatDoor
end
section
namespace Go.Proofs.YtpjkiomccpjboaaGreatDoor
open Go Go.Sx
theorem opErrAt_iff {l : List OpT} {p : Int} {i : Nat} {o : OpT} (h : l[i]? = some o) : opErrAt l p i = 0 ↔ opErr o p = 0 ∧ ∀ q, 0 < i → l[i - 1]? = some q → q.no < o.no := by
 by_cases h0 : opErr o p = 0
 ·cases i with
  | zero => exact ⟨fun _ => ⟨h0, fun q h => absurd h (by omega)⟩, fun _ => opErrAt_first h h0⟩
  | succ i =>
   have hi := (List.getElem?_eq_some_iff.1 h).1
   obtain ⟨q, hq⟩ : ∃ q, l[i]? = some q := ⟨_, List.getElem?_eq_getElem (by omega)⟩
   rw [opErrAt_next h hq h0]
   constructor
   ·intro h1
    refine ⟨h0, fun q' _ hq' => ?_⟩
    rw [Nat.add_sub_cancel, hq] at hq'
    cases hq'
    split at h1
    ·cases h1
    ·omega
   ·rintro ⟨_, h1⟩
    have := h1 q (by omega) (by rw [Nat.add_sub_cancel]; exact hq)
    rw [if_neg (by omega)]
 ·rw [opErrAt_own h h0]
  exact ⟨fun h1 => absurd h1 h0, fun h1 => absurd h1.1 h0⟩
theorem ops_fine {l : List OpT} {p : Int} : (∀ j, j < l.length → opErrAt l p j = 0) ↔ (∀ o ∈ l, opErr o p = 0) ∧ l.Pairwise fun a b => a.no < b.no := by
 constructor
 ·intro h
  have h1 : ∀ j (hj : j < l.length), opErr l[j] p = 0 ∧ ∀ q, 0 < j → l[j - 1]? = some q → q.no < l[j].no := fun j hj => (opErrAt_iff (List.getElem?_eq_getElem hj)).1 (h j hj)
  have h2 : ∀ j (hj : j < l.length) i (hi : i < j), (l[i]'(by omega)).no < l[j].no := by
   intro j
   induction j with
   | zero => exact fun _ i hi => absurd hi (by omega)
   | succ j ih =>
    intro hj i hi
    have h3 := (h1 (j + 1) hj).2 (l[j]'(by omega)) (by omega) (by rw [Nat.add_sub_cancel]; exact List.getElem?_eq_getElem _)
    rcases Nat.lt_or_ge i j with h4 | h4
    ·exact Int.lt_trans (ih (by omega) i h4) h3
    ·obtain rfl : i = j := by omega
     exact h3
  refine ⟨fun o ho => ?_, List.pairwise_iff_getElem.2 fun i j hi hj hij => h2 j hj i hij⟩
  obtain ⟨j, hj, rfl⟩ := List.getElem_of_mem ho
  exact (h1 j hj).1
 ·rintro ⟨h1, h2⟩ j hj
  refine (opErrAt_iff (List.getElem?_eq_getElem hj)).2 ⟨h1 _ (List.getElem_mem _), fun q h0 hq => ?_⟩
  obtain ⟨hq1, rfl⟩ := List.getElem?_eq_some_iff.1 hq
  exact List.pairwise_iff_getElem.1 h2 (j - 1) j hq1 hj (by omega)
theorem comFault_mk {c : ComT} (h1 : vecErr c.when = 0) (h2 : 0 ≤ c.place) (h3 : c.place < c.when.length) (h4 : c.ops.length ≤ 12) (h5 : c.when[c.place.toNat]? ≠ some 0) (h6 : c.ops ≠ []) (h7 : ∀ o ∈ c.ops, opErr o c.when.length = 0) (h8 : c.ops.Pairwise fun a b => a.no < b.no) : (comFault c).code = 0 := by
 have h9 : ¬ c.ops.length = 0 := fun h => h6 (List.length_eq_zero_iff.1 h)
 have h10 := ops_fine.2 ⟨h7, h8⟩
 rw [comFault, if_neg (by simp [h1]), if_neg (by omega), if_neg h5, if_neg h9, (opsFault_from c.ops.length 0 c.ops.length (Nat.zero_le _) fun j _ hj => h10 j hj).1 (by omega)]
theorem right_pair {c : ComT} (h : (comFault c).code = 0) : c.ops.Pairwise fun a b => a.no < b.no := by
 have hr := right_of h
 rw [← hr.op] at h
 exact (ops_fine.1 (opsFault_zero h)).2
theorem valFault_mk {key : ByteArray} {l : List ComT} (hk : nameOk key = true) (h : ∀ c ∈ l, (comFault c).code = 0) (m : Nat) (hm : ∀ c ∈ l, c.when.length = m) : (valFault key l).code = 0 := by
 rw [valFault, if_neg (by simp [hk]), listFault_none fun j hj => ?_]
 have hj2 : l[j]? = some l[j] := List.getElem?_eq_getElem hj
 refine comErrAt_fine hj2 (h _ (List.getElem_mem _)) ?_
 rw [hm _ (List.getElem_mem _)]
 match l, hj, hm with
 | c :: r, _, hm => exact (hm c (List.mem_cons_self ..)).symm
structure PartOf (c' c : ComT) : Prop where
 place : c'.place = c.place
 time : c'.when = c.when
 ne : c'.ops ≠ []
 ops : c'.ops.Sublist c.ops
theorem PartOf.fault {c' c : ComT} (h : PartOf c' c) (hc : (comFault c).code = 0) : (comFault c').code = 0 := by
 have hr := right_of hc
 obtain ⟨h1, h2, h3, h4⟩ := h
 refine comFault_mk (by rw [h2]; exact hr.vec) (by rw [h1]; exact hr.p0) (by rw [h1, h2]; exact hr.p1) (Nat.le_trans h4.length_le hr.o2) (by rw [h1, h2]; exact hr.t0) h3 (fun o ho => ?_) ((right_pair hc).sublist h4)
 rw [h2]
 exact right_ops hc o (h4.subset ho)
theorem mem_allDone {l : List ComT} {x : DoneT} : x ∈ allDone l ↔ ∃ c ∈ l, ∃ o ∈ c.ops, x = doneOf c o := by
 unfold allDone
 rw [List.mem_flatMap]
 constructor
 ·rintro ⟨c, hc, h⟩
  obtain ⟨o, ho, rfl⟩ := List.mem_map.1 h
  exact ⟨c, hc, o, ho, rfl⟩
 ·rintro ⟨c, hc, o, ho, rfl⟩
  exact ⟨c, hc, List.mem_map_of_mem ho⟩
theorem PartOf.done {c' c : ComT} (h : PartOf c' c) (o : OpT) : doneOf c' o = doneOf c o := by
 simp only [doneOf, dotOf, h.place, h.time]
def Apart (l : List ComT) : Prop := ∀ (i k : Nat) (c d : ComT), k < i → l[i]? = some c → l[k]? = some d → ¬ (d.place = c.place ∧ d.when.getD d.place.toNat 0 = c.when.getD c.place.toNat 0)
theorem Apart.fun {l : List ComT} (h : Apart l) (hr : ∀ c ∈ l, (comFault c).code = 0) : ∀ x ∈ allDone l, ∀ y ∈ allDone l, x.d = y.d → x = y := by
 intro x hx y hy he
 obtain ⟨c, hc, o, ho, rfl⟩ := mem_allDone.1 hx
 obtain ⟨d, hd, q, hq, rfl⟩ := mem_allDone.1 hy
 obtain ⟨i, hi⟩ := List.getElem?_of_mem hc
 obtain ⟨k, hk⟩ := List.getElem?_of_mem hd
 simp only [doneOf, dotOf, DotT.mk.injEq] at he
 obtain ⟨e1, e2, e3⟩ := he
 have hik : i = k := by
  rcases Nat.lt_trichotomy i k with hlt | heq | hlt
  ·exact absurd ⟨e1, e2⟩ (h k i d c hlt hk hi)
  ·exact heq
  ·exact absurd ⟨e1.symm, e2.symm⟩ (h i k c d hlt hi hk)
 subst hik
 rw [hi] at hk
 cases hk
 have hp := right_pair (hr c hc)
 obtain ⟨a, ha, rfl⟩ := List.getElem_of_mem ho
 obtain ⟨b, hb, rfl⟩ := List.getElem_of_mem hq
 have hab : a = b := by
  rcases Nat.lt_trichotomy a b with hlt | heq | hlt
  ·have := List.pairwise_iff_getElem.1 hp a b ha hb hlt
   omega
  ·exact heq
  ·have := List.pairwise_iff_getElem.1 hp b a hb ha hlt
   omega
 subst hab
 rfl
end Go.Proofs.YtpjkiomccpjboaaGreatDoor
end
section
namespace Go.Proofs.YtpjkiomccpjboaaGreatDoor
open Go Go.Sx
theorem withinC_fine {L : List PutT} {key : ByteArray} {at' : List Int} {p : Nat} (hk : nameOk key = true) (h : ∀ q ∈ L, (comFault (oneC q)).code = 0 ∧ q.when.length = p) : (valFault key (withinC L key at')).code = 0 := by
 refine valFault_mk hk (fun c hc => ?_) p fun c hc => ?_
 ·obtain ⟨q, hq, rfl⟩ := mem_keyC (List.mem_filter.1 hc).1
  exact (h q hq).1
 ·obtain ⟨q, hq, rfl⟩ := mem_keyC (List.mem_filter.1 hc).1
  exact (h q hq).2
theorem withinC_len (L : List PutT) (key : ByteArray) (at' : List Int) : (withinC L key at').length ≤ L.length :=
 Nat.le_trans (List.length_filter_le _ _) (keyC_len L key)
noncomputable abbrev chV (b mk md : Nat) (ba : Option Addr) (p nb cb clock : Nat) (es : Array MapEntry) (ks : List ByteArray) (F : ByteArray → Value) (L : List PutT) : List Chunk := [cObj b (.cells #[.int .i64 p, .slice ba nb cb, .map (some mk), .map (some md)] 133 (0, 0)), cObj mk (.map es clock), cStar (ks.map fun t => cAcc (F t) 28 3 ((keyC L t).map eCom)), cMapG md okDot (dotSet (L.map dotP))]
set_option maxHeartbeats 4000000 in
theorem vRead {w : World} {S : Nat → Prop} {M : List Nat} {er : Nat → Addr} {eb : Nat → Array Value × TypeId} {b mk md : Nat} {ba a1 : Option Addr} {p nb cb n1 c1 clock : Nat} {base at' : List Int} {es : Array MapEntry} {ks : List ByteArray} {F : ByteArray → Value} {L : List PutT} {key : ByteArray} (hC : Rep w S .nilIface (dC er eb))
  (hP : Pre w S M (chV b mk md ba p nb cb clock es ks F L))
  (hb : Rep w S (.slice ba nb cb) (dInts base)) (hbv : vecErr base = 0) (hbl : base.length = p) (h1 : Rep w S (.slice a1 n1 c1) (dInts at')) (hl1 : at'.length ≤ 1000000) (hL : L.length ≤ 300000) (hLr : ∀ q ∈ L, (comFault (oneC q)).code = 0 ∧ q.when.length = p)
  (hm : MapG (MapKept.IsKey .string) es (strG ks F)) (hnd : ks.Nodup) (hiff : ∀ t, t ∈ ks ↔ keyC L t ≠ []) :
  Calls Tryz.prog 38 #[.pointer (some ⟨b, 0, none⟩), .string key, .slice a1 n1 c1] w fun e w' =>
   (atErr p base key at' ≠ 0 ∧ Ret M (zero w) S w' e (.tuple #[valZ, .iface 243 (.pointer (some (er (atErr p base key at'))))]) (chV b mk md ba p nb cb clock es ks F L) []) ∨
   (atErr p base key at' = 0 ∧ ∃ ua un uc, Ret M (zero w) S w' e (.tuple #[valA (Sx.valOf key (withinC L key at')) (.slice ua un uc), .nilIface]) (chV b mk md ba p nb cb clock es ks F L) [(.slice ua un uc, dStrs (Sx.valOf key (withinC L key at')).set)]) := by
 have hLv : ∀ q ∈ L, vecErr q.when = 0 ∧ q.when.length = p := fun q hq => ⟨(right_of (hLr q hq).1).vec, (hLr q hq).2⟩
 have hvl := vecErr_len hbv
 refine en38 (args := [.pointer (some ⟨b, 0, none⟩), .string key, .slice a1 n1 c1]) (S := S) (G := [(_, dC er eb), (_, dInts at'), (_, dInts base)]) (by kernel_rfl) hP (.cons hC (.cons h1 (.cons hb (.nil _ _)))) ?_
 refine J_zero ?_
 refine Sq mixed [.wr 0 [] 0, zR 1] [] [0, 1, 2, 6, 7] (fun nu1 => [zP 0 b, zV 1 (.string key), zS 2 a1 n1 c1, zP 6 (nu1 0), zV 7 .nilIface]) (fun nu1 => [(nu1 0, .cells #[nI 0, .string (ByteArray.mk #[]), nI 0, .slice none 0 0] 47 (0, 0))]) (fun nu1 => ?_)
 refine J_seq ?_
 refine jB mixed [(0, true), (1, true), (2, true), (3, false), (4, true), (5, true), (6, true), (7, true), (8, true)] [] ?_
 refine Gr (id := 1) (rest := [(3, false), (4, true), (5, true), (6, true), (7, true), (8, true)]) [zR 0, zR 1, zR 2] [1, 6, 7, 11, 12, 13] (fun _ => [zV 1 (.string key), zP 6 (nu1 0), zV 7 .nilIface, zP 11 b, zV 12 (.string key), zS 13 a1 n1 c1]) (fun _ => [(nu1 0, .cells #[nI 0, .string (ByteArray.mk #[]), nI 0, .slice none 0 0] 47 (0, 0))]) (fun _ => ?_)
 refine JR_call [] [0, 1, 2, 3] 78 #[.pointer (some (⟨b, 0, none⟩)), .string key, .slice a1 n1 c1] (some 14) (by kernel_rfl) (by kernel_rfl) (by decide) (fun w S M hP hG _ => ?_)
 refine (vWithinK (key := key) (hG.at 0 rfl) hP (hG.at 2 rfl) hbv hbl (hG.at 1 rfl) hl1 (by omega) hLv hm hnd hiff).mono ?_
 rintro e1 w1 (⟨hae, hR⟩ | ⟨hae, ua, un, uc, hR⟩)
 ·refine ⟨_, _, _, hR, ?_⟩
  try simp only [cAp, nAp, aNl]
  refine Gr (id := 1) (rest := []) [zR 4, zR 5, zR 6, zR 7, zR 8] [1, 6, 7, 8, 9] (fun _ => [zV 1 (.string key), zP 6 (nu1 0), zV 7 .nilIface, zS 8 none 0 0, zV 9 (.iface 243 (.pointer (some (er (atErr p base key at')))))]) (fun _ => [(nu1 0, .cells #[nI 0, .string (ByteArray.mk #[]), nI 0, .slice none 0 0] 47 (0, 0))]) (fun _ => ?_)
  try simp only [cAp, nAp, aNl]
  refine JR_end ?_
  try simp only [cAp, nAp, aNl]
  refine J_seq ?_
  try simp only [cAp, nAp, aNl]
  refine J_seq ?_
  try simp only [cAp, nAp, aNl]
  refine Gq mixed [zR 0, zR 1] [] [1, 6, 7, 8, 9, 18] (fun _ => [zV 1 (.string key), zP 6 (nu1 0), zV 7 .nilIface, zS 8 none 0 0, zV 9 (.iface 243 (.pointer (some (er (atErr p base key at'))))), zB 18 true]) (fun _ => [(nu1 0, .cells #[nI 0, .string (ByteArray.mk #[]), nI 0, .slice none 0 0] 47 (0, 0))]) (fun _ => ?_)
  try simp only [cAp, nAp, aNl]
  refine cTt ?_
  try simp only [cAp, nAp, aNl]
  refine J_seq ?_
  try simp only [cAp, nAp, aNl]
  refine Gq mixed [zR 0, zR 1, .wr 2 [.o 0 none, .o 0 none, .o 0 none, .o 0 none] 0, zR 3] [(2, [0])] [1, 6, 7, 8] (fun _ => [zV 1 (.string key), zP 6 (nu1 0), zV 7 (.iface 243 (.pointer (some (er (atErr p base key at'))))), zS 8 none 0 0]) (fun _ => [(nu1 0, .cells #[nI 0, .string (ByteArray.mk #[]), nI 0, .slice none 0 0] 47 (0, 0))]) (fun _ => ?_)
  try simp only [cAp, nAp, aNl]
  refine J_return [[.o 0 none, .o 0 none, .o 0 none, .o 0 none], []] (.tuple #[.agg #[.int .i64 0, .string (ByteArray.mk #[]), .int .i64 0, .slice none 0 0], .iface 243 (.pointer (some (er (atErr p base key at'))))]) (by kernel_rfl) (fun a w s => ?_)
  exact .inl ⟨hae, s.retz (by simp) [0, 1, 2, 3] [] rfl rfl⟩
 ·have hnm : nameOk key = true := by
   cases hn : nameOk key with
   | true => rfl
   | false =>
    rw [atErr, if_pos hn] at hae
    cases hae
  have hvf := withinC_fine (key := key) (at' := at') hnm hLr
  have hwl := withinC_len L key at'
  have hwm : ∀ x ∈ withinC L key at', x.when.length ≤ 1000000 ∧ x.ops.length ≤ 1000000 := fun x hx => by
   obtain ⟨q, hq, rfl⟩ := mem_keyC (List.mem_filter.1 hx).1
   refine ⟨?_, by simp [oneC]⟩
   show q.when.length ≤ 1000000
   have := (hLr q hq).2
   omega
  refine ⟨_, _, _, hR, ?_⟩
  try simp only [cAp, nAp, aNl]
  refine Gr (id := 1) (rest := []) [zR 4, zR 5, zR 6, zR 7, zR 8] [1, 6, 7, 8, 9] (fun _ => [zV 1 (.string key), zP 6 (nu1 0), zV 7 .nilIface, zS 8 ua un uc, zV 9 .nilIface]) (fun _ => [(nu1 0, .cells #[nI 0, .string (ByteArray.mk #[]), nI 0, .slice none 0 0] 47 (0, 0))]) (fun _ => ?_)
  try simp only [cAp, nAp, aNl]
  refine JR_end ?_
  try simp only [cAp, nAp, aNl]
  refine J_seq ?_
  try simp only [cAp, nAp, aNl]
  refine J_seq ?_
  try simp only [cAp, nAp, aNl]
  refine Gq mixed [zR 0, zR 1] [] [1, 6, 7, 8, 9, 18] (fun _ => [zV 1 (.string key), zP 6 (nu1 0), zV 7 .nilIface, zS 8 ua un uc, zV 9 .nilIface, zB 18 false]) (fun _ => [(nu1 0, .cells #[nI 0, .string (ByteArray.mk #[]), nI 0, .slice none 0 0] 47 (0, 0))]) (fun _ => ?_)
  try simp only [cAp, nAp, aNl]
  refine cF ?_
  try simp only [cAp, nAp, aNl]
  refine J_skip ?_
  try simp only [cAp, nAp, aNl]
  refine J_seq ?_
  try simp only [cAp, nAp, aNl]
  refine jB mixed [(0, true), (1, true), (2, false), (3, true), (4, true), (5, false), (6, true)] [] ?_
  refine Gr (id := 4) (rest := [(2, false), (3, true), (4, true), (5, false), (6, true)]) [zR 0, zR 1] [6, 7, 21, 22] (fun _ => [zP 6 (nu1 0), zV 7 .nilIface, zV 21 (.string key), zS 22 ua un uc]) (fun _ => [(nu1 0, .cells #[nI 0, .string (ByteArray.mk #[]), nI 0, .slice none 0 0] 47 (0, 0))]) (fun _ => ?_)
  refine JR_callzp [] 21 #[.string key, .slice ua un uc] (some 23) zero_all (by kernel_rfl) (fun w S hG => ?_)
  refine (vOf (key := key) (hG.at 0 rfl) (hG.at 3 rfl) (by omega) (fun x hx => (hwm x hx).1) (fun x hx => (hwm x hx).2)).mono ?_
  rintro e2 w2 (⟨hc, _⟩ | ⟨hc, va, vn, vc, hR⟩)
  ·exact absurd hvf hc
  refine ⟨_, _, _, hR, ?_⟩
  try simp only [cAp, nAp, aNl]
  refine Gr (id := 4) (rest := []) [zR 3, zR 4, .wr 5 [.o 0 none, .o 0 none, .o 0 none, .o 0 none] 0, zR 6] [6, 7] (fun _ => [zP 6 (nu1 0), zV 7 .nilIface]) (fun _ => [(nu1 0, .cells #[nI ((Sx.valOf key (withinC L key at')).kind), .string ((Sx.valOf key (withinC L key at')).text), nI ((Sx.valOf key (withinC L key at')).n), .slice va vn vc] 47 (0, 0))]) (fun _ => ?_)
  try simp only [cAp, nAp, aNl]
  refine JR_end ?_
  try simp only [cAp, nAp, aNl]
  refine J_return [[.o 0 none, .o 0 none, .o 0 none, .o 0 none], []] (.tuple #[.agg #[.int .i64 ((Sx.valOf key (withinC L key at')).kind), .string ((Sx.valOf key (withinC L key at')).text), .int .i64 ((Sx.valOf key (withinC L key at')).n), .slice va vn vc], .nilIface]) (by kernel_rfl) (fun a w s => ?_)
  exact .inr ⟨hae, _, _, _, s.retz (by simp) [0, 1, 2, 3] [4] rfl rfl⟩
end Go.Proofs.YtpjkiomccpjboaaGreatDoor
end
section
namespace Go.Proofs.YtpjkiomccpjboaaGreatDoor
open Go Go.Sx
def putsAll (K : List ComT) : List PutT := K.flatMap fun c => putsOf c c.ops
theorem dotP_puts (c : ComT) (l : List OpT) : (putsOf c l).map dotP = l.map (dotOf c) := by
 rw [putsOf, List.map_map]
 rfl
theorem exiAt_zero {L : List PutT} {c : ComT} : (∀ j, j < c.ops.length → exiAt L c j = 0) ↔ ∀ o ∈ c.ops, dotOf c o ∉ L.map dotP := by
 constructor
 ·intro h o ho
  obtain ⟨j, hj⟩ := List.getElem?_of_mem ho
  have := h j (List.getElem?_eq_some_iff.1 hj).1
  simp only [exiAt, hj] at this
  split at this
  ·cases this
  ·assumption
 ·intro h j hj
  have h1 : c.ops[j]? = some c.ops[j] := List.getElem?_eq_getElem hj
  simp only [exiAt, h1]
  rw [if_neg (h _ (List.getElem_mem hj))]
structure CanPut (p : Nat) (base : List Int) (L : List PutT) (c : ComT) : Prop where
 com : (comFault c).code = 0
 len : c.when.length = p
 new : inL c.when base = false
 dots : ∀ o ∈ c.ops, dotOf c o ∉ L.map dotP
theorem scanF_zero {f : Nat → Nat} {n : Nat} (h : (scanF f n 0).code = 0) : ∀ j, j < n → f j = 0 := by
 intro j
 induction j using Nat.strongRecOn with
 | ind j ih =>
  intro hj
  rcases Nat.eq_zero_or_pos (f j) with h0 | h0
  ·exact h0
  ·have := (scanF_from n 0 j (Nat.zero_le _) fun i _ hi => ih i hi (by omega)).2 (by omega) (by omega)
   rw [this] at h
   exact h
theorem putFault_zero {p : Nat} {base : List Int} {L : List PutT} {c : ComT} : (putFault p base L c).code = 0 ↔ CanPut p base L c := by
 constructor
 ·intro h
  unfold putFault at h
  split at h
  ·exact absurd h ‹_›
  ·split at h
   ·cases h
   ·split at h
    ·cases h
    ·rename_i h1 h2 h3
     exact ⟨by simpa using h1, by simpa using h2, by simpa using h3, exiAt_zero.1 (scanF_zero h)⟩
 ·rintro ⟨h1, h2, h3, h4⟩
  rw [putFault, if_neg (by simp [h1]), if_neg (by simp [h2]), if_neg (by simp [h3]), (scanF_from c.ops.length 0 c.ops.length (Nat.zero_le _) fun j _ hj => exiAt_zero.2 h4 j hj).1 (by omega)]
theorem dots_own {c : ComT} (h : (comFault c).code = 0) : (c.ops.map (dotOf c)).Nodup := by
 rw [List.nodup_iff_pairwise_ne, List.pairwise_map]
 refine (right_pair h).imp fun {a b} hab he => ?_
 simp only [dotOf, DotT.mk.injEq] at he
 omega
theorem CanPut.nodup {p : Nat} {base : List Int} {L : List PutT} {c : ComT} (h : CanPut p base L c) (hn : (L.map dotP).Nodup) : ((L ++ putsOf c c.ops).map dotP).Nodup := by
 rw [List.map_append, dotP_puts, List.nodup_append]
 refine ⟨hn, dots_own h.com, fun x hx y hy he => ?_⟩
 subst he
 obtain ⟨o, ho, rfl⟩ := List.mem_map.1 hy
 exact h.dots o ho hx
end Go.Proofs.YtpjkiomccpjboaaGreatDoor
end
section
namespace Go.Proofs.YtpjkiomccpjboaaGreatDoor
open Go Go.Sx
abbrev opK5 : OpT := ⟨0, keyK, 2, ByteArray.mk #[], 5, false, []⟩
abbrev comK5 : ComT := ⟨[1], 0, [opK5]⟩
theorem opK5_fine : opErr opK5 ((1 : Nat) : Int) = 0 := by
 have h0 : (ByteArray.mk #[]).size = 0 := rfl
 rw [opRest (by simp) nameK (.inr (.inl rfl)) (by simp [shapeOk, h0]), if_neg (by simp only [List.length_nil, h0]; omega), if_neg (by simp [badDots])]
theorem comK5_fine : (comFault comK5).code = 0 := comFault_mk (by decide) (by simp) (by simp) (by simp) (by simp) (by simp) (fun o ho => by obtain rfl := List.mem_singleton.1 ho; exact opK5_fine) (by simp)
theorem comK5_put : (putFault 1 [0] [] comK5).code = 0 := putFault_zero.2 ⟨comK5_fine, rfl, by decide, by simp⟩
theorem atK {t : Int} (h0 : t = 0 ∨ t = 1) : atErr 1 [0] keyK [t] = 0 := by
 rcases h0 with rfl | rfl <;> (rw [atErr, if_neg (by rw [nameK]; decide)]; decide)
theorem valK5 : (Sx.valOf keyK (withinC [⟨[1], 0, opK5⟩] keyK [1])).n = 5 := by
 have h1 : withinC [⟨[1], 0, opK5⟩] keyK [1] = [comK5] := by
  simp [withinC, keyC, oneC, inL]
 have h2 : opsOf keyK [comK5] = [⟨opK5, ⟨0, 1, 0⟩, 1⟩] := by simp [opsOf, sortDone, opsRaw, allDone, firsts, doneOf, dotOf, wsum]
 rw [h1]
 simp [Sx.valOf, h2, kindOf, ofKey, kindL, sumN]
theorem valK0 : (Sx.valOf keyK (withinC [⟨[1], 0, opK5⟩] keyK [0])).kind = 0 := by
 have h1 : withinC [⟨[1], 0, opK5⟩] keyK [0] = [] := by
  simp [withinC, keyC, oneC, inL]
 rw [h1]
 simp [Sx.valOf, opsOf, sortDone, opsRaw, allDone, firsts, kindOf]
set_option maxHeartbeats 4000000 in
theorem stored {w : World} {S : Nat → Prop} {er : Nat → Addr} {eb : Nat → Array Value × TypeId} (hC : Rep w S .nilIface (dC er eb)) :
  Calls Tryz.prog 33 #[] w fun e w' => Ret [] (zero w) S w' e (.bool true) [] [] := by
 refine ep33 (args := []) (G := [(_, dC er eb)]) (by kernel_rfl) (.cons hC (.nil _ _)) ?_
 refine J_zero ?_
 refine Sq mixed [zR 0] [] [0] (fun _ => [zB 0 false]) (fun _ => []) (fun _ => ?_)
 refine J_seq ?_
 refine jB mixed [(0, false), (1, true), (2, true), (3, true), (4, true), (5, true)] [] ?_
 refine JR_callp [] 34 #[.int .i64 1] (some 9) (by kernel_rfl) (fun w S hG => ?_)
 refine (vNew (p := 1) (hG.at 0 rfl)).mono ?_
 rintro e1 w1 (⟨h, _⟩ | ⟨_, b, ba, mk, md, hR⟩)
 ·omega
 refine ⟨_, _, _, hR, ?_⟩
 try simp only [cAp, nAp, aNl]
 refine Gr (id := 1) (rest := []) [zR 1, zR 2, zR 3, zR 4, zR 5] [0, 1, 2] (fun _ => [zB 0 false, zP 1 b, zV 2 .nilIface]) (fun _ => []) (fun _ => ?_)
 refine JR_end ?_
 refine J_seq ?_
 refine Sq mixed [zR 0, zR 1, zR 2, zR 3, zR 4, zR 5] [] [0, 1, 17] (fun _ => [zB 0 false, zP 1 b, zB 17 false]) (fun _ => []) (fun _ => ?_)
 refine cF ?_
 refine J_skip ?_
 refine J_seq ?_
 refine jB mixed [(0, true), (1, false), (2, true), (3, false), (4, true), (5, false), (6, true)] [] ?_
 refine Gr (id := 4) (rest := [(5, false), (6, true)]) [zR 0, .wr 1 [] 0, zR 2, .wr 3 [] 0, zR 4] [0, 1, 18, 22] (fun nu1 => [zB 0 false, zP 1 b, zP 18 b, zV 22 (.agg #[.slice (sA (nu1 0) 0) 1 1, nI 0, .slice (sA (nu1 1) 0) 1 1])]) (fun nu1 => [(nu1 0, .cells #[nI 1] 3 (0, 0)), (nu1 1, .cells #[nI 0, .string (ByteArray.mk #[107]), nI 2, .string (ByteArray.mk #[]), nI 5, .bool false, .slice none 0 0] 24 (0, 0))]) (fun nu1 => ?_)
 refine JR_data (size := 1) 0 eI [(1 : Int)] 1 rfl (by kernel_rfl) (by decide) (by intro x _; rfl) (by simp) ⟨.inl ⟨rfl, rfl⟩, trivial⟩ ?_
 refine JR_data (size := 7) 0 eOp [opK5] 1 rfl (by kernel_rfl) (by decide) (by intro x _; rfl) (by simp) ⟨.inl ⟨rfl, rfl⟩, ⟨.inl ⟨rfl, rfl⟩, ⟨.inl ⟨rfl, rfl⟩, ⟨.inl ⟨rfl, rfl⟩, ⟨.inl ⟨rfl, rfl⟩, ⟨.inl ⟨rfl, rfl⟩, ⟨.inr (.inr ⟨_, _, _, rfl, rfl⟩), trivial⟩⟩⟩⟩⟩⟩⟩ ?_
 refine JR_call [] [0, 1, 2, 3] 36 #[.pointer (some (⟨b, 0, none⟩)), .agg #[.slice (some (⟨nu1 0, 0, none⟩)) 1 1, .int .i64 0, .slice (some (⟨nu1 1, 0, none⟩)) 1 1]] (some 23) (by kernel_rfl) (by kernel_rfl) (by decide) (fun w S M hP hG _ => ?_)
 have hm0 : MapG (MapKept.IsKey .string) #[] (strG [] fun _ => .nilIface) := (MapG.empty _).congr fun k => (strG_nil _ k).symm
 refine (vPut (p := 1) (base := [0]) (L := []) (ks := []) (F := fun _ => .nilIface) (c := comK5) (hG.at 0 rfl) hP (hG.at 1 rfl) (by decide) rfl (hG.at 2 rfl) (hG.at 3 rfl) (by simp) (by simp) (by simp) (by simp) hm0 (MapKept.stamped_empty 0) (by simp) (by simp [keyC])).mono ?_
 rintro e2 w2 (⟨hf, _⟩ | ⟨_, es1, ck1, ks1, F1, hR, hm1, hst1, hnd1, hiff1⟩)
 ·exact absurd comK5_put hf
 refine ⟨_, _, _, hR, ?_⟩
 have hLr : ∀ q ∈ ([] ++ putsOf comK5 comK5.ops : List PutT), (comFault (oneC q)).code = 0 ∧ q.when.length = 1 := fun q hq => by
  obtain rfl := List.mem_singleton.1 hq
  exact ⟨comK5_fine, rfl⟩
 try simp only [cAp, nAp, aNl]
 refine Gr (id := 4) (rest := []) [zR 6] [0, 1, 3] (fun _ => [zB 0 false, zP 1 b, zV 3 .nilIface]) (fun _ => []) (fun _ => ?_)
 try simp only [cAp, nAp, aNl]
 refine JR_end ?_
 try simp only [cAp, nAp, aNl]
 refine J_seq ?_
 try simp only [cAp, nAp, aNl]
 refine jB mixed [(0, true), (1, false), (2, false), (3, true), (4, true), (5, true), (6, false), (7, false), (8, true)] [] ?_
 refine Gr (id := 5) (rest := [(2, false), (3, true), (4, true), (5, true), (6, false), (7, false), (8, true)]) [zR 0, .wr 1 [] 0] [0, 1, 3, 25, 26] (fun nu2 => [zB 0 false, zP 1 b, zV 3 .nilIface, zP 25 b, zS 26 (sA (nu2 0) 0) 1 1]) (fun nu2 => [(nu2 0, .cells #[nI 1] 3 (0, 0))]) (fun nu2 => ?_)
 refine JR_data (size := 1) 0 eI [(1 : Int)] 1 rfl (by kernel_rfl) (by decide) (by intro x _; rfl) (by simp) ⟨.inl ⟨rfl, rfl⟩, trivial⟩ ?_
 refine JR_callz [] [0, 1, 2, 3] 38 #[.pointer (some (⟨b, 0, none⟩)), .string (ByteArray.mk #[107]), .slice (some (⟨nu2 0, 0, none⟩)) 1 1] (some 27) zero_all (by kernel_rfl) (by kernel_rfl) (by decide) (fun w S M hP hG _ => ?_)
 refine (vRead (p := 1) (base := [0]) (at' := [1]) (key := keyK) (hG.at 0 rfl) hP (hG.at 1 rfl) (by decide) rfl (hG.at 4 rfl) (by simp) (by simp [putsOf]) hLr hm1 hnd1 hiff1).mono ?_
 rintro e3 w3 (⟨h, _⟩ | ⟨_, ua, un, uc, hR⟩)
 ·exact absurd (atK (.inr rfl)) h
 refine ⟨_, _, _, hR, ?_⟩
 try simp only [cAp, nAp, aNl]
 refine Gr (id := 5) (rest := []) [zR 3, zR 4, zR 5, .wr 6 [] 0, .wr 7 [.o 0 none, .o 0 none, .o 0 none, .o 0 none] 0, zR 8] [0, 1, 3, 4, 5] (fun nu3 => [zB 0 false, zP 1 b, zV 3 .nilIface, zP 4 (nu3 0), zV 5 .nilIface]) (fun nu3 => [(nu3 0, .cells #[nI 2, .string ((Sx.valOf keyK (withinC (putsOf comK5 [opK5]) keyK [1])).text), nI 5, .slice ua un uc] 47 (0, 0))]) (fun nu3 => ?_)
 try simp only [cAp, nAp, aNl]
 refine JR_end ?_
 try simp only [cAp, nAp, aNl]
 refine J_seq ?_
 try simp only [cAp, nAp, aNl]
 refine jB mixed [(0, true), (1, false), (2, false), (3, true), (4, true), (5, true), (6, false), (7, false), (8, true)] [] ?_
 refine Gr (id := 6) (rest := [(2, false), (3, true), (4, true), (5, true), (6, false), (7, false), (8, true)]) [zR 0, .wr 1 [] 0] [0, 3, 4, 5, 31, 32] (fun nu4 => [zB 0 false, zV 3 .nilIface, zP 4 (nu3 0), zV 5 .nilIface, zP 31 b, zS 32 (sA (nu4 0) 0) 1 1]) (fun nu4 => [(nu3 0, .cells #[nI 2, .string ((Sx.valOf keyK (withinC (putsOf comK5 [opK5]) keyK [1])).text), nI 5, .slice ua un uc] 47 (0, 0)), (nu4 0, .cells #[nI 0] 3 (0, 0))]) (fun nu4 => ?_)
 refine JR_data (size := 1) 1 eI [(0 : Int)] 1 rfl (by kernel_rfl) (by decide) (by intro x _; rfl) (by simp) ⟨.inl ⟨rfl, rfl⟩, trivial⟩ ?_
 refine JR_callz [] [0, 1, 2, 3] 38 #[.pointer (some (⟨b, 0, none⟩)), .string (ByteArray.mk #[107]), .slice (some (⟨nu4 0, 0, none⟩)) 1 1] (some 33) zero_all (by kernel_rfl) (by kernel_rfl) (by decide) (fun w S M hP hG _ => ?_)
 refine (vRead (p := 1) (base := [0]) (at' := [0]) (key := keyK) (hG.at 0 rfl) hP (hG.at 1 rfl) (by decide) rfl (hG.at 6 rfl) (by simp) (by simp [putsOf]) hLr hm1 hnd1 hiff1).mono ?_
 rintro e4 w4 (⟨h, _⟩ | ⟨_, va, vn, vc, hR⟩)
 ·exact absurd (atK (.inl rfl)) h
 refine ⟨_, _, _, hR, ?_⟩
 have hv5 : (Sx.valOf keyK (withinC ([] ++ putsOf comK5 comK5.ops) keyK [1])).n = 5 := valK5
 have hv0 : (Sx.valOf keyK (withinC ([] ++ putsOf comK5 comK5.ops) keyK [0])).kind = 0 := valK0
 try simp only [cAp, nAp, aNl]
 refine Gr (id := 6) (rest := []) [zR 3, zR 4, zR 5, .wr 6 [] 0, .wr 7 [.o 1 none, .o 1 none, .o 1 none, .o 1 none] 0, zR 8] [0, 3, 4, 5, 6, 7] (fun nu5 => [zB 0 false, zV 3 .nilIface, zP 4 (nu3 0), zV 5 .nilIface, zP 6 (nu5 0), zV 7 .nilIface]) (fun nu5 => [(nu3 0, .cells #[nI 2, .string ((Sx.valOf keyK (withinC (putsOf comK5 [opK5]) keyK [1])).text), nI 5, .slice ua un uc] 47 (0, 0)), (nu5 0, .cells #[nI 0, .string ((Sx.valOf keyK (withinC (putsOf comK5 [opK5]) keyK [0])).text), nI 0, .slice va vn vc] 47 (0, 0))]) (fun nu5 => ?_)
 try simp only [cAp, nAp, aNl]
 refine JR_end ?_
 try simp only [cAp, nAp, aNl]
 refine J_seq ?_
 try simp only [cAp, nAp, aNl]
 refine Gq mixed [zR 0, zR 1, zR 2, zR 3, zR 4, zR 5, zR 6, zR 7, zR 8, zR 9, zR 10, zR 11, .rd 12 [.o 0 none] 0 0, zR 13, zR 14, zR 15, zR 16, .rd 17 [.o 1 none] 0 0, zR 18, zR 19, zR 20] [] [0] (fun _ => [zB 0 true]) (fun _ => [(nu3 0, .cells #[nI 2, .string ((Sx.valOf keyK (withinC (putsOf comK5 [opK5]) keyK [1])).text), nI 5, .slice ua un uc] 47 (0, 0)), (nu5 0, .cells #[nI 0, .string ((Sx.valOf keyK (withinC (putsOf comK5 [opK5]) keyK [0])).text), nI 0, .slice va vn vc] 47 (0, 0))]) (fun _ => ?_)
 try simp only [cAp, nAp, aNl]
 refine J_return [[]] (.bool true) (by kernel_rfl) (fun a w s => ?_)
 exact s.retz (by simp) [] [] rfl rfl
end Go.Proofs.YtpjkiomccpjboaaGreatDoor
end
section
namespace Go.Sx
open Go
structure PutsB where
 i : Int
 L : List PutT
 es : Array MapEntry
 clock : Nat
 ks : List ByteArray
 F : ByteArray → Value
end Go.Sx
namespace Go.Proofs.YtpjkiomccpjboaaGreatDoor
open Go Go.Sx
structure KeptA (p : Nat) (l : List ComT) (K : List ComT) : Prop where
 mem : ∀ c ∈ K, c ∈ l
 ok : ∀ c ∈ K, (comFault c).code = 0 ∧ c.when.length = p ∧ inL c.when (List.replicate p 0) = false
 nodup : ((putsAll K).map dotP).Nodup
theorem ret_drop {M : List Nat} {w : World} {S : Nat → Prop} {w' : World} {e : Ending} {v : Value} {C : List Chunk} {G : List (Value × D)} (h : Ret M w S w' e v C G) : Ret M w S w' e v C [] := by
 obtain ⟨fps, h1, h2, h3, _⟩ := h.gh
 exact ⟨h.ret, h.fr, fps, h1, h2, h3, fun x hx => by cases hx⟩
theorem mem_putsAll {K : List ComT} {q : PutT} (h : q ∈ putsAll K) : ∃ c ∈ K, ∃ o ∈ c.ops, q = ⟨c.when, c.place, o⟩ := by
 obtain ⟨c, hc, hq⟩ := List.mem_flatMap.1 h
 obtain ⟨o, ho, rfl⟩ := List.mem_map.1 hq
 exact ⟨c, hc, o, ho, rfl⟩
theorem KeptA.right {p : Nat} {l K : List ComT} (h : KeptA p l K) {q : PutT} (hq : q ∈ putsAll K) : (comFault (oneC q)).code = 0 ∧ q.when.length = p := by
 obtain ⟨c, hc, o, ho, rfl⟩ := mem_putsAll hq
 have h1 := h.ok c hc
 exact ⟨PartOf.fault (c' := oneC ⟨c.when, c.place, o⟩) (c := c) ⟨rfl, rfl, by simp [oneC], List.singleton_sublist.2 ho⟩ h1.1, h1.2.1⟩
theorem KeptA.key {p : Nat} {l K : List ComT} (h : KeptA p l K) {q : PutT} (hq : q ∈ putsAll K) : q.op.key.size ≤ 1000000 := by
 obtain ⟨c, hc, o, ho, rfl⟩ := mem_putsAll hq
 have h1 := (opErr_fine (right_ops (h.ok c hc).1 o ho)).1
 show o.key.size ≤ 1000000
 simp [nameOk] at h1
 omega
end Go.Proofs.YtpjkiomccpjboaaGreatDoor
end
section
namespace Go.Sx
open Go
section fork
variable {P : Program} {ops : Array Oper} {Q : Exit → Act → World → Prop}
theorem yields_det {us us' : List (Nat × Obj)} {o : Oper} {v v' : Value} {a : Act} {w : World} (h : YieldsIf P ops (Hp us) o v a) (h' : YieldsIf P ops (Hp us') o v' a) (hw : Hp us w) (hw' : Hp us' w) : v = v' := by
 rcases h with ⟨h1, h2⟩ | ⟨h1, h2⟩ <;> rcases h' with ⟨h3, h4⟩ | ⟨h3, h4⟩
 ·have := (h2 w hw).symm.trans (h4 w hw')
  simpa using this
 ·rw [h1] at h3; cases h3
 ·rw [h1] at h3; cases h3
 ·rw [h2, h4]
def planF (ops : Array Oper) : Nat → List (Nat × Bool) → List (Nat × Bool) → Array Bool → Bool
 | 0, (i, false) :: r1, (j, false) :: r2, listed => Region.ready .any ops listed == [i, j] && planOk ops r1 (listed.setIfInBounds i true) && planOk ops r2 (listed.setIfInBounds j true)
 | m + 1, (i, true) :: r1, (j, true) :: r2, listed => Nat.beq i j && (Region.ready .any ops listed).contains i && Region.free .any ops listed i && planF ops m r1 r2 (listed.setIfInBounds i true)
 | _, _, _, _ => false
theorem unlisted_after {listed : Array Bool} {i k : Nat} (hk : (listed.setIfInBounds i true).getD k true = false) : i ≠ k ∧ listed.getD k true = false := by
 have hik : i ≠ k := by
  rintro rfl
  rcases Nat.lt_or_ge i listed.size with h' | h'
  ·simp [h'] at hk
  ·simp [h'] at hk
 rw [getD_set_ne true hik] at hk
 exact ⟨hik, hk⟩
theorem step_write (hs : Region.noSelect ops = true) (hQ : ∀ c a d v w, Q (.panic c) (a.put d v) w → Q (.panic c) a w) {B : Nat} (W0 : Nat → Option (List Nat)) {i : Nat} {rest : List (Nat × Bool)} {W : List (Nat × List Nat)} {listed : Array Bool} {a : Act} {w : World}
  (hr : i ∈ Region.ready .any ops listed) (hp : planOk ops rest (listed.setIfInBounds i true) = true) (hdown : Down .any ops listed) (hW : ∀ j, listed.getD j true = false → W.lookup j = W0 j) (h : PW P ops Q B true ((i, false) :: rest) W a w) :
  wpOp P ops Q i (fun a' w' => BG B (W0 i) w w' ∧ wpAnyG P .any ops Q B W0 rest.length (listed.setIfInBounds i true) a' w') a w := by
 have hun : listed.getD i true = false := (mem_ready.1 hr).1
 refine wpOp_mono (fun a' w' hh => ⟨?_, wpAnyG_of_plan hs hQ W0 rest (W.filter (·.1 != i)) _ _ _ hp (hdown.list hr) (fun k hk => ?_) hh.2⟩) h
 ·rw [← hW i hun]; exact hh.1 rfl
 ·obtain ⟨hik, hk2⟩ := unlisted_after hk
  rw [lookup_filter_ne i k (Ne.symm hik)]
  exact hW k hk2
theorem wpAnyG_of_fork (hs : Region.noSelect ops = true) (hQ : ∀ c a d v w, Q (.panic c) (a.put d v) w → Q (.panic c) a w) {B : Nat} (W0 : Nat → Option (List Nat)) :
  ∀ (m : Nat) (q1 q2 : List (Nat × Bool)) (W : List (Nat × List Nat)) (listed : Array Bool) (a : Act) (w : World), planF ops m q1 q2 listed = true → q2.length = q1.length → Down .any ops listed →
   (∀ j, listed.getD j true = false → W.lookup j = W0 j) → PW P ops Q B true q1 W a w → PW P ops Q B true q2 W a w → wpAnyG P .any ops Q B W0 q1.length listed a w
 | 0, (i, false) :: r1, (j, false) :: r2, W, listed, a, w, hp, hl, hdown, hW, h1, h2 => by
  simp only [planF, Bool.and_eq_true, beq_iff_eq] at hp
  obtain ⟨⟨hr, hp1⟩, hp2⟩ := hp
  have hi : i ∈ Region.ready .any ops listed := by rw [hr]; simp
  have hj : j ∈ Region.ready .any ops listed := by rw [hr]; simp
  have hl2 : r2.length = r1.length := by simpa using hl
  refine ⟨fun h0 => absurd h0 (by rw [hr]; simp), fun k hk => ?_⟩
  rw [hr] at hk
  rcases List.mem_cons.1 hk with rfl | hk
  ·exact step_write hs hQ W0 hi hp1 hdown hW h1
  ·obtain rfl := List.mem_singleton.1 hk
   have := step_write hs hQ W0 hj hp2 hdown hW h2
   rw [hl2] at this
   exact this
 | m + 1, (i, true) :: r1, (j, true) :: r2, W, listed, a, w, hp, hl, hdown, hW, h1, h2 => by
  simp only [planF, Bool.and_eq_true] at hp
  obtain ⟨⟨⟨hij, hr⟩, hf⟩, hp'⟩ := hp
  obtain rfl := Nat.eq_of_beq_eq_true hij
  obtain ⟨o, v, us, ho, hy, hS, hd, hrest⟩ := h1
  obtain ⟨o', v', us', ho', hy', hS', _, hrest'⟩ := h2
  rw [ho] at ho'
  cases ho'
  obtain rfl := yields_det hy hy' hS hS'
  refine wpAnyG_first (us := us) ho (Region.noSelect_spec hs) (fun c a w => hQ c a _ v w) r1.length listed a w ?_ hdown (by simpa using hr) hy hS ?_
  ·intro k ok hok hki hun hno
   refine ⟨Region.free_spec ho hf k ok hok hki hun hno, fun l hl => ?_⟩
   rw [← hW k hun] at hl
   exact hd rfl _ (mem_of_lookup hl)
  ·exact wpAnyG_of_fork hs hQ W0 m r1 r2 W _ _ _ hp' (by simpa using hl) (hdown.list (by simpa using hr)) (fun k hk => hW k (unlisted_after hk).2) hrest hrest'
 | 0, [], _, _, _, _, _, hp, _, _, _, _, _ => by simp [planF] at hp
 | 0, (_, true) :: _, _, _, _, _, _, hp, _, _, _, _, _ => by simp [planF] at hp
 | 0, (_, false) :: _, [], _, _, _, _, hp, _, _, _, _, _ => by simp [planF] at hp
 | 0, (_, false) :: _, (_, true) :: _, _, _, _, _, hp, _, _, _, _, _ => by simp [planF] at hp
 | _ + 1, [], _, _, _, _, _, hp, _, _, _, _, _ => by simp [planF] at hp
 | _ + 1, (_, false) :: _, _, _, _, _, _, hp, _, _, _, _, _ => by simp [planF] at hp
 | _ + 1, (_, true) :: _, [], _, _, _, _, hp, _, _, _, _, _ => by simp [planF] at hp
 | _ + 1, (_, true) :: _, (_, false) :: _, _, _, _, _, hp, _, _, _, _, _ => by simp [planF] at hp
end fork
end Go.Sx
end
section
namespace Go.Sx
open Go Go.MapKept
def rngOf (n : Nat) (ops : Array Oper) (E : Env) (i : Nat) : Option (TypeId × Value × Option Tmp) :=
 match ops[i]? with
 | none => none
 | some o => if dstOk n o.dst then match o.guard with
  | some _ => none
  | none => match o.op with
   | .range t x => match opsOk E none [x] with
    | some [] => some (t, rho E x, o.dst)
    | _ => none
   | _ => none
  else none
def nxtOf (n : Nat) (ops : Array Oper) (E : Env) (i : Nat) : Option (Value × Bool × Option Tmp) :=
 match ops[i]? with
 | none => none
 | some o => if dstOk n o.dst then match o.guard with
  | some _ => none
  | none => match o.op with
   | .next x b => match opsOk E none [x] with
    | some [] => some (rho E x, b, o.dst)
    | _ => none
   | _ => none
  else none
def entOf (n : Nat) (ops : Array Oper) (E : Env) (i : Nat) : Option (Value × Option Tmp) :=
 match ops[i]? with
 | none => none
 | some o => if dstOk n o.dst then match o.guard with
  | some _ => none
  | none => match o.op with
   | .entry x => match opsOk E none [x] with
    | some [] => some (rho E x, o.dst)
    | _ => none
   | _ => none
  else none
section run
variable {P : Program}
theorem run_range_at {w : World} {t k e : TypeId} {mb : Nat} {es : Array MapEntry} {clock : Nat} (ht : P.underlying t = some (.map k e)) (hb : w.heap[mb]? = some (.map es clock)) :
  (Instr.range t (.map (some mb))).run P w = .ok (.pointer (some ⟨w.heap.size, 0, none⟩)) { w with heap := w.heap.push (.mapIter (some mb) clock #[] clock) } := run_range_map w t k e mb es clock ht hb
theorem run_next_at {w : World} (ty : TypeId) {bi bm since c0 clock : Nat} {seen : Array Nat} {es : Array MapEntry} (hi : w.heap[bi]? = some (.mapIter (some bm) since seen c0)) (hb : w.heap[bm]? = some (.map es clock)) (hold : ∀ x ∈ es.toList, x.born < since) (hsc : since ≤ c0) :
  ((leftOf es seen).size = 0 ∧ (Instr.next (.pointer (some ⟨bi, 0, none⟩)) false ty).run P w = .ok (.tuple #[.bool false]) w) ∨
  ∃ e ∈ (leftOf es seen).toList, ∃ m : Bool, (Instr.next (.pointer (some ⟨bi, 0, none⟩)) false ty).run P w = .ok (.tuple #[.bool true, e.key, e.val]) { w with heap := w.heap.setIfInBounds bi (.mapIter (some bm) since (seen.push e.born) clock), drawn := if m then w.drawn + 1 else w.drawn } := by
 simp only [Instr.next, getObj, Sem.run_bind, Sem.run, hi, hb, Result.andThen, next_test_false seen es since c0 hold hsc, Bool.false_eq_true, if_false]
 unfold leftOf
 have hmem : ∀ x ∈ (Array.filter (fun e => !seen.contains e.born) es).toList, x.born < since := fun x hx => hold x (by simp at hx ⊢; exact hx.1)
 generalize Array.filter (fun e => !seen.contains e.born) es = L at hmem ⊢
 have e1 : L.filter (fun x => decide (x.born < since)) = L := Array.filter_eq_self.2 (fun x hx => by simpa using hmem x (by simpa using hx))
 have e2 : L.filter (fun x => decide (x.born ≥ since)) = #[] := by
  rw [Array.filter_eq_empty_iff]
  intro x hx
  have := hmem x (by simpa using hx)
  simp
  omega
 simp only [e1, e2, Array.append_empty]
 by_cases h0 : L.size = 0
 ·left
  have : L = #[] := Array.eq_empty_of_size_eq_zero h0
  subst this
  refine ⟨rfl, ?_⟩
  simp [choose, Sem.run, Question.forced]
 ·right
  have hne : L.isEmpty = false := by simp [Array.isEmpty, h0]
  simp only [hne, Bool.false_eq_true, if_false, Array.empty_append, Array.size_map]
  have hch : ∃ (j : Nat) (m : Bool), j < L.size ∧ (choose (Question.mapNext L.size)).run P w = .ok j { w with drawn := if m then w.drawn + 1 else w.drawn } := by
   by_cases hf : L.size ≤ 1
   ·exact ⟨0, false, by omega, by simp [choose, Sem.run, Question.forced, hf]⟩
   ·exact ⟨_, true, Nat.mod_lt _ (by omega), by
     simp only [choose, Sem.run, Question.forced, decide_eq_true_eq, hf, if_false, Question.cut]
     rfl⟩
  obtain ⟨j, m, hj, hrun⟩ := hch
  refine ⟨L[j], by simp, m, ?_⟩
  have hset : ∀ (o' : Obj) (dr : Nat), (setObj bi o').run P { w with drawn := dr } = .ok () { w with heap := w.heap.setIfInBounds bi o', drawn := dr } := fun o' dr => by
   simp only [setObj, Sem.run, hi]
  simp only [hrun, Array.getElem?_map, Array.getElem?_eq_getElem hj, Option.map_some, Sem.run_bind, hset, Result.andThen]
  rfl
theorem run_entry_at {w : World} {bi bm since clock : Nat} {seen : Array Nat} {es : Array MapEntry} {e : MapEntry} (hi : w.heap[bi]? = some (.mapIter (some bm) since (seen.push e.born) clock)) (hb : w.heap[bm]? = some (.map es clock)) (he : e ∈ es.toList) (hn : (es.toList.map (·.born)).Nodup) :
  (Instr.entry (.pointer (some ⟨bi, 0, none⟩))).run P w = .ok (.tuple #[e.key, e.val]) w := by
 have hf : es.find? (·.born == e.born) = some e := by rw [← Array.find?_toList]; exact find_born e es.toList hn he
 simp only [Instr.entry, getObj, Sem.run_bind, Sem.run, hi, hb, Result.andThen, Array.back?_push, bne_self_eq_false, Bool.false_eq_true, if_false, hf]
 rfl
end run
section rules
variable {P : Program} {f : Func} {R : Act → World → Prop} {n : Nat} {k : List Itm} {E : Env} {h r : List (Nat × Obj)} {F : List (List Nat × World)} {Y : Ghost}
theorem rngOf_sound {ops : Array Oper} {i : Nat} {xv : Value} {t : TypeId} {dst : Option Tmp} (he : rngOf n ops E i = some (t, xv, dst))
  {a : Act} {w : World} {fps : List (List Nat)} (s : StF n E h r F Y a w fps) {K : Act → World → Prop}
  (H : ∃ v' w', (Instr.range t xv).run P w = .ok v' w' ∧ ∀ a', Ag n (E.put dst (.val v')) a' → K a' w') : wpOp P ops (wpK P f R k) i K a w := by
 unfold rngOf at he
 split at he
 ·cases he
 rename_i o ho
 split at he
 case isFalse => cases he
 rename_i hd
 split at he
 ·cases he
 rename_i hg
 split at he
 case h_2 => cases he
 rename_i t' x hc
 split at he
 case h_2 => cases he
 rename_i hq
 simp only [Option.some.injEq, Prod.mk.injEq] at he
 obtain ⟨rfl, rfl, rfl⟩ := he
 have e1 : a.eval x = rho E x := opsOk_sound s.ag (fun c w h => by cases h) _ _ hq trivial x (by simp)
 obtain ⟨v', w', hrun, hk⟩ := H
 unfold wpOp
 simp only [ho]
 rw [if_pos (by simp [Region.wanted, hg])]
 refine .inl ?_
 unfold Oper.wp execOp
 simp only [hc, Sem.run_bind, Sem.run_pure, Result.andThen_ok, e1, hrun]
 exact hk _ (s.ag.put hd (.val v'))
theorem nxtOf_sound {ops : Array Oper} {i : Nat} {xv : Value} {b : Bool} {dst : Option Tmp} (he : nxtOf n ops E i = some (xv, b, dst))
  {a : Act} {w : World} {fps : List (List Nat)} (s : StF n E h r F Y a w fps) {K : Act → World → Prop}
  (H : ∀ ty, ∃ v' w', (Instr.next xv b ty).run P w = .ok v' w' ∧ ∀ a', Ag n (E.put dst (.val v')) a' → K a' w') : wpOp P ops (wpK P f R k) i K a w := by
 unfold nxtOf at he
 split at he
 ·cases he
 rename_i o ho
 split at he
 case isFalse => cases he
 rename_i hd
 split at he
 ·cases he
 rename_i hg
 split at he
 case h_2 => cases he
 rename_i x b' hc
 split at he
 case h_2 => cases he
 rename_i hq
 simp only [Option.some.injEq, Prod.mk.injEq] at he
 obtain ⟨rfl, rfl, rfl⟩ := he
 have e1 : a.eval x = rho E x := opsOk_sound s.ag (fun c w h => by cases h) _ _ hq trivial x (by simp)
 obtain ⟨v', w', hrun, hk⟩ := H o.type
 unfold wpOp
 simp only [ho]
 rw [if_pos (by simp [Region.wanted, hg])]
 refine .inl ?_
 unfold Oper.wp execOp
 simp only [hc, Sem.run_bind, Sem.run_pure, Result.andThen_ok, e1, hrun]
 exact hk _ (s.ag.put hd (.val v'))
theorem entOf_sound {ops : Array Oper} {i : Nat} {xv : Value} {dst : Option Tmp} (he : entOf n ops E i = some (xv, dst))
  {a : Act} {w : World} {fps : List (List Nat)} (s : StF n E h r F Y a w fps) {K : Act → World → Prop}
  (H : ∃ v' w', (Instr.entry xv).run P w = .ok v' w' ∧ ∀ a', Ag n (E.put dst (.val v')) a' → K a' w') : wpOp P ops (wpK P f R k) i K a w := by
 unfold entOf at he
 split at he
 ·cases he
 rename_i o ho
 split at he
 case isFalse => cases he
 rename_i hd
 split at he
 ·cases he
 rename_i hg
 split at he
 case h_2 => cases he
 rename_i x hc
 split at he
 case h_2 => cases he
 rename_i hq
 simp only [Option.some.injEq, Prod.mk.injEq] at he
 obtain ⟨rfl, rfl⟩ := he
 have e1 : a.eval x = rho E x := opsOk_sound s.ag (fun c w h => by cases h) _ _ hq trivial x (by simp)
 obtain ⟨v', w', hrun, hk⟩ := H
 unfold wpOp
 simp only [ho]
 rw [if_pos (by simp [Region.wanted, hg])]
 refine .inl ?_
 unfold Oper.wp execOp
 simp only [hc, Sem.run_bind, Sem.run_pure, Result.andThen_ok, e1, hrun]
 exact hk _ (s.ag.put hd (.val v'))
theorem src_acc {a : Act} {w : World} {fps : List (List Nat)} (s : StF n E h r F Y a w fps) (p : Nat) {a0 : Option Addr} {m c e size : Nat} {rows : List (List D)} (hp : Y.C[p]? = some (cAcc (.slice a0 m c) e size rows)) : SrcAt w (Sd Y h fps) a0 m size rows := by
 obtain ⟨fp, hfp, _, hP⟩ := s.gh.chs.at hp
 rcases hP with ⟨rfl, h2, _⟩ | ⟨g, cap, cur, xs, h2, _, h3, h4, h5⟩
 ·cases h2
  exact ⟨rfl, .inl ⟨rfl, rfl⟩⟩
 ·cases h2
  refine ⟨rfl, .inr ⟨_, xs, rfl, h4.len, fun j u hu => ?_, h5⟩⟩
  have hadd : (⟨g, 0, none⟩ : Addr).add j = ⟨g, 0 + j, none⟩ := by unfold Addr.add; split <;> simp_all
  rw [hadd]
  refine cell_of rfl h3 rfl ?_
  rw [Nat.zero_add, h4.at]
  ·exact hu
  ·rw [← h4.len]
   exact (List.getElem?_eq_some_iff.1 hu).1
theorem JR_range {id L0 i : Nat} {ck : Bool} {Wp : List (Nat × List Nat)} {rest : List (Nat × Bool)} (hn : Hn) (mb t kt et : Nat) (dst : Option Tmp) {es : Array MapEntry} {clock : Nat}
  (he : rngOf n (rgOf f id) E i = some (t, .map (some mb), dst)) (hok : (!ck || okW L0 (Wp.lookup i) []) = true) (ht : P.underlying t = some (.map kt et)) (hp : hn.get h r = some (mb, .map es clock))
  (A : ∀ bi, JR P f R n (rgOf f id) L0 ck rest (Wp.filter (·.1 != i)) k (E.put dst (.val (.pointer (some ⟨bi, 0, none⟩)))) (h ++ [(bi, .mapIter (some mb) clock #[] clock)]) r F Y) :
  JR P f R n (rgOf f id) L0 ck ((i, false) :: rest) Wp k E h r F Y := by
 intro BB Hd fps a w s hH hR hN hW
 simp only [PW]
 have hb : w.heap[mb]? = some (.map es clock) := s.own.get hp
 refine rngOf_sound he s ⟨_, _, run_range_at ht hb, fun a' hA => ?_⟩
 have d : Did h (h ++ [(w.heap.size, .mapIter (some mb) clock #[] clock)]) [] w { w with heap := w.heap.push (.mapIter (some mb) clock #[] clock) } := did_new _
 have hO := own_new s.own (.mapIter (some mb) clock #[] clock)
 refine ⟨fun hck => okW_sound d (by simpa [hck] using hok) hN, ?_⟩
 rw [filter_idsW, ← idsW_did hR.len d _ (okWp_filter hW)]
 exact A w.heap.size BB Hd fps a' _ (s.go hA hO d.dd) hH (hR.did d) (hN.did hR.size d) (okWp_filter hW)
theorem JR_next {id L0 i : Nat} {ck : Bool} {Wp : List (Nat × List Nat)} {rest : List (Nat × Bool)} (p bi : Nat) (hn : Hn) (mb : Nat) (dst : Option Tmp) {es : Array MapEntry} {clock since c0 : Nat} {seen : Array Nat}
  (he : nxtOf n (rgOf f id) E i = some (.pointer (some ⟨bi, 0, none⟩), false, dst)) (hok : (!ck || okW L0 (Wp.lookup i) [p]) = true) (hp : h[p]? = some (bi, .mapIter (some mb) since seen c0)) (hm : hn.get h r = some (mb, .map es clock))
  (hold : ∀ x ∈ es.toList, x.born < since) (hsc : since ≤ c0)
  (A : (leftOf es seen).size = 0 → JR P f R n (rgOf f id) L0 ck rest (Wp.filter (·.1 != i)) k (E.put dst (.val (.tuple #[.bool false]))) h r F Y)
  (B : ∀ e ∈ (leftOf es seen).toList, JR P f R n (rgOf f id) L0 ck rest (Wp.filter (·.1 != i)) k (E.put dst (.val (.tuple #[.bool true, e.key, e.val]))) (h.set p (bi, .mapIter (some mb) since (seen.push e.born) clock)) r F Y) :
  JR P f R n (rgOf f id) L0 ck ((i, false) :: rest) Wp k E h r F Y := by
 intro BB Hd fps a w s hH hR hN hW
 simp only [PW]
 have hb : w.heap[mb]? = some (.map es clock) := s.own.get hm
 have hi : w.heap[bi]? = some (.mapIter (some mb) since seen c0) := s.own.own _ (List.mem_of_getElem? hp)
 refine nxtOf_sound he s fun ty => ?_
 rcases run_next_at (P := P) ty hi hb hold hsc with ⟨h0, hrun⟩ | ⟨e, heL, m, hrun⟩
 ·refine ⟨_, _, hrun, fun a' hA => ⟨fun _ b _ _ => rfl, ?_⟩⟩
  have dd := Did.refl h [] w
  rw [filter_idsW]
  exact A h0 BB Hd fps a' w (s.go hA s.own dd.dd) hH hR hN (okWp_filter hW)
 ·refine ⟨_, _, hrun, fun a' hA => ?_⟩
  cases m with
  | false => exact JR_setmap hok hp s hH hR hN hW hA (B e heL)
  | true => exact JR_setmap hok hp s.drew hH ⟨hR.old, hR.ro, hR.len, hR.size⟩ hN hW hA (B e heL)
theorem JR_entry {id L0 i : Nat} {ck : Bool} {Wp : List (Nat × List Nat)} {rest : List (Nat × Bool)} (hi hn : Hn) (bi mb : Nat) (dst : Option Tmp) {es : Array MapEntry} {clock since : Nat} {seen : Array Nat} {e : MapEntry}
  (he : entOf n (rgOf f id) E i = some (.pointer (some ⟨bi, 0, none⟩), dst)) (hp : hi.get h r = some (bi, .mapIter (some mb) since (seen.push e.born) clock)) (hm : hn.get h r = some (mb, .map es clock)) (hmem : e ∈ es.toList) (hnd : (es.toList.map (·.born)).Nodup)
  (A : JR P f R n (rgOf f id) L0 ck rest (Wp.filter (·.1 != i)) k (E.put dst (.val (.tuple #[e.key, e.val]))) h r F Y) :
  JR P f R n (rgOf f id) L0 ck ((i, false) :: rest) Wp k E h r F Y := by
 intro BB Hd fps a w s hH hR hN hW
 simp only [PW]
 refine entOf_sound he s ⟨_, _, run_entry_at (s.own.get hp) (s.own.get hm) hmem hnd, fun a' hA => ⟨fun _ b _ _ => rfl, ?_⟩⟩
 have dd := Did.refl h [] w
 rw [filter_idsW]
 exact A BB Hd fps a' w (s.go hA s.own dd.dd) hH hR hN (okWp_filter hW)
end rules
end Go.Sx
end
section
namespace Go.Sx
open Go
section fork3
variable {P : Program} {ops : Array Oper} {Q : Exit → Act → World → Prop}
def planR (ops : Array Oper) : List (Nat × Bool) → Array Bool → Option (Array Bool)
 | [], listed => some listed
 | (i, true) :: rest, listed => if ((Region.ready .any ops listed).contains i && Region.free .any ops listed i) = true then planR ops rest (listed.setIfInBounds i true) else none
 | (_, false) :: _, _ => none
def plan3 (ops : Array Oper) (rs : List (Nat × Bool)) (i : Nat) (q1 q2 : List (Nat × Bool)) (j : Nat) (q3 : List (Nat × Bool)) (listed : Array Bool) : Bool := match planR ops rs listed with
 | some l => Region.ready .any ops l == [i, j] && planF ops 0 q1 q2 (l.setIfInBounds i true) && planOk ops q3 (l.setIfInBounds j true)
 | none => false
def Both (P : Program) (ops : Array Oper) (Q : Exit → Act → World → Prop) (B i : Nat) (q1 q2 : List (Nat × Bool)) (W : List (Nat × List Nat)) (a : Act) (w : World) : Prop :=
 wpOp P ops Q i (fun a' w' => BG B (W.lookup i) w w' ∧ PW P ops Q B true q1 (W.filter (·.1 != i)) a' w' ∧ PW P ops Q B true q2 (W.filter (·.1 != i)) a' w') a w
theorem wpAnyG_of_fork3 (hs : Region.noSelect ops = true) (hQ : ∀ c a d v w, Q (.panic c) (a.put d v) w → Q (.panic c) a w) {B : Nat} (W0 : Nat → Option (List Nat)) {i j : Nat} {q1 q2 q3 : List (Nat × Bool)} (hl2 : q2.length = q1.length) (hl3 : q3.length = q1.length) (W : List (Nat × List Nat)) :
  ∀ (rs : List (Nat × Bool)) (listed : Array Bool) (a : Act) (w : World), plan3 ops rs i q1 q2 j q3 listed = true → Down .any ops listed → (∀ j, listed.getD j true = false → W.lookup j = W0 j) →
   PW P ops (fun _ a w => Both P ops Q B i q1 q2 W a w ∧ PW P ops Q B true ((j, false) :: q3) W a w) B true rs W a w → wpAnyG P .any ops Q B W0 (rs.length + (q1.length + 1)) listed a w
 | [], listed, a, w, hp, hdown, hW, h => by
  simp only [plan3, planR, Bool.and_eq_true, beq_iff_eq] at hp
  obtain ⟨⟨hr, hF⟩, hp3⟩ := hp
  obtain ⟨h1, h2⟩ := h
  have hi : i ∈ Region.ready .any ops listed := by rw [hr]; simp
  have hj : j ∈ Region.ready .any ops listed := by rw [hr]; simp
  rw [List.length_nil, Nat.zero_add]
  refine ⟨fun h0 => absurd h0 (by rw [hr]; simp), fun k hk => ?_⟩
  rw [hr] at hk
  rcases List.mem_cons.1 hk with rfl | hk
  ·have hun : listed.getD k true = false := (mem_ready.1 hi).1
   refine wpOp_mono (fun a' w' hh => ⟨?_, ?_⟩) h1
   ·rw [← hW k hun]
    exact hh.1
   ·refine wpAnyG_of_fork hs hQ W0 0 q1 q2 _ _ _ _ hF hl2 (hdown.list hi) (fun l hl => ?_) hh.2.1 hh.2.2
    obtain ⟨hkl, hl2⟩ := unlisted_after hl
    rw [lookup_filter_ne k l (Ne.symm hkl)]
    exact hW l hl2
  ·obtain rfl := List.mem_singleton.1 hk
   have := step_write hs hQ W0 hj hp3 hdown hW h2
   rw [hl3] at this
   exact this
 | (r, true) :: rs, listed, a, w, hp, hdown, hW, h => by
  have hp' : ((Region.ready .any ops listed).contains r && Region.free .any ops listed r) = true ∧ plan3 ops rs i q1 q2 j q3 (listed.setIfInBounds r true) = true := by
   simp only [plan3, planR] at hp ⊢
   split at hp
   ·rename_i l hl
    split at hl
    ·rename_i hc
     exact ⟨hc, by rw [hl]; exact hp⟩
    ·cases hl
   ·cases hp
  obtain ⟨hc, hp'⟩ := hp'
  rw [Bool.and_eq_true] at hc
  obtain ⟨hr, hf⟩ := hc
  obtain ⟨o, v, us, ho, hy, hS, hd, hrest⟩ := h
  rw [List.length_cons, Nat.add_right_comm]
  refine wpAnyG_first (us := us) ho (Region.noSelect_spec hs) (fun c a w => hQ c a _ v w) (rs.length + (q1.length + 1)) listed a w ?_ hdown (by simpa using hr) hy hS ?_
  ·intro k ok hok hki hun hno
   refine ⟨Region.free_spec ho hf k ok hok hki hun hno, fun l hl => ?_⟩
   rw [← hW k hun] at hl
   exact hd rfl _ (mem_of_lookup hl)
  ·exact wpAnyG_of_fork3 hs hQ W0 hl2 hl3 W rs _ _ _ hp' (hdown.list (by simpa using hr)) (fun k hk => hW k (unlisted_after hk).2) hrest
 | (_, false) :: _, _, _, _, hp, _, _, _ => by simp [plan3, planR] at hp
def fork3Ok (ops : Array Oper) (rs : List (Nat × Bool)) (i : Nat) (q1 q2 : List (Nat × Bool)) (j : Nat) (q3 : List (Nat × Bool)) : Bool :=
 Region.noSelect ops && Nat.beq (rs.length + (q1.length + 1)) ops.size && Nat.beq q2.length q1.length && Nat.beq q3.length q1.length && plan3 ops rs i q1 q2 j q3 (Array.replicate ops.size false)
theorem wp_region_fork3 {id : Nat} {a : Act} {w : World} (hm : P.follows .mixedOrders = true) (hQ : ∀ c a d v w, Q (.panic c) (a.put d v) w → Q (.panic c) a w) {rs : List (Nat × Bool)} {i j : Nat} {q1 q2 q3 : List (Nat × Bool)} (W : List (Nat × List Nat)) (hok : fork3Ok ops rs i q1 q2 j q3 = true) {B : Nat}
  (h : PW P ops (fun _ a w => Both P ops Q B i q1 q2 W a w ∧ PW P ops Q B true ((j, false) :: q3) W a w) B true rs W a { w with drawn := w.drawn + 1 }) : (Code.region id ops true).wp P Q a w := by
 simp only [fork3Ok, Bool.and_eq_true] at hok
 obtain ⟨⟨⟨⟨hs, hl1⟩, hl2⟩, hl3⟩, hp⟩ := hok
 have hlen := Nat.eq_of_beq_eq_true hl1
 refine wp_region_any hm (wpAny_of_G (B := B) (W := fun j => W.lookup j) _ _ _ _ ?_)
 rw [← hlen]
 rw [← hlen] at hp
 refine wpAnyG_of_fork3 hs hQ _ (Nat.eq_of_beq_eq_true hl2) (Nat.eq_of_beq_eq_true hl3) W rs _ _ _ hp (fun j o ho hl => ?_) (fun _ _ => rfl) h
 have hlt := (Array.getElem?_eq_some_iff.1 ho).1
 rw [hlen] at hl
 simp [hlt] at hl
end fork3
section rule
variable {P : Program} {f : Func} {R : Act → World → Prop} {n : Nat} {k : List Itm} {E : Env} {h r : List (Nat × Obj)} {F : List (List Nat × World)} {Y : Ghost}
def JR2 (P : Program) (f : Func) (R : Act → World → Prop) (n : Nat) (ops : Array Oper) (L0 : Nat) (i : Nat) (q1 q2 : List (Nat × Bool)) (Wp : List (Nat × List Nat)) (k : List Itm) (E : Env) (h r : List (Nat × Obj)) (F : List (List Nat × World)) (Y : Ghost) : Prop :=
 ∀ B Hd fps a w, StF n E h r F Y a w fps → (∀ b ∈ fps.flatten, b ∈ Hd ∨ B ≤ b) → RI Hd B L0 h r w → New B L0 h → okWp L0 Wp = true → Both P ops (wpK P f R k) B i q1 q2 (idsW Hd h Wp) a w
theorem J_fork3 (hm : P.follows .mixedOrders = true) {id : Nat} (pl : List Pl) (i j : Nat) (q1 q2 q3 : List (Nat × Bool)) (Wp : List (Nat × List Nat)) (keep : List Nat) {E1 : (Nat → Nat) → Env} {p1 : (Nat → Nat) → List Prop} (hok : fork3Ok (rgOf f id) (pl.map Pl.key) i q1 q2 j q3 = true) (hWp : okWp h.length Wp = true)
  (hr : ∀ nu, (packed (runReg P n nu f id h.length true pl Wp E h r keep), trivL (runReg P n nu f id h.length true pl Wp E h r keep)) = (some (E1 nu, h, p1 nu, Wp), trivR (runReg P n nu f id h.length true pl Wp E h r keep))) (hp : ∀ nu, AllP (p1 nu))
  (H1 : ∀ nu, JR2 P f R n (rgOf f id) h.length i q1 q2 Wp k (E1 nu) h r F Y) (H3 : ∀ nu, JR P f R n (rgOf f id) h.length true ((j, false) :: q3) Wp k (E1 nu) h r F Y) : J P f R n (.c (.rg id true) :: k) E h r F Y := fun a w ⟨fps, s0⟩ => by
 have s := s0.drew
 have hH : ∀ b ∈ fps.flatten, b ∈ fps.flatten ∨ w.heap.size ≤ b := fun b hb => .inl hb
 have hR : RI fps.flatten w.heap.size h.length h r { w with drawn := w.drawn + 1 } := ⟨fun i _ x hx => ⟨s0.own.own.lt (List.mem_of_getElem? hx), fun hm => s0.gh.disj _ hm (List.mem_map.2 ⟨x, List.mem_of_getElem? hx, rfl⟩)⟩, fun x hx => ⟨s0.own.ro.lt hx, s0.gh.apart x hx⟩, Nat.le_refl _, Nat.le_refl _⟩
 have hN : New w.heap.size h.length h := fun j hj x hx => by rw [List.getElem?_eq_none hj] at hx; cases hx
 simp only [wpK, Sk.code]
 refine wp_region_fork3 (B := w.heap.size) (rs := pl.map Pl.key) hm (fun c a d v w hq => absurd hq (wpK_panic _ _ _ _)) (idsW fps.flatten h Wp) hok ?_
 obtain ⟨h2, h3⟩ := Prod.mk.inj (hr (fun j => w.heap.size + j))
 unfold runReg at h2 h3
 split at h2
 ·rename_i E' x' W' p hrun
  rw [hrun] at h3
  simp only [packed, Option.some.injEq, Prod.mk.injEq] at h2
  obtain ⟨e1, e2, e3, e4⟩ := h2
  have key := run_PW (Q := fun _ a w' => Both P (rgOf f id) (wpK P f R k) w.heap.size i q1 q2 (idsW fps.flatten h Wp) a w' ∧ PW P (rgOf f id) (wpK P f R k) w.heap.size true ((j, false) :: q3) (idsW fps.flatten h Wp) a w') (rest := []) pl Wp E ⟨h, 0, []⟩ E' x' W' p hrun (All_of p h3 (by rw [e3]; exact hp _)) hWp a { w with drawn := w.drawn + 1 } s.ag s.own (fun j => by simp) hR hN fun a' w' hA hO _ hR' hN' hd hW' => ?_
  ·rw [List.append_nil] at key
   exact key
  ·rw [e2] at hO hR' hN' hd
   have hA' : Ag n (E1 fun j => w.heap.size + j) a' := hA.sub (by rw [← e1]; exact keepE_sub E' keep)
   have s' := s.go hA' hO hd
   exact ⟨H1 _ w.heap.size fps.flatten fps a' w' s' hH hR' hN' hWp, H3 _ w.heap.size fps.flatten fps a' w' s' hH hR' hN' hWp⟩
 ·cases h2
theorem JR2_callp {S0 : Nat → Prop} {C0 : List Chunk} {G0 : List (Value × D)} {id L0 i : Nat} {q1 q2 : List (Nat × Bool)} {Wp : List (Nat × List Nat)} (hs : List Hn) (fid : FuncId) (args : Array Value) (dst : Option Tmp)
  (he : chkC (callOf P n (rgOf f id) h r E i hs) = (some (fid, args, dst), trivC (callOf P n (rgOf f id) h r E i hs), 0))
  (C : ∀ w S, AllG w S G0 → Calls P fid args w fun e w' => ∃ v C' G', Ret [] w S w' e v C' G' ∧
   JR P f R n (rgOf f id) L0 true q1 (Wp.filter (·.1 != i)) k (E.put dst (.val v)) h r F ⟨S0, C0 ++ C', G0 ++ G'⟩ ∧ JR P f R n (rgOf f id) L0 true q2 (Wp.filter (·.1 != i)) k (E.put dst (.val v)) h r F ⟨S0, C0 ++ C', G0 ++ G'⟩) :
  JR2 P f R n (rgOf f id) L0 i q1 q2 Wp k E h r F ⟨S0, C0, G0⟩ := by
 obtain ⟨p, he, hp⟩ := chkC_sound he
 intro B Hd fps a w s hH hR hN hW
 refine callOf_sound he hp s ((C w (Sd ⟨S0, C0, G0⟩ h fps) s.gh.g).mono fun e w' hh => ?_)
 obtain ⟨v, C', G', hRet, H1, H2⟩ := hh
 have hf := hRet.fr
 refine ⟨v, hRet.ret, fun E' hE a' hA => ⟨fun b hb hl => hf.block b hb (by simp), ?_⟩⟩
 subst hE
 rw [filter_idsW]
 have hRet' : Ret (pick fps []).flatten w (Sd ⟨S0, C0, G0⟩ h fps) w' e v C' G' := hRet
 obtain ⟨fps', h3, s'⟩ := s.called (cs := []) hA hRet'
 have hpk : pick C0 (others C0.length []) = C0 := by
  have h1 : others C0.length [] = List.range C0.length := by simp [others]
  rw [h1, pick_all]
 rw [show (pick (Ghost.mk S0 C0 G0).C (others (Ghost.mk S0 C0 G0).C.length [])) = C0 from hpk] at s'
 have hH' : ∀ b ∈ (pick fps (others fps.length []) ++ fps').flatten, b ∈ Hd ∨ B ≤ b := fun b hb => by
  rw [List.flatten_append] at hb
  rcases List.mem_append.1 hb with hb | hb
  ·exact hH b (pick_flat_sub hb)
  ·rcases h3 b hb with h1 | h1
   ·exact hH b (pick_flat_sub h1)
   ·exact .inr (Nat.le_trans hR.size h1)
 exact ⟨H1 B Hd _ a' w' s' hH' ⟨hR.old, hR.ro, hR.len, Nat.le_trans hR.size hf.size⟩ hN (okWp_filter hW), H2 B Hd _ a' w' s' hH' ⟨hR.old, hR.ro, hR.len, Nat.le_trans hR.size hf.size⟩ hN (okWp_filter hW)⟩
end rule
end Go.Sx
end
