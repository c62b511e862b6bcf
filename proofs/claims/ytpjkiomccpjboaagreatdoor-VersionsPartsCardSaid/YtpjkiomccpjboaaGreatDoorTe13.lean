/- Part 13 of the texts of a claim: Within PartP Read KeysV PartsV Stored. -/
import Derived.Test.YtpjkiomccpjboaaGreatDoorTe12
section
namespace Go.Proofs.YtpjkiomccpjboaaGreatDoor
open Go Go.Sx
def atErr (p : Nat) (base : List Int) (key : ByteArray) (at' : List Int) : Nat :=
 if nameOk key = false then 4 else if vecErr at' ≠ 0 then vecErr at' else if at'.length ≠ p then 3 else if inL base at' = false then 9 else 0
def withinC (L : List PutT) (key : ByteArray) (at' : List Int) : List ComT := (keyC L key).filter fun c => inL c.when at'
theorem len2 {α : Type} {l : List α} (h : l.length = 2) : ∃ x y, l = [x, y] := by
 match l, h with
 | [x, y], _ => exact ⟨x, y, rfl⟩
theorem mem_keyC {L : List PutT} {key : ByteArray} {x : ComT} (h : x ∈ keyC L key) : ∃ q ∈ L, x = oneC q := by
 obtain ⟨q, hq, rfl⟩ := List.mem_map.1 h
 exact ⟨q, (List.mem_filter.1 hq).1, rfl⟩
structure WithR where
 i : Int
 a : Option Addr
 k : Nat
 c : Nat
set_option maxHeartbeats 4000000 in
theorem vWithinK {w : World} {S : Nat → Prop} {M : List Nat} {er : Nat → Addr} {eb : Nat → Array Value × TypeId} {b mk md : Nat} {ba a1 : Option Addr} {p nb cb n1 c1 clock : Nat} {base at' : List Int} {es : Array MapEntry} {ks : List ByteArray} {F : ByteArray → Value} {L : List PutT} {key : ByteArray} (hC : Rep w S .nilIface (dC er eb))
  (hP : Pre w S M [cObj b (.cells #[.int .i64 p, .slice ba nb cb, .map (some mk), .map (some md)] 133 (0, 0)), cObj mk (.map es clock), cStar (ks.map fun t => cAcc (F t) 28 3 ((keyC L t).map eCom)), cMapG md okDot (dotSet (L.map dotP))])
  (hb : Rep w S (.slice ba nb cb) (dInts base)) (hbv : vecErr base = 0) (hbl : base.length = p) (h1 : Rep w S (.slice a1 n1 c1) (dInts at')) (hl1 : at'.length ≤ 1000000) (hL : L.length ≤ 1000000) (hLv : ∀ q ∈ L, vecErr q.when = 0 ∧ q.when.length = p)
  (hm : MapG (MapKept.IsKey .string) es (strG ks F)) (hnd : ks.Nodup) (hiff : ∀ t, t ∈ ks ↔ keyC L t ≠ []) :
  Calls Tryz.prog 78 #[.pointer (some ⟨b, 0, none⟩), .string key, .slice a1 n1 c1] w fun e w' =>
   (atErr p base key at' ≠ 0 ∧ Ret M w S w' e (.tuple #[.slice none 0 0, .iface 243 (.pointer (some (er (atErr p base key at'))))]) [cObj b (.cells #[.int .i64 p, .slice ba nb cb, .map (some mk), .map (some md)] 133 (0, 0)), cObj mk (.map es clock), cStar (ks.map fun t => cAcc (F t) 28 3 ((keyC L t).map eCom)), cMapG md okDot (dotSet (L.map dotP))] []) ∨
   (atErr p base key at' = 0 ∧ ∃ ua un uc, Ret M w S w' e (.tuple #[.slice ua un uc, .nilIface]) [cObj b (.cells #[.int .i64 p, .slice ba nb cb, .map (some mk), .map (some md)] 133 (0, 0)), cObj mk (.map es clock), cStar (ks.map fun t => cAcc (F t) 28 3 ((keyC L t).map eCom)), cMapG md okDot (dotSet (L.map dotP))] [(.slice ua un uc, .sl 3 ((withinC L key at').map eCom))]) := by
 obtain rfl := rep_ints_len h1
 obtain rfl := rep_ints_len hb
 subst hbl
 refine en78 (args := [.pointer (some ⟨b, 0, none⟩), .string key, .slice a1 at'.length c1]) (S := S) (G := [(_, dC er eb), (_, dInts at'), (_, dInts base)]) (by kernel_rfl) hP (.cons hC (.cons h1 (.cons hb (.nil _ _)))) ?_
 refine J_show 0 rfl ?_
 refine J_stp (stp_all 0 [3, 2, 8] rfl rfl) ?_
 refine J_glob 3 rfl (fun csg1 tyg1 fzg1 hglob1 => ?_)
 refine J_glob 4 rfl (fun csg2 tyg2 fzg2 hglob2 => ?_)
 refine J_glob 5 rfl (fun csg3 tyg3 fzg3 hglob3 => ?_)
 try simp only [cAp, nAp, aNl]
 refine Sq mixed [zR 0, zR 1] [] [0, 1, 2, 6, 7] (fun _ => [zP 0 b, zV 1 (.string key), zS 2 a1 at'.length c1, zS 6 none 0 0, zV 7 .nilIface]) (fun _ => [(b, .cells #[nI (↑base.length : Int), .slice ba base.length cb, .map (some mk), .map (some md)] 133 (0, 0))]) (fun _ => ?_)
 refine J_seq ?_
 refine J_seq ?_
 refine jB mixed [(0, true), (1, false), (2, true)] [] ?_
 refine Gr (id := 1) (rest := [(1, false), (2, true)]) [zR 0] [0, 1, 2, 6, 7, 16] (fun _ => [zP 0 b, zV 1 (.string key), zS 2 a1 at'.length c1, zS 6 none 0 0, zV 7 .nilIface, zV 16 (.string key)]) (fun _ => [(b, .cells #[nI (↑base.length : Int), .slice ba base.length cb, .map (some mk), .map (some md)] 133 (0, 0))]) (fun _ => ?_)
 refine JR_callp [] 54 #[.string key] (some 17) (by kernel_rfl) (fun w S hG => ?_)
 refine (vName (w := w) (S := S) (s0 := key)).mono ?_
 rintro e1 w1 hR
 refine ⟨_, _, _, hR, ?_⟩
 cases hnm : nameOk key with
 | false =>
  have hae : atErr base.length base key at' = 4 := by rw [atErr, if_pos hnm]
  rw [hae]
  try simp only [cAp, nAp, aNl]
  refine Gr (id := 1) (rest := []) [zR 2] [0, 1, 2, 6, 7, 18] (fun _ => [zP 0 b, zV 1 (.string key), zS 2 a1 at'.length c1, zS 6 none 0 0, zV 7 .nilIface, zB 18 true]) (fun _ => [(b, .cells #[nI (↑base.length : Int), .slice ba base.length cb, .map (some mk), .map (some md)] 133 (0, 0))]) (fun _ => ?_)
  refine JR_end ?_
  refine cTt ?_
  refine Sp mixed [.rd 0 [.r 0 (some (.iface 243 (.pointer (some (er 4)))))] 0 0, zR 1, zR 2] [] [0, 1, 2, 6, 7] (fun _ => [zP 0 b, zV 1 (.string key), zS 2 a1 at'.length c1, zS 6 none 0 0, zV 7 (.iface 243 (.pointer (some (er 4))))]) (fun _ => [(b, .cells #[nI (↑base.length : Int), .slice ba base.length cb, .map (some mk), .map (some md)] 133 (0, 0))]) (fun _ => [csg1[(0 : Nat)]? = some (Value.iface (243 : Nat) (Value.pointer (some (er (4 : Nat)))))]) (fun _ => ⟨hglob1, trivial⟩) (fun _ => ?_)
  refine J_return [[], []] (.tuple #[.slice none 0 0, .iface 243 (.pointer (some (er 4)))]) (by kernel_rfl) (fun a w s => ?_)
  exact .inl ⟨by decide, (s.hide 0 rfl).ret (by simp) [3, 0, 1, 2] [] rfl rfl⟩
 | true =>
 try simp only [cAp, nAp, aNl]
 refine Gr (id := 1) (rest := []) [zR 2] [0, 1, 2, 6, 7, 18] (fun _ => [zP 0 b, zV 1 (.string key), zS 2 a1 at'.length c1, zS 6 none 0 0, zV 7 .nilIface, zB 18 false]) (fun _ => [(b, .cells #[nI (↑base.length : Int), .slice ba base.length cb, .map (some mk), .map (some md)] 133 (0, 0))]) (fun _ => ?_)
 refine JR_end ?_
 refine cF ?_
 refine J_skip ?_
 refine J_seq ?_
 refine J_seq ?_
 refine jB mixed [(0, true), (1, false), (2, true)] [] ?_
 refine Gr (id := 3) (rest := [(1, false), (2, true)]) [zR 0] [0, 1, 2, 6, 7, 20] (fun _ => [zP 0 b, zV 1 (.string key), zS 2 a1 at'.length c1, zS 6 none 0 0, zV 7 .nilIface, zS 20 a1 at'.length c1]) (fun _ => [(b, .cells #[nI (↑base.length : Int), .slice ba base.length cb, .map (some mk), .map (some md)] 133 (0, 0))]) (fun _ => ?_)
 refine JR_callp [] 59 #[.slice a1 at'.length c1] (some 21) (by kernel_rfl) (fun w S hG => ?_)
 refine (vcheck (globs_of (hG.at 0 rfl)) (hG.at 1 rfl) hl1).mono ?_
 rintro e2 w2 ⟨v, hR, hv⟩
 refine ⟨_, _, _, hR, ?_⟩
 obtain ⟨hv0, rfl⟩ | ⟨hv0, rfl⟩ := hv
 case inr =>
  have hae : atErr base.length base key at' = vecErr at' := by rw [atErr, if_neg (by simp [hnm]), if_pos hv0]
  rw [hae]
  try simp only [cAp, nAp, aNl]
  refine Gr (id := 3) (rest := []) [zR 2] [0, 1, 2, 6, 7, 8] (fun _ => [zP 0 b, zV 1 (.string key), zS 2 a1 at'.length c1, zS 6 none 0 0, zV 7 .nilIface, zV 8 (.iface 243 (.pointer (some (er (vecErr at')))))]) (fun _ => [(b, .cells #[nI (↑base.length : Int), .slice ba base.length cb, .map (some mk), .map (some md)] 133 (0, 0))]) (fun _ => ?_)
  refine JR_end ?_
  refine Sq mixed [zR 0, zR 1] [] [0, 1, 2, 6, 7, 8, 23] (fun _ => [zP 0 b, zV 1 (.string key), zS 2 a1 at'.length c1, zS 6 none 0 0, zV 7 .nilIface, zV 8 (.iface 243 (.pointer (some (er (vecErr at'))))), zB 23 true]) (fun _ => [(b, .cells #[nI (↑base.length : Int), .slice ba base.length cb, .map (some mk), .map (some md)] 133 (0, 0))]) (fun _ => ?_)
  refine cTt ?_
  refine Sq mixed [zR 0, zR 1, zR 2] [] [0, 1, 2, 6, 7] (fun _ => [zP 0 b, zV 1 (.string key), zS 2 a1 at'.length c1, zS 6 none 0 0, zV 7 (.iface 243 (.pointer (some (er (vecErr at')))))]) (fun _ => [(b, .cells #[nI (↑base.length : Int), .slice ba base.length cb, .map (some mk), .map (some md)] 133 (0, 0))]) (fun _ => ?_)
  refine J_return [[], []] (.tuple #[.slice none 0 0, .iface 243 (.pointer (some (er (vecErr at'))))]) (by kernel_rfl) (fun a w s => ?_)
  exact .inl ⟨hv0, (s.hide 0 rfl).ret (by simp) [3, 0, 1, 2] [] rfl rfl⟩
 by_cases hal : at'.length = base.length
 case neg =>
  have hae : atErr base.length base key at' = 3 := by rw [atErr, if_neg (by simp [hnm]), if_neg (by simp [hv0]), if_pos hal]
  have hal2 : ¬ (at'.length : Int) = base.length := by omega
  rw [hae]
  try simp only [cAp, nAp, aNl]
  refine Gr (id := 3) (rest := []) [zR 2] [0, 1, 2, 6, 7, 8] (fun _ => [zP 0 b, zV 1 (.string key), zS 2 a1 at'.length c1, zS 6 none 0 0, zV 7 .nilIface, zV 8 .nilIface]) (fun _ => [(b, .cells #[nI (↑base.length : Int), .slice ba base.length cb, .map (some mk), .map (some md)] 133 (0, 0))]) (fun _ => ?_)
  refine JR_end ?_
  refine Sq mixed [zR 0, zR 1] [] [0, 1, 2, 6, 7, 8, 23] (fun _ => [zP 0 b, zV 1 (.string key), zS 2 a1 at'.length c1, zS 6 none 0 0, zV 7 .nilIface, zV 8 .nilIface, zB 23 false]) (fun _ => [(b, .cells #[nI (↑base.length : Int), .slice ba base.length cb, .map (some mk), .map (some md)] 133 (0, 0))]) (fun _ => ?_)
  refine cF ?_
  refine J_skip ?_
  refine J_seq ?_
  refine Sp mixed [zR 0, zR 1, zR 2, zR 3, zR 4, .rd 5 [.o 0 none] 0 0, .rd 6 [] 0 6] [] [0, 1, 2, 6, 7, 31] (fun _ => [zP 0 b, zV 1 (.string key), zS 2 a1 at'.length c1, zS 6 none 0 0, zV 7 .nilIface, zB 31 true]) (fun _ => [(b, .cells #[nI (↑base.length : Int), .slice ba base.length cb, .map (some mk), .map (some md)] 133 (0, 0))]) (fun _ => [((↑at'.length : Int) != (↑base.length : Int)) = true]) (fun _ => ⟨by simp; omega, trivial⟩) (fun _ => ?_)
  refine cTt ?_
  refine Sp mixed [.rd 0 [.r 1 (some (.iface 243 (.pointer (some (er 3)))))] 0 0, zR 1, zR 2] [] [0, 1, 2, 6, 7] (fun _ => [zP 0 b, zV 1 (.string key), zS 2 a1 at'.length c1, zS 6 none 0 0, zV 7 (.iface 243 (.pointer (some (er 3))))]) (fun _ => [(b, .cells #[nI (↑base.length : Int), .slice ba base.length cb, .map (some mk), .map (some md)] 133 (0, 0))]) (fun _ => [csg2[(0 : Nat)]? = some (Value.iface (243 : Nat) (Value.pointer (some (er (3 : Nat)))))]) (fun _ => ⟨hglob2, trivial⟩) (fun _ => ?_)
  refine J_return [[], []] (.tuple #[.slice none 0 0, .iface 243 (.pointer (some (er 3)))]) (by kernel_rfl) (fun a w s => ?_)
  exact .inl ⟨by decide, (s.hide 0 rfl).ret (by simp) [3, 0, 1, 2] [] rfl rfl⟩
 have htw : twoErr base at' = 0 := by rw [twoErr, if_neg (by simp [hbv]), if_neg (by simp [hv0]), if_neg (by simp [hal])]
 have hvl := vecErr_len hbv
 have hal2 : (at'.length : Int) = base.length := by omega
 try simp only [cAp, nAp, aNl]
 refine Gr (id := 3) (rest := []) [zR 2] [0, 1, 2, 6, 7, 8] (fun _ => [zP 0 b, zV 1 (.string key), zS 2 a1 at'.length c1, zS 6 none 0 0, zV 7 .nilIface, zV 8 .nilIface]) (fun _ => [(b, .cells #[nI (↑base.length : Int), .slice ba base.length cb, .map (some mk), .map (some md)] 133 (0, 0))]) (fun _ => ?_)
 refine JR_end ?_
 refine Sq mixed [zR 0, zR 1] [] [0, 1, 2, 6, 7, 8, 23] (fun _ => [zP 0 b, zV 1 (.string key), zS 2 a1 at'.length c1, zS 6 none 0 0, zV 7 .nilIface, zV 8 .nilIface, zB 23 false]) (fun _ => [(b, .cells #[nI (↑base.length : Int), .slice ba base.length cb, .map (some mk), .map (some md)] 133 (0, 0))]) (fun _ => ?_)
 refine cF ?_
 refine J_skip ?_
 refine J_seq ?_
 refine Sp mixed [zR 0, zR 1, zR 2, zR 3, zR 4, .rd 5 [.o 0 none] 0 0, .rd 6 [] 0 7] [] [0, 1, 2, 6, 7, 31] (fun _ => [zP 0 b, zV 1 (.string key), zS 2 a1 at'.length c1, zS 6 none 0 0, zV 7 .nilIface, zB 31 false]) (fun _ => [(b, .cells #[nI (↑base.length : Int), .slice ba base.length cb, .map (some mk), .map (some md)] 133 (0, 0))]) (fun _ => [((↑at'.length : Int) != (↑base.length : Int)) = false]) (fun _ => ⟨by simp; omega, trivial⟩) (fun _ => ?_)
 refine cF ?_
 refine J_skip ?_
 refine J_seq ?_
 refine J_seq ?_
 refine jB mixed [(0, true), (1, true), (2, true), (3, true), (4, true), (5, false), (6, true), (7, true), (8, true), (9, true), (10, true)] [] ?_
 refine Gr (id := 8) (rest := [(5, false), (6, true), (7, true), (8, true), (9, true), (10, true)]) [zR 0, zR 1, zR 2, .rd 3 [.o 0 none] 0 0, zR 4] [0, 1, 2, 6, 7, 37, 38] (fun _ => [zP 0 b, zV 1 (.string key), zS 2 a1 at'.length c1, zS 6 none 0 0, zV 7 .nilIface, zS 37 ba base.length cb, zS 38 a1 at'.length c1]) (fun _ => [(b, .cells #[nI (↑base.length : Int), .slice ba base.length cb, .map (some mk), .map (some md)] 133 (0, 0))]) (fun _ => ?_)
 refine JR_callp [] 52 #[.slice ba base.length cb, .slice a1 at'.length c1] (some 39) (by kernel_rfl) (fun w S hG => ?_)
 refine (vwithin (globs_of (hG.at 0 rfl)) (hG.at 2 rfl) (hG.at 1 rfl) (by omega) hl1).mono ?_
 rintro e3 w3 (⟨htw2, _⟩ | ⟨_, hR⟩)
 ·exact absurd htw htw2
 refine ⟨_, _, _, hR, ?_⟩
 cases hin : inL base at' with
 | false =>
  have hae : atErr base.length base key at' = 9 := by rw [atErr, if_neg (by simp [hnm]), if_neg (by simp [hv0]), if_neg (by simp [hal]), if_pos hin]
  rw [hae]
  try simp only [cAp, nAp, aNl]
  refine Gr (id := 8) (rest := []) [zR 6, zR 7, zR 8, zR 9, zR 10] [0, 1, 2, 6, 7, 9] (fun _ => [zP 0 b, zV 1 (.string key), zS 2 a1 at'.length c1, zS 6 none 0 0, zV 7 .nilIface, zB 9 false]) (fun _ => [(b, .cells #[nI (↑base.length : Int), .slice ba base.length cb, .map (some mk), .map (some md)] 133 (0, 0))]) (fun _ => ?_)
  refine JR_end ?_
  refine Sq mixed [zR 0, zR 1] [] [0, 1, 2, 6, 7, 43] (fun _ => [zP 0 b, zV 1 (.string key), zS 2 a1 at'.length c1, zS 6 none 0 0, zV 7 .nilIface, zB 43 true]) (fun _ => [(b, .cells #[nI (↑base.length : Int), .slice ba base.length cb, .map (some mk), .map (some md)] 133 (0, 0))]) (fun _ => ?_)
  refine cTt ?_
  refine Sp mixed [.rd 0 [.r 2 (some (.iface 243 (.pointer (some (er 9)))))] 0 0, zR 1, zR 2] [] [0, 1, 2, 6, 7] (fun _ => [zP 0 b, zV 1 (.string key), zS 2 a1 at'.length c1, zS 6 none 0 0, zV 7 (.iface 243 (.pointer (some (er 9))))]) (fun _ => [(b, .cells #[nI (↑base.length : Int), .slice ba base.length cb, .map (some mk), .map (some md)] 133 (0, 0))]) (fun _ => [csg3[(0 : Nat)]? = some (Value.iface (243 : Nat) (Value.pointer (some (er (9 : Nat)))))]) (fun _ => ⟨hglob3, trivial⟩) (fun _ => ?_)
  refine J_return [[], []] (.tuple #[.slice none 0 0, .iface 243 (.pointer (some (er 9)))]) (by kernel_rfl) (fun a w s => ?_)
  exact .inl ⟨by decide, (s.hide 0 rfl).ret (by simp) [3, 0, 1, 2] [] rfl rfl⟩
 | true =>
  have hae : atErr base.length base key at' = 0 := by rw [atErr, if_neg (by simp [hnm]), if_neg (by simp [hv0]), if_neg (by simp [hal]), if_neg (by simp [hin])]
  rw [hae]
  try simp only [cAp, nAp, aNl]
  refine Gr (id := 8) (rest := []) [zR 6, zR 7, zR 8, zR 9, zR 10] [0, 1, 2, 6, 7, 9] (fun _ => [zP 0 b, zV 1 (.string key), zS 2 a1 at'.length c1, zS 6 none 0 0, zV 7 .nilIface, zB 9 true]) (fun _ => [(b, .cells #[nI (↑base.length : Int), .slice ba base.length cb, .map (some mk), .map (some md)] 133 (0, 0))]) (fun _ => ?_)
  refine JR_end ?_
  refine Sq mixed [zR 0, zR 1] [] [0, 1, 2, 6, 7, 43] (fun _ => [zP 0 b, zV 1 (.string key), zS 2 a1 at'.length c1, zS 6 none 0 0, zV 7 .nilIface, zB 43 false]) (fun _ => [(b, .cells #[nI (↑base.length : Int), .slice ba base.length cb, .map (some mk), .map (some md)] 133 (0, 0))]) (fun _ => ?_)
  refine cF ?_
  refine J_skip ?_
  refine Sq mixed [zR 0] [] [0, 1, 2, 6, 7, 11] (fun _ => [zP 0 b, zV 1 (.string key), zS 2 a1 at'.length c1, zS 6 none 0 0, zV 7 .nilIface, zS 11 none 0 0]) (fun _ => [(b, .cells #[nI (↑base.length : Int), .slice ba base.length cb, .map (some mk), .map (some md)] 133 (0, 0))]) (fun _ => ?_)
  refine J_seq ?_
  refine J_seq ?_
  refine J_show 0 rfl ?_
  by_cases hT : key ∈ ks
  ·obtain ⟨iT, hit⟩ := List.getElem?_of_mem hT
   refine J_norm (C' := [(cStar (List.map (fun t => cAcc (F t) 28 3 (List.map eCom (keyC L t))) ks)), (cMapG md okDot (dotSet (List.map dotP L)))]) (G' := [(.nilIface, (dC er eb)), (.slice a1 at'.length c1, (dInts at')), (.slice ba base.length cb, (dInts base)), (.pointer (some (⟨1, 0, none⟩)), (D.ptr [D.v (Value.iface 243 (Value.pointer (some (er 4))))])), (.pointer (some (⟨3, 0, none⟩)), (D.ptr [D.v (Value.iface 243 (Value.pointer (some (er 3))))])), (.pointer (some (⟨4, 0, none⟩)), (D.ptr [D.v (Value.iface 243 (Value.pointer (some (er 9))))]))]) (by kernel_rfl) (by kernel_rfl) ?_
   refine J_stp (stp_take (c := cAcc (F key) 28 3 ((keyC L key).map eCom)) 0 iT rfl (by rw [List.getElem?_map, hit]; rfl)) ?_
   refine J_stpx (stp_accform 1 rfl) fun y hF => ?_
   obtain ⟨av, nv, cv⟩ := y
   obtain ⟨hF, hn⟩ := hF
   dsimp only at hF hn
   rw [List.length_map] at hn
   rw [hF]
   refine J_stp (stp_accm eCom 28 3) ?_
   refine J_norm (C' := [(cMapG md okDot (dotSet (List.map dotP L))), cAcc (.slice av nv cv) 28 3 (List.map eCom (keyC L key)), (cStar ((List.map (fun t => cAcc (F t) 28 3 (List.map eCom (keyC L t))) ks).eraseIdx iT)), cAcc (.slice none 0 0) 28 3 (List.map eCom [])]) (G' := [(.nilIface, (dC er eb)), (.slice a1 at'.length c1, (dInts at')), (.slice ba base.length cb, (dInts base)), (.pointer (some (⟨1, 0, none⟩)), (D.ptr [D.v (Value.iface 243 (Value.pointer (some (er 4))))])), (.pointer (some (⟨3, 0, none⟩)), (D.ptr [D.v (Value.iface 243 (Value.pointer (some (er 3))))])), (.pointer (some (⟨4, 0, none⟩)), (D.ptr [D.v (Value.iface 243 (Value.pointer (some (er 9))))]))]) (by kernel_rfl) (by kernel_rfl) ?_
   refine jB mixed [(0, true), (1, true), (2, true), (3, true), (4, true), (5, true), (6, true), (7, true)] [] ?_
   refine Gr (id := 12) (rest := [(5, true), (6, true), (7, true)]) [zR 0, zR 1, zR 2, .rd 3 [.o 0 none] 0 0, zR 4] [2, 6, 7, 11, 48, 49] (fun _ => [zS 2 a1 at'.length c1, zS 6 none 0 0, zV 7 .nilIface, zS 11 none 0 0, zV 48 (.map (some mk)), zV 49 (.string key)]) (fun _ => [(b, .cells #[nI (↑base.length : Int), .slice ba base.length cb, .map (some mk), .map (some md)] 133 (0, 0)), (mk, Obj.map es clock)]) (fun _ => ?_)
   refine JRg_lookr (.o 1 none) mk 130 9 43 (MapKept.IsKey TypeDesc.string) (.string key) (.slice none 0 0) false (some 50) (by kernel_rfl) (by kernel_rfl) (by kernel_rfl) keyOk_9 (by first | exact ⟨_, _, _, rfl⟩ | simp [MapKept.IsKey]) (by kernel_rfl) rfl hm (fun hno => ?_) (fun v hv => ?_)
   ·rw [strG_in hT] at hno
    cases hno
   ·rw [strG_in hT, hF] at hv
    cases hv
    have hkl := keyC_len L key
    subst hn
    refine Gr (id := 12) (rest := []) [zR 6, zR 7] [2, 6, 7, 11, 50, 51, 52] (fun _ => [zS 2 a1 at'.length c1, zS 6 none 0 0, zV 7 .nilIface, zS 11 none 0 0, zS 50 av ((keyC L key).length) cv, zI 51 ((↑(keyC L key).length : Int)), zI 52 0]) (fun _ => [(b, .cells #[nI (↑base.length : Int), .slice ba base.length cb, .map (some mk), .map (some md)] 133 (0, 0)), (mk, Obj.map es clock)]) (fun _ => ?_)
    refine JR_end ?_
    refine J_block ?_
    have hwd : withinC L key at' = ((keyC L key).take (keyC L key).length).filter fun c => inL c.when at' := by rw [List.take_length]; rfl
    rw [hwd]
    have hKv : ∀ x ∈ keyC L key, twoErr x.when at' = 0 ∧ x.when.length ≤ 6 := fun x hx => by
     obtain ⟨q, hq, rfl⟩ := mem_keyC hx
     obtain ⟨h1, h2⟩ := hLv q hq
     have h3 : (oneC q).when = q.when := rfl
     rw [h3]
     refine ⟨?_, ?_⟩
     ·rw [twoErr, if_neg (by simp [h1]), if_neg (by simp [hv0]), if_neg (by simp [h2, hal])]
     ·omega
    generalize hKL : keyC L key = KL at hkl hKv ⊢
    refine J_loopx (fun x : WithR => [zS 2 a1 at'.length c1, zS 6 none 0 0, zV 7 .nilIface, zS 11 x.a x.k x.c, zS 50 av KL.length cv, zI 51 (↑KL.length : Int), zI 52 x.i]) (fun x : WithR => [(b, .cells #[nI (↑base.length : Int), .slice ba base.length cb, .map (some mk), .map (some md)] 133 (0, 0)), (mk, Obj.map es clock)]) (fun x : WithR => [cMapG md okDot (dotSet (L.map dotP)), cAcc (.slice av KL.length cv) 28 3 (KL.map eCom), cStar ((ks.map fun t => cAcc (F t) 28 3 ((keyC L t).map eCom)).eraseIdx iT), cAcc (.slice x.a x.k x.c) 28 3 (((KL.take x.i.toNat).filter fun c => inL c.when at').map eCom)]) (fun x : WithR => [(.nilIface, (dC er eb)), (.slice a1 at'.length c1, (dInts at')), (.slice ba base.length cb, (dInts base)), (.pointer (sA 1 0), (D.ptr [D.v (Value.iface 243 (Value.pointer (some (er 4))))])), (.pointer (sA 3 0), (D.ptr [D.v (Value.iface 243 (Value.pointer (some (er 3))))])), (.pointer (sA 4 0), (D.ptr [D.v (Value.iface 243 (Value.pointer (some (er 9))))]))]) (fun x : WithR => (KL.length - x.i).toNat) (fun x : WithR => (0 ≤ x.i ∧ x.i ≤ KL.length)) ⟨0, none, 0, 0⟩ [2, 6, 7, 11, 50, 51, 52] [0, 1] [0, 1, 2, 3] [0, 1, 2, 3, 4, 5] ?_ (by kernel_rfl) rfl rfl rfl ?_
    ·exact ⟨by simp, by simp⟩
    rintro ⟨i, a3, k3, c3⟩ ⟨hi0, hi⟩
    dsimp only at hi0 hi ⊢
    refine J_stpx (stp_acclen 3 rfl) fun _ hk3 => ?_
    have hk4 : k3 ≤ 1000000 := by
     rw [List.length_map] at hk3
     have h1 := List.length_filter_le (fun c : ComT => inL c.when at') (KL.take i.toNat)
     rw [List.length_take] at h1
     omega
    refine Sq mixed [zR 0] [] [2, 6, 7, 11, 50, 51, 52, 53] (fun _ => [zS 2 a1 at'.length c1, zS 6 none 0 0, zV 7 .nilIface, zS 11 a3 k3 c3, zS 50 av KL.length cv, zI 51 (↑KL.length : Int), zI 52 i, zB 53 (decide (i < (↑KL.length : Int)))]) (fun _ => [(b, .cells #[nI (↑base.length : Int), .slice ba base.length cb, .map (some mk), .map (some md)] 133 (0, 0)), (mk, Obj.map es clock)]) (fun _ => ?_)
    refine J_seq ?_
    refine cC (t := decide (i < (↑KL.length : Int))) (fun hlt => ?_) (fun hlt => ?_)
    ·have hlt2 : i < KL.length := by simpa using hlt
     obtain ⟨x, hx⟩ : ∃ x, KL[i.toNat]? = some x := ⟨_, List.getElem?_eq_getElem (by omega)⟩
     obtain ⟨hx1, hx2⟩ := hKv x (List.mem_of_getElem? hx)
     refine J_openacc 1 rfl (by intro h0; rw [List.map_eq_nil_iff] at h0; rw [h0] at hx; simp at hx) fun g cur xs hu _ _ hrow => ?_
     subst hu
     refine J_stpx (stp_readrows 3 rfl i.toNat (map_at hx)) fun ls hls => ?_
     obtain ⟨hls1, hls2⟩ := hls
     obtain ⟨⟨xa, xc⟩, ⟨ya, yc⟩, rfl⟩ := len2 hls1
     have f := fun (j : Nat) v h => hrow.atx (hls2 j v h)
     have r0 := f 0 _ rfl
     have r1 := f 1 _ rfl
     have r2 := f 2 _ rfl
     rw [Nat.add_zero] at r0
     rw [← Nat.zero_add (i.toNat * 3)] at r0 r1 r2
     refine J_norm (C' := [(cMapG md okDot (dotSet (List.map dotP L))), (cStar ((List.map (fun t => cAcc (F t) 28 3 (List.map eCom (keyC L t))) ks).eraseIdx iT)), cAcc (.slice a3 k3 c3) 28 3 (List.map eCom (List.filter (fun c => inL c.when at') (List.take i.toNat KL))), (cRows xs 3 (List.map eCom KL))]) (G' := [(.nilIface, (dC er eb)), (.slice a1 at'.length c1, (dInts at')), (.slice ba base.length cb, (dInts base)), (.pointer (some (⟨1, 0, none⟩)), (D.ptr [D.v (Value.iface 243 (Value.pointer (some (er 4))))])), (.pointer (some (⟨3, 0, none⟩)), (D.ptr [D.v (Value.iface 243 (Value.pointer (some (er 3))))])), (.pointer (some (⟨4, 0, none⟩)), (D.ptr [D.v (Value.iface 243 (Value.pointer (some (er 9))))])), (.slice (xa, xc).fst ((List.map eI x.when).length) xc, (D.sl 1 (List.map eI x.when))), (.slice (ya, yc).fst ((List.map eOp x.ops).length) yc, (D.sl 7 (List.map eOp x.ops)))]) (by kernel_rfl) (by kernel_rfl) ?_
     refine J_skip ?_
     refine J_seq ?_
     refine J_block ?_
     refine Sp mixed [.rd 0 [] 0 2, .rd 1 [.o 2 (some (.slice (xa, xc).fst ((List.map eI x.when).length) xc)), .o 2 (some (nI x.place)), .o 2 (some (.slice (ya, yc).fst ((List.map eOp x.ops).length) yc))] 0 0, .wr 2 [] 0, .wr 3 [.o 3 none, .o 3 none, .o 3 none] 0] [(3, [])] [2, 6, 7, 11, 13, 50, 51, 52] (fun nu1 => [zS 2 a1 at'.length c1, zS 6 none 0 0, zV 7 .nilIface, zS 11 a3 k3 c3, zP 13 (nu1 0), zS 50 (sA g 0) KL.length cv, zI 51 (↑KL.length : Int), zI 52 i]) (fun nu1 => [(b, .cells #[nI (↑base.length : Int), .slice ba base.length cb, .map (some mk), .map (some md)] 133 (0, 0)), (mk, Obj.map es clock), (g, .cells cur 28 (0, 0)), (nu1 0, .cells #[.slice (xa, xc).fst ((List.map eI x.when).length) xc, nI x.place, .slice (ya, yc).fst ((List.map eOp x.ops).length) yc] 28 (0, 0))]) (fun nu1 => [(0 : Int) ≤ i, i < (↑KL.length : Int), cur[(0 : Nat) + i.toNat * (3 : Nat)]? = some (Value.slice (xa, xc).fst (List.map eI x.when).length (xa, xc).snd), cur[(0 : Nat) + i.toNat * (3 : Nat) + (1 : Nat)]? = some (nI x.place), cur[(0 : Nat) + i.toNat * (3 : Nat) + (2 : Nat)]? = some (Value.slice (ya, yc).fst (List.map eOp x.ops).length (ya, yc).snd)]) (fun _ => ⟨hi0, hlt2, r0, r1, r2, trivial⟩) (fun nu1 => ?_)
     refine J_seq ?_
     refine J_hide 2 rfl ?_
     refine J_stp (stp_closeacc 4 3 rfl rfl hrow (by decide)) ?_
     rw [show (List.map eCom KL).length = KL.length from List.length_map ..]
     refine J_norm (C' := [(cMapG md okDot (dotSet (List.map dotP L))), (cStar ((List.map (fun t => cAcc (F t) 28 3 (List.map eCom (keyC L t))) ks).eraseIdx iT)), cAcc (.slice a3 k3 c3) 28 3 (List.map eCom (List.filter (fun c => inL c.when at') (List.take i.toNat KL))), cAcc (.slice (some (⟨g, 0, none⟩)) KL.length cv) 28 3 (List.map eCom KL)]) (G' := [(.nilIface, (dC er eb)), (.slice a1 at'.length c1, (dInts at')), (.slice ba base.length cb, (dInts base)), (.pointer (some (⟨1, 0, none⟩)), (D.ptr [D.v (Value.iface 243 (Value.pointer (some (er 4))))])), (.pointer (some (⟨3, 0, none⟩)), (D.ptr [D.v (Value.iface 243 (Value.pointer (some (er 3))))])), (.pointer (some (⟨4, 0, none⟩)), (D.ptr [D.v (Value.iface 243 (Value.pointer (some (er 9))))])), (.slice (xa, xc).fst ((List.map eI x.when).length) xc, (D.sl 1 (List.map eI x.when))), (.slice (ya, yc).fst ((List.map eOp x.ops).length) yc, (D.sl 7 (List.map eOp x.ops)))]) (by kernel_rfl) (by kernel_rfl) ?_
     refine jB mixed [(0, true), (1, true), (2, true), (3, false), (4, true), (5, true), (6, true), (7, true), (8, true)] [] ?_
     refine Gr (id := 15) (rest := [(3, false), (4, true), (5, true), (6, true), (7, true), (8, true)]) [zR 0, .rd 1 [.o 2 none] 0 0, zR 2] [2, 6, 7, 11, 13, 50, 51, 52, 58, 59] (fun _ => [zS 2 a1 at'.length c1, zS 6 none 0 0, zV 7 .nilIface, zS 11 a3 k3 c3, zP 13 (nu1 0), zS 50 (sA g 0) KL.length cv, zI 51 (↑KL.length : Int), zI 52 i, zS 58 (xa, xc).fst ((List.map eI x.when).length) xc, zS 59 a1 at'.length c1]) (fun _ => [(b, .cells #[nI (↑base.length : Int), .slice ba base.length cb, .map (some mk), .map (some md)] 133 (0, 0)), (mk, Obj.map es clock), (nu1 0, .cells #[.slice (xa, xc).fst ((List.map eI x.when).length) xc, nI x.place, .slice (ya, yc).fst ((List.map eOp x.ops).length) yc] 28 (0, 0))]) (fun _ => ?_)
     refine JR_callp [] 52 #[.slice (xa, xc).fst ((List.map eI x.when).length) xc, .slice a1 at'.length c1] (some 60) (by kernel_rfl) (fun w S hG => ?_)
     refine (vwithin (globs_of (hG.at 0 rfl)) (hG.at 6 rfl) (hG.at 1 rfl) (by omega) hl1).mono ?_
     rintro e4 w4 (⟨hx3, _⟩ | ⟨_, hR⟩)
     ·exact absurd hx1 hx3
     refine ⟨_, _, _, hR, ?_⟩
     cases hxi : inL x.when at' with
     | false =>
      have e9 : (KL.take i.toNat).filter (fun c => inL c.when at') = (KL.take (i + 1).toNat).filter fun c => inL c.when at' := by
       rw [← take_snoc hi0 hx, List.filter_append]
       simp [hxi]
      try simp only [cAp, nAp, aNl]
      refine Gr (id := 15) (rest := []) [zR 4, zR 5, zR 6, zR 7, zR 8] [2, 6, 7, 11, 13, 14, 50, 51, 52] (fun _ => [zS 2 a1 at'.length c1, zS 6 none 0 0, zV 7 .nilIface, zS 11 a3 k3 c3, zP 13 (nu1 0), zB 14 false, zS 50 (sA g 0) KL.length cv, zI 51 (↑KL.length : Int), zI 52 i]) (fun _ => [(b, .cells #[nI (↑base.length : Int), .slice ba base.length cb, .map (some mk), .map (some md)] 133 (0, 0)), (mk, Obj.map es clock), (nu1 0, .cells #[.slice xa ((List.map eI x.when).length) xc, nI x.place, .slice ya ((List.map eOp x.ops).length) yc] 28 (0, 0))]) (fun _ => ?_)
      refine JR_end ?_
      refine Sq mixed [zR 0] [] [2, 6, 7, 11, 13, 14, 50, 51, 52, 63] (fun _ => [zS 2 a1 at'.length c1, zS 6 none 0 0, zV 7 .nilIface, zS 11 a3 k3 c3, zP 13 (nu1 0), zB 14 false, zS 50 (sA g 0) KL.length cv, zI 51 (↑KL.length : Int), zI 52 i, zB 63 false]) (fun _ => [(b, .cells #[nI (↑base.length : Int), .slice ba base.length cb, .map (some mk), .map (some md)] 133 (0, 0)), (mk, Obj.map es clock), (nu1 0, .cells #[.slice xa ((List.map eI x.when).length) xc, nI x.place, .slice ya ((List.map eOp x.ops).length) yc] 28 (0, 0))]) (fun _ => ?_)
      refine cF ?_
      refine J_skip ?_
      refine J_eb ?_
      refine Gp mixed [.rd 0 [] 0 1, zR 1] [] [2, 6, 7, 11, 13, 14, 50, 51, 52] (fun _ => [zS 2 a1 at'.length c1, zS 6 none 0 0, zV 7 .nilIface, zS 11 a3 k3 c3, zP 13 (nu1 0), zB 14 false, zS 50 (sA g 0) KL.length cv, zI 51 (↑KL.length : Int), zI 52 (i + 1)]) (fun _ => [(b, .cells #[nI (↑base.length : Int), .slice ba base.length cb, .map (some mk), .map (some md)] 133 (0, 0)), (mk, Obj.map es clock), (nu1 0, .cells #[.slice xa ((List.map eI x.when).length) xc, nI x.place, .slice ya ((List.map eOp x.ops).length) yc] 28 (0, 0))]) (fun _ => [IntKind.i64.wrap (i + (1 : Int)) = i + (1 : Int)]) (fun _ => ⟨wrap_i64 (by omega) (by omega), trivial⟩) (fun _ => ?_)
      rw [e9]
      refine J_backx ⟨i + 1, _, _, _⟩ [2, 6, 7, 11, 50, 51, 52] [0, 1] [0, 3, 1, 2] [0, 1, 2, 3, 4, 5] ?_ ?_ (by kernel_rfl) rfl rfl rfl
      ·exact ⟨by simp only; omega, by simp only; omega⟩
      ·simp only
       omega
     | true =>
      have e9 : (KL.take i.toNat).filter (fun c => inL c.when at') ++ [x] = (KL.take (i + 1).toNat).filter fun c => inL c.when at' := by
       rw [← take_snoc hi0 hx, List.filter_append]
       simp [hxi]
      try simp only [cAp, nAp, aNl]
      refine Gr (id := 15) (rest := []) [zR 4, zR 5, zR 6, zR 7, zR 8] [2, 6, 7, 11, 13, 14, 50, 51, 52] (fun _ => [zS 2 a1 at'.length c1, zS 6 none 0 0, zV 7 .nilIface, zS 11 a3 k3 c3, zP 13 (nu1 0), zB 14 true, zS 50 (sA g 0) KL.length cv, zI 51 (↑KL.length : Int), zI 52 i]) (fun _ => [(b, .cells #[nI (↑base.length : Int), .slice ba base.length cb, .map (some mk), .map (some md)] 133 (0, 0)), (mk, Obj.map es clock), (nu1 0, .cells #[.slice xa ((List.map eI x.when).length) xc, nI x.place, .slice ya ((List.map eOp x.ops).length) yc] 28 (0, 0))]) (fun _ => ?_)
      refine JR_end ?_
      refine Sq mixed [zR 0] [] [2, 6, 7, 11, 13, 14, 50, 51, 52, 63] (fun _ => [zS 2 a1 at'.length c1, zS 6 none 0 0, zV 7 .nilIface, zS 11 a3 k3 c3, zP 13 (nu1 0), zB 14 true, zS 50 (sA g 0) KL.length cv, zI 51 (↑KL.length : Int), zI 52 i, zB 63 true]) (fun _ => [(b, .cells #[nI (↑base.length : Int), .slice ba base.length cb, .map (some mk), .map (some md)] 133 (0, 0)), (mk, Obj.map es clock), (nu1 0, .cells #[.slice xa ((List.map eI x.when).length) xc, nI x.place, .slice ya ((List.map eOp x.ops).length) yc] 28 (0, 0))]) (fun _ => ?_)
      refine cTt ?_
      refine jB mixed [(0, true), (1, true), (2, false), (3, false), (4, true)] [] ?_
      refine Gr (id := 17) (rest := [(3, false), (4, true)]) [zR 0, .rd 1 [.o 2 none, .o 2 none, .o 2 none] 0 0, .wr 2 [] 0] [2, 6, 7, 11, 13, 14, 50, 51, 52, 64, 66] (fun nu2 => [zS 2 a1 at'.length c1, zS 6 none 0 0, zV 7 .nilIface, zS 11 a3 k3 c3, zP 13 (nu1 0), zB 14 true, zS 50 (sA g 0) KL.length cv, zI 51 (↑KL.length : Int), zI 52 i, zS 64 a3 k3 c3, zS 66 (sA (nu2 0) 0) 1 1]) (fun nu2 => [(b, .cells #[nI (↑base.length : Int), .slice ba base.length cb, .map (some mk), .map (some md)] 133 (0, 0)), (mk, Obj.map es clock), (nu1 0, .cells #[.slice xa ((List.map eI x.when).length) xc, nI x.place, .slice ya ((List.map eOp x.ops).length) yc] 28 (0, 0)), (nu2 0, .cells #[.slice xa ((List.map eI x.when).length) xc, nI x.place, .slice ya ((List.map eOp x.ops).length) yc] 28 (0, 0))]) (fun nu2 => ?_)
      refine JR_appm 2 43 28 3 56 (.agg #[.slice none 0 0, .int .i64 0, .slice none 0 0]) (a0 := a3) (len := k3) (cap0 := c3) (ax := (some (⟨nu2 0, 0, none⟩))) (m := 1) (c := 1) (dst := (some 67)) [x] (by kernel_rfl) (by kernel_rfl) (by kernel_rfl) (by kernel_rfl) rfl (by decide) rfl (fun _ _ _ s => src_one s 3 rfl rfl ⟨.inr (.inl (List.mem_of_getElem? (i := 6) rfl)), ⟨.inl ⟨rfl, rfl⟩, ⟨.inr (.inl (List.mem_of_getElem? (i := 7) rfl)), trivial⟩⟩⟩) (by simp only [maxLen]; omega) (by omega) (fun av1 cv1 => ?_)
      rw [e9]
      try simp only [cAp, nAp, aNl]
      refine Gr (id := 17) (rest := []) [zR 4] [2, 6, 7, 11, 13, 14, 50, 51, 52] (fun _ => [zS 2 a1 at'.length c1, zS 6 none 0 0, zV 7 .nilIface, zS 11 av1 (k3 + 1) cv1, zP 13 (nu1 0), zB 14 true, zS 50 (sA g 0) KL.length cv, zI 51 (↑KL.length : Int), zI 52 i]) (fun _ => [(b, .cells #[nI (↑base.length : Int), .slice ba base.length cb, .map (some mk), .map (some md)] 133 (0, 0)), (mk, Obj.map es clock), (nu1 0, .cells #[.slice xa ((List.map eI x.when).length) xc, nI x.place, .slice ya ((List.map eOp x.ops).length) yc] 28 (0, 0)), (nu2 0, .cells #[.slice xa ((List.map eI x.when).length) xc, nI x.place, .slice ya ((List.map eOp x.ops).length) yc] 28 (0, 0))]) (fun _ => ?_)
      try simp only [cAp, nAp, aNl]
      refine JR_end ?_
      try simp only [cAp, nAp, aNl]
      refine J_eb ?_
      try simp only [cAp, nAp, aNl]
      refine Gp mixed [.rd 0 [] 0 1, zR 1] [] [2, 6, 7, 11, 13, 14, 50, 51, 52] (fun _ => [zS 2 a1 at'.length c1, zS 6 none 0 0, zV 7 .nilIface, zS 11 av1 (k3 + 1) cv1, zP 13 (nu1 0), zB 14 true, zS 50 (sA g 0) KL.length cv, zI 51 (↑KL.length : Int), zI 52 (i + 1)]) (fun _ => [(b, .cells #[nI (↑base.length : Int), .slice ba base.length cb, .map (some mk), .map (some md)] 133 (0, 0)), (mk, Obj.map es clock), (nu1 0, .cells #[.slice xa ((List.map eI x.when).length) xc, nI x.place, .slice ya ((List.map eOp x.ops).length) yc] 28 (0, 0)), (nu2 0, .cells #[.slice xa ((List.map eI x.when).length) xc, nI x.place, .slice ya ((List.map eOp x.ops).length) yc] 28 (0, 0))]) (fun _ => [IntKind.i64.wrap (i + (1 : Int)) = i + (1 : Int)]) (fun _ => ⟨wrap_i64 (by omega) (by omega), trivial⟩) (fun _ => ?_)
      try simp only [cAp, nAp, aNl]
      refine J_backx ⟨i + 1, _, _, _⟩ [2, 6, 7, 11, 50, 51, 52] [0, 1] [0, 2, 1, 3] [0, 1, 2, 3, 4, 5] ?_ ?_ (by kernel_rfl) rfl rfl rfl
      ·exact ⟨by simp only; omega, by simp only; omega⟩
      ·simp only
       omega
    ·have hil : KL.take i.toNat = KL := List.take_of_length_le (by simp at hlt; omega)
     rw [hil, List.take_length]
     refine J_exit rfl ?_
     refine Sq mixed [zR 0, zR 1, zR 2] [] [6, 7] (fun _ => [zS 6 a3 k3 c3, zV 7 .nilIface]) (fun _ => [(b, .cells #[nI (↑base.length : Int), .slice ba base.length cb, .map (some mk), .map (some md)] 133 (0, 0)), (mk, Obj.map es clock)]) (fun _ => ?_)
     refine J_return [[], []] (.tuple #[.slice a3 k3 c3, .nilIface]) (by kernel_rfl) (fun a w s => ?_)
     have hjn : (ks.map fun t => cAcc (F t) 28 3 ((keyC L t).map eCom))[iT]? = some (cAcc (.slice av KL.length cv) 28 3 (KL.map eCom)) := by
      rw [List.getElem?_map, hit]
      show some (cAcc (F key) _ 3 ((keyC L key).map eCom)) = _
      rw [hF, hKL]
     exact .inr ⟨by first | rfl | trivial, _, _, _, ((((s.stp (stp_freeze 3 rfl)).stp (stp_join 1 2 iT (cs' := ks.map fun t => cAcc (F t) 28 3 ((keyC L t).map eCom)) rfl rfl (by decide) hjn rfl)).hide 0 rfl).hide 0 rfl).ret (by simp) [2, 3, 1, 0] [6] rfl rfl⟩
  ·have ho0 : keyC L key = [] := Classical.byContradiction fun h => hT ((hiff _).2 h)
   refine jB mixed [(0, true), (1, true), (2, true), (3, true), (4, true), (5, true), (6, true), (7, true)] [] ?_
   refine Gr (id := 12) (rest := [(5, true), (6, true), (7, true)]) [zR 0, zR 1, zR 2, .rd 3 [.o 0 none] 0 0, zR 4] [2, 6, 7, 11, 48, 49] (fun _ => [zS 2 a1 at'.length c1, zS 6 none 0 0, zV 7 .nilIface, zS 11 none 0 0, zV 48 (.map (some mk)), zV 49 (.string key)]) (fun _ => [(b, .cells #[nI (↑base.length : Int), .slice ba base.length cb, .map (some mk), .map (some md)] 133 (0, 0)), (mk, Obj.map es clock)]) (fun _ => ?_)
   refine JRg_lookr (.o 1 none) mk 130 9 43 (MapKept.IsKey TypeDesc.string) (.string key) (.slice none 0 0) false (some 50) (by kernel_rfl) (by kernel_rfl) (by kernel_rfl) keyOk_9 (by first | exact ⟨_, _, _, rfl⟩ | simp [MapKept.IsKey]) (by kernel_rfl) rfl hm (fun hno => ?_) (fun v hv => ?_)
   ·have hw0 : withinC L key at' = [] := by rw [withinC, ho0]; rfl
    rw [hw0]
    refine Gr (id := 12) (rest := []) [zR 6, zR 7] [2, 6, 7, 11, 50, 51, 52] (fun _ => [zS 2 a1 at'.length c1, zS 6 none 0 0, zV 7 .nilIface, zS 11 none 0 0, zS 50 none 0 0, zI 51 0, zI 52 0]) (fun _ => [(b, .cells #[nI (↑base.length : Int), .slice ba base.length cb, .map (some mk), .map (some md)] 133 (0, 0)), (mk, Obj.map es clock)]) (fun _ => ?_)
    refine JR_end ?_
    refine J_block ?_
    refine J_loop1 fun I => ?_
    refine Sq mixed [zR 0] [] [2, 6, 7, 11, 50, 51, 52, 53] (fun _ => [zS 2 a1 at'.length c1, zS 6 none 0 0, zV 7 .nilIface, zS 11 none 0 0, zS 50 none 0 0, zI 51 0, zI 52 0, zB 53 false]) (fun _ => [(b, .cells #[nI (↑base.length : Int), .slice ba base.length cb, .map (some mk), .map (some md)] 133 (0, 0)), (mk, Obj.map es clock)]) (fun _ => ?_)
    refine J_seq ?_
    refine cF ?_
    refine J_exit rfl ?_
    refine Sq mixed [zR 0, zR 1, zR 2] [] [6, 7] (fun _ => [zS 6 none 0 0, zV 7 .nilIface]) (fun _ => [(b, .cells #[nI (↑base.length : Int), .slice ba base.length cb, .map (some mk), .map (some md)] 133 (0, 0)), (mk, Obj.map es clock)]) (fun _ => ?_)
    refine J_return [[], []] (.tuple #[.slice none 0 0, .nilIface]) (by kernel_rfl) (fun a w s => ?_)
    exact .inr ⟨by first | rfl | trivial, _, _, _, (((s.stp (stp_fact (v := .slice none 0 0) (d := .sl 3 (([] : List ComT).map eCom)) fun _ _ _ => .nil)).hide 0 rfl).hide 0 rfl).ret (by simp) [2, 3, 0, 1] [6] rfl rfl⟩
   ·rw [strG_out hT] at hv
    cases hv
end Go.Proofs.YtpjkiomccpjboaaGreatDoor
end
section
namespace Go.Proofs.YtpjkiomccpjboaaGreatDoor
open Go Go.Sx
theorem opErrAt_iff {l : List OpT} {p : Int} {i : Nat} {o : OpT} (h : l[i]? = some o) : opErrAt l p i = 0 ↔ opErr o p = 0 ∧ ∀ q, 0 < i → l[i - 1]? = some q → q.no < o.no := by
 by_cases h0 : opErr o p = 0
 ·cases i with
  | zero => exact ⟨fun _ => ⟨h0, fun q h => absurd h (by omega)⟩, fun _ => opErrAt_first h h0⟩
  | succ i =>
   have hi := (List.getElem?_eq_some_iff.1 h).1
   obtain ⟨q, hq⟩ : ∃ q, l[i]? = some q := ⟨_, List.getElem?_eq_getElem (by omega)⟩
   rw [opErrAt_next h hq h0]
   constructor
   ·intro h1
    refine ⟨h0, fun q' _ hq' => ?_⟩
    rw [Nat.add_sub_cancel, hq] at hq'
    cases hq'
    split at h1
    ·cases h1
    ·omega
   ·rintro ⟨_, h1⟩
    have := h1 q (by omega) (by rw [Nat.add_sub_cancel]; exact hq)
    rw [if_neg (by omega)]
 ·rw [opErrAt_own h h0]
  exact ⟨fun h1 => absurd h1 h0, fun h1 => absurd h1.1 h0⟩
theorem ops_fine {l : List OpT} {p : Int} : (∀ j, j < l.length → opErrAt l p j = 0) ↔ (∀ o ∈ l, opErr o p = 0) ∧ l.Pairwise fun a b => a.no < b.no := by
 constructor
 ·intro h
  have h1 : ∀ j (hj : j < l.length), opErr l[j] p = 0 ∧ ∀ q, 0 < j → l[j - 1]? = some q → q.no < l[j].no := fun j hj => (opErrAt_iff (List.getElem?_eq_getElem hj)).1 (h j hj)
  have h2 : ∀ j (hj : j < l.length) i (hi : i < j), (l[i]'(by omega)).no < l[j].no := by
   intro j
   induction j with
   | zero => exact fun _ i hi => absurd hi (by omega)
   | succ j ih =>
    intro hj i hi
    have h3 := (h1 (j + 1) hj).2 (l[j]'(by omega)) (by omega) (by rw [Nat.add_sub_cancel]; exact List.getElem?_eq_getElem _)
    rcases Nat.lt_or_ge i j with h4 | h4
    ·exact Int.lt_trans (ih (by omega) i h4) h3
    ·obtain rfl : i = j := by omega
     exact h3
  refine ⟨fun o ho => ?_, List.pairwise_iff_getElem.2 fun i j hi hj hij => h2 j hj i hij⟩
  obtain ⟨j, hj, rfl⟩ := List.getElem_of_mem ho
  exact (h1 j hj).1
 ·rintro ⟨h1, h2⟩ j hj
  refine (opErrAt_iff (List.getElem?_eq_getElem hj)).2 ⟨h1 _ (List.getElem_mem _), fun q h0 hq => ?_⟩
  obtain ⟨hq1, rfl⟩ := List.getElem?_eq_some_iff.1 hq
  exact List.pairwise_iff_getElem.1 h2 (j - 1) j hq1 hj (by omega)
theorem comFault_mk {c : ComT} (h1 : vecErr c.when = 0) (h2 : 0 ≤ c.place) (h3 : c.place < c.when.length) (h4 : c.ops.length ≤ 12) (h5 : c.when[c.place.toNat]? ≠ some 0) (h6 : c.ops ≠ []) (h7 : ∀ o ∈ c.ops, opErr o c.when.length = 0) (h8 : c.ops.Pairwise fun a b => a.no < b.no) : (comFault c).code = 0 := by
 have h9 : ¬ c.ops.length = 0 := fun h => h6 (List.length_eq_zero_iff.1 h)
 have h10 := ops_fine.2 ⟨h7, h8⟩
 rw [comFault, if_neg (by simp [h1]), if_neg (by omega), if_neg h5, if_neg h9, (opsFault_from c.ops.length 0 c.ops.length (Nat.zero_le _) fun j _ hj => h10 j hj).1 (by omega)]
theorem right_pair {c : ComT} (h : (comFault c).code = 0) : c.ops.Pairwise fun a b => a.no < b.no := by
 have hr := right_of h
 rw [← hr.op] at h
 exact (ops_fine.1 (opsFault_zero h)).2
theorem valFault_mk {key : ByteArray} {l : List ComT} (hk : nameOk key = true) (h : ∀ c ∈ l, (comFault c).code = 0) (m : Nat) (hm : ∀ c ∈ l, c.when.length = m) : (valFault key l).code = 0 := by
 rw [valFault, if_neg (by simp [hk]), listFault_none fun j hj => ?_]
 have hj2 : l[j]? = some l[j] := List.getElem?_eq_getElem hj
 refine comErrAt_fine hj2 (h _ (List.getElem_mem _)) ?_
 rw [hm _ (List.getElem_mem _)]
 match l, hj, hm with
 | c :: r, _, hm => exact (hm c (List.mem_cons_self ..)).symm
structure PartOf (c' c : ComT) : Prop where
 place : c'.place = c.place
 time : c'.when = c.when
 ne : c'.ops ≠ []
 ops : c'.ops.Sublist c.ops
theorem PartOf.fault {c' c : ComT} (h : PartOf c' c) (hc : (comFault c).code = 0) : (comFault c').code = 0 := by
 have hr := right_of hc
 obtain ⟨h1, h2, h3, h4⟩ := h
 refine comFault_mk (by rw [h2]; exact hr.vec) (by rw [h1]; exact hr.p0) (by rw [h1, h2]; exact hr.p1) (Nat.le_trans h4.length_le hr.o2) (by rw [h1, h2]; exact hr.t0) h3 (fun o ho => ?_) ((right_pair hc).sublist h4)
 rw [h2]
 exact right_ops hc o (h4.subset ho)
theorem mem_allDone {l : List ComT} {x : DoneT} : x ∈ allDone l ↔ ∃ c ∈ l, ∃ o ∈ c.ops, x = doneOf c o := by
 unfold allDone
 rw [List.mem_flatMap]
 constructor
 ·rintro ⟨c, hc, h⟩
  obtain ⟨o, ho, rfl⟩ := List.mem_map.1 h
  exact ⟨c, hc, o, ho, rfl⟩
 ·rintro ⟨c, hc, o, ho, rfl⟩
  exact ⟨c, hc, List.mem_map_of_mem ho⟩
theorem PartOf.done {c' c : ComT} (h : PartOf c' c) (o : OpT) : doneOf c' o = doneOf c o := by
 simp only [doneOf, dotOf, h.place, h.time]
theorem firsts_mem {A : List DoneT} (hf : ∀ x ∈ A, ∀ y ∈ A, x.d = y.d → x = y) {x : DoneT} : x ∈ firsts [] A ↔ x ∈ A := by
 refine ⟨fun h => (firsts_sub h).1, fun h => ?_⟩
 obtain ⟨y, hy, he⟩ := firsts_has (s := []) h (by simp)
 obtain rfl := hf y (firsts_sub hy).1 x h he
 exact hy
theorem opsRaw_nodup (key : ByteArray) (l : List ComT) : ((opsRaw key l).map (·.d)).Nodup := (firsts_nodup (s := []) (l := allDone l)).sublist ((List.filter_sublist ..).map _)
theorem opsOf_strict (key : ByteArray) (l : List ComT) : (opsOf key l).Pairwise fun a b => doneLt a b = true := by
 have hn := opsRaw_nodup key l
 rw [opsOf, ← sort_done hn]
 refine (insG_fold doneLt (fun _ _ _ => doneLt_trans) List.Pairwise.nil (by simp) ((List.pairwise_map.1 hn).imp fun {a b} hne => ?_)).1
 rcases doneLt_tri a b with h1 | h1 | h1
 ·exact .inl h1
 ·exact absurd (doneKey_dot h1) hne
 ·exact .inr h1
theorem opsOf_mem {key : ByteArray} {l : List ComT} {x : DoneT} : x ∈ opsOf key l ↔ x ∈ firsts [] (allDone l) ∧ x.o.key = key := by
 rw [opsOf, sortDone, List.mem_mergeSort, opsRaw, List.mem_filter, decide_eq_true_eq]
theorem opsOf_same {key : ByteArray} {l l' : List ComT} (hf : ∀ x ∈ allDone l, ∀ y ∈ allDone l, x.d = y.d → x = y) (hm : ∀ x, x ∈ allDone l' ↔ x ∈ allDone l) : opsOf key l' = opsOf key l := by
 refine eq_of_sorted (lt := fun a b => doneLt a b = true) (fun _ _ => doneLt_asymm) (opsOf_strict key l') (opsOf_strict key l) fun x => ?_
 rw [opsOf_mem, opsOf_mem, firsts_mem hf, firsts_mem fun x hx y hy => hf x ((hm x).1 hx) y ((hm y).1 hy), hm]
theorem valOf_same {key : ByteArray} {l l' : List ComT} (h : opsOf key l' = opsOf key l) : Sx.valOf key l' = Sx.valOf key l := by
 simp only [Sx.valOf, ofKey, h]
def Apart (l : List ComT) : Prop := ∀ (i k : Nat) (c d : ComT), k < i → l[i]? = some c → l[k]? = some d → ¬ (d.place = c.place ∧ d.when.getD d.place.toNat 0 = c.when.getD c.place.toNat 0)
theorem Apart.fun {l : List ComT} (h : Apart l) (hr : ∀ c ∈ l, (comFault c).code = 0) : ∀ x ∈ allDone l, ∀ y ∈ allDone l, x.d = y.d → x = y := by
 intro x hx y hy he
 obtain ⟨c, hc, o, ho, rfl⟩ := mem_allDone.1 hx
 obtain ⟨d, hd, q, hq, rfl⟩ := mem_allDone.1 hy
 obtain ⟨i, hi⟩ := List.getElem?_of_mem hc
 obtain ⟨k, hk⟩ := List.getElem?_of_mem hd
 simp only [doneOf, dotOf, DotT.mk.injEq] at he
 obtain ⟨e1, e2, e3⟩ := he
 have hik : i = k := by
  rcases Nat.lt_trichotomy i k with hlt | heq | hlt
  ·exact absurd ⟨e1, e2⟩ (h k i d c hlt hk hi)
  ·exact heq
  ·exact absurd ⟨e1.symm, e2.symm⟩ (h i k c d hlt hi hk)
 subst hik
 rw [hi] at hk
 cases hk
 have hp := right_pair (hr c hc)
 obtain ⟨a, ha, rfl⟩ := List.getElem_of_mem ho
 obtain ⟨b, hb, rfl⟩ := List.getElem_of_mem hq
 have hab : a = b := by
  rcases Nat.lt_trichotomy a b with hlt | heq | hlt
  ·have := List.pairwise_iff_getElem.1 hp a b ha hb hlt
   omega
  ·exact heq
  ·have := List.pairwise_iff_getElem.1 hp b a hb ha hlt
   omega
 subst hab
 rfl
end Go.Proofs.YtpjkiomccpjboaaGreatDoor
end
section
namespace Go.Proofs.YtpjkiomccpjboaaGreatDoor
open Go Go.Sx
theorem withinC_fine {L : List PutT} {key : ByteArray} {at' : List Int} {p : Nat} (hk : nameOk key = true) (h : ∀ q ∈ L, (comFault (oneC q)).code = 0 ∧ q.when.length = p) : (valFault key (withinC L key at')).code = 0 := by
 refine valFault_mk hk (fun c hc => ?_) p fun c hc => ?_
 ·obtain ⟨q, hq, rfl⟩ := mem_keyC (List.mem_filter.1 hc).1
  exact (h q hq).1
 ·obtain ⟨q, hq, rfl⟩ := mem_keyC (List.mem_filter.1 hc).1
  exact (h q hq).2
theorem withinC_len (L : List PutT) (key : ByteArray) (at' : List Int) : (withinC L key at').length ≤ L.length :=
 Nat.le_trans (List.length_filter_le _ _) (keyC_len L key)
noncomputable abbrev chV (b mk md : Nat) (ba : Option Addr) (p nb cb clock : Nat) (es : Array MapEntry) (ks : List ByteArray) (F : ByteArray → Value) (L : List PutT) : List Chunk := [cObj b (.cells #[.int .i64 p, .slice ba nb cb, .map (some mk), .map (some md)] 133 (0, 0)), cObj mk (.map es clock), cStar (ks.map fun t => cAcc (F t) 28 3 ((keyC L t).map eCom)), cMapG md okDot (dotSet (L.map dotP))]
set_option maxHeartbeats 4000000 in
theorem vRead {w : World} {S : Nat → Prop} {M : List Nat} {er : Nat → Addr} {eb : Nat → Array Value × TypeId} {b mk md : Nat} {ba a1 : Option Addr} {p nb cb n1 c1 clock : Nat} {base at' : List Int} {es : Array MapEntry} {ks : List ByteArray} {F : ByteArray → Value} {L : List PutT} {key : ByteArray} (hC : Rep w S .nilIface (dC er eb))
  (hP : Pre w S M (chV b mk md ba p nb cb clock es ks F L))
  (hb : Rep w S (.slice ba nb cb) (dInts base)) (hbv : vecErr base = 0) (hbl : base.length = p) (h1 : Rep w S (.slice a1 n1 c1) (dInts at')) (hl1 : at'.length ≤ 1000000) (hL : L.length ≤ 300000) (hLr : ∀ q ∈ L, (comFault (oneC q)).code = 0 ∧ q.when.length = p)
  (hm : MapG (MapKept.IsKey .string) es (strG ks F)) (hnd : ks.Nodup) (hiff : ∀ t, t ∈ ks ↔ keyC L t ≠ []) :
  Calls Tryz.prog 38 #[.pointer (some ⟨b, 0, none⟩), .string key, .slice a1 n1 c1] w fun e w' =>
   (atErr p base key at' ≠ 0 ∧ Ret M (zero w) S w' e (.tuple #[valZ, .iface 243 (.pointer (some (er (atErr p base key at'))))]) (chV b mk md ba p nb cb clock es ks F L) []) ∨
   (atErr p base key at' = 0 ∧ ∃ ua un uc, Ret M (zero w) S w' e (.tuple #[valA (Sx.valOf key (withinC L key at')) (.slice ua un uc), .nilIface]) (chV b mk md ba p nb cb clock es ks F L) [(.slice ua un uc, dStrs (Sx.valOf key (withinC L key at')).set)]) := by
 have hLv : ∀ q ∈ L, vecErr q.when = 0 ∧ q.when.length = p := fun q hq => ⟨(right_of (hLr q hq).1).vec, (hLr q hq).2⟩
 have hvl := vecErr_len hbv
 refine en38 (args := [.pointer (some ⟨b, 0, none⟩), .string key, .slice a1 n1 c1]) (S := S) (G := [(_, dC er eb), (_, dInts at'), (_, dInts base)]) (by kernel_rfl) hP (.cons hC (.cons h1 (.cons hb (.nil _ _)))) ?_
 refine J_zero ?_
 refine Sq mixed [.wr 0 [] 0, zR 1] [] [0, 1, 2, 6, 7] (fun nu1 => [zP 0 b, zV 1 (.string key), zS 2 a1 n1 c1, zP 6 (nu1 0), zV 7 .nilIface]) (fun nu1 => [(nu1 0, .cells #[nI 0, .string (ByteArray.mk #[]), nI 0, .slice none 0 0] 47 (0, 0))]) (fun nu1 => ?_)
 refine J_seq ?_
 refine jB mixed [(0, true), (1, true), (2, true), (3, false), (4, true), (5, true), (6, true), (7, true), (8, true)] [] ?_
 refine Gr (id := 1) (rest := [(3, false), (4, true), (5, true), (6, true), (7, true), (8, true)]) [zR 0, zR 1, zR 2] [1, 6, 7, 11, 12, 13] (fun _ => [zV 1 (.string key), zP 6 (nu1 0), zV 7 .nilIface, zP 11 b, zV 12 (.string key), zS 13 a1 n1 c1]) (fun _ => [(nu1 0, .cells #[nI 0, .string (ByteArray.mk #[]), nI 0, .slice none 0 0] 47 (0, 0))]) (fun _ => ?_)
 refine JR_call [] [0, 1, 2, 3] 78 #[.pointer (some (⟨b, 0, none⟩)), .string key, .slice a1 n1 c1] (some 14) (by kernel_rfl) (by kernel_rfl) (by decide) (fun w S M hP hG _ => ?_)
 refine (vWithinK (key := key) (hG.at 0 rfl) hP (hG.at 2 rfl) hbv hbl (hG.at 1 rfl) hl1 (by omega) hLv hm hnd hiff).mono ?_
 rintro e1 w1 (⟨hae, hR⟩ | ⟨hae, ua, un, uc, hR⟩)
 ·refine ⟨_, _, _, hR, ?_⟩
  try simp only [cAp, nAp, aNl]
  refine Gr (id := 1) (rest := []) [zR 4, zR 5, zR 6, zR 7, zR 8] [1, 6, 7, 8, 9] (fun _ => [zV 1 (.string key), zP 6 (nu1 0), zV 7 .nilIface, zS 8 none 0 0, zV 9 (.iface 243 (.pointer (some (er (atErr p base key at')))))]) (fun _ => [(nu1 0, .cells #[nI 0, .string (ByteArray.mk #[]), nI 0, .slice none 0 0] 47 (0, 0))]) (fun _ => ?_)
  try simp only [cAp, nAp, aNl]
  refine JR_end ?_
  try simp only [cAp, nAp, aNl]
  refine J_seq ?_
  try simp only [cAp, nAp, aNl]
  refine J_seq ?_
  try simp only [cAp, nAp, aNl]
  refine Gq mixed [zR 0, zR 1] [] [1, 6, 7, 8, 9, 18] (fun _ => [zV 1 (.string key), zP 6 (nu1 0), zV 7 .nilIface, zS 8 none 0 0, zV 9 (.iface 243 (.pointer (some (er (atErr p base key at'))))), zB 18 true]) (fun _ => [(nu1 0, .cells #[nI 0, .string (ByteArray.mk #[]), nI 0, .slice none 0 0] 47 (0, 0))]) (fun _ => ?_)
  try simp only [cAp, nAp, aNl]
  refine cTt ?_
  try simp only [cAp, nAp, aNl]
  refine J_seq ?_
  try simp only [cAp, nAp, aNl]
  refine Gq mixed [zR 0, zR 1, .wr 2 [.o 0 none, .o 0 none, .o 0 none, .o 0 none] 0, zR 3] [(2, [0])] [1, 6, 7, 8] (fun _ => [zV 1 (.string key), zP 6 (nu1 0), zV 7 (.iface 243 (.pointer (some (er (atErr p base key at'))))), zS 8 none 0 0]) (fun _ => [(nu1 0, .cells #[nI 0, .string (ByteArray.mk #[]), nI 0, .slice none 0 0] 47 (0, 0))]) (fun _ => ?_)
  try simp only [cAp, nAp, aNl]
  refine J_return [[.o 0 none, .o 0 none, .o 0 none, .o 0 none], []] (.tuple #[.agg #[.int .i64 0, .string (ByteArray.mk #[]), .int .i64 0, .slice none 0 0], .iface 243 (.pointer (some (er (atErr p base key at'))))]) (by kernel_rfl) (fun a w s => ?_)
  exact .inl ⟨hae, s.retz (by simp) [0, 1, 2, 3] [] rfl rfl⟩
 ·have hnm : nameOk key = true := by
   cases hn : nameOk key with
   | true => rfl
   | false =>
    rw [atErr, if_pos hn] at hae
    cases hae
  have hvf := withinC_fine (key := key) (at' := at') hnm hLr
  have hwl := withinC_len L key at'
  have hwm : ∀ x ∈ withinC L key at', x.when.length ≤ 1000000 ∧ x.ops.length ≤ 1000000 := fun x hx => by
   obtain ⟨q, hq, rfl⟩ := mem_keyC (List.mem_filter.1 hx).1
   refine ⟨?_, by simp [oneC]⟩
   show q.when.length ≤ 1000000
   have := (hLr q hq).2
   omega
  refine ⟨_, _, _, hR, ?_⟩
  try simp only [cAp, nAp, aNl]
  refine Gr (id := 1) (rest := []) [zR 4, zR 5, zR 6, zR 7, zR 8] [1, 6, 7, 8, 9] (fun _ => [zV 1 (.string key), zP 6 (nu1 0), zV 7 .nilIface, zS 8 ua un uc, zV 9 .nilIface]) (fun _ => [(nu1 0, .cells #[nI 0, .string (ByteArray.mk #[]), nI 0, .slice none 0 0] 47 (0, 0))]) (fun _ => ?_)
  try simp only [cAp, nAp, aNl]
  refine JR_end ?_
  try simp only [cAp, nAp, aNl]
  refine J_seq ?_
  try simp only [cAp, nAp, aNl]
  refine J_seq ?_
  try simp only [cAp, nAp, aNl]
  refine Gq mixed [zR 0, zR 1] [] [1, 6, 7, 8, 9, 18] (fun _ => [zV 1 (.string key), zP 6 (nu1 0), zV 7 .nilIface, zS 8 ua un uc, zV 9 .nilIface, zB 18 false]) (fun _ => [(nu1 0, .cells #[nI 0, .string (ByteArray.mk #[]), nI 0, .slice none 0 0] 47 (0, 0))]) (fun _ => ?_)
  try simp only [cAp, nAp, aNl]
  refine cF ?_
  try simp only [cAp, nAp, aNl]
  refine J_skip ?_
  try simp only [cAp, nAp, aNl]
  refine J_seq ?_
  try simp only [cAp, nAp, aNl]
  refine jB mixed [(0, true), (1, true), (2, false), (3, true), (4, true), (5, false), (6, true)] [] ?_
  refine Gr (id := 4) (rest := [(2, false), (3, true), (4, true), (5, false), (6, true)]) [zR 0, zR 1] [6, 7, 21, 22] (fun _ => [zP 6 (nu1 0), zV 7 .nilIface, zV 21 (.string key), zS 22 ua un uc]) (fun _ => [(nu1 0, .cells #[nI 0, .string (ByteArray.mk #[]), nI 0, .slice none 0 0] 47 (0, 0))]) (fun _ => ?_)
  refine JR_callzp [] 21 #[.string key, .slice ua un uc] (some 23) zero_all (by kernel_rfl) (fun w S hG => ?_)
  refine (vOf (key := key) (hG.at 0 rfl) (hG.at 3 rfl) (by omega) (fun x hx => (hwm x hx).1) (fun x hx => (hwm x hx).2)).mono ?_
  rintro e2 w2 (⟨hc, _⟩ | ⟨hc, va, vn, vc, hR⟩)
  ·exact absurd hvf hc
  refine ⟨_, _, _, hR, ?_⟩
  try simp only [cAp, nAp, aNl]
  refine Gr (id := 4) (rest := []) [zR 3, zR 4, .wr 5 [.o 0 none, .o 0 none, .o 0 none, .o 0 none] 0, zR 6] [6, 7] (fun _ => [zP 6 (nu1 0), zV 7 .nilIface]) (fun _ => [(nu1 0, .cells #[nI ((Sx.valOf key (withinC L key at')).kind), .string ((Sx.valOf key (withinC L key at')).text), nI ((Sx.valOf key (withinC L key at')).n), .slice va vn vc] 47 (0, 0))]) (fun _ => ?_)
  try simp only [cAp, nAp, aNl]
  refine JR_end ?_
  try simp only [cAp, nAp, aNl]
  refine J_return [[.o 0 none, .o 0 none, .o 0 none, .o 0 none], []] (.tuple #[.agg #[.int .i64 ((Sx.valOf key (withinC L key at')).kind), .string ((Sx.valOf key (withinC L key at')).text), .int .i64 ((Sx.valOf key (withinC L key at')).n), .slice va vn vc], .nilIface]) (by kernel_rfl) (fun a w s => ?_)
  exact .inr ⟨hae, _, _, _, s.retz (by simp) [0, 1, 2, 3] [4] rfl rfl⟩
end Go.Proofs.YtpjkiomccpjboaaGreatDoor
end
section
namespace Go.Proofs.YtpjkiomccpjboaaGreatDoor
open Go Go.Sx Go.RowKit Go.Maps Go.Sort Go.Shelf
theorem vKeysB {w : World} {S : Nat → Prop} {mb : Nat} : Calls Tryz.prog 83 #[.map (some mb)] w fun e w' => ∃ b ty, Ret [] w S w' e (.func (.func 113) #[] #[.pointer (some ⟨b, 0, none⟩)]) [] [(.pointer (some ⟨b, 0, none⟩), .obj (.cells #[.map (some mb)] ty (0, 0)))] := by
 refine ep83 (args := [.map (some mb)]) (S := S) (G := []) (by kernel_rfl) (.nil _ _) ?_
 refine Sq mixed [.wr 0 [] 0, zR 1] [] [1, 2] (fun nu1 => [zP 1 (nu1 0), zV 2 .nilFunc]) (fun nu1 => [(nu1 0, .cells #[.map (some mb)] 130 (0, 0))]) (fun nu1 => ?_)
 refine Sq mixed [zR 0, zR 1] [] [2] (fun _ => [zV 2 (.func (.func 113) #[] #[.pointer (sA (nu1 0) 0)])]) (fun _ => [(nu1 0, .cells #[.map (some mb)] 130 (0, 0))]) (fun _ => ?_)
 refine J_return [[]] (.func (.func 113) #[] #[.pointer (some (⟨nu1 0, 0, none⟩))]) (by kernel_rfl) (fun a w s => ?_)
 exact ⟨_, _, (s.share 0 rfl).ret (by simp) [] [0] rfl rfl⟩
theorem sortedKeysB {w : World} {S : Nat → Prop} {M : List Nat} {mb bx clock : Nat} {es : Array MapEntry} {ty : TypeId} (hP : Pre w S M [cObj mb (.map es clock)]) (hkey : ∀ x ∈ es.toList, MapKept.IsKey .string x.key) (hst : MapKept.Stamped es clock) (hn : es.size ≤ 4000000) (hsz : ∀ x ∈ es.toList, (keyB x.key).size ≤ 1000000) (hbx : Rep w S (.pointer (some ⟨bx, 0, none⟩)) (.obj (.cells #[.map (some mb)] ty (0, 0)))) :
  Calls Tryz.prog 63 #[.func (.func 113) #[] #[.pointer (some ⟨bx, 0, none⟩)]] w fun e w' => ∃ ua un uc, Ret M (zero w) S w' e (.slice ua un uc) [cObj mb (.map es clock)] [(.slice ua un uc, dStrs (sortB (es.toList.map fun x => keyB x.key)))] := by
 obtain ⟨fps, hch, rfl, hnd, hM⟩ := hP
 match fps, hch with
 | [fp], ⟨⟨hfp, hmb⟩, _⟩ =>
  subst hfp
  obtain ⟨D0, hown, hsD, hperm⟩ := owns_of (k := 9) (P := Tryz.prog) Tryz.underlying9 hmb hkey hst hn hsz
  have hmlt := (Array.getElem?_eq_some_iff.1 hmb).1
  have hbx2 := blk_of hbx
  have hlt := (Array.getElem?_eq_some_iff.1 hbx2).1
  have hseq : SeqGives Fence.wide 2 Tryz.prog 113 #[.pointer (some ⟨bx, 0, none⟩)] encStr (fun ss => ss.Perm (strKeys D0)) (Maps.size D0) w :=
   AnyZ.keys_gives (ρ := Tryz.keysB_ren) { Tryz.keysB with } Fence.wide _ trivial rfl (by omega) bx mb es.size D0 w hlt (by simp [World.cell?, hbx2]) hown
  have cS := AnyZ.sorted_in Tryz.sorted Fence.wide 5 trivial trivial trivial trivial rfl (by omega) (sortsS _) (enters_of Tryz.func101 (by kernel_rfl) rfl) 113 #[.pointer (some ⟨bx, 0, none⟩)] trivial (enters_of Tryz.func113 (by kernel_rfl) rfl) _ _ (by rw [hsD]; unfold maxLen; omega) (by rw [hsD]; omega) w hseq
  change CallsIn _ _ Tryz.prog 63 _ _ _ at cS
  refine (callsIn_wide.1 cS).mono ?_
  rintro e w' ⟨v, ss, rfl, hS, hrow, _, hb⟩
  have e1 : sortB (es.toList.map fun x => keyB x.key) = (ss.mergeSort leB).map fun x => ⟨x.toArray⟩ := by
   unfold sortB
   rw [List.map_map, mergeSort_of_perm (hS.trans hperm)]
   rfl
  have hrep : Rep w' (retS S ([[mb]] : List (List Nat)).flatten (zero w) [[mb]]) v (dStrs (sortB (es.toList.map fun x => keyB x.key))) := by
   rw [e1]
   refine rep_row (base := w.heap.size) (e := 9) ?_ fun b hb2 => ⟨.inr (.inr hb2), fun hm => ?_⟩
   ·rw [List.length_mergeSort]
    exact hrow
   ·have : b = mb := by simpa using hm
    omega
  obtain ⟨ua, uc, rfl, _⟩ := hrep.form
  refine ⟨ua, _, uc, rfl, ⟨hb.os, hb.tape, hb.output, hb.size, fun b hb2 _ => hb.block b hb2, Nat.zero_le _⟩, [[mb]], ⟨⟨rfl, by rw [hb.block mb hmlt]; exact hmb⟩, trivial⟩, by simp, fun b hb2 => ?_, fun x hx => ?_⟩
  ·have : b = mb := by simpa using hb2
   subst this
   exact ⟨.inl (by simp), Nat.lt_of_lt_of_le hmlt hb.size⟩
  ·obtain rfl := List.mem_singleton.1 hx
   exact hrep
 | [], h => exact h.elim
 | _ :: _ :: _, h => exact h.2.elim
theorem vVKeys {w : World} {S : Nat → Prop} {M : List Nat} {b mk md : Nat} {ba : Option Addr} {p nb cb clock : Nat} {es : Array MapEntry} {ks : List ByteArray} {F : ByteArray → Value} {L : List PutT} (hP : Pre w S M (chV b mk md ba p nb cb clock es ks F L))
  (hm : MapG (MapKept.IsKey .string) es (strG ks F)) (hst : MapKept.Stamped es clock) (hnd : ks.Nodup) (hkl : ks.length ≤ 1000000) (hks : ∀ t ∈ ks, t.size ≤ 1000000) :
  Calls Tryz.prog 50 #[.pointer (some ⟨b, 0, none⟩)] w fun e w' => ∃ ua un uc, Ret M (zero w) S w' e (.slice ua un uc) (chV b mk md ba p nb cb clock es ks F L) [(.slice ua un uc, dStrs (sortB ks))] := by
 have hpm := ks_len hm hnd
 have hsz : es.size = ks.length := by
  have := hpm.length_eq
  rw [List.length_map, Array.length_toList] at this
  exact this
 refine en50 (args := [.pointer (some ⟨b, 0, none⟩)]) (S := S) (G := []) (by kernel_rfl) hP (.nil _ _) ?_
 refine J_zero ?_
 refine J_show 0 rfl ?_
 refine Sq mixed [zR 0] [] [0, 2] (fun _ => [zP 0 b, zS 2 none 0 0]) (fun _ => [(b, .cells #[nI (↑p : Int), .slice ba nb cb, .map (some mk), .map (some md)] 133 (0, 0))]) (fun _ => ?_)
 refine J_seq ?_
 refine jB mixed [(0, true), (1, true), (2, true), (3, true), (4, false), (5, false), (6, true)] [] ?_
 refine Gr (id := 1) (rest := [(4, false), (5, false), (6, true)]) [zR 0, zR 1, zR 2, .rd 3 [.o 0 none] 0 0] [2, 6] (fun _ => [zS 2 none 0 0, zV 6 (.map (some mk))]) (fun _ => [(b, .cells #[nI (↑p : Int), .slice ba nb cb, .map (some mk), .map (some md)] 133 (0, 0))]) (fun _ => ?_)
 refine JR_callp [] 83 #[.map (some mk)] (some 7) (by kernel_rfl) (fun w S hG => ?_)
 refine (vKeysB (w := w) (S := S) (mb := mk)).mono ?_
 rintro e1 w1 ⟨bx, ty, hR⟩
 refine ⟨_, _, _, hR, ?_⟩
 try simp only [cAp, nAp, aNl]
 refine JR_callz [] [0] 63 #[.func (.func 113) #[] #[.pointer (some (⟨bx, 0, none⟩))]] (some 8) zero_all (by kernel_rfl) (by kernel_rfl) (by decide) (fun w S M hP hG _ => ?_)
 refine (sortedKeysB hP (fun x hx => hm.key x hx) hst (by omega) (fun x hx => hks _ (hpm.mem_iff.1 (List.mem_map.2 ⟨x, hx, rfl⟩))) (hG.at 0 rfl)).mono ?_
 rintro e2 w2 ⟨ua, un, uc, hR⟩
 rw [sortB_perm hpm] at hR
 refine ⟨_, _, _, hR, ?_⟩
 try simp only [cAp, nAp, aNl]
 refine Gr (id := 1) (rest := []) [zR 6] [2] (fun _ => [zS 2 ua un uc]) (fun _ => [(b, .cells #[nI (↑p : Int), .slice ba nb cb, .map (some mk), .map (some md)] 133 (0, 0))]) (fun _ => ?_)
 try simp only [cAp, nAp, aNl]
 refine JR_end ?_
 try simp only [cAp, nAp, aNl]
 refine J_return [[]] (.slice ua un uc) (by kernel_rfl) (fun a w s => ?_)
 exact ⟨_, _, _, (s.hide 0 rfl).retz (by simp) [3, 2, 0, 1] [1] rfl rfl⟩
end Go.Proofs.YtpjkiomccpjboaaGreatDoor
end
section
namespace Go.Proofs.YtpjkiomccpjboaaGreatDoor
open Go Go.Sx
def putsAll (K : List ComT) : List PutT := K.flatMap fun c => putsOf c c.ops
theorem putsAll_snoc (K : List ComT) (c : ComT) : putsAll (K ++ [c]) = putsAll K ++ putsOf c c.ops := by simp [putsAll]
theorem dotP_puts (c : ComT) (l : List OpT) : (putsOf c l).map dotP = l.map (dotOf c) := by
 rw [putsOf, List.map_map]
 rfl
theorem exiAt_zero {L : List PutT} {c : ComT} : (∀ j, j < c.ops.length → exiAt L c j = 0) ↔ ∀ o ∈ c.ops, dotOf c o ∉ L.map dotP := by
 constructor
 ·intro h o ho
  obtain ⟨j, hj⟩ := List.getElem?_of_mem ho
  have := h j (List.getElem?_eq_some_iff.1 hj).1
  simp only [exiAt, hj] at this
  split at this
  ·cases this
  ·assumption
 ·intro h j hj
  have h1 : c.ops[j]? = some c.ops[j] := List.getElem?_eq_getElem hj
  simp only [exiAt, h1]
  rw [if_neg (h _ (List.getElem_mem hj))]
structure CanPut (p : Nat) (base : List Int) (L : List PutT) (c : ComT) : Prop where
 com : (comFault c).code = 0
 len : c.when.length = p
 new : inL c.when base = false
 dots : ∀ o ∈ c.ops, dotOf c o ∉ L.map dotP
theorem scanF_zero {f : Nat → Nat} {n : Nat} (h : (scanF f n 0).code = 0) : ∀ j, j < n → f j = 0 := by
 intro j
 induction j using Nat.strongRecOn with
 | ind j ih =>
  intro hj
  rcases Nat.eq_zero_or_pos (f j) with h0 | h0
  ·exact h0
  ·have := (scanF_from n 0 j (Nat.zero_le _) fun i _ hi => ih i hi (by omega)).2 (by omega) (by omega)
   rw [this] at h
   exact h
theorem putFault_zero {p : Nat} {base : List Int} {L : List PutT} {c : ComT} : (putFault p base L c).code = 0 ↔ CanPut p base L c := by
 constructor
 ·intro h
  unfold putFault at h
  split at h
  ·exact absurd h ‹_›
  ·split at h
   ·cases h
   ·split at h
    ·cases h
    ·rename_i h1 h2 h3
     exact ⟨by simpa using h1, by simpa using h2, by simpa using h3, exiAt_zero.1 (scanF_zero h)⟩
 ·rintro ⟨h1, h2, h3, h4⟩
  rw [putFault, if_neg (by simp [h1]), if_neg (by simp [h2]), if_neg (by simp [h3]), (scanF_from c.ops.length 0 c.ops.length (Nat.zero_le _) fun j _ hj => exiAt_zero.2 h4 j hj).1 (by omega)]
theorem dots_own {c : ComT} (h : (comFault c).code = 0) : (c.ops.map (dotOf c)).Nodup := by
 rw [List.nodup_iff_pairwise_ne, List.pairwise_map]
 refine (right_pair h).imp fun {a b} hab he => ?_
 simp only [dotOf, DotT.mk.injEq] at he
 omega
theorem CanPut.nodup {p : Nat} {base : List Int} {L : List PutT} {c : ComT} (h : CanPut p base L c) (hn : (L.map dotP).Nodup) : ((L ++ putsOf c c.ops).map dotP).Nodup := by
 rw [List.map_append, dotP_puts, List.nodup_append]
 refine ⟨hn, dots_own h.com, fun x hx y hy he => ?_⟩
 subst he
 obtain ⟨o, ho, rfl⟩ := List.mem_map.1 hy
 exact h.dots o ho hx
theorem keyC_perm {L L' : List PutT} (h : L.Perm L') (t : ByteArray) : (keyC L t).Perm (keyC L' t) := (h.filter _).map _
theorem withinC_perm {L L' : List PutT} (h : L.Perm L') (t : ByteArray) (at' : List Int) : (withinC L t at').Perm (withinC L' t at') := (keyC_perm h t).filter _
theorem within_done {L : List PutT} {key : ByteArray} {at' : List Int} {x : DoneT} (h : x ∈ allDone (withinC L key at')) : ∃ q ∈ L, x = ⟨q.op, dotP q, wsum q.when⟩ := by
 obtain ⟨c, hc, o, ho, rfl⟩ := mem_allDone.1 h
 obtain ⟨q, hq, rfl⟩ := mem_keyC (List.mem_filter.1 hc).1
 obtain rfl := List.mem_singleton.1 ho
 exact ⟨q, hq, rfl⟩
theorem read_same {L L' : List PutT} (h : L.Perm L') (hn : (L.map dotP).Nodup) (key : ByteArray) (at' : List Int) : Sx.valOf key (withinC L' key at') = Sx.valOf key (withinC L key at') := by
 refine valOf_same (opsOf_same (fun x hx y hy he => ?_) fun x => ?_)
 ·obtain ⟨q, hq, rfl⟩ := within_done hx
  obtain ⟨q', hq', rfl⟩ := within_done hy
  obtain ⟨i, hi⟩ := List.getElem?_of_mem hq
  obtain ⟨j, hj⟩ := List.getElem?_of_mem hq'
  have hi2 : (L.map dotP)[i]? = some (dotP q) := by rw [List.getElem?_map, hi]; rfl
  have hj2 : (L.map dotP)[j]? = some (dotP q') := by rw [List.getElem?_map, hj]; rfl
  have hij : i = j := (List.getElem?_inj (List.getElem?_eq_some_iff.1 hi2).1 hn).1 (hi2.trans (by rw [hj2]; exact congrArg some he))
  subst hij
  rw [hi] at hj
  cases hj
  rfl
 ·rw [mem_allDone, mem_allDone]
  constructor
  ·rintro ⟨c, hc, o, ho, he⟩
   exact ⟨c, (withinC_perm h key at').mem_iff.2 hc, o, ho, he⟩
  ·rintro ⟨c, hc, o, ho, he⟩
   exact ⟨c, (withinC_perm h key at').mem_iff.1 hc, o, ho, he⟩
theorem keys_same {L L' : List PutT} {ks ks' : List ByteArray} (h : L.Perm L') (hn : ks.Nodup) (hn' : ks'.Nodup) (hk : ∀ t, t ∈ ks ↔ keyC L t ≠ []) (hk' : ∀ t, t ∈ ks' ↔ keyC L' t ≠ []) : sortB ks' = sortB ks := by
 refine sortB_perm ((List.perm_ext_iff_of_nodup hn' hn).2 fun t => ?_)
 rw [hk, hk']
 have hp := (keyC_perm h t).length_eq
 constructor
 ·intro h1 h2
  rw [h2] at hp
  exact h1 (List.length_eq_zero_iff.1 hp.symm)
 ·intro h1 h2
  rw [h2] at hp
  exact h1 (List.length_eq_zero_iff.1 hp)
theorem canPut_part {p : Nat} {base : List Int} {L L' : List PutT} {c c' : ComT} (h : CanPut p base L c) (hp : PartOf c' c) (hd : ∀ o ∈ c'.ops, dotOf c o ∉ L'.map dotP) : CanPut p base L' c' := by
 have he : ∀ o, dotOf c' o = dotOf c o := fun o => by rw [dotOf, dotOf, hp.place, hp.time]
 exact ⟨hp.fault h.com, by rw [hp.time]; exact h.len, by rw [hp.time]; exact h.new, fun o ho => by rw [he]; exact hd o ho⟩
end Go.Proofs.YtpjkiomccpjboaaGreatDoor
end
section
namespace Go.Proofs.YtpjkiomccpjboaaGreatDoor
open Go Go.Sx
abbrev opK5 : OpT := ⟨0, keyK, 2, ByteArray.mk #[], 5, false, []⟩
abbrev comK5 : ComT := ⟨[1], 0, [opK5]⟩
theorem opK5_fine : opErr opK5 ((1 : Nat) : Int) = 0 := by
 have h0 : (ByteArray.mk #[]).size = 0 := rfl
 rw [opRest (by simp) nameK (.inr (.inl rfl)) (by simp [shapeOk, h0]), if_neg (by simp only [List.length_nil, h0]; omega), if_neg (by simp [badDots])]
theorem comK5_fine : (comFault comK5).code = 0 := comFault_mk (by decide) (by simp) (by simp) (by simp) (by simp) (by simp) (fun o ho => by obtain rfl := List.mem_singleton.1 ho; exact opK5_fine) (by simp)
theorem comK5_put : (putFault 1 [0] [] comK5).code = 0 := putFault_zero.2 ⟨comK5_fine, rfl, by decide, by simp⟩
theorem atK {t : Int} (h0 : t = 0 ∨ t = 1) : atErr 1 [0] keyK [t] = 0 := by
 rcases h0 with rfl | rfl <;> (rw [atErr, if_neg (by rw [nameK]; decide)]; decide)
theorem valK5 : (Sx.valOf keyK (withinC [⟨[1], 0, opK5⟩] keyK [1])).n = 5 := by
 have h1 : withinC [⟨[1], 0, opK5⟩] keyK [1] = [comK5] := by
  simp [withinC, keyC, oneC, inL]
 have h2 : opsOf keyK [comK5] = [⟨opK5, ⟨0, 1, 0⟩, 1⟩] := by simp [opsOf, sortDone, opsRaw, allDone, firsts, doneOf, dotOf, wsum]
 rw [h1]
 simp [Sx.valOf, h2, kindOf, ofKey, kindL, sumN]
theorem valK0 : (Sx.valOf keyK (withinC [⟨[1], 0, opK5⟩] keyK [0])).kind = 0 := by
 have h1 : withinC [⟨[1], 0, opK5⟩] keyK [0] = [] := by
  simp [withinC, keyC, oneC, inL]
 rw [h1]
 simp [Sx.valOf, opsOf, sortDone, opsRaw, allDone, firsts, kindOf]
set_option maxHeartbeats 4000000 in
theorem stored {w : World} {S : Nat → Prop} {er : Nat → Addr} {eb : Nat → Array Value × TypeId} (hC : Rep w S .nilIface (dC er eb)) :
  Calls Tryz.prog 33 #[] w fun e w' => Ret [] (zero w) S w' e (.bool true) [] [] := by
 refine ep33 (args := []) (G := [(_, dC er eb)]) (by kernel_rfl) (.cons hC (.nil _ _)) ?_
 refine J_zero ?_
 refine Sq mixed [zR 0] [] [0] (fun _ => [zB 0 false]) (fun _ => []) (fun _ => ?_)
 refine J_seq ?_
 refine jB mixed [(0, false), (1, true), (2, true), (3, true), (4, true), (5, true)] [] ?_
 refine JR_callp [] 34 #[.int .i64 1] (some 9) (by kernel_rfl) (fun w S hG => ?_)
 refine (vNew (p := 1) (hG.at 0 rfl)).mono ?_
 rintro e1 w1 (⟨h, _⟩ | ⟨_, b, ba, mk, md, hR⟩)
 ·omega
 refine ⟨_, _, _, hR, ?_⟩
 try simp only [cAp, nAp, aNl]
 refine Gr (id := 1) (rest := []) [zR 1, zR 2, zR 3, zR 4, zR 5] [0, 1, 2] (fun _ => [zB 0 false, zP 1 b, zV 2 .nilIface]) (fun _ => []) (fun _ => ?_)
 refine JR_end ?_
 refine J_seq ?_
 refine Sq mixed [zR 0, zR 1, zR 2, zR 3, zR 4, zR 5] [] [0, 1, 17] (fun _ => [zB 0 false, zP 1 b, zB 17 false]) (fun _ => []) (fun _ => ?_)
 refine cF ?_
 refine J_skip ?_
 refine J_seq ?_
 refine jB mixed [(0, true), (1, false), (2, true), (3, false), (4, true), (5, false), (6, true)] [] ?_
 refine Gr (id := 4) (rest := [(5, false), (6, true)]) [zR 0, .wr 1 [] 0, zR 2, .wr 3 [] 0, zR 4] [0, 1, 18, 22] (fun nu1 => [zB 0 false, zP 1 b, zP 18 b, zV 22 (.agg #[.slice (sA (nu1 0) 0) 1 1, nI 0, .slice (sA (nu1 1) 0) 1 1])]) (fun nu1 => [(nu1 0, .cells #[nI 1] 3 (0, 0)), (nu1 1, .cells #[nI 0, .string (ByteArray.mk #[107]), nI 2, .string (ByteArray.mk #[]), nI 5, .bool false, .slice none 0 0] 24 (0, 0))]) (fun nu1 => ?_)
 refine JR_data (size := 1) 0 eI [(1 : Int)] 1 rfl (by kernel_rfl) (by decide) (by intro x _; rfl) (by simp) ⟨.inl ⟨rfl, rfl⟩, trivial⟩ ?_
 refine JR_data (size := 7) 0 eOp [opK5] 1 rfl (by kernel_rfl) (by decide) (by intro x _; rfl) (by simp) ⟨.inl ⟨rfl, rfl⟩, ⟨.inl ⟨rfl, rfl⟩, ⟨.inl ⟨rfl, rfl⟩, ⟨.inl ⟨rfl, rfl⟩, ⟨.inl ⟨rfl, rfl⟩, ⟨.inl ⟨rfl, rfl⟩, ⟨.inr (.inr ⟨_, _, _, rfl, rfl⟩), trivial⟩⟩⟩⟩⟩⟩⟩ ?_
 refine JR_call [] [0, 1, 2, 3] 36 #[.pointer (some (⟨b, 0, none⟩)), .agg #[.slice (some (⟨nu1 0, 0, none⟩)) 1 1, .int .i64 0, .slice (some (⟨nu1 1, 0, none⟩)) 1 1]] (some 23) (by kernel_rfl) (by kernel_rfl) (by decide) (fun w S M hP hG _ => ?_)
 have hm0 : MapG (MapKept.IsKey .string) #[] (strG [] fun _ => .nilIface) := (MapG.empty _).congr fun k => (strG_nil _ k).symm
 refine (vPut (p := 1) (base := [0]) (L := []) (ks := []) (F := fun _ => .nilIface) (c := comK5) (hG.at 0 rfl) hP (hG.at 1 rfl) (by decide) rfl (hG.at 2 rfl) (hG.at 3 rfl) (by simp) (by simp) (by simp) (by simp) hm0 (MapKept.stamped_empty 0) (by simp) (by simp [keyC])).mono ?_
 rintro e2 w2 (⟨hf, _⟩ | ⟨_, es1, ck1, ks1, F1, hR, hm1, hst1, hnd1, hiff1⟩)
 ·exact absurd comK5_put hf
 refine ⟨_, _, _, hR, ?_⟩
 have hLr : ∀ q ∈ ([] ++ putsOf comK5 comK5.ops : List PutT), (comFault (oneC q)).code = 0 ∧ q.when.length = 1 := fun q hq => by
  obtain rfl := List.mem_singleton.1 hq
  exact ⟨comK5_fine, rfl⟩
 try simp only [cAp, nAp, aNl]
 refine Gr (id := 4) (rest := []) [zR 6] [0, 1, 3] (fun _ => [zB 0 false, zP 1 b, zV 3 .nilIface]) (fun _ => []) (fun _ => ?_)
 try simp only [cAp, nAp, aNl]
 refine JR_end ?_
 try simp only [cAp, nAp, aNl]
 refine J_seq ?_
 try simp only [cAp, nAp, aNl]
 refine jB mixed [(0, true), (1, false), (2, false), (3, true), (4, true), (5, true), (6, false), (7, false), (8, true)] [] ?_
 refine Gr (id := 5) (rest := [(2, false), (3, true), (4, true), (5, true), (6, false), (7, false), (8, true)]) [zR 0, .wr 1 [] 0] [0, 1, 3, 25, 26] (fun nu2 => [zB 0 false, zP 1 b, zV 3 .nilIface, zP 25 b, zS 26 (sA (nu2 0) 0) 1 1]) (fun nu2 => [(nu2 0, .cells #[nI 1] 3 (0, 0))]) (fun nu2 => ?_)
 refine JR_data (size := 1) 0 eI [(1 : Int)] 1 rfl (by kernel_rfl) (by decide) (by intro x _; rfl) (by simp) ⟨.inl ⟨rfl, rfl⟩, trivial⟩ ?_
 refine JR_callz [] [0, 1, 2, 3] 38 #[.pointer (some (⟨b, 0, none⟩)), .string (ByteArray.mk #[107]), .slice (some (⟨nu2 0, 0, none⟩)) 1 1] (some 27) zero_all (by kernel_rfl) (by kernel_rfl) (by decide) (fun w S M hP hG _ => ?_)
 refine (vRead (p := 1) (base := [0]) (at' := [1]) (key := keyK) (hG.at 0 rfl) hP (hG.at 1 rfl) (by decide) rfl (hG.at 4 rfl) (by simp) (by simp [putsOf]) hLr hm1 hnd1 hiff1).mono ?_
 rintro e3 w3 (⟨h, _⟩ | ⟨_, ua, un, uc, hR⟩)
 ·exact absurd (atK (.inr rfl)) h
 refine ⟨_, _, _, hR, ?_⟩
 try simp only [cAp, nAp, aNl]
 refine Gr (id := 5) (rest := []) [zR 3, zR 4, zR 5, .wr 6 [] 0, .wr 7 [.o 0 none, .o 0 none, .o 0 none, .o 0 none] 0, zR 8] [0, 1, 3, 4, 5] (fun nu3 => [zB 0 false, zP 1 b, zV 3 .nilIface, zP 4 (nu3 0), zV 5 .nilIface]) (fun nu3 => [(nu3 0, .cells #[nI 2, .string ((Sx.valOf keyK (withinC (putsOf comK5 [opK5]) keyK [1])).text), nI 5, .slice ua un uc] 47 (0, 0))]) (fun nu3 => ?_)
 try simp only [cAp, nAp, aNl]
 refine JR_end ?_
 try simp only [cAp, nAp, aNl]
 refine J_seq ?_
 try simp only [cAp, nAp, aNl]
 refine jB mixed [(0, true), (1, false), (2, false), (3, true), (4, true), (5, true), (6, false), (7, false), (8, true)] [] ?_
 refine Gr (id := 6) (rest := [(2, false), (3, true), (4, true), (5, true), (6, false), (7, false), (8, true)]) [zR 0, .wr 1 [] 0] [0, 3, 4, 5, 31, 32] (fun nu4 => [zB 0 false, zV 3 .nilIface, zP 4 (nu3 0), zV 5 .nilIface, zP 31 b, zS 32 (sA (nu4 0) 0) 1 1]) (fun nu4 => [(nu3 0, .cells #[nI 2, .string ((Sx.valOf keyK (withinC (putsOf comK5 [opK5]) keyK [1])).text), nI 5, .slice ua un uc] 47 (0, 0)), (nu4 0, .cells #[nI 0] 3 (0, 0))]) (fun nu4 => ?_)
 refine JR_data (size := 1) 1 eI [(0 : Int)] 1 rfl (by kernel_rfl) (by decide) (by intro x _; rfl) (by simp) ⟨.inl ⟨rfl, rfl⟩, trivial⟩ ?_
 refine JR_callz [] [0, 1, 2, 3] 38 #[.pointer (some (⟨b, 0, none⟩)), .string (ByteArray.mk #[107]), .slice (some (⟨nu4 0, 0, none⟩)) 1 1] (some 33) zero_all (by kernel_rfl) (by kernel_rfl) (by decide) (fun w S M hP hG _ => ?_)
 refine (vRead (p := 1) (base := [0]) (at' := [0]) (key := keyK) (hG.at 0 rfl) hP (hG.at 1 rfl) (by decide) rfl (hG.at 6 rfl) (by simp) (by simp [putsOf]) hLr hm1 hnd1 hiff1).mono ?_
 rintro e4 w4 (⟨h, _⟩ | ⟨_, va, vn, vc, hR⟩)
 ·exact absurd (atK (.inl rfl)) h
 refine ⟨_, _, _, hR, ?_⟩
 have hv5 : (Sx.valOf keyK (withinC ([] ++ putsOf comK5 comK5.ops) keyK [1])).n = 5 := valK5
 have hv0 : (Sx.valOf keyK (withinC ([] ++ putsOf comK5 comK5.ops) keyK [0])).kind = 0 := valK0
 try simp only [cAp, nAp, aNl]
 refine Gr (id := 6) (rest := []) [zR 3, zR 4, zR 5, .wr 6 [] 0, .wr 7 [.o 1 none, .o 1 none, .o 1 none, .o 1 none] 0, zR 8] [0, 3, 4, 5, 6, 7] (fun nu5 => [zB 0 false, zV 3 .nilIface, zP 4 (nu3 0), zV 5 .nilIface, zP 6 (nu5 0), zV 7 .nilIface]) (fun nu5 => [(nu3 0, .cells #[nI 2, .string ((Sx.valOf keyK (withinC (putsOf comK5 [opK5]) keyK [1])).text), nI 5, .slice ua un uc] 47 (0, 0)), (nu5 0, .cells #[nI 0, .string ((Sx.valOf keyK (withinC (putsOf comK5 [opK5]) keyK [0])).text), nI 0, .slice va vn vc] 47 (0, 0))]) (fun nu5 => ?_)
 try simp only [cAp, nAp, aNl]
 refine JR_end ?_
 try simp only [cAp, nAp, aNl]
 refine J_seq ?_
 try simp only [cAp, nAp, aNl]
 refine Gq mixed [zR 0, zR 1, zR 2, zR 3, zR 4, zR 5, zR 6, zR 7, zR 8, zR 9, zR 10, zR 11, .rd 12 [.o 0 none] 0 0, zR 13, zR 14, zR 15, zR 16, .rd 17 [.o 1 none] 0 0, zR 18, zR 19, zR 20] [] [0] (fun _ => [zB 0 true]) (fun _ => [(nu3 0, .cells #[nI 2, .string ((Sx.valOf keyK (withinC (putsOf comK5 [opK5]) keyK [1])).text), nI 5, .slice ua un uc] 47 (0, 0)), (nu5 0, .cells #[nI 0, .string ((Sx.valOf keyK (withinC (putsOf comK5 [opK5]) keyK [0])).text), nI 0, .slice va vn vc] 47 (0, 0))]) (fun _ => ?_)
 try simp only [cAp, nAp, aNl]
 refine J_return [[]] (.bool true) (by kernel_rfl) (fun a w s => ?_)
 exact s.retz (by simp) [] [] rfl rfl
end Go.Proofs.YtpjkiomccpjboaaGreatDoor
end
