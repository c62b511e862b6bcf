/- Part 14 of the texts of a claim: VParts Tx9. -/
import Derived.Stop.LaidErr
import Derived.Below
import Derived.Carry
import Derived.ChangeSame
import Derived.OpenShut
import Derived.ChangeSlices
import Derived.Test.YtpjkiomccpjboaaGreatDoorTe13
section
namespace Go.Sx
open Go
structure PutsA where
 i : Int
 K : List ComT
 a : Option Addr
 k : Nat
 c : Nat
 es : Array MapEntry
 clock : Nat
 ks : List ByteArray
 F : ByteArray → Value
structure PutsB where
 i : Int
 L : List PutT
 es : Array MapEntry
 clock : Nat
 ks : List ByteArray
 F : ByteArray → Value
end Go.Sx
namespace Go.Proofs.YtpjkiomccpjboaaGreatDoor
open Go Go.Sx
structure KeptA (p : Nat) (l : List ComT) (K : List ComT) : Prop where
 mem : ∀ c ∈ K, c ∈ l
 ok : ∀ c ∈ K, (comFault c).code = 0 ∧ c.when.length = p ∧ inL c.when (List.replicate p 0) = false
 nodup : ((putsAll K).map dotP).Nodup
theorem KeptA.snoc {p : Nat} {l K : List ComT} {x : ComT} (h : KeptA p l K) (hx : x ∈ l) (hc : CanPut p (List.replicate p 0) (putsAll K) x) : KeptA p l (K ++ [x]) := by
 refine ⟨fun c hm => ?_, fun c hm => ?_, ?_⟩
 ·rcases List.mem_append.1 hm with hm | hm
  ·exact h.mem c hm
  ·obtain rfl := List.mem_singleton.1 hm
   exact hx
 ·rcases List.mem_append.1 hm with hm | hm
  ·exact h.ok c hm
  ·obtain rfl := List.mem_singleton.1 hm
   exact ⟨hc.com, hc.len, hc.new⟩
 ·rw [putsAll_snoc]
  exact hc.nodup h.nodup
theorem ret_drop {M : List Nat} {w : World} {S : Nat → Prop} {w' : World} {e : Ending} {v : Value} {C : List Chunk} {G : List (Value × D)} (h : Ret M w S w' e v C G) : Ret M w S w' e v C [] := by
 obtain ⟨fps, h1, h2, h3, _⟩ := h.gh
 exact ⟨h.ret, h.fr, fps, h1, h2, h3, fun x hx => by cases hx⟩
theorem putsAll_drop {K : List ComT} {i : Nat} {c : ComT} (h : K[i]? = some c) : putsAll (K.drop i) = putsOf c c.ops ++ putsAll (K.drop (i + 1)) := by
 have hi := (List.getElem?_eq_some_iff.1 h).1
 have hc := (List.getElem?_eq_some_iff.1 h).2
 rw [List.drop_eq_getElem_cons hi, hc]
 rfl
theorem drop_nodup {K : List ComT} (h : ((putsAll K).map dotP).Nodup) (i : Nat) : ((putsAll (K.drop i)).map dotP).Nodup := by
 have h1 : putsAll K = putsAll (K.take i) ++ putsAll (K.drop i) := by
  rw [putsAll, putsAll, putsAll, ← List.flatMap_append, List.take_append_drop]
 rw [h1, List.map_append] at h
 exact (List.nodup_append.1 h).2.1
theorem kept_dots {K : List ComT} {i : Nat} {c : ComT} {L : List PutT} (h : ((putsAll K).map dotP).Nodup) (hc : K[i]? = some c) (hL : L.Perm (putsAll (K.drop (i + 1)))) : ∀ o ∈ c.ops, dotOf c o ∉ L.map dotP := fun o ho hm => by
 have h1 := drop_nodup h i
 rw [putsAll_drop hc, List.map_append, dotP_puts] at h1
 exact (List.nodup_append.1 h1).2.2 _ (List.mem_map_of_mem ho) _ ((hL.map dotP).mem_iff.1 hm) rfl
theorem nodup_len {α : Type} [DecidableEq α] : ∀ (ks M : List α), ks.Nodup → (∀ t ∈ ks, t ∈ M) → ks.length ≤ M.length
 | [], M, _, _ => Nat.zero_le _
 | t :: r, M, hn, hs => by
  have h1 := List.nodup_cons.1 hn
  have htM := hs t (List.mem_cons_self ..)
  have h2 := nodup_len r (M.erase t) h1.2 fun x hx => (List.mem_erase_of_ne fun he => h1.1 (by rw [← he]; exact hx)).2 (hs x (List.mem_cons_of_mem _ hx))
  have h3 := List.length_erase_of_mem htM
  have h4 : 0 < M.length := List.length_pos_of_mem htM
  rw [List.length_cons]
  omega
theorem key_of {L : List PutT} {t : ByteArray} (h : keyC L t ≠ []) : ∃ q ∈ L, q.op.key = t := by
 obtain ⟨x, hx⟩ := List.exists_mem_of_ne_nil _ h
 obtain ⟨q, hq, rfl⟩ := List.mem_map.1 hx
 have := List.mem_filter.1 hq
 exact ⟨q, this.1, by simpa using this.2⟩
theorem ks_len2 {L : List PutT} {ks : List ByteArray} (hn : ks.Nodup) (h : ∀ t, t ∈ ks ↔ keyC L t ≠ []) : ks.length ≤ L.length := by
 have := nodup_len ks (L.map (·.op.key)) hn fun t ht => by
  obtain ⟨q, hq, rfl⟩ := key_of ((h t).1 ht)
  exact List.mem_map_of_mem hq
 rwa [List.length_map] at this
theorem mem_putsAll {K : List ComT} {q : PutT} (h : q ∈ putsAll K) : ∃ c ∈ K, ∃ o ∈ c.ops, q = ⟨c.when, c.place, o⟩ := by
 obtain ⟨c, hc, hq⟩ := List.mem_flatMap.1 h
 obtain ⟨o, ho, rfl⟩ := List.mem_map.1 hq
 exact ⟨c, hc, o, ho, rfl⟩
theorem KeptA.right {p : Nat} {l K : List ComT} (h : KeptA p l K) {q : PutT} (hq : q ∈ putsAll K) : (comFault (oneC q)).code = 0 ∧ q.when.length = p := by
 obtain ⟨c, hc, o, ho, rfl⟩ := mem_putsAll hq
 have h1 := h.ok c hc
 exact ⟨PartOf.fault (c' := oneC ⟨c.when, c.place, o⟩) (c := c) ⟨rfl, rfl, by simp [oneC], List.singleton_sublist.2 ho⟩ h1.1, h1.2.1⟩
theorem KeptA.key {p : Nat} {l K : List ComT} (h : KeptA p l K) {q : PutT} (hq : q ∈ putsAll K) : q.op.key.size ≤ 1000000 := by
 obtain ⟨c, hc, o, ho, rfl⟩ := mem_putsAll hq
 have h1 := (opErr_fine (right_ops (h.ok c hc).1 o ho)).1
 show o.key.size ≤ 1000000
 simp [nameOk] at h1
 omega
theorem putsAll_len {K : List ComT} (h : ∀ c ∈ K, (comFault c).code = 0) : (putsAll K).length ≤ 12 * K.length := by
 induction K with
 | nil => simp [putsAll]
 | cons c K ih =>
  have h1 := (right_of (h c (List.mem_cons_self ..))).o2
  have h2 := ih fun d hd => h d (List.mem_cons_of_mem _ hd)
  have h3 : putsAll (c :: K) = putsOf c c.ops ++ putsAll K := rfl
  rw [h3, List.length_append, putsOf, List.length_map, List.length_cons]
  omega
set_option maxHeartbeats 4000000 in
theorem versionsParts {w : World} {S : Nat → Prop} {er : Nat → Addr} {eb : Nat → Array Value × TypeId} {places cut : Int} {a a2 : Option Addr} {n c n2 c2 : Nat} {key : ByteArray} {l : List ComT} {at' : List Int} (hC : Rep w S .nilIface (dC er eb)) (h : Rep w S (.slice a n c) (.sl 3 (l.map eCom))) (ha : Rep w S (.slice a2 n2 c2) (dInts at')) :
  Calls Tryz.prog 9 #[.int .i64 places, .slice a n c, .int .i64 cut, .string key, .slice a2 n2 c2] w fun e w' => Ret [] (zero w) S w' e (.bool true) [] [] := by
 have e1 := h.slen
 rw [List.length_map] at e1
 subst e1
 obtain rfl := rep_ints_len ha
 refine ep9 (args := [.int .i64 places, .slice a l.length c, .int .i64 cut, .string key, .slice a2 at'.length c2]) (S := S) (G := [(_, dC er eb), (_, .sl 3 (l.map eCom)), (_, dInts at')]) (by kernel_rfl) (.cons hC (.cons h (.cons ha (.nil _ _)))) ?_
 refine J_zero ?_
 refine Sq mixed [zR 0] [] [0, 1, 2, 3, 4, 10] (fun _ => [zI 0 places, zS 1 a l.length c, zI 2 cut, zV 3 (.string key), zS 4 a2 at'.length c2, zB 10 false]) (fun _ => []) (fun _ => ?_)
 refine J_seq ?_
 refine jB mixed [(0, false), (1, true)] [] ?_
 refine JR_callzp [] 33 #[] (some 24) zero_all (by kernel_rfl) (fun w S hG => ?_)
 refine (stored (hG.at 0 rfl)).mono ?_
 rintro e1 w1 hR
 refine ⟨_, _, _, hR, ?_⟩
 try simp only [cAp, nAp, aNl]
 refine Gr (id := 1) (rest := []) [zR 1] [0, 1, 2, 3, 4, 10, 11] (fun _ => [zI 0 places, zS 1 a l.length c, zI 2 cut, zV 3 (.string key), zS 4 a2 at'.length c2, zB 10 false, zB 11 true]) (fun _ => []) (fun _ => ?_)
 refine JR_end ?_
 refine J_seq ?_
 refine J_seq ?_
 refine jB mixed [(0, true), (1, true), (2, true), (3, true), (4, false), (5, true), (6, true), (7, true), (8, true), (9, true), (10, true), (11, true), (12, true), (13, true), (14, true), (15, true)] [] ?_
 refine Gr (id := 2) (rest := [(4, false), (5, true), (6, true), (7, true), (8, true), (9, true), (10, true), (11, true), (12, true), (13, true), (14, true), (15, true)]) [zR 0, zR 1, zR 2, zR 3] [0, 1, 2, 3, 4, 10, 11, 27, 28] (fun _ => [zI 0 places, zS 1 a l.length c, zI 2 cut, zV 3 (.string key), zS 4 a2 at'.length c2, zB 10 false, zB 11 true, zB 27 false, zS 28 a l.length c]) (fun _ => []) (fun _ => ?_)
 refine JR_callp [] 20 #[.slice a l.length c] (some 29) (by kernel_rfl) (fun w S hG => ?_)
 refine (heavyB (hG.at 1 rfl)).mono ?_
 rintro e2 w2 hR
 refine ⟨_, _, _, hR, ?_⟩
 cases hhv : heavyL l with
 | true =>
  try simp only [cAp, nAp, aNl]
  refine Gr (id := 2) (rest := []) [zR 5, zR 6, .rd 7 [] 1 0, .rd 8 [] 1 0, .rd 9 [] 1 0, zR 10, zR 11, .rd 12 [] 1 0, .rd 13 [] 1 0, .rd 14 [] 1 0, zR 15] [0, 1, 2, 3, 4, 10, 11, 40] (fun _ => [zI 0 places, zS 1 a l.length c, zI 2 cut, zV 3 (.string key), zS 4 a2 at'.length c2, zB 10 false, zB 11 true, zB 40 true]) (fun _ => []) (fun _ => ?_)
  refine JR_end ?_
  refine cTt ?_
  refine Sq mixed [zR 0, zR 1] [] [0, 1, 2, 3, 4, 10] (fun _ => [zI 0 places, zS 1 a l.length c, zI 2 cut, zV 3 (.string key), zS 4 a2 at'.length c2, zB 10 true]) (fun _ => []) (fun _ => ?_)
  refine J_return [[]] (.bool true) (by kernel_rfl) (fun a w s => ?_)
  exact s.retz (by simp) [] [] rfl rfl
 | false =>
 obtain ⟨hl30, hlc⟩ := light hhv
 by_cases hkey : key.size ≤ 60
 case neg =>
  try simp only [cAp, nAp, aNl]
  refine Gs (id := 2) (rest := []) [zR 5, zR 6, zR 7, zR 8, .rd 9 [] 0 6, zR 10, zR 11, .rd 12 [] 1 0, .rd 13 [] 1 0, .rd 14 [] 1 0, zR 15] [0, 1, 2, 3, 4, 10, 11, 40] (fun _ => [zI 0 places, zS 1 a l.length c, zI 2 cut, zV 3 (.string key), zS 4 a2 at'.length c2, zB 10 false, zB 11 true, zB 40 true]) (fun _ => []) (fun _ => [decide ((↑key.size : Int) > (60 : Int)) = true]) (fun _ => ⟨by simp; omega, trivial⟩) (fun _ => ?_)
  refine JR_end ?_
  refine cTt ?_
  refine Sq mixed [zR 0, zR 1] [] [0, 1, 2, 3, 4, 10] (fun _ => [zI 0 places, zS 1 a l.length c, zI 2 cut, zV 3 (.string key), zS 4 a2 at'.length c2, zB 10 true]) (fun _ => []) (fun _ => ?_)
  refine J_return [[]] (.bool true) (by kernel_rfl) (fun a w s => ?_)
  exact s.retz (by simp) [] [] rfl rfl
 by_cases hat : at'.length ≤ 20
 case neg =>
  try simp only [cAp, nAp, aNl]
  refine Gs (id := 2) (rest := []) [zR 5, zR 6, zR 7, zR 8, .rd 9 [] 0 7, zR 10, zR 11, zR 12, zR 13, .rd 14 [] 0 6, zR 15] [0, 1, 2, 3, 4, 10, 11, 40] (fun _ => [zI 0 places, zS 1 a l.length c, zI 2 cut, zV 3 (.string key), zS 4 a2 at'.length c2, zB 10 false, zB 11 true, zB 40 true]) (fun _ => []) (fun _ => [decide ((↑key.size : Int) > (60 : Int)) = false, decide ((↑at'.length : Int) > (20 : Int)) = true]) (fun _ => ⟨by simp; omega, by simp; omega, trivial⟩) (fun _ => ?_)
  refine JR_end ?_
  refine cTt ?_
  refine Sq mixed [zR 0, zR 1] [] [0, 1, 2, 3, 4, 10] (fun _ => [zI 0 places, zS 1 a l.length c, zI 2 cut, zV 3 (.string key), zS 4 a2 at'.length c2, zB 10 true]) (fun _ => []) (fun _ => ?_)
  refine J_return [[]] (.bool true) (by kernel_rfl) (fun a w s => ?_)
  exact s.retz (by simp) [] [] rfl rfl
 try simp only [cAp, nAp, aNl]
 refine Gs (id := 2) (rest := []) [zR 5, zR 6, zR 7, zR 8, .rd 9 [] 0 7, zR 10, zR 11, zR 12, zR 13, .rd 14 [] 0 7, zR 15] [0, 1, 2, 3, 4, 10, 11, 40] (fun _ => [zI 0 places, zS 1 a l.length c, zI 2 cut, zV 3 (.string key), zS 4 a2 at'.length c2, zB 10 false, zB 11 true, zB 40 false]) (fun _ => []) (fun _ => [decide ((↑key.size : Int) > (60 : Int)) = false, decide ((↑at'.length : Int) > (20 : Int)) = false]) (fun _ => ⟨by simp; omega, by simp; omega, trivial⟩) (fun _ => ?_)
 refine JR_end ?_
 refine cF ?_
 refine J_skip ?_
 refine J_seq ?_
 refine jB mixed [(0, true), (1, false), (2, true), (3, true), (4, true), (5, true), (6, true)] [] ?_
 refine Gr (id := 4) (rest := [(1, false), (2, true), (3, true), (4, true), (5, true), (6, true)]) [zR 0] [0, 1, 2, 3, 4, 10, 43] (fun _ => [zI 0 places, zS 1 a l.length c, zI 2 cut, zV 3 (.string key), zS 4 a2 at'.length c2, zB 10 false, zI 43 places]) (fun _ => []) (fun _ => ?_)
 refine JR_callp [] 34 #[.int .i64 places] (some 44) (by kernel_rfl) (fun w S hG => ?_)
 refine (vNew (p := places) (hG.at 0 rfl)).mono ?_
 rintro e3 w3 (⟨hpl, hR⟩ | ⟨⟨hp1, hp6⟩, b, ba, mk, md, hR⟩)
 ·refine ⟨_, _, _, hR, ?_⟩
  try simp only [cAp, nAp, aNl]
  refine Gr (id := 4) (rest := []) [zR 2, zR 3, zR 4, zR 5, zR 6] [0, 1, 2, 3, 4, 10, 12, 13] (fun _ => [zI 0 places, zS 1 a l.length c, zI 2 cut, zV 3 (.string key), zS 4 a2 at'.length c2, zB 10 false, zV 12 (.pointer none), zV 13 (.iface 243 (.pointer (some (er 2))))]) (fun _ => []) (fun _ => ?_)
  refine JR_end ?_
  refine J_seq ?_
  refine Sq mixed [zR 0, zR 1] [] [0, 1, 2, 3, 4, 10, 12, 13, 48] (fun _ => [zI 0 places, zS 1 a l.length c, zI 2 cut, zV 3 (.string key), zS 4 a2 at'.length c2, zB 10 false, zV 12 (.pointer none), zV 13 (.iface 243 (.pointer (some (er 2)))), zB 48 true]) (fun _ => []) (fun _ => ?_)
  refine cTt ?_
  refine Sq mixed [zR 0, zR 1, zR 2] [] [0, 1, 2, 3, 4, 10, 12, 13] (fun _ => [zI 0 places, zS 1 a l.length c, zI 2 cut, zV 3 (.string key), zS 4 a2 at'.length c2, zB 10 true, zV 12 (.pointer none), zV 13 (.iface 243 (.pointer (some (er 2))))]) (fun _ => []) (fun _ => ?_)
  refine J_return [[]] (.bool true) (by kernel_rfl) (fun a w s => ?_)
  exact s.retz (by simp) [] [] rfl rfl
 obtain ⟨p, rfl⟩ : ∃ p : Nat, places = p := ⟨places.toNat, by omega⟩
 rw [Int.toNat_natCast] at hR
 refine ⟨_, _, _, hR, ?_⟩
 try simp only [cAp, nAp, aNl]
 refine Gr (id := 4) (rest := []) [zR 2, zR 3, zR 4, zR 5, zR 6] [0, 1, 2, 3, 4, 10, 12, 13] (fun _ => [zI 0 (↑p : Int), zS 1 a l.length c, zI 2 cut, zV 3 (.string key), zS 4 a2 at'.length c2, zB 10 false, zP 12 b, zV 13 .nilIface]) (fun _ => []) (fun _ => ?_)
 refine JR_end ?_
 refine J_seq ?_
 refine Sq mixed [zR 0, zR 1] [] [0, 1, 2, 3, 4, 10, 12, 13, 48] (fun _ => [zI 0 (↑p : Int), zS 1 a l.length c, zI 2 cut, zV 3 (.string key), zS 4 a2 at'.length c2, zB 10 false, zP 12 b, zV 13 .nilIface, zB 48 false]) (fun _ => []) (fun _ => ?_)
 refine cF ?_
 refine J_skip ?_
 refine J_seq ?_
 refine jB mixed [(0, true), (1, false), (2, true), (3, true), (4, true), (5, true), (6, true)] [] ?_
 refine Gr (id := 7) (rest := [(1, false), (2, true), (3, true), (4, true), (5, true), (6, true)]) [zR 0] [1, 2, 3, 4, 10, 12, 13, 52] (fun _ => [zS 1 a l.length c, zI 2 cut, zV 3 (.string key), zS 4 a2 at'.length c2, zB 10 false, zP 12 b, zV 13 .nilIface, zI 52 (↑p : Int)]) (fun _ => []) (fun _ => ?_)
 refine JR_callp [] 34 #[.int .i64 (↑p : Int)] (some 53) (by kernel_rfl) (fun w S hG => ?_)
 refine (vNew (p := p) (hG.at 0 rfl)).mono ?_
 rintro e4 w4 (⟨hpl, _⟩ | ⟨_, b2, ba2, mk2, md2, hR⟩)
 ·omega
 rw [Int.toNat_natCast] at hR
 refine ⟨_, _, _, hR, ?_⟩
 have hbv : vecErr (List.replicate p (0 : Int)) = 0 := by
  rcases (by omega : p = 1 ∨ p = 2 ∨ p = 3 ∨ p = 4 ∨ p = 5 ∨ p = 6) with rfl | rfl | rfl | rfl | rfl | rfl <;> decide
 have hbl : (List.replicate p (0 : Int)).length = p := List.length_replicate
 try simp only [cAp, nAp, aNl]
 refine Gr (id := 7) (rest := []) [zR 2, zR 3, zR 4, zR 5, zR 6] [1, 2, 3, 4, 10, 12, 13, 14] (fun _ => [zS 1 a l.length c, zI 2 cut, zV 3 (.string key), zS 4 a2 at'.length c2, zB 10 false, zP 12 b, zV 13 .nilIface, zP 14 b2]) (fun _ => []) (fun _ => ?_)
 refine JR_end ?_
 refine J_seq ?_
 refine Sq mixed [zR 0, zR 1, zR 2, zR 3, zR 4, zR 5] [] [1, 2, 3, 4, 10, 12, 14, 61] (fun _ => [zS 1 a l.length c, zI 2 cut, zV 3 (.string key), zS 4 a2 at'.length c2, zB 10 false, zP 12 b, zP 14 b2, zB 61 false]) (fun _ => []) (fun _ => ?_)
 refine cF ?_
 refine J_skip ?_
 refine Sq mixed [zR 0] [] [1, 2, 3, 4, 10, 12, 14, 15] (fun _ => [zS 1 a l.length c, zI 2 cut, zV 3 (.string key), zS 4 a2 at'.length c2, zB 10 false, zP 12 b, zP 14 b2, zS 15 none 0 0]) (fun _ => []) (fun _ => ?_)
 refine J_seq ?_
 refine J_seq ?_
 refine J_stp (stp_accm eCom 28 3) ?_
 refine J_norm (C' := [cObj b (.cells #[.int .i64 (↑p : Int), .slice (some (⟨ba, 0, none⟩)) p p, .map (some mk), .map (some md)] 133 (0, 0)), cObj mk (Obj.map #[] 0), (cStar []), (cMapG md okDot (dotSet [])), cObj b2 (.cells #[.int .i64 (↑p : Int), .slice (some (⟨ba2, 0, none⟩)) p p, .map (some mk2), .map (some md2)] 133 (0, 0)), cObj mk2 (Obj.map #[] 0), (cStar []), (cMapG md2 okDot (dotSet [])), cAcc (.slice none 0 0) 28 3 (List.map eCom [])]) (G' := [(.nilIface, (dC er eb)), (.slice a l.length c, (D.sl 3 (List.map eCom l))), (.slice a2 at'.length c2, (dInts at')), (.slice (some (⟨ba, 0, none⟩)) p p, (dInts (List.replicate p 0))), (.slice (some (⟨ba2, 0, none⟩)) p p, (dInts (List.replicate p 0)))]) (by kernel_rfl) (by kernel_rfl) ?_
 refine Gq mixed [zR 0] [] [1, 2, 3, 4, 10, 12, 14, 15, 16] (fun _ => [zS 1 a l.length c, zI 2 cut, zV 3 (.string key), zS 4 a2 at'.length c2, zB 10 false, zP 12 b, zP 14 b2, zS 15 none 0 0, zI 16 0]) (fun _ => []) (fun _ => ?_)
 refine J_block ?_
 have hm0 : MapG (MapKept.IsKey .string) #[] (strG [] fun _ => .nilIface) := (MapG.empty _).congr fun k => (strG_nil _ k).symm
 refine J_loopx (fun y : PutsA => [zS 1 a l.length c, zI 2 cut, zV 3 (.string key), zS 4 a2 at'.length c2, zB 10 false, zP 12 b, zP 14 b2, zS 15 y.a y.k y.c, zI 16 y.i]) (fun y : PutsA => []) (fun y : PutsA => [cObj b (.cells #[nI (p : Nat), .slice (some ⟨ba, 0, none⟩) p p, .map (some mk), .map (some md)] 133 (0, 0)), cObj mk (.map y.es y.clock), cStar (y.ks.map fun t => cAcc (y.F t) 28 3 ((keyC (putsAll y.K) t).map eCom)), cMapG md okDot (dotSet ((putsAll y.K).map dotP)), cObj b2 (.cells #[nI (p : Nat), .slice (some ⟨ba2, 0, none⟩) p p, .map (some mk2), .map (some md2)] 133 (0, 0)), cObj mk2 (.map #[] 0), cStar (([] : List ByteArray).map fun t => cAcc ((fun _ : ByteArray => Value.nilIface) t) 28 3 ((keyC ([] : List PutT) t).map eCom)), cMapG md2 okDot (dotSet (([] : List PutT).map dotP)), cAcc (.slice y.a y.k y.c) 28 3 (y.K.map eCom)]) (fun y : PutsA => [(.nilIface, (dC er eb)), (.slice a l.length c, (D.sl 3 (List.map eCom l))), (.slice a2 at'.length c2, (dInts at')), (.slice (sA ba 0) p p, (dInts (List.replicate p 0))), (.slice (sA ba2 0) p p, (dInts (List.replicate p 0)))]) (fun y : PutsA => (l.length - y.i).toNat) (fun y : PutsA => (0 ≤ y.i ∧ y.i ≤ l.length ∧ KeptA p l y.K ∧ y.K.length ≤ y.i.toNat ∧ MapG (MapKept.IsKey .string) y.es (strG y.ks y.F) ∧ MapKept.Stamped y.es y.clock ∧ y.ks.Nodup ∧ (∀ t, t ∈ y.ks ↔ keyC (putsAll y.K) t ≠ []))) ⟨0, [], none, 0, 0, #[], 0, [], fun _ => .nilIface⟩ [1, 2, 3, 4, 10, 12, 14, 15, 16] [] [0, 1, 2, 3, 4, 5, 6, 7, 8] [0, 1, 2, 3, 4] ?_ (by kernel_rfl) rfl rfl rfl ?_
 ·exact ⟨by simp, by simp, ⟨by simp, by simp, by simp [putsAll]⟩, by simp, hm0, MapKept.stamped_empty 0, by simp, by simp [putsAll, keyC]⟩
 rintro ⟨i, K, av, k, cv, es, clock, ks, F⟩ ⟨hi0, hi, hK, hKl, hm, hst, hnd, hiff⟩
 dsimp only at hi0 hi hK hKl hm hst hnd hiff ⊢
 have hKa := putsAll_len fun c hc => (hK.ok c hc).1
 refine J_stpx (stp_acclen 8 rfl) fun _ hk => ?_
 rw [List.length_map] at hk
 have hk2 : k ≤ 30 := by omega
 refine J_seq ?_
 refine Sq mixed [zR 0, zR 1, zR 2, zR 3] [] [1, 2, 3, 4, 10, 12, 14, 15, 16, 65] (fun _ => [zS 1 a l.length c, zI 2 cut, zV 3 (.string key), zS 4 a2 at'.length c2, zB 10 false, zP 12 b, zP 14 b2, zS 15 av k cv, zI 16 i, zB 65 (decide (i < (↑l.length : Int)))]) (fun _ => []) (fun _ => ?_)
 refine cC (t := decide (i < (↑l.length : Int))) (fun hlt => ?_) (fun hlt => ?_)
 ·have hlt2 : i < l.length := by simpa using hlt
  obtain ⟨x, hx⟩ : ∃ x, l[i.toNat]? = some x := ⟨_, List.getElem?_eq_getElem (by omega)⟩
  have hxm := List.mem_of_getElem? hx
  have hxl := light_com (hlc x hxm)
  refine J_read2 1 rfl i.toNat (map_at hx) (by kernel_rfl) (fun b1 off1 cs1 ty1 fz1 a1_0 c1_0 a1_1 c1_1 ha1 hrd1 => ?_)
  cases ha1
  have hrd1_0 := rd0 (hrd1 0 _ rfl)
  have hrd1_1 := hrd1 1 _ rfl
  have hrd1_2 := hrd1 2 _ rfl
  try simp only [cAp, nAp, aNl]
  refine J_skip ?_
  refine J_seq ?_
  refine J_block ?_
  refine J_seq ?_
  refine jB mixed [(0, true), (1, true), (2, true), (3, true), (4, true), (5, false), (6, false), (7, true)] [] ?_
  refine Gs (id := 14) (rest := [(5, false), (6, false), (7, true)]) [zR 0, zR 1, zR 2, .rd 3 [] 0 2, .rd 4 [.r 0 (some (.slice (a1_0, c1_0).fst ((List.map eI x.when).length) c1_0)), .r 0 (some (nI x.place)), .r 0 (some (.slice (a1_1, c1_1).fst ((List.map eOp x.ops).length) c1_1))] 0 0] [1, 2, 3, 4, 10, 12, 14, 15, 16, 68, 72] (fun _ => [zS 1 (sA b1 off1) l.length c, zI 2 cut, zV 3 (.string key), zS 4 a2 at'.length c2, zB 10 false, zP 12 b, zP 14 b2, zS 15 av k cv, zI 16 i, zP 68 b, zV 72 (.agg #[.slice (a1_0, c1_0).fst ((List.map eI x.when).length) c1_0, nI x.place, .slice (a1_1, c1_1).fst ((List.map eOp x.ops).length) c1_1])]) (fun _ => []) (fun _ => [(0 : Int) ≤ i, i < (↑l.length : Int), cs1[off1 + i.toNat * (3 : Nat)]? = some (Value.slice (a1_0, c1_0).fst (List.map eI x.when).length (a1_0, c1_0).snd), cs1[off1 + i.toNat * (3 : Nat) + (1 : Nat)]? = some (nI x.place), cs1[off1 + i.toNat * (3 : Nat) + (2 : Nat)]? = some (Value.slice (a1_1, c1_1).fst (List.map eOp x.ops).length (a1_1, c1_1).snd)]) (fun _ => ⟨hi0, hlt2, hrd1_0, hrd1_1, hrd1_2, trivial⟩) (fun _ => ?_)
  refine JR_callp [] 18 #[.agg #[.slice (a1_0, c1_0).fst ((List.map eI x.when).length) c1_0, .int .i64 x.place, .slice (a1_1, c1_1).fst ((List.map eOp x.ops).length) c1_1]] (some 73) (by kernel_rfl) (fun w S hG => ?_)
  refine (ownCommit (c := x) (hG.at 5 rfl) (hG.at 6 rfl) (by omega) (by omega) (fun o ho => by have := hxl.2.2 o ho; omega)).mono ?_
  rintro e5 w5 ⟨q1, m1, d1, q2, m2, d2, hR⟩
  refine ⟨_, _, _, hR, ?_⟩
  try simp only [cAp, nAp, aNl]
  refine JR_call [] [0, 1, 2, 3] 36 #[.pointer (some (⟨b, 0, none⟩)), .agg #[.slice q1 m1 d1, .int .i64 x.place, .slice q2 m2 d2]] (some 74) (by kernel_rfl) (by kernel_rfl) (by decide) (fun w S M hP hG _ => ?_)
  refine (vPut (p := p) (base := List.replicate p 0) (L := putsAll K) (c := x) (hG.at 0 rfl) hP (hG.at 3 rfl) hbv hbl (hG.at 7 rfl) (hG.at 8 rfl) (by omega) (by omega) (fun o ho => by have := hxl.2.2 o ho; omega) (by omega) hm hst hnd hiff).mono ?_
  rintro e6 w6 (⟨hf, v, G, hR, hv⟩ | ⟨hf, es1, clock1, ks1, F1, hR, hm1, hst1, hnd1, hiff1⟩)
  ·have hR := ret_drop hR
   refine ⟨_, _, _, hR, ?_⟩
   obtain ⟨t6, p6, rfl⟩ : ∃ t q, v = .iface t (.pointer (some q)) := by
    rcases hv with ⟨_, ⟨h0, _⟩ | ⟨_, rfl⟩, _⟩ | ⟨_, _, pb, rfl, _⟩
    ·exact absurd h0 hf
    ·exact ⟨_, _, rfl⟩
    ·exact ⟨_, _, rfl⟩
   try simp only [cAp, nAp, aNl]
   refine Gr (id := 14) (rest := []) [zR 7] [1, 2, 3, 4, 10, 12, 14, 15, 16, 75] (fun _ => [zS 1 (sA b1 off1) l.length c, zI 2 cut, zV 3 (.string key), zS 4 a2 at'.length c2, zB 10 false, zP 12 b, zP 14 b2, zS 15 av k cv, zI 16 i, zB 75 false]) (fun _ => []) (fun _ => ?_)
   try simp only [cAp, nAp, aNl]
   refine JR_end ?_
   try simp only [cAp, nAp, aNl]
   refine cF ?_
   try simp only [cAp, nAp, aNl]
   refine J_skip ?_
   try simp only [cAp, nAp, aNl]
   refine J_eb ?_
   try simp only [cAp, nAp, aNl]
   refine Gp mixed [zR 0, .rd 1 [] 0 1, zR 2] [] [1, 2, 3, 4, 10, 12, 14, 15, 16] (fun _ => [zS 1 (sA b1 off1) l.length c, zI 2 cut, zV 3 (.string key), zS 4 a2 at'.length c2, zB 10 false, zP 12 b, zP 14 b2, zS 15 av k cv, zI 16 (i + 1)]) (fun _ => []) (fun _ => [IntKind.i64.wrap (i + (1 : Int)) = i + (1 : Int)]) (fun _ => ⟨wrap_i64 (by omega) (by omega), trivial⟩) (fun _ => ?_)
   try simp only [cAp, nAp, aNl]
   refine J_backx ⟨i + 1, K, _, _, _, _, _, _, _⟩ [1, 2, 3, 4, 10, 12, 14, 15, 16] [] [5, 6, 7, 8, 0, 1, 2, 3, 4] [0, 1, 2, 3, 4] ?_ ?_ (by kernel_rfl) rfl rfl rfl
   ·exact ⟨by simp only; omega, by simp only; omega, hK, by simp only; omega, hm, hst, hnd, hiff⟩
   ·simp only
    omega
  ·have hcp := putFault_zero.1 hf
   refine ⟨_, _, _, hR, ?_⟩
   try simp only [cAp, nAp, aNl]
   refine Gr (id := 14) (rest := []) [zR 7] [1, 2, 3, 4, 10, 12, 14, 15, 16, 75] (fun _ => [zS 1 (sA b1 off1) l.length c, zI 2 cut, zV 3 (.string key), zS 4 a2 at'.length c2, zB 10 false, zP 12 b, zP 14 b2, zS 15 av k cv, zI 16 i, zB 75 true]) (fun _ => []) (fun _ => ?_)
   try simp only [cAp, nAp, aNl]
   refine JR_end ?_
   try simp only [cAp, nAp, aNl]
   refine cTt ?_
   try simp only [cAp, nAp, aNl]
   refine J_again2 1 rfl 0 rfl i.toNat (map_at hx) (by kernel_rfl) (fun a2_0 c2_0 a2_1 c2_1 hrd2 => ?_)
   have hrd2_0 := rd0 (hrd2 0 _ rfl)
   have hrd2_1 := hrd2 1 _ rfl
   have hrd2_2 := hrd2 2 _ rfl
   try simp only [cAp, nAp, aNl]
   refine jB mixed [(0, true), (1, true), (2, true), (3, true), (4, true), (5, false), (6, false), (7, true)] [] ?_
   refine Gs (id := 15) (rest := [(6, false), (7, true)]) [zR 0, zR 1, zR 2, .rd 3 [] 0 2, .rd 4 [.r 0 (some (.slice (a1_0, c1_0).fst ((List.map eI x.when).length) c1_0)), .r 0 (some (nI x.place)), .r 0 (some (.slice (a1_1, c1_1).fst ((List.map eOp x.ops).length) c1_1))] 0 0, .wr 5 [] 0] [1, 2, 3, 4, 10, 12, 14, 15, 16, 76, 81] (fun nu1 => [zS 1 (sA b1 off1) l.length c, zI 2 cut, zV 3 (.string key), zS 4 a2 at'.length c2, zB 10 false, zP 12 b, zP 14 b2, zS 15 av k cv, zI 16 i, zS 76 av k cv, zS 81 (sA (nu1 0) 0) 1 1]) (fun nu1 => [(nu1 0, .cells #[.slice (a1_0, c1_0).fst ((List.map eI x.when).length) c1_0, nI x.place, .slice (a1_1, c1_1).fst ((List.map eOp x.ops).length) c1_1] 28 (0, 0))]) (fun nu1 => [(0 : Int) ≤ i, i < (↑l.length : Int), cs1[off1 + i.toNat * (3 : Nat)]? = some (Value.slice (a1_0, c1_0).fst (List.map eI x.when).length (a1_0, c1_0).snd), cs1[off1 + i.toNat * (3 : Nat) + (1 : Nat)]? = some (nI x.place), cs1[off1 + i.toNat * (3 : Nat) + (2 : Nat)]? = some (Value.slice (a1_1, c1_1).fst (List.map eOp x.ops).length (a1_1, c1_1).snd)]) (fun _ => ⟨hi0, hlt2, hrd1_0, hrd1_1, hrd1_2, trivial⟩) (fun nu1 => ?_)
   refine JR_appm 4 43 28 3 56 (.agg #[.slice none 0 0, .int .i64 0, .slice none 0 0]) (a0 := av) (len := k) (cap0 := cv) (ax := (some (⟨nu1 0, 0, none⟩))) (m := 1) (c := 1) (dst := (some 82)) [x] (by kernel_rfl) (by kernel_rfl) (by kernel_rfl) (by kernel_rfl) rfl (by decide) rfl (fun _ _ _ s => src_one s 0 rfl rfl ⟨.inr (.inl (List.mem_of_getElem? (i := 5) rfl)), ⟨.inl ⟨rfl, rfl⟩, ⟨.inr (.inl (List.mem_of_getElem? (i := 6) rfl)), trivial⟩⟩⟩) (by simp only [maxLen]; omega) (by omega) (fun av1 cv1 => ?_)
   rw [← putsAll_snoc]
   rw [← putsAll_snoc] at hiff1
   try simp only [cAp, nAp, aNl]
   refine Gr (id := 15) (rest := []) [zR 7] [1, 2, 3, 4, 10, 12, 14, 15, 16] (fun _ => [zS 1 (sA b1 off1) l.length c, zI 2 cut, zV 3 (.string key), zS 4 a2 at'.length c2, zB 10 false, zP 12 b, zP 14 b2, zS 15 av1 (k + 1) cv1, zI 16 i]) (fun _ => [(nu1 0, .cells #[.slice a1_0 ((List.map eI x.when).length) c1_0, nI x.place, .slice a1_1 ((List.map eOp x.ops).length) c1_1] 28 (0, 0))]) (fun _ => ?_)
   try simp only [cAp, nAp, aNl]
   refine JR_end ?_
   try simp only [cAp, nAp, aNl]
   refine J_eb ?_
   try simp only [cAp, nAp, aNl]
   refine Gp mixed [zR 0, .rd 1 [] 0 1, zR 2] [] [1, 2, 3, 4, 10, 12, 14, 15, 16] (fun _ => [zS 1 (sA b1 off1) l.length c, zI 2 cut, zV 3 (.string key), zS 4 a2 at'.length c2, zB 10 false, zP 12 b, zP 14 b2, zS 15 av1 (k + 1) cv1, zI 16 (i + 1)]) (fun _ => [(nu1 0, .cells #[.slice a1_0 ((List.map eI x.when).length) c1_0, nI x.place, .slice a1_1 ((List.map eOp x.ops).length) c1_1] 28 (0, 0))]) (fun _ => [IntKind.i64.wrap (i + (1 : Int)) = i + (1 : Int)]) (fun _ => ⟨wrap_i64 (by omega) (by omega), trivial⟩) (fun _ => ?_)
   try simp only [cAp, nAp, aNl]
   refine J_backx ⟨i + 1, K ++ [x], _, _, _, _, _, _, _⟩ [1, 2, 3, 4, 10, 12, 14, 15, 16] [] [4, 5, 6, 7, 0, 1, 2, 3, 8] [0, 1, 2, 3, 4] ?_ ?_ (by kernel_rfl) rfl rfl rfl
   ·exact ⟨by simp only; omega, by simp only; omega, hK.snoc hxm hcp, by rw [List.length_append, List.length_singleton]; simp only; omega, hm1, hst1, hnd1, hiff1⟩
   ·simp only
    omega
 ·subst hk
  refine J_exit rfl ?_
  refine J_seq ?_
  refine J_seq ?_
  refine J_stp (stp_freeze 8 rfl) ?_
  refine J_norm (C' := [cObj b (.cells #[.int .i64 (↑p : Int), .slice (some (⟨ba, 0, none⟩)) p p, .map (some mk), .map (some md)] 133 (0, 0)), cObj mk (Obj.map es clock), (cStar (List.map (fun t => cAcc (F t) 28 3 (List.map eCom (keyC (putsAll K) t))) ks)), (cMapG md okDot (dotSet (List.map dotP (putsAll K)))), cObj b2 (.cells #[.int .i64 (↑p : Int), .slice (some (⟨ba2, 0, none⟩)) p p, .map (some mk2), .map (some md2)] 133 (0, 0)), cObj mk2 (Obj.map #[] 0), (cStar (List.map (fun t => cAcc Value.nilIface 28 3 (List.map eCom (keyC [] t))) [])), (cMapG md2 okDot (dotSet (List.map dotP [])))]) (G' := [(.nilIface, (dC er eb)), (.slice a l.length c, (D.sl 3 (List.map eCom l))), (.slice a2 at'.length c2, (dInts at')), (.slice (some (⟨ba, 0, none⟩)) p p, (dInts (List.replicate p 0))), (.slice (some (⟨ba2, 0, none⟩)) p p, (dInts (List.replicate p 0))), (.slice av K.length cv, (D.sl 3 (List.map eCom K)))]) (by kernel_rfl) (by kernel_rfl) ?_
  refine Gp mixed [zR 0, zR 1, .rd 2 [] 0 1, zR 3] [] [2, 3, 4, 10, 12, 14, 15, 17] (fun _ => [zI 2 cut, zV 3 (.string key), zS 4 a2 at'.length c2, zB 10 false, zP 12 b, zP 14 b2, zS 15 av K.length cv, zI 17 ((↑K.length : Int) - 1)]) (fun _ => []) (fun _ => [IntKind.i64.wrap ((↑K.length : Int) - (1 : Int)) = (↑K.length : Int) - (1 : Int)]) (fun _ => ⟨wrap_i64 (by omega) (by omega), trivial⟩) (fun _ => ?_)
  refine J_block ?_
  refine J_loopx (fun y : PutsB => [zI 2 cut, zV 3 (.string key), zS 4 a2 at'.length c2, zB 10 false, zP 12 b, zP 14 b2, zS 15 av K.length cv, zI 17 y.i]) (fun y : PutsB => []) (fun y : PutsB => [cObj b (.cells #[nI (p : Nat), .slice (some ⟨ba, 0, none⟩) p p, .map (some mk), .map (some md)] 133 (0, 0)), cObj mk (.map es clock), cStar (ks.map fun t => cAcc (F t) 28 3 ((keyC (putsAll K) t).map eCom)), cMapG md okDot (dotSet ((putsAll K).map dotP)), cObj b2 (.cells #[nI (p : Nat), .slice (some ⟨ba2, 0, none⟩) p p, .map (some mk2), .map (some md2)] 133 (0, 0)), cObj mk2 (.map y.es y.clock), cStar (y.ks.map fun t => cAcc (y.F t) 28 3 ((keyC y.L t).map eCom)), cMapG md2 okDot (dotSet (y.L.map dotP))]) (fun y : PutsB => [(.nilIface, (dC er eb)), (.slice a l.length c, (D.sl 3 (List.map eCom l))), (.slice a2 at'.length c2, (dInts at')), (.slice (sA ba 0) p p, (dInts (List.replicate p 0))), (.slice (sA ba2 0) p p, (dInts (List.replicate p 0))), (.slice av K.length cv, (D.sl 3 (List.map eCom K)))]) (fun y : PutsB => (y.i + 1).toNat) (fun y : PutsB => (-1 ≤ y.i ∧ y.i < K.length ∧ y.L.Perm (putsAll (K.drop (y.i + 1).toNat)) ∧ MapG (MapKept.IsKey .string) y.es (strG y.ks y.F) ∧ MapKept.Stamped y.es y.clock ∧ y.ks.Nodup ∧ (∀ t, t ∈ y.ks ↔ keyC y.L t ≠ []))) ⟨(K.length : Int) - 1, [], #[], 0, [], fun _ => .nilIface⟩ [2, 3, 4, 10, 12, 14, 15, 17] [] [0, 1, 2, 3, 4, 5, 6, 7] [0, 1, 2, 3, 4, 5] ?_ (by kernel_rfl) rfl rfl rfl ?_
  ·exact ⟨by simp only; omega, by simp only; omega, by simp [putsAll], hm0, MapKept.stamped_empty 0, by simp, by simp [keyC]⟩
  rintro ⟨j, Lb, es2, clock2, ks2, F2⟩ ⟨hj0, hj, hpm, hm2, hst2, hnd2, hiff2⟩
  dsimp only at hj0 hj hpm hm2 hst2 hnd2 hiff2 ⊢
  refine J_seq ?_
  refine Sq mixed [zR 0, zR 1] [] [2, 3, 4, 10, 12, 14, 15, 17, 87] (fun _ => [zI 2 cut, zV 3 (.string key), zS 4 a2 at'.length c2, zB 10 false, zP 12 b, zP 14 b2, zS 15 av K.length cv, zI 17 j, zB 87 (decide (j ≥ 0))]) (fun _ => []) (fun _ => ?_)
  refine cC (t := decide (j ≥ 0)) (fun hlt2 => ?_) (fun hlt2 => ?_)
  ·have hlt3 : 0 ≤ j := by simpa using hlt2
   obtain ⟨x, hx⟩ : ∃ x, K[j.toNat]? = some x := ⟨_, List.getElem?_eq_getElem (by omega)⟩
   have hxm := List.mem_of_getElem? hx
   have hxl := light_com (hlc x (hK.mem x hxm))
   have hxo := hK.ok x hxm
   refine J_read2 5 rfl j.toNat (map_at hx) (by kernel_rfl) (fun b1 off1 cs1 ty1 fz1 a1_0 c1_0 a1_1 c1_1 ha1 hrd1 => ?_)
   cases ha1
   have hrd1_0 := rd0 (hrd1 0 _ rfl)
   have hrd1_1 := hrd1 1 _ rfl
   have hrd1_2 := hrd1 2 _ rfl
   try simp only [cAp, nAp, aNl]
   refine J_skip ?_
   refine J_seq ?_
   refine J_block ?_
   refine J_seq ?_
   refine jB mixed [(0, true), (1, true), (2, true), (3, true), (4, false), (5, false), (6, false)] [] ?_
   refine Gs (id := 19) (rest := [(4, false), (5, false), (6, false)]) [zR 0, zR 1, .rd 2 [] 0 2, .rd 3 [.r 0 (some (.slice (a1_0, c1_0).fst ((List.map eI x.when).length) c1_0)), .r 0 (some (nI x.place)), .r 0 (some (.slice (a1_1, c1_1).fst ((List.map eOp x.ops).length) c1_1))] 0 0] [2, 3, 4, 10, 12, 14, 15, 17, 93] (fun _ => [zI 2 cut, zV 3 (.string key), zS 4 a2 at'.length c2, zB 10 false, zP 12 b, zP 14 b2, zS 15 (sA b1 off1) K.length cv, zI 17 j, zV 93 (.agg #[.slice (a1_0, c1_0).fst ((List.map eI x.when).length) c1_0, nI x.place, .slice (a1_1, c1_1).fst ((List.map eOp x.ops).length) c1_1])]) (fun _ => []) (fun _ => [(0 : Int) ≤ j, j < (↑K.length : Int), cs1[off1 + j.toNat * (3 : Nat)]? = some (Value.slice (a1_0, c1_0).fst (List.map eI x.when).length (a1_0, c1_0).snd), cs1[off1 + j.toNat * (3 : Nat) + (1 : Nat)]? = some (nI x.place), cs1[off1 + j.toNat * (3 : Nat) + (2 : Nat)]? = some (Value.slice (a1_1, c1_1).fst (List.map eOp x.ops).length (a1_1, c1_1).snd)]) (fun _ => ⟨hlt3, hj, hrd1_0, hrd1_1, hrd1_2, trivial⟩) (fun _ => ?_)
   refine JR_callp [] 18 #[.agg #[.slice (a1_0, c1_0).fst ((List.map eI x.when).length) c1_0, .int .i64 x.place, .slice (a1_1, c1_1).fst ((List.map eOp x.ops).length) c1_1]] (some 94) (by kernel_rfl) (fun w S hG => ?_)
   refine (ownCommit (c := x) (hG.at 6 rfl) (hG.at 7 rfl) (by omega) (by omega) (fun o ho => by have := hxl.2.2 o ho; omega)).mono ?_
   rintro e5 w5 ⟨q1, m1, d1, q2, m2, d2, hR⟩
   refine ⟨_, _, _, hR, ?_⟩
   try simp only [cAp, nAp, aNl]
   refine Gr (id := 19) (rest := []) [.wr 5 [] 0, .wr 6 [.o 0 none, .o 0 none, .o 0 none] 0] [2, 3, 4, 10, 12, 14, 15, 17, 18] (fun nu1 => [zI 2 cut, zV 3 (.string key), zS 4 a2 at'.length c2, zB 10 false, zP 12 b, zP 14 b2, zS 15 (sA b1 off1) K.length cv, zI 17 j, zP 18 (nu1 0)]) (fun nu1 => [(nu1 0, .cells #[.slice q1 m1 d1, nI x.place, .slice q2 m2 d2] 28 (0, 0))]) (fun nu1 => ?_)
   refine JR_end ?_
   refine J_seq ?_
   refine J_seq ?_
   refine J_stpx (stp_replen 9 rfl) fun _ hq2 => ?_
   rw [List.length_map] at hq2
   subst hq2
   have hj1 : j.toNat + 1 = (j + 1).toNat := by omega
   have hjd := kept_dots (L := Lb) hK.nodup hx (by rw [hj1]; exact hpm)
   have hcan : CanPut p (List.replicate p 0) [] x := ⟨hxo.1, hxo.2.1, hxo.2.2, by simp⟩
   have hLbl : Lb.length ≤ 360 := by
    rw [hpm.length_eq]
    have := putsAll_len (K := K.drop (j + 1).toNat) fun c hc => (hK.ok c (List.mem_of_mem_drop hc)).1
    rw [List.length_drop] at this
    omega
   have hdr : putsAll (K.drop j.toNat) = putsOf x x.ops ++ putsAll (K.drop (j + 1).toNat) := by rw [putsAll_drop hx, hj1]
   have hxo12 := (right_of hxo.1).o2
   have hxo1 := (right_of hxo.1).o1
   have hjm : (j - 1 + 1).toNat = j.toNat := by omega
   by_cases hcut : 0 < cut ∧ cut < x.ops.length
   ·obtain ⟨hcut1, hcut2⟩ := hcut
    refine Gp mixed [zR 0, .rd 1 [] 0 6, zR 2, zR 3, zR 4, .rd 5 [.o 0 none] 0 0, zR 6, .rd 7 [] 0 6, zR 8] [] [2, 3, 4, 10, 12, 14, 15, 17, 18, 103] (fun _ => [zI 2 cut, zV 3 (.string key), zS 4 a2 at'.length c2, zB 10 false, zP 12 b, zP 14 b2, zS 15 (sA b1 off1) K.length cv, zI 17 j, zP 18 (nu1 0), zB 103 true]) (fun _ => [(nu1 0, .cells #[.slice q1 m1 d1, nI x.place, .slice q2 x.ops.length d2] 28 (0, 0))]) (fun _ => [decide (cut > (0 : Int)) = true, decide (cut < (↑x.ops.length : Int)) = true]) (fun _ => ⟨by simp; omega, by simp; omega, trivial⟩) (fun _ => ?_)
    refine cTt ?_
    refine J_seq ?_
    refine J_again2 5 rfl 0 rfl j.toNat (map_at hx) (by kernel_rfl) (fun a2_0 c2_0 a2_1 c2_1 hrd2 => ?_)
    have hrd2_0 := rd0 (hrd2 0 _ rfl)
    have hrd2_1 := hrd2 1 _ rfl
    have hrd2_2 := hrd2 2 _ rfl
    try simp only [cAp, nAp, aNl]
    refine jB mixed [(0, true), (1, true), (2, true), (3, true), (4, false), (5, false), (6, false)] [] ?_
    refine Gs (id := 21) (rest := [(4, false), (5, false), (6, false)]) [zR 0, zR 1, .rd 2 [] 0 2, .rd 3 [.r 0 (some (.slice (a1_0, c1_0).fst ((List.map eI x.when).length) c1_0)), .r 0 (some (nI x.place)), .r 0 (some (.slice (a1_1, c1_1).fst ((List.map eOp x.ops).length) c1_1))] 0 0] [2, 3, 4, 10, 12, 14, 15, 17, 18, 107] (fun _ => [zI 2 cut, zV 3 (.string key), zS 4 a2 at'.length c2, zB 10 false, zP 12 b, zP 14 b2, zS 15 (sA b1 off1) K.length cv, zI 17 j, zP 18 (nu1 0), zV 107 (.agg #[.slice (a1_0, c1_0).fst ((List.map eI x.when).length) c1_0, nI x.place, .slice (a1_1, c1_1).fst ((List.map eOp x.ops).length) c1_1])]) (fun _ => [(nu1 0, .cells #[.slice q1 m1 d1, nI x.place, .slice q2 x.ops.length d2] 28 (0, 0))]) (fun _ => [(0 : Int) ≤ j, j < (↑K.length : Int), cs1[off1 + j.toNat * (3 : Nat)]? = some (Value.slice (a1_0, c1_0).fst (List.map eI x.when).length (a1_0, c1_0).snd), cs1[off1 + j.toNat * (3 : Nat) + (1 : Nat)]? = some (nI x.place), cs1[off1 + j.toNat * (3 : Nat) + (2 : Nat)]? = some (Value.slice (a1_1, c1_1).fst (List.map eOp x.ops).length (a1_1, c1_1).snd)]) (fun _ => ⟨hlt3, hj, hrd1_0, hrd1_1, hrd1_2, trivial⟩) (fun _ => ?_)
    refine JR_callp [] 18 #[.agg #[.slice (a1_0, c1_0).fst ((List.map eI x.when).length) c1_0, .int .i64 x.place, .slice (a1_1, c1_1).fst ((List.map eOp x.ops).length) c1_1]] (some 108) (by kernel_rfl) (fun w S hG => ?_)
    refine (ownCommit (c := x) (hG.at 6 rfl) (hG.at 7 rfl) (by omega) (by omega) (fun o ho => by have := hxl.2.2 o ho; omega)).mono ?_
    rintro e6 w6 ⟨q3, m3, d3, q4, m4, d4, hR⟩
    refine ⟨_, _, _, hR, ?_⟩
    try simp only [cAp, nAp, aNl]
    refine Gr (id := 21) (rest := []) [.wr 5 [] 0, .wr 6 [.o 1 none, .o 1 none, .o 1 none] 0] [2, 3, 4, 10, 12, 14, 15, 17, 18, 19] (fun nu2 => [zI 2 cut, zV 3 (.string key), zS 4 a2 at'.length c2, zB 10 false, zP 12 b, zP 14 b2, zS 15 (sA b1 off1) K.length cv, zI 17 j, zP 18 (nu1 0), zP 19 (nu2 0)]) (fun nu2 => [(nu1 0, .cells #[.slice q1 m1 d1, nI x.place, .slice q2 x.ops.length d2] 28 (0, 0)), (nu2 0, .cells #[.slice q3 m3 d3, nI x.place, .slice q4 m4 d4] 28 (0, 0))]) (fun nu2 => ?_)
    refine JR_end ?_
    refine J_seq ?_
    refine J_stpx (stp_replen 13 rfl) fun _ hq4 => ?_
    rw [List.length_map] at hq4
    subst hq4
    have hne : x.ops.map eOp ≠ [] := fun h => by
     rw [List.map_eq_nil_iff] at h
     rw [h, List.length_nil] at hcut2
     omega
    refine J_stpx (stp_know (p := ∃ b off, q4 = some ⟨b, off, none⟩) fun _ _ H => Rep.someA (H.g (.slice q4 x.ops.length d4, .sl 7 (x.ops.map eOp)) (List.mem_of_getElem? (i := 13) rfl)) hne) fun _ hq4 => ?_
    obtain ⟨bq, oq, rfl⟩ := hq4
    refine J_stpx (stp_know (p := x.ops.length ≤ d4) fun _ _ H => (H.g (_, _) (List.mem_of_getElem? (i := 13) rfl)).cap) fun _ hd4 => ?_
    refine J_stpx (stp_know (p := x.ops.length ≤ d2) fun _ _ H => (H.g (_, _) (List.mem_of_getElem? (i := 9) rfl)).cap) fun _ hd2 => ?_
    refine J_stp (stp_fact fun w S H => (H (_, _) (List.mem_of_getElem? (i := 13) rfl)).dropM cut.toNat (by omega)) ?_
    refine J_stp (stp_fact fun w S H => (H (_, _) (List.mem_of_getElem? (i := 9) rfl)).takeM cut.toNat (by omega)) ?_
    refine J_norm (C' := [cObj b (.cells #[.int .i64 (↑p : Int), .slice (some (⟨ba, 0, none⟩)) p p, .map (some mk), .map (some md)] 133 (0, 0)), cObj mk (Obj.map es clock), (cStar (List.map (fun t => cAcc (F t) 28 3 (List.map eCom (keyC (putsAll K) t))) ks)), (cMapG md okDot (dotSet (List.map dotP (putsAll K)))), cObj b2 (.cells #[.int .i64 (↑p : Int), .slice (some (⟨ba2, 0, none⟩)) p p, .map (some mk2), .map (some md2)] 133 (0, 0)), cObj mk2 (Obj.map es2 clock2), (cStar (List.map (fun t => cAcc (F2 t) 28 3 (List.map eCom (keyC Lb t))) ks2)), (cMapG md2 okDot (dotSet (List.map dotP Lb)))]) (G' := [(.nilIface, (dC er eb)), (.slice a l.length c, (D.sl 3 (List.map eCom l))), (.slice a2 at'.length c2, (dInts at')), (.slice (some (⟨ba, 0, none⟩)) p p, (dInts (List.replicate p 0))), (.slice (some (⟨ba2, 0, none⟩)) p p, (dInts (List.replicate p 0))), (.slice (some (⟨b1, off1, none⟩)) K.length cv, (D.sl 3 (List.map eCom K))), (.slice (a1_0, c1_0).fst ((List.map eI x.when).length) c1_0, (D.sl 1 (List.map eI x.when))), (.slice (a1_1, c1_1).fst ((List.map eOp x.ops).length) c1_1, (D.sl 7 (List.map eOp x.ops))), (.slice q1 m1 d1, (dInts x.when)), (.slice q2 x.ops.length d2, (D.sl 7 (List.map eOp x.ops))), (.slice (a2_0, c2_0).fst ((List.map eI x.when).length) c2_0, (D.sl 1 (List.map eI x.when))), (.slice (a2_1, c2_1).fst ((List.map eOp x.ops).length) c2_1, (D.sl 7 (List.map eOp x.ops))), (.slice q3 m3 d3, (dInts x.when)), (.slice (some (⟨bq, oq, none⟩)) x.ops.length d4, (D.sl 7 (List.map eOp x.ops))), (.slice (some (⟨bq, oq + cut.toNat * 7, none⟩)) (x.ops.length - cut.toNat) (d4 - cut.toNat), (D.sl 7 (List.map eOp (List.drop cut.toNat x.ops)))), (.slice q2 cut.toNat d2, (D.sl 7 (List.map eOp (List.take cut.toNat x.ops))))]) (by kernel_rfl) (by kernel_rfl) ?_
    have hdl : (x.ops.drop cut.toNat).length = x.ops.length - cut.toNat := List.length_drop ..
    have htl : (x.ops.take cut.toNat).length = min cut.toNat x.ops.length := List.length_take ..
    have hpa : PartOf ⟨x.when, x.place, x.ops.drop cut.toNat⟩ x := ⟨rfl, rfl, fun h => by have h := congrArg List.length h; simp only [hdl, List.length_nil] at h; omega, List.drop_sublist ..⟩
    have hpb : PartOf ⟨x.when, x.place, x.ops.take cut.toNat⟩ x := ⟨rfl, rfl, fun h => by have h := congrArg List.length h; simp only [htl, List.length_nil] at h; omega, List.take_sublist ..⟩
    have hcd : CanPut p (List.replicate p 0) Lb ⟨x.when, x.place, x.ops.drop cut.toNat⟩ := canPut_part hcan hpa fun o ho => hjd o (List.mem_of_mem_drop ho)
    have hct : CanPut p (List.replicate p 0) (Lb ++ putsOf x (x.ops.drop cut.toNat)) ⟨x.when, x.place, x.ops.take cut.toNat⟩ := canPut_part hcan hpb fun o ho hm => by
     rw [List.map_append, List.mem_append] at hm
     rcases hm with hm | hm
     ·exact hjd o (List.mem_of_mem_take ho) hm
     ·rw [dotP_puts] at hm
      have hn := dots_own hxo.1
      rw [← List.take_append_drop cut.toNat x.ops, List.map_append] at hn
      exact (List.nodup_append.1 hn).2.2 _ (List.mem_map_of_mem ho) _ hm rfl
    refine Gp mixed [zR 0, .rd 1 [.o 1 none] 0 0, zR 2, .rd 3 [] 0 4, zR 4, .wr 5 [.o 1 none] 0] [(5, [1])] [2, 3, 4, 10, 12, 14, 15, 17, 18, 19] (fun _ => [zI 2 cut, zV 3 (.string key), zS 4 a2 at'.length c2, zB 10 false, zP 12 b, zP 14 b2, zS 15 (sA b1 off1) K.length cv, zI 17 j, zP 18 (nu1 0), zP 19 (nu2 0)]) (fun _ => [(nu1 0, .cells #[.slice q1 m1 d1, nI x.place, .slice q2 x.ops.length d2] 28 (0, 0)), (nu2 0, .cells #[.slice q3 m3 d3, nI x.place, .slice (sA bq (oq + cut.toNat * 7)) (x.ops.length - cut.toNat) (d4 - cut.toNat)] 28 (0, 0))]) (fun _ => [(0 : Int) ≤ cut, cut ≤ (↑x.ops.length : Int), cut < (↑d4 : Int)]) (fun _ => ⟨by omega, by omega, by omega, trivial⟩) (fun _ => ?_)
    refine Sp mixed [zR 0, .rd 1 [.o 0 none] 0 0, zR 2, .rd 3 [] 0 4, zR 4, .wr 5 [.o 0 none] 0] [(5, [0])] [2, 3, 4, 10, 12, 14, 15, 17, 18, 19] (fun _ => [zI 2 cut, zV 3 (.string key), zS 4 a2 at'.length c2, zB 10 false, zP 12 b, zP 14 b2, zS 15 (sA b1 off1) K.length cv, zI 17 j, zP 18 (nu1 0), zP 19 (nu2 0)]) (fun _ => [(nu1 0, .cells #[.slice q1 m1 d1, nI x.place, .slice q2 cut.toNat d2] 28 (0, 0)), (nu2 0, .cells #[.slice q3 m3 d3, nI x.place, .slice (sA bq (oq + cut.toNat * 7)) (x.ops.length - cut.toNat) (d4 - cut.toNat)] 28 (0, 0))]) (fun _ => [(0 : Int) ≤ cut, cut ≤ (↑d2 : Int)]) (fun _ => ⟨by omega, by omega, trivial⟩) (fun _ => ?_)
    refine J_seq ?_
    refine jB mixed [(0, true), (1, true), (2, false), (3, true)] [] ?_
    refine Gr (id := 24) (rest := [(2, false), (3, true)]) [zR 0, .rd 1 [.o 1 none, .o 1 none, .o 1 none] 0 0] [2, 3, 4, 10, 12, 14, 15, 17, 18, 19, 119, 120] (fun _ => [zI 2 cut, zV 3 (.string key), zS 4 a2 at'.length c2, zB 10 false, zP 12 b, zP 14 b2, zS 15 (sA b1 off1) K.length cv, zI 17 j, zP 18 (nu1 0), zP 19 (nu2 0), zP 119 b2, zV 120 (.agg #[.slice q3 m3 d3, nI x.place, .slice (sA bq (oq + cut.toNat * 7)) (x.ops.length - cut.toNat) (d4 - cut.toNat)])]) (fun _ => [(nu1 0, .cells #[.slice q1 m1 d1, nI x.place, .slice q2 cut.toNat d2] 28 (0, 0)), (nu2 0, .cells #[.slice q3 m3 d3, nI x.place, .slice (sA bq (oq + cut.toNat * 7)) (x.ops.length - cut.toNat) (d4 - cut.toNat)] 28 (0, 0))]) (fun _ => ?_)
    refine JR_call [] [4, 5, 6, 7] 36 #[.pointer (some (⟨b2, 0, none⟩)), .agg #[.slice q3 m3 d3, .int .i64 x.place, .slice (some (⟨bq, oq + cut.toNat * 7, none⟩)) (x.ops.length - cut.toNat) (d4 - cut.toNat)]] (some 121) (by kernel_rfl) (by kernel_rfl) (by decide) (fun w S M hP hG _ => ?_)
    refine (vPut (p := p) (base := List.replicate p 0) (L := Lb) (c := ⟨x.when, x.place, x.ops.drop cut.toNat⟩) (hG.at 0 rfl) hP (hG.at 4 rfl) hbv hbl (hG.at 12 rfl) (hG.at 14 rfl) (by show x.when.length ≤ 1000000; omega) (by show (x.ops.drop cut.toNat).length ≤ 1000000; omega) (fun o ho => by have := hxl.2.2 o (List.mem_of_mem_drop ho); omega) (by omega) hm2 hst2 hnd2 hiff2).mono ?_
    rintro e7 w7 (⟨hf, _⟩ | ⟨_, es3, clock3, ks3, F3, hR, hm3, hst3, hnd3, hiff3⟩)
    ·exact absurd (putFault_zero.2 hcd) hf
    refine ⟨_, _, _, hR, ?_⟩
    try simp only [cAp, nAp, aNl]
    refine Gr (id := 24) (rest := []) [zR 3] [2, 3, 4, 10, 12, 14, 15, 17, 18, 19, 122] (fun _ => [zI 2 cut, zV 3 (.string key), zS 4 a2 at'.length c2, zB 10 false, zP 12 b, zP 14 b2, zS 15 (sA b1 off1) K.length cv, zI 17 j, zP 18 (nu1 0), zP 19 (nu2 0), zB 122 false]) (fun _ => [(nu1 0, .cells #[.slice q1 m1 d1, nI x.place, .slice q2 cut.toNat d2] 28 (0, 0)), (nu2 0, .cells #[.slice q3 m3 d3, nI x.place, .slice (sA bq (oq + cut.toNat * 7)) (x.ops.length - cut.toNat) (d4 - cut.toNat)] 28 (0, 0))]) (fun _ => ?_)
    try simp only [cAp, nAp, aNl]
    refine JR_end ?_
    try simp only [cAp, nAp, aNl]
    refine cF ?_
    try simp only [cAp, nAp, aNl]
    refine J_skip ?_
    try simp only [cAp, nAp, aNl]
    refine J_seq ?_
    try simp only [cAp, nAp, aNl]
    refine J_norm (C' := [cObj b (.cells #[.int .i64 (↑p : Int), .slice (some (⟨ba, 0, none⟩)) p p, .map (some mk), .map (some md)] 133 (0, 0)), cObj mk (Obj.map es clock), (cStar (List.map (fun t => cAcc (F t) 28 3 (List.map eCom (keyC (putsAll K) t))) ks)), (cMapG md okDot (dotSet (List.map dotP (putsAll K)))), cObj b2 (.cells #[.int .i64 (↑p : Int), .slice (some (⟨ba2, 0, none⟩)) p p, .map (some mk2), .map (some md2)] 133 (0, 0)), cObj mk2 (Obj.map es3 clock3), (cStar (List.map (fun t => cAcc (F3 t) 28 3 (List.map eCom (keyC (Lb ++ putsOf (ComT.mk x.when x.place (List.drop cut.toNat x.ops)) (List.drop cut.toNat x.ops)) t))) ks3)), (cMapG md2 okDot (dotSet (List.map dotP (Lb ++ putsOf (ComT.mk x.when x.place (List.drop cut.toNat x.ops)) (List.drop cut.toNat x.ops)))))]) (G' := [(.nilIface, (dC er eb)), (.slice a l.length c, (D.sl 3 (List.map eCom l))), (.slice a2 at'.length c2, (dInts at')), (.slice (some (⟨ba, 0, none⟩)) p p, (dInts (List.replicate p 0))), (.slice (some (⟨ba2, 0, none⟩)) p p, (dInts (List.replicate p 0))), (.slice (some (⟨b1, off1, none⟩)) K.length cv, (D.sl 3 (List.map eCom K))), (.slice a1_0 ((List.map eI x.when).length) c1_0, (D.sl 1 (List.map eI x.when))), (.slice a1_1 ((List.map eOp x.ops).length) c1_1, (D.sl 7 (List.map eOp x.ops))), (.slice q1 m1 d1, (dInts x.when)), (.slice q2 x.ops.length d2, (D.sl 7 (List.map eOp x.ops))), (.slice a2_0 ((List.map eI x.when).length) c2_0, (D.sl 1 (List.map eI x.when))), (.slice a2_1 ((List.map eOp x.ops).length) c2_1, (D.sl 7 (List.map eOp x.ops))), (.slice q3 m3 d3, (dInts x.when)), (.slice (some (⟨bq, oq, none⟩)) x.ops.length d4, (D.sl 7 (List.map eOp x.ops))), (.slice (some (⟨bq, oq + cut.toNat * 7, none⟩)) (x.ops.length - cut.toNat) (d4 - cut.toNat), (D.sl 7 (List.map eOp (List.drop cut.toNat x.ops)))), (.slice q2 cut.toNat d2, (D.sl 7 (List.map eOp (List.take cut.toNat x.ops))))]) (by kernel_rfl) (by kernel_rfl) ?_
    refine jB mixed [(0, true), (1, true), (2, false), (3, true)] [] ?_
    refine Gr (id := 26) (rest := [(2, false), (3, true)]) [zR 0, .rd 1 [.o 0 none, .o 0 none, .o 0 none] 0 0] [2, 3, 4, 10, 12, 14, 15, 17, 18, 19, 123, 124] (fun _ => [zI 2 cut, zV 3 (.string key), zS 4 a2 at'.length c2, zB 10 false, zP 12 b, zP 14 b2, zS 15 (sA b1 off1) K.length cv, zI 17 j, zP 18 (nu1 0), zP 19 (nu2 0), zP 123 b2, zV 124 (.agg #[.slice q1 m1 d1, nI x.place, .slice q2 cut.toNat d2])]) (fun _ => [(nu1 0, .cells #[.slice q1 m1 d1, nI x.place, .slice q2 cut.toNat d2] 28 (0, 0)), (nu2 0, .cells #[.slice q3 m3 d3, nI x.place, .slice (sA bq (oq + cut.toNat * 7)) (x.ops.length - cut.toNat) (d4 - cut.toNat)] 28 (0, 0))]) (fun _ => ?_)
    have hL2 : (Lb ++ putsOf x (x.ops.drop cut.toNat)).length ≤ 1000000 := by
     rw [List.length_append, putsOf, List.length_map]
     omega
    refine JR_call [] [4, 5, 6, 7] 36 #[.pointer (some (⟨b2, 0, none⟩)), .agg #[.slice q1 m1 d1, .int .i64 x.place, .slice q2 cut.toNat d2]] (some 125) (by kernel_rfl) (by kernel_rfl) (by decide) (fun w S M hP hG _ => ?_)
    refine (vPut (p := p) (base := List.replicate p 0) (L := Lb ++ putsOf x (x.ops.drop cut.toNat)) (c := ⟨x.when, x.place, x.ops.take cut.toNat⟩) (hG.at 0 rfl) hP (hG.at 4 rfl) hbv hbl (hG.at 8 rfl) (hG.at 15 rfl) (by show x.when.length ≤ 1000000; omega) (by show (x.ops.take cut.toNat).length ≤ 1000000; omega) (fun o ho => by have := hxl.2.2 o (List.mem_of_mem_take ho); omega) hL2 hm3 hst3 hnd3 hiff3).mono ?_
    rintro e8 w8 (⟨hf, _⟩ | ⟨_, es4, clock4, ks4, F4, hR, hm4, hst4, hnd4, hiff4⟩)
    ·exact absurd (putFault_zero.2 hct) hf
    rw [show putsOf (⟨x.when, x.place, x.ops.take cut.toNat⟩ : ComT) (⟨x.when, x.place, x.ops.take cut.toNat⟩ : ComT).ops = putsOf x (x.ops.take cut.toNat) from rfl] at hR hiff4
    refine ⟨_, _, _, hR, ?_⟩
    try simp only [cAp, nAp, aNl]
    refine Gr (id := 26) (rest := []) [zR 3] [2, 3, 4, 10, 12, 14, 15, 17, 18, 19, 126] (fun _ => [zI 2 cut, zV 3 (.string key), zS 4 a2 at'.length c2, zB 10 false, zP 12 b, zP 14 b2, zS 15 (sA b1 off1) K.length cv, zI 17 j, zP 18 (nu1 0), zP 19 (nu2 0), zB 126 false]) (fun _ => [(nu1 0, .cells #[.slice q1 m1 d1, nI x.place, .slice q2 cut.toNat d2] 28 (0, 0)), (nu2 0, .cells #[.slice q3 m3 d3, nI x.place, .slice (sA bq (oq + cut.toNat * 7)) (x.ops.length - cut.toNat) (d4 - cut.toNat)] 28 (0, 0))]) (fun _ => ?_)
    try simp only [cAp, nAp, aNl]
    refine JR_end ?_
    try simp only [cAp, nAp, aNl]
    refine cF ?_
    try simp only [cAp, nAp, aNl]
    refine J_skip ?_
    try simp only [cAp, nAp, aNl]
    refine J_eb ?_
    try simp only [cAp, nAp, aNl]
    refine Gp mixed [zR 0, .rd 1 [] 0 1, zR 2] [] [2, 3, 4, 10, 12, 14, 15, 17, 18, 19] (fun _ => [zI 2 cut, zV 3 (.string key), zS 4 a2 at'.length c2, zB 10 false, zP 12 b, zP 14 b2, zS 15 (sA b1 off1) K.length cv, zI 17 (j - 1), zP 18 (nu1 0), zP 19 (nu2 0)]) (fun _ => [(nu1 0, .cells #[.slice q1 m1 d1, nI x.place, .slice q2 cut.toNat d2] 28 (0, 0)), (nu2 0, .cells #[.slice q3 m3 d3, nI x.place, .slice (sA bq (oq + cut.toNat * 7)) (x.ops.length - cut.toNat) (d4 - cut.toNat)] 28 (0, 0))]) (fun _ => [IntKind.i64.wrap (j - (1 : Int)) = j - (1 : Int)]) (fun _ => ⟨wrap_i64 (by omega) (by omega), trivial⟩) (fun _ => ?_)
    try simp only [cAp, nAp, aNl]
    refine J_backx ⟨j - 1, Lb ++ putsOf x (x.ops.drop cut.toNat) ++ putsOf x (x.ops.take cut.toNat), _, _, _, _⟩ [2, 3, 4, 10, 12, 14, 15, 17] [] [0, 1, 2, 3, 4, 5, 6, 7] [0, 1, 2, 3, 4, 5] ?_ ?_ (by kernel_rfl) rfl rfl rfl
    ·refine ⟨by simp only; omega, by simp only; omega, ?_, hm4, hst4, hnd4, hiff4⟩
     dsimp only
     have hsp : putsOf x x.ops = putsOf x (x.ops.take cut.toNat) ++ putsOf x (x.ops.drop cut.toNat) := by
      conv => lhs; rw [← List.take_append_drop cut.toNat x.ops]
      exact List.map_append ..
     rw [hjm, hdr, hsp, List.append_assoc (putsOf x (x.ops.take cut.toNat))]
     exact List.perm_append_comm.trans ((List.perm_append_comm.trans (hpm.append_left _)).append_left _)
    ·simp only
     omega
   ·have hcp : CanPut p (List.replicate p 0) Lb x := ⟨hxo.1, hxo.2.1, hxo.2.2, hjd⟩
    refine Gq mixed [zR 0, zR 1, zR 2, .rd 3 [] 2 0, .rd 4 [] 2 0, .rd 5 [.o 0 none] 2 0, .rd 6 [] 2 0, .rd 7 [] 2 0, .rd 8 [] 0 3] [] [2, 3, 4, 10, 12, 14, 15, 17, 18, 103] (fun _ => [zI 2 cut, zV 3 (.string key), zS 4 a2 at'.length c2, zB 10 false, zP 12 b, zP 14 b2, zS 15 (sA b1 off1) K.length cv, zI 17 j, zP 18 (nu1 0), zB 103 (decide (cut > 0) && decide (cut < (↑x.ops.length : Int)))]) (fun _ => [(nu1 0, .cells #[.slice q1 m1 d1, nI x.place, .slice q2 x.ops.length d2] 28 (0, 0))]) (fun _ => ?_)
    refine J_condF (decide (cut > 0) && decide (cut < (↑x.ops.length : Int))) (by kernel_rfl) (by kernel_rfl) (by simp; omega) ?_
    refine J_skip ?_
    refine J_seq ?_
    refine jB mixed [(0, true), (1, true), (2, false), (3, true)] [] ?_
    refine Gr (id := 26) (rest := [(2, false), (3, true)]) [zR 0, .rd 1 [.o 0 none, .o 0 none, .o 0 none] 0 0] [2, 3, 4, 10, 12, 14, 15, 17, 18, 123, 124] (fun _ => [zI 2 cut, zV 3 (.string key), zS 4 a2 at'.length c2, zB 10 false, zP 12 b, zP 14 b2, zS 15 (sA b1 off1) K.length cv, zI 17 j, zP 18 (nu1 0), zP 123 b2, zV 124 (.agg #[.slice q1 m1 d1, nI x.place, .slice q2 x.ops.length d2])]) (fun _ => [(nu1 0, .cells #[.slice q1 m1 d1, nI x.place, .slice q2 x.ops.length d2] 28 (0, 0))]) (fun _ => ?_)
    refine JR_call [] [4, 5, 6, 7] 36 #[.pointer (some (⟨b2, 0, none⟩)), .agg #[.slice q1 m1 d1, .int .i64 x.place, .slice q2 x.ops.length d2]] (some 125) (by kernel_rfl) (by kernel_rfl) (by decide) (fun w S M hP hG _ => ?_)
    refine (vPut (p := p) (base := List.replicate p 0) (L := Lb) (c := x) (hG.at 0 rfl) hP (hG.at 4 rfl) hbv hbl (hG.at 8 rfl) (hG.at 9 rfl) (by omega) (by omega) (fun o ho => by have := hxl.2.2 o ho; omega) (by omega) hm2 hst2 hnd2 hiff2).mono ?_
    rintro e7 w7 (⟨hf, _⟩ | ⟨_, es3, clock3, ks3, F3, hR, hm3, hst3, hnd3, hiff3⟩)
    ·exact absurd (putFault_zero.2 hcp) hf
    refine ⟨_, _, _, hR, ?_⟩
    try simp only [cAp, nAp, aNl]
    refine Gr (id := 26) (rest := []) [zR 3] [2, 3, 4, 10, 12, 14, 15, 17, 18, 126] (fun _ => [zI 2 cut, zV 3 (.string key), zS 4 a2 at'.length c2, zB 10 false, zP 12 b, zP 14 b2, zS 15 (sA b1 off1) K.length cv, zI 17 j, zP 18 (nu1 0), zB 126 false]) (fun _ => [(nu1 0, .cells #[.slice q1 m1 d1, nI x.place, .slice q2 x.ops.length d2] 28 (0, 0))]) (fun _ => ?_)
    try simp only [cAp, nAp, aNl]
    refine JR_end ?_
    try simp only [cAp, nAp, aNl]
    refine cF ?_
    try simp only [cAp, nAp, aNl]
    refine J_skip ?_
    try simp only [cAp, nAp, aNl]
    refine J_eb ?_
    try simp only [cAp, nAp, aNl]
    refine Gp mixed [zR 0, .rd 1 [] 0 1, zR 2] [] [2, 3, 4, 10, 12, 14, 15, 17, 18] (fun _ => [zI 2 cut, zV 3 (.string key), zS 4 a2 at'.length c2, zB 10 false, zP 12 b, zP 14 b2, zS 15 (sA b1 off1) K.length cv, zI 17 (j - 1), zP 18 (nu1 0)]) (fun _ => [(nu1 0, .cells #[.slice q1 m1 d1, nI x.place, .slice q2 x.ops.length d2] 28 (0, 0))]) (fun _ => [IntKind.i64.wrap (j - (1 : Int)) = j - (1 : Int)]) (fun _ => ⟨wrap_i64 (by omega) (by omega), trivial⟩) (fun _ => ?_)
    try simp only [cAp, nAp, aNl]
    refine J_backx ⟨j - 1, Lb ++ putsOf x x.ops, _, _, _, _⟩ [2, 3, 4, 10, 12, 14, 15, 17] [] [0, 1, 2, 3, 4, 5, 6, 7] [0, 1, 2, 3, 4, 5] ?_ ?_ (by kernel_rfl) rfl rfl rfl
    ·refine ⟨by simp only; omega, by simp only; omega, ?_, hm3, hst3, hnd3, hiff3⟩
     dsimp only
     rw [hjm, hdr]
     exact List.perm_append_comm.trans (hpm.append_left _)
    ·simp only
     omega
  ·have hjn : j = -1 := by simp at hlt2; omega
   subst hjn
   have hpm2 : (putsAll K).Perm Lb := hpm.symm
   have hLbl : Lb.length ≤ 360 := by
    rw [← hpm2.length_eq]
    omega
   have hRA : ∀ q ∈ putsAll K, (comFault (oneC q)).code = 0 ∧ q.when.length = p := fun q hq => hK.right hq
   have hRB : ∀ q ∈ Lb, (comFault (oneC q)).code = 0 ∧ q.when.length = p := fun q hq => hK.right (hpm2.mem_iff.2 hq)
   have hkA : ∀ t ∈ ks, t.size ≤ 1000000 := fun t ht => by
    obtain ⟨q, hq, rfl⟩ := key_of ((hiff t).1 ht)
    exact hK.key hq
   have hkB : ∀ t ∈ ks2, t.size ≤ 1000000 := fun t ht => by
    obtain ⟨q, hq, rfl⟩ := key_of ((hiff2 t).1 ht)
    exact hK.key (hpm2.mem_iff.2 hq)
   have hklA := ks_len2 hnd hiff
   have hklB := ks_len2 hnd2 hiff2
   have hrs := read_same hpm2 hK.nodup key at'
   have hksm := keys_same hpm2 hnd hnd2 hiff hiff2
   refine J_exit rfl ?_
   refine J_seq ?_
   refine jB mixed [(0, true), (1, true), (2, true), (3, false), (4, false), (5, true), (6, true), (7, true), (8, false), (9, false), (10, true)] [] ?_
   refine Gr (id := 28) (rest := [(3, false), (4, false), (5, true), (6, true), (7, true), (8, false), (9, false), (10, true)]) [zR 0, zR 1, zR 2] [3, 4, 10, 12, 14, 128, 129, 130] (fun _ => [zV 3 (.string key), zS 4 a2 at'.length c2, zB 10 false, zP 12 b, zP 14 b2, zP 128 b, zV 129 (.string key), zS 130 a2 at'.length c2]) (fun _ => []) (fun _ => ?_)
   refine JR_callp [] 39 #[.slice a2 at'.length c2] (some 131) (by kernel_rfl) (fun w S hG => ?_)
   refine (vown (hG.at 2 rfl) (by omega)).mono ?_
   rintro e5 w5 ⟨a5, c5, hR⟩
   refine ⟨_, _, _, hR, ?_⟩
   try simp only [cAp, nAp, aNl]
   refine JR_callz [] [0, 1, 2, 3] 38 #[.pointer (some (⟨b, 0, none⟩)), .string key, .slice a5 at'.length c5] (some 132) zero_all (by kernel_rfl) (by kernel_rfl) (by decide) (fun w S M hP hG _ => ?_)
   refine (vRead (p := p) (base := List.replicate p 0) (at' := at') (key := key) (L := putsAll K) (hG.at 0 rfl) hP (hG.at 3 rfl) hbv hbl (hG.at 6 rfl) (by omega) (by omega) hRA hm hnd hiff).mono ?_
   rintro e6 w6 (⟨hae, hR⟩ | ⟨hae, ua, un, uc, hR⟩)
   ·refine ⟨_, _, _, hR, ?_⟩
    try simp only [cAp, nAp, aNl]
    refine Gr (id := 28) (rest := []) [zR 5, zR 6, zR 7, .wr 8 [] 0, .wr 9 [.o 0 none, .o 0 none, .o 0 none, .o 0 none] 0, zR 10] [3, 4, 10, 12, 14, 20, 21] (fun nu1 => [zV 3 (.string key), zS 4 a2 at'.length c2, zB 10 false, zP 12 b, zP 14 b2, zP 20 (nu1 0), zV 21 (.iface 243 (.pointer (some (er (atErr p (List.replicate p 0) key at')))))]) (fun nu1 => [(nu1 0, .cells #[nI 0, .string (ByteArray.mk #[]), nI 0, .slice none 0 0] 47 (0, 0))]) (fun nu1 => ?_)
    try simp only [cAp, nAp, aNl]
    refine JR_end ?_
    try simp only [cAp, nAp, aNl]
    refine J_seq ?_
    try simp only [cAp, nAp, aNl]
    refine J_norm (C' := [cObj b2 (.cells #[.int .i64 (↑p : Int), .slice (some (⟨ba2, 0, none⟩)) p p, .map (some mk2), .map (some md2)] 133 (0, 0)), cObj mk2 (Obj.map es2 clock2), (cStar (List.map (fun t => cAcc (F2 t) 28 3 (List.map eCom (keyC Lb t))) ks2)), (cMapG md2 okDot (dotSet (List.map dotP Lb))), cObj b (.cells #[.int .i64 (↑p : Int), .slice (some (⟨ba, 0, none⟩)) p p, .map (some mk), .map (some md)] 133 (0, 0)), cObj mk (Obj.map es clock), (cStar (List.map (fun t => cAcc (F t) 28 3 (List.map eCom (keyC (putsAll K) t))) ks)), (cMapG md okDot (dotSet (List.map dotP (putsAll K))))]) (G' := [(.nilIface, (dC er eb)), (.slice a l.length c, (D.sl 3 (List.map eCom l))), (.slice a2 at'.length c2, (dInts at')), (.slice (some (⟨ba, 0, none⟩)) p p, (dInts (List.replicate p 0))), (.slice (some (⟨ba2, 0, none⟩)) p p, (dInts (List.replicate p 0))), (.slice av K.length cv, (D.sl 3 (List.map eCom K))), (.slice a5 at'.length c5, (dInts at'))]) (by kernel_rfl) (by kernel_rfl) ?_
    refine jB mixed [(0, true), (1, true), (2, true), (3, false), (4, false), (5, true), (6, true), (7, true), (8, false), (9, false), (10, true)] [] ?_
    refine Gr (id := 29) (rest := [(3, false), (4, false), (5, true), (6, true), (7, true), (8, false), (9, false), (10, true)]) [zR 0, zR 1, zR 2] [10, 12, 14, 20, 21, 136, 137, 138] (fun _ => [zB 10 false, zP 12 b, zP 14 b2, zP 20 (nu1 0), zV 21 (.iface 243 (.pointer (some (er (atErr p (List.replicate p 0) key at'))))), zP 136 b2, zV 137 (.string key), zS 138 a2 at'.length c2]) (fun _ => [(nu1 0, .cells #[nI 0, .string (ByteArray.mk #[]), nI 0, .slice none 0 0] 47 (0, 0))]) (fun _ => ?_)
    refine JR_callp [] 39 #[.slice a2 at'.length c2] (some 139) (by kernel_rfl) (fun w S hG => ?_)
    refine (vown (hG.at 2 rfl) (by omega)).mono ?_
    rintro e7 w7 ⟨a7, c7, hR⟩
    refine ⟨_, _, _, hR, ?_⟩
    try simp only [cAp, nAp, aNl]
    refine JR_callz [] [0, 1, 2, 3] 38 #[.pointer (some (⟨b2, 0, none⟩)), .string key, .slice a7 at'.length c7] (some 140) zero_all (by kernel_rfl) (by kernel_rfl) (by decide) (fun w S M hP hG _ => ?_)
    refine (vRead (p := p) (base := List.replicate p 0) (at' := at') (key := key) (L := Lb) (hG.at 0 rfl) hP (hG.at 4 rfl) hbv hbl (hG.at 7 rfl) (by omega) (by omega) hRB hm2 hnd2 hiff2).mono ?_
    rintro e8 w8 (⟨_, hR⟩ | ⟨hae2, _⟩)
    ·refine ⟨_, _, _, hR, ?_⟩
     try simp only [cAp, nAp, aNl]
     refine Gr (id := 29) (rest := []) [zR 5, zR 6, zR 7, .wr 8 [] 0, .wr 9 [.o 1 none, .o 1 none, .o 1 none, .o 1 none] 0, zR 10] [10, 12, 14, 20, 21, 22, 23] (fun nu2 => [zB 10 false, zP 12 b, zP 14 b2, zP 20 (nu1 0), zV 21 (.iface 243 (.pointer (some (er (atErr p (List.replicate p 0) key at'))))), zP 22 (nu2 0), zV 23 (.iface 243 (.pointer (some (er (atErr p (List.replicate p 0) key at')))))]) (fun nu2 => [(nu1 0, .cells #[nI 0, .string (ByteArray.mk #[]), nI 0, .slice none 0 0] 47 (0, 0)), (nu2 0, .cells #[nI 0, .string (ByteArray.mk #[]), nI 0, .slice none 0 0] 47 (0, 0))]) (fun nu2 => ?_)
     try simp only [cAp, nAp, aNl]
     refine JR_end ?_
     try simp only [cAp, nAp, aNl]
     refine J_seq ?_
     try simp only [cAp, nAp, aNl]
     refine J_seq ?_
     try simp only [cAp, nAp, aNl]
     refine Gq mixed [zR 0, zR 1, zR 2, .rd 3 [] 1 0, .rd 4 [] 1 0, zR 5] [] [10, 12, 14, 20, 21, 22, 23, 148] (fun _ => [zB 10 false, zP 12 b, zP 14 b2, zP 20 (nu1 0), zV 21 (.iface 243 (.pointer (some (er (atErr p (List.replicate p 0) key at'))))), zP 22 (nu2 0), zV 23 (.iface 243 (.pointer (some (er (atErr p (List.replicate p 0) key at'))))), zB 148 true]) (fun _ => [(nu1 0, .cells #[nI 0, .string (ByteArray.mk #[]), nI 0, .slice none 0 0] 47 (0, 0)), (nu2 0, .cells #[nI 0, .string (ByteArray.mk #[]), nI 0, .slice none 0 0] 47 (0, 0))]) (fun _ => ?_)
     try simp only [cAp, nAp, aNl]
     refine cTt ?_
     try simp only [cAp, nAp, aNl]
     refine J_seq ?_
     try simp only [cAp, nAp, aNl]
     refine Gq mixed [zR 0, zR 1, zR 2, zR 3, zR 4, zR 5, zR 6] [] [10, 12, 14, 20, 22] (fun _ => [zB 10 true, zP 12 b, zP 14 b2, zP 20 (nu1 0), zP 22 (nu2 0)]) (fun _ => [(nu1 0, .cells #[nI 0, .string (ByteArray.mk #[]), nI 0, .slice none 0 0] 47 (0, 0)), (nu2 0, .cells #[nI 0, .string (ByteArray.mk #[]), nI 0, .slice none 0 0] 47 (0, 0))]) (fun _ => ?_)
     try simp only [cAp, nAp, aNl]
     refine J_return [[]] (.bool true) (by kernel_rfl) (fun a w s => ?_)
     exact s.retz (by simp) [] [] rfl rfl
    ·exact absurd hae2 hae
   ·refine ⟨_, _, _, hR, ?_⟩
    try simp only [cAp, nAp, aNl]
    refine Gr (id := 28) (rest := []) [zR 5, zR 6, zR 7, .wr 8 [] 0, .wr 9 [.o 0 none, .o 0 none, .o 0 none, .o 0 none] 0, zR 10] [3, 4, 10, 12, 14, 20, 21] (fun nu1 => [zV 3 (.string key), zS 4 a2 at'.length c2, zB 10 false, zP 12 b, zP 14 b2, zP 20 (nu1 0), zV 21 .nilIface]) (fun nu1 => [(nu1 0, .cells #[nI ((Sx.valOf key (withinC (putsAll K) key at')).kind), .string ((Sx.valOf key (withinC (putsAll K) key at')).text), nI ((Sx.valOf key (withinC (putsAll K) key at')).n), .slice ua un uc] 47 (0, 0))]) (fun nu1 => ?_)
    try simp only [cAp, nAp, aNl]
    refine JR_end ?_
    try simp only [cAp, nAp, aNl]
    refine J_seq ?_
    try simp only [cAp, nAp, aNl]
    refine J_norm (C' := [cObj b2 (.cells #[.int .i64 (↑p : Int), .slice (some (⟨ba2, 0, none⟩)) p p, .map (some mk2), .map (some md2)] 133 (0, 0)), cObj mk2 (Obj.map es2 clock2), (cStar (List.map (fun t => cAcc (F2 t) 28 3 (List.map eCom (keyC Lb t))) ks2)), (cMapG md2 okDot (dotSet (List.map dotP Lb))), cObj b (.cells #[.int .i64 (↑p : Int), .slice (some (⟨ba, 0, none⟩)) p p, .map (some mk), .map (some md)] 133 (0, 0)), cObj mk (Obj.map es clock), (cStar (List.map (fun t => cAcc (F t) 28 3 (List.map eCom (keyC (putsAll K) t))) ks)), (cMapG md okDot (dotSet (List.map dotP (putsAll K))))]) (G' := [(.nilIface, (dC er eb)), (.slice a l.length c, (D.sl 3 (List.map eCom l))), (.slice a2 at'.length c2, (dInts at')), (.slice (some (⟨ba, 0, none⟩)) p p, (dInts (List.replicate p 0))), (.slice (some (⟨ba2, 0, none⟩)) p p, (dInts (List.replicate p 0))), (.slice av K.length cv, (D.sl 3 (List.map eCom K))), (.slice a5 at'.length c5, (dInts at')), (.slice ua un uc, (dStrs (Sx.valOf key (withinC (putsAll K) key at')).set))]) (by kernel_rfl) (by kernel_rfl) ?_
    refine jB mixed [(0, true), (1, true), (2, true), (3, false), (4, false), (5, true), (6, true), (7, true), (8, false), (9, false), (10, true)] [] ?_
    refine Gr (id := 29) (rest := [(3, false), (4, false), (5, true), (6, true), (7, true), (8, false), (9, false), (10, true)]) [zR 0, zR 1, zR 2] [10, 12, 14, 20, 21, 136, 137, 138] (fun _ => [zB 10 false, zP 12 b, zP 14 b2, zP 20 (nu1 0), zV 21 .nilIface, zP 136 b2, zV 137 (.string key), zS 138 a2 at'.length c2]) (fun _ => [(nu1 0, .cells #[nI ((Sx.valOf key (withinC (putsAll K) key at')).kind), .string ((Sx.valOf key (withinC (putsAll K) key at')).text), nI ((Sx.valOf key (withinC (putsAll K) key at')).n), .slice ua un uc] 47 (0, 0))]) (fun _ => ?_)
    refine JR_callp [] 39 #[.slice a2 at'.length c2] (some 139) (by kernel_rfl) (fun w S hG => ?_)
    refine (vown (hG.at 2 rfl) (by omega)).mono ?_
    rintro e7 w7 ⟨a7, c7, hR⟩
    refine ⟨_, _, _, hR, ?_⟩
    try simp only [cAp, nAp, aNl]
    refine JR_callz [] [0, 1, 2, 3] 38 #[.pointer (some (⟨b2, 0, none⟩)), .string key, .slice a7 at'.length c7] (some 140) zero_all (by kernel_rfl) (by kernel_rfl) (by decide) (fun w S M hP hG _ => ?_)
    refine (vRead (p := p) (base := List.replicate p 0) (at' := at') (key := key) (L := Lb) (hG.at 0 rfl) hP (hG.at 4 rfl) hbv hbl (hG.at 8 rfl) (by omega) (by omega) hRB hm2 hnd2 hiff2).mono ?_
    rintro e8 w8 (⟨hae2, _⟩ | ⟨_, va, vn, vc, hR⟩)
    ·exact absurd hae hae2
    rw [hrs] at hR
    have hnm : nameOk key = true := by
     cases hn : nameOk key with
     | true => rfl
     | false =>
      rw [atErr, if_pos hn] at hae
      cases hae
    have hvl := valOf_len (withinC_fine (at' := at') hnm hRA)
    have hwl := withinC_len (putsAll K) key at'
    have hsl : (sortB ks).length = ks.length := by simp [sortB, List.length_mergeSort]
    refine ⟨_, _, _, hR, ?_⟩
    try simp only [cAp, nAp, aNl]
    refine Gr (id := 29) (rest := []) [zR 5, zR 6, zR 7, .wr 8 [] 0, .wr 9 [.o 1 none, .o 1 none, .o 1 none, .o 1 none] 0, zR 10] [10, 12, 14, 20, 21, 22, 23] (fun nu2 => [zB 10 false, zP 12 b, zP 14 b2, zP 20 (nu1 0), zV 21 .nilIface, zP 22 (nu2 0), zV 23 .nilIface]) (fun nu2 => [(nu1 0, .cells #[nI ((Sx.valOf key (withinC (putsAll K) key at')).kind), .string ((Sx.valOf key (withinC (putsAll K) key at')).text), nI ((Sx.valOf key (withinC (putsAll K) key at')).n), .slice ua un uc] 47 (0, 0)), (nu2 0, .cells #[nI ((Sx.valOf key (withinC (putsAll K) key at')).kind), .string ((Sx.valOf key (withinC (putsAll K) key at')).text), nI ((Sx.valOf key (withinC (putsAll K) key at')).n), .slice va vn vc] 47 (0, 0))]) (fun nu2 => ?_)
    try simp only [cAp, nAp, aNl]
    refine JR_end ?_
    try simp only [cAp, nAp, aNl]
    refine J_seq ?_
    try simp only [cAp, nAp, aNl]
    refine J_seq ?_
    try simp only [cAp, nAp, aNl]
    refine Gq mixed [zR 0, zR 1, zR 2, zR 3, zR 4, zR 5] [] [10, 12, 14, 20, 21, 22, 23, 148] (fun _ => [zB 10 false, zP 12 b, zP 14 b2, zP 20 (nu1 0), zV 21 .nilIface, zP 22 (nu2 0), zV 23 .nilIface, zB 148 false]) (fun _ => [(nu1 0, .cells #[nI ((Sx.valOf key (withinC (putsAll K) key at')).kind), .string ((Sx.valOf key (withinC (putsAll K) key at')).text), nI ((Sx.valOf key (withinC (putsAll K) key at')).n), .slice ua un uc] 47 (0, 0)), (nu2 0, .cells #[nI ((Sx.valOf key (withinC (putsAll K) key at')).kind), .string ((Sx.valOf key (withinC (putsAll K) key at')).text), nI ((Sx.valOf key (withinC (putsAll K) key at')).n), .slice va vn vc] 47 (0, 0))]) (fun _ => ?_)
    try simp only [cAp, nAp, aNl]
    refine cF ?_
    try simp only [cAp, nAp, aNl]
    refine J_skip ?_
    try simp only [cAp, nAp, aNl]
    refine J_seq ?_
    try simp only [cAp, nAp, aNl]
    refine J_norm (C' := [cObj b (.cells #[.int .i64 (↑p : Int), .slice (some (⟨ba, 0, none⟩)) p p, .map (some mk), .map (some md)] 133 (0, 0)), cObj mk (Obj.map es clock), (cStar (List.map (fun t => cAcc (F t) 28 3 (List.map eCom (keyC (putsAll K) t))) ks)), (cMapG md okDot (dotSet (List.map dotP (putsAll K)))), cObj b2 (.cells #[.int .i64 (↑p : Int), .slice (some (⟨ba2, 0, none⟩)) p p, .map (some mk2), .map (some md2)] 133 (0, 0)), cObj mk2 (Obj.map es2 clock2), (cStar (List.map (fun t => cAcc (F2 t) 28 3 (List.map eCom (keyC Lb t))) ks2)), (cMapG md2 okDot (dotSet (List.map dotP Lb)))]) (G' := [(.nilIface, (dC er eb)), (.slice a l.length c, (D.sl 3 (List.map eCom l))), (.slice a2 at'.length c2, (dInts at')), (.slice (some (⟨ba, 0, none⟩)) p p, (dInts (List.replicate p 0))), (.slice (some (⟨ba2, 0, none⟩)) p p, (dInts (List.replicate p 0))), (.slice av K.length cv, (D.sl 3 (List.map eCom K))), (.slice a5 at'.length c5, (dInts at')), (.slice ua un uc, (dStrs (Sx.valOf key (withinC (putsAll K) key at')).set)), (.slice a7 at'.length c7, (dInts at')), (.slice va vn vc, (dStrs (Sx.valOf key (withinC (putsAll K) key at')).set))]) (by kernel_rfl) (by kernel_rfl) ?_
    refine jB mixed [(0, true), (1, true), (2, false), (3, true), (4, true), (5, false), (6, true), (7, false), (8, false), (9, true), (10, true)] [] ?_
    refine Gr (id := 32) (rest := [(2, false), (3, true), (4, true), (5, false), (6, true), (7, false), (8, false), (9, true), (10, true)]) [.rd 0 [.o 0 none, .o 0 none, .o 0 none, .o 0 none] 0 0, .rd 1 [.o 1 none, .o 1 none, .o 1 none, .o 1 none] 0 0] [10, 12, 14, 155, 156] (fun _ => [zB 10 false, zP 12 b, zP 14 b2, zV 155 (.agg #[nI ((Sx.valOf key (withinC (putsAll K) key at')).kind), .string ((Sx.valOf key (withinC (putsAll K) key at')).text), nI ((Sx.valOf key (withinC (putsAll K) key at')).n), .slice ua un uc]), zV 156 (.agg #[nI ((Sx.valOf key (withinC (putsAll K) key at')).kind), .string ((Sx.valOf key (withinC (putsAll K) key at')).text), nI ((Sx.valOf key (withinC (putsAll K) key at')).n), .slice va vn vc])]) (fun _ => [(nu1 0, .cells #[nI ((Sx.valOf key (withinC (putsAll K) key at')).kind), .string ((Sx.valOf key (withinC (putsAll K) key at')).text), nI ((Sx.valOf key (withinC (putsAll K) key at')).n), .slice ua un uc] 47 (0, 0)), (nu2 0, .cells #[nI ((Sx.valOf key (withinC (putsAll K) key at')).kind), .string ((Sx.valOf key (withinC (putsAll K) key at')).text), nI ((Sx.valOf key (withinC (putsAll K) key at')).n), .slice va vn vc] 47 (0, 0))]) (fun _ => ?_)
    refine JR_callp [] 27 #[.agg #[.int .i64 ((Sx.valOf key (withinC (putsAll K) key at')).kind), .string ((Sx.valOf key (withinC (putsAll K) key at')).text), .int .i64 ((Sx.valOf key (withinC (putsAll K) key at')).n), .slice ua un uc], .agg #[.int .i64 ((Sx.valOf key (withinC (putsAll K) key at')).kind), .string ((Sx.valOf key (withinC (putsAll K) key at')).text), .int .i64 ((Sx.valOf key (withinC (putsAll K) key at')).n), .slice va vn vc]] (some 157) (by kernel_rfl) (fun w S hG => ?_)
    refine (sameValue_eq (v := Sx.valOf key (withinC (putsAll K) key at')) (hG.at 7 rfl) (hG.at 9 rfl) (by omega)).mono ?_
    rintro e9 w9 hR
    refine ⟨_, _, _, hR, ?_⟩
    try simp only [cAp, nAp, aNl]
    refine Gr (id := 32) (rest := [(5, false), (6, true), (7, false), (8, false), (9, true), (10, true)]) [zR 3, zR 4] [10, 14, 158, 159] (fun _ => [zB 10 false, zP 14 b2, zB 158 true, zP 159 b]) (fun _ => [(nu1 0, .cells #[nI ((Sx.valOf key (withinC (putsAll K) key at')).kind), .string ((Sx.valOf key (withinC (putsAll K) key at')).text), nI ((Sx.valOf key (withinC (putsAll K) key at')).n), .slice ua un uc] 47 (0, 0)), (nu2 0, .cells #[nI ((Sx.valOf key (withinC (putsAll K) key at')).kind), .string ((Sx.valOf key (withinC (putsAll K) key at')).text), nI ((Sx.valOf key (withinC (putsAll K) key at')).n), .slice va vn vc] 47 (0, 0))]) (fun _ => ?_)
    refine JR_callz [] [0, 1, 2, 3] 50 #[.pointer (some (⟨b, 0, none⟩))] (some 160) zero_all (by kernel_rfl) (by kernel_rfl) (by decide) (fun w S M hP hG _ => ?_)
    refine (vVKeys (p := p) (L := putsAll K) hP hm hst hnd (by omega) hkA).mono ?_
    rintro e10 w10 ⟨xa, xn, xc, hR⟩
    refine ⟨_, _, _, hR, ?_⟩
    try simp only [cAp, nAp, aNl]
    refine Gr (id := 32) (rest := [(7, false), (8, false), (9, true), (10, true)]) [zR 6] [10, 158, 160, 161] (fun _ => [zB 10 false, zB 158 true, zS 160 xa xn xc, zP 161 b2]) (fun _ => [(nu1 0, .cells #[nI ((Sx.valOf key (withinC (putsAll K) key at')).kind), .string ((Sx.valOf key (withinC (putsAll K) key at')).text), nI ((Sx.valOf key (withinC (putsAll K) key at')).n), .slice ua un uc] 47 (0, 0)), (nu2 0, .cells #[nI ((Sx.valOf key (withinC (putsAll K) key at')).kind), .string ((Sx.valOf key (withinC (putsAll K) key at')).text), nI ((Sx.valOf key (withinC (putsAll K) key at')).n), .slice va vn vc] 47 (0, 0))]) (fun _ => ?_)
    try simp only [cAp, nAp, aNl]
    refine JR_callz [] [0, 1, 2, 3] 50 #[.pointer (some (⟨b2, 0, none⟩))] (some 162) zero_all (by kernel_rfl) (by kernel_rfl) (by decide) (fun w S M hP hG _ => ?_)
    refine (vVKeys (p := p) (L := Lb) hP hm2 hst2 hnd2 (by omega) hkB).mono ?_
    rintro e11 w11 ⟨ya, yn, yc, hR⟩
    rw [hksm] at hR
    refine ⟨_, _, _, hR, ?_⟩
    try simp only [cAp, nAp, aNl]
    refine JR_callp [] 32 #[.slice xa xn xc, .slice ya yn yc] (some 163) (by kernel_rfl) (fun w S hG => ?_)
    refine (sameTexts_eq (l := sortB ks) (hG.at 10 rfl) (hG.at 11 rfl) (by omega)).mono ?_
    rintro e12 w12 hR
    refine ⟨_, _, _, hR, ?_⟩
    try simp only [cAp, nAp, aNl]
    refine Gr (id := 32) (rest := []) [zR 9, zR 10] [10] (fun _ => [zB 10 true]) (fun _ => [(nu1 0, .cells #[nI ((Sx.valOf key (withinC (putsAll K) key at')).kind), .string ((Sx.valOf key (withinC (putsAll K) key at')).text), nI ((Sx.valOf key (withinC (putsAll K) key at')).n), .slice ua un uc] 47 (0, 0)), (nu2 0, .cells #[nI ((Sx.valOf key (withinC (putsAll K) key at')).kind), .string ((Sx.valOf key (withinC (putsAll K) key at')).text), nI ((Sx.valOf key (withinC (putsAll K) key at')).n), .slice va vn vc] 47 (0, 0))]) (fun _ => ?_)
    try simp only [cAp, nAp, aNl]
    refine JR_end ?_
    try simp only [cAp, nAp, aNl]
    refine J_return [[]] (.bool true) (by kernel_rfl) (fun a w s => ?_)
    exact s.retz (by simp) [] [] rfl rfl
end Go.Proofs.YtpjkiomccpjboaaGreatDoor
end
section
namespace Go.Sx
open Go Go.RowKit Go.ChangeShapes Go.WideShapes
theorem Fr.below {w w' : World} (h : Fr [] w w') : Below w.heap.size w w' := ⟨h.os, h.tape, h.output, h.size, fun b hb => h.block b hb (by simp)⟩
def IntsAt (w : World) (ad : Option Addr) (zs : List Int) : Prop := zs ≠ [] → ∃ bo off cs ty fz, ad = some ⟨bo, off, none⟩ ∧ w.heap[bo]? = some (.cells cs ty fz) ∧ ∀ (i : Nat) z, zs[i]? = some z → cs[off + i]? = some (.int .i64 z)
theorem cell_blk {w : World} {a : Addr} {v : Value} (h : w.cell? a = some v) : ∃ cs ty fz, w.heap[a.block]? = some (.cells cs ty fz) ∧ a.spot = none ∧ cs[a.off]? = some v := by
 unfold World.cell? at h
 split at h
 ·rename_i cs ty fz hb
  split at h
  ·cases h
  ·rename_i hs
   exact ⟨cs, ty, fz, hb, by simpa using hs, h⟩
 ·cases h
section
variable {H : Type} {enc : TypeId × Value → H} {P : Program}
theorem open_intsAt {W : World} {base : Nat} {t e : TypeId} {v : Value} {d : DataW H} {ps : List MemPlace} (ht : P.underlying t = some (.slice e)) (he : P.underlying e = some (.int .i64)) (hc : P.cellsOf e = 1)
  (hv : Value.okWide P W .any base t v) (h : DataW.Trod enc P W 0 (fun _ => true) true t v d ps) : ∃ ad zs c, v = .slice ad zs.length c ∧ IntsAt W ad zs ∧ (∀ z ∈ zs, -9223372036854775808 ≤ z ∧ z ≤ 9223372036854775807) ∧ zs.length ≤ maxLen := by
 obtain ⟨a0, len, cap, rfl⟩ := okWide_slice ht hv
 obtain ⟨fuel, hf⟩ := h
 rcases open_ints ht he hc hf with ⟨hcs, hx⟩ | ⟨a, len', cap', zs, hcs, _, hl, hm, hz, hx, hcell, hwz⟩
 ·simp [Value.cells] at hcs
  obtain ⟨rfl, rfl, rfl⟩ := hcs
  exact ⟨none, [], 0, rfl, fun h => absurd rfl h, by simp, by simp⟩
 ·simp [Value.cells] at hcs
  obtain ⟨rfl, rfl, rfl⟩ := hcs
  simp only [if_true] at hz
  refine ⟨some a, zs.take len, cap, by rw [List.length_take, Nat.min_eq_left (by omega)], fun hne => ?_, fun z hz => ?_, by rw [List.length_take]; omega⟩
  ·have hpos : 0 < zs.length := by
    rcases zs with _ | ⟨z, zs⟩
    ·simp at hne
    ·simp
   obtain ⟨cs, ty, fz, hb, hs, _⟩ := cell_blk (hcell 0 hpos)
   have e0 : a.add 0 = a := by simp [Addr.add]
   rw [e0] at hb hs
   obtain ⟨b, off, sp⟩ := a
   simp only at hb hs
   subst hs
   refine ⟨b, off, cs, ty, fz, rfl, hb, fun i z hi => ?_⟩
   rw [List.getElem?_take] at hi
   split at hi
   ·have hil := (List.getElem?_eq_some_iff.1 hi).1
    obtain ⟨cs', ty', fz', hb', _, hc'⟩ := cell_blk (hcell i hil)
    rw [addr_add] at hb' hc'
    simp only at hb' hc'
    rw [hb] at hb'
    cases hb'
    rw [hc', List.getD_eq_getElem?_getD, hi]
    rfl
   ·cases hi
  ·have := hwz z (List.mem_of_mem_take hz)
   simp [Lit.wf, IntKind.min, IntKind.max, IntKind.signed, IntKind.bits] at this
   exact this
theorem open_intsRep {W : World} {base : Nat} {t e : TypeId} {v : Value} {d : DataW H} {ps : List MemPlace} (ht : P.underlying t = some (.slice e)) (he : P.underlying e = some (.int .i64)) (hc : P.cellsOf e = 1)
  (hv : Value.okWide P W .any base t v) (h : DataW.Trod enc P W 0 (fun _ => true) true t v d ps) : ∃ ad zs c, v = .slice ad zs.length c ∧ Rep W (fun _ => True) (.slice ad zs.length c) (dInts zs) ∧ (∀ z ∈ zs, -9223372036854775808 ≤ z ∧ z ≤ 9223372036854775807) ∧ zs.length ≤ maxLen := by
 obtain ⟨a0, len, cap, rfl⟩ := okWide_slice ht hv
 obtain ⟨ad, zs, c, hx, hat, hz, hl⟩ := open_intsAt ht he hc hv h
 injection hx with h1 h2 h3
 subst h1 h2 h3
 refine ⟨a0, zs, cap, rfl, ?_, hz, hl⟩
 by_cases hne : zs = []
 ·subst hne
  exact .nil
 ·obtain ⟨fuel, hf⟩ := h
  have hcap : zs.length ≤ cap := by
   rcases open_ints ht he hc hf with ⟨hcs, _⟩ | ⟨a, len', cap', zs', hcs, _, hl', _⟩
   ·simp [Value.cells] at hcs
    exact absurd hcs.2.1 hne
   ·simp [Value.cells] at hcs
    obtain ⟨rfl, rfl, rfl⟩ := hcs
    exact hl'
  obtain ⟨bo, off, cs, ty, fz, rfl, hb, hcell⟩ := hat hne
  have hlen : (zs.map eI).length = zs.length := by simp
  have := Rep.sl (S := fun _ => True) (off := off) (cap := cap) (k := 1) (rows := zs.map eI) (fun i _ => .int .i64 (zs.getD i 0)) hb trivial (by simpa using hcap) (by decide) (by simp) (fun i j hi hj => ?_) (fun i j row d hi hj => ?_)
  ·simpa using this
  ·obtain rfl : j = 0 := by omega
   rw [hlen] at hi
   have := hcell i (zs[i]) (List.getElem?_eq_getElem hi)
   rw [Nat.mul_one, Nat.add_zero, this]
   simp [List.getD_eq_getElem?_getD, List.getElem?_eq_getElem hi]
  ·rw [List.getElem?_map] at hi
   obtain ⟨z, hz', rfl⟩ := Option.map_eq_some_iff.1 hi
   match j, hj with
   | 0, hj =>
    simp only [List.getElem?_cons_zero, Option.some.injEq] at hj
    subst hj
    simp only [List.getD_eq_getElem?_getD, hz', Option.getD_some]
    exact .v rfl
   | j + 1, hj => simp at hj
theorem rep_var {W : World} {n : String} {g : Nat} {x : Value} (hg : P.globalNamed n = some g) (h : W.var? P n = some #[x]) (hx : x.oneCell' = true) : Rep W (fun _ => True) (.pointer (some ⟨g, 0, none⟩)) (.ptr [.v x]) := by
 unfold World.var? at h
 simp only [hg, Option.bind_some] at h
 split at h
 ·rename_i cs ty fz hb
  cases h
  refine .ptr (fun _ => x) hb trivial (fun j hj => ?_) (fun j d hj => ?_)
  ·obtain rfl : j = 0 := by simpa using hj
   rfl
  ·match j, hj with
   | 0, hj =>
    simp only [List.getElem?_cons_zero, Option.some.injEq] at hj
    subst hj
    exact .v hx
   | j + 1, hj => simp at hj
 ·cases h
theorem sents {W : World} {ti tp te ts : TypeId} {ms : Array (String × TypeId)} {nm : String} {f : Field} (hi : P.underlying ti = some (.interface ms)) (hrow : ∀ u, P.typeName? 3 u = some nm → u = tp)
  (hp : P.underlying tp = some (.pointer te)) (he : P.underlying te = some (.struct #[f])) (hft : f.type = ts) (hfo : f.offset = 0) (hs : P.underlying ts = some .string) (hc : P.cellsOf te = 1) (hcs : P.cellsOf ts = 1) :
  ∀ (ns : List (String × List UInt8)) (ps : List MemPlace), DataW.LaidVars P W (ns.map fun x => (x.1, DataW.iface nm (.ptr (.agg [.lit (.string x.2)])))) ps →
   ns.all (fun x => match P.globalNamed x.1 with
    | some g => (P.globals[g]?).map (·.type) == some ti
    | none => false) = true →
   (∀ b off, MemPlace.cell b off ∈ ps → ∀ u v, W.cell? ⟨b, off, none⟩ = some (.iface u v) → Value.okWide P W .any 0 u v) →
   ∃ adz : List Addr, adz.length = ns.length ∧ (∀ (i : Nat) x a, ns[i]? = some x → adz[i]? = some a → W.var? P x.1 = some #[.iface tp (.pointer (some a))] ∧ a.spot = none) ∧ (adz.map fun a => MemPlace.cell a.block a.off).Sublist ps
 | [], ps, _, _, _ => ⟨[], rfl, by simp, by simp⟩
 | (n, text) :: ns, ps, h, hg, hr => by
  rw [List.map_cons] at h
  obtain ⟨g0, t0, cs0, f0, p0, q0, hg0, ht0, hv0, hd0, hq, e0⟩ := h
  rw [List.all_cons, Bool.and_eq_true] at hg
  obtain ⟨hg1, hg2⟩ := hg
  simp only [hg0, ht0, beq_iff_eq, Option.some.injEq] at hg1
  subst hg1 e0
  obtain ⟨l0⟩ := cs0
  have ok0 : ∀ u v, l0 = [.iface u v] → Value.okWide P W .any 0 u v := fun u v e => by
   subst e
   exact hr g0 0 (by simp [MemPlace.row]) u v (by simpa using World.var?_cell hg0 hv0 0)
  obtain ⟨a0, s0, rfl, hc0, hs0, hz0, rfl⟩ := errorString_of_trod hi hrow hp he hft hfo hs hc hcs hd0 ok0
  obtain ⟨adz, h1, h2, h3⟩ := sents hi hrow hp he hft hfo hs hc hcs ns q0 hq hg2 fun b off hm => hr b off (List.mem_append_right _ hm)
  obtain ⟨_, _, _, _, hspot, _⟩ := cell_blk hc0
  refine ⟨a0 :: adz, by simp [h1], fun i x a hx ha => ?_, ?_⟩
  ·cases i with
   | zero =>
    simp only [List.getElem?_cons_zero, Option.some.injEq] at hx ha
    subst hx ha
    exact ⟨hv0, hspot⟩
   | succ i =>
    simp only [List.getElem?_cons_succ] at hx ha
    exact h2 i x a hx ha
  ·rw [List.map_cons, List.append_assoc]
   refine (List.Sublist.cons_cons _ h3).trans (?_ : List.Sublist _ (MemPlace.row a0 1 ++ q0)) |>.trans (List.sublist_append_right _ _)
   simp [MemPlace.row]
theorem errs_of {W : World} {ti tp te ts : TypeId} {ms : Array (String × TypeId)} {nm : String} {f : Field} (hi : P.underlying ti = some (.interface ms)) (hrow : ∀ u, P.typeName? 3 u = some nm → u = tp)
  (hp : P.underlying tp = some (.pointer te)) (he : P.underlying te = some (.struct #[f])) (hft : f.type = ts) (hfo : f.offset = 0) (hs : P.underlying ts = some .string) (hc : P.cellsOf te = 1) (hcs : P.cellsOf ts = 1)
  (ns : List (String × List UInt8)) (h : laidMet P (ns.map fun x => (x.1, DataW.iface nm (.ptr (.agg [.lit (.string x.2)])))) W)
  (hg : ns.all (fun x => match P.globalNamed x.1 with
    | some g => (P.globals[g]?).map (·.type) == some ti
    | none => false) = true) :
  ∃ (er : Nat → Addr) (eb : Nat → Array Value × TypeId), (∀ (i : Nat) x, ns[i]? = some x → W.var? P x.1 = some #[.iface tp (.pointer (some (er (i + 1))))] ∧ W.heap[(er (i + 1)).block]? = some (.cells (eb (i + 1)).1 (eb (i + 1)).2 (0, 0))) ∧
   ∀ i j, 1 ≤ i → i ≤ ns.length → 1 ≤ j → j ≤ ns.length → er i = er j → i = j := by
 obtain ⟨ps, hv, hnd, hrows⟩ := h
 obtain ⟨adz, h1, h2, h3⟩ := sents hi hrow hp he hft hfo hs hc hcs ns ps hv hg fun b off hm => (hrows b off hm).2
 have hnd2 := h3.nodup hnd
 have key : ∀ i : Nat, i < ns.length → ∃ a, adz[i]? = some a := fun i hi => ⟨_, List.getElem?_eq_getElem (by omega)⟩
 have hcell : ∀ (i : Nat) a, adz[i]? = some a → ∃ c : Array Value × TypeId, W.heap[a.block]? = some (.cells c.1 c.2 (0, 0)) := fun i a ha => by
  obtain ⟨c, t, hct⟩ := (hrows a.block a.off (h3.subset (List.mem_map.2 ⟨a, List.mem_of_getElem? ha, rfl⟩))).1
  exact ⟨(c, t), hct⟩
 classical
 refine ⟨fun k => adz.getD (k - 1) ⟨0, 0, none⟩, fun k => if hx : ∃ c : Array Value × TypeId, W.heap[(adz.getD (k - 1) ⟨0, 0, none⟩).block]? = some (.cells c.1 c.2 (0, 0)) then hx.choose else (#[], 0), fun i x hx => ?_, fun i j hi1 hi2 hj1 hj2 he => ?_⟩
 ·obtain ⟨a, ha⟩ := key i (List.getElem?_eq_some_iff.1 hx).1
  have e : adz.getD (i + 1 - 1) ⟨0, 0, none⟩ = a := by simp [List.getD_eq_getElem?_getD, ha]
  have hh := hcell i a ha
  simp only [e]
  refine ⟨(h2 i x a hx ha).1, ?_⟩
  rw [dif_pos hh]
  exact hh.choose_spec
 ·obtain ⟨a, ha⟩ := key (i - 1) (by omega)
  obtain ⟨b, hb⟩ := key (j - 1) (by omega)
  simp only [List.getD_eq_getElem?_getD, ha, hb, Option.getD_some] at he
  subst he
  have e1 : (adz.map fun a => MemPlace.cell a.block a.off)[i - 1]? = some (.cell a.block a.off) := by simp [ha]
  have e2 : (adz.map fun a => MemPlace.cell a.block a.off)[j - 1]? = some (.cell a.block a.off) := by simp [hb]
  have := (List.getElem?_inj (List.getElem?_eq_some_iff.1 e1).1 hnd2).1 (e1.trans e2.symm)
  omega
theorem trodAll_again (hl : laidOutB P = true) {W W' : World} {sp : Nat → Bool} (hb : Below W.heap.size W W') : ∀ {ts : List TypeId} {vs : List Value} {ds : List (DataW H)} {ps : List MemPlace},
  (∀ t ∈ ts, P.readableRec t = true ∧ t < P.types.size) → DataW.TrodAll enc P W 0 (fun _ => true) true ts vs ds ps → (∀ x ∈ ps, x.block < W.heap.size) → (∀ x ∈ ps, sp x.block = true) → DataW.TrodAll enc P W' 0 sp true ts vs ds ps
 | [], vs, ds, ps, _, h, _, _ => by
  obtain ⟨rfl, rfl, rfl⟩ := trodAll_nil h
  exact trodAll_mk0
 | t :: ts, vs, ds, ps, ht, h, hlt, hsp => by
  obtain ⟨v, vs', d, ds', p, q, rfl, rfl, rfl, h0, h1⟩ := trodAll_cons h
  obtain ⟨hr, hrow⟩ := ht t (List.mem_cons_self ..)
  refine trodAll_cons_mk (WideElems.Trod_stays hl hr hrow h0 (fun x hx => hb.same (hlt x (List.mem_append_left _ hx))) fun x hx => hsp x (List.mem_append_left _ hx)) ?_
  exact trodAll_again hl hb (fun t ht' => ht t (List.mem_cons_of_mem _ ht')) h1 (fun x hx => hlt x (List.mem_append_right _ hx)) fun x hx => hsp x (List.mem_append_right _ hx)
theorem law_post {f : Func} {s : ChangeSpec} {apart fresh handsOn again : Bool} {W W' : World} {args : Array Value} {ds gs : List (DataW H)} {before : List MemPlace} {tb : TypeId}
  (hl : laidOutB P = true) (hts : f.params.toList.all (fun t => P.readableRec t && Nat.blt t P.types.size) = true) (hb4 : P.underlying tb = some .bool) (hrt : f.resultTypes = #[tb]) (hvs : s.vars = [])
  (hW : DataW.Whole enc P f.params.toList s.vars apart W args.toList ds gs before) (hfn : ∀ gs, gs = [] → s.fn H (ds ++ gs) = { results := [.lit (.bool true)], args := ds })
  (hb : Below W.heap.size W W') : s.post enc P f apart fresh handsOn again W args (.bool true) W' := by
 have hlt : ∀ x ∈ before, x.block < W.heap.size := fun x hx => hW.lt x hx
 have hold : ∀ x ∈ before, (fun b => decide (b < W.heap.size)) x.block = true := fun x hx => by simpa using hlt x hx
 have hW' := hW
 obtain ⟨p, q, hA, hV, hpq, hz, hn⟩ := hW'
 rw [hvs] at hV
 obtain ⟨rfl, rfl⟩ := trodVars_none hV
 rw [List.append_nil] at hpq
 subst hpq
 have hfn := hfn [] rfl
 have htt : ∀ t ∈ f.params.toList, P.readableRec t = true ∧ t < P.types.size := fun t ht => by
  have := List.all_eq_true.1 hts t ht
  simp only [Bool.and_eq_true] at this
  exact ⟨this.1, Nat.lt_of_succ_le (Nat.le_of_ble_eq_true this.2)⟩
 have hres : ∀ (b : Nat) (sp : Nat → Bool) (hd : Bool), DataW.TrodAll enc P W' b sp hd f.resultTypes.toList ((Value.bool true).resultList f.resultTypes.size) (s.fn H (ds ++ [])).results [] := fun b sp hd => by
  rw [hfn, hrt]
  exact trodAll_mk1 ⟨1, by simp [DataW.trod, Value.cells, hb4]⟩
 have hargs : ∀ sp : Nat → Bool, (∀ x ∈ before, sp x.block = true) → DataW.TrodAll enc P W' 0 sp true f.params.toList args.toList (s.fn H (ds ++ [])).args before := fun sp hsp => by
  rw [hfn]
  exact trodAll_again hl hb htt hA hlt hsp
 have hvars : ∀ sp : Nat → Bool, DataW.TrodVars enc P W' sp s.vars (s.fn H (ds ++ [])).vars [] := fun sp => by
  rw [hvs, hfn]
  rfl
 refine ⟨ds, [], before, [], before, [], hW, hres _ _ _, hargs _ hold, hvars _, World.keptBut_mono (fun x hx => ⟨hx, .inr (.inl hx)⟩) (hb.frame (· ∈ before)), fun _ => ?_⟩
 refine ⟨?_, _, _, ([] ++ before) ++ [], ⟨[] ++ before, [], trodAll_append (hargs _ (fun _ _ => rfl)) (hres _ _ _), hvars _, rfl, ?_, ?_⟩, ?_⟩
 ·intro j t r hj hv
  rw [hrt] at hj hv
  match j, hj, hv with
  | 0, hj, hv =>
   simp [Value.resultList] at hj hv
   subst hj; subst hv
   simp [Value.okWide, hb4, Cell.okWide, Cell.ok]
  | j + 1, hj, hv => simp at hj
 ·intro b off hp
  have hin : MemPlace.cell b off ∈ before := by simpa using hp
  rw [hb.frozen (hlt _ hin)]
  exact hz b off hin
 ·intro ha
  simpa using hn ha
 ·intro x hx _
  simpa using hx
end
end Go.Sx
end
