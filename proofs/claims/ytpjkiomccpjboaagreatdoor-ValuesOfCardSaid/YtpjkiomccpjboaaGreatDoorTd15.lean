/- Part 15 of the texts of a claim: VOf Worth Light VDots RefV. -/
import Derived.Test.YtpjkiomccpjboaaGreatDoorTd14
section
namespace Go.Sx
open Go
theorem St.retz {n : Nat} {E : Env} {h r : List (Nat × Obj)} {F : List (List Nat × World)} {C C' : List Chunk} {G G' : List (Value × D)} {S : Nat → Prop} {M : List Nat} {w0 : World} {a : Act} {w : World} {v : Value} (s : St n E h r F ⟨newS S M w0, C, G⟩ a w) (hF : (M, zero w0) ∈ F) (cs gs : List Nat)
  (hC : pick C cs = C') (hG : pick G gs = G') (hcs : cs.Nodup := by decide) : Ret M (zero w0) S w (.returned v) v C' G' := St.ret (w0 := zero w0) s hF cs gs hC hG hcs
end Go.Sx
namespace Go.Proofs.YtpjkiomccpjboaaGreatDoor
open Go Go.Sx
theorem ret_zero {M : List Nat} {w : World} {S : Nat → Prop} {w' : World} {e : Ending} {v : Value} {C : List Chunk} {G : List (Value × D)} (h : Ret M w S w' e v C G) : Ret M (zero w) S w' e v C G := ⟨h.ret, h.fr.zero, h.gh⟩
theorem fval_zero {w : World} {S : Nat → Prop} {w' : World} {e : Ending} {er : Nat → Addr} {f : FT} {mk : Value → Value} (h : FVal w S w' e er f mk) : FVal (zero w) S w' e er f mk := by
 rcases h with ⟨h1, v, h2, h3⟩ | ⟨h1, h2, pb, h3⟩
 ·exact .inl ⟨h1, v, ret_zero h2, h3⟩
 ·exact .inr ⟨h1, h2, pb, ret_zero h3⟩
theorem ks_len {es : Array MapEntry} {ks : List ByteArray} {F : ByteArray → Value} (hm : MapG (MapKept.IsKey .string) es (strG ks F)) (hnd : ks.Nodup) : (es.toList.map fun x => keyB x.key).Perm ks := by
 have hk : ∀ x ∈ es.toList, x.key = .string (keyB x.key) ∧ keyB x.key ∈ ks := fun x hx => by
  have h1 := hm.key x hx
  have h2 := hm.val x hx
  cases hq : x.key <;> rw [hq] at h1 h2 <;> simp only [MapKept.IsKey] at h1
  rename_i s
  refine ⟨rfl, ?_⟩
  show s ∈ ks
  exact Classical.byContradiction fun hn => by rw [strG_out hn] at h2; cases h2
 refine (List.perm_ext_iff_of_nodup ?_ hnd).2 fun t => ?_
 ·have h1 : (es.toList.map fun x => x.key) = (es.toList.map fun x => keyB x.key).map Value.string := by
   rw [List.map_map]
   exact List.map_congr_left fun x hx => (hk x hx).1
  have h2 := hm.nodup
  rw [h1] at h2
  exact (List.pairwise_map.1 h2).imp fun {a b} hne he => hne (by rw [he])
 ·rw [List.mem_map]
  constructor
  ·rintro ⟨x, hx, rfl⟩
   exact (hk x hx).2
  ·intro h
   obtain ⟨x, hx, he⟩ := hm.has (.string t) (F t) (strG_in h)
   exact ⟨x, hx, by rw [he]; rfl⟩
theorem vOf3 {w : World} {S : Nat → Prop} {er : Nat → Addr} {eb : Nat → Array Value × TypeId} {a : Option Addr} {n c : Nat} {key : ByteArray} {l : List ComT} (hC : Rep w S .nilIface (dC er eb)) (h : Rep w S (.slice a n c) (.sl 3 (l.map eCom))) (hl : l.length ≤ 300000) (hl1 : ∀ x ∈ l, x.when.length ≤ 1000000) (hl2 : ∀ x ∈ l, x.ops.length ≤ 1000000) (hk3 : kindOf (opsOf key l) = 3) :
  Calls Tryz.prog 21 #[.string key, .slice a n c] w fun e w' => ((valFault key l).code ≠ 0 ∧ FVal (zero w) S w' e er (valFault key l) fun v => .tuple #[valZ, v]) ∨ ((valFault key l).code = 0 ∧ ∃ ua un uc, Ret [] (zero w) S w' e (.tuple #[valA (Sx.valOf key l) (.slice ua un uc), .nilIface]) [] [(.slice ua un uc, dStrs (Sx.valOf key l).set)]) := by
 refine ep21 (args := [.string key, .slice a n c]) (G := [(_, dC er eb), (_, .sl 3 (l.map eCom))]) (by kernel_rfl) (.cons hC (.cons h (.nil _ _))) ?_
 refine J_zero ?_
 refine Sq mixed [.wr 0 [] 0, zR 1] [] [0, 1, 4, 5] (fun nu1 => [zV 0 (.string key), zS 1 a n c, zP 4 (nu1 0), zV 5 .nilIface]) (fun nu1 => [(nu1 0, .cells #[nI 0, .string (ByteArray.mk #[]), nI 0, .slice none 0 0] 47 (0, 0))]) (fun nu1 => ?_)
 refine J_seq ?_
 refine jB mixed [(0, true), (1, true), (2, false), (3, true), (4, true), (5, true), (6, true), (7, true)] [] ?_
 refine Gr (id := 1) (rest := [(2, false), (3, true), (4, true), (5, true), (6, true), (7, true)]) [zR 0, zR 1] [4, 5, 13, 14] (fun _ => [zP 4 (nu1 0), zV 5 .nilIface, zV 13 (.string key), zS 14 a n c]) (fun _ => [(nu1 0, .cells #[nI 0, .string (ByteArray.mk #[]), nI 0, .slice none 0 0] 47 (0, 0))]) (fun _ => ?_)
 refine JR_callp [] 61 #[.string key, .slice a n c] (some 15) (by kernel_rfl) (fun w S hG => ?_)
 refine (vOps (hG.at 0 rfl) (hG.at 1 rfl) hl hl1 hl2).mono ?_
 rintro e1 w1 (⟨hc, ⟨hat, v, hR, hv⟩ | ⟨hc1, hat, pb, hR⟩⟩ | ⟨hc, a1, n1, c1, hR⟩)
 ·refine ⟨_, _, _, hR, ?_⟩
  rcases hv with ⟨hv0, rfl⟩ | ⟨hv0, rfl⟩
  ·exact absurd hv0 hc
  ·try simp only [List.cons_append, List.nil_append, List.append_nil]
   refine Gr (id := 1) (rest := []) [zR 3, zR 4, zR 5, zR 6, zR 7] [4, 5, 6, 7] (fun _ => [zP 4 (nu1 0), zV 5 .nilIface, zS 6 none 0 0, zV 7 (.iface 243 (.pointer (some (er (valFault key l).code))))]) (fun _ => [(nu1 0, .cells #[nI 0, .string (ByteArray.mk #[]), nI 0, .slice none 0 0] 47 (0, 0))]) (fun _ => ?_)
   refine JR_end ?_
   refine J_seq ?_
   refine Sq mixed [zR 0, zR 1] [] [4, 5, 6, 7, 19] (fun _ => [zP 4 (nu1 0), zV 5 .nilIface, zS 6 none 0 0, zV 7 (.iface 243 (.pointer (some (er (valFault key l).code)))), zB 19 true]) (fun _ => [(nu1 0, .cells #[nI 0, .string (ByteArray.mk #[]), nI 0, .slice none 0 0] 47 (0, 0))]) (fun _ => ?_)
   refine cTt ?_
   refine Sq mixed [zR 0, zR 1, .wr 2 [.o 0 none, .o 0 none, .o 0 none, .o 0 none] 0, zR 3] [(2, [0])] [4, 5, 6] (fun _ => [zP 4 (nu1 0), zV 5 (.iface 243 (.pointer (some (er (valFault key l).code)))), zS 6 none 0 0]) (fun _ => [(nu1 0, .cells #[nI 0, .string (ByteArray.mk #[]), nI 0, .slice none 0 0] 47 (0, 0))]) (fun _ => ?_)
   refine J_return [[.o 0 none, .o 0 none, .o 0 none, .o 0 none], []] (.tuple #[.agg #[.int .i64 0, .string (ByteArray.mk #[]), .int .i64 0, .slice none 0 0], .iface 243 (.pointer (some (er (valFault key l).code)))]) (by kernel_rfl) (fun a w s => ?_)
   exact .inl ⟨hc, .inl ⟨hat, _, s.retz (by simp) [] [] rfl rfl, .inr ⟨hv0, rfl⟩⟩⟩
 ·refine ⟨_, _, _, hR, ?_⟩
  try simp only [cAp, nAp, aNl]
  refine Gr (id := 1) (rest := []) [zR 3, zR 4, zR 5, zR 6, zR 7] [4, 5, 6, 7] (fun _ => [zP 4 (nu1 0), zV 5 .nilIface, zS 6 none 0 0, zV 7 (.iface 102 (.pointer (sA pb 0)))]) (fun _ => [(nu1 0, .cells #[nI 0, .string (ByteArray.mk #[]), nI 0, .slice none 0 0] 47 (0, 0))]) (fun _ => ?_)
  refine JR_end ?_
  refine J_seq ?_
  refine Sq mixed [zR 0, zR 1] [] [4, 5, 6, 7, 19] (fun _ => [zP 4 (nu1 0), zV 5 .nilIface, zS 6 none 0 0, zV 7 (.iface 102 (.pointer (sA pb 0))), zB 19 true]) (fun _ => [(nu1 0, .cells #[nI 0, .string (ByteArray.mk #[]), nI 0, .slice none 0 0] 47 (0, 0))]) (fun _ => ?_)
  refine cTt ?_
  refine Sq mixed [zR 0, zR 1, .wr 2 [.o 0 none, .o 0 none, .o 0 none, .o 0 none] 0, zR 3] [(2, [0])] [4, 5, 6] (fun _ => [zP 4 (nu1 0), zV 5 (.iface 102 (.pointer (sA pb 0))), zS 6 none 0 0]) (fun _ => [(nu1 0, .cells #[nI 0, .string (ByteArray.mk #[]), nI 0, .slice none 0 0] 47 (0, 0))]) (fun _ => ?_)
  refine J_return [[.o 0 none, .o 0 none, .o 0 none, .o 0 none], []] (.tuple #[.agg #[.int .i64 0, .string (ByteArray.mk #[]), .int .i64 0, .slice none 0 0], .iface 102 (.pointer (some (⟨pb, 0, none⟩)))]) (by kernel_rfl) (fun a w s => ?_)
  exact .inl ⟨hc, .inr ⟨hc1, hat, _, s.retz (by simp) [] [2] rfl rfl⟩⟩
 ·refine ⟨_, _, _, hR, ?_⟩
  have hlo := opsOf_len hc
  have hlk := ofKey_len hc
  try simp only [cAp, nAp, aNl]
  refine Gr (id := 1) (rest := []) [zR 3, zR 4, zR 5, zR 6, zR 7] [4, 5, 6, 7] (fun _ => [zP 4 (nu1 0), zV 5 .nilIface, zS 6 a1 n1 c1, zV 7 .nilIface]) (fun _ => [(nu1 0, .cells #[nI 0, .string (ByteArray.mk #[]), nI 0, .slice none 0 0] 47 (0, 0))]) (fun _ => ?_)
  refine JR_end ?_
  refine J_seq ?_
  refine Sq mixed [zR 0, zR 1] [] [4, 5, 6, 7, 19] (fun _ => [zP 4 (nu1 0), zV 5 .nilIface, zS 6 a1 n1 c1, zV 7 .nilIface, zB 19 false]) (fun _ => [(nu1 0, .cells #[nI 0, .string (ByteArray.mk #[]), nI 0, .slice none 0 0] 47 (0, 0))]) (fun _ => ?_)
  refine cF ?_
  refine J_skip ?_
  refine J_seq ?_
  refine jB mixed [(0, true), (1, false), (2, true), (3, true), (4, true), (5, true), (6, true)] [] ?_
  refine Gr (id := 4) (rest := [(1, false), (2, true), (3, true), (4, true), (5, true), (6, true)]) [zR 0] [4, 5, 6, 23] (fun _ => [zP 4 (nu1 0), zV 5 .nilIface, zS 6 a1 n1 c1, zS 23 a1 n1 c1]) (fun _ => [(nu1 0, .cells #[nI 0, .string (ByteArray.mk #[]), nI 0, .slice none 0 0] 47 (0, 0))]) (fun _ => ?_)
  refine JR_callp [] 62 #[.slice a1 n1 c1] (some 24) (by kernel_rfl) (fun w S hG => ?_)
  refine (vKind (hG.at 2 rfl) (by omega)).mono ?_
  rintro e2 w2 ⟨a2, n2, c2, hR⟩
  refine ⟨_, _, _, hR, ?_⟩
  try simp only [cAp, nAp, aNl]
  refine Gr (id := 4) (rest := []) [zR 2, zR 3, zR 4, zR 5, zR 6] [4, 5, 6, 8] (fun _ => [zP 4 (nu1 0), zV 5 .nilIface, zS 6 a2 n2 c2, zI 8 (kindOf (opsOf key l))]) (fun _ => [(nu1 0, .cells #[nI 0, .string (ByteArray.mk #[]), nI 0, .slice none 0 0] 47 (0, 0))]) (fun _ => ?_)
  refine JR_end ?_
  refine Sq mixed [zR 0, zR 1, .wr 2 [] 0, .wr 3 [.o 1 none, .o 1 none, .o 1 none, .o 1 none] 0] [(3, [])] [4, 5, 6, 8, 9] (fun nu2 => [zP 4 (nu1 0), zV 5 .nilIface, zS 6 a2 n2 c2, zI 8 (kindOf (opsOf key l)), zP 9 (nu2 0)]) (fun nu2 => [(nu1 0, .cells #[nI 0, .string (ByteArray.mk #[]), nI 0, .slice none 0 0] 47 (0, 0)), (nu2 0, .cells #[nI (kindOf (opsOf key l)), .string (ByteArray.mk #[]), nI 0, .slice none 0 0] 47 (0, 0))]) (fun nu2 => ?_)
  refine J_seq ?_
  refine Sq mixed [zR 0, zR 1, zR 2] [] [4, 5, 6, 8, 9, 29, 30, 31] (fun _ => [zP 4 (nu1 0), zV 5 .nilIface, zS 6 a2 n2 c2, zI 8 (kindOf (opsOf key l)), zP 9 (nu2 0), zS 29 a2 n2 c2, zI 30 (↑n2 : Int), zI 31 0]) (fun _ => [(nu1 0, .cells #[nI 0, .string (ByteArray.mk #[]), nI 0, .slice none 0 0] 47 (0, 0)), (nu2 0, .cells #[nI (kindOf (opsOf key l)), .string (ByteArray.mk #[]), nI 0, .slice none 0 0] 47 (0, 0))]) (fun _ => ?_)
  refine J_block ?_
  refine J_stpx (stp_replen 3 rfl) fun _ hn2 => ?_
  rw [List.length_map] at hn2
  have hn3 : n2 = (ofKey key l).length := hn2
  subst hn3
  have hA : kindL (opsOf key l) = ofKey key l := rfl
  rw [hA]
  clear hn2
  have hval : Sx.valOf key l = ⟨3, ByteArray.mk #[], 0, setOf ((liveL (ofKey key l)).map (·.o.text))⟩ := by
   simp [Sx.valOf, hk3]
  rw [hk3]
  have hdl : ∀ x ∈ ofKey key l, x.o.dots.length ≤ 1000000 := fun x hx => by
   obtain ⟨p, hp⟩ := fine_mem hc (mem_ofKey hx)
   have := opErr_fine hp
   omega
  refine J_loopx (fun i : Int => [zP 4 (nu1 0), zV 5 .nilIface, zS 6 a2 ((ofKey key l).length) c2, zI 8 3, zP 9 (nu2 0), zS 29 a2 ((ofKey key l).length) c2, zI 30 ((↑(ofKey key l).length : Int)), zI 31 i]) (fun i : Int => [(nu1 0, .cells #[nI 0, .string (ByteArray.mk #[]), nI 0, .slice none 0 0] 47 (0, 0)), (nu2 0, .cells #[nI 3, .string (ByteArray.mk #[]), nI 0, .slice none 0 0] 47 (0, 0))]) (fun i : Int => []) (fun i : Int => [(.nilIface, (dC er eb)), (.slice a n c, (D.sl 3 (List.map eCom l))), (.slice a1 n1 c1, (D.sl 11 (List.map eDone (opsOf key l)))), (.slice a2 ((ofKey key l).length) c2, (D.sl 11 (List.map eDone (ofKey key l))))]) (fun i : Int => ((ofKey key l).length - i).toNat) (fun i : Int => (0 ≤ i ∧ i ≤ (ofKey key l).length)) 0 [4, 5, 6, 8, 9, 29, 30, 31] [0, 1] [] [0, 1, 2, 3] ?_ (by kernel_rfl) rfl rfl rfl ?_
  ·exact ⟨by simp, by simp⟩
  rintro i ⟨hi0, hi⟩
  refine Sq mixed [zR 0] [] [4, 5, 6, 8, 9, 29, 30, 31, 32] (fun _ => [zP 4 (nu1 0), zV 5 .nilIface, zS 6 a2 ((ofKey key l).length) c2, zI 8 3, zP 9 (nu2 0), zS 29 a2 ((ofKey key l).length) c2, zI 30 ((↑(ofKey key l).length : Int)), zI 31 i, zB 32 (decide (i < (↑(ofKey key l).length : Int)))]) (fun _ => [(nu1 0, .cells #[nI 0, .string (ByteArray.mk #[]), nI 0, .slice none 0 0] 47 (0, 0)), (nu2 0, .cells #[nI 3, .string (ByteArray.mk #[]), nI 0, .slice none 0 0] 47 (0, 0))]) (fun _ => ?_)
  refine J_seq ?_
  refine cC (t := decide (i < (↑(ofKey key l).length : Int))) (fun hlt => ?_) (fun hlt => ?_)
  ·have hlt2 : i < (ofKey key l).length := by simpa using hlt
   obtain ⟨x, hx⟩ : ∃ x, (ofKey key l)[i.toNat]? = some x := ⟨_, List.getElem?_eq_getElem (by omega)⟩
   refine J_read1 3 rfl i.toNat (map_at hx) (by kernel_rfl) (fun b1 off1 cs1 ty1 fz1 a1_0 c1_0 ha1 hrd1 => ?_)
   cases ha1
   have hrd1_0 := rd0 (hrd1 0 _ rfl)
   have hrd1_1 := hrd1 1 _ rfl
   have hrd1_2 := hrd1 2 _ rfl
   have hrd1_3 := hrd1 3 _ rfl
   have hrd1_4 := hrd1 4 _ rfl
   have hrd1_5 := hrd1 5 _ rfl
   have hrd1_6 := hrd1 6 _ rfl
   have hrd1_7 := hrd1 7 _ rfl
   have hrd1_8 := hrd1 8 _ rfl
   have hrd1_9 := hrd1 9 _ rfl
   have hrd1_10 := hrd1 10 _ rfl
   try simp only [cAp, nAp, aNl]
   refine J_skip ?_
   refine J_seq ?_
   refine J_block ?_
   refine Sp mixed [.rd 0 [] 0 2, .rd 1 [.r 0 (some (nI x.o.no)), .r 0 (some (.string x.o.key)), .r 0 (some (nI x.o.kind)), .r 0 (some (.string x.o.text)), .r 0 (some (nI x.o.n)), .r 0 (some (.bool x.o.remove)), .r 0 (some (.slice (a1_0, c1_0).fst ((List.map eDot x.o.dots).length) c1_0)), .r 0 (some (nI x.d.place)), .r 0 (some (nI x.d.time)), .r 0 (some (nI x.d.no)), .r 0 (some (nI x.w))] 0 0, .wr 2 [] 0, .wr 3 [.o 2 none, .o 2 none, .o 2 none, .o 2 none, .o 2 none, .o 2 none, .o 2 none, .o 2 none, .o 2 none, .o 2 none, .o 2 none] 0] [(3, [])] [4, 5, 6, 8, 9, 11, 29, 30, 31] (fun nu3 => [zP 4 (nu1 0), zV 5 .nilIface, zS 6 (sA b1 off1) ((ofKey key l).length) c2, zI 8 3, zP 9 (nu2 0), zP 11 (nu3 0), zS 29 (sA b1 off1) ((ofKey key l).length) c2, zI 30 ((↑(ofKey key l).length : Int)), zI 31 i]) (fun nu3 => [(nu1 0, .cells #[nI 0, .string (ByteArray.mk #[]), nI 0, .slice none 0 0] 47 (0, 0)), (nu2 0, .cells #[nI 3, .string (ByteArray.mk #[]), nI 0, .slice none 0 0] 47 (0, 0)), (nu3 0, .cells #[nI x.o.no, .string x.o.key, nI x.o.kind, .string x.o.text, nI x.o.n, .bool x.o.remove, .slice (a1_0, c1_0).fst ((List.map eDot x.o.dots).length) c1_0, nI x.d.place, nI x.d.time, nI x.d.no, nI x.w] 112 (0, 0))]) (fun nu3 => [(0 : Int) ≤ i, i < (↑(ofKey key l).length : Int), cs1[off1 + i.toNat * (11 : Nat)]? = some (nI x.o.no), cs1[off1 + i.toNat * (11 : Nat) + (1 : Nat)]? = some (Value.string x.o.key), cs1[off1 + i.toNat * (11 : Nat) + (2 : Nat)]? = some (nI x.o.kind), cs1[off1 + i.toNat * (11 : Nat) + (3 : Nat)]? = some (Value.string x.o.text), cs1[off1 + i.toNat * (11 : Nat) + (4 : Nat)]? = some (nI x.o.n), cs1[off1 + i.toNat * (11 : Nat) + (5 : Nat)]? = some (Value.bool x.o.remove), cs1[off1 + i.toNat * (11 : Nat) + (6 : Nat)]? = some (Value.slice (a1_0, c1_0).fst (List.map eDot x.o.dots).length (a1_0, c1_0).snd), cs1[off1 + i.toNat * (11 : Nat) + (7 : Nat)]? = some (nI x.d.place), cs1[off1 + i.toNat * (11 : Nat) + (8 : Nat)]? = some (nI x.d.time), cs1[off1 + i.toNat * (11 : Nat) + (9 : Nat)]? = some (nI x.d.no), cs1[off1 + i.toNat * (11 : Nat) + (10 : Nat)]? = some (nI x.w)]) (fun _ => ⟨hi0, hlt2, hrd1_0, hrd1_1, hrd1_2, hrd1_3, hrd1_4, hrd1_5, hrd1_6, hrd1_7, hrd1_8, hrd1_9, hrd1_10, trivial⟩) (fun nu3 => ?_)
   refine Sq mixed [zR 0] [] [4, 5, 6, 8, 9, 11, 29, 30, 31, 35] (fun _ => [zP 4 (nu1 0), zV 5 .nilIface, zS 6 (sA b1 off1) ((ofKey key l).length) c2, zI 8 3, zP 9 (nu2 0), zP 11 (nu3 0), zS 29 (sA b1 off1) ((ofKey key l).length) c2, zI 30 ((↑(ofKey key l).length : Int)), zI 31 i, zI 35 3]) (fun _ => [(nu1 0, .cells #[nI 0, .string (ByteArray.mk #[]), nI 0, .slice none 0 0] 47 (0, 0)), (nu2 0, .cells #[nI 3, .string (ByteArray.mk #[]), nI 0, .slice none 0 0] 47 (0, 0)), (nu3 0, .cells #[nI x.o.no, .string x.o.key, nI x.o.kind, .string x.o.text, nI x.o.n, .bool x.o.remove, .slice (a1_0, c1_0).fst ((List.map eDot x.o.dots).length) c1_0, nI x.d.place, nI x.d.time, nI x.d.no, nI x.w] 112 (0, 0))]) (fun _ => ?_)
   refine J_block ?_
   refine Sq mixed [zR 0, zR 1] [] [4, 5, 6, 8, 9, 11, 29, 30, 31, 35, 36] (fun _ => [zP 4 (nu1 0), zV 5 .nilIface, zS 6 (sA b1 off1) ((ofKey key l).length) c2, zI 8 3, zP 9 (nu2 0), zP 11 (nu3 0), zS 29 (sA b1 off1) ((ofKey key l).length) c2, zI 30 ((↑(ofKey key l).length : Int)), zI 31 i, zI 35 3, zB 36 false]) (fun _ => [(nu1 0, .cells #[nI 0, .string (ByteArray.mk #[]), nI 0, .slice none 0 0] 47 (0, 0)), (nu2 0, .cells #[nI 3, .string (ByteArray.mk #[]), nI 0, .slice none 0 0] 47 (0, 0)), (nu3 0, .cells #[nI x.o.no, .string x.o.key, nI x.o.kind, .string x.o.text, nI x.o.n, .bool x.o.remove, .slice (a1_0, c1_0).fst ((List.map eDot x.o.dots).length) c1_0, nI x.d.place, nI x.d.time, nI x.d.no, nI x.w] 112 (0, 0))]) (fun _ => ?_)
   refine cF ?_
   refine Sq mixed [zR 0, zR 1] [] [4, 5, 6, 8, 9, 11, 29, 30, 31, 35, 42] (fun _ => [zP 4 (nu1 0), zV 5 .nilIface, zS 6 (sA b1 off1) ((ofKey key l).length) c2, zI 8 3, zP 9 (nu2 0), zP 11 (nu3 0), zS 29 (sA b1 off1) ((ofKey key l).length) c2, zI 30 ((↑(ofKey key l).length : Int)), zI 31 i, zI 35 3, zB 42 false]) (fun _ => [(nu1 0, .cells #[nI 0, .string (ByteArray.mk #[]), nI 0, .slice none 0 0] 47 (0, 0)), (nu2 0, .cells #[nI 3, .string (ByteArray.mk #[]), nI 0, .slice none 0 0] 47 (0, 0)), (nu3 0, .cells #[nI x.o.no, .string x.o.key, nI x.o.kind, .string x.o.text, nI x.o.n, .bool x.o.remove, .slice (a1_0, c1_0).fst ((List.map eDot x.o.dots).length) c1_0, nI x.d.place, nI x.d.time, nI x.d.no, nI x.w] 112 (0, 0))]) (fun _ => ?_)
   refine cF ?_
   refine J_skip ?_
   refine J_eb ?_
   refine J_eb ?_
   refine Gp mixed [.rd 0 [] 0 1, zR 1] [] [4, 5, 6, 8, 9, 11, 29, 30, 31, 35] (fun _ => [zP 4 (nu1 0), zV 5 .nilIface, zS 6 (sA b1 off1) ((ofKey key l).length) c2, zI 8 3, zP 9 (nu2 0), zP 11 (nu3 0), zS 29 (sA b1 off1) ((ofKey key l).length) c2, zI 30 ((↑(ofKey key l).length : Int)), zI 31 (i + 1), zI 35 3]) (fun _ => [(nu1 0, .cells #[nI 0, .string (ByteArray.mk #[]), nI 0, .slice none 0 0] 47 (0, 0)), (nu2 0, .cells #[nI 3, .string (ByteArray.mk #[]), nI 0, .slice none 0 0] 47 (0, 0)), (nu3 0, .cells #[nI x.o.no, .string x.o.key, nI x.o.kind, .string x.o.text, nI x.o.n, .bool x.o.remove, .slice (a1_0, c1_0).fst ((List.map eDot x.o.dots).length) c1_0, nI x.d.place, nI x.d.time, nI x.d.no, nI x.w] 112 (0, 0))]) (fun _ => [IntKind.i64.wrap (i + (1 : Int)) = i + (1 : Int)]) (fun _ => ⟨wrap_i64 (by omega) (by omega), trivial⟩) (fun _ => ?_)
   refine J_backx (i + 1) [4, 5, 6, 8, 9, 29, 30, 31] [0, 1] [] [0, 1, 2, 3] ?_ ?_ (by kernel_rfl) rfl rfl rfl
   ·exact ⟨by omega, by omega⟩
   ·omega
  ·refine J_exit rfl ?_
   refine J_seq ?_
   refine Sq mixed [zR 0, zR 1] [] [4, 5, 6, 9, 53] (fun _ => [zP 4 (nu1 0), zV 5 .nilIface, zS 6 a2 ((ofKey key l).length) c2, zP 9 (nu2 0), zB 53 true]) (fun _ => [(nu1 0, .cells #[nI 0, .string (ByteArray.mk #[]), nI 0, .slice none 0 0] 47 (0, 0)), (nu2 0, .cells #[nI 3, .string (ByteArray.mk #[]), nI 0, .slice none 0 0] 47 (0, 0))]) (fun _ => ?_)
   refine cTt ?_
   refine jB mixed [(0, true), (1, false), (2, false), (3, false), (4, true), (5, false)] [] ?_
   refine Gr (id := 16) (rest := [(1, false), (2, false), (3, false), (4, true), (5, false)]) [zR 0] [4, 5, 9, 54] (fun _ => [zP 4 (nu1 0), zV 5 .nilIface, zP 9 (nu2 0), zS 54 a2 ((ofKey key l).length) c2]) (fun _ => [(nu1 0, .cells #[nI 0, .string (ByteArray.mk #[]), nI 0, .slice none 0 0] 47 (0, 0)), (nu2 0, .cells #[nI 3, .string (ByteArray.mk #[]), nI 0, .slice none 0 0] 47 (0, 0))]) (fun _ => ?_)
   refine JR_callp [] 65 #[.slice a2 ((ofKey key l).length) c2] (some 55) (by kernel_rfl) (fun w S hG => ?_)
   refine (vLive (hG.at 3 rfl) (by omega) hdl).mono ?_
   rintro e3 w3 ⟨mb, es, clock, ks, F, hR, hm, hst, hnd, hiff⟩
   refine ⟨_, _, _, hR, ?_⟩
   have hp := ks_len hm hnd
   have hkt : ∀ t, t ∈ ks ↔ t ∈ (liveL (ofKey key l)).map (·.o.text) := fun t => by rw [hiff, textDots_ne]
   have hkl : ks.length ≤ (ofKey key l).length := by
    have h1 : ks.length ≤ ((liveL (ofKey key l)).map (·.o.text)).length := hnd.length_le_of_subset fun t ht => (hkt t).1 ht
    rw [List.length_map] at h1
    exact Nat.le_trans h1 (List.length_filter_le _ _)
   have hes : es.size ≤ 4000000 := by
    have h1 := hp.length_eq
    rw [List.length_map, Array.length_toList] at h1
    omega
   have hksz : ∀ x ∈ es.toList, (keyB x.key).size ≤ 1000000 := fun x hx => by
    have h1 := (hkt _).1 (hp.mem_iff.1 (List.mem_map.2 ⟨x, hx, rfl⟩))
    obtain ⟨y, hy, he⟩ := List.mem_map.1 h1
    obtain ⟨p, hp2⟩ := fine_mem hc (mem_ofKey (List.mem_filter.1 hy).1)
    have h2 := opErr_fine hp2
    rw [← he]
    omega
   try simp only [cAp, nAp, aNl]
   refine JR_callp [] 64 #[.map (some mb)] (some 56) (by kernel_rfl) (fun w S hG => ?_)
   refine (vKeys (w := w) (S := S) (mb := mb)).mono ?_
   rintro e4 w4 ⟨bx, ty, hR⟩
   refine ⟨_, _, _, hR, ?_⟩
   try simp only [cAp, nAp, aNl]
   refine JR_callz [] [0] 63 #[.func (.func 102) #[] #[.pointer (some (⟨bx, 0, none⟩))]] (some 57) zero_all (by kernel_rfl) (by kernel_rfl) (by decide) (fun w S M hP hG _ => ?_)
   refine (sortedKeys hP hm.key hst hes hksz (hG.at 4 rfl)).mono ?_
   rintro e5 w5 ⟨ua, un, uc, hR⟩
   rw [sortB_perm hp, sortB_set hnd hkt] at hR
   refine ⟨_, _, _, hR, ?_⟩
   try simp only [cAp, nAp, aNl]
   refine Gr (id := 16) (rest := []) [zR 4, .wr 5 [.o 1 none] 0] [4, 5, 9] (fun _ => [zP 4 (nu1 0), zV 5 .nilIface, zP 9 (nu2 0)]) (fun _ => [(nu1 0, .cells #[nI 0, .string (ByteArray.mk #[]), nI 0, .slice none 0 0] 47 (0, 0)), (nu2 0, .cells #[nI 3, .string (ByteArray.mk #[]), nI 0, .slice ua un uc] 47 (0, 0))]) (fun _ => ?_)
   refine JR_end ?_
   refine Sq mixed [.rd 0 [.o 1 none, .o 1 none, .o 1 none, .o 1 none] 0 0, .wr 1 [.o 0 none, .o 0 none, .o 0 none, .o 0 none] 0, zR 2] [(1, [0])] [4, 5] (fun _ => [zP 4 (nu1 0), zV 5 .nilIface]) (fun _ => [(nu1 0, .cells #[nI 3, .string (ByteArray.mk #[]), nI 0, .slice ua un uc] 47 (0, 0)), (nu2 0, .cells #[nI 3, .string (ByteArray.mk #[]), nI 0, .slice ua un uc] 47 (0, 0))]) (fun _ => ?_)
   refine J_return [[.o 0 none, .o 0 none, .o 0 none, .o 0 none], []] (.tuple #[.agg #[.int .i64 3, .string (ByteArray.mk #[]), .int .i64 0, .slice ua un uc], .nilIface]) (by kernel_rfl) (fun a w s => ?_)
   rw [hval]
   exact .inr ⟨hc, _, _, _, s.retz (by simp) [] [5] rfl rfl⟩
theorem vOf {w : World} {S : Nat → Prop} {er : Nat → Addr} {eb : Nat → Array Value × TypeId} {a : Option Addr} {n c : Nat} {key : ByteArray} {l : List ComT} (hC : Rep w S .nilIface (dC er eb)) (h : Rep w S (.slice a n c) (.sl 3 (l.map eCom))) (hl : l.length ≤ 300000) (hl1 : ∀ x ∈ l, x.when.length ≤ 1000000) (hl2 : ∀ x ∈ l, x.ops.length ≤ 1000000) :
  Calls Tryz.prog 21 #[.string key, .slice a n c] w fun e w' => ((valFault key l).code ≠ 0 ∧ FVal (zero w) S w' e er (valFault key l) fun v => .tuple #[valZ, v]) ∨ ((valFault key l).code = 0 ∧ ∃ ua un uc, Ret [] (zero w) S w' e (.tuple #[valA (Sx.valOf key l) (.slice ua un uc), .nilIface]) [] [(.slice ua un uc, dStrs (Sx.valOf key l).set)]) := by
 by_cases hk3 : kindOf (opsOf key l) = 3
 ·exact vOf3 hC h hl hl1 hl2 hk3
 ·refine (vOfR hC h hl hl1 hl2 hk3).mono ?_
  rintro e w' (⟨h1, h2⟩ | ⟨h1, h2⟩)
  ·exact .inl ⟨h1, fval_zero h2⟩
  ·have hs : (Sx.valOf key l).set = [] := by simp only [Sx.valOf, if_neg hk3]
   refine .inr ⟨h1, none, 0, 0, ?_⟩
   rw [hs]
   have hz := ret_zero h2
   obtain ⟨fps, q1, q2, q3, q4⟩ := hz.gh
   exact ⟨hz.ret, hz.fr, fps, q1, q2, q3, fun x hx => by
    obtain rfl := List.mem_singleton.1 hx
    exact .nil⟩
end Go.Proofs.YtpjkiomccpjboaaGreatDoor
end
section
namespace Go.Proofs.YtpjkiomccpjboaaGreatDoor
open Go Go.Sx
abbrev keyK : ByteArray := ByteArray.mk #[107]
abbrev opK : OpT := ⟨0, ByteArray.mk #[107], 1, ByteArray.mk #[120], 0, false, []⟩
abbrev comK : ComT := ⟨[1], 0, [opK]⟩
theorem faultK : valFault keyK [comK] = ⟨0, -1⟩ := rfl
theorem opsK : opsOf keyK [comK] = [⟨opK, ⟨0, 1, 0⟩, 1⟩] := by
 simp [opsOf, sortDone, opsRaw, allDone, firsts, doneOf, dotOf, wsum]
theorem valK : Sx.valOf keyK [comK] = ⟨1, ByteArray.mk #[120], 0, []⟩ := by
 simp [Sx.valOf, opsK, kindOf, ofKey, kindL, lastText]
theorem worth {w : World} {S : Nat → Prop} {er : Nat → Addr} {eb : Nat → Array Value × TypeId} (hC : Rep w S .nilIface (dC er eb)) :
  Calls Tryz.prog 11 #[] w fun e w' => Ret [] w S w' e (.bool true) [] [] := by
 refine ep11 (args := []) (G := [(_, dC er eb)]) (by kernel_rfl) (.cons hC (.nil _ _)) ?_
 refine Sq mixed [zR 0] [] [0] (fun _ => [zB 0 false]) (fun _ => []) (fun _ => ?_)
 refine J_seq ?_
 refine jB mixed [(0, false), (1, true), (2, false), (3, true), (4, false), (5, false), (6, true), (7, true), (8, true), (9, false), (10, false), (11, true)] [] ?_
 refine Gr (id := 1) (rest := [(5, false), (6, true), (7, true), (8, true), (9, false), (10, false), (11, true)]) [.wr 0 [] 0, zR 1, .wr 2 [] 0, zR 3, .wr 4 [] 0] [0, 8] (fun nu1 => [zB 0 false, zS 8 (sA (nu1 2) 0) 1 1]) (fun nu1 => [(nu1 0, .cells #[nI 1] 3 (0, 0)), (nu1 1, .cells #[nI 0, .string (ByteArray.mk #[107]), nI 1, .string (ByteArray.mk #[120]), nI 0, .bool false, .slice none 0 0] 24 (0, 0)), (nu1 2, .cells #[.slice (sA (nu1 0) 0) 1 1, nI 0, .slice (sA (nu1 1) 0) 1 1] 28 (0, 0))]) (fun nu1 => ?_)
 refine JR_data (size := 1) 0 eI [(1 : Int)] 1 rfl (by kernel_rfl) (by decide) (by intro x _; rfl) (by simp) ⟨.inl ⟨rfl, rfl⟩, trivial⟩ ?_
 refine JR_data (size := 7) 0 eOp [opK] 1 rfl (by kernel_rfl) (by decide) (by intro x _; rfl) (by simp) ⟨.inl ⟨rfl, rfl⟩, ⟨.inl ⟨rfl, rfl⟩, ⟨.inl ⟨rfl, rfl⟩, ⟨.inl ⟨rfl, rfl⟩, ⟨.inl ⟨rfl, rfl⟩, ⟨.inl ⟨rfl, rfl⟩, ⟨.inr (.inr ⟨_, _, _, rfl, rfl⟩), trivial⟩⟩⟩⟩⟩⟩⟩ ?_
 refine JR_data (size := 3) 0 eCom [comK] 1 rfl (by kernel_rfl) (by decide) (by intro x _; rfl) (by simp) ⟨.inr (.inl (List.mem_of_getElem? (i := 1) rfl)), ⟨.inl ⟨rfl, rfl⟩, ⟨.inr (.inl (List.mem_of_getElem? (i := 2) rfl)), trivial⟩⟩⟩ ?_
 refine JR_callp [] 21 #[.string (ByteArray.mk #[107]), .slice (some (⟨nu1 2, 0, none⟩)) 1 1] (some 9) (by kernel_rfl) (fun w S hG => ?_)
 refine (vOfR (l := [comK]) (hG.at 0 rfl) (hG.at 3 rfl) (by simp) (by simp) (by simp) (by rw [opsK]; decide)).mono ?_
 rintro e1 w1 (⟨hc, _⟩ | ⟨hc, hR⟩)
 ·exact absurd (by rw [faultK]) hc
 refine ⟨_, _, _, hR, ?_⟩
 rw [valK]
 try simp only [cAp, nAp, aNl]
 refine Gr (id := 1) (rest := []) [zR 6, zR 7, zR 8, .wr 9 [] 0, .wr 10 [.o 0 none, .o 0 none, .o 0 none, .o 0 none] 0, zR 11] [0, 1, 2] (fun nu2 => [zB 0 false, zP 1 (nu2 0), zV 2 .nilIface]) (fun nu2 => [(nu2 0, .cells #[nI 1, .string (ByteArray.mk #[120]), nI 0, .slice none 0 0] 47 (0, 0))]) (fun nu2 => ?_)
 refine JR_end ?_
 refine Sq mixed [zR 0, zR 1, zR 2, zR 3, .rd 4 [.o 0 none] 0 0, zR 5, zR 6, zR 7, zR 8, .rd 9 [.o 0 none] 0 0, zR 10, zR 11, zR 12, zR 13, .rd 14 [.o 0 none] 0 0, zR 15, zR 16, zR 17, zR 18] [] [0] (fun _ => [zB 0 true]) (fun _ => [(nu2 0, .cells #[nI 1, .string (ByteArray.mk #[120]), nI 0, .slice none 0 0] 47 (0, 0))]) (fun _ => ?_)
 refine J_return [[]] (.bool true) (by kernel_rfl) (fun a w s => ?_)
 exact s.ret (by simp) [] [] rfl rfl
end Go.Proofs.YtpjkiomccpjboaaGreatDoor
end
section
namespace Go.Proofs.YtpjkiomccpjboaaGreatDoor
open Go Go.Sx
theorem light {l : List ComT} (h : heavyL l = false) : l.length ≤ 30 ∧ ∀ c ∈ l, heavyC c = 0 := by
 simp only [heavyL, Bool.or_eq_false_iff, List.any_eq_false, decide_eq_false_iff_not, decide_eq_true_eq] at h
 obtain ⟨h1, h2⟩ := h
 refine ⟨by omega, fun c hc => ?_⟩
 have h3 := h2 c hc
 unfold heavyC at h3 ⊢
 split at h3
 ·omega
 ·split at h3
  ·omega
  ·rename_i h5 h6
   rw [if_neg h5, if_neg h6]
theorem light_com {c : ComT} (h : heavyC c = 0) : c.when.length ≤ 20 ∧ c.ops.length ≤ 20 ∧ ∀ o ∈ c.ops, o.dots.length ≤ 70 := by
 unfold heavyC at h
 split at h
 ·cases h
 ·split at h
  ·cases h
  ·rename_i h1 h2
   refine ⟨by omega, by omega, fun o ho => ?_⟩
   have h3 : heavyOp o = false := by
    cases h4 : heavyOp o with
    | false => rfl
    | true => exact absurd (List.any_eq_true.2 ⟨o, ho, h4⟩) h2
   simp [heavyOp] at h3
   omega
theorem enterB_len (l : List ByteArray) (s : ByteArray) : (enterB l s).length ≤ l.length + 1 := by
 induction l with
 | nil => simp [enterB]
 | cons x l ih =>
  unfold enterB
  split
  ·rw [List.length_cons, List.length_cons]
   omega
  ·split
   ·omega
   ·simp
theorem setOf_lenF : ∀ (l p : List ByteArray), (l.foldl enterB p).length ≤ p.length + l.length
 | [], p => by simp
 | x :: l, p => by
  have h1 := setOf_lenF l (enterB p x)
  have h2 := enterB_len p x
  rw [List.foldl_cons, List.length_cons]
  omega
theorem valOf_len {key : ByteArray} {l : List ComT} (h : (valFault key l).code = 0) : (Sx.valOf key l).set.length ≤ 12 * l.length := by
 unfold Sx.valOf
 dsimp only
 split
 ·refine Nat.le_trans (setOf_lenF _ _) ?_
  rw [List.length_map, List.length_nil, Nat.zero_add]
  exact Nat.le_trans (List.length_filter_le _ _) (ofKey_len h)
 ·simp
end Go.Proofs.YtpjkiomccpjboaaGreatDoor
end
section
namespace Go.Sx
open Go Go.MapKept
section look
variable {P : Program} {f : Func} {R : Act → World → Prop} {n : Nat} {k : List Itm} {E : Env} {h r : List (Nat × Obj)} {F : List (List Nat × World)} {Y : Ghost}
theorem JRg_lookrc {S0 : Nat → Prop} {C0 : List Chunk} {G0 : List (Value × D)} {id L0 i : Nat} {Wp : List (Nat × List Nat)} {rest : List (Nat × Bool)} (q b t kt et : Nat) (ok : Value → Prop) (key z : Value) (c : Bool) (dst : Option Tmp) {es : Array MapEntry} {clock : Nat} {g : Value → Option Value}
  (he : lookOf n (rgOf f id) E i = some (.map (some b), key, t, c, dst)) (ht : P.underlying t = some (.map kt et)) (hK : KeyOk P kt ok) (hk : ok key) (hi : (P.info? et).map (·.zero) = some (some z))
  (hqc : C0[q]? = some (cObj b (.map es clock))) (hm : MapG ok es g)
  (A : g key = none → JR P f R n (rgOf f id) L0 false rest Wp k (E.put dst (.val (lkV c z false))) h r F ⟨S0, C0, G0⟩)
  (B : ∀ v, g key = some v → JR P f R n (rgOf f id) L0 false rest Wp k (E.put dst (.val (lkV c v true))) h r F ⟨S0, C0, G0⟩) :
  JR P f R n (rgOf f id) L0 false ((i, true) :: rest) Wp k E h r F ⟨S0, C0, G0⟩ := by
 intro BB Hd fps a w s hH hR hN hW
 simp only [PW]
 obtain ⟨inf, hinf, hz⟩ := Option.map_eq_some_iff.1 hi
 have hzero : ∀ w, (zeroValue et).run P w = .ok z w := fun w => by simp [zeroValue, typeInfo, hinf, hz]
 obtain ⟨_, _, hcw⟩ := s.gh.chs.at hqc
 have hHp : Hp [(b, Obj.map es clock)] w := fun y hy => by
  obtain rfl := List.mem_singleton.1 hy
  exact hcw.2
 unfold lookOf at he
 split at he
 ·cases he
 rename_i o ho
 split at he
 case isFalse => cases he
 rename_i hdst
 split at he
 ·cases he
 rename_i hg
 split at he
 case h_2 => cases he
 rename_i t' m x c' hc
 split at he
 case h_2 => cases he
 rename_i hq
 simp only [Option.some.injEq, Prod.mk.injEq] at he
 obtain ⟨e1, e2, rfl, rfl, rfl⟩ := he
 have hev := opsOk_sound s.ag (fun c w h => by cases h) _ _ hq trivial
 have e1 : a.eval m = .map (some b) := (hev m (by simp)).trans e1
 have e2 : a.eval x = key := (hev x (by simp)).trans e2
 have fin : ∀ v, (∀ w, Hp [(b, Obj.map es clock)] w → (Instr.lookup t' (.map (some b)) key c').run P w = .ok v w) → JR P f R n (rgOf f id) L0 false rest Wp k (E.put o.dst (.val v)) h r F ⟨S0, C0, G0⟩ →
   ∃ o' v' us, (rgOf f id)[i]? = some o' ∧ YieldsIf P (rgOf f id) (Hp us) o' v' a ∧ Hp us w ∧ (false = true → ∀ y ∈ idsW Hd h Wp, later (rgOf f id) i 3 y.1 = true ∨ ∀ x ∈ us, x.1 < BB ∧ x.1 ∉ y.2) ∧ PW P (rgOf f id) (wpK P f R k) BB false rest (idsW Hd h Wp) (a.put o'.dst v') w := fun v hv H => by
  refine ⟨o, v, [(b, Obj.map es clock)], ho, .inl ⟨by simp [Region.wanted, hg], fun w hw => ?_⟩, hHp, (fun hck => absurd hck Bool.false_ne_true), ?_⟩
  ·unfold execOp
   simp only [hc, Sem.run_bind, Sem.run_pure, Result.andThen_ok, e1, e2, hv w hw]
  ·exact H BB Hd fps _ w ⟨s.ag.put hdst (.val v), s.own, s.fr, s.may, s.gh⟩ hH hR hN hW
 have hbw : ∀ w, Hp [(b, Obj.map es clock)] w → w.heap[b]? = some (.map es clock) := fun w hw => hw (b, .map es clock) (by simp)
 rcases hm.look hK hk with ⟨h1, h2, _⟩ | ⟨j, e, h1, _, _, h2⟩
 ·refine fin (lkV c' z false) (fun w hw => ?_) (A h2)
  cases c' <;> simp [Instr.lookup, run_underlying ht, MapKept.run_getObj_map (hbw w hw), hK.chk _ _ hk, h1, hzero, Result.andThen, lkV]
 ·refine fin (lkV c' e.val true) (fun w hw => ?_) (B _ h2)
  cases c' <;> simp [Instr.lookup, run_underlying ht, MapKept.run_getObj_map (hbw w hw), hK.chk _ _ hk, h1, Result.andThen, lkV]
end look
theorem opsOf_nodup (key : ByteArray) (l : List ComT) : ((opsOf key l).map (·.d)).Nodup := by
 have h1 : ((opsRaw key l).map (·.d)).Nodup := (firsts_nodup (s := []) (l := allDone l)).sublist ((List.filter_sublist ..).map _)
 exact (((List.mergeSort_perm (opsRaw key l) fun x y => !doneLt y x).map (·.d)).nodup_iff).2 h1
theorem ofKey_nodup (key : ByteArray) (l : List ComT) : ((ofKey key l).map (·.d)).Nodup := (opsOf_nodup key l).sublist ((List.filter_sublist ..).map _)
theorem textDots_nodup {l : List DoneT} (h : (l.map (·.d)).Nodup) (t : ByteArray) : (textDots l t).Nodup := h.sublist (((List.filter_sublist ..).trans (List.filter_sublist ..)).map _)
theorem textDots_len (l : List DoneT) (t : ByteArray) : (textDots l t).length ≤ l.length := by
 unfold textDots
 rw [List.length_map]
 exact Nat.le_trans (List.length_filter_le _ _) (List.length_filter_le _ _)
end Go.Sx
namespace Go.Proofs.YtpjkiomccpjboaaGreatDoor
open Go Go.Sx
theorem vDots {w : World} {S : Nat → Prop} {er : Nat → Addr} {eb : Nat → Array Value × TypeId} {a : Option Addr} {n c : Nat} {key text : ByteArray} {l : List ComT} (hC : Rep w S .nilIface (dC er eb)) (h : Rep w S (.slice a n c) (.sl 3 (l.map eCom))) (hl : l.length ≤ 300000) (hl1 : ∀ x ∈ l, x.when.length ≤ 1000000) (hl2 : ∀ x ∈ l, x.ops.length ≤ 1000000) :
  Calls Tryz.prog 23 #[.string key, .string text, .slice a n c] w fun e w' => ((valFault key l).code ≠ 0 ∧ FVal w S w' e er (valFault key l) fun v => .tuple #[.slice none 0 0, v]) ∨ ((valFault key l).code = 0 ∧ ∃ ua un uc, Ret [] w S w' e (.tuple #[.slice ua un uc, .nilIface]) [] [(.slice ua un uc, .sl 3 ((dotsOf key text l).map eDot))]) := by
 refine ep23 (args := [.string key, .string text, .slice a n c]) (G := [(_, dC er eb), (_, .sl 3 (l.map eCom))]) (by kernel_rfl) (.cons hC (.cons h (.nil _ _))) ?_
 refine Sq mixed [zR 0, zR 1] [] [0, 1, 2, 6, 7] (fun _ => [zV 0 (.string key), zV 1 (.string text), zS 2 a n c, zS 6 none 0 0, zV 7 .nilIface]) (fun _ => []) (fun _ => ?_)
 refine J_seq ?_
 refine jB mixed [(0, true), (1, true), (2, false), (3, true), (4, true), (5, true), (6, true), (7, true)] [] ?_
 refine Gr (id := 1) (rest := [(2, false), (3, true), (4, true), (5, true), (6, true), (7, true)]) [zR 0, zR 1] [1, 6, 7, 13, 14] (fun _ => [zV 1 (.string text), zS 6 none 0 0, zV 7 .nilIface, zV 13 (.string key), zS 14 a n c]) (fun _ => []) (fun _ => ?_)
 refine JR_callp [] 61 #[.string key, .slice a n c] (some 15) (by kernel_rfl) (fun w S hG => ?_)
 refine (vOps (hG.at 0 rfl) (hG.at 1 rfl) hl hl1 hl2).mono ?_
 rintro e1 w1 (⟨hc, ⟨hat, v, hR, hv⟩ | ⟨hc1, hat, pb, hR⟩⟩ | ⟨hc, a1, n1, c1, hR⟩)
 ·refine ⟨_, _, _, hR, ?_⟩
  rcases hv with ⟨hv0, rfl⟩ | ⟨hv0, rfl⟩
  ·exact absurd hv0 hc
  ·try simp only [List.cons_append, List.nil_append, List.append_nil]
   refine Gr (id := 1) (rest := []) [zR 3, zR 4, zR 5, zR 6, zR 7] [1, 6, 7, 8, 9] (fun _ => [zV 1 (.string text), zS 6 none 0 0, zV 7 .nilIface, zS 8 none 0 0, zV 9 (.iface 243 (.pointer (some (er (valFault key l).code))))]) (fun _ => []) (fun _ => ?_)
   refine JR_end ?_
   refine J_seq ?_
   refine Sq mixed [zR 0, zR 1] [] [1, 6, 7, 8, 9, 19] (fun _ => [zV 1 (.string text), zS 6 none 0 0, zV 7 .nilIface, zS 8 none 0 0, zV 9 (.iface 243 (.pointer (some (er (valFault key l).code)))), zB 19 true]) (fun _ => []) (fun _ => ?_)
   refine cTt ?_
   refine Sq mixed [zR 0, zR 1, zR 2] [] [1, 6, 7, 8] (fun _ => [zV 1 (.string text), zS 6 none 0 0, zV 7 (.iface 243 (.pointer (some (er (valFault key l).code)))), zS 8 none 0 0]) (fun _ => []) (fun _ => ?_)
   refine J_return [[], []] (.tuple #[.slice none 0 0, .iface 243 (.pointer (some (er (valFault key l).code)))]) (by kernel_rfl) (fun a w s => ?_)
   exact .inl ⟨hc, .inl ⟨hat, _, s.ret (by simp) [] [] rfl rfl, .inr ⟨hv0, rfl⟩⟩⟩
 ·refine ⟨_, _, _, hR, ?_⟩
  try simp only [cAp, nAp, aNl]
  refine Gr (id := 1) (rest := []) [zR 3, zR 4, zR 5, zR 6, zR 7] [1, 6, 7, 8, 9] (fun _ => [zV 1 (.string text), zS 6 none 0 0, zV 7 .nilIface, zS 8 none 0 0, zV 9 (.iface 102 (.pointer (sA pb 0)))]) (fun _ => []) (fun _ => ?_)
  refine JR_end ?_
  refine J_seq ?_
  refine Sq mixed [zR 0, zR 1] [] [1, 6, 7, 8, 9, 19] (fun _ => [zV 1 (.string text), zS 6 none 0 0, zV 7 .nilIface, zS 8 none 0 0, zV 9 (.iface 102 (.pointer (sA pb 0))), zB 19 true]) (fun _ => []) (fun _ => ?_)
  refine cTt ?_
  refine Sq mixed [zR 0, zR 1, zR 2] [] [1, 6, 7, 8] (fun _ => [zV 1 (.string text), zS 6 none 0 0, zV 7 (.iface 102 (.pointer (sA pb 0))), zS 8 none 0 0]) (fun _ => []) (fun _ => ?_)
  refine J_return [[], []] (.tuple #[.slice none 0 0, .iface 102 (.pointer (some (⟨pb, 0, none⟩)))]) (by kernel_rfl) (fun a w s => ?_)
  exact .inl ⟨hc, .inr ⟨hc1, hat, _, s.ret (by simp) [] [2] rfl rfl⟩⟩
 ·refine ⟨_, _, _, hR, ?_⟩
  have hlo := opsOf_len hc
  have hlk := ofKey_len hc
  try simp only [cAp, nAp, aNl]
  refine Gr (id := 1) (rest := []) [zR 3, zR 4, zR 5, zR 6, zR 7] [1, 6, 7, 8, 9] (fun _ => [zV 1 (.string text), zS 6 none 0 0, zV 7 .nilIface, zS 8 a1 n1 c1, zV 9 .nilIface]) (fun _ => []) (fun _ => ?_)
  refine JR_end ?_
  refine J_seq ?_
  refine Sq mixed [zR 0, zR 1] [] [1, 6, 7, 8, 9, 19] (fun _ => [zV 1 (.string text), zS 6 none 0 0, zV 7 .nilIface, zS 8 a1 n1 c1, zV 9 .nilIface, zB 19 false]) (fun _ => []) (fun _ => ?_)
  refine cF ?_
  refine J_skip ?_
  refine J_seq ?_
  refine jB mixed [(0, true), (1, false), (2, true), (3, true), (4, true), (5, true), (6, true)] [] ?_
  refine Gr (id := 4) (rest := [(1, false), (2, true), (3, true), (4, true), (5, true), (6, true)]) [zR 0] [1, 6, 7, 8, 22] (fun _ => [zV 1 (.string text), zS 6 none 0 0, zV 7 .nilIface, zS 8 a1 n1 c1, zS 22 a1 n1 c1]) (fun _ => []) (fun _ => ?_)
  refine JR_callp [] 62 #[.slice a1 n1 c1] (some 23) (by kernel_rfl) (fun w S hG => ?_)
  refine (vKind (hG.at 2 rfl) (by omega)).mono ?_
  rintro e2 w2 ⟨a2, n2, c2, hR⟩
  refine ⟨_, _, _, hR, ?_⟩
  have hA : kindL (opsOf key l) = ofKey key l := rfl
  rw [hA]
  by_cases hk3 : kindOf (opsOf key l) = 3
  ·have hd : dotsOf key text l = sortDots (textDots (ofKey key l) text) := by rw [dotsOf, if_pos hk3]
   rw [hk3]
   have hdl : ∀ x ∈ ofKey key l, x.o.dots.length ≤ 1000000 := fun x hx => by
    obtain ⟨p, hp⟩ := fine_mem hc (mem_ofKey hx)
    have := opErr_fine hp
    omega
   try simp only [cAp, nAp, aNl]
   refine Gr (id := 4) (rest := []) [zR 2, zR 3, zR 4, zR 5, zR 6] [1, 6, 7, 8, 10] (fun _ => [zV 1 (.string text), zS 6 none 0 0, zV 7 .nilIface, zS 8 a2 n2 c2, zI 10 3]) (fun _ => []) (fun _ => ?_)
   refine JR_end ?_
   refine J_seq ?_
   refine Sq mixed [zR 0, zR 1] [] [1, 6, 7, 8, 27] (fun _ => [zV 1 (.string text), zS 6 none 0 0, zV 7 .nilIface, zS 8 a2 n2 c2, zB 27 false]) (fun _ => []) (fun _ => ?_)
   refine cF ?_
   refine J_skip ?_
   refine J_seq ?_
   refine jB mixed [(0, true), (1, false), (2, true), (3, true), (4, true)] [] ?_
   refine Gr (id := 7) (rest := [(1, false), (2, true), (3, true), (4, true)]) [zR 0] [1, 6, 7, 28] (fun _ => [zV 1 (.string text), zS 6 none 0 0, zV 7 .nilIface, zS 28 a2 n2 c2]) (fun _ => []) (fun _ => ?_)
   refine JR_callp [] 65 #[.slice a2 n2 c2] (some 29) (by kernel_rfl) (fun w S hG => ?_)
   refine (vLive (hG.at 3 rfl) (by omega) hdl).mono ?_
   rintro e3 w3 ⟨mb, es, clock, ks, F, hR, hm, hst, hnd, hiff⟩
   refine ⟨_, _, _, hR, ?_⟩
   try simp only [cAp, nAp, aNl]
   refine Gr (id := 7) (rest := [(3, true), (4, true)]) [zR 2] [6, 7, 29, 30] (fun _ => [zS 6 none 0 0, zV 7 .nilIface, zV 29 (.map (some mb)), zV 30 (.string text)]) (fun _ => []) (fun _ => ?_)
   have hnd2 := textDots_nodup (ofKey_nodup key l) text
   have hln2 := textDots_len (ofKey key l) text
   refine JRg_lookrc 0 mb 117 9 22 (MapKept.IsKey .string) (.string text) (.slice none 0 0) false (some 31) (by kernel_rfl) (by kernel_rfl) keyOk_9 (by simp [MapKept.IsKey]) (by kernel_rfl) rfl hm (fun hno => ?_) (fun v hv => ?_)
   ·have hT : text ∉ ks := fun h => by rw [strG_in h] at hno; cases hno
    have hT0 : textDots (ofKey key l) text = [] := Classical.byContradiction fun h => hT ((hiff _).2 h)
    refine Gr (id := 7) (rest := []) [zR 4] [6, 7, 11] (fun _ => [zS 6 none 0 0, zV 7 .nilIface, zS 11 none 0 0]) (fun _ => []) (fun _ => ?_)
    refine JR_end ?_
    refine J_seq ?_
    refine J_stp (stp_accm eDot 65 3) ?_
    refine J_norm (C' := [cObj mb (Obj.map es clock), (cStar (List.map (fun t => cAcc (F t) 65 3 (List.map eDot (textDots (ofKey key l) t))) ks)), cAcc (.slice none 0 0) 65 3 (List.map eDot [])]) (G' := [(.nilIface, (dC er eb)), (.slice a n c, (D.sl 3 (List.map eCom l))), (.slice a1 n1 c1, (D.sl 11 (List.map eDone (opsOf key l)))), (.slice a2 n2 c2, (D.sl 11 (List.map eDone (ofKey key l))))]) (by kernel_rfl) (by kernel_rfl) ?_
    refine jB mixed [(0, true), (1, false)] [] ?_
    refine Gr (id := 8) (rest := [(1, false)]) [zR 0] [6, 7, 11, 32] (fun _ => [zS 6 none 0 0, zV 7 .nilIface, zS 11 none 0 0, zS 32 none 0 0]) (fun _ => []) (fun _ => ?_)
    refine JR_call [] [2] 66 #[.slice none 0 0, .func (.func 67) #[] #[]] (some 33) (by kernel_rfl) (by kernel_rfl) (by decide) (fun w S M hP hG _ => ?_)
    refine (sortDotAcc (l := []) hP (by simp) (by simp)).mono ?_
    rintro e4 w4 hR
    refine ⟨_, _, _, hR, ?_⟩
    try simp only [cAp, nAp, aNl]
    refine JR_end ?_
    try simp only [cAp, nAp, aNl]
    refine J_seq ?_
    try simp only [cAp, nAp, aNl]
    refine Gq mixed [zR 0, zR 1, zR 2] [] [6, 7] (fun _ => [zS 6 none 0 0, zV 7 .nilIface]) (fun _ => []) (fun _ => ?_)
    try simp only [cAp, nAp, aNl]
    refine J_return [[], []] (.tuple #[.slice none 0 0, .nilIface]) (by kernel_rfl) (fun a w s => ?_)
    rw [hd, hT0]
    exact .inr ⟨hc, _, _, _, (s.stp (stp_freeze 2 rfl)).ret (by simp) [] [4] rfl rfl⟩
   ·have hT : text ∈ ks := Classical.byContradiction fun h => by rw [strG_out h] at hv; cases hv
    rw [strG_in hT] at hv
    cases hv
    obtain ⟨iT, hit⟩ := List.getElem?_of_mem hT
    refine Gr (id := 7) (rest := []) [zR 4] [6, 7, 11] (fun _ => [zS 6 none 0 0, zV 7 .nilIface, zV 11 (F text)]) (fun _ => []) (fun _ => ?_)
    refine JR_end ?_
    refine J_seq ?_
    refine J_stp (stp_take (c := cAcc (F text) 65 3 ((textDots (ofKey key l) text).map eDot)) 1 iT rfl (by rw [List.getElem?_map, hit]; rfl)) ?_
    refine J_stpx (stp_accform 1 rfl) fun y hF => ?_
    obtain ⟨hF, hn⟩ := hF
    obtain ⟨av, nv, cv⟩ := y
    dsimp only at hF hn
    rw [hF]
    refine J_norm (C' := [cObj mb (Obj.map es clock), cAcc (.slice av nv cv) 65 3 (List.map eDot (textDots (ofKey key l) text)), (cStar ((List.map (fun t => cAcc (F t) 65 3 (List.map eDot (textDots (ofKey key l) t))) ks).eraseIdx iT))]) (G' := [(.nilIface, (dC er eb)), (.slice a n c, (D.sl 3 (List.map eCom l))), (.slice a1 n1 c1, (D.sl 11 (List.map eDone (opsOf key l)))), (.slice a2 n2 c2, (D.sl 11 (List.map eDone (ofKey key l))))]) (by kernel_rfl) (by kernel_rfl) ?_
    refine jB mixed [(0, true), (1, false)] [] ?_
    refine Gr (id := 8) (rest := [(1, false)]) [zR 0] [6, 7, 11, 32] (fun _ => [zS 6 none 0 0, zV 7 .nilIface, zS 11 av nv cv, zS 32 av nv cv]) (fun _ => []) (fun _ => ?_)
    refine JR_call [] [1] 66 #[.slice av nv cv, .func (.func 67) #[] #[]] (some 33) (by kernel_rfl) (by kernel_rfl) (by decide) (fun w S M hP hG _ => ?_)
    refine (sortDotAcc hP (by omega) hnd2).mono ?_
    rintro e4 w4 hR
    refine ⟨_, _, _, hR, ?_⟩
    try simp only [cAp, nAp, aNl]
    refine JR_end ?_
    try simp only [cAp, nAp, aNl]
    refine J_seq ?_
    try simp only [cAp, nAp, aNl]
    refine Gq mixed [zR 0, zR 1, zR 2] [] [6, 7] (fun _ => [zS 6 av nv cv, zV 7 .nilIface]) (fun _ => []) (fun _ => ?_)
    try simp only [cAp, nAp, aNl]
    refine J_return [[], []] (.tuple #[.slice av nv cv, .nilIface]) (by kernel_rfl) (fun a w s => ?_)
    rw [hd]
    exact .inr ⟨hc, _, _, _, (s.stp (stp_freeze 2 rfl)).ret (by simp) [] [4] rfl rfl⟩
  ·have hd : dotsOf key text l = [] := by rw [dotsOf, if_neg hk3]
   try simp only [cAp, nAp, aNl]
   refine Gr (id := 4) (rest := []) [zR 2, zR 3, zR 4, zR 5, zR 6] [1, 6, 7, 8, 10] (fun _ => [zV 1 (.string text), zS 6 none 0 0, zV 7 .nilIface, zS 8 a2 n2 c2, zI 10 (kindOf (opsOf key l))]) (fun _ => []) (fun _ => ?_)
   refine JR_end ?_
   refine J_seq ?_
   refine Sp mixed [zR 0, .rd 1 [] 0 6] [] [1, 6, 7, 8, 27] (fun _ => [zV 1 (.string text), zS 6 none 0 0, zV 7 .nilIface, zS 8 a2 n2 c2, zB 27 true]) (fun _ => []) (fun _ => [(kindOf (opsOf key l) != (3 : Int)) = true]) (fun _ => ⟨by simp; omega, trivial⟩) (fun _ => ?_)
   refine cTt ?_
   refine Sq mixed [zR 0, zR 1] [] [1, 6, 7, 8] (fun _ => [zV 1 (.string text), zS 6 none 0 0, zV 7 .nilIface, zS 8 a2 n2 c2]) (fun _ => []) (fun _ => ?_)
   refine J_return [[], []] (.tuple #[.slice none 0 0, .nilIface]) (by kernel_rfl) (fun a w s => ?_)
   rw [hd]
   exact .inr ⟨hc, _, _, _, (s.stp (stp_fact (v := .slice none 0 0) (d := .sl 3 []) fun _ _ _ => .nil)).ret (by simp) [] [4] rfl rfl⟩
end Go.Proofs.YtpjkiomccpjboaaGreatDoor
end
section
namespace Go.Sx
open Go
theorem ofKey_kind {key : ByteArray} {l : List ComT} {x : DoneT} (h : x ∈ ofKey key l) : x.o.kind = kindOf (opsOf key l) := by simpa using (List.mem_filter.1 h).2
def livesU (L P : List DoneT) : List DoneT := P.filter fun a => !a.o.remove && !goneB L a.o.text a.d
theorem livesU_snoc (L P : List DoneT) (x : DoneT) : livesU L (P ++ [x]) = livesU L P ++ if (!x.o.remove && !goneB L x.o.text x.d) = true then [x] else [] := by
 rw [livesU, livesU, List.filter_append]
 congr 1
 cases hb : (!x.o.remove && !goneB L x.o.text x.d) <;> simp [List.filter, hb]
structure ValS where
 i : Int
 kd : Int
 text : ByteArray
 n : Int
 set : List ByteArray
 a : Option Addr
 m : Nat
 c : Nat
structure DotR where
 i : Int
 a : Option Addr
 n : Nat
 c : Nat
end Go.Sx
namespace Go.Proofs.YtpjkiomccpjboaaGreatDoor
open Go Go.Sx
set_option maxHeartbeats 4000000 in
theorem rValueOf {w : World} {S : Nat → Prop} {a : Option Addr} {n c : Nat} {key : ByteArray} {l : List ComT} (h : Rep w S (.slice a n c) (.sl 3 (l.map eCom))) (hl : l.length ≤ 300000) (hc : (valFault key l).code = 0) :
  Calls Tryz.prog 28 #[.string key, .slice a n c] w fun e w' => ∃ ua un uc, Ret [] w S w' e (valA (Sx.valOf key l) (.slice ua un uc)) [] [(.slice ua un uc, dStrs (Sx.valOf key l).set)] := by
 refine ep28 (args := [.string key, .slice a n c]) (S := S) (G := [(_, .sl 3 (l.map eCom))]) (by kernel_rfl) (.cons h (.nil _ _)) ?_
 have hf : (listFault l).code = 0 := by
  have h1 := allRight hc
  rw [listFault_none h1.2]
 have hfin : ∀ x ∈ ofKey key l, (x.o.kind = 1 ∨ x.o.kind = 2 ∨ x.o.kind = 3) ∧ (-1099511627776 ≤ x.o.n ∧ x.o.n ≤ 1099511627776) ∧ x.o.dots.length ≤ 1000000 := fun x hx => by
  obtain ⟨p, hp⟩ := fine_mem hc (mem_ofKey hx)
  have := opErr_fine hp
  omega
 have hlk := ofKey_len hc
 refine Sq mixed [.wr 0 [] 0] [] [0, 1, 4] (fun nu1 => [zV 0 (.string key), zS 1 a n c, zP 4 (nu1 0)]) (fun nu1 => [(nu1 0, .cells #[nI 0, .string (ByteArray.mk #[]), nI 0, .slice none 0 0] 47 (0, 0))]) (fun nu1 => ?_)
 refine J_seq ?_
 refine jB mixed [(0, true), (1, true), (2, false), (3, true)] [] ?_
 refine Gr (id := 1) (rest := [(2, false), (3, true)]) [zR 0, zR 1] [4, 10, 11] (fun _ => [zP 4 (nu1 0), zV 10 (.string key), zS 11 a n c]) (fun _ => [(nu1 0, .cells #[nI 0, .string (ByteArray.mk #[]), nI 0, .slice none 0 0] 47 (0, 0))]) (fun _ => ?_)
 refine JR_callp [] 70 #[.string key, .slice a n c] (some 12) (by kernel_rfl) (fun w S hG => ?_)
 refine (rOpsOf (hG.at 0 rfl) hl hf).mono ?_
 rintro e1 w1 ⟨a1, n1, c1, hR⟩
 refine ⟨_, _, _, hR, ?_⟩
 try simp only [cAp, nAp, aNl]
 refine Gr (id := 1) (rest := []) [zR 3] [4, 5] (fun _ => [zP 4 (nu1 0), zS 5 a1 n1 c1]) (fun _ => [(nu1 0, .cells #[nI 0, .string (ByteArray.mk #[]), nI 0, .slice none 0 0] 47 (0, 0))]) (fun _ => ?_)
 refine JR_end ?_
 refine Sq mixed [zR 0, .wr 1 [] 0, .wr 2 [.o 1 none, .o 1 none, .o 1 none, .o 1 none] 0] [(2, [])] [4, 5, 6] (fun nu2 => [zP 4 (nu1 0), zS 5 a1 n1 c1, zP 6 (nu2 0)]) (fun nu2 => [(nu1 0, .cells #[nI 0, .string (ByteArray.mk #[]), nI 0, .slice none 0 0] 47 (0, 0)), (nu2 0, .cells #[nI 0, .string (ByteArray.mk #[]), nI 0, .slice none 0 0] 47 (0, 0))]) (fun nu2 => ?_)
 refine J_seq ?_
 refine Sq mixed [zR 0] [] [4, 5, 6, 7] (fun _ => [zP 4 (nu1 0), zS 5 a1 n1 c1, zP 6 (nu2 0), zI 7 0]) (fun _ => [(nu1 0, .cells #[nI 0, .string (ByteArray.mk #[]), nI 0, .slice none 0 0] 47 (0, 0)), (nu2 0, .cells #[nI 0, .string (ByteArray.mk #[]), nI 0, .slice none 0 0] 47 (0, 0))]) (fun _ => ?_)
 refine J_block ?_
 refine J_stpx (stp_replen 1 rfl) fun _ hn1 => ?_
 rw [List.length_map] at hn1
 subst hn1
 have hval : Sx.valOf key l = ⟨kindOf (opsOf key l), if kindOf (opsOf key l) = 1 then lastText (ofKey key l) else ByteArray.mk #[], if kindOf (opsOf key l) = 2 then sumN (ofKey key l) else 0, if kindOf (opsOf key l) = 3 then setOf ((livesU (ofKey key l) (ofKey key l)).map (·.o.text)) else []⟩ := rfl
 have hemp : ofKey key l = [] → kindOf (opsOf key l) = 0 := fun h0 => by
  cases ho : opsOf key l with
  | nil => rfl
  | cons x r =>
   have : x ∈ ofKey key l := List.mem_filter.2 ⟨by rw [ho]; exact List.mem_cons_self .., by rw [ho]; simp [kindOf]⟩
   rw [h0] at this
   cases this
 have hkd := fun (x : DoneT) (hx : x ∈ ofKey key l) => ofKey_kind hx
 rw [hval]
 generalize kindOf (opsOf key l) = K at hkd hemp
 generalize ofKey key l = L at hfin hlk hkd hemp
 refine J_stp (stp_add (cRep (.slice none 0 0) (dStrs [])) fun _ _ => ⟨rfl, .nil⟩) ?_
 refine J_norm (C' := [(cRep (Value.slice none 0 0) (dStrs []))]) (G' := [(.slice a n c, (D.sl 3 (List.map eCom l))), (.slice a1 L.length c1, (D.sl 11 (List.map eDone L)))]) (by kernel_rfl) (by kernel_rfl) ?_
 refine J_loopx (fun y : ValS => [zP 4 (nu1 0), zS 5 a1 L.length c1, zP 6 (nu2 0), zI 7 y.i]) (fun y : ValS => [(nu1 0, .cells #[nI 0, .string (ByteArray.mk #[]), nI 0, .slice none 0 0] 47 (0, 0)), (nu2 0, .cells #[nI y.kd, .string y.text, nI y.n, .slice y.a y.m y.c] 47 (0, 0))]) (fun y : ValS => [cRep (.slice y.a y.m y.c) (dStrs y.set)]) (fun y : ValS => [(.slice a n c, (D.sl 3 (List.map eCom l))), (.slice a1 L.length c1, (D.sl 11 (List.map eDone L)))]) (fun y : ValS => (L.length - y.i).toNat) (fun y : ValS => (0 ≤ y.i ∧ y.i ≤ L.length ∧ y.kd = (if y.i = 0 then 0 else K) ∧ y.text = (if K = 1 then lastText (L.take y.i.toNat) else ByteArray.mk #[]) ∧ y.n = (if K = 2 then sumN (L.take y.i.toNat) else 0) ∧ y.set = (if K = 3 then setOf ((livesU L (L.take y.i.toNat)).map (·.o.text)) else []) ∧ GoodS y.a y.c)) ⟨0, 0, ByteArray.mk #[], 0, [], none, 0, 0⟩ [4, 5, 6, 7] [0, 1] [0] [0, 1] ?_ (by kernel_rfl) rfl rfl rfl ?_
 ·exact ⟨by simp, by simp, by simp, by split <;> rfl, by split <;> rfl, by split <;> rfl, .inl ⟨rfl, rfl⟩⟩
 rintro ⟨i, kd, tx, m, st, av, mv, cv⟩ ⟨hi0, hi, hkd2, htx, hm, hst, hg⟩
 dsimp only at hi0 hi hkd2 htx hm hst hg ⊢
 refine J_seq ?_
 refine Sq mixed [zR 0, zR 1, zR 2, zR 3] [] [4, 5, 6, 7, 17] (fun _ => [zP 4 (nu1 0), zS 5 a1 L.length c1, zP 6 (nu2 0), zI 7 i, zB 17 (decide (i < (↑L.length : Int)))]) (fun _ => [(nu1 0, .cells #[nI 0, .string (ByteArray.mk #[]), nI 0, .slice none 0 0] 47 (0, 0)), (nu2 0, .cells #[nI kd, .string tx, nI m, .slice av mv cv] 47 (0, 0))]) (fun _ => ?_)
 refine cC (t := decide (i < (↑L.length : Int))) (fun hlt => ?_) (fun hlt => ?_)
 ·have hlt2 : i < L.length := by simpa using hlt
  obtain ⟨x, hx⟩ : ∃ x, L[i.toNat]? = some x := ⟨_, List.getElem?_eq_getElem (by omega)⟩
  have hxm := List.mem_of_getElem? hx
  have hxk := hkd x hxm
  have hxf := hfin x hxm
  have hs := sumN_le (p := L) (fun z hz => (hfin z hz).2.1) i.toNat
  have hi1 : ¬ i + 1 = 0 := by omega
  refine J_read1 1 rfl i.toNat (map_at hx) (by kernel_rfl) (fun b1 off1 cs1 ty1 fz1 a1_0 c1_0 ha1 hrd1 => ?_)
  cases ha1
  have hrd1_0 := rd0 (hrd1 0 _ rfl)
  have hrd1_1 := hrd1 1 _ rfl
  have hrd1_2 := hrd1 2 _ rfl
  have hrd1_3 := hrd1 3 _ rfl
  have hrd1_4 := hrd1 4 _ rfl
  have hrd1_5 := hrd1 5 _ rfl
  have hrd1_6 := hrd1 6 _ rfl
  have hrd1_7 := hrd1 7 _ rfl
  have hrd1_8 := hrd1 8 _ rfl
  have hrd1_9 := hrd1 9 _ rfl
  have hrd1_10 := hrd1 10 _ rfl
  by_cases h1 : K = 1
  ·have h2 : ¬ K = 2 := by omega
   have h3 : ¬ K = 3 := by omega
   rw [h1] at hxk
   rw [if_neg h2] at hm
   rw [if_neg h3] at hst
   try simp only [cAp, nAp, aNl]
   refine J_skip ?_
   refine J_seq ?_
   refine J_block ?_
   refine Sp mixed [zR 0, zR 1, .rd 2 [] 0 2, zR 3, .rd 4 [.r 0 (some (nI x.o.no)), .r 0 (some (.string x.o.key)), .r 0 (some (nI x.o.kind)), .r 0 (some (.string x.o.text)), .r 0 (some (nI x.o.n)), .r 0 (some (.bool x.o.remove)), .r 0 (some (.slice (a1_0, c1_0).fst ((List.map eDot x.o.dots).length) c1_0))] 0 0, .wr 5 [] 0, .wr 6 [.o 2 none, .o 2 none, .o 2 none, .o 2 none, .o 2 none, .o 2 none, .o 2 none] 0] [(6, [])] [4, 5, 6, 7, 8] (fun nu3 => [zP 4 (nu1 0), zS 5 (sA b1 off1) L.length c1, zP 6 (nu2 0), zI 7 i, zP 8 (nu3 0)]) (fun nu3 => [(nu1 0, .cells #[nI 0, .string (ByteArray.mk #[]), nI 0, .slice none 0 0] 47 (0, 0)), (nu2 0, .cells #[nI kd, .string tx, nI m, .slice av mv cv] 47 (0, 0)), (nu3 0, .cells #[nI x.o.no, .string x.o.key, nI x.o.kind, .string x.o.text, nI x.o.n, .bool x.o.remove, .slice (a1_0, c1_0).fst ((List.map eDot x.o.dots).length) c1_0] 24 (0, 0))]) (fun nu3 => [(0 : Int) ≤ i, i < (↑L.length : Int), cs1[off1 + i.toNat * (11 : Nat)]? = some (nI x.o.no), cs1[off1 + i.toNat * (11 : Nat) + (1 : Nat)]? = some (Value.string x.o.key), cs1[off1 + i.toNat * (11 : Nat) + (2 : Nat)]? = some (nI x.o.kind), cs1[off1 + i.toNat * (11 : Nat) + (3 : Nat)]? = some (Value.string x.o.text), cs1[off1 + i.toNat * (11 : Nat) + (4 : Nat)]? = some (nI x.o.n), cs1[off1 + i.toNat * (11 : Nat) + (5 : Nat)]? = some (Value.bool x.o.remove), cs1[off1 + i.toNat * (11 : Nat) + (6 : Nat)]? = some (Value.slice (a1_0, c1_0).fst (List.map eDot x.o.dots).length (a1_0, c1_0).snd)]) (fun _ => ⟨hi0, hlt2, hrd1_0, hrd1_1, hrd1_2, hrd1_3, hrd1_4, hrd1_5, hrd1_6, trivial⟩) (fun nu3 => ?_)
   refine Sq mixed [zR 0, .rd 1 [.o 2 none] 0 0, zR 2, .wr 3 [.o 1 none] 0] [(3, [1])] [4, 5, 6, 7, 8] (fun _ => [zP 4 (nu1 0), zS 5 (sA b1 off1) L.length c1, zP 6 (nu2 0), zI 7 i, zP 8 (nu3 0)]) (fun _ => [(nu1 0, .cells #[nI 0, .string (ByteArray.mk #[]), nI 0, .slice none 0 0] 47 (0, 0)), (nu2 0, .cells #[nI x.o.kind, .string tx, nI m, .slice av mv cv] 47 (0, 0)), (nu3 0, .cells #[nI x.o.no, .string x.o.key, nI x.o.kind, .string x.o.text, nI x.o.n, .bool x.o.remove, .slice (a1_0, c1_0).fst ((List.map eDot x.o.dots).length) c1_0] 24 (0, 0))]) (fun _ => ?_)
   refine Sq mixed [zR 0, .rd 1 [.o 2 none] 0 0] [] [4, 5, 6, 7, 8, 29] (fun _ => [zP 4 (nu1 0), zS 5 (sA b1 off1) L.length c1, zP 6 (nu2 0), zI 7 i, zP 8 (nu3 0), zI 29 x.o.kind]) (fun _ => [(nu1 0, .cells #[nI 0, .string (ByteArray.mk #[]), nI 0, .slice none 0 0] 47 (0, 0)), (nu2 0, .cells #[nI x.o.kind, .string tx, nI m, .slice av mv cv] 47 (0, 0)), (nu3 0, .cells #[nI x.o.no, .string x.o.key, nI x.o.kind, .string x.o.text, nI x.o.n, .bool x.o.remove, .slice (a1_0, c1_0).fst ((List.map eDot x.o.dots).length) c1_0] 24 (0, 0))]) (fun _ => ?_)
   refine J_block ?_
   refine Sp mixed [.rd 0 [] 0 6, zR 1] [] [4, 5, 6, 7, 8, 29, 30] (fun _ => [zP 4 (nu1 0), zS 5 (sA b1 off1) L.length c1, zP 6 (nu2 0), zI 7 i, zP 8 (nu3 0), zI 29 x.o.kind, zB 30 true]) (fun _ => [(nu1 0, .cells #[nI 0, .string (ByteArray.mk #[]), nI 0, .slice none 0 0] 47 (0, 0)), (nu2 0, .cells #[nI x.o.kind, .string tx, nI m, .slice av mv cv] 47 (0, 0)), (nu3 0, .cells #[nI x.o.no, .string x.o.key, nI x.o.kind, .string x.o.text, nI x.o.n, .bool x.o.remove, .slice (a1_0, c1_0).fst ((List.map eDot x.o.dots).length) c1_0] 24 (0, 0))]) (fun _ => [(x.o.kind == (1 : Int)) = true]) (fun _ => ⟨by simp; omega, trivial⟩) (fun _ => ?_)
   refine cTt ?_
   refine Gq mixed [zR 0, .rd 1 [.o 2 none] 0 0, zR 2, .wr 3 [.o 1 none] 0] [(3, [1])] [4, 5, 6, 7, 8, 29] (fun _ => [zP 4 (nu1 0), zS 5 (sA b1 off1) L.length c1, zP 6 (nu2 0), zI 7 i, zP 8 (nu3 0), zI 29 x.o.kind]) (fun _ => [(nu1 0, .cells #[nI 0, .string (ByteArray.mk #[]), nI 0, .slice none 0 0] 47 (0, 0)), (nu2 0, .cells #[nI x.o.kind, .string x.o.text, nI m, .slice av mv cv] 47 (0, 0)), (nu3 0, .cells #[nI x.o.no, .string x.o.key, nI x.o.kind, .string x.o.text, nI x.o.n, .bool x.o.remove, .slice (a1_0, c1_0).fst ((List.map eDot x.o.dots).length) c1_0] 24 (0, 0))]) (fun _ => ?_)
   refine J_eb ?_
   refine J_eb ?_
   refine Gp mixed [zR 0, .rd 1 [] 0 1, zR 2] [] [4, 5, 6, 7, 8, 29] (fun _ => [zP 4 (nu1 0), zS 5 (sA b1 off1) L.length c1, zP 6 (nu2 0), zI 7 (i + 1), zP 8 (nu3 0), zI 29 x.o.kind]) (fun _ => [(nu1 0, .cells #[nI 0, .string (ByteArray.mk #[]), nI 0, .slice none 0 0] 47 (0, 0)), (nu2 0, .cells #[nI x.o.kind, .string x.o.text, nI m, .slice av mv cv] 47 (0, 0)), (nu3 0, .cells #[nI x.o.no, .string x.o.key, nI x.o.kind, .string x.o.text, nI x.o.n, .bool x.o.remove, .slice (a1_0, c1_0).fst ((List.map eDot x.o.dots).length) c1_0] 24 (0, 0))]) (fun _ => [IntKind.i64.wrap (i + (1 : Int)) = i + (1 : Int)]) (fun _ => ⟨wrap_i64 (by omega) (by omega), trivial⟩) (fun _ => ?_)
   refine J_backx ⟨i + 1, x.o.kind, x.o.text, m, st, _, _, _⟩ [4, 5, 6, 7] [0, 1] [0] [0, 1] ?_ ?_ (by kernel_rfl) rfl rfl rfl
   ·refine ⟨by simp only; omega, by simp only; omega, ?_, ?_, ?_, ?_, hg⟩
    ·dsimp only
     rw [if_neg hi1, h1, hxk]
    ·dsimp only
     rw [if_pos h1, ← take_snoc hi0 hx, lastText_snoc]
    ·dsimp only
     rw [if_neg h2, hm]
    ·dsimp only
     rw [if_neg h3, hst]
   ·simp only
    omega
  ·rw [if_neg h1] at htx
   by_cases h2 : K = 2
   ·have h3 : ¬ K = 3 := by omega
    rw [h2] at hxk
    rw [if_pos h2] at hm
    rw [if_neg h3] at hst
    have hmb : -9223372036854775808 ≤ m + x.o.n ∧ m + x.o.n ≤ 9223372036854775807 := by omega
    try simp only [cAp, nAp, aNl]
    refine J_skip ?_
    refine J_seq ?_
    refine J_block ?_
    refine Sp mixed [zR 0, zR 1, .rd 2 [] 0 2, zR 3, .rd 4 [.r 0 (some (nI x.o.no)), .r 0 (some (.string x.o.key)), .r 0 (some (nI x.o.kind)), .r 0 (some (.string x.o.text)), .r 0 (some (nI x.o.n)), .r 0 (some (.bool x.o.remove)), .r 0 (some (.slice (a1_0, c1_0).fst ((List.map eDot x.o.dots).length) c1_0))] 0 0, .wr 5 [] 0, .wr 6 [.o 2 none, .o 2 none, .o 2 none, .o 2 none, .o 2 none, .o 2 none, .o 2 none] 0] [(6, [])] [4, 5, 6, 7, 8] (fun nu3 => [zP 4 (nu1 0), zS 5 (sA b1 off1) L.length c1, zP 6 (nu2 0), zI 7 i, zP 8 (nu3 0)]) (fun nu3 => [(nu1 0, .cells #[nI 0, .string (ByteArray.mk #[]), nI 0, .slice none 0 0] 47 (0, 0)), (nu2 0, .cells #[nI kd, .string tx, nI m, .slice av mv cv] 47 (0, 0)), (nu3 0, .cells #[nI x.o.no, .string x.o.key, nI x.o.kind, .string x.o.text, nI x.o.n, .bool x.o.remove, .slice (a1_0, c1_0).fst ((List.map eDot x.o.dots).length) c1_0] 24 (0, 0))]) (fun nu3 => [(0 : Int) ≤ i, i < (↑L.length : Int), cs1[off1 + i.toNat * (11 : Nat)]? = some (nI x.o.no), cs1[off1 + i.toNat * (11 : Nat) + (1 : Nat)]? = some (Value.string x.o.key), cs1[off1 + i.toNat * (11 : Nat) + (2 : Nat)]? = some (nI x.o.kind), cs1[off1 + i.toNat * (11 : Nat) + (3 : Nat)]? = some (Value.string x.o.text), cs1[off1 + i.toNat * (11 : Nat) + (4 : Nat)]? = some (nI x.o.n), cs1[off1 + i.toNat * (11 : Nat) + (5 : Nat)]? = some (Value.bool x.o.remove), cs1[off1 + i.toNat * (11 : Nat) + (6 : Nat)]? = some (Value.slice (a1_0, c1_0).fst (List.map eDot x.o.dots).length (a1_0, c1_0).snd)]) (fun _ => ⟨hi0, hlt2, hrd1_0, hrd1_1, hrd1_2, hrd1_3, hrd1_4, hrd1_5, hrd1_6, trivial⟩) (fun nu3 => ?_)
    refine Sq mixed [zR 0, .rd 1 [.o 2 none] 0 0, zR 2, .wr 3 [.o 1 none] 0] [(3, [1])] [4, 5, 6, 7, 8] (fun _ => [zP 4 (nu1 0), zS 5 (sA b1 off1) L.length c1, zP 6 (nu2 0), zI 7 i, zP 8 (nu3 0)]) (fun _ => [(nu1 0, .cells #[nI 0, .string (ByteArray.mk #[]), nI 0, .slice none 0 0] 47 (0, 0)), (nu2 0, .cells #[nI x.o.kind, .string tx, nI m, .slice av mv cv] 47 (0, 0)), (nu3 0, .cells #[nI x.o.no, .string x.o.key, nI x.o.kind, .string x.o.text, nI x.o.n, .bool x.o.remove, .slice (a1_0, c1_0).fst ((List.map eDot x.o.dots).length) c1_0] 24 (0, 0))]) (fun _ => ?_)
    refine Sq mixed [zR 0, .rd 1 [.o 2 none] 0 0] [] [4, 5, 6, 7, 8, 29] (fun _ => [zP 4 (nu1 0), zS 5 (sA b1 off1) L.length c1, zP 6 (nu2 0), zI 7 i, zP 8 (nu3 0), zI 29 x.o.kind]) (fun _ => [(nu1 0, .cells #[nI 0, .string (ByteArray.mk #[]), nI 0, .slice none 0 0] 47 (0, 0)), (nu2 0, .cells #[nI x.o.kind, .string tx, nI m, .slice av mv cv] 47 (0, 0)), (nu3 0, .cells #[nI x.o.no, .string x.o.key, nI x.o.kind, .string x.o.text, nI x.o.n, .bool x.o.remove, .slice (a1_0, c1_0).fst ((List.map eDot x.o.dots).length) c1_0] 24 (0, 0))]) (fun _ => ?_)
    refine J_block ?_
    refine Sp mixed [.rd 0 [] 0 7, zR 1] [] [4, 5, 6, 7, 8, 29, 30] (fun _ => [zP 4 (nu1 0), zS 5 (sA b1 off1) L.length c1, zP 6 (nu2 0), zI 7 i, zP 8 (nu3 0), zI 29 x.o.kind, zB 30 false]) (fun _ => [(nu1 0, .cells #[nI 0, .string (ByteArray.mk #[]), nI 0, .slice none 0 0] 47 (0, 0)), (nu2 0, .cells #[nI x.o.kind, .string tx, nI m, .slice av mv cv] 47 (0, 0)), (nu3 0, .cells #[nI x.o.no, .string x.o.key, nI x.o.kind, .string x.o.text, nI x.o.n, .bool x.o.remove, .slice (a1_0, c1_0).fst ((List.map eDot x.o.dots).length) c1_0] 24 (0, 0))]) (fun _ => [(x.o.kind == (1 : Int)) = false]) (fun _ => ⟨by simp; omega, trivial⟩) (fun _ => ?_)
    refine cF ?_
    refine Sp mixed [.rd 0 [] 0 6, zR 1] [] [4, 5, 6, 7, 8, 29, 35] (fun _ => [zP 4 (nu1 0), zS 5 (sA b1 off1) L.length c1, zP 6 (nu2 0), zI 7 i, zP 8 (nu3 0), zI 29 x.o.kind, zB 35 true]) (fun _ => [(nu1 0, .cells #[nI 0, .string (ByteArray.mk #[]), nI 0, .slice none 0 0] 47 (0, 0)), (nu2 0, .cells #[nI x.o.kind, .string tx, nI m, .slice av mv cv] 47 (0, 0)), (nu3 0, .cells #[nI x.o.no, .string x.o.key, nI x.o.kind, .string x.o.text, nI x.o.n, .bool x.o.remove, .slice (a1_0, c1_0).fst ((List.map eDot x.o.dots).length) c1_0] 24 (0, 0))]) (fun _ => [(x.o.kind == (2 : Int)) = true]) (fun _ => ⟨by simp; omega, trivial⟩) (fun _ => ?_)
    refine cTt ?_
    refine Gp mixed [zR 0, .rd 1 [.o 1 none] 0 0, zR 2, .rd 3 [.o 2 none] 0 0, .rd 4 [] 0 1, zR 5, .wr 6 [.o 1 none] 0] [(6, [1])] [4, 5, 6, 7, 8, 29] (fun _ => [zP 4 (nu1 0), zS 5 (sA b1 off1) L.length c1, zP 6 (nu2 0), zI 7 i, zP 8 (nu3 0), zI 29 x.o.kind]) (fun _ => [(nu1 0, .cells #[nI 0, .string (ByteArray.mk #[]), nI 0, .slice none 0 0] 47 (0, 0)), (nu2 0, .cells #[nI x.o.kind, .string tx, nI (m + x.o.n), .slice av mv cv] 47 (0, 0)), (nu3 0, .cells #[nI x.o.no, .string x.o.key, nI x.o.kind, .string x.o.text, nI x.o.n, .bool x.o.remove, .slice (a1_0, c1_0).fst ((List.map eDot x.o.dots).length) c1_0] 24 (0, 0))]) (fun _ => [IntKind.i64.wrap (m + x.o.n) = m + x.o.n]) (fun _ => ⟨wrap_i64 (by omega) (by omega), trivial⟩) (fun _ => ?_)
    refine J_eb ?_
    refine J_eb ?_
    refine Gp mixed [zR 0, .rd 1 [] 0 1, zR 2] [] [4, 5, 6, 7, 8, 29] (fun _ => [zP 4 (nu1 0), zS 5 (sA b1 off1) L.length c1, zP 6 (nu2 0), zI 7 (i + 1), zP 8 (nu3 0), zI 29 x.o.kind]) (fun _ => [(nu1 0, .cells #[nI 0, .string (ByteArray.mk #[]), nI 0, .slice none 0 0] 47 (0, 0)), (nu2 0, .cells #[nI x.o.kind, .string tx, nI (m + x.o.n), .slice av mv cv] 47 (0, 0)), (nu3 0, .cells #[nI x.o.no, .string x.o.key, nI x.o.kind, .string x.o.text, nI x.o.n, .bool x.o.remove, .slice (a1_0, c1_0).fst ((List.map eDot x.o.dots).length) c1_0] 24 (0, 0))]) (fun _ => [IntKind.i64.wrap (i + (1 : Int)) = i + (1 : Int)]) (fun _ => ⟨wrap_i64 (by omega) (by omega), trivial⟩) (fun _ => ?_)
    refine J_backx ⟨i + 1, x.o.kind, tx, m + x.o.n, st, _, _, _⟩ [4, 5, 6, 7] [0, 1] [0] [0, 1] ?_ ?_ (by kernel_rfl) rfl rfl rfl
    ·refine ⟨by simp only; omega, by simp only; omega, ?_, ?_, ?_, ?_, hg⟩
     ·dsimp only
      rw [if_neg hi1, h2, hxk]
     ·dsimp only
      rw [if_neg h1, htx]
     ·dsimp only
      rw [if_pos h2, ← take_snoc hi0 hx, sumN_snoc, hm]
     ·dsimp only
      rw [if_neg h3, hst]
    ·simp only
     omega
   ·have h3 : K = 3 := by omega
    rw [h3] at hxk
    rw [if_neg h2] at hm
    rw [if_pos h3] at hst
    have hsl : st.length ≤ 4000000 := by
     rw [hst]
     refine Nat.le_trans (setOf_lenF _ _) ?_
     rw [List.length_nil, Nat.zero_add, List.length_map]
     refine Nat.le_trans (List.length_filter_le _ _) ?_
     rw [List.length_take]
     omega
    have hsn := livesU_snoc L (L.take i.toNat) x
    rw [take_snoc hi0 hx] at hsn
    try simp only [cAp, nAp, aNl]
    refine J_skip ?_
    refine J_seq ?_
    refine J_block ?_
    refine Sp mixed [zR 0, zR 1, .rd 2 [] 0 2, zR 3, .rd 4 [.r 0 (some (nI x.o.no)), .r 0 (some (.string x.o.key)), .r 0 (some (nI x.o.kind)), .r 0 (some (.string x.o.text)), .r 0 (some (nI x.o.n)), .r 0 (some (.bool x.o.remove)), .r 0 (some (.slice (a1_0, c1_0).fst ((List.map eDot x.o.dots).length) c1_0))] 0 0, .wr 5 [] 0, .wr 6 [.o 2 none, .o 2 none, .o 2 none, .o 2 none, .o 2 none, .o 2 none, .o 2 none] 0] [(6, [])] [4, 5, 6, 7, 8] (fun nu3 => [zP 4 (nu1 0), zS 5 (sA b1 off1) L.length c1, zP 6 (nu2 0), zI 7 i, zP 8 (nu3 0)]) (fun nu3 => [(nu1 0, .cells #[nI 0, .string (ByteArray.mk #[]), nI 0, .slice none 0 0] 47 (0, 0)), (nu2 0, .cells #[nI kd, .string tx, nI m, .slice av mv cv] 47 (0, 0)), (nu3 0, .cells #[nI x.o.no, .string x.o.key, nI x.o.kind, .string x.o.text, nI x.o.n, .bool x.o.remove, .slice (a1_0, c1_0).fst ((List.map eDot x.o.dots).length) c1_0] 24 (0, 0))]) (fun nu3 => [(0 : Int) ≤ i, i < (↑L.length : Int), cs1[off1 + i.toNat * (11 : Nat)]? = some (nI x.o.no), cs1[off1 + i.toNat * (11 : Nat) + (1 : Nat)]? = some (Value.string x.o.key), cs1[off1 + i.toNat * (11 : Nat) + (2 : Nat)]? = some (nI x.o.kind), cs1[off1 + i.toNat * (11 : Nat) + (3 : Nat)]? = some (Value.string x.o.text), cs1[off1 + i.toNat * (11 : Nat) + (4 : Nat)]? = some (nI x.o.n), cs1[off1 + i.toNat * (11 : Nat) + (5 : Nat)]? = some (Value.bool x.o.remove), cs1[off1 + i.toNat * (11 : Nat) + (6 : Nat)]? = some (Value.slice (a1_0, c1_0).fst (List.map eDot x.o.dots).length (a1_0, c1_0).snd)]) (fun _ => ⟨hi0, hlt2, hrd1_0, hrd1_1, hrd1_2, hrd1_3, hrd1_4, hrd1_5, hrd1_6, trivial⟩) (fun nu3 => ?_)
    refine Sq mixed [zR 0, .rd 1 [.o 2 none] 0 0, zR 2, .wr 3 [.o 1 none] 0] [(3, [1])] [4, 5, 6, 7, 8] (fun _ => [zP 4 (nu1 0), zS 5 (sA b1 off1) L.length c1, zP 6 (nu2 0), zI 7 i, zP 8 (nu3 0)]) (fun _ => [(nu1 0, .cells #[nI 0, .string (ByteArray.mk #[]), nI 0, .slice none 0 0] 47 (0, 0)), (nu2 0, .cells #[nI x.o.kind, .string tx, nI m, .slice av mv cv] 47 (0, 0)), (nu3 0, .cells #[nI x.o.no, .string x.o.key, nI x.o.kind, .string x.o.text, nI x.o.n, .bool x.o.remove, .slice (a1_0, c1_0).fst ((List.map eDot x.o.dots).length) c1_0] 24 (0, 0))]) (fun _ => ?_)
    refine Sq mixed [zR 0, .rd 1 [.o 2 none] 0 0] [] [4, 5, 6, 7, 8, 29] (fun _ => [zP 4 (nu1 0), zS 5 (sA b1 off1) L.length c1, zP 6 (nu2 0), zI 7 i, zP 8 (nu3 0), zI 29 x.o.kind]) (fun _ => [(nu1 0, .cells #[nI 0, .string (ByteArray.mk #[]), nI 0, .slice none 0 0] 47 (0, 0)), (nu2 0, .cells #[nI x.o.kind, .string tx, nI m, .slice av mv cv] 47 (0, 0)), (nu3 0, .cells #[nI x.o.no, .string x.o.key, nI x.o.kind, .string x.o.text, nI x.o.n, .bool x.o.remove, .slice (a1_0, c1_0).fst ((List.map eDot x.o.dots).length) c1_0] 24 (0, 0))]) (fun _ => ?_)
    refine J_block ?_
    refine Sp mixed [.rd 0 [] 0 7, zR 1] [] [4, 5, 6, 7, 8, 29, 30] (fun _ => [zP 4 (nu1 0), zS 5 (sA b1 off1) L.length c1, zP 6 (nu2 0), zI 7 i, zP 8 (nu3 0), zI 29 x.o.kind, zB 30 false]) (fun _ => [(nu1 0, .cells #[nI 0, .string (ByteArray.mk #[]), nI 0, .slice none 0 0] 47 (0, 0)), (nu2 0, .cells #[nI x.o.kind, .string tx, nI m, .slice av mv cv] 47 (0, 0)), (nu3 0, .cells #[nI x.o.no, .string x.o.key, nI x.o.kind, .string x.o.text, nI x.o.n, .bool x.o.remove, .slice (a1_0, c1_0).fst ((List.map eDot x.o.dots).length) c1_0] 24 (0, 0))]) (fun _ => [(x.o.kind == (1 : Int)) = false]) (fun _ => ⟨by simp; omega, trivial⟩) (fun _ => ?_)
    refine cF ?_
    refine Sp mixed [.rd 0 [] 0 7, zR 1] [] [4, 5, 6, 7, 8, 29, 35] (fun _ => [zP 4 (nu1 0), zS 5 (sA b1 off1) L.length c1, zP 6 (nu2 0), zI 7 i, zP 8 (nu3 0), zI 29 x.o.kind, zB 35 false]) (fun _ => [(nu1 0, .cells #[nI 0, .string (ByteArray.mk #[]), nI 0, .slice none 0 0] 47 (0, 0)), (nu2 0, .cells #[nI x.o.kind, .string tx, nI m, .slice av mv cv] 47 (0, 0)), (nu3 0, .cells #[nI x.o.no, .string x.o.key, nI x.o.kind, .string x.o.text, nI x.o.n, .bool x.o.remove, .slice (a1_0, c1_0).fst ((List.map eDot x.o.dots).length) c1_0] 24 (0, 0))]) (fun _ => [(x.o.kind == (2 : Int)) = false]) (fun _ => ⟨by simp; omega, trivial⟩) (fun _ => ?_)
    refine cF ?_
    refine Sp mixed [.rd 0 [] 0 6, zR 1] [] [4, 5, 6, 7, 8, 29, 43] (fun _ => [zP 4 (nu1 0), zS 5 (sA b1 off1) L.length c1, zP 6 (nu2 0), zI 7 i, zP 8 (nu3 0), zI 29 x.o.kind, zB 43 true]) (fun _ => [(nu1 0, .cells #[nI 0, .string (ByteArray.mk #[]), nI 0, .slice none 0 0] 47 (0, 0)), (nu2 0, .cells #[nI x.o.kind, .string tx, nI m, .slice av mv cv] 47 (0, 0)), (nu3 0, .cells #[nI x.o.no, .string x.o.key, nI x.o.kind, .string x.o.text, nI x.o.n, .bool x.o.remove, .slice (a1_0, c1_0).fst ((List.map eDot x.o.dots).length) c1_0] 24 (0, 0))]) (fun _ => [(x.o.kind == (3 : Int)) = true]) (fun _ => ⟨by simp; omega, trivial⟩) (fun _ => ?_)
    refine cTt ?_
    refine J_seq ?_
    refine jB mixed [(0, true), (1, true), (2, true), (3, true), (4, true), (5, false), (6, true)] [] ?_
    refine Gs (id := 14) (rest := [(5, false), (6, true)]) [zR 0, zR 1, zR 2, .rd 3 [] 0 2, .rd 4 [.r 0 (some (nI x.o.no)), .r 0 (some (.string x.o.key)), .r 0 (some (nI x.o.kind)), .r 0 (some (.string x.o.text)), .r 0 (some (nI x.o.n)), .r 0 (some (.bool x.o.remove)), .r 0 (some (.slice (a1_0, c1_0).fst ((List.map eDot x.o.dots).length) c1_0)), .r 0 (some (nI x.d.place)), .r 0 (some (nI x.d.time)), .r 0 (some (nI x.d.no)), .r 0 (some (nI x.w))] 0 0] [4, 5, 6, 7, 8, 29, 45, 49] (fun _ => [zP 4 (nu1 0), zS 5 (sA b1 off1) L.length c1, zP 6 (nu2 0), zI 7 i, zP 8 (nu3 0), zI 29 x.o.kind, zS 45 (sA b1 off1) L.length c1, zV 49 (.agg #[nI x.o.no, .string x.o.key, nI x.o.kind, .string x.o.text, nI x.o.n, .bool x.o.remove, .slice (a1_0, c1_0).fst ((List.map eDot x.o.dots).length) c1_0, nI x.d.place, nI x.d.time, nI x.d.no, nI x.w])]) (fun _ => [(nu1 0, .cells #[nI 0, .string (ByteArray.mk #[]), nI 0, .slice none 0 0] 47 (0, 0)), (nu2 0, .cells #[nI x.o.kind, .string tx, nI m, .slice av mv cv] 47 (0, 0)), (nu3 0, .cells #[nI x.o.no, .string x.o.key, nI x.o.kind, .string x.o.text, nI x.o.n, .bool x.o.remove, .slice (a1_0, c1_0).fst ((List.map eDot x.o.dots).length) c1_0] 24 (0, 0))]) (fun _ => [(0 : Int) ≤ i, i < (↑L.length : Int), cs1[off1 + i.toNat * (11 : Nat)]? = some (nI x.o.no), cs1[off1 + i.toNat * (11 : Nat) + (1 : Nat)]? = some (Value.string x.o.key), cs1[off1 + i.toNat * (11 : Nat) + (2 : Nat)]? = some (nI x.o.kind), cs1[off1 + i.toNat * (11 : Nat) + (3 : Nat)]? = some (Value.string x.o.text), cs1[off1 + i.toNat * (11 : Nat) + (4 : Nat)]? = some (nI x.o.n), cs1[off1 + i.toNat * (11 : Nat) + (5 : Nat)]? = some (Value.bool x.o.remove), cs1[off1 + i.toNat * (11 : Nat) + (6 : Nat)]? = some (Value.slice (a1_0, c1_0).fst (List.map eDot x.o.dots).length (a1_0, c1_0).snd), cs1[off1 + i.toNat * (11 : Nat) + (7 : Nat)]? = some (nI x.d.place), cs1[off1 + i.toNat * (11 : Nat) + (8 : Nat)]? = some (nI x.d.time), cs1[off1 + i.toNat * (11 : Nat) + (9 : Nat)]? = some (nI x.d.no), cs1[off1 + i.toNat * (11 : Nat) + (10 : Nat)]? = some (nI x.w)]) (fun _ => ⟨hi0, hlt2, hrd1_0, hrd1_1, hrd1_2, hrd1_3, hrd1_4, hrd1_5, hrd1_6, hrd1_7, hrd1_8, hrd1_9, hrd1_10, trivial⟩) (fun _ => ?_)
    refine JR_callp [] 71 #[.slice (some (⟨b1, off1, none⟩)) L.length c1, .agg #[.int .i64 x.o.no, .string x.o.key, .int .i64 x.o.kind, .string x.o.text, .int .i64 x.o.n, .bool x.o.remove, .slice (a1_0, c1_0).fst ((List.map eDot x.o.dots).length) c1_0, .int .i64 x.d.place, .int .i64 x.d.time, .int .i64 x.d.no, .int .i64 x.w]] (some 50) (by kernel_rfl) (fun w S hG => ?_)
    refine (rLive (x := x) (hG.at 1 rfl) (by omega) (fun y hy => (hfin y hy).2.2) rfl).mono ?_
    rintro e2 w2 hR
    refine ⟨_, _, _, hR, ?_⟩
    cases hlv : (!x.o.remove && !goneB L x.o.text x.d) with
    | false =>
     rw [hlv, if_neg (by decide), List.append_nil] at hsn
     try simp only [cAp, nAp, aNl]
     refine Gr (id := 14) (rest := []) [zR 6] [4, 5, 6, 7, 8, 9, 29] (fun _ => [zP 4 (nu1 0), zS 5 (sA b1 off1) L.length c1, zP 6 (nu2 0), zI 7 i, zP 8 (nu3 0), zB 9 false, zI 29 x.o.kind]) (fun _ => [(nu1 0, .cells #[nI 0, .string (ByteArray.mk #[]), nI 0, .slice none 0 0] 47 (0, 0)), (nu2 0, .cells #[nI x.o.kind, .string tx, nI m, .slice av mv cv] 47 (0, 0)), (nu3 0, .cells #[nI x.o.no, .string x.o.key, nI x.o.kind, .string x.o.text, nI x.o.n, .bool x.o.remove, .slice a1_0 ((List.map eDot x.o.dots).length) c1_0] 24 (0, 0))]) (fun _ => ?_)
     refine JR_end ?_
     refine Sq mixed [zR 0] [] [4, 5, 6, 7, 8, 9, 29, 51] (fun _ => [zP 4 (nu1 0), zS 5 (sA b1 off1) L.length c1, zP 6 (nu2 0), zI 7 i, zP 8 (nu3 0), zB 9 false, zI 29 x.o.kind, zB 51 false]) (fun _ => [(nu1 0, .cells #[nI 0, .string (ByteArray.mk #[]), nI 0, .slice none 0 0] 47 (0, 0)), (nu2 0, .cells #[nI x.o.kind, .string tx, nI m, .slice av mv cv] 47 (0, 0)), (nu3 0, .cells #[nI x.o.no, .string x.o.key, nI x.o.kind, .string x.o.text, nI x.o.n, .bool x.o.remove, .slice a1_0 ((List.map eDot x.o.dots).length) c1_0] 24 (0, 0))]) (fun _ => ?_)
     refine cF ?_
     refine J_skip ?_
     refine J_eb ?_
     refine J_eb ?_
     refine Gp mixed [zR 0, .rd 1 [] 0 1, zR 2] [] [4, 5, 6, 7, 8, 9, 29] (fun _ => [zP 4 (nu1 0), zS 5 (sA b1 off1) L.length c1, zP 6 (nu2 0), zI 7 (i + 1), zP 8 (nu3 0), zB 9 false, zI 29 x.o.kind]) (fun _ => [(nu1 0, .cells #[nI 0, .string (ByteArray.mk #[]), nI 0, .slice none 0 0] 47 (0, 0)), (nu2 0, .cells #[nI x.o.kind, .string tx, nI m, .slice av mv cv] 47 (0, 0)), (nu3 0, .cells #[nI x.o.no, .string x.o.key, nI x.o.kind, .string x.o.text, nI x.o.n, .bool x.o.remove, .slice a1_0 ((List.map eDot x.o.dots).length) c1_0] 24 (0, 0))]) (fun _ => [IntKind.i64.wrap (i + (1 : Int)) = i + (1 : Int)]) (fun _ => ⟨wrap_i64 (by omega) (by omega), trivial⟩) (fun _ => ?_)
     refine J_backx ⟨i + 1, x.o.kind, tx, m, st, _, _, _⟩ [4, 5, 6, 7] [0, 1] [0] [0, 1] ?_ ?_ (by kernel_rfl) rfl rfl rfl
     ·refine ⟨by simp only; omega, by simp only; omega, ?_, ?_, ?_, ?_, hg⟩
      ·dsimp only
       rw [if_neg hi1, h3, hxk]
      ·dsimp only
       rw [if_neg h1, htx]
      ·dsimp only
       rw [if_neg h2, hm]
      ·dsimp only
       rw [if_pos h3, hst, hsn]
     ·simp only
      omega
    | true =>
     rw [hlv, if_pos rfl] at hsn
     try simp only [cAp, nAp, aNl]
     refine Gr (id := 14) (rest := []) [zR 6] [4, 5, 6, 7, 8, 9, 29] (fun _ => [zP 4 (nu1 0), zS 5 (sA b1 off1) L.length c1, zP 6 (nu2 0), zI 7 i, zP 8 (nu3 0), zB 9 true, zI 29 x.o.kind]) (fun _ => [(nu1 0, .cells #[nI 0, .string (ByteArray.mk #[]), nI 0, .slice none 0 0] 47 (0, 0)), (nu2 0, .cells #[nI x.o.kind, .string tx, nI m, .slice av mv cv] 47 (0, 0)), (nu3 0, .cells #[nI x.o.no, .string x.o.key, nI x.o.kind, .string x.o.text, nI x.o.n, .bool x.o.remove, .slice a1_0 ((List.map eDot x.o.dots).length) c1_0] 24 (0, 0))]) (fun _ => ?_)
     refine JR_end ?_
     refine Sq mixed [zR 0] [] [4, 5, 6, 7, 8, 9, 29, 51] (fun _ => [zP 4 (nu1 0), zS 5 (sA b1 off1) L.length c1, zP 6 (nu2 0), zI 7 i, zP 8 (nu3 0), zB 9 true, zI 29 x.o.kind, zB 51 true]) (fun _ => [(nu1 0, .cells #[nI 0, .string (ByteArray.mk #[]), nI 0, .slice none 0 0] 47 (0, 0)), (nu2 0, .cells #[nI x.o.kind, .string tx, nI m, .slice av mv cv] 47 (0, 0)), (nu3 0, .cells #[nI x.o.no, .string x.o.key, nI x.o.kind, .string x.o.text, nI x.o.n, .bool x.o.remove, .slice a1_0 ((List.map eDot x.o.dots).length) c1_0] 24 (0, 0))]) (fun _ => ?_)
     refine cTt ?_
     refine J_stp (stp_rep 0 rfl) ?_
     refine J_norm (C' := []) (G' := [(.slice a n c, (D.sl 3 (List.map eCom l))), (.slice (some (⟨b1, off1, none⟩)) L.length c1, (D.sl 11 (List.map eDone L))), (.slice (a1_0, c1_0).fst ((List.map eDot x.o.dots).length) c1_0, (D.sl 3 (List.map eDot x.o.dots))), (.slice av mv cv, (dStrs st))]) (by kernel_rfl) (by kernel_rfl) ?_
     refine jB mixed [(0, true), (1, true), (2, true), (3, true), (4, false), (5, true), (6, false)] [] ?_
     refine Gr (id := 16) (rest := [(4, false), (5, true), (6, false)]) [zR 0, .rd 1 [.o 1 none] 0 0, zR 2, .rd 3 [.o 2 none] 0 0] [4, 5, 6, 7, 8, 9, 29, 53, 55] (fun _ => [zP 4 (nu1 0), zS 5 (sA b1 off1) L.length c1, zP 6 (nu2 0), zI 7 i, zP 8 (nu3 0), zB 9 true, zI 29 x.o.kind, zS 53 av mv cv, zV 55 (.string x.o.text)]) (fun _ => [(nu1 0, .cells #[nI 0, .string (ByteArray.mk #[]), nI 0, .slice none 0 0] 47 (0, 0)), (nu2 0, .cells #[nI x.o.kind, .string tx, nI m, .slice av mv cv] 47 (0, 0)), (nu3 0, .cells #[nI x.o.no, .string x.o.key, nI x.o.kind, .string x.o.text, nI x.o.n, .bool x.o.remove, .slice a1_0 ((List.map eDot x.o.dots).length) c1_0] 24 (0, 0))]) (fun _ => ?_)
     refine JR_callp [] 72 #[.slice av mv cv, .string x.o.text] (some 56) (by kernel_rfl) (fun w S hG => ?_)
     refine (rEnter (t := x.o.text) (hG.at 3 rfl) hsl hg).mono ?_
     rintro e3 w3 ⟨ua, un, uc, hR, hg2⟩
     refine ⟨_, _, _, hR, ?_⟩
     try simp only [cAp, nAp, aNl]
     refine Gr (id := 16) (rest := []) [zR 5, .wr 6 [.o 1 none] 0] [4, 5, 6, 7, 8, 9, 29] (fun _ => [zP 4 (nu1 0), zS 5 (sA b1 off1) L.length c1, zP 6 (nu2 0), zI 7 i, zP 8 (nu3 0), zB 9 true, zI 29 x.o.kind]) (fun _ => [(nu1 0, .cells #[nI 0, .string (ByteArray.mk #[]), nI 0, .slice none 0 0] 47 (0, 0)), (nu2 0, .cells #[nI x.o.kind, .string tx, nI m, .slice ua un uc] 47 (0, 0)), (nu3 0, .cells #[nI x.o.no, .string x.o.key, nI x.o.kind, .string x.o.text, nI x.o.n, .bool x.o.remove, .slice a1_0 ((List.map eDot x.o.dots).length) c1_0] 24 (0, 0))]) (fun _ => ?_)
     refine JR_end ?_
     refine J_eb ?_
     refine J_eb ?_
     refine Gp mixed [zR 0, .rd 1 [] 0 1, zR 2] [] [4, 5, 6, 7, 8, 9, 29] (fun _ => [zP 4 (nu1 0), zS 5 (sA b1 off1) L.length c1, zP 6 (nu2 0), zI 7 (i + 1), zP 8 (nu3 0), zB 9 true, zI 29 x.o.kind]) (fun _ => [(nu1 0, .cells #[nI 0, .string (ByteArray.mk #[]), nI 0, .slice none 0 0] 47 (0, 0)), (nu2 0, .cells #[nI x.o.kind, .string tx, nI m, .slice ua un uc] 47 (0, 0)), (nu3 0, .cells #[nI x.o.no, .string x.o.key, nI x.o.kind, .string x.o.text, nI x.o.n, .bool x.o.remove, .slice a1_0 ((List.map eDot x.o.dots).length) c1_0] 24 (0, 0))]) (fun _ => [IntKind.i64.wrap (i + (1 : Int)) = i + (1 : Int)]) (fun _ => ⟨wrap_i64 (by omega) (by omega), trivial⟩) (fun _ => ?_)
     refine J_stp (stp_keep 4 rfl) ?_
     refine J_norm (C' := [(cRep (Value.slice ua un uc) (dStrs (enterB st x.o.text)))]) (G' := [(.slice a n c, (D.sl 3 (List.map eCom l))), (.slice (some (⟨b1, off1, none⟩)) L.length c1, (D.sl 11 (List.map eDone L))), (.slice a1_0 ((List.map eDot x.o.dots).length) c1_0, (D.sl 3 (List.map eDot x.o.dots))), (.slice av mv cv, (dStrs st)), (.slice ua un uc, (dStrs (enterB st x.o.text)))]) (by kernel_rfl) (by kernel_rfl) ?_
     refine J_backx ⟨i + 1, x.o.kind, tx, m, enterB st x.o.text, _, _, _⟩ [4, 5, 6, 7] [0, 1] [0] [0, 1] ?_ ?_ (by kernel_rfl) rfl rfl rfl
     ·refine ⟨by simp only; omega, by simp only; omega, ?_, ?_, ?_, ?_, hg2⟩
      ·dsimp only
       rw [if_neg hi1, h3, hxk]
      ·dsimp only
       rw [if_neg h1, htx]
      ·dsimp only
       rw [if_neg h2, hm]
      ·dsimp only
       rw [if_pos h3, hst, hsn, List.map_append, setOf, setOf, List.foldl_append]
       rfl
     ·simp only
      omega
 ·have hil : L.take i.toNat = L := List.take_of_length_le (by simp at hlt; omega)
  rw [hil] at htx hm hst
  have hkK : kd = K := by
   rw [hkd2]
   split
   ·exact (hemp (List.length_eq_zero_iff.1 (by simp at hlt; omega))).symm
   ·rfl
  refine J_exit rfl ?_
  refine Sq mixed [.rd 0 [.o 1 none, .o 1 none, .o 1 none, .o 1 none] 0 0, .wr 1 [.o 0 none, .o 0 none, .o 0 none, .o 0 none] 0] [(1, [0])] [4] (fun _ => [zP 4 (nu1 0)]) (fun _ => [(nu1 0, .cells #[nI kd, .string tx, nI m, .slice av mv cv] 47 (0, 0)), (nu2 0, .cells #[nI kd, .string tx, nI m, .slice av mv cv] 47 (0, 0))]) (fun _ => ?_)
  refine J_return [[.o 0 none, .o 0 none, .o 0 none, .o 0 none]] (.agg #[.int .i64 kd, .string tx, .int .i64 m, .slice av mv cv]) (by kernel_rfl) (fun a w s => ?_)
  rw [← htx, ← hm, ← hst, ← hkK]
  exact ⟨_, _, _, (s.stp (stp_rep 0 rfl)).ret (by simp) [] [2] rfl rfl⟩
end Go.Proofs.YtpjkiomccpjboaaGreatDoor
end
