/- Part 14 of the texts of a claim: Copy Prune PruneP. -/
import Derived.Test.YtpjkiomccpjboaaGreatDoorTf13
section
namespace Go.Sx
open Go
structure CopyS where
 seen : Array Nat
 es : Array MapEntry
 clock : Nat
 ks : List ByteArray
 F : ByteArray → Value
end Go.Sx
namespace Go.Proofs.YtpjkiomccpjboaaGreatDoor
open Go Go.Sx
theorem acc_form {w : World} {S : Nat → Prop} {M : List Nat} {a : Option Addr} {n c e k : Nat} {rows : List (List D)} (hP : Pre w S M [cAcc (.slice a n c) e k rows]) (hne : rows ≠ []) : (∃ g, a = some ⟨g, 0, none⟩) ∧ n = rows.length := by
 obtain ⟨fps, hch, _⟩ := hP
 match fps, hch with
 | [fp], ⟨⟨_, h⟩, _⟩ =>
  rcases h with ⟨h, _⟩ | ⟨g, cap, cur, xs, h2, _⟩
  ·exact absurd h hne
  ·cases h2
   exact ⟨⟨g, rfl⟩, rfl⟩
 | [], h => exact h.elim
 | _ :: _ :: _, h => exact h.2.elim
theorem cloneComs {w : World} {S : Nat → Prop} {M : List Nat} {a : Option Addr} {n c : Nat} {xs : List ComT} (hP : Pre w S M [cAcc (.slice a n c) 28 3 (xs.map eCom)]) (hne : xs ≠ []) (hl : xs.length ≤ 1000000) :
  Calls Tryz.prog 82 #[.slice a n c] w fun e w' => ∃ a' c', Ret M w S w' e (.slice a' n c') [cAcc (.slice a n c) 28 3 (xs.map eCom), cAcc (.slice a' n c') 28 3 (xs.map eCom)] [] := by
 obtain ⟨⟨g, rfl⟩, hn⟩ := acc_form hP (by simpa using hne)
 rw [List.length_map] at hn
 subst hn
 refine en82 (args := [.slice (some ⟨g, 0, none⟩) xs.length c]) (S := S) (G := []) (by kernel_rfl) hP (.nil _ _) ?_
 refine Sq mixed [zR 0] [] [0, 2] (fun _ => [zS 0 (sA g 0) xs.length c, zS 2 none 0 0]) (fun _ => []) (fun _ => ?_)
 refine J_seq ?_
 refine Sq mixed [zR 0, zR 1] [] [0, 2, 4] (fun _ => [zS 0 (sA g 0) xs.length c, zS 2 none 0 0, zB 4 false]) (fun _ => []) (fun _ => ?_)
 refine cF ?_
 refine J_skip ?_
 refine J_seq ?_
 refine jB mixed [(0, false), (1, true), (2, false), (3, true)] [] ?_
 refine Gr (id := 3) (rest := [(2, false), (3, true)]) [.wr 0 [] 0, zR 1] [2, 5, 6] (fun nu1 => [zS 2 none 0 0, zS 5 (sA (nu1 0) 0) 0 0, zS 6 (sA g 0) xs.length c]) (fun nu1 => [(nu1 0, .cells #[] 28 (0, 0))]) (fun nu1 => ?_)
 refine JR_acczm eCom 0 3 rfl (by kernel_rfl) (by decide) ?_
 refine JR_appm 1 43 28 3 56 (.agg #[.slice none 0 0, .int .i64 0, .slice none 0 0]) (a0 := (some (⟨nu1 0, 0, none⟩))) (len := 0) (cap0 := 0) (ax := (some (⟨g, 0, none⟩))) (m := xs.length) (c := c) (dst := (some 7)) xs (by kernel_rfl) (by kernel_rfl) (by kernel_rfl) (by kernel_rfl) rfl (by decide) rfl (fun _ _ _ s => src_acc s 0 rfl) (by simp only [maxLen]; omega) (by omega) (fun av1 cv1 => ?_)
 rw [Nat.zero_add]
 try simp only [cAp, nAp, aNl]
 refine Gr (id := 3) (rest := []) [zR 3] [2] (fun _ => [zS 2 av1 xs.length cv1]) (fun _ => []) (fun _ => ?_)
 try simp only [cAp, nAp, aNl]
 refine JR_end ?_
 try simp only [cAp, nAp, aNl]
 refine J_return [[]] (.slice av1 xs.length cv1) (by kernel_rfl) (fun a w s => ?_)
 exact ⟨_, _, s.ret (by simp) [0, 1] [] rfl rfl⟩
theorem alloc_keep (w : World) (o : Obj) {b : Nat} (h : b < w.heap.size) : (w.alloc o).heap[b]? = w.heap[b]? := by
 show (w.heap.push o)[b]? = _
 rw [Array.getElem?_push_lt h, Array.getElem?_eq_getElem h]
theorem alloc_last (w : World) (o : Obj) : (w.alloc o).heap[w.heap.size]? = some o := by
 show (w.heap.push o)[w.heap.size]? = _
 simp
theorem cloneMap {w : World} {S : Nat → Prop} {M : List Nat} {md : Nat} {ok : Value → Prop} {f : Value → Option Value} (hP : Pre w S M [cMapG md ok f]) :
  Calls Tryz.prog 81 #[.map (some md)] w fun e w' => ∃ md', Ret M w S w' e (.map (some md')) [cMapG md ok f, cMapG md' ok f] [] := by
 obtain ⟨fps, hch, rfl, hnd, hM⟩ := hP
 match fps, hch with
 | [fp], ⟨⟨hfp, es, clock, hb, hm⟩, _⟩ =>
  subst hfp
  have hlt := (Array.getElem?_eq_some_iff.1 hb).1
  refine (AnyW.maps_Clone Tryz.cloneM md es clock w hb).mono ?_
  rintro e w' ⟨rfl, rfl⟩
  have hold : ∀ b, b < w.heap.size → (w.alloc (.map es clock)).heap[b]? = w.heap[b]? := fun b hb => alloc_keep w _ hb
  have hsz : (w.alloc (.map es clock)).heap.size = w.heap.size + 1 := by
   show (w.heap.push _).size = _
   simp
  refine ⟨w.heap.size, rfl, ⟨rfl, rfl, rfl, by rw [hsz]; omega, fun b hb2 _ => hold b hb2, Nat.le_refl _⟩, [[md], [w.heap.size]], ⟨⟨rfl, es, clock, (hold md hlt).trans hb, hm⟩, ⟨rfl, es, clock, alloc_last w _, hm⟩, trivial⟩, ?_, fun b hb2 => ?_, fun x hx => by cases hx⟩
  ·simp
   omega
  ·simp only [List.flatten_cons, List.flatten_nil, List.append_nil, List.cons_append, List.nil_append, List.mem_cons, List.not_mem_nil, or_false] at hb2
   rcases hb2 with rfl | rfl
   ·exact ⟨.inl (by simp), by rw [hsz]; omega⟩
   ·exact ⟨.inr (Nat.le_refl _), by rw [hsz]; omega⟩
 | [], h => exact h.elim
 | _ :: _ :: _, h => exact h.2.elim
theorem left_key {es : Array MapEntry} {ks : List ByteArray} {F : ByteArray → Value} (hm : MapG (MapKept.IsKey .string) es (strG ks F)) {x : MapEntry} (hx : x ∈ es.toList) : ∃ t, x.key = .string t ∧ t ∈ ks ∧ x.val = F t := by
 have h1 := hm.key x hx
 have h2 := hm.val x hx
 cases hq : x.key <;> rw [hq] at h1 h2 <;> simp only [MapKept.IsKey] at h1
 rename_i t
 by_cases ht : t ∈ ks
 ·rw [strG_in ht] at h2
  exact ⟨t, rfl, ht, (Option.some.inj h2).symm⟩
 ·rw [strG_out ht] at h2
  cases h2
theorem key_inj {l : List MapEntry} (hn : (l.map (·.key)).Nodup) {x e : MapEntry} (hx : x ∈ l) (he : e ∈ l) (h : x.key = e.key) : x = e := by
 obtain ⟨i, hi⟩ := List.getElem?_of_mem hx
 obtain ⟨j, hj⟩ := List.getElem?_of_mem he
 have hi2 : (l.map (·.key))[i]? = some x.key := by rw [List.getElem?_map, hi]; rfl
 have hj2 : (l.map (·.key))[j]? = some e.key := by rw [List.getElem?_map, hj]; rfl
 have hij : i = j := (List.getElem?_inj (List.getElem?_eq_some_iff.1 hi2).1 hn).1 (hi2.trans (by rw [hj2, h]))
 subst hij
 rw [hi] at hj
 exact Option.some.inj hj
theorem seen_step {es : Array MapEntry} {clock : Nat} {ks ks2 : List ByteArray} {F : ByteArray → Value} {seen : Array Nat} {en : MapEntry} {t : ByteArray} (hm : MapG (MapKept.IsKey .string) es (strG ks F)) (hst : MapKept.Stamped es clock) (hs : ∀ x ∈ es.toList, (seen.contains x.born = true ↔ keyB x.key ∈ ks2)) (he : en ∈ es.toList) (hk : en.key = .string t) :
  ∀ x ∈ es.toList, ((seen.push en.born).contains x.born = true ↔ keyB x.key ∈ ks2 ++ [t]) := fun x hx => by
 rw [contains_push, Bool.or_eq_true, hs x hx, List.mem_append, List.mem_singleton, beq_iff_eq]
 refine or_congr Iff.rfl ⟨fun h => ?_, fun h => ?_⟩
 ·rw [born_inj hst.2.1 hx he h, hk]
  rfl
 ·obtain ⟨s, hs, _⟩ := left_key hm hx
  rw [hs] at h
  have hst' : s = t := h
  rw [key_inj hst.2.2 hx he (by rw [hs, hk, hst'])]
set_option maxHeartbeats 4000000 in
theorem vCopy {w : World} {S : Nat → Prop} {M : List Nat} {b mk md : Nat} {ba : Option Addr} {p nb cb clock : Nat} {base : List Int} {es : Array MapEntry} {ks : List ByteArray} {F : ByteArray → Value} {L : List PutT}
  (hP : Pre w S M (chV b mk md ba p nb cb clock es ks F L))
  (hb : Rep w S (.slice ba nb cb) (dInts base)) (hbl : base.length ≤ 1000000) (hL : L.length ≤ 1000000)
  (hm : MapG (MapKept.IsKey .string) es (strG ks F)) (hst : MapKept.Stamped es clock) (hnd : ks.Nodup) (hiff : ∀ t, t ∈ ks ↔ keyC L t ≠ []) :
  Calls Tryz.prog 46 #[.pointer (some ⟨b, 0, none⟩)] w fun e w' => ∃ b2 mk2 md2 ua uc es2 clock2 ks2 F2, Ret M w S w' e (.pointer (some ⟨b2, 0, none⟩)) (chV b mk md ba p nb cb clock es ks F L ++ chV b2 mk2 md2 ua p nb uc clock2 es2 ks2 F2 L) [(.slice ua nb uc, dInts base)] ∧
   MapG (MapKept.IsKey .string) es2 (strG ks2 F2) ∧ MapKept.Stamped es2 clock2 ∧ ks2.Nodup ∧ ∀ t, t ∈ ks2 ↔ keyC L t ≠ [] := by
 have hkl := ks_len hm hnd
 refine en46 (args := [.pointer (some ⟨b, 0, none⟩)]) (S := S) (G := [(_, dInts base)]) (by kernel_rfl) hP (.cons hb (.nil _ _)) ?_
 refine J_show 0 rfl ?_
 refine J_show 0 rfl ?_
 refine Sq mixed [zR 0] [] [0, 2] (fun _ => [zP 0 b, zV 2 (.pointer none)]) (fun _ => [(b, .cells #[nI (↑p : Int), .slice ba nb cb, .map (some mk), .map (some md)] 133 (0, 0)), (mk, Obj.map es clock)]) (fun _ => ?_)
 refine J_seq ?_
 refine J_fork3 mixed [.rd 0 [] 0 0, .rd 1 [] 0 0, .rd 2 [] 0 0, .rd 3 [.o 0 none] 0 0, .rd 4 [] 0 0, .rd 5 [] 0 0, .rd 6 [] 0 0, .rd 7 [.o 0 none] 0 0, .rd 10 [] 0 0, .rd 11 [] 0 0, .rd 12 [] 0 0, .rd 13 [.o 0 none] 0 0] 8 9 [(9, false), (14, false), (15, true), (16, false), (17, true)] [(14, false), (9, false), (15, true), (16, false), (17, true)] [(8, false), (14, false), (15, true), (16, false), (17, true)] [(14, [])] [0, 2, 9, 13, 19] (E1 := fun _ => [(0, .val (.pointer (some (⟨b, 0, none⟩)))), (2, .val (.pointer none)), (9, .val (.int .i64 (↑p : Int))), (13, .val (.slice ba nb cb)), (19, .val (.map (some md)))]) (p1 := fun _ => []) (by kernel_rfl) (by kernel_rfl) (fun _ => by kernel_rfl) (fun _ => trivial) (fun _ => ?_) (fun _ => ?_)
 ·refine JR2_callp [] 80 #[.slice ba nb cb] (some 14) (by kernel_rfl) fun w S hG => ?_
  refine (cloneInts (hG.at 0 rfl) hbl).mono ?_
  rintro e1 w1 ⟨ua, uc, hR⟩
  refine ⟨_, _, _, hR, ?_, ?_⟩
  ·try simp only [List.cons_append, List.nil_append, List.append_nil]
   refine JR_run (id := 1) (rest := [(14, false), (15, true), (16, false), (17, true)]) [.wr 9 [] 0] [0, 2, 9, 14, 15, 19] (E1 := fun nu1 => [(0, .val (.pointer (some (⟨b, 0, none⟩)))), (2, .val (.pointer none)), (9, .val (.int .i64 (↑p : Int))), (14, .val (.slice ua nb uc)), (15, .val (.map (some (nu1 0)))), (19, .val (.map (some md)))]) (h1 := fun nu1 => [(b, .cells #[.int .i64 (↑p : Int), .slice ba nb cb, .map (some mk), .map (some md)] 133 (0, 0)), (mk, Obj.map es clock), (nu1 0, Obj.map #[] 0)]) (p1 := fun nu1 => []) (W1 := [(14, [])]) (fun _ => by kernel_rfl) (fun _ => trivial) (fun nu1 => ?_)
   try simp only [cAp, nAp, aNl]
   refine JR_call [] [1] 81 #[.map (some md)] (some 20) (by kernel_rfl) (by kernel_rfl) (by decide) (fun w S M hP hG _ => ?_)
   refine (cloneMap hP).mono ?_
   rintro e2 w2 ⟨md2, hR⟩
   refine ⟨_, _, _, hR, ?_⟩
   try simp only [cAp, nAp, aNl]
   refine Gr (id := 1) (rest := []) [zR 15, .wr 16 [] 0, zR 17] [0, 2, 3] (fun nu2 => [zP 0 b, zV 2 (.pointer none), zP 3 (nu2 0)]) (fun nu2 => [(b, .cells #[nI (↑p : Int), .slice ba nb cb, .map (some mk), .map (some md)] 133 (0, 0)), (mk, Obj.map es clock), (nu1 0, Obj.map #[] 0), (nu2 0, .cells #[nI (↑p : Int), .slice ua nb uc, .map (some (nu1 0)), .map (some md2)] 133 (0, 0))]) (fun nu2 => ?_)
   try simp only [cAp, nAp, aNl]
   refine JR_end ?_
   try simp only [cAp, nAp, aNl]
   refine J_seq ?_
   try simp only [cAp, nAp, aNl]
   refine J_seq ?_
   try simp only [cAp, nAp, aNl]
   refine J_stp (stp_freeze 1 rfl) ?_
   refine J_stp (stp_add (cStar (([] : List ByteArray).map fun t => cAcc ((fun _ : ByteArray => Value.nilIface) t) 28 3 ((keyC L t).map eCom))) star_nil) ?_
   refine J_norm (C' := [(cStar (List.map (fun t => cAcc (F t) 28 3 (List.map eCom (keyC L t))) ks)), (cMapG md okDot (dotSet (List.map dotP L))), (cMapG md2 okDot (dotSet (List.map dotP L))), (cStar (List.map (fun t => cAcc Value.nilIface 28 3 (List.map eCom (keyC L t))) []))]) (G' := [(.slice ba nb cb, (dInts base)), (.slice ua nb uc, (D.sl 1 (List.map eI base)))]) (by kernel_rfl) (by kernel_rfl) ?_
   refine jB mixed [(0, true), (1, true), (2, true), (3, true), (4, false)] [] ?_
   refine Gr (id := 2) (rest := [(4, false)]) [zR 0, zR 1, zR 2, .rd 3 [.o 0 none] 0 0] [2, 3, 26] (fun _ => [zV 2 (.pointer none), zP 3 (nu2 0), zV 26 (.map (some mk))]) (fun _ => [(b, .cells #[nI (↑p : Int), .slice ba nb cb, .map (some mk), .map (some md)] 133 (0, 0)), (mk, Obj.map es clock), (nu1 0, Obj.map #[] 0), (nu2 0, .cells #[nI (↑p : Int), .slice ua nb uc, .map (some (nu1 0)), .map (some md2)] 133 (0, 0))]) (fun _ => ?_)
   refine JR_range (.o 1 none) mk 130 9 43 (some 27) (by kernel_rfl) (by kernel_rfl) (by kernel_rfl) rfl (fun bi1 => ?_)
   refine JR_end ?_
   refine J_block ?_
   have hm0 : MapG (MapKept.IsKey .string) #[] (strG [] fun _ => .nilIface) := (MapG.empty _).congr fun k => (strG_nil _ k).symm
   refine J_loopx (fun y : CopyS => [zV 2 (.pointer none), zP 3 (nu2 0), zP 27 bi1]) (fun y : CopyS => [(b, .cells #[nI (↑p : Int), .slice ba nb cb, .map (some mk), .map (some md)] 133 (0, 0)), (mk, Obj.map es clock), (nu1 0, .map y.es y.clock), (nu2 0, .cells #[nI (↑p : Int), .slice ua nb uc, .map (some (nu1 0)), .map (some md2)] 133 (0, 0)), (bi1, .mapIter (some mk) clock y.seen clock)]) (fun y : CopyS => [cStar (ks.map fun t => cAcc (F t) 28 3 ((keyC L t).map eCom)), cMapG md okDot (dotSet (L.map dotP)), cMapG md2 okDot (dotSet (L.map dotP)), cStar (y.ks.map fun t => cAcc (y.F t) 28 3 ((keyC L t).map eCom))]) (fun y : CopyS => [(.slice ba nb cb, (dInts base)), (.slice ua nb uc, (D.sl 1 (List.map eI base)))]) (fun y : CopyS => (leftOf es y.seen).size) (fun y : CopyS => (MapG (MapKept.IsKey .string) y.es (strG y.ks y.F) ∧ MapKept.Stamped y.es y.clock ∧ y.ks.Nodup ∧ (∀ t ∈ y.ks, t ∈ ks) ∧ ∀ x ∈ es.toList, (y.seen.contains x.born = true ↔ keyB x.key ∈ y.ks))) ⟨#[], #[], 0, [], fun _ => .nilIface⟩ [2, 3, 27] [0, 1, 2, 3, 4] [0, 1, 2, 3] [0, 1] ?_ (by kernel_rfl) rfl rfl rfl ?_
   ·exact ⟨hm0, MapKept.stamped_empty 0, by simp, by simp, by simp⟩
   rintro ⟨seen, es2, clock2, ks2, F2⟩ ⟨hm2, hst2, hnd2, hsub, hseen⟩
   dsimp only at hm2 hst2 hnd2 hsub hseen ⊢
   refine J_seq ?_
   refine jB mixed [(0, false), (1, true)] [] ?_
   refine JR_next 4 _ (.o 1 none) _ (some 28) (by kernel_rfl) (by kernel_rfl) rfl rfl hst.1 (Nat.le_refl _) (fun hleft => ?_) (fun en hen => ?_)
   ·have hall := all_seen es seen hleft
    have hiff2 : ∀ t, t ∈ ks2 ↔ keyC L t ≠ [] := fun t => by
     rw [← hiff t]
     refine ⟨hsub t, fun ht => ?_⟩
     obtain ⟨x, hx, rfl⟩ := List.mem_map.1 (hkl.mem_iff.2 ht)
     exact (hseen x hx).1 (hall x hx)
    refine Gr (id := 3) (rest := []) [zR 1] [2, 3, 27, 29] (fun _ => [zV 2 (.pointer none), zP 3 (nu2 0), zP 27 bi1, zB 29 false]) (fun _ => [(b, .cells #[nI (↑p : Int), .slice ba nb cb, .map (some mk), .map (some md)] 133 (0, 0)), (mk, Obj.map es clock), (nu1 0, Obj.map es2 clock2), (nu2 0, .cells #[nI (↑p : Int), .slice ua nb uc, .map (some (nu1 0)), .map (some md2)] 133 (0, 0)), (bi1, Obj.mapIter (some mk) clock seen clock)]) (fun _ => ?_)
    refine JR_end ?_
    refine J_seq ?_
    refine cF ?_
    refine J_exit rfl ?_
    refine Sq mixed [zR 0, zR 1] [] [2] (fun _ => [zP 2 (nu2 0)]) (fun _ => [(b, .cells #[nI (↑p : Int), .slice ba nb cb, .map (some mk), .map (some md)] 133 (0, 0)), (mk, Obj.map es clock), (nu1 0, Obj.map es2 clock2), (nu2 0, .cells #[nI (↑p : Int), .slice ua nb uc, .map (some (nu1 0)), .map (some md2)] 133 (0, 0)), (bi1, Obj.mapIter (some mk) clock seen clock)]) (fun _ => ?_)
    refine J_return [[]] (.pointer (some (⟨nu2 0, 0, none⟩))) (by kernel_rfl) (fun a w s => ?_)
    exact ⟨_, _, _, _, _, _, _, ks2, F2, ((((s.hide 0 rfl).hide 0 rfl).hide 0 rfl).hide 0 rfl).ret (by simp) [4, 5, 0, 1, 7, 6, 3, 2] [1] rfl rfl, hm2, hst2, hnd2, hiff2⟩
   ·obtain ⟨hes, hns⟩ := mem_left hen
    obtain ⟨t, hk, ht, hv⟩ := left_key hm hes
    obtain ⟨i, hit⟩ := List.getElem?_of_mem ht
    have hshr := left_shrinks es seen en hen
    have ht2 : t ∉ ks2 := fun h => by
     have := (hseen en hes).2 (by rw [hk]; exact h)
     rw [hns] at this
     cases this
    have hseen2 := seen_step hm hst hseen hes hk
    rw [hk, hv]
    refine Gr (id := 3) (rest := []) [zR 1] [2, 3, 27, 29] (fun _ => [zV 2 (.pointer none), zP 3 (nu2 0), zP 27 bi1, zB 29 true]) (fun _ => [(b, .cells #[nI (↑p : Int), .slice ba nb cb, .map (some mk), .map (some md)] 133 (0, 0)), (mk, Obj.map es clock), (nu1 0, Obj.map es2 clock2), (nu2 0, .cells #[nI (↑p : Int), .slice ua nb uc, .map (some (nu1 0)), .map (some md2)] 133 (0, 0)), (bi1, Obj.mapIter (some mk) clock (seen.push en.born) clock)]) (fun _ => ?_)
    refine JR_end ?_
    refine J_seq ?_
    refine cTt ?_
    refine J_skip ?_
    refine J_block ?_
    refine J_seq ?_
    refine jB mixed [(0, false), (1, true), (2, true), (3, true), (4, true)] [] ?_
    refine JR_entry (.o 4 none) (.o 1 none) _ _ (some 30) (by kernel_rfl) rfl rfl hes hst.2.1 ?_
    rw [hk, hv]
    refine Gr (id := 4) (rest := []) [zR 1, zR 2, zR 3, zR 4] [2, 3, 4, 5, 27] (fun _ => [zV 2 (.pointer none), zP 3 (nu2 0), zV 4 (.string t), zV 5 (F t), zP 27 bi1]) (fun _ => [(b, .cells #[nI (↑p : Int), .slice ba nb cb, .map (some mk), .map (some md)] 133 (0, 0)), (mk, Obj.map es clock), (nu1 0, Obj.map es2 clock2), (nu2 0, .cells #[nI (↑p : Int), .slice ua nb uc, .map (some (nu1 0)), .map (some md2)] 133 (0, 0)), (bi1, Obj.mapIter (some mk) clock (seen.push en.born) clock)]) (fun _ => ?_)
    refine JR_end ?_
    refine J_stp (stp_take (c := cAcc (F t) 28 3 ((keyC L t).map eCom)) 0 i rfl (by rw [List.getElem?_map, hit]; rfl)) ?_
    refine J_stpx (stp_accform 3 rfl) fun y hF => ?_
    obtain ⟨av, nv, cv⟩ := y
    obtain ⟨hF, hn⟩ := hF
    dsimp only at hF hn
    rw [hF]
    have hkc := keyC_len L t
    refine J_norm (C' := [(cMapG md okDot (dotSet (List.map dotP L))), (cMapG md2 okDot (dotSet (List.map dotP L))), (cStar (List.map (fun t => cAcc (F2 t) 28 3 (List.map eCom (keyC L t))) ks2)), cAcc (.slice av nv cv) 28 3 (List.map eCom (keyC L t)), (cStar ((List.map (fun t => cAcc (F t) 28 3 (List.map eCom (keyC L t))) ks).eraseIdx i))]) (G' := [(.slice ba nb cb, (dInts base)), (.slice ua nb uc, (D.sl 1 (List.map eI base)))]) (by kernel_rfl) (by kernel_rfl) ?_
    refine jB mixed [(0, true), (1, true), (2, true), (3, true), (4, true), (5, true), (6, false), (7, false)] [(6, []), (7, [2])] ?_
    refine JR_run (id := 5) (rest := [(6, false), (7, false)]) [.rd 0 [] 0 0, .rd 1 [] 0 0, .rd 2 [] 0 0, .rd 3 [.o 3 none] 0 0, .rd 4 [] 0 0, .rd 5 [] 0 0] [2, 3, 4, 5, 27, 36, 37, 38] (E1 := fun _ => [(2, .val (.pointer none)), (3, .val (.pointer (some (⟨nu2 0, 0, none⟩)))), (4, .val (.string t)), (5, .val (.slice av nv cv)), (27, .val (.pointer (some (⟨bi1, 0, none⟩)))), (36, .val (.map (some (nu1 0)))), (37, .val (.string t)), (38, .val (.slice av nv cv))]) (h1 := fun _ => [(b, .cells #[.int .i64 (↑p : Int), .slice ba nb cb, .map (some mk), .map (some md)] 133 (0, 0)), (mk, Obj.map es clock), (nu1 0, Obj.map es2 clock2), (nu2 0, .cells #[.int .i64 (↑p : Int), .slice ua nb uc, .map (some (nu1 0)), .map (some md2)] 133 (0, 0)), (bi1, Obj.mapIter (some mk) clock (seen.push en.born) clock)]) (p1 := fun _ => []) (W1 := [(6, []), (7, [2])]) (fun _ => by kernel_rfl) (fun _ => trivial) (fun _ => ?_)
    refine JR_call [] [3] 82 #[.slice av nv cv] (some 39) (by kernel_rfl) (by kernel_rfl) (by decide) (fun w S M hP hG _ => ?_)
    refine (cloneComs (xs := keyC L t) hP ((hiff t).1 ht) (by omega)).mono ?_
    rintro e3 w3 ⟨a3, c3, hR⟩
    refine ⟨_, _, _, hR, ?_⟩
    try simp only [cAp, nAp, aNl]
    refine JRg_puts 2 (nu1 0) 130 9 43 (MapKept.IsKey TypeDesc.string) (.string t) (.slice a3 nv c3) none (by kernel_rfl) (by kernel_rfl) (by kernel_rfl) keyOk_9 (by first | exact ⟨_, _, _, rfl⟩ | simp [MapKept.IsKey]) rfl hm2 (fun es3 clock3 hm3 hsz3 hst3 => ?_)
    try simp only [cAp, nAp, aNl]
    refine JR_end ?_
    try simp only [cAp, nAp, aNl]
    refine J_eb ?_
    try simp only [cAp, nAp, aNl]
    refine J_norm (C' := [(cMapG md okDot (dotSet (List.map dotP L))), (cMapG md2 okDot (dotSet (List.map dotP L))), (cStar (List.map (fun t => cAcc (F2 t) 28 3 (List.map eCom (keyC L t))) ks2)), (cStar ((List.map (fun t => cAcc (F t) 28 3 (List.map eCom (keyC L t))) ks).eraseIdx i)), cAcc (.slice av nv cv) 28 3 (List.map eCom (keyC L t)), cAcc (.slice a3 nv c3) 28 3 (List.map eCom (keyC L t))]) (G' := [(.slice ba nb cb, (dInts base)), (.slice ua nb uc, (D.sl 1 (List.map eI base)))]) (by kernel_rfl) (by kernel_rfl) ?_
    have hE1 : (ks.map fun t => cAcc (F t) 28 3 ((keyC L t).map eCom))[i]? = some (cAcc (.slice av nv cv) 28 3 ((keyC L t).map eCom)) := by
     rw [List.getElem?_map, hit]
     show some (cAcc (F t) _ 3 _) = _
     rw [hF]
    refine J_stp (stp_join 4 3 i (cs' := ks.map fun t => cAcc (F t) 28 3 ((keyC L t).map eCom)) rfl rfl (by decide) hE1 rfl) ?_
    have hE2 := map_new (t := t) (Q := fun s => cAcc (F2 s) 28 3 ((keyC L s).map eCom)) (Q' := fun s => cAcc (upd F2 t (.slice a3 nv c3) s) 28 3 ((keyC L s).map eCom)) (ks := ks2) fun s hs => by
     have hne : s ≠ t := fun he => ht2 (he ▸ hs)
     show cAcc (upd F2 t (.slice a3 nv c3) s) _ 3 _ = cAcc (F2 s) _ 3 _
     rw [upd_ne _ _ hne]
    refine J_norm (C' := [(cMapG md okDot (dotSet (List.map dotP L))), (cMapG md2 okDot (dotSet (List.map dotP L))), (cStar (List.map (fun t => cAcc (F2 t) 28 3 (List.map eCom (keyC L t))) ks2)), cAcc (.slice a3 nv c3) 28 3 (List.map eCom (keyC L t)), (cStar (List.map (fun t => cAcc (F t) 28 3 (List.map eCom (keyC L t))) ks))]) (G' := [(.slice ba nb cb, (dInts base)), (.slice ua nb uc, (D.sl 1 (List.map eI base)))]) (by kernel_rfl) (by kernel_rfl) ?_
    refine J_stp (stp_join 3 2 ks2.length (cs' := (ks2 ++ [t]).map fun s => cAcc (upd F2 t (.slice a3 nv c3) s) 28 3 ((keyC L s).map eCom)) rfl rfl (by decide) (by
     rw [List.getElem?_map, show (ks2 ++ [t])[ks2.length]? = some t by simp]
     show some (cAcc (upd F2 t (.slice a3 nv c3) t) _ 3 _) = _
     rw [upd_at]) hE2) ?_
    refine J_norm (C' := [(cMapG md okDot (dotSet (List.map dotP L))), (cMapG md2 okDot (dotSet (List.map dotP L))), (cStar (List.map (fun t => cAcc (F t) 28 3 (List.map eCom (keyC L t))) ks)), (cStar (List.map (fun s => cAcc (upd F2 t (Value.slice a3 nv c3) s) 28 3 (List.map eCom (keyC L s))) (ks2 ++ [t])))]) (G' := [(.slice ba nb cb, (dInts base)), (.slice ua nb uc, (D.sl 1 (List.map eI base)))]) (by kernel_rfl) (by kernel_rfl) ?_
    refine J_backx ⟨seen.push en.born, _, _, ks2 ++ [t], upd F2 t (.slice a3 nv c3)⟩ [2, 3, 27] [0, 1, 2, 3, 4] [2, 0, 1, 3] [0, 1] ?_ ?_ (by kernel_rfl) rfl rfl rfl
    ·refine ⟨hm3.congr (strG_new ht2), hst3 hst2, List.nodup_append.2 ⟨hnd2, by simp, fun a ha b hb => ?_⟩, fun s hs => ?_, hseen2⟩
     ·rw [List.mem_singleton] at hb
      subst hb
      exact fun he => ht2 (by rw [← he]; exact ha)
     ·rcases List.mem_append.1 hs with hs | hs
      ·exact hsub s hs
      ·rw [List.mem_singleton.1 hs]
       exact ht
    ·exact hshr
  ·refine JR_call [] [1] 81 #[.map (some md)] (some 20) (by kernel_rfl) (by kernel_rfl) (by decide) (fun w S M hP hG _ => ?_)
   refine (cloneMap hP).mono ?_
   rintro e2 w2 ⟨md2, hR⟩
   refine ⟨_, _, _, hR, ?_⟩
   try simp only [cAp, nAp, aNl]
   refine Gr (id := 1) (rest := []) [.wr 9 [] 0, zR 15, .wr 16 [] 0, zR 17] [0, 2, 3] (fun nu1 => [zP 0 b, zV 2 (.pointer none), zP 3 (nu1 1)]) (fun nu1 => [(b, .cells #[nI (↑p : Int), .slice ba nb cb, .map (some mk), .map (some md)] 133 (0, 0)), (mk, Obj.map es clock), (nu1 0, Obj.map #[] 0), (nu1 1, .cells #[nI (↑p : Int), .slice ua nb uc, .map (some (nu1 0)), .map (some md2)] 133 (0, 0))]) (fun nu1 => ?_)
   try simp only [cAp, nAp, aNl]
   refine JR_end ?_
   try simp only [cAp, nAp, aNl]
   refine J_seq ?_
   try simp only [cAp, nAp, aNl]
   refine J_seq ?_
   try simp only [cAp, nAp, aNl]
   refine J_stp (stp_freeze 1 rfl) ?_
   refine J_stp (stp_add (cStar (([] : List ByteArray).map fun t => cAcc ((fun _ : ByteArray => Value.nilIface) t) 28 3 ((keyC L t).map eCom))) star_nil) ?_
   refine J_norm (C' := [(cStar (List.map (fun t => cAcc (F t) 28 3 (List.map eCom (keyC L t))) ks)), (cMapG md okDot (dotSet (List.map dotP L))), (cMapG md2 okDot (dotSet (List.map dotP L))), (cStar (List.map (fun t => cAcc Value.nilIface 28 3 (List.map eCom (keyC L t))) []))]) (G' := [(.slice ba nb cb, (dInts base)), (.slice ua nb uc, (D.sl 1 (List.map eI base)))]) (by kernel_rfl) (by kernel_rfl) ?_
   refine jB mixed [(0, true), (1, true), (2, true), (3, true), (4, false)] [] ?_
   refine Gr (id := 2) (rest := [(4, false)]) [zR 0, zR 1, zR 2, .rd 3 [.o 0 none] 0 0] [2, 3, 26] (fun _ => [zV 2 (.pointer none), zP 3 (nu1 1), zV 26 (.map (some mk))]) (fun _ => [(b, .cells #[nI (↑p : Int), .slice ba nb cb, .map (some mk), .map (some md)] 133 (0, 0)), (mk, Obj.map es clock), (nu1 0, Obj.map #[] 0), (nu1 1, .cells #[nI (↑p : Int), .slice ua nb uc, .map (some (nu1 0)), .map (some md2)] 133 (0, 0))]) (fun _ => ?_)
   refine JR_range (.o 1 none) mk 130 9 43 (some 27) (by kernel_rfl) (by kernel_rfl) (by kernel_rfl) rfl (fun bi1 => ?_)
   refine JR_end ?_
   refine J_block ?_
   have hm0 : MapG (MapKept.IsKey .string) #[] (strG [] fun _ => .nilIface) := (MapG.empty _).congr fun k => (strG_nil _ k).symm
   refine J_loopx (fun y : CopyS => [zV 2 (.pointer none), zP 3 (nu1 1), zP 27 bi1]) (fun y : CopyS => [(b, .cells #[nI (↑p : Int), .slice ba nb cb, .map (some mk), .map (some md)] 133 (0, 0)), (mk, Obj.map es clock), (nu1 0, .map y.es y.clock), (nu1 1, .cells #[nI (↑p : Int), .slice ua nb uc, .map (some (nu1 0)), .map (some md2)] 133 (0, 0)), (bi1, .mapIter (some mk) clock y.seen clock)]) (fun y : CopyS => [cStar (ks.map fun t => cAcc (F t) 28 3 ((keyC L t).map eCom)), cMapG md okDot (dotSet (L.map dotP)), cMapG md2 okDot (dotSet (L.map dotP)), cStar (y.ks.map fun t => cAcc (y.F t) 28 3 ((keyC L t).map eCom))]) (fun y : CopyS => [(.slice ba nb cb, (dInts base)), (.slice ua nb uc, (D.sl 1 (List.map eI base)))]) (fun y : CopyS => (leftOf es y.seen).size) (fun y : CopyS => (MapG (MapKept.IsKey .string) y.es (strG y.ks y.F) ∧ MapKept.Stamped y.es y.clock ∧ y.ks.Nodup ∧ (∀ t ∈ y.ks, t ∈ ks) ∧ ∀ x ∈ es.toList, (y.seen.contains x.born = true ↔ keyB x.key ∈ y.ks))) ⟨#[], #[], 0, [], fun _ => .nilIface⟩ [2, 3, 27] [0, 1, 2, 3, 4] [0, 1, 2, 3] [0, 1] ?_ (by kernel_rfl) rfl rfl rfl ?_
   ·exact ⟨hm0, MapKept.stamped_empty 0, by simp, by simp, by simp⟩
   rintro ⟨seen, es2, clock2, ks2, F2⟩ ⟨hm2, hst2, hnd2, hsub, hseen⟩
   dsimp only at hm2 hst2 hnd2 hsub hseen ⊢
   refine J_seq ?_
   refine jB mixed [(0, false), (1, true)] [] ?_
   refine JR_next 4 _ (.o 1 none) _ (some 28) (by kernel_rfl) (by kernel_rfl) rfl rfl hst.1 (Nat.le_refl _) (fun hleft => ?_) (fun en hen => ?_)
   ·have hall := all_seen es seen hleft
    have hiff2 : ∀ t, t ∈ ks2 ↔ keyC L t ≠ [] := fun t => by
     rw [← hiff t]
     refine ⟨hsub t, fun ht => ?_⟩
     obtain ⟨x, hx, rfl⟩ := List.mem_map.1 (hkl.mem_iff.2 ht)
     exact (hseen x hx).1 (hall x hx)
    refine Gr (id := 3) (rest := []) [zR 1] [2, 3, 27, 29] (fun _ => [zV 2 (.pointer none), zP 3 (nu1 1), zP 27 bi1, zB 29 false]) (fun _ => [(b, .cells #[nI (↑p : Int), .slice ba nb cb, .map (some mk), .map (some md)] 133 (0, 0)), (mk, Obj.map es clock), (nu1 0, Obj.map es2 clock2), (nu1 1, .cells #[nI (↑p : Int), .slice ua nb uc, .map (some (nu1 0)), .map (some md2)] 133 (0, 0)), (bi1, Obj.mapIter (some mk) clock seen clock)]) (fun _ => ?_)
    refine JR_end ?_
    refine J_seq ?_
    refine cF ?_
    refine J_exit rfl ?_
    refine Sq mixed [zR 0, zR 1] [] [2] (fun _ => [zP 2 (nu1 1)]) (fun _ => [(b, .cells #[nI (↑p : Int), .slice ba nb cb, .map (some mk), .map (some md)] 133 (0, 0)), (mk, Obj.map es clock), (nu1 0, Obj.map es2 clock2), (nu1 1, .cells #[nI (↑p : Int), .slice ua nb uc, .map (some (nu1 0)), .map (some md2)] 133 (0, 0)), (bi1, Obj.mapIter (some mk) clock seen clock)]) (fun _ => ?_)
    refine J_return [[]] (.pointer (some (⟨nu1 1, 0, none⟩))) (by kernel_rfl) (fun a w s => ?_)
    exact ⟨_, _, _, _, _, _, _, ks2, F2, ((((s.hide 0 rfl).hide 0 rfl).hide 0 rfl).hide 0 rfl).ret (by simp) [4, 5, 0, 1, 7, 6, 3, 2] [1] rfl rfl, hm2, hst2, hnd2, hiff2⟩
   ·obtain ⟨hes, hns⟩ := mem_left hen
    obtain ⟨t, hk, ht, hv⟩ := left_key hm hes
    obtain ⟨i, hit⟩ := List.getElem?_of_mem ht
    have hshr := left_shrinks es seen en hen
    have ht2 : t ∉ ks2 := fun h => by
     have := (hseen en hes).2 (by rw [hk]; exact h)
     rw [hns] at this
     cases this
    have hseen2 := seen_step hm hst hseen hes hk
    rw [hk, hv]
    refine Gr (id := 3) (rest := []) [zR 1] [2, 3, 27, 29] (fun _ => [zV 2 (.pointer none), zP 3 (nu1 1), zP 27 bi1, zB 29 true]) (fun _ => [(b, .cells #[nI (↑p : Int), .slice ba nb cb, .map (some mk), .map (some md)] 133 (0, 0)), (mk, Obj.map es clock), (nu1 0, Obj.map es2 clock2), (nu1 1, .cells #[nI (↑p : Int), .slice ua nb uc, .map (some (nu1 0)), .map (some md2)] 133 (0, 0)), (bi1, Obj.mapIter (some mk) clock (seen.push en.born) clock)]) (fun _ => ?_)
    refine JR_end ?_
    refine J_seq ?_
    refine cTt ?_
    refine J_skip ?_
    refine J_block ?_
    refine J_seq ?_
    refine jB mixed [(0, false), (1, true), (2, true), (3, true), (4, true)] [] ?_
    refine JR_entry (.o 4 none) (.o 1 none) _ _ (some 30) (by kernel_rfl) rfl rfl hes hst.2.1 ?_
    rw [hk, hv]
    refine Gr (id := 4) (rest := []) [zR 1, zR 2, zR 3, zR 4] [2, 3, 4, 5, 27] (fun _ => [zV 2 (.pointer none), zP 3 (nu1 1), zV 4 (.string t), zV 5 (F t), zP 27 bi1]) (fun _ => [(b, .cells #[nI (↑p : Int), .slice ba nb cb, .map (some mk), .map (some md)] 133 (0, 0)), (mk, Obj.map es clock), (nu1 0, Obj.map es2 clock2), (nu1 1, .cells #[nI (↑p : Int), .slice ua nb uc, .map (some (nu1 0)), .map (some md2)] 133 (0, 0)), (bi1, Obj.mapIter (some mk) clock (seen.push en.born) clock)]) (fun _ => ?_)
    refine JR_end ?_
    refine J_stp (stp_take (c := cAcc (F t) 28 3 ((keyC L t).map eCom)) 0 i rfl (by rw [List.getElem?_map, hit]; rfl)) ?_
    refine J_stpx (stp_accform 3 rfl) fun y hF => ?_
    obtain ⟨av, nv, cv⟩ := y
    obtain ⟨hF, hn⟩ := hF
    dsimp only at hF hn
    rw [hF]
    have hkc := keyC_len L t
    refine J_norm (C' := [(cMapG md okDot (dotSet (List.map dotP L))), (cMapG md2 okDot (dotSet (List.map dotP L))), (cStar (List.map (fun t => cAcc (F2 t) 28 3 (List.map eCom (keyC L t))) ks2)), cAcc (.slice av nv cv) 28 3 (List.map eCom (keyC L t)), (cStar ((List.map (fun t => cAcc (F t) 28 3 (List.map eCom (keyC L t))) ks).eraseIdx i))]) (G' := [(.slice ba nb cb, (dInts base)), (.slice ua nb uc, (D.sl 1 (List.map eI base)))]) (by kernel_rfl) (by kernel_rfl) ?_
    refine jB mixed [(0, true), (1, true), (2, true), (3, true), (4, true), (5, true), (6, false), (7, false)] [(6, []), (7, [2])] ?_
    refine JR_run (id := 5) (rest := [(6, false), (7, false)]) [.rd 0 [] 0 0, .rd 1 [] 0 0, .rd 2 [] 0 0, .rd 3 [.o 3 none] 0 0, .rd 4 [] 0 0, .rd 5 [] 0 0] [2, 3, 4, 5, 27, 36, 37, 38] (E1 := fun _ => [(2, .val (.pointer none)), (3, .val (.pointer (some (⟨nu1 1, 0, none⟩)))), (4, .val (.string t)), (5, .val (.slice av nv cv)), (27, .val (.pointer (some (⟨bi1, 0, none⟩)))), (36, .val (.map (some (nu1 0)))), (37, .val (.string t)), (38, .val (.slice av nv cv))]) (h1 := fun _ => [(b, .cells #[.int .i64 (↑p : Int), .slice ba nb cb, .map (some mk), .map (some md)] 133 (0, 0)), (mk, Obj.map es clock), (nu1 0, Obj.map es2 clock2), (nu1 1, .cells #[.int .i64 (↑p : Int), .slice ua nb uc, .map (some (nu1 0)), .map (some md2)] 133 (0, 0)), (bi1, Obj.mapIter (some mk) clock (seen.push en.born) clock)]) (p1 := fun _ => []) (W1 := [(6, []), (7, [2])]) (fun _ => by kernel_rfl) (fun _ => trivial) (fun _ => ?_)
    refine JR_call [] [3] 82 #[.slice av nv cv] (some 39) (by kernel_rfl) (by kernel_rfl) (by decide) (fun w S M hP hG _ => ?_)
    refine (cloneComs (xs := keyC L t) hP ((hiff t).1 ht) (by omega)).mono ?_
    rintro e3 w3 ⟨a3, c3, hR⟩
    refine ⟨_, _, _, hR, ?_⟩
    try simp only [cAp, nAp, aNl]
    refine JRg_puts 2 (nu1 0) 130 9 43 (MapKept.IsKey TypeDesc.string) (.string t) (.slice a3 nv c3) none (by kernel_rfl) (by kernel_rfl) (by kernel_rfl) keyOk_9 (by first | exact ⟨_, _, _, rfl⟩ | simp [MapKept.IsKey]) rfl hm2 (fun es3 clock3 hm3 hsz3 hst3 => ?_)
    try simp only [cAp, nAp, aNl]
    refine JR_end ?_
    try simp only [cAp, nAp, aNl]
    refine J_eb ?_
    try simp only [cAp, nAp, aNl]
    refine J_norm (C' := [(cMapG md okDot (dotSet (List.map dotP L))), (cMapG md2 okDot (dotSet (List.map dotP L))), (cStar (List.map (fun t => cAcc (F2 t) 28 3 (List.map eCom (keyC L t))) ks2)), (cStar ((List.map (fun t => cAcc (F t) 28 3 (List.map eCom (keyC L t))) ks).eraseIdx i)), cAcc (.slice av nv cv) 28 3 (List.map eCom (keyC L t)), cAcc (.slice a3 nv c3) 28 3 (List.map eCom (keyC L t))]) (G' := [(.slice ba nb cb, (dInts base)), (.slice ua nb uc, (D.sl 1 (List.map eI base)))]) (by kernel_rfl) (by kernel_rfl) ?_
    have hE1 : (ks.map fun t => cAcc (F t) 28 3 ((keyC L t).map eCom))[i]? = some (cAcc (.slice av nv cv) 28 3 ((keyC L t).map eCom)) := by
     rw [List.getElem?_map, hit]
     show some (cAcc (F t) _ 3 _) = _
     rw [hF]
    refine J_stp (stp_join 4 3 i (cs' := ks.map fun t => cAcc (F t) 28 3 ((keyC L t).map eCom)) rfl rfl (by decide) hE1 rfl) ?_
    have hE2 := map_new (t := t) (Q := fun s => cAcc (F2 s) 28 3 ((keyC L s).map eCom)) (Q' := fun s => cAcc (upd F2 t (.slice a3 nv c3) s) 28 3 ((keyC L s).map eCom)) (ks := ks2) fun s hs => by
     have hne : s ≠ t := fun he => ht2 (he ▸ hs)
     show cAcc (upd F2 t (.slice a3 nv c3) s) _ 3 _ = cAcc (F2 s) _ 3 _
     rw [upd_ne _ _ hne]
    refine J_norm (C' := [(cMapG md okDot (dotSet (List.map dotP L))), (cMapG md2 okDot (dotSet (List.map dotP L))), (cStar (List.map (fun t => cAcc (F2 t) 28 3 (List.map eCom (keyC L t))) ks2)), cAcc (.slice a3 nv c3) 28 3 (List.map eCom (keyC L t)), (cStar (List.map (fun t => cAcc (F t) 28 3 (List.map eCom (keyC L t))) ks))]) (G' := [(.slice ba nb cb, (dInts base)), (.slice ua nb uc, (D.sl 1 (List.map eI base)))]) (by kernel_rfl) (by kernel_rfl) ?_
    refine J_stp (stp_join 3 2 ks2.length (cs' := (ks2 ++ [t]).map fun s => cAcc (upd F2 t (.slice a3 nv c3) s) 28 3 ((keyC L s).map eCom)) rfl rfl (by decide) (by
     rw [List.getElem?_map, show (ks2 ++ [t])[ks2.length]? = some t by simp]
     show some (cAcc (upd F2 t (.slice a3 nv c3) t) _ 3 _) = _
     rw [upd_at]) hE2) ?_
    refine J_norm (C' := [(cMapG md okDot (dotSet (List.map dotP L))), (cMapG md2 okDot (dotSet (List.map dotP L))), (cStar (List.map (fun t => cAcc (F t) 28 3 (List.map eCom (keyC L t))) ks)), (cStar (List.map (fun s => cAcc (upd F2 t (Value.slice a3 nv c3) s) 28 3 (List.map eCom (keyC L s))) (ks2 ++ [t])))]) (G' := [(.slice ba nb cb, (dInts base)), (.slice ua nb uc, (D.sl 1 (List.map eI base)))]) (by kernel_rfl) (by kernel_rfl) ?_
    refine J_backx ⟨seen.push en.born, _, _, ks2 ++ [t], upd F2 t (.slice a3 nv c3)⟩ [2, 3, 27] [0, 1, 2, 3, 4] [2, 0, 1, 3] [0, 1] ?_ ?_ (by kernel_rfl) rfl rfl rfl
    ·refine ⟨hm3.congr (strG_new ht2), hst3 hst2, List.nodup_append.2 ⟨hnd2, by simp, fun a ha b hb => ?_⟩, fun s hs => ?_, hseen2⟩
     ·rw [List.mem_singleton] at hb
      subst hb
      exact fun he => ht2 (by rw [← he]; exact ha)
     ·rcases List.mem_append.1 hs with hs | hs
      ·exact hsub s hs
      ·rw [List.mem_singleton.1 hs]
       exact ht
    ·exact hshr
 ·refine JR_run (id := 1) (rest := [(8, false), (14, false), (15, true), (16, false), (17, true)]) [.wr 9 [] 0] [0, 2, 9, 13, 15, 19] (E1 := fun nu1 => [(0, .val (.pointer (some (⟨b, 0, none⟩)))), (2, .val (.pointer none)), (9, .val (.int .i64 (↑p : Int))), (13, .val (.slice ba nb cb)), (15, .val (.map (some (nu1 0)))), (19, .val (.map (some md)))]) (h1 := fun nu1 => [(b, .cells #[.int .i64 (↑p : Int), .slice ba nb cb, .map (some mk), .map (some md)] 133 (0, 0)), (mk, Obj.map es clock), (nu1 0, Obj.map #[] 0)]) (p1 := fun nu1 => []) (W1 := [(14, [])]) (fun _ => by kernel_rfl) (fun _ => trivial) (fun nu1 => ?_)
  refine JR_callp [] 80 #[.slice ba nb cb] (some 14) (by kernel_rfl) (fun w S hG => ?_)
  refine (cloneInts (hG.at 0 rfl) hbl).mono ?_
  rintro e1 w1 ⟨ua, uc, hR⟩
  refine ⟨_, _, _, hR, ?_⟩
  try simp only [cAp, nAp, aNl]
  refine JR_call [] [1] 81 #[.map (some md)] (some 20) (by kernel_rfl) (by kernel_rfl) (by decide) (fun w S M hP hG _ => ?_)
  refine (cloneMap hP).mono ?_
  rintro e2 w2 ⟨md2, hR⟩
  refine ⟨_, _, _, hR, ?_⟩
  try simp only [cAp, nAp, aNl]
  refine Gr (id := 1) (rest := []) [zR 15, .wr 16 [] 0, zR 17] [0, 2, 3] (fun nu2 => [zP 0 b, zV 2 (.pointer none), zP 3 (nu2 0)]) (fun nu2 => [(b, .cells #[nI (↑p : Int), .slice ba nb cb, .map (some mk), .map (some md)] 133 (0, 0)), (mk, Obj.map es clock), (nu1 0, Obj.map #[] 0), (nu2 0, .cells #[nI (↑p : Int), .slice ua nb uc, .map (some (nu1 0)), .map (some md2)] 133 (0, 0))]) (fun nu2 => ?_)
  try simp only [cAp, nAp, aNl]
  refine JR_end ?_
  try simp only [cAp, nAp, aNl]
  refine J_seq ?_
  try simp only [cAp, nAp, aNl]
  refine J_seq ?_
  try simp only [cAp, nAp, aNl]
  refine J_stp (stp_freeze 1 rfl) ?_
  refine J_stp (stp_add (cStar (([] : List ByteArray).map fun t => cAcc ((fun _ : ByteArray => Value.nilIface) t) 28 3 ((keyC L t).map eCom))) star_nil) ?_
  refine J_norm (C' := [(cStar (List.map (fun t => cAcc (F t) 28 3 (List.map eCom (keyC L t))) ks)), (cMapG md okDot (dotSet (List.map dotP L))), (cMapG md2 okDot (dotSet (List.map dotP L))), (cStar (List.map (fun t => cAcc Value.nilIface 28 3 (List.map eCom (keyC L t))) []))]) (G' := [(.slice ba nb cb, (dInts base)), (.slice ua nb uc, (D.sl 1 (List.map eI base)))]) (by kernel_rfl) (by kernel_rfl) ?_
  refine jB mixed [(0, true), (1, true), (2, true), (3, true), (4, false)] [] ?_
  refine Gr (id := 2) (rest := [(4, false)]) [zR 0, zR 1, zR 2, .rd 3 [.o 0 none] 0 0] [2, 3, 26] (fun _ => [zV 2 (.pointer none), zP 3 (nu2 0), zV 26 (.map (some mk))]) (fun _ => [(b, .cells #[nI (↑p : Int), .slice ba nb cb, .map (some mk), .map (some md)] 133 (0, 0)), (mk, Obj.map es clock), (nu1 0, Obj.map #[] 0), (nu2 0, .cells #[nI (↑p : Int), .slice ua nb uc, .map (some (nu1 0)), .map (some md2)] 133 (0, 0))]) (fun _ => ?_)
  refine JR_range (.o 1 none) mk 130 9 43 (some 27) (by kernel_rfl) (by kernel_rfl) (by kernel_rfl) rfl (fun bi1 => ?_)
  refine JR_end ?_
  refine J_block ?_
  have hm0 : MapG (MapKept.IsKey .string) #[] (strG [] fun _ => .nilIface) := (MapG.empty _).congr fun k => (strG_nil _ k).symm
  refine J_loopx (fun y : CopyS => [zV 2 (.pointer none), zP 3 (nu2 0), zP 27 bi1]) (fun y : CopyS => [(b, .cells #[nI (↑p : Int), .slice ba nb cb, .map (some mk), .map (some md)] 133 (0, 0)), (mk, Obj.map es clock), (nu1 0, .map y.es y.clock), (nu2 0, .cells #[nI (↑p : Int), .slice ua nb uc, .map (some (nu1 0)), .map (some md2)] 133 (0, 0)), (bi1, .mapIter (some mk) clock y.seen clock)]) (fun y : CopyS => [cStar (ks.map fun t => cAcc (F t) 28 3 ((keyC L t).map eCom)), cMapG md okDot (dotSet (L.map dotP)), cMapG md2 okDot (dotSet (L.map dotP)), cStar (y.ks.map fun t => cAcc (y.F t) 28 3 ((keyC L t).map eCom))]) (fun y : CopyS => [(.slice ba nb cb, (dInts base)), (.slice ua nb uc, (D.sl 1 (List.map eI base)))]) (fun y : CopyS => (leftOf es y.seen).size) (fun y : CopyS => (MapG (MapKept.IsKey .string) y.es (strG y.ks y.F) ∧ MapKept.Stamped y.es y.clock ∧ y.ks.Nodup ∧ (∀ t ∈ y.ks, t ∈ ks) ∧ ∀ x ∈ es.toList, (y.seen.contains x.born = true ↔ keyB x.key ∈ y.ks))) ⟨#[], #[], 0, [], fun _ => .nilIface⟩ [2, 3, 27] [0, 1, 2, 3, 4] [0, 1, 2, 3] [0, 1] ?_ (by kernel_rfl) rfl rfl rfl ?_
  ·exact ⟨hm0, MapKept.stamped_empty 0, by simp, by simp, by simp⟩
  rintro ⟨seen, es2, clock2, ks2, F2⟩ ⟨hm2, hst2, hnd2, hsub, hseen⟩
  dsimp only at hm2 hst2 hnd2 hsub hseen ⊢
  refine J_seq ?_
  refine jB mixed [(0, false), (1, true)] [] ?_
  refine JR_next 4 _ (.o 1 none) _ (some 28) (by kernel_rfl) (by kernel_rfl) rfl rfl hst.1 (Nat.le_refl _) (fun hleft => ?_) (fun en hen => ?_)
  ·have hall := all_seen es seen hleft
   have hiff2 : ∀ t, t ∈ ks2 ↔ keyC L t ≠ [] := fun t => by
    rw [← hiff t]
    refine ⟨hsub t, fun ht => ?_⟩
    obtain ⟨x, hx, rfl⟩ := List.mem_map.1 (hkl.mem_iff.2 ht)
    exact (hseen x hx).1 (hall x hx)
   refine Gr (id := 3) (rest := []) [zR 1] [2, 3, 27, 29] (fun _ => [zV 2 (.pointer none), zP 3 (nu2 0), zP 27 bi1, zB 29 false]) (fun _ => [(b, .cells #[nI (↑p : Int), .slice ba nb cb, .map (some mk), .map (some md)] 133 (0, 0)), (mk, Obj.map es clock), (nu1 0, Obj.map es2 clock2), (nu2 0, .cells #[nI (↑p : Int), .slice ua nb uc, .map (some (nu1 0)), .map (some md2)] 133 (0, 0)), (bi1, Obj.mapIter (some mk) clock seen clock)]) (fun _ => ?_)
   refine JR_end ?_
   refine J_seq ?_
   refine cF ?_
   refine J_exit rfl ?_
   refine Sq mixed [zR 0, zR 1] [] [2] (fun _ => [zP 2 (nu2 0)]) (fun _ => [(b, .cells #[nI (↑p : Int), .slice ba nb cb, .map (some mk), .map (some md)] 133 (0, 0)), (mk, Obj.map es clock), (nu1 0, Obj.map es2 clock2), (nu2 0, .cells #[nI (↑p : Int), .slice ua nb uc, .map (some (nu1 0)), .map (some md2)] 133 (0, 0)), (bi1, Obj.mapIter (some mk) clock seen clock)]) (fun _ => ?_)
   refine J_return [[]] (.pointer (some (⟨nu2 0, 0, none⟩))) (by kernel_rfl) (fun a w s => ?_)
   exact ⟨_, _, _, _, _, _, _, ks2, F2, ((((s.hide 0 rfl).hide 0 rfl).hide 0 rfl).hide 0 rfl).ret (by simp) [4, 5, 0, 1, 7, 6, 3, 2] [1] rfl rfl, hm2, hst2, hnd2, hiff2⟩
  ·obtain ⟨hes, hns⟩ := mem_left hen
   obtain ⟨t, hk, ht, hv⟩ := left_key hm hes
   obtain ⟨i, hit⟩ := List.getElem?_of_mem ht
   have hshr := left_shrinks es seen en hen
   have ht2 : t ∉ ks2 := fun h => by
    have := (hseen en hes).2 (by rw [hk]; exact h)
    rw [hns] at this
    cases this
   have hseen2 := seen_step hm hst hseen hes hk
   rw [hk, hv]
   refine Gr (id := 3) (rest := []) [zR 1] [2, 3, 27, 29] (fun _ => [zV 2 (.pointer none), zP 3 (nu2 0), zP 27 bi1, zB 29 true]) (fun _ => [(b, .cells #[nI (↑p : Int), .slice ba nb cb, .map (some mk), .map (some md)] 133 (0, 0)), (mk, Obj.map es clock), (nu1 0, Obj.map es2 clock2), (nu2 0, .cells #[nI (↑p : Int), .slice ua nb uc, .map (some (nu1 0)), .map (some md2)] 133 (0, 0)), (bi1, Obj.mapIter (some mk) clock (seen.push en.born) clock)]) (fun _ => ?_)
   refine JR_end ?_
   refine J_seq ?_
   refine cTt ?_
   refine J_skip ?_
   refine J_block ?_
   refine J_seq ?_
   refine jB mixed [(0, false), (1, true), (2, true), (3, true), (4, true)] [] ?_
   refine JR_entry (.o 4 none) (.o 1 none) _ _ (some 30) (by kernel_rfl) rfl rfl hes hst.2.1 ?_
   rw [hk, hv]
   refine Gr (id := 4) (rest := []) [zR 1, zR 2, zR 3, zR 4] [2, 3, 4, 5, 27] (fun _ => [zV 2 (.pointer none), zP 3 (nu2 0), zV 4 (.string t), zV 5 (F t), zP 27 bi1]) (fun _ => [(b, .cells #[nI (↑p : Int), .slice ba nb cb, .map (some mk), .map (some md)] 133 (0, 0)), (mk, Obj.map es clock), (nu1 0, Obj.map es2 clock2), (nu2 0, .cells #[nI (↑p : Int), .slice ua nb uc, .map (some (nu1 0)), .map (some md2)] 133 (0, 0)), (bi1, Obj.mapIter (some mk) clock (seen.push en.born) clock)]) (fun _ => ?_)
   refine JR_end ?_
   refine J_stp (stp_take (c := cAcc (F t) 28 3 ((keyC L t).map eCom)) 0 i rfl (by rw [List.getElem?_map, hit]; rfl)) ?_
   refine J_stpx (stp_accform 3 rfl) fun y hF => ?_
   obtain ⟨av, nv, cv⟩ := y
   obtain ⟨hF, hn⟩ := hF
   dsimp only at hF hn
   rw [hF]
   have hkc := keyC_len L t
   refine J_norm (C' := [(cMapG md okDot (dotSet (List.map dotP L))), (cMapG md2 okDot (dotSet (List.map dotP L))), (cStar (List.map (fun t => cAcc (F2 t) 28 3 (List.map eCom (keyC L t))) ks2)), cAcc (.slice av nv cv) 28 3 (List.map eCom (keyC L t)), (cStar ((List.map (fun t => cAcc (F t) 28 3 (List.map eCom (keyC L t))) ks).eraseIdx i))]) (G' := [(.slice ba nb cb, (dInts base)), (.slice ua nb uc, (D.sl 1 (List.map eI base)))]) (by kernel_rfl) (by kernel_rfl) ?_
   refine jB mixed [(0, true), (1, true), (2, true), (3, true), (4, true), (5, true), (6, false), (7, false)] [(6, []), (7, [2])] ?_
   refine JR_run (id := 5) (rest := [(6, false), (7, false)]) [.rd 0 [] 0 0, .rd 1 [] 0 0, .rd 2 [] 0 0, .rd 3 [.o 3 none] 0 0, .rd 4 [] 0 0, .rd 5 [] 0 0] [2, 3, 4, 5, 27, 36, 37, 38] (E1 := fun _ => [(2, .val (.pointer none)), (3, .val (.pointer (some (⟨nu2 0, 0, none⟩)))), (4, .val (.string t)), (5, .val (.slice av nv cv)), (27, .val (.pointer (some (⟨bi1, 0, none⟩)))), (36, .val (.map (some (nu1 0)))), (37, .val (.string t)), (38, .val (.slice av nv cv))]) (h1 := fun _ => [(b, .cells #[.int .i64 (↑p : Int), .slice ba nb cb, .map (some mk), .map (some md)] 133 (0, 0)), (mk, Obj.map es clock), (nu1 0, Obj.map es2 clock2), (nu2 0, .cells #[.int .i64 (↑p : Int), .slice ua nb uc, .map (some (nu1 0)), .map (some md2)] 133 (0, 0)), (bi1, Obj.mapIter (some mk) clock (seen.push en.born) clock)]) (p1 := fun _ => []) (W1 := [(6, []), (7, [2])]) (fun _ => by kernel_rfl) (fun _ => trivial) (fun _ => ?_)
   refine JR_call [] [3] 82 #[.slice av nv cv] (some 39) (by kernel_rfl) (by kernel_rfl) (by decide) (fun w S M hP hG _ => ?_)
   refine (cloneComs (xs := keyC L t) hP ((hiff t).1 ht) (by omega)).mono ?_
   rintro e3 w3 ⟨a3, c3, hR⟩
   refine ⟨_, _, _, hR, ?_⟩
   try simp only [cAp, nAp, aNl]
   refine JRg_puts 2 (nu1 0) 130 9 43 (MapKept.IsKey TypeDesc.string) (.string t) (.slice a3 nv c3) none (by kernel_rfl) (by kernel_rfl) (by kernel_rfl) keyOk_9 (by first | exact ⟨_, _, _, rfl⟩ | simp [MapKept.IsKey]) rfl hm2 (fun es3 clock3 hm3 hsz3 hst3 => ?_)
   try simp only [cAp, nAp, aNl]
   refine JR_end ?_
   try simp only [cAp, nAp, aNl]
   refine J_eb ?_
   try simp only [cAp, nAp, aNl]
   refine J_norm (C' := [(cMapG md okDot (dotSet (List.map dotP L))), (cMapG md2 okDot (dotSet (List.map dotP L))), (cStar (List.map (fun t => cAcc (F2 t) 28 3 (List.map eCom (keyC L t))) ks2)), (cStar ((List.map (fun t => cAcc (F t) 28 3 (List.map eCom (keyC L t))) ks).eraseIdx i)), cAcc (.slice av nv cv) 28 3 (List.map eCom (keyC L t)), cAcc (.slice a3 nv c3) 28 3 (List.map eCom (keyC L t))]) (G' := [(.slice ba nb cb, (dInts base)), (.slice ua nb uc, (D.sl 1 (List.map eI base)))]) (by kernel_rfl) (by kernel_rfl) ?_
   have hE1 : (ks.map fun t => cAcc (F t) 28 3 ((keyC L t).map eCom))[i]? = some (cAcc (.slice av nv cv) 28 3 ((keyC L t).map eCom)) := by
    rw [List.getElem?_map, hit]
    show some (cAcc (F t) _ 3 _) = _
    rw [hF]
   refine J_stp (stp_join 4 3 i (cs' := ks.map fun t => cAcc (F t) 28 3 ((keyC L t).map eCom)) rfl rfl (by decide) hE1 rfl) ?_
   have hE2 := map_new (t := t) (Q := fun s => cAcc (F2 s) 28 3 ((keyC L s).map eCom)) (Q' := fun s => cAcc (upd F2 t (.slice a3 nv c3) s) 28 3 ((keyC L s).map eCom)) (ks := ks2) fun s hs => by
    have hne : s ≠ t := fun he => ht2 (he ▸ hs)
    show cAcc (upd F2 t (.slice a3 nv c3) s) _ 3 _ = cAcc (F2 s) _ 3 _
    rw [upd_ne _ _ hne]
   refine J_norm (C' := [(cMapG md okDot (dotSet (List.map dotP L))), (cMapG md2 okDot (dotSet (List.map dotP L))), (cStar (List.map (fun t => cAcc (F2 t) 28 3 (List.map eCom (keyC L t))) ks2)), cAcc (.slice a3 nv c3) 28 3 (List.map eCom (keyC L t)), (cStar (List.map (fun t => cAcc (F t) 28 3 (List.map eCom (keyC L t))) ks))]) (G' := [(.slice ba nb cb, (dInts base)), (.slice ua nb uc, (D.sl 1 (List.map eI base)))]) (by kernel_rfl) (by kernel_rfl) ?_
   refine J_stp (stp_join 3 2 ks2.length (cs' := (ks2 ++ [t]).map fun s => cAcc (upd F2 t (.slice a3 nv c3) s) 28 3 ((keyC L s).map eCom)) rfl rfl (by decide) (by
    rw [List.getElem?_map, show (ks2 ++ [t])[ks2.length]? = some t by simp]
    show some (cAcc (upd F2 t (.slice a3 nv c3) t) _ 3 _) = _
    rw [upd_at]) hE2) ?_
   refine J_norm (C' := [(cMapG md okDot (dotSet (List.map dotP L))), (cMapG md2 okDot (dotSet (List.map dotP L))), (cStar (List.map (fun t => cAcc (F t) 28 3 (List.map eCom (keyC L t))) ks)), (cStar (List.map (fun s => cAcc (upd F2 t (Value.slice a3 nv c3) s) 28 3 (List.map eCom (keyC L s))) (ks2 ++ [t])))]) (G' := [(.slice ba nb cb, (dInts base)), (.slice ua nb uc, (D.sl 1 (List.map eI base)))]) (by kernel_rfl) (by kernel_rfl) ?_
   refine J_backx ⟨seen.push en.born, _, _, ks2 ++ [t], upd F2 t (.slice a3 nv c3)⟩ [2, 3, 27] [0, 1, 2, 3, 4] [2, 0, 1, 3] [0, 1] ?_ ?_ (by kernel_rfl) rfl rfl rfl
   ·refine ⟨hm3.congr (strG_new ht2), hst3 hst2, List.nodup_append.2 ⟨hnd2, by simp, fun a ha b hb => ?_⟩, fun s hs => ?_, hseen2⟩
    ·rw [List.mem_singleton] at hb
     subst hb
     exact fun he => ht2 (by rw [← he]; exact ha)
    ·rcases List.mem_append.1 hs with hs | hs
     ·exact hsub s hs
     ·rw [List.mem_singleton.1 hs]
      exact ht
   ·exact hshr
end Go.Proofs.YtpjkiomccpjboaaGreatDoor
end
section
namespace Go.Proofs.YtpjkiomccpjboaaGreatDoor
open Go Go.Sx
def pruneErr (p : Nat) (at' : List Int) : Nat := if vecErr at' ≠ 0 then vecErr at' else if at'.length ≠ p then 3 else 0
set_option maxHeartbeats 4000000 in
theorem vPrune {w : World} {S : Nat → Prop} {M : List Nat} {er : Nat → Addr} {eb : Nat → Array Value × TypeId} {b mk md : Nat} {ba a1 : Option Addr} {p nb cb n1 c1 clock : Nat} {base at' : List Int} {es : Array MapEntry} {ks : List ByteArray} {F : ByteArray → Value} {L : List PutT} (hC : Rep w S .nilIface (dC er eb))
  (hP : Pre w S M [cObj b (.cells #[.int .i64 p, .slice ba nb cb, .map (some mk), .map (some md)] 133 (0, 0))])
  (hb : Rep w S (.slice ba nb cb) (dInts base)) (hbv : vecErr base = 0) (hbl : base.length = p) (h1 : Rep w S (.slice a1 n1 c1) (dInts at')) (hl1 : at'.length ≤ 1000000) :
  Calls Tryz.prog 44 #[.pointer (some ⟨b, 0, none⟩), .slice a1 n1 c1] w fun e w' =>
   (pruneErr p at' ≠ 0 ∧ Ret M w S w' e (.iface 243 (.pointer (some (er (pruneErr p at'))))) [cObj b (.cells #[.int .i64 p, .slice ba nb cb, .map (some mk), .map (some md)] 133 (0, 0))] []) ∨
   (pruneErr p at' = 0 ∧ ∃ ua un uc, Ret M w S w' e .nilIface [cObj b (.cells #[.int .i64 p, .slice ua un uc, .map (some mk), .map (some md)] 133 (0, 0))] [(.slice ua un uc, dInts (List.zipWith max base at'))]) := by
 obtain rfl := rep_ints_len h1
 obtain rfl := rep_ints_len hb
 subst hbl
 have hvl := vecErr_len hbv
 refine en44 (args := [.pointer (some ⟨b, 0, none⟩), .slice a1 at'.length c1]) (S := S) (G := [(_, dC er eb), (_, dInts at'), (_, dInts base)]) (by kernel_rfl) hP (.cons hC (.cons h1 (.cons hb (.nil _ _)))) ?_
 refine J_show 0 rfl ?_
 refine J_stp (stp_all 0 [2] rfl rfl) ?_
 refine J_glob 3 rfl (fun csg1 tyg1 fzg1 hglob1 => ?_)
 try simp only [cAp, nAp, aNl]
 refine Sq mixed [zR 0] [] [0, 1, 4] (fun _ => [zP 0 b, zS 1 a1 at'.length c1, zV 4 .nilIface]) (fun _ => [(b, .cells #[nI (↑base.length : Int), .slice ba base.length cb, .map (some mk), .map (some md)] 133 (0, 0))]) (fun _ => ?_)
 refine J_seq ?_
 refine J_seq ?_
 refine jB mixed [(0, true), (1, false), (2, true)] [] ?_
 refine Gr (id := 1) (rest := [(1, false), (2, true)]) [zR 0] [0, 1, 4, 6] (fun _ => [zP 0 b, zS 1 a1 at'.length c1, zV 4 .nilIface, zS 6 a1 at'.length c1]) (fun _ => [(b, .cells #[nI (↑base.length : Int), .slice ba base.length cb, .map (some mk), .map (some md)] 133 (0, 0))]) (fun _ => ?_)
 refine JR_callp [] 59 #[.slice a1 at'.length c1] (some 7) (by kernel_rfl) (fun w S hG => ?_)
 refine (vcheck (globs_of (hG.at 0 rfl)) (hG.at 1 rfl) hl1).mono ?_
 rintro e2 w2 ⟨v, hR, hv⟩
 refine ⟨_, _, _, hR, ?_⟩
 obtain ⟨hv0, rfl⟩ | ⟨hv0, rfl⟩ := hv
 case inr =>
  have hae : pruneErr base.length at' = vecErr at' := by rw [pruneErr, if_pos hv0]
  rw [hae]
  try simp only [cAp, nAp, aNl]
  refine Gr (id := 1) (rest := []) [zR 2] [0, 1, 4, 5] (fun _ => [zP 0 b, zS 1 a1 at'.length c1, zV 4 .nilIface, zV 5 (.iface 243 (.pointer (some (er (vecErr at')))))]) (fun _ => [(b, .cells #[nI (↑base.length : Int), .slice ba base.length cb, .map (some mk), .map (some md)] 133 (0, 0))]) (fun _ => ?_)
  refine JR_end ?_
  refine Sq mixed [zR 0, zR 1] [] [0, 1, 4, 5, 9] (fun _ => [zP 0 b, zS 1 a1 at'.length c1, zV 4 .nilIface, zV 5 (.iface 243 (.pointer (some (er (vecErr at'))))), zB 9 true]) (fun _ => [(b, .cells #[nI (↑base.length : Int), .slice ba base.length cb, .map (some mk), .map (some md)] 133 (0, 0))]) (fun _ => ?_)
  refine cTt ?_
  refine Sq mixed [zR 0, zR 1] [] [0, 1, 4] (fun _ => [zP 0 b, zS 1 a1 at'.length c1, zV 4 (.iface 243 (.pointer (some (er (vecErr at')))))]) (fun _ => [(b, .cells #[nI (↑base.length : Int), .slice ba base.length cb, .map (some mk), .map (some md)] 133 (0, 0))]) (fun _ => ?_)
  refine J_return [[]] (.iface 243 (.pointer (some (er (vecErr at'))))) (by kernel_rfl) (fun a w s => ?_)
  exact .inl ⟨hv0, (s.hide 0 rfl).ret (by simp) [0] [] rfl rfl⟩
 by_cases hal : at'.length = base.length
 case neg =>
  have hae : pruneErr base.length at' = 3 := by rw [pruneErr, if_neg (by simp [hv0]), if_pos hal]
  have hal2 : ¬ (at'.length : Int) = base.length := by omega
  rw [hae]
  try simp only [cAp, nAp, aNl]
  refine Gr (id := 1) (rest := []) [zR 2] [0, 1, 4, 5] (fun _ => [zP 0 b, zS 1 a1 at'.length c1, zV 4 .nilIface, zV 5 .nilIface]) (fun _ => [(b, .cells #[nI (↑base.length : Int), .slice ba base.length cb, .map (some mk), .map (some md)] 133 (0, 0))]) (fun _ => ?_)
  refine JR_end ?_
  refine Sq mixed [zR 0, zR 1] [] [0, 1, 4, 5, 9] (fun _ => [zP 0 b, zS 1 a1 at'.length c1, zV 4 .nilIface, zV 5 .nilIface, zB 9 false]) (fun _ => [(b, .cells #[nI (↑base.length : Int), .slice ba base.length cb, .map (some mk), .map (some md)] 133 (0, 0))]) (fun _ => ?_)
  refine cF ?_
  refine J_skip ?_
  refine J_seq ?_
  refine Sp mixed [zR 0, zR 1, zR 2, zR 3, zR 4, .rd 5 [.o 0 none] 0 0, .rd 6 [] 0 6] [] [0, 1, 4, 17] (fun _ => [zP 0 b, zS 1 a1 at'.length c1, zV 4 .nilIface, zB 17 true]) (fun _ => [(b, .cells #[nI (↑base.length : Int), .slice ba base.length cb, .map (some mk), .map (some md)] 133 (0, 0))]) (fun _ => [((↑at'.length : Int) != (↑base.length : Int)) = true]) (fun _ => ⟨by simp; omega, trivial⟩) (fun _ => ?_)
  refine cTt ?_
  refine Sp mixed [.rd 0 [.r 0 (some (.iface 243 (.pointer (some (er 3)))))] 0 0, zR 1] [] [0, 1, 4] (fun _ => [zP 0 b, zS 1 a1 at'.length c1, zV 4 (.iface 243 (.pointer (some (er 3))))]) (fun _ => [(b, .cells #[nI (↑base.length : Int), .slice ba base.length cb, .map (some mk), .map (some md)] 133 (0, 0))]) (fun _ => [csg1[(0 : Nat)]? = some (Value.iface (243 : Nat) (Value.pointer (some (er (3 : Nat)))))]) (fun _ => ⟨hglob1, trivial⟩) (fun _ => ?_)
  refine J_return [[]] (.iface 243 (.pointer (some (er 3)))) (by kernel_rfl) (fun a w s => ?_)
  exact .inl ⟨by decide, (s.hide 0 rfl).ret (by simp) [0] [] rfl rfl⟩
 have hae : pruneErr base.length at' = 0 := by rw [pruneErr, if_neg (by simp [hv0]), if_neg (by simp [hal])]
 have htw : twoErr base at' = 0 := by rw [twoErr, if_neg (by simp [hbv]), if_neg (by simp [hv0]), if_neg (by simp [hal])]
 have hal2 : (at'.length : Int) = base.length := by omega
 rw [hae]
 try simp only [cAp, nAp, aNl]
 refine Gr (id := 1) (rest := []) [zR 2] [0, 1, 4, 5] (fun _ => [zP 0 b, zS 1 a1 at'.length c1, zV 4 .nilIface, zV 5 .nilIface]) (fun _ => [(b, .cells #[nI (↑base.length : Int), .slice ba base.length cb, .map (some mk), .map (some md)] 133 (0, 0))]) (fun _ => ?_)
 refine JR_end ?_
 refine Sq mixed [zR 0, zR 1] [] [0, 1, 4, 5, 9] (fun _ => [zP 0 b, zS 1 a1 at'.length c1, zV 4 .nilIface, zV 5 .nilIface, zB 9 false]) (fun _ => [(b, .cells #[nI (↑base.length : Int), .slice ba base.length cb, .map (some mk), .map (some md)] 133 (0, 0))]) (fun _ => ?_)
 refine cF ?_
 refine J_skip ?_
 refine J_seq ?_
 refine Sp mixed [zR 0, zR 1, zR 2, zR 3, zR 4, .rd 5 [.o 0 none] 0 0, .rd 6 [] 0 7] [] [0, 1, 4, 17] (fun _ => [zP 0 b, zS 1 a1 at'.length c1, zV 4 .nilIface, zB 17 false]) (fun _ => [(b, .cells #[nI (↑base.length : Int), .slice ba base.length cb, .map (some mk), .map (some md)] 133 (0, 0))]) (fun _ => [((↑at'.length : Int) != (↑base.length : Int)) = false]) (fun _ => ⟨by simp; omega, trivial⟩) (fun _ => ?_)
 refine cF ?_
 refine J_skip ?_
 refine J_seq ?_
 refine jB mixed [(0, true), (1, true), (2, true), (3, true), (4, true), (5, true), (6, false), (7, true), (8, true), (9, true), (10, true), (11, true), (12, false)] [] ?_
 refine Gr (id := 6) (rest := [(6, false), (7, true), (8, true), (9, true), (10, true), (11, true), (12, false)]) [zR 0, zR 1, zR 2, zR 3, .rd 4 [.o 0 none] 0 0, zR 5] [4, 20, 24, 25] (fun _ => [zV 4 .nilIface, zP 20 b, zS 24 ba base.length cb, zS 25 a1 at'.length c1]) (fun _ => [(b, .cells #[nI (↑base.length : Int), .slice ba base.length cb, .map (some mk), .map (some md)] 133 (0, 0))]) (fun _ => ?_)
 refine JR_callp [] 79 #[.slice ba base.length cb, .slice a1 at'.length c1] (some 26) (by kernel_rfl) (fun w S hG => ?_)
 refine (vMost (globs_of (hG.at 0 rfl)) (hG.at 2 rfl) (hG.at 1 rfl) (by omega) hl1).mono ?_
 rintro e3 w3 (⟨htw2, _⟩ | ⟨_, ua, un, uc, hR⟩)
 ·exact absurd htw htw2
 refine ⟨_, _, _, hR, ?_⟩
 try simp only [cAp, nAp, aNl]
 refine Gr (id := 6) (rest := []) [zR 7, zR 8, zR 9, zR 10, zR 11, .wr 12 [.o 0 none] 0] [4] (fun _ => [zV 4 .nilIface]) (fun _ => [(b, .cells #[nI (↑base.length : Int), .slice ua un uc, .map (some mk), .map (some md)] 133 (0, 0))]) (fun _ => ?_)
 refine JR_end ?_
 refine Sq mixed [zR 0] [] [4] (fun _ => [zV 4 .nilIface]) (fun _ => [(b, .cells #[nI (↑base.length : Int), .slice ua un uc, .map (some mk), .map (some md)] 133 (0, 0))]) (fun _ => ?_)
 refine J_return [[]] (.nilIface) (by kernel_rfl) (fun a w s => ?_)
 exact .inr ⟨by first | rfl | trivial, _, _, _, (s.hide 0 rfl).ret (by simp) [0] [4] rfl rfl⟩
end Go.Proofs.YtpjkiomccpjboaaGreatDoor
end
section
namespace Go.Proofs.YtpjkiomccpjboaaGreatDoor
open Go Go.Sx
theorem vecErr_zeros {p : Nat} (h1 : 1 ≤ p) (h6 : p ≤ 6) : vecErr (List.replicate p (0 : Int)) = 0 := by
 rcases (by omega : p = 1 ∨ p = 2 ∨ p = 3 ∨ p = 4 ∨ p = 5 ∨ p = 6) with rfl | rfl | rfl | rfl | rfl | rfl <;> decide
theorem prune_fine {p : Nat} {at' : List Int} (h : pruneErr p at' = 0) : vecErr at' = 0 ∧ at'.length = p := by
 unfold pruneErr at h
 split at h
 ·exact absurd h ‹_›
 ·rename_i h1
  split at h
  ·cases h
  ·rename_i h2
   exact ⟨by simpa using h1, by simpa using h2⟩
theorem max_zeros {p : Nat} {b : List Int} (hb : vecErr b = 0) (hl : b.length = p) : List.zipWith max (List.replicate p (0 : Int)) b = b := by
 apply List.ext_getElem?
 intro j
 rw [List.getElem?_zipWith]
 cases hj : b[j]? with
 | none => simp
 | some y =>
  have hlt : j < p := by rw [← hl]; exact (List.getElem?_eq_some_iff.1 hj).1
  have h0 := (vecErr_in hb y (List.mem_of_getElem? hj)).1
  rw [List.getElem?_replicate, if_pos hlt]
  simp
  omega
theorem in_zeros {p : Nat} {at' : List Int} (ha : vecErr at' = 0) (hl : at'.length = p) : inL (List.replicate p (0 : Int)) at' = true := by
 refine inL_true (by simp [hl]) fun j x y hx hy => ?_
 rw [List.getElem?_replicate] at hx
 split at hx
 ·cases hx
  exact (vecErr_in ha y (List.mem_of_getElem? hy)).1
 ·cases hx
theorem at_zero {p : Nat} {key : ByteArray} {at' : List Int} (h : atErr p (List.replicate p 0) key at' = 0) : vecErr at' = 0 ∧ at'.length = p ∧ ∀ b, atErr p b key at' = if inL b at' = false then 9 else 0 := by
 unfold atErr at h
 split at h
 ·cases h
 ·rename_i h1
  split at h
  ·exact absurd h ‹_›
  ·rename_i h2
   split at h
   ·cases h
   ·rename_i h3
    refine ⟨by simpa using h2, by simpa using h3, fun b => ?_⟩
    rw [atErr, if_neg h1, if_neg h2, if_neg h3]
theorem at_some {p : Nat} {key : ByteArray} {at' : List Int} (h : atErr p (List.replicate p 0) key at' ≠ 0) (b : List Int) : atErr p b key at' ≠ 0 := by
 unfold atErr at h ⊢
 split
 ·decide
 ·rename_i h1
  rw [if_neg h1] at h
  split
  ·assumption
  ·rename_i h2
   rw [if_neg h2] at h
   split
   ·decide
   ·rename_i h3
    rw [if_neg h3, in_zeros (by simpa using h2) (by simpa using h3)] at h
    exact absurd rfl h
end Go.Proofs.YtpjkiomccpjboaaGreatDoor
end
