/- Part 10 of the texts of a claim: Live. -/
import Derived.Test.YtpjkiomccpjboaaGreatDoorTf9
section
namespace Go.Sx
open Go Go.MapKept
open Classical in
noncomputable def strG (ks : List ByteArray) (F : ByteArray → Value) : Value → Option Value := fun v => match v with
 | .string t => if t ∈ ks then some (F t) else none
 | _ => none
theorem strG_in {ks : List ByteArray} {F : ByteArray → Value} {t : ByteArray} (h : t ∈ ks) : strG ks F (.string t) = some (F t) := if_pos h
theorem strG_out {ks : List ByteArray} {F : ByteArray → Value} {t : ByteArray} (h : t ∉ ks) : strG ks F (.string t) = none := if_neg h
theorem strG_nil (F : ByteArray → Value) (k : Value) : strG [] F k = none := by unfold strG; split <;> simp
def upd {α : Type} (F : ByteArray → α) (t : ByteArray) (v : α) : ByteArray → α := fun s => if s = t then v else F s
theorem upd_at {α : Type} (F : ByteArray → α) (t : ByteArray) (v : α) : upd F t v t = v := if_pos rfl
theorem upd_ne {α : Type} (F : ByteArray → α) {t s : ByteArray} (v : α) (h : s ≠ t) : upd F t v s = F s := if_neg h
theorem strG_new {ks : List ByteArray} {F : ByteArray → Value} {t : ByteArray} {v : Value} (h : t ∉ ks) (k : Value) : fput (strG ks F) (.string t) v k = strG (ks ++ [t]) (upd F t v) k := by
 unfold fput
 by_cases hk : k = .string t
 ·subst hk
  rw [if_pos rfl, strG_in (by simp), upd_at]
 ·rw [if_neg hk]
  unfold strG
  split
  ·rename_i s
   have hs : s ≠ t := fun he => hk (by rw [he])
   by_cases h2 : s ∈ ks
   ·rw [if_pos h2, if_pos (by simp [h2]), upd_ne _ _ hs]
   ·rw [if_neg h2, if_neg (by simp [h2, hs])]
  ·rfl
theorem strG_newm {ks : List ByteArray} {mb : ByteArray → Nat} {t : ByteArray} {b : Nat} (h : t ∉ ks) (k : Value) : fput (strG ks fun s => .map (some (mb s))) (.string t) (.map (some b)) k = strG (ks ++ [t]) (fun s => .map (some (upd mb t b s))) k := by
 rw [strG_new h]
 congr 1
 funext s
 unfold upd
 split <;> rfl
theorem map_new {α β : Type} {ks : List α} {t : α} {Q Q' : α → β} (h : ∀ s ∈ ks, Q' s = Q s) : ((ks ++ [t]).map Q').eraseIdx ks.length = ks.map Q := by
 rw [List.map_append, List.eraseIdx_append_of_length_le (by simp)]
 simp only [List.length_map, Nat.sub_self, List.map_cons, List.map_nil, List.eraseIdx_cons_zero, List.append_nil]
 exact List.map_congr_left h
theorem strG_set {ks : List ByteArray} {F : ByteArray → Value} {t : ByteArray} {v : Value} (h : t ∈ ks) (k : Value) : fput (strG ks F) (.string t) v k = strG ks (upd F t v) k := by
 unfold fput
 by_cases hk : k = .string t
 ·subst hk
  rw [if_pos rfl, strG_in h, upd_at]
 ·rw [if_neg hk]
  unfold strG
  split
  ·rename_i s
   have hs : s ≠ t := fun he => hk (by rw [he])
   rw [upd_ne _ _ hs]
  ·rfl
def goneDots (p : List DoneT) (t : ByteArray) : List DotT := (p.filter fun x => x.o.remove && decide (x.o.text = t)).flatMap (·.o.dots)
theorem goneDots_snoc (p : List DoneT) (x : DoneT) (t : ByteArray) : goneDots (p ++ [x]) t = goneDots p t ++ if x.o.remove = true ∧ x.o.text = t then x.o.dots else [] := by
 unfold goneDots
 rw [List.filter_append, List.flatMap_append]
 congr 1
 by_cases h1 : x.o.remove = true
 ·by_cases h2 : x.o.text = t
  ·simp [h1, h2]
  ·simp [h1, h2]
 ·simp [h1]
theorem goneDots_skip {l : List DoneT} {i : Int} {x : DoneT} (hx : l[i.toNat]? = some x) (hi : 0 ≤ i) (hr : x.o.remove = false) (t : ByteArray) : goneDots (l.take (i + 1).toNat) t = goneDots (l.take i.toNat) t := by
 rw [← take_snoc hi hx, goneDots_snoc, if_neg (by simp [hr]), List.append_nil]
theorem goneDots_new {l : List DoneT} {i : Int} {x : DoneT} (hx : l[i.toNat]? = some x) (hi : 0 ≤ i) (hr : x.o.remove = true) : goneDots (l.take (i + 1).toNat) x.o.text = goneDots (l.take i.toNat) x.o.text ++ x.o.dots := by
 rw [← take_snoc hi hx, goneDots_snoc, if_pos ⟨hr, rfl⟩]
theorem goneDots_other {l : List DoneT} {i : Int} {x : DoneT} (hx : l[i.toNat]? = some x) (hi : 0 ≤ i) {t : ByteArray} (ht : t ≠ x.o.text) : goneDots (l.take (i + 1).toNat) t = goneDots (l.take i.toNat) t := by
 rw [← take_snoc hi hx, goneDots_snoc, if_neg (fun h => ht h.2.symm), List.append_nil]
theorem goneDots_none {p : List DoneT} {t : ByteArray} (h : ∀ z ∈ p, z.o.remove = true → z.o.text ≠ t) : goneDots p t = [] := by
 unfold goneDots
 rw [List.filter_eq_nil_iff.2]
 ·rfl
 ·intro z hz
  simp only [Bool.and_eq_true, decide_eq_true_eq, not_and]
  exact fun hr => h z hz hr
theorem goneB_iff {l : List DoneT} {t : ByteArray} {d : DotT} : goneB l t d = true ↔ d ∈ goneDots l t := by
 simp only [goneB, goneDots, List.any_eq_true, List.mem_flatMap, List.mem_filter, Bool.and_eq_true, decide_eq_true_eq]
 constructor
 ·rintro ⟨x, h1, h2, h3, h4⟩
  exact ⟨x, ⟨h1, h2, h3⟩, h4⟩
 ·rintro ⟨x, ⟨h1, h2, h3⟩, h4⟩
  exact ⟨x, h1, h2, h3, h4⟩
def outDots (l p : List DoneT) (t : ByteArray) : List DotT := ((p.filter fun a => !a.o.remove && !goneB l a.o.text a.d).filter fun a => decide (a.o.text = t)).map (·.d)
theorem outDots_snoc (l p : List DoneT) (x : DoneT) (t : ByteArray) : outDots l (p ++ [x]) t = outDots l p t ++ if (x.o.remove = false ∧ x.d ∉ goneDots l x.o.text) ∧ x.o.text = t then [x.d] else [] := by
 unfold outDots
 rw [List.filter_append, List.filter_append, List.map_append]
 congr 1
 by_cases h3 : x.d ∈ goneDots l x.o.text
 ·have hb := goneB_iff.2 h3
  rw [if_neg (fun h => h.1.2 h3)]
  simp only [List.filter_cons, List.filter_nil, hb, Bool.not_true, Bool.and_false, if_neg (Bool.false_ne_true), List.map_nil]
 ·have hb : goneB l x.o.text x.d = false := by
   rw [Bool.eq_false_iff]
   exact fun hc => h3 (goneB_iff.1 hc)
  cases h1 : x.o.remove with
  | true =>
   rw [if_neg (fun h => by cases h.1.1)]
   simp only [List.filter_cons, List.filter_nil, hb, h1, Bool.not_true, Bool.false_and, if_neg (Bool.false_ne_true), List.map_nil]
  | false =>
   simp only [List.filter_cons, List.filter_nil, hb, h1, Bool.not_false, Bool.and_self, if_true]
   by_cases h2 : x.o.text = t
   ·rw [if_pos (decide_eq_true h2), if_pos ⟨⟨trivial, h3⟩, h2⟩]
    rfl
   ·rw [if_neg (show ¬ decide (x.o.text = t) = true by simpa using h2), if_neg (fun h => h2 h.2)]
    rfl
theorem outDots_skip {l : List DoneT} {i : Int} {x : DoneT} (hx : l[i.toNat]? = some x) (hi : 0 ≤ i) (h : x.o.remove = true ∨ x.d ∈ goneDots l x.o.text) (t : ByteArray) : outDots l (l.take (i + 1).toNat) t = outDots l (l.take i.toNat) t := by
 rw [← take_snoc hi hx, outDots_snoc, if_neg, List.append_nil]
 rintro ⟨⟨h1, h2⟩, _⟩
 rcases h with h | h
 ·rw [h] at h1; cases h1
 ·exact h2 h
theorem outDots_new {l : List DoneT} {i : Int} {x : DoneT} (hx : l[i.toNat]? = some x) (hi : 0 ≤ i) (h1 : x.o.remove = false) (h2 : x.d ∉ goneDots l x.o.text) : outDots l (l.take (i + 1).toNat) x.o.text = outDots l (l.take i.toNat) x.o.text ++ [x.d] := by
 rw [← take_snoc hi hx, outDots_snoc, if_pos ⟨⟨h1, h2⟩, rfl⟩]
theorem outDots_other {l : List DoneT} {i : Int} {x : DoneT} (hx : l[i.toNat]? = some x) (hi : 0 ≤ i) {t : ByteArray} (ht : t ≠ x.o.text) : outDots l (l.take (i + 1).toNat) t = outDots l (l.take i.toNat) t := by
 rw [← take_snoc hi hx, outDots_snoc, if_neg (fun h => ht h.2.symm), List.append_nil]
theorem outDots_len (l p : List DoneT) (t : ByteArray) : (outDots l p t).length ≤ p.length := by
 unfold outDots
 rw [List.length_map]
 exact Nat.le_trans (List.length_filter_le _ _) (List.length_filter_le _ _)
theorem stp_accform {h r : List (Nat × Obj)} {F : List (List Nat × World)} {S0 : Nat → Prop} {C0 : List Chunk} {G0 : List (Value × D)} (q : Nat) {v : Value} {e k : Nat} {rows : List (List D)} (hq : C0[q]? = some (cAcc v e k rows)) : Stp h r F ⟨S0, C0, G0⟩ (fun x : Option Addr × Nat × Nat => v = .slice x.1 x.2.1 x.2.2 ∧ x.2.1 = rows.length) fun _ => ⟨S0, C0, G0⟩ := by
 intro w fps hO H
 obtain ⟨fp, _, _, hP⟩ := H.chs.at hq
 rcases hP with ⟨h1, h2, _⟩ | ⟨g, cap, cur, xs, h2, _⟩
 ·exact ⟨(none, 0, 0), fps, ⟨h2, by rw [h1]; rfl⟩, fun _ hb => hb, H⟩
 ·exact ⟨(some ⟨g, 0, none⟩, rows.length, cap), fps, ⟨h2, rfl⟩, fun _ hb => hb, H⟩
theorem stp_cs {h r : List (Nat × Obj)} {F : List (List Nat × World)} {S0 : Nat → Prop} {C0 : List Chunk} {G0 : List (Value × D)} (cs : List Nat) {C' : List Chunk} (hC : pick C0 cs = C') (hcs : cs.Nodup := by decide) : Stp h r F ⟨S0, C0, G0⟩ (fun _ : Unit => True) fun _ => ⟨S0, C', G0⟩ := by
 intro w fps hO H
 subst hC
 have hS : ∀ b, Sd ⟨S0, C0, G0⟩ h fps b → Sd ⟨S0, C0, G0⟩ h (pick fps cs) b := fun b hb => Sd_sub (fun b hb => pick_flat_sub hb) hb
 exact ⟨(), pick fps cs, trivial, fun b hb => pick_flat_sub hb, H.less (fun b hb => pick_flat_sub hb) (pick_flat_nodup H.nodup hcs) ((H.chs.pick cs).mono (fun _ _ => rfl) fun b hb _ => ⟨hS b hb, rfl⟩) fun x hx => (H.g x hx).mono fun b hb _ => ⟨hS b hb, rfl⟩⟩
structure LiveS where
 i : Int
 es : Array MapEntry
 clock : Nat
 ks : List ByteArray
 mb : ByteArray → Nat
structure GoneS where
 i : Int
 es : Array MapEntry
 clock : Nat
structure OutS where
 i : Int
 es : Array MapEntry
 clock : Nat
 ks : List ByteArray
 F : ByteArray → Value
section puts
variable {P : Program} {f : Func} {R : Act → World → Prop} {n : Nat} {k : List Itm} {E : Env} {h r : List (Nat × Obj)} {F : List (List Nat × World)} {Y : Ghost}
theorem JRg_puts {id L0 i : Nat} {ck : Bool} {Wp : List (Nat × List Nat)} {rest : List (Nat × Bool)} (p b t kt et : Nat) (ok : Value → Prop) (key val : Value) (dst : Option Tmp) {es : Array MapEntry} {clock : Nat} {g : Value → Option Value}
  (he : putOf n (rgOf f id) E i = some (.map (some b), key, val, t, dst)) (hok : (!ck || okW L0 (Wp.lookup i) [p]) = true) (ht : P.underlying t = some (.map kt et)) (hK : KeyOk P kt ok) (hk : ok key)
  (hp : h[p]? = some (b, .map es clock)) (hm : MapG ok es g)
  (A : ∀ es' clock', MapG ok es' (fput g key val) → es'.size ≤ es.size + 1 → (Stamped es clock → Stamped es' clock') → JR P f R n (rgOf f id) L0 ck rest (Wp.filter (·.1 != i)) k (E.put dst (.val undef)) (h.set p (b, .map es' clock')) r F Y) :
  JR P f R n (rgOf f id) L0 ck ((i, false) :: rest) Wp k E h r F Y := by
 intro BB Hd fps a w s hH hR hN hW
 simp only [PW]
 have hb : w.heap[b]? = some (.map es clock) := s.own.own _ (List.mem_of_getElem? hp)
 refine putOf_sound he s ?_
 rcases hm.look hK hk with ⟨h1, _, h2⟩ | ⟨j, e, h1, h2, h3, _⟩
 ·refine ⟨{ w with heap := w.heap.setIfInBounds b (.map (es.push ⟨key, val, clock⟩) (clock + 1)) }, ?_, fun a' hA => JR_setmap hok hp s hH hR hN hW hA (A _ _ (hm.push hk h2) (by simp) fun hst => stamped_push hst h2)⟩
  simp [Instr.mapUpdate, run_underlying ht, MapKept.run_getObj_map hb, hK.chk _ _ hk, h1, MapKept.run_setObj_map _ hb, Result.andThen]
 ·have hj : es[j]? = some e := by simpa using h2
  refine ⟨{ w with heap := w.heap.setIfInBounds b (.map (es.modify j fun x => { x with key := key, val := val }) clock) }, ?_, fun a' hA => JR_setmap hok hp s hH hR hN hW hA (A _ _ (hm.turn h2 h3) (by simp) fun hst => stamped_modify hst j _ (fun _ _ => rfl) fun x _ hx => by rw [hj] at hx; cases hx; exact h3.symm)⟩
  simp [Instr.mapUpdate, run_underlying ht, MapKept.run_getObj_map hb, hK.chk _ _ hk, h1, hj, h3, hK.stays _ hk, MapKept.run_setObj_map _ hb, Result.andThen]
end puts
end Go.Sx
namespace Go.Proofs.YtpjkiomccpjboaaGreatDoor
open Go Go.Sx Go.MapKept
set_option maxHeartbeats 4000000 in
theorem vLive {w : World} {S : Nat → Prop} {a : Option Addr} {n c : Nat} {l : List DoneT} (h : Rep w S (.slice a n c) (.sl 11 (l.map eDone))) (hl : l.length ≤ 4000000) (hdl : ∀ x ∈ l, x.o.dots.length ≤ 1000000) :
  Calls Tryz.prog 65 #[.slice a n c] w fun e w' => ∃ mb es clock ks F, Ret [] w S w' e (.map (some mb)) [cObj mb (.map es clock), cStar (ks.map fun t => cAcc (F t) 65 3 ((textDots l t).map eDot))] [] ∧ MapG (IsKey .string) es (strG ks F) ∧ MapKept.Stamped es clock ∧ ks.Nodup ∧ (∀ t, t ∈ ks ↔ textDots l t ≠ []) := by
 have e1 := h.slen
 rw [List.length_map] at e1
 subst e1
 refine ep65 (args := [.slice a l.length c]) (G := [(_, .sl 11 (l.map eDone))]) (by kernel_rfl) (.cons h (.nil _ _)) ?_
 refine Sq mixed [zR 0] [] [0, 2] (fun _ => [zS 0 a l.length c, zV 2 (.map none)]) (fun _ => []) (fun _ => ?_)
 refine Sq mixed [.wr 0 [] 0, zR 1] [] [0, 2, 3] (fun nu1 => [zS 0 a l.length c, zV 2 (.map none), zV 3 (.map (some (nu1 0)))]) (fun nu1 => [(nu1 0, Obj.map #[] 0)]) (fun nu1 => ?_)
 refine J_seq ?_
 refine Sq mixed [zR 0, zR 1, zR 2] [] [0, 2, 3, 12, 13, 14] (fun _ => [zS 0 a l.length c, zV 2 (.map none), zV 3 (.map (some (nu1 0))), zS 12 a l.length c, zI 13 (↑l.length : Int), zI 14 0]) (fun _ => [(nu1 0, Obj.map #[] 0)]) (fun _ => ?_)
 refine J_block ?_
 refine J_stp (stp_add (cStar []) star_nil) ?_
 have hm0 : MapG (IsKey .string) #[] (strG [] fun t => .map (some ((fun _ => 0 : ByteArray → Nat) t))) := (MapG.empty _).congr fun k => (strG_nil _ k).symm
 refine J_loopx (fun x : LiveS => [zS 0 a l.length c, zV 2 (.map none), zV 3 (.map (some (nu1 0))), zS 12 a l.length c, zI 13 (↑l.length : Int), zI 14 x.i]) (fun x : LiveS => [(nu1 0, .map x.es x.clock)]) (fun x : LiveS => [cStar (x.ks.map fun t => cMapG (x.mb t) okDot (dotSet (goneDots (l.take x.i.toNat) t)))]) (fun x : LiveS => [(.slice a l.length c, (D.sl 11 (List.map eDone l)))]) (fun x : LiveS => (l.length - x.i).toNat) (fun x : LiveS => (0 ≤ x.i ∧ x.i ≤ l.length ∧ MapG (IsKey .string) x.es (strG x.ks fun t => .map (some (x.mb t))) ∧ x.ks.Nodup ∧ ∀ z ∈ l.take x.i.toNat, z.o.remove = true → z.o.text ∈ x.ks)) ⟨0, #[], 0, [], fun _ => 0⟩ [0, 2, 3, 12, 13, 14] [0] [0] [0] ?_ (by kernel_rfl) rfl rfl rfl ?_
 ·exact ⟨by simp, by simp, hm0, by simp, by simp⟩
 rintro ⟨i, es, clock, ks, mb⟩ ⟨hi0, hi, hm, hnd, hall⟩
 dsimp only at hi0 hi hm hnd hall ⊢
 refine Sq mixed [zR 0] [] [0, 2, 3, 12, 13, 14, 15] (fun _ => [zS 0 a l.length c, zV 2 (.map none), zV 3 (.map (some (nu1 0))), zS 12 a l.length c, zI 13 (↑l.length : Int), zI 14 i, zB 15 (decide (i < (↑l.length : Int)))]) (fun _ => [(nu1 0, Obj.map es clock)]) (fun _ => ?_)
 refine J_seq ?_
 refine cC (t := decide (i < (↑l.length : Int))) (fun hlt => ?_) (fun hlt => ?_)
 ·have hlt2 : i < l.length := by simpa using hlt
  obtain ⟨x, hx⟩ : ∃ x, l[i.toNat]? = some x := ⟨_, List.getElem?_eq_getElem (by omega)⟩
  have hdx := hdl x (List.mem_of_getElem? hx)
  refine J_read1 0 rfl i.toNat (map_at hx) (by kernel_rfl) (fun b1 off1 cs1 ty1 fz1 a1_0 c1_0 ha1 hrd1 => ?_)
  cases ha1
  have hrd1_0 := rd0 (hrd1 0 _ rfl)
  have hrd1_1 := hrd1 1 _ rfl
  have hrd1_2 := hrd1 2 _ rfl
  have hrd1_3 := hrd1 3 _ rfl
  have hrd1_4 := hrd1 4 _ rfl
  have hrd1_5 := hrd1 5 _ rfl
  have hrd1_6 := hrd1 6 _ rfl
  have hrd1_7 := hrd1 7 _ rfl
  have hrd1_8 := hrd1 8 _ rfl
  have hrd1_9 := hrd1 9 _ rfl
  have hrd1_10 := hrd1 10 _ rfl
  cases hrem : x.o.remove with
  | false =>
   try simp only [cAp, nAp, aNl]
   refine J_skip ?_
   refine J_seq ?_
   refine J_block ?_
   refine Sp mixed [.rd 0 [] 0 2, .rd 1 [.r 0 (some (nI x.o.no)), .r 0 (some (.string x.o.key)), .r 0 (some (nI x.o.kind)), .r 0 (some (.string x.o.text)), .r 0 (some (nI x.o.n)), .r 0 (some (.bool x.o.remove)), .r 0 (some (.slice (a1_0, c1_0).fst ((List.map eDot x.o.dots).length) c1_0)), .r 0 (some (nI x.d.place)), .r 0 (some (nI x.d.time)), .r 0 (some (nI x.d.no)), .r 0 (some (nI x.w))] 0 0, .wr 2 [] 0, .wr 3 [.o 1 none, .o 1 none, .o 1 none, .o 1 none, .o 1 none, .o 1 none, .o 1 none, .o 1 none, .o 1 none, .o 1 none, .o 1 none] 0] [(3, [])] [0, 2, 3, 5, 12, 13, 14] (fun nu2 => [zS 0 (sA b1 off1) l.length c, zV 2 (.map none), zV 3 (.map (some (nu1 0))), zP 5 (nu2 0), zS 12 (sA b1 off1) l.length c, zI 13 (↑l.length : Int), zI 14 i]) (fun nu2 => [(nu1 0, Obj.map es clock), (nu2 0, .cells #[nI x.o.no, .string x.o.key, nI x.o.kind, .string x.o.text, nI x.o.n, .bool x.o.remove, .slice (a1_0, c1_0).fst ((List.map eDot x.o.dots).length) c1_0, nI x.d.place, nI x.d.time, nI x.d.no, nI x.w] 112 (0, 0))]) (fun nu2 => [(0 : Int) ≤ i, i < (↑l.length : Int), cs1[off1 + i.toNat * (11 : Nat)]? = some (nI x.o.no), cs1[off1 + i.toNat * (11 : Nat) + (1 : Nat)]? = some (Value.string x.o.key), cs1[off1 + i.toNat * (11 : Nat) + (2 : Nat)]? = some (nI x.o.kind), cs1[off1 + i.toNat * (11 : Nat) + (3 : Nat)]? = some (Value.string x.o.text), cs1[off1 + i.toNat * (11 : Nat) + (4 : Nat)]? = some (nI x.o.n), cs1[off1 + i.toNat * (11 : Nat) + (5 : Nat)]? = some (Value.bool x.o.remove), cs1[off1 + i.toNat * (11 : Nat) + (6 : Nat)]? = some (Value.slice (a1_0, c1_0).fst (List.map eDot x.o.dots).length (a1_0, c1_0).snd), cs1[off1 + i.toNat * (11 : Nat) + (7 : Nat)]? = some (nI x.d.place), cs1[off1 + i.toNat * (11 : Nat) + (8 : Nat)]? = some (nI x.d.time), cs1[off1 + i.toNat * (11 : Nat) + (9 : Nat)]? = some (nI x.d.no), cs1[off1 + i.toNat * (11 : Nat) + (10 : Nat)]? = some (nI x.w)]) (fun _ => ⟨hi0, hlt2, hrd1_0, hrd1_1, hrd1_2, hrd1_3, hrd1_4, hrd1_5, hrd1_6, hrd1_7, hrd1_8, hrd1_9, hrd1_10, trivial⟩) (fun nu2 => ?_)
   refine Sq mixed [zR 0, zR 1, .rd 2 [.o 1 none] 0 0] [] [0, 2, 3, 5, 12, 13, 14, 20] (fun _ => [zS 0 (sA b1 off1) l.length c, zV 2 (.map none), zV 3 (.map (some (nu1 0))), zP 5 (nu2 0), zS 12 (sA b1 off1) l.length c, zI 13 (↑l.length : Int), zI 14 i, zB 20 x.o.remove]) (fun _ => [(nu1 0, Obj.map es clock), (nu2 0, .cells #[nI x.o.no, .string x.o.key, nI x.o.kind, .string x.o.text, nI x.o.n, .bool x.o.remove, .slice (a1_0, c1_0).fst ((List.map eDot x.o.dots).length) c1_0, nI x.d.place, nI x.d.time, nI x.d.no, nI x.w] 112 (0, 0))]) (fun _ => ?_)
   refine J_condF x.o.remove (by kernel_rfl) (by kernel_rfl) (by simpa using ‹_›) ?_
   refine J_skip ?_
   refine J_eb ?_
   refine Gp mixed [.rd 0 [] 0 1, zR 1] [] [0, 2, 3, 5, 12, 13, 14] (fun _ => [zS 0 (sA b1 off1) l.length c, zV 2 (.map none), zV 3 (.map (some (nu1 0))), zP 5 (nu2 0), zS 12 (sA b1 off1) l.length c, zI 13 (↑l.length : Int), zI 14 (i + 1)]) (fun _ => [(nu1 0, Obj.map es clock), (nu2 0, .cells #[nI x.o.no, .string x.o.key, nI x.o.kind, .string x.o.text, nI x.o.n, .bool x.o.remove, .slice (a1_0, c1_0).fst ((List.map eDot x.o.dots).length) c1_0, nI x.d.place, nI x.d.time, nI x.d.no, nI x.w] 112 (0, 0))]) (fun _ => [IntKind.i64.wrap (i + (1 : Int)) = i + (1 : Int)]) (fun _ => ⟨wrap_i64 (by omega) (by omega), trivial⟩) (fun _ => ?_)
   have e4 : (fun t => cMapG (mb t) okDot (dotSet (goneDots (l.take i.toNat) t))) = fun t => cMapG (mb t) okDot (dotSet (goneDots (l.take (i + 1).toNat) t)) := funext fun t => by rw [goneDots_skip hx hi0 hrem]
   rw [e4]
   refine J_backx ⟨i + 1, _, _, ks, mb⟩ [0, 2, 3, 12, 13, 14] [0] [0] [0] ?_ ?_ (by kernel_rfl) rfl rfl rfl
   ·refine ⟨by simp only; omega, by simp only; omega, hm, hnd, fun z hz hzr => ?_⟩
    rw [← take_snoc hi0 hx, List.mem_append, List.mem_singleton] at hz
    rcases hz with hz | rfl
    ·exact hall z hz hzr
    ·rw [hrem] at hzr; cases hzr
   ·simp only
    omega
  | true =>
   by_cases hT0 : x.o.text ∈ ks
   ·have hT := hT0
    obtain ⟨iT, hit⟩ := List.getElem?_of_mem hT
    try simp only [cAp, nAp, aNl]
    refine J_skip ?_
    refine J_seq ?_
    refine J_block ?_
    refine Sp mixed [.rd 0 [] 0 2, .rd 1 [.r 0 (some (nI x.o.no)), .r 0 (some (.string x.o.key)), .r 0 (some (nI x.o.kind)), .r 0 (some (.string x.o.text)), .r 0 (some (nI x.o.n)), .r 0 (some (.bool x.o.remove)), .r 0 (some (.slice (a1_0, c1_0).fst ((List.map eDot x.o.dots).length) c1_0)), .r 0 (some (nI x.d.place)), .r 0 (some (nI x.d.time)), .r 0 (some (nI x.d.no)), .r 0 (some (nI x.w))] 0 0, .wr 2 [] 0, .wr 3 [.o 1 none, .o 1 none, .o 1 none, .o 1 none, .o 1 none, .o 1 none, .o 1 none, .o 1 none, .o 1 none, .o 1 none, .o 1 none] 0] [(3, [])] [0, 2, 3, 5, 12, 13, 14] (fun nu2 => [zS 0 (sA b1 off1) l.length c, zV 2 (.map none), zV 3 (.map (some (nu1 0))), zP 5 (nu2 0), zS 12 (sA b1 off1) l.length c, zI 13 (↑l.length : Int), zI 14 i]) (fun nu2 => [(nu1 0, Obj.map es clock), (nu2 0, .cells #[nI x.o.no, .string x.o.key, nI x.o.kind, .string x.o.text, nI x.o.n, .bool x.o.remove, .slice (a1_0, c1_0).fst ((List.map eDot x.o.dots).length) c1_0, nI x.d.place, nI x.d.time, nI x.d.no, nI x.w] 112 (0, 0))]) (fun nu2 => [(0 : Int) ≤ i, i < (↑l.length : Int), cs1[off1 + i.toNat * (11 : Nat)]? = some (nI x.o.no), cs1[off1 + i.toNat * (11 : Nat) + (1 : Nat)]? = some (Value.string x.o.key), cs1[off1 + i.toNat * (11 : Nat) + (2 : Nat)]? = some (nI x.o.kind), cs1[off1 + i.toNat * (11 : Nat) + (3 : Nat)]? = some (Value.string x.o.text), cs1[off1 + i.toNat * (11 : Nat) + (4 : Nat)]? = some (nI x.o.n), cs1[off1 + i.toNat * (11 : Nat) + (5 : Nat)]? = some (Value.bool x.o.remove), cs1[off1 + i.toNat * (11 : Nat) + (6 : Nat)]? = some (Value.slice (a1_0, c1_0).fst (List.map eDot x.o.dots).length (a1_0, c1_0).snd), cs1[off1 + i.toNat * (11 : Nat) + (7 : Nat)]? = some (nI x.d.place), cs1[off1 + i.toNat * (11 : Nat) + (8 : Nat)]? = some (nI x.d.time), cs1[off1 + i.toNat * (11 : Nat) + (9 : Nat)]? = some (nI x.d.no), cs1[off1 + i.toNat * (11 : Nat) + (10 : Nat)]? = some (nI x.w)]) (fun _ => ⟨hi0, hlt2, hrd1_0, hrd1_1, hrd1_2, hrd1_3, hrd1_4, hrd1_5, hrd1_6, hrd1_7, hrd1_8, hrd1_9, hrd1_10, trivial⟩) (fun nu2 => ?_)
    refine J_seq ?_
    refine J_stp (stp_take 0 iT rfl (by rw [List.getElem?_map, hit]; rfl)) ?_
    refine J_openmapg 0 rfl fun es1 clock1 hm1 => ?_
    have hgm := hm
    have hnd2 := hnd
    have hall2 : ∀ z ∈ l.take (i + 1).toNat, z.o.remove = true → z.o.text ∈ ks := fun z hz hzr => by
     rw [← take_snoc hi0 hx, List.mem_append, List.mem_singleton] at hz
     rcases hz with hz | rfl
     ·exact hall z hz hzr
     ·exact hT
    have hE := map_out (Q' := fun t => cMapG (mb t) okDot (dotSet (goneDots (l.take (i + 1).toNat) t))) (Q := fun t => cMapG (mb t) okDot (dotSet (goneDots (l.take i.toNat) t))) hnd hit fun s hs => by
     show cMapG (mb s) okDot (dotSet (goneDots (l.take (i + 1).toNat) s)) = cMapG (mb s) okDot (dotSet (goneDots (l.take i.toNat) s))
     rw [goneDots_other hx hi0 hs]
    refine Gq mixed [zR 0, zR 1, .rd 2 [.o 1 none] 0 0] [] [0, 2, 3, 5, 12, 13, 14, 20] (fun _ => [zS 0 (sA b1 off1) l.length c, zV 2 (.map none), zV 3 (.map (some (nu1 0))), zP 5 (nu2 0), zS 12 (sA b1 off1) l.length c, zI 13 (↑l.length : Int), zI 14 i, zB 20 x.o.remove]) (fun _ => [(nu1 0, Obj.map es clock), (nu2 0, .cells #[nI x.o.no, .string x.o.key, nI x.o.kind, .string x.o.text, nI x.o.n, .bool x.o.remove, .slice (a1_0, c1_0).fst ((List.map eDot x.o.dots).length) c1_0, nI x.d.place, nI x.d.time, nI x.d.no, nI x.w] 112 (0, 0)), (mb x.o.text, Obj.map es1 clock1)]) (fun _ => ?_)
    refine J_condT x.o.remove (by kernel_rfl) (by kernel_rfl) (by simpa using ‹_›) ?_
    refine J_seq ?_
    refine J_seq ?_
    refine jB mixed [(0, true), (1, true), (2, true), (3, true), (4, true), (5, true)] [] ?_
    refine Gr (id := 6) (rest := [(4, true), (5, true)]) [zR 0, zR 1, zR 2, .rd 3 [.o 1 none] 0 0] [0, 2, 3, 5, 12, 13, 14, 21, 24] (fun _ => [zS 0 (sA b1 off1) l.length c, zV 2 (.map none), zV 3 (.map (some (nu1 0))), zP 5 (nu2 0), zS 12 (sA b1 off1) l.length c, zI 13 (↑l.length : Int), zI 14 i, zV 21 (.map (some (nu1 0))), zV 24 (.string x.o.text)]) (fun _ => [(nu1 0, Obj.map es clock), (nu2 0, .cells #[nI x.o.no, .string x.o.key, nI x.o.kind, .string x.o.text, nI x.o.n, .bool x.o.remove, .slice (a1_0, c1_0).fst ((List.map eDot x.o.dots).length) c1_0, nI x.d.place, nI x.d.time, nI x.d.no, nI x.w] 112 (0, 0)), (mb x.o.text, Obj.map es1 clock1)]) (fun _ => ?_)
    refine JRg_lookr (.o 0 none) (nu1 0) 161 9 131 (IsKey TypeDesc.string) (.string x.o.text) (.map none) false (some 25) (by kernel_rfl) (by kernel_rfl) (by kernel_rfl) keyOk_9 (by first | exact ⟨_, _, _, rfl⟩ | simp [MapKept.IsKey]) (by kernel_rfl) rfl hgm (fun hno => ?_) (fun v hv => ?_)
    ·rw [strG_in hT] at hno
     cases hno
    ·rw [strG_in hT] at hv
     cases hv
     refine Gr (id := 6) (rest := []) [zR 5] [0, 2, 3, 5, 12, 13, 14, 26] (fun _ => [zS 0 (sA b1 off1) l.length c, zV 2 (.map none), zV 3 (.map (some (nu1 0))), zP 5 (nu2 0), zS 12 (sA b1 off1) l.length c, zI 13 (↑l.length : Int), zI 14 i, zB 26 false]) (fun _ => [(nu1 0, Obj.map es clock), (nu2 0, .cells #[nI x.o.no, .string x.o.key, nI x.o.kind, .string x.o.text, nI x.o.n, .bool x.o.remove, .slice (a1_0, c1_0).fst ((List.map eDot x.o.dots).length) c1_0, nI x.d.place, nI x.d.time, nI x.d.no, nI x.w] 112 (0, 0)), (mb x.o.text, Obj.map es1 clock1)]) (fun _ => ?_)
     refine JR_end ?_
     refine cF ?_
     refine J_skip ?_
     refine Sq mixed [zR 0, zR 1, .rd 2 [.o 1 none] 0 0, zR 3, zR 4] [] [0, 2, 3, 5, 12, 13, 14, 34, 35, 36] (fun _ => [zS 0 (sA b1 off1) l.length c, zV 2 (.map none), zV 3 (.map (some (nu1 0))), zP 5 (nu2 0), zS 12 (sA b1 off1) l.length c, zI 13 (↑l.length : Int), zI 14 i, zS 34 (a1_0, c1_0).fst ((List.map eDot x.o.dots).length) c1_0, zI 35 ((↑(List.map eDot x.o.dots).length : Int)), zI 36 0]) (fun _ => [(nu1 0, Obj.map es clock), (nu2 0, .cells #[nI x.o.no, .string x.o.key, nI x.o.kind, .string x.o.text, nI x.o.n, .bool x.o.remove, .slice (a1_0, c1_0).fst ((List.map eDot x.o.dots).length) c1_0, nI x.d.place, nI x.d.time, nI x.d.no, nI x.w] 112 (0, 0)), (mb x.o.text, Obj.map es1 clock1)]) (fun _ => ?_)
     refine J_block ?_
     refine J_loopx (fun y : GoneS => [zS 0 (sA b1 off1) l.length c, zV 2 (.map none), zV 3 (.map (some (nu1 0))), zP 5 (nu2 0), zS 12 (sA b1 off1) l.length c, zI 13 (↑l.length : Int), zI 14 i, zS 34 (a1_0, c1_0).fst ((List.map eDot x.o.dots).length) c1_0, zI 35 ((↑(List.map eDot x.o.dots).length : Int)), zI 36 y.i]) (fun y : GoneS => [(nu1 0, Obj.map es clock), (nu2 0, .cells #[nI x.o.no, .string x.o.key, nI x.o.kind, .string x.o.text, nI x.o.n, .bool x.o.remove, .slice (a1_0, c1_0).fst ((List.map eDot x.o.dots).length) c1_0, nI x.d.place, nI x.d.time, nI x.d.no, nI x.w] 112 (0, 0)), (mb x.o.text, .map y.es y.clock)]) (fun y : GoneS => [cStar ((ks.map fun t => cMapG (mb t) okDot (dotSet (goneDots (l.take i.toNat) t))).eraseIdx iT)]) (fun y : GoneS => [(.slice (sA b1 off1) l.length c, (D.sl 11 (List.map eDone l))), (.slice (a1_0, c1_0).fst ((List.map eDot x.o.dots).length) c1_0, (D.sl 3 (List.map eDot x.o.dots)))]) (fun y : GoneS => (x.o.dots.length - y.i).toNat) (fun y : GoneS => (0 ≤ y.i ∧ y.i ≤ x.o.dots.length ∧ MapG okDot y.es (dotSet (goneDots (l.take i.toNat) x.o.text ++ x.o.dots.take y.i.toNat)))) ⟨0, es1, clock1⟩ [0, 2, 3, 5, 12, 13, 14, 34, 35, 36] [0, 1, 2] [0] [0, 1] ?_ (by kernel_rfl) rfl rfl rfl ?_
     ·exact ⟨by simp, by simp, by simpa using hm1⟩
     rintro ⟨j, es4, clock4⟩ ⟨hj0, hj, hmj⟩
     dsimp only at hj0 hj hmj ⊢
     refine Sq mixed [zR 0] [] [0, 2, 3, 5, 12, 13, 14, 34, 35, 36, 37] (fun _ => [zS 0 (sA b1 off1) l.length c, zV 2 (.map none), zV 3 (.map (some (nu1 0))), zP 5 (nu2 0), zS 12 (sA b1 off1) l.length c, zI 13 (↑l.length : Int), zI 14 i, zS 34 a1_0 ((List.map eDot x.o.dots).length) c1_0, zI 35 ((↑(List.map eDot x.o.dots).length : Int)), zI 36 j, zB 37 (decide (j < (↑(List.map eDot x.o.dots).length : Int)))]) (fun _ => [(nu1 0, Obj.map es clock), (nu2 0, .cells #[nI x.o.no, .string x.o.key, nI x.o.kind, .string x.o.text, nI x.o.n, .bool x.o.remove, .slice a1_0 ((List.map eDot x.o.dots).length) c1_0, nI x.d.place, nI x.d.time, nI x.d.no, nI x.w] 112 (0, 0)), (mb x.o.text, Obj.map es4 clock4)]) (fun _ => ?_)
     refine J_seq ?_
     refine cC (t := decide (j < (↑(List.map eDot x.o.dots).length : Int))) (fun hlt1 => ?_) (fun hlt1 => ?_)
     ·have hlt3 : j < x.o.dots.length := by simpa using hlt1
      obtain ⟨d, hd⟩ : ∃ d, x.o.dots[j.toNat]? = some d := ⟨_, List.getElem?_eq_getElem (by omega)⟩
      refine J_read0 1 rfl j.toNat (map_at hd) (by kernel_rfl) (fun b2 off2 cs2 ty2 fz2 ha2 hrd2 => ?_)
      cases ha2
      have hrd2_0 := rd0 (hrd2 0 _ rfl)
      have hrd2_1 := hrd2 1 _ rfl
      have hrd2_2 := hrd2 2 _ rfl
      try simp only [cAp, nAp, aNl]
      refine J_skip ?_
      refine J_seq ?_
      refine J_block ?_
      refine Sp mixed [.rd 0 [] 0 2, .rd 1 [.r 1 (some (nI d.place)), .r 1 (some (nI d.time)), .r 1 (some (nI d.no))] 0 0, .wr 2 [] 0, .wr 3 [.o 3 none, .o 3 none, .o 3 none] 0] [(3, [])] [0, 2, 3, 5, 7, 12, 13, 14, 34, 35, 36] (fun nu3 => [zS 0 (sA b1 off1) l.length c, zV 2 (.map none), zV 3 (.map (some (nu1 0))), zP 5 (nu2 0), zP 7 (nu3 0), zS 12 (sA b1 off1) l.length c, zI 13 (↑l.length : Int), zI 14 i, zS 34 (sA b2 off2) ((List.map eDot x.o.dots).length) c1_0, zI 35 ((↑(List.map eDot x.o.dots).length : Int)), zI 36 j]) (fun nu3 => [(nu1 0, Obj.map es clock), (nu2 0, .cells #[nI x.o.no, .string x.o.key, nI x.o.kind, .string x.o.text, nI x.o.n, .bool x.o.remove, .slice (sA b2 off2) ((List.map eDot x.o.dots).length) c1_0, nI x.d.place, nI x.d.time, nI x.d.no, nI x.w] 112 (0, 0)), (mb x.o.text, Obj.map es4 clock4), (nu3 0, .cells #[nI d.place, nI d.time, nI d.no] 65 (0, 0))]) (fun nu3 => [(0 : Int) ≤ j, j < (↑(List.map eDot x.o.dots).length : Int), cs2[off2 + j.toNat * (3 : Nat)]? = some (nI d.place), cs2[off2 + j.toNat * (3 : Nat) + (1 : Nat)]? = some (nI d.time), cs2[off2 + j.toNat * (3 : Nat) + (2 : Nat)]? = some (nI d.no)]) (fun _ => ⟨hj0, by simp; omega, hrd2_0, hrd2_1, hrd2_2, trivial⟩) (fun nu3 => ?_)
      refine jB mixed [(0, true), (1, true), (2, true), (3, true), (4, true), (5, true), (6, false)] [] ?_
      refine Gr (id := 11) (rest := [(4, true), (5, true), (6, false)]) [zR 0, zR 1, zR 2, .rd 3 [.o 1 none] 0 0] [0, 2, 3, 5, 7, 12, 13, 14, 34, 35, 36, 40, 43] (fun _ => [zS 0 (sA b1 off1) l.length c, zV 2 (.map none), zV 3 (.map (some (nu1 0))), zP 5 (nu2 0), zP 7 (nu3 0), zS 12 (sA b1 off1) l.length c, zI 13 (↑l.length : Int), zI 14 i, zS 34 (sA b2 off2) ((List.map eDot x.o.dots).length) c1_0, zI 35 ((↑(List.map eDot x.o.dots).length : Int)), zI 36 j, zV 40 (.map (some (nu1 0))), zV 43 (.string x.o.text)]) (fun _ => [(nu1 0, Obj.map es clock), (nu2 0, .cells #[nI x.o.no, .string x.o.key, nI x.o.kind, .string x.o.text, nI x.o.n, .bool x.o.remove, .slice (sA b2 off2) ((List.map eDot x.o.dots).length) c1_0, nI x.d.place, nI x.d.time, nI x.d.no, nI x.w] 112 (0, 0)), (mb x.o.text, Obj.map es4 clock4), (nu3 0, .cells #[nI d.place, nI d.time, nI d.no] 65 (0, 0))]) (fun _ => ?_)
      refine JRg_lookr (.o 0 none) (nu1 0) 161 9 131 (IsKey TypeDesc.string) (.string x.o.text) (.map none) false (some 44) (by kernel_rfl) (by kernel_rfl) (by kernel_rfl) keyOk_9 (by first | exact ⟨_, _, _, rfl⟩ | simp [MapKept.IsKey]) (by kernel_rfl) rfl hgm (fun hno => ?_) (fun v hv => ?_)
      ·rw [strG_in hT] at hno
       cases hno
      ·rw [strG_in hT] at hv
       cases hv
       refine Gr (id := 11) (rest := [(6, false)]) [.rd 5 [.o 3 none, .o 3 none, .o 3 none] 0 0] [0, 2, 3, 5, 7, 12, 13, 14, 34, 35, 36, 44, 45] (fun _ => [zS 0 (sA b1 off1) l.length c, zV 2 (.map none), zV 3 (.map (some (nu1 0))), zP 5 (nu2 0), zP 7 (nu3 0), zS 12 (sA b1 off1) l.length c, zI 13 (↑l.length : Int), zI 14 i, zS 34 (sA b2 off2) ((List.map eDot x.o.dots).length) c1_0, zI 35 ((↑(List.map eDot x.o.dots).length : Int)), zI 36 j, zV 44 (.map (some (mb x.o.text))), zV 45 (.agg #[nI d.place, nI d.time, nI d.no])]) (fun _ => [(nu1 0, Obj.map es clock), (nu2 0, .cells #[nI x.o.no, .string x.o.key, nI x.o.kind, .string x.o.text, nI x.o.n, .bool x.o.remove, .slice (sA b2 off2) ((List.map eDot x.o.dots).length) c1_0, nI x.d.place, nI x.d.time, nI x.d.no, nI x.w] 112 (0, 0)), (mb x.o.text, Obj.map es4 clock4), (nu3 0, .cells #[nI d.place, nI d.time, nI d.no] 65 (0, 0))]) (fun _ => ?_)
       refine JRg_put 2 (mb x.o.text) 131 65 4 okDot (.agg #[.int .i64 d.place, .int .i64 d.time, .int .i64 d.no]) (.bool true) none (by kernel_rfl) (by kernel_rfl) (by kernel_rfl) keyOk_65 (by first | exact ⟨_, _, _, rfl⟩ | simp [MapKept.IsKey]) rfl hmj (fun es2 clock2 hm2 hsz2 => ?_)
       refine JR_end ?_
       refine J_eb ?_
       refine Gp mixed [.rd 0 [] 0 1, zR 1] [] [0, 2, 3, 5, 7, 12, 13, 14, 34, 35, 36, 44, 45] (fun _ => [zS 0 (sA b1 off1) l.length c, zV 2 (.map none), zV 3 (.map (some (nu1 0))), zP 5 (nu2 0), zP 7 (nu3 0), zS 12 (sA b1 off1) l.length c, zI 13 (↑l.length : Int), zI 14 i, zS 34 (sA b2 off2) ((List.map eDot x.o.dots).length) c1_0, zI 35 ((↑(List.map eDot x.o.dots).length : Int)), zI 36 (j + 1), zV 44 (.map (some (mb x.o.text))), zV 45 (.agg #[nI d.place, nI d.time, nI d.no])]) (fun _ => [(nu1 0, Obj.map es clock), (nu2 0, .cells #[nI x.o.no, .string x.o.key, nI x.o.kind, .string x.o.text, nI x.o.n, .bool x.o.remove, .slice (sA b2 off2) ((List.map eDot x.o.dots).length) c1_0, nI x.d.place, nI x.d.time, nI x.d.no, nI x.w] 112 (0, 0)), (mb x.o.text, Obj.map es2 clock2), (nu3 0, .cells #[nI d.place, nI d.time, nI d.no] 65 (0, 0))]) (fun _ => [IntKind.i64.wrap (j + (1 : Int)) = j + (1 : Int)]) (fun _ => ⟨wrap_i64 (by omega) (by omega), trivial⟩) (fun _ => ?_)
       refine J_backx ⟨j + 1, _, _⟩ [0, 2, 3, 5, 12, 13, 14, 34, 35, 36] [0, 1, 2] [0] [0, 1] ?_ ?_ (by kernel_rfl) rfl rfl rfl
       ·refine ⟨by simp only; omega, by simp only; omega, ?_⟩
        dsimp only
        rw [← take_snoc hj0 hd, ← List.append_assoc]
        exact hm2.congr (dotSet_snoc (d := d))
       ·simp only
        omega
     ·have hjl : (x.o.dots.take j.toNat) = x.o.dots := List.take_of_length_le (by simp at hlt1; omega)
      rw [hjl, ← goneDots_new hx hi0 hrem] at hmj
      refine J_exit rfl ?_
      refine J_eb ?_
      refine J_hide 2 rfl ?_
      refine J_stp (stp_conv 1 rfl (mapg_eqv hmj)) ?_
      refine J_stp (stp_join 1 0 iT (cs' := (ks).map fun t => cMapG (mb t) okDot (dotSet (goneDots (l.take (i + 1).toNat) t))) rfl rfl (by decide) (by rw [List.getElem?_map, hit]; rfl) hE) ?_
      try simp only [cAp, nAp, aNl]
      refine Gp mixed [.rd 0 [] 0 1, zR 1] [] [0, 2, 3, 5, 12, 13, 14, 34, 35, 36] (fun _ => [zS 0 (sA b1 off1) l.length c, zV 2 (.map none), zV 3 (.map (some (nu1 0))), zP 5 (nu2 0), zS 12 (sA b1 off1) l.length c, zI 13 (↑l.length : Int), zI 14 (i + 1), zS 34 a1_0 ((List.map eDot x.o.dots).length) c1_0, zI 35 ((↑(List.map eDot x.o.dots).length : Int)), zI 36 j]) (fun _ => [(nu1 0, Obj.map es clock), (nu2 0, .cells #[nI x.o.no, .string x.o.key, nI x.o.kind, .string x.o.text, nI x.o.n, .bool x.o.remove, .slice a1_0 ((List.map eDot x.o.dots).length) c1_0, nI x.d.place, nI x.d.time, nI x.d.no, nI x.w] 112 (0, 0))]) (fun _ => [IntKind.i64.wrap (i + (1 : Int)) = i + (1 : Int)]) (fun _ => ⟨wrap_i64 (by omega) (by omega), trivial⟩) (fun _ => ?_)
      try simp only [cAp, nAp, aNl]
      refine J_backx ⟨i + 1, _, _, ks, mb⟩ [0, 2, 3, 12, 13, 14] [0] [0] [0] ?_ ?_ (by kernel_rfl) rfl rfl rfl
      ·exact ⟨by simp only; omega, by simp only; omega, hgm, hnd2, fun z hz hzr => hall2 z hz hzr⟩
      ·simp only
       omega
   ·have hT : x.o.text ∈ ks ++ [x.o.text] := by simp
    have hit : (ks ++ [x.o.text])[ks.length]? = some x.o.text := by simp
    have hnd2 : (ks ++ [x.o.text]).Nodup := List.nodup_append.2 ⟨hnd, by simp, fun a ha b hb => by
     rw [List.mem_singleton] at hb
     subst hb
     exact fun he => hT0 (by rw [← he]; exact ha)⟩
    have hall2 : ∀ z ∈ l.take (i + 1).toNat, z.o.remove = true → z.o.text ∈ ks ++ [x.o.text] := fun z hz hzr => by
     rw [← take_snoc hi0 hx, List.mem_append, List.mem_singleton] at hz
     rcases hz with hz | rfl
     ·exact List.mem_append_left _ (hall z hz hzr)
     ·exact hT
    have hg0 : goneDots (l.take i.toNat) x.o.text = [] := goneDots_none fun z hz hzr he => hT0 (he ▸ hall z hz hzr)
    try simp only [cAp, nAp, aNl]
    refine J_skip ?_
    refine J_seq ?_
    refine J_block ?_
    refine Sp mixed [.rd 0 [] 0 2, .rd 1 [.r 0 (some (nI x.o.no)), .r 0 (some (.string x.o.key)), .r 0 (some (nI x.o.kind)), .r 0 (some (.string x.o.text)), .r 0 (some (nI x.o.n)), .r 0 (some (.bool x.o.remove)), .r 0 (some (.slice (a1_0, c1_0).fst ((List.map eDot x.o.dots).length) c1_0)), .r 0 (some (nI x.d.place)), .r 0 (some (nI x.d.time)), .r 0 (some (nI x.d.no)), .r 0 (some (nI x.w))] 0 0, .wr 2 [] 0, .wr 3 [.o 1 none, .o 1 none, .o 1 none, .o 1 none, .o 1 none, .o 1 none, .o 1 none, .o 1 none, .o 1 none, .o 1 none, .o 1 none] 0] [(3, [])] [0, 2, 3, 5, 12, 13, 14] (fun nu2 => [zS 0 (sA b1 off1) l.length c, zV 2 (.map none), zV 3 (.map (some (nu1 0))), zP 5 (nu2 0), zS 12 (sA b1 off1) l.length c, zI 13 (↑l.length : Int), zI 14 i]) (fun nu2 => [(nu1 0, Obj.map es clock), (nu2 0, .cells #[nI x.o.no, .string x.o.key, nI x.o.kind, .string x.o.text, nI x.o.n, .bool x.o.remove, .slice (a1_0, c1_0).fst ((List.map eDot x.o.dots).length) c1_0, nI x.d.place, nI x.d.time, nI x.d.no, nI x.w] 112 (0, 0))]) (fun nu2 => [(0 : Int) ≤ i, i < (↑l.length : Int), cs1[off1 + i.toNat * (11 : Nat)]? = some (nI x.o.no), cs1[off1 + i.toNat * (11 : Nat) + (1 : Nat)]? = some (Value.string x.o.key), cs1[off1 + i.toNat * (11 : Nat) + (2 : Nat)]? = some (nI x.o.kind), cs1[off1 + i.toNat * (11 : Nat) + (3 : Nat)]? = some (Value.string x.o.text), cs1[off1 + i.toNat * (11 : Nat) + (4 : Nat)]? = some (nI x.o.n), cs1[off1 + i.toNat * (11 : Nat) + (5 : Nat)]? = some (Value.bool x.o.remove), cs1[off1 + i.toNat * (11 : Nat) + (6 : Nat)]? = some (Value.slice (a1_0, c1_0).fst (List.map eDot x.o.dots).length (a1_0, c1_0).snd), cs1[off1 + i.toNat * (11 : Nat) + (7 : Nat)]? = some (nI x.d.place), cs1[off1 + i.toNat * (11 : Nat) + (8 : Nat)]? = some (nI x.d.time), cs1[off1 + i.toNat * (11 : Nat) + (9 : Nat)]? = some (nI x.d.no), cs1[off1 + i.toNat * (11 : Nat) + (10 : Nat)]? = some (nI x.w)]) (fun _ => ⟨hi0, hlt2, hrd1_0, hrd1_1, hrd1_2, hrd1_3, hrd1_4, hrd1_5, hrd1_6, hrd1_7, hrd1_8, hrd1_9, hrd1_10, trivial⟩) (fun nu2 => ?_)
    refine Sq mixed [zR 0, zR 1, .rd 2 [.o 1 none] 0 0] [] [0, 2, 3, 5, 12, 13, 14, 20] (fun _ => [zS 0 (sA b1 off1) l.length c, zV 2 (.map none), zV 3 (.map (some (nu1 0))), zP 5 (nu2 0), zS 12 (sA b1 off1) l.length c, zI 13 (↑l.length : Int), zI 14 i, zB 20 x.o.remove]) (fun _ => [(nu1 0, Obj.map es clock), (nu2 0, .cells #[nI x.o.no, .string x.o.key, nI x.o.kind, .string x.o.text, nI x.o.n, .bool x.o.remove, .slice (a1_0, c1_0).fst ((List.map eDot x.o.dots).length) c1_0, nI x.d.place, nI x.d.time, nI x.d.no, nI x.w] 112 (0, 0))]) (fun _ => ?_)
    refine J_condT x.o.remove (by kernel_rfl) (by kernel_rfl) (by simpa using ‹_›) ?_
    refine J_seq ?_
    refine J_seq ?_
    refine jB mixed [(0, true), (1, true), (2, true), (3, true), (4, true), (5, true)] [] ?_
    refine Gr (id := 6) (rest := [(4, true), (5, true)]) [zR 0, zR 1, zR 2, .rd 3 [.o 1 none] 0 0] [0, 2, 3, 5, 12, 13, 14, 21, 24] (fun _ => [zS 0 (sA b1 off1) l.length c, zV 2 (.map none), zV 3 (.map (some (nu1 0))), zP 5 (nu2 0), zS 12 (sA b1 off1) l.length c, zI 13 (↑l.length : Int), zI 14 i, zV 21 (.map (some (nu1 0))), zV 24 (.string x.o.text)]) (fun _ => [(nu1 0, Obj.map es clock), (nu2 0, .cells #[nI x.o.no, .string x.o.key, nI x.o.kind, .string x.o.text, nI x.o.n, .bool x.o.remove, .slice (a1_0, c1_0).fst ((List.map eDot x.o.dots).length) c1_0, nI x.d.place, nI x.d.time, nI x.d.no, nI x.w] 112 (0, 0))]) (fun _ => ?_)
    refine JRg_lookr (.o 0 none) (nu1 0) 161 9 131 (IsKey TypeDesc.string) (.string x.o.text) (.map none) false (some 25) (by kernel_rfl) (by kernel_rfl) (by kernel_rfl) keyOk_9 (by first | exact ⟨_, _, _, rfl⟩ | simp [MapKept.IsKey]) (by kernel_rfl) rfl hm (fun hno => ?_) (fun v hv => ?_)
    ·refine JR_run (id := 6) (rest := []) [.rd 5 [] 0 0] [0, 2, 3, 5, 12, 13, 14, 26] (E1 := fun _ => [(0, .val (.slice (some (⟨b1, off1, none⟩)) l.length c)), (2, .val (.map none)), (3, .val (.map (some (nu1 0)))), (5, .val (.pointer (some (⟨nu2 0, 0, none⟩)))), (12, .val (.slice (some (⟨b1, off1, none⟩)) l.length c)), (13, .val (.int .i64 (↑l.length : Int))), (14, .val (.int .i64 i)), (26, .val (.bool true))]) (h1 := fun _ => [(nu1 0, Obj.map es clock), (nu2 0, .cells #[.int .i64 x.o.no, .string x.o.key, .int .i64 x.o.kind, .string x.o.text, .int .i64 x.o.n, .bool x.o.remove, .slice (a1_0, c1_0).fst ((List.map eDot x.o.dots).length) c1_0, .int .i64 x.d.place, .int .i64 x.d.time, .int .i64 x.d.no, .int .i64 x.w] 112 (0, 0))]) (p1 := fun _ => []) (W1 := []) (fun _ => by kernel_rfl) (fun _ => trivial) (fun _ => ?_)
     refine JR_end ?_
     refine cTt ?_
     refine jB mixed [(0, true), (1, true), (2, true), (3, true), (4, false), (5, false)] [] ?_
     refine Gr (id := 7) (rest := [(5, false)]) [zR 0, zR 1, zR 2, .rd 3 [.o 1 none] 0 0, .wr 4 [] 0] [0, 2, 3, 5, 12, 13, 14, 27, 30, 31] (fun nu3 => [zS 0 (sA b1 off1) l.length c, zV 2 (.map none), zV 3 (.map (some (nu1 0))), zP 5 (nu2 0), zS 12 (sA b1 off1) l.length c, zI 13 (↑l.length : Int), zI 14 i, zV 27 (.map (some (nu1 0))), zV 30 (.string x.o.text), zV 31 (.map (some (nu3 0)))]) (fun nu3 => [(nu1 0, Obj.map es clock), (nu2 0, .cells #[nI x.o.no, .string x.o.key, nI x.o.kind, .string x.o.text, nI x.o.n, .bool x.o.remove, .slice (a1_0, c1_0).fst ((List.map eDot x.o.dots).length) c1_0, nI x.d.place, nI x.d.time, nI x.d.no, nI x.w] 112 (0, 0)), (nu3 0, Obj.map #[] 0)]) (fun nu3 => ?_)
     refine JRg_put 0 (nu1 0) 161 9 131 (IsKey TypeDesc.string) (.string x.o.text) (.map (some (nu3 0))) none (by kernel_rfl) (by kernel_rfl) (by kernel_rfl) keyOk_9 (by first | exact ⟨_, _, _, rfl⟩ | simp [MapKept.IsKey]) rfl hm (fun es2 clock2 hm2 hsz2 => ?_)
     refine JR_end ?_
     refine Sq mixed [zR 0, zR 1, .rd 2 [.o 1 none] 0 0, zR 3, zR 4] [] [0, 2, 3, 5, 12, 13, 14, 27, 30, 31, 34, 35, 36] (fun _ => [zS 0 (sA b1 off1) l.length c, zV 2 (.map none), zV 3 (.map (some (nu1 0))), zP 5 (nu2 0), zS 12 (sA b1 off1) l.length c, zI 13 (↑l.length : Int), zI 14 i, zV 27 (.map (some (nu1 0))), zV 30 (.string x.o.text), zV 31 (.map (some (nu3 0))), zS 34 (a1_0, c1_0).fst ((List.map eDot x.o.dots).length) c1_0, zI 35 ((↑(List.map eDot x.o.dots).length : Int)), zI 36 0]) (fun _ => [(nu1 0, Obj.map es2 clock2), (nu2 0, .cells #[nI x.o.no, .string x.o.key, nI x.o.kind, .string x.o.text, nI x.o.n, .bool x.o.remove, .slice (a1_0, c1_0).fst ((List.map eDot x.o.dots).length) c1_0, nI x.d.place, nI x.d.time, nI x.d.no, nI x.w] 112 (0, 0)), (nu3 0, Obj.map #[] 0)]) (fun _ => ?_)
     refine J_block ?_
     have hgm : MapG (IsKey .string) es2 (strG (ks ++ [x.o.text]) fun t => .map (some (upd mb x.o.text (nu3 0) t))) := hm2.congr (strG_newm hT0)
     have hm1 : MapG okDot #[] (dotSet (goneDots (l.take i.toNat) x.o.text)) := by
      rw [hg0]
      exact (MapG.empty _).congr dotSet_nil
     have hE := map_new (t := x.o.text) (Q' := fun t => cMapG (upd mb x.o.text (nu3 0) t) okDot (dotSet (goneDots (l.take (i + 1).toNat) t))) (Q := fun t => cMapG (mb t) okDot (dotSet (goneDots (l.take i.toNat) t))) (ks := ks) fun s hs => by
      have hne : s ≠ x.o.text := fun he => hT0 (he ▸ hs)
      show cMapG (upd mb x.o.text (nu3 0) s) okDot (dotSet (goneDots (l.take (i + 1).toNat) s)) = cMapG (mb s) okDot (dotSet (goneDots (l.take i.toNat) s))
      rw [goneDots_other hx hi0 hne, upd_ne _ _ hne]
     refine J_loopx (fun y : GoneS => [zS 0 (sA b1 off1) l.length c, zV 2 (.map none), zV 3 (.map (some (nu1 0))), zP 5 (nu2 0), zS 12 (sA b1 off1) l.length c, zI 13 (↑l.length : Int), zI 14 i, zV 27 (.map (some (nu1 0))), zV 30 (.string x.o.text), zV 31 (.map (some (nu3 0))), zS 34 (a1_0, c1_0).fst ((List.map eDot x.o.dots).length) c1_0, zI 35 ((↑(List.map eDot x.o.dots).length : Int)), zI 36 y.i]) (fun y : GoneS => [(nu1 0, Obj.map es2 clock2), (nu2 0, .cells #[nI x.o.no, .string x.o.key, nI x.o.kind, .string x.o.text, nI x.o.n, .bool x.o.remove, .slice (a1_0, c1_0).fst ((List.map eDot x.o.dots).length) c1_0, nI x.d.place, nI x.d.time, nI x.d.no, nI x.w] 112 (0, 0)), (nu3 0, .map y.es y.clock)]) (fun y : GoneS => [cStar (ks.map fun t => cMapG (mb t) okDot (dotSet (goneDots (l.take i.toNat) t)))]) (fun y : GoneS => [(.slice (sA b1 off1) l.length c, (D.sl 11 (List.map eDone l))), (.slice (a1_0, c1_0).fst ((List.map eDot x.o.dots).length) c1_0, (D.sl 3 (List.map eDot x.o.dots)))]) (fun y : GoneS => (x.o.dots.length - y.i).toNat) (fun y : GoneS => (0 ≤ y.i ∧ y.i ≤ x.o.dots.length ∧ MapG okDot y.es (dotSet (goneDots (l.take i.toNat) x.o.text ++ x.o.dots.take y.i.toNat)))) ⟨0, #[], 0⟩ [0, 2, 3, 5, 12, 13, 14, 27, 30, 31, 34, 35, 36] [0, 1, 2] [0] [0, 1] ?_ (by kernel_rfl) rfl rfl rfl ?_
     ·exact ⟨by simp, by simp, by simpa using hm1⟩
     rintro ⟨j, es4, clock4⟩ ⟨hj0, hj, hmj⟩
     dsimp only at hj0 hj hmj ⊢
     refine Sq mixed [zR 0] [] [0, 2, 3, 5, 12, 13, 14, 27, 30, 31, 34, 35, 36, 37] (fun _ => [zS 0 (sA b1 off1) l.length c, zV 2 (.map none), zV 3 (.map (some (nu1 0))), zP 5 (nu2 0), zS 12 (sA b1 off1) l.length c, zI 13 (↑l.length : Int), zI 14 i, zV 27 (.map (some (nu1 0))), zV 30 (.string x.o.text), zV 31 (.map (some (nu3 0))), zS 34 a1_0 ((List.map eDot x.o.dots).length) c1_0, zI 35 ((↑(List.map eDot x.o.dots).length : Int)), zI 36 j, zB 37 (decide (j < (↑(List.map eDot x.o.dots).length : Int)))]) (fun _ => [(nu1 0, Obj.map es2 clock2), (nu2 0, .cells #[nI x.o.no, .string x.o.key, nI x.o.kind, .string x.o.text, nI x.o.n, .bool x.o.remove, .slice a1_0 ((List.map eDot x.o.dots).length) c1_0, nI x.d.place, nI x.d.time, nI x.d.no, nI x.w] 112 (0, 0)), (nu3 0, Obj.map es4 clock4)]) (fun _ => ?_)
     refine J_seq ?_
     refine cC (t := decide (j < (↑(List.map eDot x.o.dots).length : Int))) (fun hlt1 => ?_) (fun hlt1 => ?_)
     ·have hlt3 : j < x.o.dots.length := by simpa using hlt1
      obtain ⟨d, hd⟩ : ∃ d, x.o.dots[j.toNat]? = some d := ⟨_, List.getElem?_eq_getElem (by omega)⟩
      refine J_read0 1 rfl j.toNat (map_at hd) (by kernel_rfl) (fun b2 off2 cs2 ty2 fz2 ha2 hrd2 => ?_)
      cases ha2
      have hrd2_0 := rd0 (hrd2 0 _ rfl)
      have hrd2_1 := hrd2 1 _ rfl
      have hrd2_2 := hrd2 2 _ rfl
      try simp only [cAp, nAp, aNl]
      refine J_skip ?_
      refine J_seq ?_
      refine J_block ?_
      refine Sp mixed [.rd 0 [] 0 2, .rd 1 [.r 1 (some (nI d.place)), .r 1 (some (nI d.time)), .r 1 (some (nI d.no))] 0 0, .wr 2 [] 0, .wr 3 [.o 3 none, .o 3 none, .o 3 none] 0] [(3, [])] [0, 2, 3, 5, 7, 12, 13, 14, 27, 30, 31, 34, 35, 36] (fun nu4 => [zS 0 (sA b1 off1) l.length c, zV 2 (.map none), zV 3 (.map (some (nu1 0))), zP 5 (nu2 0), zP 7 (nu4 0), zS 12 (sA b1 off1) l.length c, zI 13 (↑l.length : Int), zI 14 i, zV 27 (.map (some (nu1 0))), zV 30 (.string x.o.text), zV 31 (.map (some (nu3 0))), zS 34 (sA b2 off2) ((List.map eDot x.o.dots).length) c1_0, zI 35 ((↑(List.map eDot x.o.dots).length : Int)), zI 36 j]) (fun nu4 => [(nu1 0, Obj.map es2 clock2), (nu2 0, .cells #[nI x.o.no, .string x.o.key, nI x.o.kind, .string x.o.text, nI x.o.n, .bool x.o.remove, .slice (sA b2 off2) ((List.map eDot x.o.dots).length) c1_0, nI x.d.place, nI x.d.time, nI x.d.no, nI x.w] 112 (0, 0)), (nu3 0, Obj.map es4 clock4), (nu4 0, .cells #[nI d.place, nI d.time, nI d.no] 65 (0, 0))]) (fun nu4 => [(0 : Int) ≤ j, j < (↑(List.map eDot x.o.dots).length : Int), cs2[off2 + j.toNat * (3 : Nat)]? = some (nI d.place), cs2[off2 + j.toNat * (3 : Nat) + (1 : Nat)]? = some (nI d.time), cs2[off2 + j.toNat * (3 : Nat) + (2 : Nat)]? = some (nI d.no)]) (fun _ => ⟨hj0, by simp; omega, hrd2_0, hrd2_1, hrd2_2, trivial⟩) (fun nu4 => ?_)
      refine jB mixed [(0, true), (1, true), (2, true), (3, true), (4, true), (5, true), (6, false)] [] ?_
      refine Gr (id := 11) (rest := [(4, true), (5, true), (6, false)]) [zR 0, zR 1, zR 2, .rd 3 [.o 1 none] 0 0] [0, 2, 3, 5, 7, 12, 13, 14, 27, 30, 31, 34, 35, 36, 40, 43] (fun _ => [zS 0 (sA b1 off1) l.length c, zV 2 (.map none), zV 3 (.map (some (nu1 0))), zP 5 (nu2 0), zP 7 (nu4 0), zS 12 (sA b1 off1) l.length c, zI 13 (↑l.length : Int), zI 14 i, zV 27 (.map (some (nu1 0))), zV 30 (.string x.o.text), zV 31 (.map (some (nu3 0))), zS 34 (sA b2 off2) ((List.map eDot x.o.dots).length) c1_0, zI 35 ((↑(List.map eDot x.o.dots).length : Int)), zI 36 j, zV 40 (.map (some (nu1 0))), zV 43 (.string x.o.text)]) (fun _ => [(nu1 0, Obj.map es2 clock2), (nu2 0, .cells #[nI x.o.no, .string x.o.key, nI x.o.kind, .string x.o.text, nI x.o.n, .bool x.o.remove, .slice (sA b2 off2) ((List.map eDot x.o.dots).length) c1_0, nI x.d.place, nI x.d.time, nI x.d.no, nI x.w] 112 (0, 0)), (nu3 0, Obj.map es4 clock4), (nu4 0, .cells #[nI d.place, nI d.time, nI d.no] 65 (0, 0))]) (fun _ => ?_)
      refine JRg_lookr (.o 0 none) (nu1 0) 161 9 131 (IsKey TypeDesc.string) (.string x.o.text) (.map none) false (some 44) (by kernel_rfl) (by kernel_rfl) (by kernel_rfl) keyOk_9 (by first | exact ⟨_, _, _, rfl⟩ | simp [MapKept.IsKey]) (by kernel_rfl) rfl hgm (fun hno => ?_) (fun v hv => ?_)
      ·rw [strG_in hT] at hno
       cases hno
      ·rw [strG_in hT, upd_at] at hv
       cases hv
       refine Gr (id := 11) (rest := [(6, false)]) [.rd 5 [.o 3 none, .o 3 none, .o 3 none] 0 0] [0, 2, 3, 5, 7, 12, 13, 14, 27, 30, 31, 34, 35, 36, 44, 45] (fun _ => [zS 0 (sA b1 off1) l.length c, zV 2 (.map none), zV 3 (.map (some (nu1 0))), zP 5 (nu2 0), zP 7 (nu4 0), zS 12 (sA b1 off1) l.length c, zI 13 (↑l.length : Int), zI 14 i, zV 27 (.map (some (nu1 0))), zV 30 (.string x.o.text), zV 31 (.map (some (nu3 0))), zS 34 (sA b2 off2) ((List.map eDot x.o.dots).length) c1_0, zI 35 ((↑(List.map eDot x.o.dots).length : Int)), zI 36 j, zV 44 (.map (some (nu3 0))), zV 45 (.agg #[nI d.place, nI d.time, nI d.no])]) (fun _ => [(nu1 0, Obj.map es2 clock2), (nu2 0, .cells #[nI x.o.no, .string x.o.key, nI x.o.kind, .string x.o.text, nI x.o.n, .bool x.o.remove, .slice (sA b2 off2) ((List.map eDot x.o.dots).length) c1_0, nI x.d.place, nI x.d.time, nI x.d.no, nI x.w] 112 (0, 0)), (nu3 0, Obj.map es4 clock4), (nu4 0, .cells #[nI d.place, nI d.time, nI d.no] 65 (0, 0))]) (fun _ => ?_)
       refine JRg_put 2 (nu3 0) 131 65 4 okDot (.agg #[.int .i64 d.place, .int .i64 d.time, .int .i64 d.no]) (.bool true) none (by kernel_rfl) (by kernel_rfl) (by kernel_rfl) keyOk_65 (by first | exact ⟨_, _, _, rfl⟩ | simp [MapKept.IsKey]) rfl hmj (fun es3 clock3 hm3 hsz3 => ?_)
       refine JR_end ?_
       refine J_eb ?_
       refine Gp mixed [.rd 0 [] 0 1, zR 1] [] [0, 2, 3, 5, 7, 12, 13, 14, 27, 30, 31, 34, 35, 36, 44, 45] (fun _ => [zS 0 (sA b1 off1) l.length c, zV 2 (.map none), zV 3 (.map (some (nu1 0))), zP 5 (nu2 0), zP 7 (nu4 0), zS 12 (sA b1 off1) l.length c, zI 13 (↑l.length : Int), zI 14 i, zV 27 (.map (some (nu1 0))), zV 30 (.string x.o.text), zV 31 (.map (some (nu3 0))), zS 34 (sA b2 off2) ((List.map eDot x.o.dots).length) c1_0, zI 35 ((↑(List.map eDot x.o.dots).length : Int)), zI 36 (j + 1), zV 44 (.map (some (nu3 0))), zV 45 (.agg #[nI d.place, nI d.time, nI d.no])]) (fun _ => [(nu1 0, Obj.map es2 clock2), (nu2 0, .cells #[nI x.o.no, .string x.o.key, nI x.o.kind, .string x.o.text, nI x.o.n, .bool x.o.remove, .slice (sA b2 off2) ((List.map eDot x.o.dots).length) c1_0, nI x.d.place, nI x.d.time, nI x.d.no, nI x.w] 112 (0, 0)), (nu3 0, Obj.map es3 clock3), (nu4 0, .cells #[nI d.place, nI d.time, nI d.no] 65 (0, 0))]) (fun _ => [IntKind.i64.wrap (j + (1 : Int)) = j + (1 : Int)]) (fun _ => ⟨wrap_i64 (by omega) (by omega), trivial⟩) (fun _ => ?_)
       refine J_backx ⟨j + 1, _, _⟩ [0, 2, 3, 5, 12, 13, 14, 27, 30, 31, 34, 35, 36] [0, 1, 2] [0] [0, 1] ?_ ?_ (by kernel_rfl) rfl rfl rfl
       ·refine ⟨by simp only; omega, by simp only; omega, ?_⟩
        dsimp only
        rw [← take_snoc hj0 hd, ← List.append_assoc]
        exact hm3.congr (dotSet_snoc (d := d))
       ·simp only
        omega
     ·have hjl : (x.o.dots.take j.toNat) = x.o.dots := List.take_of_length_le (by simp at hlt1; omega)
      rw [hjl, ← goneDots_new hx hi0 hrem] at hmj
      refine J_exit rfl ?_
      refine J_eb ?_
      refine J_hide 2 rfl ?_
      refine J_stp (stp_conv 1 rfl (mapg_eqv hmj)) ?_
      refine J_stp (stp_join 1 0 ks.length (cs' := (ks ++ [x.o.text]).map fun t => cMapG ((upd mb x.o.text (nu3 0)) t) okDot (dotSet (goneDots (l.take (i + 1).toNat) t))) rfl rfl (by decide) (by rw [List.getElem?_map, hit]; show some (cMapG (upd mb _ _ _) _ _) = _; rw [upd_at]) hE) ?_
      try simp only [cAp, nAp, aNl]
      refine Gp mixed [.rd 0 [] 0 1, zR 1] [] [0, 2, 3, 5, 12, 13, 14, 27, 30, 31, 34, 35, 36] (fun _ => [zS 0 (sA b1 off1) l.length c, zV 2 (.map none), zV 3 (.map (some (nu1 0))), zP 5 (nu2 0), zS 12 (sA b1 off1) l.length c, zI 13 (↑l.length : Int), zI 14 (i + 1), zV 27 (.map (some (nu1 0))), zV 30 (.string x.o.text), zV 31 (.map (some (nu3 0))), zS 34 a1_0 ((List.map eDot x.o.dots).length) c1_0, zI 35 ((↑(List.map eDot x.o.dots).length : Int)), zI 36 j]) (fun _ => [(nu1 0, Obj.map es2 clock2), (nu2 0, .cells #[nI x.o.no, .string x.o.key, nI x.o.kind, .string x.o.text, nI x.o.n, .bool x.o.remove, .slice a1_0 ((List.map eDot x.o.dots).length) c1_0, nI x.d.place, nI x.d.time, nI x.d.no, nI x.w] 112 (0, 0))]) (fun _ => [IntKind.i64.wrap (i + (1 : Int)) = i + (1 : Int)]) (fun _ => ⟨wrap_i64 (by omega) (by omega), trivial⟩) (fun _ => ?_)
      try simp only [cAp, nAp, aNl]
      refine J_backx ⟨i + 1, _, _, ks ++ [x.o.text], (upd mb x.o.text (nu3 0))⟩ [0, 2, 3, 12, 13, 14] [0] [0] [0] ?_ ?_ (by kernel_rfl) rfl rfl rfl
      ·exact ⟨by simp only; omega, by simp only; omega, hgm, hnd2, fun z hz hzr => hall2 z hz hzr⟩
      ·simp only
       omega
    ·rw [strG_out hT0] at hv
     cases hv
 ·have hil : l.take i.toNat = l := List.take_of_length_le (by simp at hlt; omega)
  rw [hil] at hall
  rw [hil]
  refine J_exit rfl ?_
  refine Sq mixed [.wr 0 [] 0, zR 1] [] [0, 2, 3, 8] (fun nu2 => [zS 0 a l.length c, zV 2 (.map none), zV 3 (.map (some (nu1 0))), zV 8 (.map (some (nu2 0)))]) (fun nu2 => [(nu1 0, Obj.map es clock), (nu2 0, Obj.map #[] 0)]) (fun nu2 => ?_)
  refine J_seq ?_
  refine Sq mixed [zR 0, zR 1, zR 2] [] [2, 3, 8, 49, 50, 51] (fun _ => [zV 2 (.map none), zV 3 (.map (some (nu1 0))), zV 8 (.map (some (nu2 0))), zS 49 a l.length c, zI 50 (↑l.length : Int), zI 51 0]) (fun _ => [(nu1 0, Obj.map es clock), (nu2 0, Obj.map #[] 0)]) (fun _ => ?_)
  refine J_block ?_
  refine J_stp (stp_add (cStar []) star_nil) ?_
  refine J_stp (stp_cs [1, 0] rfl) ?_
  have hm4 : MapG (IsKey .string) #[] (strG [] fun _ => .nilIface) := (MapG.empty _).congr fun k => (strG_nil _ k).symm
  refine J_loopx (fun y : OutS => [zV 2 (.map none), zV 3 (.map (some (nu1 0))), zV 8 (.map (some (nu2 0))), zS 49 a l.length c, zI 50 (↑l.length : Int), zI 51 y.i]) (fun y : OutS => [(nu1 0, Obj.map es clock), (nu2 0, .map y.es y.clock)]) (fun y : OutS => [cStar (y.ks.map fun t => cAcc (y.F t) 65 3 ((outDots l (l.take y.i.toNat) t).map eDot)), cStar (ks.map fun t => cMapG (mb t) okDot (dotSet (goneDots l t)))]) (fun y : OutS => [(.slice a l.length c, (D.sl 11 (List.map eDone l)))]) (fun y : OutS => (l.length - y.i).toNat) (fun y : OutS => (0 ≤ y.i ∧ y.i ≤ l.length ∧ MapG (IsKey .string) y.es (strG y.ks y.F) ∧ MapKept.Stamped y.es y.clock ∧ y.ks.Nodup ∧ ∀ t, t ∈ y.ks ↔ outDots l (l.take y.i.toNat) t ≠ [])) ⟨0, #[], 0, [], fun _ => .nilIface⟩ [2, 3, 8, 49, 50, 51] [0, 1] [0, 1] [0] ?_ (by kernel_rfl) rfl rfl rfl ?_
  ·exact ⟨by simp, by simp, hm4, MapKept.stamped_empty 0, by simp, by simp [outDots]⟩
  rintro ⟨q, es1, clock1, ks1, F⟩ ⟨hq0, hq, hmo, hst, hnd1, hiff⟩
  dsimp only at hq0 hq hmo hst hnd1 hiff ⊢
  refine Sq mixed [zR 0] [] [2, 3, 8, 49, 50, 51, 52] (fun _ => [zV 2 (.map none), zV 3 (.map (some (nu1 0))), zV 8 (.map (some (nu2 0))), zS 49 a l.length c, zI 50 (↑l.length : Int), zI 51 q, zB 52 (decide (q < (↑l.length : Int)))]) (fun _ => [(nu1 0, Obj.map es clock), (nu2 0, Obj.map es1 clock1)]) (fun _ => ?_)
  refine J_seq ?_
  refine cC (t := decide (q < (↑l.length : Int))) (fun hlt1 => ?_) (fun hlt1 => ?_)
  ·have hlt3 : q < l.length := by simpa using hlt1
   obtain ⟨x, hx⟩ : ∃ x, l[q.toNat]? = some x := ⟨_, List.getElem?_eq_getElem (by omega)⟩
   have hdx := hdl x (List.mem_of_getElem? hx)
   refine J_read1 0 rfl q.toNat (map_at hx) (by kernel_rfl) (fun b1 off1 cs1 ty1 fz1 a1_0 c1_0 ha1 hrd1 => ?_)
   cases ha1
   have hrd1_0 := rd0 (hrd1 0 _ rfl)
   have hrd1_1 := hrd1 1 _ rfl
   have hrd1_2 := hrd1 2 _ rfl
   have hrd1_3 := hrd1 3 _ rfl
   have hrd1_4 := hrd1 4 _ rfl
   have hrd1_5 := hrd1 5 _ rfl
   have hrd1_6 := hrd1 6 _ rfl
   have hrd1_7 := hrd1 7 _ rfl
   have hrd1_8 := hrd1 8 _ rfl
   have hrd1_9 := hrd1 9 _ rfl
   have hrd1_10 := hrd1 10 _ rfl
   cases hrem : x.o.remove with
   | true =>
    try simp only [cAp, nAp, aNl]
    refine J_skip ?_
    refine J_seq ?_
    refine J_block ?_
    refine Sp mixed [.rd 0 [] 0 2, .rd 1 [.r 0 (some (nI x.o.no)), .r 0 (some (.string x.o.key)), .r 0 (some (nI x.o.kind)), .r 0 (some (.string x.o.text)), .r 0 (some (nI x.o.n)), .r 0 (some (.bool x.o.remove)), .r 0 (some (.slice (a1_0, c1_0).fst ((List.map eDot x.o.dots).length) c1_0)), .r 0 (some (nI x.d.place)), .r 0 (some (nI x.d.time)), .r 0 (some (nI x.d.no)), .r 0 (some (nI x.w))] 0 0, .wr 2 [] 0, .wr 3 [.o 2 none, .o 2 none, .o 2 none, .o 2 none, .o 2 none, .o 2 none, .o 2 none, .o 2 none, .o 2 none, .o 2 none, .o 2 none] 0] [(3, [])] [2, 3, 8, 10, 49, 50, 51] (fun nu3 => [zV 2 (.map none), zV 3 (.map (some (nu1 0))), zV 8 (.map (some (nu2 0))), zP 10 (nu3 0), zS 49 (sA b1 off1) l.length c, zI 50 (↑l.length : Int), zI 51 q]) (fun nu3 => [(nu1 0, Obj.map es clock), (nu2 0, Obj.map es1 clock1), (nu3 0, .cells #[nI x.o.no, .string x.o.key, nI x.o.kind, .string x.o.text, nI x.o.n, .bool x.o.remove, .slice (a1_0, c1_0).fst ((List.map eDot x.o.dots).length) c1_0, nI x.d.place, nI x.d.time, nI x.d.no, nI x.w] 112 (0, 0))]) (fun nu3 => [(0 : Int) ≤ q, q < (↑l.length : Int), cs1[off1 + q.toNat * (11 : Nat)]? = some (nI x.o.no), cs1[off1 + q.toNat * (11 : Nat) + (1 : Nat)]? = some (Value.string x.o.key), cs1[off1 + q.toNat * (11 : Nat) + (2 : Nat)]? = some (nI x.o.kind), cs1[off1 + q.toNat * (11 : Nat) + (3 : Nat)]? = some (Value.string x.o.text), cs1[off1 + q.toNat * (11 : Nat) + (4 : Nat)]? = some (nI x.o.n), cs1[off1 + q.toNat * (11 : Nat) + (5 : Nat)]? = some (Value.bool x.o.remove), cs1[off1 + q.toNat * (11 : Nat) + (6 : Nat)]? = some (Value.slice (a1_0, c1_0).fst (List.map eDot x.o.dots).length (a1_0, c1_0).snd), cs1[off1 + q.toNat * (11 : Nat) + (7 : Nat)]? = some (nI x.d.place), cs1[off1 + q.toNat * (11 : Nat) + (8 : Nat)]? = some (nI x.d.time), cs1[off1 + q.toNat * (11 : Nat) + (9 : Nat)]? = some (nI x.d.no), cs1[off1 + q.toNat * (11 : Nat) + (10 : Nat)]? = some (nI x.w)]) (fun _ => ⟨hq0, hlt3, hrd1_0, hrd1_1, hrd1_2, hrd1_3, hrd1_4, hrd1_5, hrd1_6, hrd1_7, hrd1_8, hrd1_9, hrd1_10, trivial⟩) (fun nu3 => ?_)
    refine Sp mixed [zR 0, zR 1, .rd 2 [.o 2 none] 0 0, .rd 3 [] 0 7, zR 4, .rd 5 [] 1 0, .rd 6 [] 1 0, .rd 7 [] 1 0, .rd 8 [] 1 0, .rd 9 [] 1 0, .rd 10 [] 1 0, .rd 11 [] 1 0, .rd 12 [] 1 0, .rd 13 [] 1 0, zR 14] [] [2, 3, 8, 10, 49, 50, 51, 69] (fun _ => [zV 2 (.map none), zV 3 (.map (some (nu1 0))), zV 8 (.map (some (nu2 0))), zP 10 (nu3 0), zS 49 (sA b1 off1) l.length c, zI 50 (↑l.length : Int), zI 51 q, zB 69 false]) (fun _ => [(nu1 0, Obj.map es clock), (nu2 0, Obj.map es1 clock1), (nu3 0, .cells #[nI x.o.no, .string x.o.key, nI x.o.kind, .string x.o.text, nI x.o.n, .bool x.o.remove, .slice (a1_0, c1_0).fst ((List.map eDot x.o.dots).length) c1_0, nI x.d.place, nI x.d.time, nI x.d.no, nI x.w] 112 (0, 0))]) (fun _ => [(!x.o.remove) = false]) (fun _ => ⟨by simp; omega, trivial⟩) (fun _ => ?_)
    refine cF ?_
    refine J_skip ?_
    refine J_eb ?_
    refine Gp mixed [.rd 0 [] 0 1, zR 1] [] [2, 3, 8, 10, 49, 50, 51] (fun _ => [zV 2 (.map none), zV 3 (.map (some (nu1 0))), zV 8 (.map (some (nu2 0))), zP 10 (nu3 0), zS 49 (sA b1 off1) l.length c, zI 50 (↑l.length : Int), zI 51 (q + 1)]) (fun _ => [(nu1 0, Obj.map es clock), (nu2 0, Obj.map es1 clock1), (nu3 0, .cells #[nI x.o.no, .string x.o.key, nI x.o.kind, .string x.o.text, nI x.o.n, .bool x.o.remove, .slice (a1_0, c1_0).fst ((List.map eDot x.o.dots).length) c1_0, nI x.d.place, nI x.d.time, nI x.d.no, nI x.w] 112 (0, 0))]) (fun _ => [IntKind.i64.wrap (q + (1 : Int)) = q + (1 : Int)]) (fun _ => ⟨wrap_i64 (by omega) (by omega), trivial⟩) (fun _ => ?_)
    have e4 : (fun t => cAcc (F t) 65 3 ((outDots l (l.take q.toNat) t).map eDot)) = fun t => cAcc (F t) 65 3 ((outDots l (l.take (q + 1).toNat) t).map eDot) := funext fun t => by rw [outDots_skip hx hq0 (.inl hrem)]
    rw [e4]
    refine J_backx ⟨q + 1, _, _, ks1, F⟩ [2, 3, 8, 49, 50, 51] [0, 1] [0, 1] [0] ?_ ?_ (by kernel_rfl) rfl rfl rfl
    ·exact ⟨by simp only; omega, by simp only; omega, hmo, hst, hnd1, fun t => by rw [outDots_skip hx hq0 (.inl hrem)]; exact hiff t⟩
    ·simp only
     omega
   | false =>
    by_cases hT : x.o.text ∈ ks
    ·obtain ⟨iT, hit⟩ := List.getElem?_of_mem hT
     try simp only [cAp, nAp, aNl]
     refine J_skip ?_
     refine J_seq ?_
     refine J_block ?_
     refine Sp mixed [.rd 0 [] 0 2, .rd 1 [.r 0 (some (nI x.o.no)), .r 0 (some (.string x.o.key)), .r 0 (some (nI x.o.kind)), .r 0 (some (.string x.o.text)), .r 0 (some (nI x.o.n)), .r 0 (some (.bool x.o.remove)), .r 0 (some (.slice (a1_0, c1_0).fst ((List.map eDot x.o.dots).length) c1_0)), .r 0 (some (nI x.d.place)), .r 0 (some (nI x.d.time)), .r 0 (some (nI x.d.no)), .r 0 (some (nI x.w))] 0 0, .wr 2 [] 0, .wr 3 [.o 2 none, .o 2 none, .o 2 none, .o 2 none, .o 2 none, .o 2 none, .o 2 none, .o 2 none, .o 2 none, .o 2 none, .o 2 none] 0] [(3, [])] [2, 3, 8, 10, 49, 50, 51] (fun nu3 => [zV 2 (.map none), zV 3 (.map (some (nu1 0))), zV 8 (.map (some (nu2 0))), zP 10 (nu3 0), zS 49 (sA b1 off1) l.length c, zI 50 (↑l.length : Int), zI 51 q]) (fun nu3 => [(nu1 0, Obj.map es clock), (nu2 0, Obj.map es1 clock1), (nu3 0, .cells #[nI x.o.no, .string x.o.key, nI x.o.kind, .string x.o.text, nI x.o.n, .bool x.o.remove, .slice (a1_0, c1_0).fst ((List.map eDot x.o.dots).length) c1_0, nI x.d.place, nI x.d.time, nI x.d.no, nI x.w] 112 (0, 0))]) (fun nu3 => [(0 : Int) ≤ q, q < (↑l.length : Int), cs1[off1 + q.toNat * (11 : Nat)]? = some (nI x.o.no), cs1[off1 + q.toNat * (11 : Nat) + (1 : Nat)]? = some (Value.string x.o.key), cs1[off1 + q.toNat * (11 : Nat) + (2 : Nat)]? = some (nI x.o.kind), cs1[off1 + q.toNat * (11 : Nat) + (3 : Nat)]? = some (Value.string x.o.text), cs1[off1 + q.toNat * (11 : Nat) + (4 : Nat)]? = some (nI x.o.n), cs1[off1 + q.toNat * (11 : Nat) + (5 : Nat)]? = some (Value.bool x.o.remove), cs1[off1 + q.toNat * (11 : Nat) + (6 : Nat)]? = some (Value.slice (a1_0, c1_0).fst (List.map eDot x.o.dots).length (a1_0, c1_0).snd), cs1[off1 + q.toNat * (11 : Nat) + (7 : Nat)]? = some (nI x.d.place), cs1[off1 + q.toNat * (11 : Nat) + (8 : Nat)]? = some (nI x.d.time), cs1[off1 + q.toNat * (11 : Nat) + (9 : Nat)]? = some (nI x.d.no), cs1[off1 + q.toNat * (11 : Nat) + (10 : Nat)]? = some (nI x.w)]) (fun _ => ⟨hq0, hlt3, hrd1_0, hrd1_1, hrd1_2, hrd1_3, hrd1_4, hrd1_5, hrd1_6, hrd1_7, hrd1_8, hrd1_9, hrd1_10, trivial⟩) (fun nu3 => ?_)
     refine J_seq ?_
     refine J_stp (stp_take 1 iT rfl (by rw [List.getElem?_map, hit]; rfl)) ?_
     refine J_openmapg 1 rfl fun es9 clock9 hm9 => ?_
     refine jB mixed [(0, true), (1, true), (2, true), (3, true), (4, true), (5, true), (6, true), (7, true), (8, true), (9, true), (10, true), (11, true), (12, true), (13, true), (14, true)] [] ?_
     refine Gs (id := 18) (rest := [(9, true), (10, true), (11, true), (12, true), (13, true), (14, true)]) [zR 0, zR 1, .rd 2 [.o 2 none] 0 0, .rd 3 [] 0 6, zR 4, zR 5, zR 6, zR 7, .rd 8 [.o 2 none] 0 0] [2, 3, 8, 10, 49, 50, 51, 59, 60, 63] (fun _ => [zV 2 (.map none), zV 3 (.map (some (nu1 0))), zV 8 (.map (some (nu2 0))), zP 10 (nu3 0), zS 49 (sA b1 off1) l.length c, zI 50 (↑l.length : Int), zI 51 q, zB 59 true, zV 60 (.map (some (nu1 0))), zV 63 (.string x.o.text)]) (fun _ => [(nu1 0, Obj.map es clock), (nu2 0, Obj.map es1 clock1), (nu3 0, .cells #[nI x.o.no, .string x.o.key, nI x.o.kind, .string x.o.text, nI x.o.n, .bool x.o.remove, .slice (a1_0, c1_0).fst ((List.map eDot x.o.dots).length) c1_0, nI x.d.place, nI x.d.time, nI x.d.no, nI x.w] 112 (0, 0)), (mb x.o.text, Obj.map es9 clock9)]) (fun _ => [(!x.o.remove) = true]) (fun _ => ⟨by simp; omega, trivial⟩) (fun _ => ?_)
     refine JRg_lookq (.o 0 none) (nu1 0) 161 9 131 (IsKey TypeDesc.string) (.string x.o.text) (.map none) false (some 64) (by kernel_rfl) (by kernel_rfl) (by kernel_rfl) keyOk_9 (by first | exact ⟨_, _, _, rfl⟩ | simp [MapKept.IsKey]) (by kernel_rfl) rfl hm (fun hno => ?_) (fun v hv => ?_)
     ·rw [strG_in hT] at hno
      cases hno
     ·rw [strG_in hT] at hv
      cases hv
      refine Gr (id := 18) (rest := [(12, true), (13, true), (14, true)]) [zR 10, .rd 11 [.o 2 none, .o 2 none, .o 2 none] 0 0] [2, 3, 8, 10, 49, 50, 51, 59, 64, 66] (fun _ => [zV 2 (.map none), zV 3 (.map (some (nu1 0))), zV 8 (.map (some (nu2 0))), zP 10 (nu3 0), zS 49 (sA b1 off1) l.length c, zI 50 (↑l.length : Int), zI 51 q, zB 59 true, zV 64 (.map (some (mb x.o.text))), zV 66 (.agg #[nI x.d.place, nI x.d.time, nI x.d.no])]) (fun _ => [(nu1 0, Obj.map es clock), (nu2 0, Obj.map es1 clock1), (nu3 0, .cells #[nI x.o.no, .string x.o.key, nI x.o.kind, .string x.o.text, nI x.o.n, .bool x.o.remove, .slice (a1_0, c1_0).fst ((List.map eDot x.o.dots).length) c1_0, nI x.d.place, nI x.d.time, nI x.d.no, nI x.w] 112 (0, 0)), (mb x.o.text, Obj.map es9 clock9)]) (fun _ => ?_)
      refine JRg_lookq (.o 3 none) (mb x.o.text) 131 65 4 okDot (.agg #[.int .i64 x.d.place, .int .i64 x.d.time, .int .i64 x.d.no]) (.bool false) false (some 67) (by kernel_rfl) (by kernel_rfl) (by kernel_rfl) keyOk_65 (by first | exact ⟨_, _, _, rfl⟩ | simp [MapKept.IsKey]) (by kernel_rfl) rfl hm9 (fun hno => ?_) (fun v hv => ?_)
      ·have hout : x.d ∉ goneDots l x.o.text := fun h => by
        rw [dotSet_in h] at hno
        cases hno
       refine Gr (id := 18) (rest := []) [zR 13, zR 14] [2, 3, 8, 10, 49, 50, 51, 69] (fun _ => [zV 2 (.map none), zV 3 (.map (some (nu1 0))), zV 8 (.map (some (nu2 0))), zP 10 (nu3 0), zS 49 (sA b1 off1) l.length c, zI 50 (↑l.length : Int), zI 51 q, zB 69 true]) (fun _ => [(nu1 0, Obj.map es clock), (nu2 0, Obj.map es1 clock1), (nu3 0, .cells #[nI x.o.no, .string x.o.key, nI x.o.kind, .string x.o.text, nI x.o.n, .bool x.o.remove, .slice (a1_0, c1_0).fst ((List.map eDot x.o.dots).length) c1_0, nI x.d.place, nI x.d.time, nI x.d.no, nI x.w] 112 (0, 0)), (mb x.o.text, Obj.map es9 clock9)]) (fun _ => ?_)
       refine JR_end ?_
       refine cTt ?_
       refine J_hide 3 rfl ?_
       refine J_stp (stp_conv 2 rfl (mapg_eqv hm9)) ?_
       refine J_stp (stp_join 2 1 iT (cs' := ks.map fun t => cMapG (mb t) okDot (dotSet (goneDots l t))) rfl rfl (by decide) (by rw [List.getElem?_map, hit]; rfl) rfl) ?_
       have hlen := outDots_len l (l.take q.toNat) x.o.text
       rw [List.length_take] at hlen
       by_cases hT2 : x.o.text ∈ ks1
       ·obtain ⟨i2, hit2⟩ := List.getElem?_of_mem hT2
        refine J_stp (stp_take (c := cAcc (F x.o.text) 65 3 ((outDots l (l.take q.toNat) x.o.text).map eDot)) 0 i2 rfl (by rw [List.getElem?_map, hit2]; rfl)) ?_
        refine J_stpx (stp_accform 1 rfl) fun y hF => ?_
        obtain ⟨av, nv, cv⟩ := y
        obtain ⟨hF, hn⟩ := hF
        dsimp only at hF hn
        rw [List.length_map] at hn
        have hnb : nv ≤ 4000000 := by omega
        rw [hF]
        refine J_norm (C' := [(cStar (List.map (fun t => cMapG (mb t) okDot (dotSet (goneDots l t))) ks)), cAcc (.slice av nv cv) 65 3 (List.map eDot (outDots l (List.take q.toNat l) x.o.text)), (cStar ((List.map (fun t => cAcc (F t) 65 3 (List.map eDot (outDots l (List.take q.toNat l) t))) ks1).eraseIdx i2))]) (G' := [(.slice (some (⟨b1, off1, none⟩)) l.length c, (D.sl 11 (List.map eDone l))), (.slice (a1_0, c1_0).fst ((List.map eDot x.o.dots).length) c1_0, (D.sl 3 (List.map eDot x.o.dots)))]) (by kernel_rfl) (by kernel_rfl) ?_
        refine jB mixed [(0, true), (1, true), (2, true), (3, true), (4, true), (5, true), (6, true), (7, true), (8, true), (9, true), (10, true), (11, false), (12, false), (13, false)] [(12, []), (13, [1])] ?_
        refine JR_run (id := 19) (rest := [(8, true), (9, true), (10, true), (11, false), (12, false), (13, false)]) [.rd 0 [] 0 0, .rd 1 [] 0 0, .rd 2 [] 0 0, .rd 3 [.o 2 none] 0 0, .rd 4 [] 0 0, .rd 5 [] 0 0, .rd 6 [] 0 0, .rd 7 [.o 2 none] 0 0] [2, 3, 8, 10, 49, 50, 51, 70, 73, 74, 77] (E1 := fun _ => [(2, .val (.map none)), (3, .val (.map (some (nu1 0)))), (8, .val (.map (some (nu2 0)))), (10, .val (.pointer (some (⟨nu3 0, 0, none⟩)))), (49, .val (.slice (some (⟨b1, off1, none⟩)) l.length c)), (50, .val (.int .i64 (↑l.length : Int))), (51, .val (.int .i64 q)), (70, .val (.map (some (nu2 0)))), (73, .val (.string x.o.text)), (74, .val (.map (some (nu2 0)))), (77, .val (.string x.o.text))]) (h1 := fun _ => [(nu1 0, Obj.map es clock), (nu2 0, Obj.map es1 clock1), (nu3 0, .cells #[.int .i64 x.o.no, .string x.o.key, .int .i64 x.o.kind, .string x.o.text, .int .i64 x.o.n, .bool x.o.remove, .slice (a1_0, c1_0).fst ((List.map eDot x.o.dots).length) c1_0, .int .i64 x.d.place, .int .i64 x.d.time, .int .i64 x.d.no, .int .i64 x.w] 112 (0, 0))]) (p1 := fun _ => []) (W1 := [(12, []), (13, [1])]) (fun _ => by kernel_rfl) (fun _ => trivial) (fun _ => ?_)
        refine JRg_lookr (.o 1 none) (nu2 0) 117 9 22 (IsKey TypeDesc.string) (.string x.o.text) (.slice none 0 0) false (some 78) (by kernel_rfl) (by kernel_rfl) (by kernel_rfl) keyOk_9 (by first | exact ⟨_, _, _, rfl⟩ | simp [MapKept.IsKey]) (by kernel_rfl) rfl hmo (fun hno => ?_) (fun v hv => ?_)
        ·rw [strG_in hT2] at hno
         cases hno
        ·rw [strG_in hT2, hF] at hv
         cases hv
         refine JR_run (id := 19) (rest := [(12, false), (13, false)]) [.rd 9 [] 0 0, .rd 10 [.o 2 none, .o 2 none, .o 2 none] 0 0, .wr 11 [] 0] [2, 3, 8, 10, 49, 50, 51, 70, 73, 78, 81] (E1 := fun nu4 => [(2, .val (.map none)), (3, .val (.map (some (nu1 0)))), (8, .val (.map (some (nu2 0)))), (10, .val (.pointer (some (⟨nu3 0, 0, none⟩)))), (49, .val (.slice (some (⟨b1, off1, none⟩)) l.length c)), (50, .val (.int .i64 (↑l.length : Int))), (51, .val (.int .i64 q)), (70, .val (.map (some (nu2 0)))), (73, .val (.string x.o.text)), (78, .val (.slice av nv cv)), (81, .val (.slice (some (⟨nu4 0, 0, none⟩)) 1 1))]) (h1 := fun nu4 => [(nu1 0, Obj.map es clock), (nu2 0, Obj.map es1 clock1), (nu3 0, .cells #[.int .i64 x.o.no, .string x.o.key, .int .i64 x.o.kind, .string x.o.text, .int .i64 x.o.n, .bool x.o.remove, .slice (a1_0, c1_0).fst ((List.map eDot x.o.dots).length) c1_0, .int .i64 x.d.place, .int .i64 x.d.time, .int .i64 x.d.no, .int .i64 x.w] 112 (0, 0)), (nu4 0, .cells #[.int .i64 x.d.place, .int .i64 x.d.time, .int .i64 x.d.no] 65 (0, 0))]) (p1 := fun nu4 => []) (W1 := [(12, []), (13, [1])]) (fun _ => by kernel_rfl) (fun _ => trivial) (fun nu4 => ?_)
         refine JR_appm 1 22 65 3 24 (.agg #[.int .i64 0, .int .i64 0, .int .i64 0]) (a0 := av) (len := nv) (cap0 := cv) (ax := (some (⟨nu4 0, 0, none⟩))) (m := 1) (c := 1) (dst := (some 82)) [x.d] (by kernel_rfl) (by kernel_rfl) (by kernel_rfl) (by kernel_rfl) rfl (by decide) rfl (fun _ _ _ s => src_one s 3 rfl rfl ⟨.inl ⟨rfl, rfl⟩, ⟨.inl ⟨rfl, rfl⟩, ⟨.inl ⟨rfl, rfl⟩, trivial⟩⟩⟩) (by simp only [maxLen]; omega) (by omega) (fun av1 cv1 => ?_)
         try simp only [cAp, nAp, aNl]
         refine JRg_puts 1 (nu2 0) 117 9 22 (IsKey TypeDesc.string) (.string x.o.text) (.slice av1 (nv + 1) cv1) none (by kernel_rfl) (by kernel_rfl) (by kernel_rfl) keyOk_9 (by first | exact ⟨_, _, _, rfl⟩ | simp [MapKept.IsKey]) rfl hmo (fun es2 clock2 hm2 hsz2 hst2 => ?_)
         try simp only [cAp, nAp, aNl]
         refine JR_end ?_
         try simp only [cAp, nAp, aNl]
         refine J_eb ?_
         try simp only [cAp, nAp, aNl]
         refine Gp mixed [.rd 0 [] 0 1, zR 1] [] [2, 3, 8, 10, 49, 50, 51, 70, 73, 78, 81, 82] (fun _ => [zV 2 (.map none), zV 3 (.map (some (nu1 0))), zV 8 (.map (some (nu2 0))), zP 10 (nu3 0), zS 49 (sA b1 off1) l.length c, zI 50 (↑l.length : Int), zI 51 (q + 1), zV 70 (.map (some (nu2 0))), zV 73 (.string x.o.text), zS 78 av nv cv, zS 81 (sA (nu4 0) 0) 1 1, zS 82 av1 (nv + 1) cv1]) (fun _ => [(nu1 0, Obj.map es clock), (nu2 0, Obj.map es2 clock2), (nu3 0, .cells #[nI x.o.no, .string x.o.key, nI x.o.kind, .string x.o.text, nI x.o.n, .bool x.o.remove, .slice a1_0 ((List.map eDot x.o.dots).length) c1_0, nI x.d.place, nI x.d.time, nI x.d.no, nI x.w] 112 (0, 0)), (nu4 0, .cells #[nI x.d.place, nI x.d.time, nI x.d.no] 65 (0, 0))]) (fun _ => [IntKind.i64.wrap (q + (1 : Int)) = q + (1 : Int)]) (fun _ => ⟨wrap_i64 (by omega) (by omega), trivial⟩) (fun _ => ?_)
         try simp only [cAp, nAp, aNl]
         refine J_norm (C' := [(cStar (List.map (fun t => cMapG (mb t) okDot (dotSet (goneDots l t))) ks)), (cStar ((List.map (fun t => cAcc (F t) 65 3 (List.map eDot (outDots l (List.take q.toNat l) t))) ks1).eraseIdx i2)), cAcc (.slice av1 (nv + 1) cv1) 65 3 (List.map eDot (outDots l (List.take q.toNat l) x.o.text ++ [x.d]))]) (G' := [(.slice (some (⟨b1, off1, none⟩)) l.length c, (D.sl 11 (List.map eDone l))), (.slice a1_0 ((List.map eDot x.o.dots).length) c1_0, (D.sl 3 (List.map eDot x.o.dots)))]) (by kernel_rfl) (by kernel_rfl) ?_
         have hE2 := map_out (Q := fun t => cAcc (F t) 65 3 ((outDots l (l.take q.toNat) t).map eDot)) (Q' := fun t => cAcc (upd F x.o.text (.slice av1 (nv + 1) cv1) t) 65 3 ((outDots l (l.take (q + 1).toNat) t).map eDot)) hnd1 hit2 fun s hs => by
          show cAcc (upd F x.o.text (.slice av1 (nv + 1) cv1) s) _ 3 ((outDots l (l.take (q + 1).toNat) s).map eDot) = cAcc (F s) _ 3 ((outDots l (l.take q.toNat) s).map eDot)
          rw [upd_ne _ _ hs, outDots_other hx hq0 hs]
         refine J_stp (stp_join 2 1 i2 (cs' := ks1.map fun t => cAcc (upd F x.o.text (.slice av1 (nv + 1) cv1) t) 65 3 ((outDots l (l.take (q + 1).toNat) t).map eDot)) rfl rfl (by decide) (by
          rw [List.getElem?_map, hit2]
          show some (cAcc (upd F x.o.text (.slice av1 (nv + 1) cv1) x.o.text) _ 3 ((outDots l (l.take (q + 1).toNat) x.o.text).map eDot)) = _
          rw [upd_at, outDots_new hx hq0 hrem hout]) hE2) ?_
         refine J_norm (C' := [(cStar (List.map (fun t => cMapG (mb t) okDot (dotSet (goneDots l t))) ks)), (cStar (List.map (fun t => cAcc (upd F x.o.text (Value.slice av1 (nv + 1) cv1) t) 65 3 (List.map eDot (outDots l (List.take (q + 1).toNat l) t))) ks1))]) (G' := [(.slice (some (⟨b1, off1, none⟩)) l.length c, (D.sl 11 (List.map eDone l))), (.slice a1_0 ((List.map eDot x.o.dots).length) c1_0, (D.sl 3 (List.map eDot x.o.dots)))]) (by kernel_rfl) (by kernel_rfl) ?_
         refine J_stp (stp_cs [1, 0] rfl) ?_
         refine J_norm (C' := [(cStar (List.map (fun t => cAcc (upd F x.o.text (Value.slice av1 (nv + 1) cv1) t) 65 3 (List.map eDot (outDots l (List.take (q + 1).toNat l) t))) ks1)), (cStar (List.map (fun t => cMapG (mb t) okDot (dotSet (goneDots l t))) ks))]) (G' := [(.slice (some (⟨b1, off1, none⟩)) l.length c, (D.sl 11 (List.map eDone l))), (.slice a1_0 ((List.map eDot x.o.dots).length) c1_0, (D.sl 3 (List.map eDot x.o.dots)))]) (by kernel_rfl) (by kernel_rfl) ?_
         refine J_backx ⟨q + 1, _, _, ks1, upd F x.o.text (.slice av1 (nv + 1) cv1)⟩ [2, 3, 8, 49, 50, 51] [0, 1] [0, 1] [0] ?_ ?_ (by kernel_rfl) rfl rfl rfl
         ·refine ⟨by simp only; omega, by simp only; omega, hm2.congr (strG_set hT2), hst2 hst, hnd1, fun t => ?_⟩
          by_cases hs : t = x.o.text
          ·subst hs
           simp only [outDots_new hx hq0 hrem hout]
           simp [hT2]
          ·simp only [outDots_other hx hq0 hs]
           exact hiff t
         ·simp only
          omega
       ·have ho0 : outDots l (l.take q.toNat) x.o.text = [] := Classical.byContradiction fun h => hT2 ((hiff _).2 h)
        refine J_stp (stp_accm eDot 65 3) ?_
        refine J_norm (C' := [(cStar (List.map (fun t => cAcc (F t) 65 3 (List.map eDot (outDots l (List.take q.toNat l) t))) ks1)), (cStar (List.map (fun t => cMapG (mb t) okDot (dotSet (goneDots l t))) ks)), cAcc (.slice none 0 0) 65 3 (List.map eDot [])]) (G' := [(.slice (some (⟨b1, off1, none⟩)) l.length c, (D.sl 11 (List.map eDone l))), (.slice (a1_0, c1_0).fst ((List.map eDot x.o.dots).length) c1_0, (D.sl 3 (List.map eDot x.o.dots)))]) (by kernel_rfl) (by kernel_rfl) ?_
        refine jB mixed [(0, true), (1, true), (2, true), (3, true), (4, true), (5, true), (6, true), (7, true), (8, true), (9, true), (10, true), (11, false), (12, false), (13, false)] [(12, []), (13, [1])] ?_
        refine JR_run (id := 19) (rest := [(8, true), (9, true), (10, true), (11, false), (12, false), (13, false)]) [.rd 0 [] 0 0, .rd 1 [] 0 0, .rd 2 [] 0 0, .rd 3 [.o 2 none] 0 0, .rd 4 [] 0 0, .rd 5 [] 0 0, .rd 6 [] 0 0, .rd 7 [.o 2 none] 0 0] [2, 3, 8, 10, 49, 50, 51, 70, 73, 74, 77] (E1 := fun _ => [(2, .val (.map none)), (3, .val (.map (some (nu1 0)))), (8, .val (.map (some (nu2 0)))), (10, .val (.pointer (some (⟨nu3 0, 0, none⟩)))), (49, .val (.slice (some (⟨b1, off1, none⟩)) l.length c)), (50, .val (.int .i64 (↑l.length : Int))), (51, .val (.int .i64 q)), (70, .val (.map (some (nu2 0)))), (73, .val (.string x.o.text)), (74, .val (.map (some (nu2 0)))), (77, .val (.string x.o.text))]) (h1 := fun _ => [(nu1 0, Obj.map es clock), (nu2 0, Obj.map es1 clock1), (nu3 0, .cells #[.int .i64 x.o.no, .string x.o.key, .int .i64 x.o.kind, .string x.o.text, .int .i64 x.o.n, .bool x.o.remove, .slice (a1_0, c1_0).fst ((List.map eDot x.o.dots).length) c1_0, .int .i64 x.d.place, .int .i64 x.d.time, .int .i64 x.d.no, .int .i64 x.w] 112 (0, 0))]) (p1 := fun _ => []) (W1 := [(12, []), (13, [1])]) (fun _ => by kernel_rfl) (fun _ => trivial) (fun _ => ?_)
        refine JRg_lookr (.o 1 none) (nu2 0) 117 9 22 (IsKey TypeDesc.string) (.string x.o.text) (.slice none 0 0) false (some 78) (by kernel_rfl) (by kernel_rfl) (by kernel_rfl) keyOk_9 (by first | exact ⟨_, _, _, rfl⟩ | simp [MapKept.IsKey]) (by kernel_rfl) rfl hmo (fun hno => ?_) (fun v hv => ?_)
        ·refine JR_run (id := 19) (rest := [(12, false), (13, false)]) [.rd 9 [] 0 0, .rd 10 [.o 2 none, .o 2 none, .o 2 none] 0 0, .wr 11 [] 0] [2, 3, 8, 10, 49, 50, 51, 70, 73, 78, 81] (E1 := fun nu4 => [(2, .val (.map none)), (3, .val (.map (some (nu1 0)))), (8, .val (.map (some (nu2 0)))), (10, .val (.pointer (some (⟨nu3 0, 0, none⟩)))), (49, .val (.slice (some (⟨b1, off1, none⟩)) l.length c)), (50, .val (.int .i64 (↑l.length : Int))), (51, .val (.int .i64 q)), (70, .val (.map (some (nu2 0)))), (73, .val (.string x.o.text)), (78, .val (.slice none 0 0)), (81, .val (.slice (some (⟨nu4 0, 0, none⟩)) 1 1))]) (h1 := fun nu4 => [(nu1 0, Obj.map es clock), (nu2 0, Obj.map es1 clock1), (nu3 0, .cells #[.int .i64 x.o.no, .string x.o.key, .int .i64 x.o.kind, .string x.o.text, .int .i64 x.o.n, .bool x.o.remove, .slice (a1_0, c1_0).fst ((List.map eDot x.o.dots).length) c1_0, .int .i64 x.d.place, .int .i64 x.d.time, .int .i64 x.d.no, .int .i64 x.w] 112 (0, 0)), (nu4 0, .cells #[.int .i64 x.d.place, .int .i64 x.d.time, .int .i64 x.d.no] 65 (0, 0))]) (p1 := fun nu4 => []) (W1 := [(12, []), (13, [1])]) (fun _ => by kernel_rfl) (fun _ => trivial) (fun nu4 => ?_)
         refine JR_appm 2 22 65 3 24 (.agg #[.int .i64 0, .int .i64 0, .int .i64 0]) (a0 := none) (len := 0) (cap0 := 0) (ax := (some (⟨nu4 0, 0, none⟩))) (m := 1) (c := 1) (dst := (some 82)) [x.d] (by kernel_rfl) (by kernel_rfl) (by kernel_rfl) (by kernel_rfl) rfl (by decide) rfl (fun _ _ _ s => src_one s 3 rfl rfl ⟨.inl ⟨rfl, rfl⟩, ⟨.inl ⟨rfl, rfl⟩, ⟨.inl ⟨rfl, rfl⟩, trivial⟩⟩⟩) (by simp only [maxLen]; omega) (by omega) (fun av1 cv1 => ?_)
         try simp only [cAp, nAp, aNl]
         refine JRg_puts 1 (nu2 0) 117 9 22 (IsKey TypeDesc.string) (.string x.o.text) (.slice av1 1 cv1) none (by kernel_rfl) (by kernel_rfl) (by kernel_rfl) keyOk_9 (by first | exact ⟨_, _, _, rfl⟩ | simp [MapKept.IsKey]) rfl hmo (fun es2 clock2 hm2 hsz2 hst2 => ?_)
         try simp only [cAp, nAp, aNl]
         refine JR_end ?_
         try simp only [cAp, nAp, aNl]
         refine J_eb ?_
         try simp only [cAp, nAp, aNl]
         refine Gp mixed [.rd 0 [] 0 1, zR 1] [] [2, 3, 8, 10, 49, 50, 51, 70, 73, 78, 81, 82] (fun _ => [zV 2 (.map none), zV 3 (.map (some (nu1 0))), zV 8 (.map (some (nu2 0))), zP 10 (nu3 0), zS 49 (sA b1 off1) l.length c, zI 50 (↑l.length : Int), zI 51 (q + 1), zV 70 (.map (some (nu2 0))), zV 73 (.string x.o.text), zS 78 none 0 0, zS 81 (sA (nu4 0) 0) 1 1, zS 82 av1 1 cv1]) (fun _ => [(nu1 0, Obj.map es clock), (nu2 0, Obj.map es2 clock2), (nu3 0, .cells #[nI x.o.no, .string x.o.key, nI x.o.kind, .string x.o.text, nI x.o.n, .bool x.o.remove, .slice a1_0 ((List.map eDot x.o.dots).length) c1_0, nI x.d.place, nI x.d.time, nI x.d.no, nI x.w] 112 (0, 0)), (nu4 0, .cells #[nI x.d.place, nI x.d.time, nI x.d.no] 65 (0, 0))]) (fun _ => [IntKind.i64.wrap (q + (1 : Int)) = q + (1 : Int)]) (fun _ => ⟨wrap_i64 (by omega) (by omega), trivial⟩) (fun _ => ?_)
         try simp only [cAp, nAp, aNl]
         refine J_norm (C' := [(cStar (List.map (fun t => cAcc (F t) 65 3 (List.map eDot (outDots l (List.take q.toNat l) t))) ks1)), (cStar (List.map (fun t => cMapG (mb t) okDot (dotSet (goneDots l t))) ks)), cAcc (.slice av1 1 cv1) 65 3 (List.map eDot [x.d])]) (G' := [(.slice (some (⟨b1, off1, none⟩)) l.length c, (D.sl 11 (List.map eDone l))), (.slice a1_0 ((List.map eDot x.o.dots).length) c1_0, (D.sl 3 (List.map eDot x.o.dots)))]) (by kernel_rfl) (by kernel_rfl) ?_
         have hE2 := map_new (t := x.o.text) (Q := fun t => cAcc (F t) 65 3 ((outDots l (l.take q.toNat) t).map eDot)) (Q' := fun t => cAcc (upd F x.o.text (.slice av1 1 cv1) t) 65 3 ((outDots l (l.take (q + 1).toNat) t).map eDot)) (ks := ks1) fun s hs => by
          have hne : s ≠ x.o.text := fun he => hT2 (he ▸ hs)
          show cAcc (upd F x.o.text (.slice av1 1 cv1) s) _ 3 ((outDots l (l.take (q + 1).toNat) s).map eDot) = cAcc (F s) _ 3 ((outDots l (l.take q.toNat) s).map eDot)
          rw [upd_ne _ _ hne, outDots_other hx hq0 hne]
         refine J_stp (stp_join 2 0 ks1.length (cs' := (ks1 ++ [x.o.text]).map fun t => cAcc (upd F x.o.text (.slice av1 1 cv1) t) 65 3 ((outDots l (l.take (q + 1).toNat) t).map eDot)) rfl rfl (by decide) (by
          rw [List.getElem?_map, show (ks1 ++ [x.o.text])[ks1.length]? = some x.o.text by simp]
          show some (cAcc (upd F x.o.text (.slice av1 1 cv1) x.o.text) _ 3 ((outDots l (l.take (q + 1).toNat) x.o.text).map eDot)) = _
          rw [upd_at, outDots_new hx hq0 hrem hout, ho0]
          rfl) hE2) ?_
         refine J_norm (C' := [(cStar (List.map (fun t => cMapG (mb t) okDot (dotSet (goneDots l t))) ks)), (cStar (List.map (fun t => cAcc (upd F x.o.text (Value.slice av1 1 cv1) t) 65 3 (List.map eDot (outDots l (List.take (q + 1).toNat l) t))) (ks1 ++ [x.o.text])))]) (G' := [(.slice (some (⟨b1, off1, none⟩)) l.length c, (D.sl 11 (List.map eDone l))), (.slice a1_0 ((List.map eDot x.o.dots).length) c1_0, (D.sl 3 (List.map eDot x.o.dots)))]) (by kernel_rfl) (by kernel_rfl) ?_
         refine J_stp (stp_cs [1, 0] rfl) ?_
         refine J_norm (C' := [(cStar (List.map (fun t => cAcc (upd F x.o.text (Value.slice av1 1 cv1) t) 65 3 (List.map eDot (outDots l (List.take (q + 1).toNat l) t))) (ks1 ++ [x.o.text]))), (cStar (List.map (fun t => cMapG (mb t) okDot (dotSet (goneDots l t))) ks))]) (G' := [(.slice (some (⟨b1, off1, none⟩)) l.length c, (D.sl 11 (List.map eDone l))), (.slice a1_0 ((List.map eDot x.o.dots).length) c1_0, (D.sl 3 (List.map eDot x.o.dots)))]) (by kernel_rfl) (by kernel_rfl) ?_
         refine J_backx ⟨q + 1, _, _, ks1 ++ [x.o.text], upd F x.o.text (.slice av1 1 cv1)⟩ [2, 3, 8, 49, 50, 51] [0, 1] [0, 1] [0] ?_ ?_ (by kernel_rfl) rfl rfl rfl
         ·refine ⟨by simp only; omega, by simp only; omega, hm2.congr (strG_new hT2), hst2 hst, List.nodup_append.2 ⟨hnd1, by simp, fun a ha b hb => ?_⟩, fun t => ?_⟩
          ·rw [List.mem_singleton] at hb
           subst hb
           exact fun he => hT2 (by rw [← he]; exact ha)
          by_cases hs : t = x.o.text
          ·subst hs
           simp only [outDots_new hx hq0 hrem hout]
           simp
          ·simp only [outDots_other hx hq0 hs]
           rw [List.mem_append, List.mem_singleton]
           exact ⟨fun h => h.elim (hiff t).1 fun h => absurd h hs, fun h => .inl ((hiff t).2 h)⟩
         ·simp only
          omega
        ·rw [strG_out hT2] at hv
         cases hv
      ·have hin : x.d ∈ goneDots l x.o.text := Classical.byContradiction fun h => by
        rw [dotSet_out h] at hv
        cases hv
       rw [dotSet_in hin] at hv
       cases hv
       refine Gr (id := 18) (rest := []) [zR 13, zR 14] [2, 3, 8, 10, 49, 50, 51, 69] (fun _ => [zV 2 (.map none), zV 3 (.map (some (nu1 0))), zV 8 (.map (some (nu2 0))), zP 10 (nu3 0), zS 49 (sA b1 off1) l.length c, zI 50 (↑l.length : Int), zI 51 q, zB 69 false]) (fun _ => [(nu1 0, Obj.map es clock), (nu2 0, Obj.map es1 clock1), (nu3 0, .cells #[nI x.o.no, .string x.o.key, nI x.o.kind, .string x.o.text, nI x.o.n, .bool x.o.remove, .slice (a1_0, c1_0).fst ((List.map eDot x.o.dots).length) c1_0, nI x.d.place, nI x.d.time, nI x.d.no, nI x.w] 112 (0, 0)), (mb x.o.text, Obj.map es9 clock9)]) (fun _ => ?_)
       refine JR_end ?_
       refine cF ?_
       refine J_skip ?_
       refine J_eb ?_
       refine Gp mixed [.rd 0 [] 0 1, zR 1] [] [2, 3, 8, 10, 49, 50, 51] (fun _ => [zV 2 (.map none), zV 3 (.map (some (nu1 0))), zV 8 (.map (some (nu2 0))), zP 10 (nu3 0), zS 49 (sA b1 off1) l.length c, zI 50 (↑l.length : Int), zI 51 (q + 1)]) (fun _ => [(nu1 0, Obj.map es clock), (nu2 0, Obj.map es1 clock1), (nu3 0, .cells #[nI x.o.no, .string x.o.key, nI x.o.kind, .string x.o.text, nI x.o.n, .bool x.o.remove, .slice (a1_0, c1_0).fst ((List.map eDot x.o.dots).length) c1_0, nI x.d.place, nI x.d.time, nI x.d.no, nI x.w] 112 (0, 0)), (mb x.o.text, Obj.map es9 clock9)]) (fun _ => [IntKind.i64.wrap (q + (1 : Int)) = q + (1 : Int)]) (fun _ => ⟨wrap_i64 (by omega) (by omega), trivial⟩) (fun _ => ?_)
       refine J_hide 3 rfl ?_
       refine J_stp (stp_conv 2 rfl (mapg_eqv hm9)) ?_
       refine J_stp (stp_join 2 1 iT (cs' := ks.map fun t => cMapG (mb t) okDot (dotSet (goneDots l t))) rfl rfl (by decide) (by rw [List.getElem?_map, hit]; rfl) rfl) ?_
       have e4 : (fun t => cAcc (F t) 65 3 ((outDots l (l.take q.toNat) t).map eDot)) = fun t => cAcc (F t) 65 3 ((outDots l (l.take (q + 1).toNat) t).map eDot) := funext fun t => by rw [outDots_skip hx hq0 (.inr hin)]
       rw [e4]
       refine J_backx ⟨q + 1, _, _, ks1, F⟩ [2, 3, 8, 49, 50, 51] [0, 1] [0, 1] [0] ?_ ?_ (by kernel_rfl) rfl rfl rfl
       ·exact ⟨by simp only; omega, by simp only; omega, hmo, hst, hnd1, fun t => by rw [outDots_skip hx hq0 (.inr hin)]; exact hiff t⟩
       ·simp only
        omega
    ·try simp only [List.cons_append, List.nil_append, List.append_nil]
     refine J_skip ?_
     refine J_seq ?_
     refine J_block ?_
     refine Sp mixed [.rd 0 [] 0 2, .rd 1 [.r 0 (some (nI x.o.no)), .r 0 (some (.string x.o.key)), .r 0 (some (nI x.o.kind)), .r 0 (some (.string x.o.text)), .r 0 (some (nI x.o.n)), .r 0 (some (.bool x.o.remove)), .r 0 (some (.slice (a1_0, c1_0).fst ((List.map eDot x.o.dots).length) c1_0)), .r 0 (some (nI x.d.place)), .r 0 (some (nI x.d.time)), .r 0 (some (nI x.d.no)), .r 0 (some (nI x.w))] 0 0, .wr 2 [] 0, .wr 3 [.o 2 none, .o 2 none, .o 2 none, .o 2 none, .o 2 none, .o 2 none, .o 2 none, .o 2 none, .o 2 none, .o 2 none, .o 2 none] 0] [(3, [])] [2, 3, 8, 10, 49, 50, 51] (fun nu3 => [zV 2 (.map none), zV 3 (.map (some (nu1 0))), zV 8 (.map (some (nu2 0))), zP 10 (nu3 0), zS 49 (sA b1 off1) l.length c, zI 50 (↑l.length : Int), zI 51 q]) (fun nu3 => [(nu1 0, Obj.map es clock), (nu2 0, Obj.map es1 clock1), (nu3 0, .cells #[nI x.o.no, .string x.o.key, nI x.o.kind, .string x.o.text, nI x.o.n, .bool x.o.remove, .slice (a1_0, c1_0).fst ((List.map eDot x.o.dots).length) c1_0, nI x.d.place, nI x.d.time, nI x.d.no, nI x.w] 112 (0, 0))]) (fun nu3 => [(0 : Int) ≤ q, q < (↑l.length : Int), cs1[off1 + q.toNat * (11 : Nat)]? = some (nI x.o.no), cs1[off1 + q.toNat * (11 : Nat) + (1 : Nat)]? = some (Value.string x.o.key), cs1[off1 + q.toNat * (11 : Nat) + (2 : Nat)]? = some (nI x.o.kind), cs1[off1 + q.toNat * (11 : Nat) + (3 : Nat)]? = some (Value.string x.o.text), cs1[off1 + q.toNat * (11 : Nat) + (4 : Nat)]? = some (nI x.o.n), cs1[off1 + q.toNat * (11 : Nat) + (5 : Nat)]? = some (Value.bool x.o.remove), cs1[off1 + q.toNat * (11 : Nat) + (6 : Nat)]? = some (Value.slice (a1_0, c1_0).fst (List.map eDot x.o.dots).length (a1_0, c1_0).snd), cs1[off1 + q.toNat * (11 : Nat) + (7 : Nat)]? = some (nI x.d.place), cs1[off1 + q.toNat * (11 : Nat) + (8 : Nat)]? = some (nI x.d.time), cs1[off1 + q.toNat * (11 : Nat) + (9 : Nat)]? = some (nI x.d.no), cs1[off1 + q.toNat * (11 : Nat) + (10 : Nat)]? = some (nI x.w)]) (fun _ => ⟨hq0, hlt3, hrd1_0, hrd1_1, hrd1_2, hrd1_3, hrd1_4, hrd1_5, hrd1_6, hrd1_7, hrd1_8, hrd1_9, hrd1_10, trivial⟩) (fun nu3 => ?_)
     refine J_seq ?_
     refine jB mixed [(0, true), (1, true), (2, true), (3, true), (4, true), (5, true), (6, true), (7, true), (8, true), (9, true), (10, true), (11, true), (12, true), (13, true), (14, true)] [] ?_
     refine Gs (id := 18) (rest := [(9, true), (10, true), (11, true), (12, true), (13, true), (14, true)]) [zR 0, zR 1, .rd 2 [.o 2 none] 0 0, .rd 3 [] 0 6, zR 4, zR 5, zR 6, zR 7, .rd 8 [.o 2 none] 0 0] [2, 3, 8, 10, 49, 50, 51, 59, 60, 63] (fun _ => [zV 2 (.map none), zV 3 (.map (some (nu1 0))), zV 8 (.map (some (nu2 0))), zP 10 (nu3 0), zS 49 (sA b1 off1) l.length c, zI 50 (↑l.length : Int), zI 51 q, zB 59 true, zV 60 (.map (some (nu1 0))), zV 63 (.string x.o.text)]) (fun _ => [(nu1 0, Obj.map es clock), (nu2 0, Obj.map es1 clock1), (nu3 0, .cells #[nI x.o.no, .string x.o.key, nI x.o.kind, .string x.o.text, nI x.o.n, .bool x.o.remove, .slice (a1_0, c1_0).fst ((List.map eDot x.o.dots).length) c1_0, nI x.d.place, nI x.d.time, nI x.d.no, nI x.w] 112 (0, 0))]) (fun _ => [(!x.o.remove) = true]) (fun _ => ⟨by simp; omega, trivial⟩) (fun _ => ?_)
     refine JRg_lookq (.o 0 none) (nu1 0) 161 9 131 (IsKey TypeDesc.string) (.string x.o.text) (.map none) false (some 64) (by kernel_rfl) (by kernel_rfl) (by kernel_rfl) keyOk_9 (by first | exact ⟨_, _, _, rfl⟩ | simp [MapKept.IsKey]) (by kernel_rfl) rfl hm (fun hno => ?_) (fun v hv => ?_)
     ·refine JR_run (id := 18) (rest := [(12, true), (13, true), (14, true)]) [.rd 10 [] 0 0, .rd 11 [.o 2 none, .o 2 none, .o 2 none] 0 0] [2, 3, 8, 10, 49, 50, 51, 59, 64, 66] (E1 := fun _ => [(2, .val (.map none)), (3, .val (.map (some (nu1 0)))), (8, .val (.map (some (nu2 0)))), (10, .val (.pointer (some (⟨nu3 0, 0, none⟩)))), (49, .val (.slice (some (⟨b1, off1, none⟩)) l.length c)), (50, .val (.int .i64 (↑l.length : Int))), (51, .val (.int .i64 q)), (59, .val (.bool true)), (64, .val (.map none)), (66, .val (.agg #[.int .i64 x.d.place, .int .i64 x.d.time, .int .i64 x.d.no]))]) (h1 := fun _ => [(nu1 0, Obj.map es clock), (nu2 0, Obj.map es1 clock1), (nu3 0, .cells #[.int .i64 x.o.no, .string x.o.key, .int .i64 x.o.kind, .string x.o.text, .int .i64 x.o.n, .bool x.o.remove, .slice (a1_0, c1_0).fst ((List.map eDot x.o.dots).length) c1_0, .int .i64 x.d.place, .int .i64 x.d.time, .int .i64 x.d.no, .int .i64 x.w] 112 (0, 0))]) (p1 := fun _ => []) (W1 := []) (fun _ => by kernel_rfl) (fun _ => trivial) (fun _ => ?_)
      refine JRg_lookqn 131 65 4 _ (.agg #[.int .i64 x.d.place, .int .i64 x.d.time, .int .i64 x.d.no]) (.bool false) false (some 67) (by kernel_rfl) (by kernel_rfl) keyOk_65 (by first | exact ⟨_, _, _, rfl⟩ | simp [MapKept.IsKey]) (by kernel_rfl) ?_
      refine Gr (id := 18) (rest := []) [zR 13, zR 14] [2, 3, 8, 10, 49, 50, 51, 69] (fun _ => [zV 2 (.map none), zV 3 (.map (some (nu1 0))), zV 8 (.map (some (nu2 0))), zP 10 (nu3 0), zS 49 (sA b1 off1) l.length c, zI 50 (↑l.length : Int), zI 51 q, zB 69 true]) (fun _ => [(nu1 0, Obj.map es clock), (nu2 0, Obj.map es1 clock1), (nu3 0, .cells #[nI x.o.no, .string x.o.key, nI x.o.kind, .string x.o.text, nI x.o.n, .bool x.o.remove, .slice (a1_0, c1_0).fst ((List.map eDot x.o.dots).length) c1_0, nI x.d.place, nI x.d.time, nI x.d.no, nI x.w] 112 (0, 0))]) (fun _ => ?_)
      refine JR_end ?_
      refine cTt ?_
      have hg0 : goneDots l x.o.text = [] := goneDots_none fun z hz hzr he => hT (he ▸ hall z hz hzr)
      have hout : x.d ∉ goneDots l x.o.text := by rw [hg0]; simp
      have hlen := outDots_len l (l.take q.toNat) x.o.text
      rw [List.length_take] at hlen
      by_cases hT2 : x.o.text ∈ ks1
      ·obtain ⟨i2, hit2⟩ := List.getElem?_of_mem hT2
       refine J_stp (stp_take (c := cAcc (F x.o.text) 65 3 ((outDots l (l.take q.toNat) x.o.text).map eDot)) 0 i2 rfl (by rw [List.getElem?_map, hit2]; rfl)) ?_
       refine J_stpx (stp_accform 1 rfl) fun y hF => ?_
       obtain ⟨av, nv, cv⟩ := y
       obtain ⟨hF, hn⟩ := hF
       dsimp only at hF hn
       rw [List.length_map] at hn
       have hnb : nv ≤ 4000000 := by omega
       rw [hF]
       try simp only [cAp, nAp, aNl]
       refine jB mixed [(0, true), (1, true), (2, true), (3, true), (4, true), (5, true), (6, true), (7, true), (8, true), (9, true), (10, true), (11, false), (12, false), (13, false)] [(12, []), (13, [1])] ?_
       refine JR_run (id := 19) (rest := [(8, true), (9, true), (10, true), (11, false), (12, false), (13, false)]) [.rd 0 [] 0 0, .rd 1 [] 0 0, .rd 2 [] 0 0, .rd 3 [.o 2 none] 0 0, .rd 4 [] 0 0, .rd 5 [] 0 0, .rd 6 [] 0 0, .rd 7 [.o 2 none] 0 0] [2, 3, 8, 10, 49, 50, 51, 70, 73, 74, 77] (E1 := fun _ => [(2, .val (.map none)), (3, .val (.map (some (nu1 0)))), (8, .val (.map (some (nu2 0)))), (10, .val (.pointer (some (⟨nu3 0, 0, none⟩)))), (49, .val (.slice (some (⟨b1, off1, none⟩)) l.length c)), (50, .val (.int .i64 (↑l.length : Int))), (51, .val (.int .i64 q)), (70, .val (.map (some (nu2 0)))), (73, .val (.string x.o.text)), (74, .val (.map (some (nu2 0)))), (77, .val (.string x.o.text))]) (h1 := fun _ => [(nu1 0, Obj.map es clock), (nu2 0, Obj.map es1 clock1), (nu3 0, .cells #[.int .i64 x.o.no, .string x.o.key, .int .i64 x.o.kind, .string x.o.text, .int .i64 x.o.n, .bool x.o.remove, .slice a1_0 ((List.map eDot x.o.dots).length) c1_0, .int .i64 x.d.place, .int .i64 x.d.time, .int .i64 x.d.no, .int .i64 x.w] 112 (0, 0))]) (p1 := fun _ => []) (W1 := [(12, []), (13, [1])]) (fun _ => by kernel_rfl) (fun _ => trivial) (fun _ => ?_)
       refine JRg_lookr (.o 1 none) (nu2 0) 117 9 22 (IsKey TypeDesc.string) (.string x.o.text) (.slice none 0 0) false (some 78) (by kernel_rfl) (by kernel_rfl) (by kernel_rfl) keyOk_9 (by first | exact ⟨_, _, _, rfl⟩ | simp [MapKept.IsKey]) (by kernel_rfl) rfl hmo (fun hno => ?_) (fun v hv => ?_)
       ·rw [strG_in hT2] at hno
        cases hno
       ·rw [strG_in hT2, hF] at hv
        cases hv
        try simp only [cAp, nAp, aNl]
        refine JR_run (id := 19) (rest := [(12, false), (13, false)]) [.rd 9 [] 0 0, .rd 10 [.o 2 none, .o 2 none, .o 2 none] 0 0, .wr 11 [] 0] [2, 3, 8, 10, 49, 50, 51, 70, 73, 78, 81] (E1 := fun nu4 => [(2, .val (.map none)), (3, .val (.map (some (nu1 0)))), (8, .val (.map (some (nu2 0)))), (10, .val (.pointer (some (⟨nu3 0, 0, none⟩)))), (49, .val (.slice (some (⟨b1, off1, none⟩)) l.length c)), (50, .val (.int .i64 (↑l.length : Int))), (51, .val (.int .i64 q)), (70, .val (.map (some (nu2 0)))), (73, .val (.string x.o.text)), (78, .val (.slice av nv cv)), (81, .val (.slice (some (⟨nu4 0, 0, none⟩)) 1 1))]) (h1 := fun nu4 => [(nu1 0, Obj.map es clock), (nu2 0, Obj.map es1 clock1), (nu3 0, .cells #[.int .i64 x.o.no, .string x.o.key, .int .i64 x.o.kind, .string x.o.text, .int .i64 x.o.n, .bool x.o.remove, .slice a1_0 ((List.map eDot x.o.dots).length) c1_0, .int .i64 x.d.place, .int .i64 x.d.time, .int .i64 x.d.no, .int .i64 x.w] 112 (0, 0)), (nu4 0, .cells #[.int .i64 x.d.place, .int .i64 x.d.time, .int .i64 x.d.no] 65 (0, 0))]) (p1 := fun nu4 => []) (W1 := [(12, []), (13, [1])]) (fun _ => by kernel_rfl) (fun _ => trivial) (fun nu4 => ?_)
        try simp only [cAp, nAp, aNl]
        refine JR_appm 1 22 65 3 24 (.agg #[.int .i64 0, .int .i64 0, .int .i64 0]) (a0 := av) (len := nv) (cap0 := cv) (ax := (some (⟨nu4 0, 0, none⟩))) (m := 1) (c := 1) (dst := (some 82)) [x.d] (by kernel_rfl) (by kernel_rfl) (by kernel_rfl) (by kernel_rfl) rfl (by decide) rfl (fun _ _ _ s => src_one s 3 rfl rfl ⟨.inl ⟨rfl, rfl⟩, ⟨.inl ⟨rfl, rfl⟩, ⟨.inl ⟨rfl, rfl⟩, trivial⟩⟩⟩) (by simp only [maxLen]; omega) (by omega) (fun av1 cv1 => ?_)
        try simp only [cAp, nAp, aNl]
        refine JRg_puts 1 (nu2 0) 117 9 22 (IsKey TypeDesc.string) (.string x.o.text) (.slice av1 (nv + 1) cv1) none (by kernel_rfl) (by kernel_rfl) (by kernel_rfl) keyOk_9 (by first | exact ⟨_, _, _, rfl⟩ | simp [MapKept.IsKey]) rfl hmo (fun es2 clock2 hm2 hsz2 hst2 => ?_)
        try simp only [cAp, nAp, aNl]
        refine JR_end ?_
        try simp only [cAp, nAp, aNl]
        refine J_eb ?_
        try simp only [cAp, nAp, aNl]
        refine Gp mixed [.rd 0 [] 0 1, zR 1] [] [2, 3, 8, 10, 49, 50, 51, 70, 73, 78, 81, 82] (fun _ => [zV 2 (.map none), zV 3 (.map (some (nu1 0))), zV 8 (.map (some (nu2 0))), zP 10 (nu3 0), zS 49 (sA b1 off1) l.length c, zI 50 (↑l.length : Int), zI 51 (q + 1), zV 70 (.map (some (nu2 0))), zV 73 (.string x.o.text), zS 78 av nv cv, zS 81 (sA (nu4 0) 0) 1 1, zS 82 av1 (nv + 1) cv1]) (fun _ => [(nu1 0, Obj.map es clock), (nu2 0, Obj.map es2 clock2), (nu3 0, .cells #[nI x.o.no, .string x.o.key, nI x.o.kind, .string x.o.text, nI x.o.n, .bool x.o.remove, .slice a1_0 ((List.map eDot x.o.dots).length) c1_0, nI x.d.place, nI x.d.time, nI x.d.no, nI x.w] 112 (0, 0)), (nu4 0, .cells #[nI x.d.place, nI x.d.time, nI x.d.no] 65 (0, 0))]) (fun _ => [IntKind.i64.wrap (q + (1 : Int)) = q + (1 : Int)]) (fun _ => ⟨wrap_i64 (by omega) (by omega), trivial⟩) (fun _ => ?_)
        try simp only [cAp, nAp, aNl]
        refine J_norm (C' := [(cStar (List.map (fun t => cMapG (mb t) okDot (dotSet (goneDots l t))) ks)), (cStar ((List.map (fun t => cAcc (F t) 65 3 (List.map eDot (outDots l (List.take q.toNat l) t))) ks1).eraseIdx i2)), cAcc (.slice av1 (nv + 1) cv1) 65 3 (List.map eDot (outDots l (List.take q.toNat l) x.o.text ++ [x.d]))]) (G' := [(.slice (some (⟨b1, off1, none⟩)) l.length c, (D.sl 11 (List.map eDone l))), (.slice (a1_0, c1_0).fst ((List.map eDot x.o.dots).length) c1_0, (D.sl 3 (List.map eDot x.o.dots)))]) (by kernel_rfl) (by kernel_rfl) ?_
        have hE2 := map_out (Q := fun t => cAcc (F t) 65 3 ((outDots l (l.take q.toNat) t).map eDot)) (Q' := fun t => cAcc (upd F x.o.text (.slice av1 (nv + 1) cv1) t) 65 3 ((outDots l (l.take (q + 1).toNat) t).map eDot)) hnd1 hit2 fun s hs => by
         show cAcc (upd F x.o.text (.slice av1 (nv + 1) cv1) s) _ 3 ((outDots l (l.take (q + 1).toNat) s).map eDot) = cAcc (F s) _ 3 ((outDots l (l.take q.toNat) s).map eDot)
         rw [upd_ne _ _ hs, outDots_other hx hq0 hs]
        refine J_stp (stp_join 2 1 i2 (cs' := ks1.map fun t => cAcc (upd F x.o.text (.slice av1 (nv + 1) cv1) t) 65 3 ((outDots l (l.take (q + 1).toNat) t).map eDot)) rfl rfl (by decide) (by
         rw [List.getElem?_map, hit2]
         show some (cAcc (upd F x.o.text (.slice av1 (nv + 1) cv1) x.o.text) _ 3 ((outDots l (l.take (q + 1).toNat) x.o.text).map eDot)) = _
         rw [upd_at, outDots_new hx hq0 hrem hout]) hE2) ?_
        refine J_norm (C' := [(cStar (List.map (fun t => cMapG (mb t) okDot (dotSet (goneDots l t))) ks)), (cStar (List.map (fun t => cAcc (upd F x.o.text (Value.slice av1 (nv + 1) cv1) t) 65 3 (List.map eDot (outDots l (List.take (q + 1).toNat l) t))) ks1))]) (G' := [(.slice (some (⟨b1, off1, none⟩)) l.length c, (D.sl 11 (List.map eDone l))), (.slice (a1_0, c1_0).fst ((List.map eDot x.o.dots).length) c1_0, (D.sl 3 (List.map eDot x.o.dots)))]) (by kernel_rfl) (by kernel_rfl) ?_
        refine J_stp (stp_cs [1, 0] rfl) ?_
        refine J_norm (C' := [(cStar (List.map (fun t => cAcc (upd F x.o.text (Value.slice av1 (nv + 1) cv1) t) 65 3 (List.map eDot (outDots l (List.take (q + 1).toNat l) t))) ks1)), (cStar (List.map (fun t => cMapG (mb t) okDot (dotSet (goneDots l t))) ks))]) (G' := [(.slice (some (⟨b1, off1, none⟩)) l.length c, (D.sl 11 (List.map eDone l))), (.slice (a1_0, c1_0).fst ((List.map eDot x.o.dots).length) c1_0, (D.sl 3 (List.map eDot x.o.dots)))]) (by kernel_rfl) (by kernel_rfl) ?_
        refine J_backx ⟨q + 1, _, _, ks1, upd F x.o.text (.slice av1 (nv + 1) cv1)⟩ [2, 3, 8, 49, 50, 51] [0, 1] [0, 1] [0] ?_ ?_ (by kernel_rfl) rfl rfl rfl
        ·refine ⟨by simp only; omega, by simp only; omega, hm2.congr (strG_set hT2), hst2 hst, hnd1, fun t => ?_⟩
         by_cases hs : t = x.o.text
         ·subst hs
          simp only [outDots_new hx hq0 hrem hout]
          simp [hT2]
         ·simp only [outDots_other hx hq0 hs]
          exact hiff t
        ·simp only
         omega
      ·have ho0 : outDots l (l.take q.toNat) x.o.text = [] := Classical.byContradiction fun h => hT2 ((hiff _).2 h)
       refine J_stp (stp_accm eDot 65 3) ?_
       try simp only [cAp, nAp, aNl]
       refine jB mixed [(0, true), (1, true), (2, true), (3, true), (4, true), (5, true), (6, true), (7, true), (8, true), (9, true), (10, true), (11, false), (12, false), (13, false)] [(12, []), (13, [1])] ?_
       refine JR_run (id := 19) (rest := [(8, true), (9, true), (10, true), (11, false), (12, false), (13, false)]) [.rd 0 [] 0 0, .rd 1 [] 0 0, .rd 2 [] 0 0, .rd 3 [.o 2 none] 0 0, .rd 4 [] 0 0, .rd 5 [] 0 0, .rd 6 [] 0 0, .rd 7 [.o 2 none] 0 0] [2, 3, 8, 10, 49, 50, 51, 70, 73, 74, 77] (E1 := fun _ => [(2, .val (.map none)), (3, .val (.map (some (nu1 0)))), (8, .val (.map (some (nu2 0)))), (10, .val (.pointer (some (⟨nu3 0, 0, none⟩)))), (49, .val (.slice (some (⟨b1, off1, none⟩)) l.length c)), (50, .val (.int .i64 (↑l.length : Int))), (51, .val (.int .i64 q)), (70, .val (.map (some (nu2 0)))), (73, .val (.string x.o.text)), (74, .val (.map (some (nu2 0)))), (77, .val (.string x.o.text))]) (h1 := fun _ => [(nu1 0, Obj.map es clock), (nu2 0, Obj.map es1 clock1), (nu3 0, .cells #[.int .i64 x.o.no, .string x.o.key, .int .i64 x.o.kind, .string x.o.text, .int .i64 x.o.n, .bool x.o.remove, .slice a1_0 ((List.map eDot x.o.dots).length) c1_0, .int .i64 x.d.place, .int .i64 x.d.time, .int .i64 x.d.no, .int .i64 x.w] 112 (0, 0))]) (p1 := fun _ => []) (W1 := [(12, []), (13, [1])]) (fun _ => by kernel_rfl) (fun _ => trivial) (fun _ => ?_)
       refine JRg_lookr (.o 1 none) (nu2 0) 117 9 22 (IsKey TypeDesc.string) (.string x.o.text) (.slice none 0 0) false (some 78) (by kernel_rfl) (by kernel_rfl) (by kernel_rfl) keyOk_9 (by first | exact ⟨_, _, _, rfl⟩ | simp [MapKept.IsKey]) (by kernel_rfl) rfl hmo (fun hno => ?_) (fun v hv => ?_)
       ·refine JR_run (id := 19) (rest := [(12, false), (13, false)]) [.rd 9 [] 0 0, .rd 10 [.o 2 none, .o 2 none, .o 2 none] 0 0, .wr 11 [] 0] [2, 3, 8, 10, 49, 50, 51, 70, 73, 78, 81] (E1 := fun nu4 => [(2, .val (.map none)), (3, .val (.map (some (nu1 0)))), (8, .val (.map (some (nu2 0)))), (10, .val (.pointer (some (⟨nu3 0, 0, none⟩)))), (49, .val (.slice (some (⟨b1, off1, none⟩)) l.length c)), (50, .val (.int .i64 (↑l.length : Int))), (51, .val (.int .i64 q)), (70, .val (.map (some (nu2 0)))), (73, .val (.string x.o.text)), (78, .val (.slice none 0 0)), (81, .val (.slice (some (⟨nu4 0, 0, none⟩)) 1 1))]) (h1 := fun nu4 => [(nu1 0, Obj.map es clock), (nu2 0, Obj.map es1 clock1), (nu3 0, .cells #[.int .i64 x.o.no, .string x.o.key, .int .i64 x.o.kind, .string x.o.text, .int .i64 x.o.n, .bool x.o.remove, .slice a1_0 ((List.map eDot x.o.dots).length) c1_0, .int .i64 x.d.place, .int .i64 x.d.time, .int .i64 x.d.no, .int .i64 x.w] 112 (0, 0)), (nu4 0, .cells #[.int .i64 x.d.place, .int .i64 x.d.time, .int .i64 x.d.no] 65 (0, 0))]) (p1 := fun nu4 => []) (W1 := [(12, []), (13, [1])]) (fun _ => by kernel_rfl) (fun _ => trivial) (fun nu4 => ?_)
        refine JR_appm 2 22 65 3 24 (.agg #[.int .i64 0, .int .i64 0, .int .i64 0]) (a0 := none) (len := 0) (cap0 := 0) (ax := (some (⟨nu4 0, 0, none⟩))) (m := 1) (c := 1) (dst := (some 82)) [x.d] (by kernel_rfl) (by kernel_rfl) (by kernel_rfl) (by kernel_rfl) rfl (by decide) rfl (fun _ _ _ s => src_one s 3 rfl rfl ⟨.inl ⟨rfl, rfl⟩, ⟨.inl ⟨rfl, rfl⟩, ⟨.inl ⟨rfl, rfl⟩, trivial⟩⟩⟩) (by simp only [maxLen]; omega) (by omega) (fun av1 cv1 => ?_)
        try simp only [cAp, nAp, aNl]
        refine JRg_puts 1 (nu2 0) 117 9 22 (IsKey TypeDesc.string) (.string x.o.text) (.slice av1 1 cv1) none (by kernel_rfl) (by kernel_rfl) (by kernel_rfl) keyOk_9 (by first | exact ⟨_, _, _, rfl⟩ | simp [MapKept.IsKey]) rfl hmo (fun es2 clock2 hm2 hsz2 hst2 => ?_)
        try simp only [cAp, nAp, aNl]
        refine JR_end ?_
        try simp only [cAp, nAp, aNl]
        refine J_eb ?_
        try simp only [cAp, nAp, aNl]
        refine Gp mixed [.rd 0 [] 0 1, zR 1] [] [2, 3, 8, 10, 49, 50, 51, 70, 73, 78, 81, 82] (fun _ => [zV 2 (.map none), zV 3 (.map (some (nu1 0))), zV 8 (.map (some (nu2 0))), zP 10 (nu3 0), zS 49 (sA b1 off1) l.length c, zI 50 (↑l.length : Int), zI 51 (q + 1), zV 70 (.map (some (nu2 0))), zV 73 (.string x.o.text), zS 78 none 0 0, zS 81 (sA (nu4 0) 0) 1 1, zS 82 av1 1 cv1]) (fun _ => [(nu1 0, Obj.map es clock), (nu2 0, Obj.map es2 clock2), (nu3 0, .cells #[nI x.o.no, .string x.o.key, nI x.o.kind, .string x.o.text, nI x.o.n, .bool x.o.remove, .slice a1_0 ((List.map eDot x.o.dots).length) c1_0, nI x.d.place, nI x.d.time, nI x.d.no, nI x.w] 112 (0, 0)), (nu4 0, .cells #[nI x.d.place, nI x.d.time, nI x.d.no] 65 (0, 0))]) (fun _ => [IntKind.i64.wrap (q + (1 : Int)) = q + (1 : Int)]) (fun _ => ⟨wrap_i64 (by omega) (by omega), trivial⟩) (fun _ => ?_)
        try simp only [cAp, nAp, aNl]
        refine J_norm (C' := [(cStar (List.map (fun t => cAcc (F t) 65 3 (List.map eDot (outDots l (List.take q.toNat l) t))) ks1)), (cStar (List.map (fun t => cMapG (mb t) okDot (dotSet (goneDots l t))) ks)), cAcc (.slice av1 1 cv1) 65 3 (List.map eDot [x.d])]) (G' := [(.slice (some (⟨b1, off1, none⟩)) l.length c, (D.sl 11 (List.map eDone l))), (.slice (a1_0, c1_0).fst ((List.map eDot x.o.dots).length) c1_0, (D.sl 3 (List.map eDot x.o.dots)))]) (by kernel_rfl) (by kernel_rfl) ?_
        have hE2 := map_new (t := x.o.text) (Q := fun t => cAcc (F t) 65 3 ((outDots l (l.take q.toNat) t).map eDot)) (Q' := fun t => cAcc (upd F x.o.text (.slice av1 1 cv1) t) 65 3 ((outDots l (l.take (q + 1).toNat) t).map eDot)) (ks := ks1) fun s hs => by
         have hne : s ≠ x.o.text := fun he => hT2 (he ▸ hs)
         show cAcc (upd F x.o.text (.slice av1 1 cv1) s) _ 3 ((outDots l (l.take (q + 1).toNat) s).map eDot) = cAcc (F s) _ 3 ((outDots l (l.take q.toNat) s).map eDot)
         rw [upd_ne _ _ hne, outDots_other hx hq0 hne]
        refine J_stp (stp_join 2 0 ks1.length (cs' := (ks1 ++ [x.o.text]).map fun t => cAcc (upd F x.o.text (.slice av1 1 cv1) t) 65 3 ((outDots l (l.take (q + 1).toNat) t).map eDot)) rfl rfl (by decide) (by
         rw [List.getElem?_map, show (ks1 ++ [x.o.text])[ks1.length]? = some x.o.text by simp]
         show some (cAcc (upd F x.o.text (.slice av1 1 cv1) x.o.text) _ 3 ((outDots l (l.take (q + 1).toNat) x.o.text).map eDot)) = _
         rw [upd_at, outDots_new hx hq0 hrem hout, ho0]
         rfl) hE2) ?_
        refine J_norm (C' := [(cStar (List.map (fun t => cMapG (mb t) okDot (dotSet (goneDots l t))) ks)), (cStar (List.map (fun t => cAcc (upd F x.o.text (Value.slice av1 1 cv1) t) 65 3 (List.map eDot (outDots l (List.take (q + 1).toNat l) t))) (ks1 ++ [x.o.text])))]) (G' := [(.slice (some (⟨b1, off1, none⟩)) l.length c, (D.sl 11 (List.map eDone l))), (.slice (a1_0, c1_0).fst ((List.map eDot x.o.dots).length) c1_0, (D.sl 3 (List.map eDot x.o.dots)))]) (by kernel_rfl) (by kernel_rfl) ?_
        refine J_stp (stp_cs [1, 0] rfl) ?_
        refine J_norm (C' := [(cStar (List.map (fun t => cAcc (upd F x.o.text (Value.slice av1 1 cv1) t) 65 3 (List.map eDot (outDots l (List.take (q + 1).toNat l) t))) (ks1 ++ [x.o.text]))), (cStar (List.map (fun t => cMapG (mb t) okDot (dotSet (goneDots l t))) ks))]) (G' := [(.slice (some (⟨b1, off1, none⟩)) l.length c, (D.sl 11 (List.map eDone l))), (.slice (a1_0, c1_0).fst ((List.map eDot x.o.dots).length) c1_0, (D.sl 3 (List.map eDot x.o.dots)))]) (by kernel_rfl) (by kernel_rfl) ?_
        refine J_backx ⟨q + 1, _, _, ks1 ++ [x.o.text], upd F x.o.text (.slice av1 1 cv1)⟩ [2, 3, 8, 49, 50, 51] [0, 1] [0, 1] [0] ?_ ?_ (by kernel_rfl) rfl rfl rfl
        ·refine ⟨by simp only; omega, by simp only; omega, hm2.congr (strG_new hT2), hst2 hst, List.nodup_append.2 ⟨hnd1, by simp, fun a ha b hb => ?_⟩, fun t => ?_⟩
         ·rw [List.mem_singleton] at hb
          subst hb
          exact fun he => hT2 (by rw [← he]; exact ha)
         by_cases hs : t = x.o.text
         ·subst hs
          simp only [outDots_new hx hq0 hrem hout]
          simp
         ·simp only [outDots_other hx hq0 hs]
          rw [List.mem_append, List.mem_singleton]
          exact ⟨fun h => h.elim (hiff t).1 fun h => absurd h hs, fun h => .inl ((hiff t).2 h)⟩
        ·simp only
         omega
       ·rw [strG_out hT2] at hv
        cases hv
     ·rw [strG_out hT] at hv
      cases hv
  ·have hql : l.take q.toNat = l := List.take_of_length_le (by simp at hlt1; omega)
   rw [hql]
   rw [hql] at hiff
   refine J_exit rfl ?_
   refine Sq mixed [zR 0, zR 1] [] [2] (fun _ => [zV 2 (.map (some (nu2 0)))]) (fun _ => [(nu1 0, Obj.map es clock), (nu2 0, Obj.map es1 clock1)]) (fun _ => ?_)
   refine J_return [[]] (.map (some (nu2 0))) (by kernel_rfl) (fun a w s => ?_)
   exact ⟨_, _, _, ks1, F, (s.hide 1 rfl).ret (by simp) [2, 0] [] rfl rfl, hmo, hst, hnd1, hiff⟩
end Go.Proofs.YtpjkiomccpjboaaGreatDoor
end
