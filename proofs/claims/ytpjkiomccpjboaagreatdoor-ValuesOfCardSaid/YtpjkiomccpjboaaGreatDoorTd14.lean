/- Part 14 of the texts of a claim: RefO. -/
import Derived.Test.YtpjkiomccpjboaaGreatDoorTd13
section
namespace Go.Sx
open Go
theorem firsts_dots {p : List DoneT} {d : DotT} : d ∈ (firsts [] p).map (·.d) ↔ d ∈ p.map (·.d) := by
 rw [List.mem_map, List.mem_map]
 constructor
 ·rintro ⟨x, hx, rfl⟩
  exact ⟨x, (firsts_sub hx).1, rfl⟩
 ·rintro ⟨x, hx, rfl⟩
  exact firsts_has hx (by simp)
theorem memStep {A : List DoneT} {d : DotT} {j : Int} {y : DoneT} (hj : 0 ≤ j) (hy : A[j.toNat]? = some y) (h : (y.d.place = d.place ∧ y.d.time = d.time ∧ y.d.no = d.no) ∨ d ∈ (A.take j.toNat).map (·.d)) : decide (d ∈ (A.take (j + 1).toNat).map (·.d)) = true := by
 rw [decide_eq_true_eq, ← take_snoc hj hy, List.map_append, List.mem_append]
 rcases h with ⟨h1, h2, h3⟩ | h
 ·refine .inr ?_
  rw [List.map_singleton, List.mem_singleton]
  cases d; cases hyd : y.d
  simp_all
 ·exact .inl h
theorem memSkip {A : List DoneT} {d : DotT} {j : Int} {y : DoneT} (hj : 0 ≤ j) (hy : A[j.toNat]? = some y) (h : y.d.place = d.place → y.d.time = d.time → ¬ y.d.no = d.no) : decide (d ∈ (A.take (j + 1).toNat).map (·.d)) = decide (d ∈ (A.take j.toNat).map (·.d)) := by
 rw [← take_snoc hj hy, List.map_append]
 have : d ∉ [y].map (·.d) := fun hm => by
  rw [List.map_singleton, List.mem_singleton] at hm
  subst hm
  exact h rfl rfl rfl
 simp only [List.mem_append, this, or_false]
theorem stp_keep {h r : List (Nat × Obj)} {F : List (List Nat × World)} {S0 : Nat → Prop} {C0 : List Chunk} {G0 : List (Value × D)} (p : Nat) {v : Value} {d : D} (hp : G0[p]? = some (v, d)) : Stp h r F ⟨S0, C0, G0⟩ (fun _ : Unit => True) fun _ => ⟨S0, C0 ++ [cRep v d], G0⟩ := by
 intro w fps hO H
 have e : (fps ++ [[]]).flatten = fps.flatten := by simp
 refine ⟨(), fps ++ [[]], trivial, fun b hb => by rwa [e] at hb, H.less (fun b hb => by rwa [e] at hb) (by rw [e]; exact H.nodup) ?_ fun x hx => (H.g x hx).mono fun b hb _ => ⟨Sd_sub (fun b hb => by rwa [e] at hb) hb, rfl⟩⟩
 exact (H.chs.app (show Chs w (Sd ⟨S0, C0, G0⟩ h fps) [cRep v d] [[]] from ⟨⟨rfl, H.g _ (List.mem_of_getElem? hp)⟩, trivial⟩)).mono (fun _ _ => rfl) fun b hb _ => ⟨Sd_sub (fun b hb => by rwa [e] at hb) hb, rfl⟩
theorem stp_good {h r : List (Nat × Obj)} {F : List (List Nat × World)} {S0 : Nat → Prop} {C0 : List Chunk} {G0 : List (Value × D)} (q : Nat) {a : Option Addr} {m c e k : Nat} {rows : List (List D)} (hq : C0[q]? = some (cAcc (.slice a m c) e k rows)) : Stp h r F ⟨S0, C0, G0⟩ (fun _ : Unit => GoodS a c) fun _ => ⟨S0, C0, G0⟩ := stp_know fun w fps H => by
 obtain ⟨fp, _, hP⟩ := H.chs.at hq
 obtain ⟨a', c', he, hg⟩ := acc_good hP
 cases he
 exact hg
theorem insG_len {α : Type} (lt : α → α → Bool) (l : List α) (x : α) : (insG lt l x).length = l.length + 1 := by
 unfold insG
 have h := congrArg List.length (List.takeWhile_append_dropWhile (p := fun y => lt y x) (l := l))
 rw [List.length_append] at h
 rw [List.length_append, List.length_cons]
 omega
theorem insG_flen {α : Type} (lt : α → α → Bool) : ∀ (l p : List α), (l.foldl (insG lt) p).length = p.length + l.length
 | [], p => by simp
 | x :: l, p => by
  rw [List.foldl_cons, insG_flen lt l, insG_len, List.length_cons]
  omega
structure OpsR where
 j : Int
 b : Bool
structure OutR where
 i : Int
 a : Option Addr
 n : Nat
 c : Nat
end Go.Sx
namespace Go.Proofs.YtpjkiomccpjboaaGreatDoor
open Go Go.Sx
theorem rOpsOf {w : World} {S : Nat → Prop} {a : Option Addr} {n c : Nat} {key : ByteArray} {l : List ComT} (h : Rep w S (.slice a n c) (.sl 3 (l.map eCom))) (hl : l.length ≤ 300000) (hf : (listFault l).code = 0) :
  Calls Tryz.prog 70 #[.string key, .slice a n c] w fun e w' => ∃ ua un uc, Ret [] w S w' e (.slice ua un uc) [] [(.slice ua un uc, .sl 11 ((ofKey key l).map eDone))] := by
 have e1 := h.slen
 rw [List.length_map] at e1
 subst e1
 have hno := listFault_zero hf
 have hright : ∀ x ∈ l, Right x := fun x hx => by
  obtain ⟨j, hj⟩ := List.getElem?_of_mem hx
  exact right_of (comErrAt_zero hj (hno j (List.getElem?_eq_some_iff.1 hj).1)).1
 refine ep70 (args := [.string key, .slice a l.length c]) (S := S) (G := [(_, .sl 3 (l.map eCom))]) (by kernel_rfl) (.cons h (.nil _ _)) ?_
 refine J_stp (stp_accm eDone 126 11) ?_
 try simp only [cAp, nAp, aNl]
 refine Sq mixed [zR 0] [] [0, 1, 4] (fun _ => [zV 0 (.string key), zS 1 a l.length c, zS 4 none 0 0]) (fun _ => []) (fun _ => ?_)
 refine Sq mixed [zR 0] [] [0, 1, 4, 5] (fun _ => [zV 0 (.string key), zS 1 a l.length c, zS 4 none 0 0, zS 5 none 0 0]) (fun _ => []) (fun _ => ?_)
 refine J_seq ?_
 refine Sq mixed [zR 0] [] [0, 1, 4, 5, 6] (fun _ => [zV 0 (.string key), zS 1 a l.length c, zS 4 none 0 0, zS 5 none 0 0, zI 6 0]) (fun _ => []) (fun _ => ?_)
 refine J_block ?_
 refine J_loopx (fun x : AccI => [zV 0 (.string key), zS 1 a l.length c, zS 4 none 0 0, zS 5 x.a x.k x.c, zI 6 x.i]) (fun x : AccI => []) (fun x : AccI => [cAcc (.slice x.a x.k x.c) 126 11 ((firsts [] (allDone (l.take x.i.toNat))).map eDone)]) (fun x : AccI => [(.slice a l.length c, (D.sl 3 (List.map eCom l)))]) (fun x : AccI => (l.length - x.i).toNat) (fun x : AccI => (0 ≤ x.i ∧ x.i ≤ l.length)) ⟨0, none, 0, 0⟩ [0, 1, 4, 5, 6] [] [0] [0] ?_ (by kernel_rfl) rfl rfl rfl ?_
 ·exact ⟨by simp, by simp⟩
 rintro ⟨i, av, k, cv⟩ ⟨hi0, hi⟩
 dsimp only at hi0 hi ⊢
 refine J_seq ?_
 refine Sq mixed [zR 0, zR 1, zR 2, zR 3] [] [0, 1, 4, 5, 6, 21] (fun _ => [zV 0 (.string key), zS 1 a l.length c, zS 4 none 0 0, zS 5 av k cv, zI 6 i, zB 21 (decide (i < (↑l.length : Int)))]) (fun _ => []) (fun _ => ?_)
 refine cC (t := decide (i < (↑l.length : Int))) (fun hlt => ?_) (fun hlt => ?_)
 ·have hlt2 : i < l.length := by simpa using hlt
  obtain ⟨x, hx⟩ : ∃ x, l[i.toNat]? = some x := ⟨_, List.getElem?_eq_getElem (by omega)⟩
  have hrt := hright x (List.mem_of_getElem? hx)
  obtain ⟨t, ht⟩ : ∃ t, x.when[x.place.toNat]? = some t := ⟨_, List.getElem?_eq_getElem (by have := hrt.p0; have := hrt.p1; omega)⟩
  have ho12 := hrt.o2
  have hp0 := hrt.p0
  have hp1 := hrt.p1
  refine J_read2 0 rfl i.toNat (map_at hx) (by kernel_rfl) (fun b1 off1 cs1 ty1 fz1 a1_0 c1_0 a1_1 c1_1 ha1 hrd1 => ?_)
  cases ha1
  have hrd1_0 := rd0 (hrd1 0 _ rfl)
  have hrd1_1 := hrd1 1 _ rfl
  have hrd1_2 := hrd1 2 _ rfl
  try simp only [cAp, nAp, aNl]
  refine J_skip ?_
  refine J_seq ?_
  refine J_block ?_
  refine Sq mixed [zR 0] [] [0, 1, 4, 5, 6, 7] (fun _ => [zV 0 (.string key), zS 1 (sA b1 off1) l.length c, zS 4 none 0 0, zS 5 av k cv, zI 6 i, zI 7 0]) (fun _ => []) (fun _ => ?_)
  refine J_block ?_
  have e0 : firsts [] (allDone (l.take i.toNat)) = firsts [] (allDone (l.take i.toNat) ++ (x.ops.take (0 : Int).toNat).map (doneOf x)) := by simp
  rw [e0]
  refine J_loopx (fun y : AccI => [zV 0 (.string key), zS 1 (sA b1 off1) l.length c, zS 4 none 0 0, zS 5 y.a y.k y.c, zI 6 i, zI 7 y.i]) (fun y : AccI => []) (fun y : AccI => [cAcc (.slice y.a y.k y.c) 126 11 ((firsts [] (allDone (l.take i.toNat) ++ (x.ops.take y.i.toNat).map (doneOf x))).map eDone)]) (fun y : AccI => [(.slice (sA b1 off1) l.length c, (D.sl 3 (List.map eCom l))), (.slice (a1_0, c1_0).fst ((List.map eI x.when).length) c1_0, (D.sl 1 (List.map eI x.when))), (.slice (a1_1, c1_1).fst ((List.map eOp x.ops).length) c1_1, (D.sl 7 (List.map eOp x.ops)))]) (fun y : AccI => (x.ops.length - y.i).toNat) (fun y : AccI => (0 ≤ y.i ∧ y.i ≤ x.ops.length)) ⟨0, av, k, cv⟩ [0, 1, 4, 5, 6, 7] [] [0] [0, 1, 2] ?_ (by kernel_rfl) rfl rfl rfl ?_
  ·exact ⟨by simp, by simp⟩
  rintro ⟨q, av1, k1, cv1⟩ ⟨hq0, hq⟩
  dsimp only at hq0 hq ⊢
  generalize hALL : firsts [] (allDone (l.take i.toNat) ++ (x.ops.take q.toNat).map (doneOf x)) = ALL
  have hA12 : ALL.length ≤ 4000000 := by
   have h1 := firsts_len [] (allDone (l.take i.toNat) ++ (x.ops.take q.toNat).map (doneOf x))
   have h2 := allDone_len (l := l.take i.toNat) fun c hc => hright c (List.mem_of_mem_take hc)
   rw [hALL, List.length_append, List.length_map, List.length_take] at h1
   rw [List.length_take] at h2
   omega
  refine J_stpx (stp_acclen 0 rfl) fun _ hk => ?_
  rw [List.length_map] at hk
  subst hk
  refine J_seq ?_
  refine Sp mixed [zR 0, zR 1, zR 2, .rd 3 [] 0 2, zR 4, .rd 5 [.r 0 (some (.slice (a1_1, c1_1).fst ((List.map eOp x.ops).length) c1_1))] 0 0, zR 6, zR 7] [] [0, 1, 4, 5, 6, 7, 31] (fun _ => [zV 0 (.string key), zS 1 (sA b1 off1) l.length c, zS 4 none 0 0, zS 5 av1 ALL.length cv1, zI 6 i, zI 7 q, zB 31 (decide (q < (↑(List.map eOp x.ops).length : Int)))]) (fun _ => []) (fun _ => [(0 : Int) ≤ i, i < (↑l.length : Int), cs1[off1 + i.toNat * (3 : Nat) + (2 : Nat)]? = some (Value.slice (a1_1, c1_1).fst (List.map eOp x.ops).length (a1_1, c1_1).snd)]) (fun _ => ⟨hi0, hlt2, hrd1_2, trivial⟩) (fun _ => ?_)
  refine cC (t := decide (q < (↑(List.map eOp x.ops).length : Int))) (fun hlt1 => ?_) (fun hlt1 => ?_)
  ·have hlt3 : q < x.ops.length := by simpa using hlt1
   obtain ⟨o, ho⟩ : ∃ o, x.ops[q.toNat]? = some o := ⟨_, List.getElem?_eq_getElem (by omega)⟩
   have hdo : doneOf x o = ⟨o, ⟨x.place, t, o.no⟩, sumL x.when⟩ := by simp [doneOf, dotOf, List.getD_eq_getElem?_getD, ht, wsum, sumL]
   have hstep : firsts [] (allDone (l.take i.toNat) ++ (x.ops.take (q + 1).toNat).map (doneOf x)) = ALL ++ if (⟨x.place, t, o.no⟩ : DotT) ∈ ALL.map (·.d) then [] else [⟨o, ⟨x.place, t, o.no⟩, sumL x.when⟩] := by
    rw [← take_snoc hq0 ho, List.map_append, ← List.append_assoc, List.map_singleton, hdo, firsts_snoc, hALL]
    have h1 : ((⟨x.place, t, o.no⟩ : DotT) ∈ ([] : List DotT) ∨ (⟨x.place, t, o.no⟩ : DotT) ∈ (allDone (l.take i.toNat) ++ (x.ops.take q.toNat).map (doneOf x)).map (·.d)) ↔ (⟨x.place, t, o.no⟩ : DotT) ∈ ALL.map (·.d) := by
     rw [← hALL, firsts_dots]
     simp
    by_cases h2 : (⟨x.place, t, o.no⟩ : DotT) ∈ ALL.map (·.d)
    ·rw [if_pos h2, if_pos (h1.2 h2)]
    ·rw [if_neg h2, if_neg fun h => h2 (h1.1 h)]
   refine J_read1 2 rfl q.toNat (map_at ho) (by kernel_rfl) (fun b2 off2 cs2 ty2 fz2 a2_0 c2_0 ha2 hrd2 => ?_)
   cases ha2
   have hrd2_0 := rd0 (hrd2 0 _ rfl)
   have hrd2_1 := hrd2 1 _ rfl
   have hrd2_2 := hrd2 2 _ rfl
   have hrd2_3 := hrd2 3 _ rfl
   have hrd2_4 := hrd2 4 _ rfl
   have hrd2_5 := hrd2 5 _ rfl
   have hrd2_6 := hrd2 6 _ rfl
   refine J_read0 1 rfl x.place.toNat (map_at ht) (by kernel_rfl) (fun b3 off3 cs3 ty3 fz3 ha3 hrd3 => ?_)
   cases ha3
   have hrd3_0 := rd0 (hrd3 0 _ rfl)
   try simp only [cAp, nAp, aNl]
   refine J_skip ?_
   refine J_seq ?_
   refine J_block ?_
   refine Sp mixed [zR 0, zR 1, .rd 2 [] 0 2, zR 3, .rd 4 [.r 0 (some (.slice (sA b2 off2) ((List.map eOp x.ops).length) c1_1))] 0 0, zR 5, .rd 6 [] 0 2, .rd 7 [.r 1 (some (nI o.no)), .r 1 (some (.string o.key)), .r 1 (some (nI o.kind)), .r 1 (some (.string o.text)), .r 1 (some (nI o.n)), .r 1 (some (.bool o.remove)), .r 1 (some (.slice (a2_0, c2_0).fst ((List.map eDot o.dots).length) c2_0))] 0 0, .wr 8 [] 0, .wr 9 [.o 0 none, .o 0 none, .o 0 none, .o 0 none, .o 0 none, .o 0 none, .o 0 none] 0] [(9, [])] [0, 1, 4, 5, 6, 7, 8] (fun nu1 => [zV 0 (.string key), zS 1 (sA b1 off1) l.length c, zS 4 none 0 0, zS 5 av1 ALL.length cv1, zI 6 i, zI 7 q, zP 8 (nu1 0)]) (fun nu1 => [(nu1 0, .cells #[nI o.no, .string o.key, nI o.kind, .string o.text, nI o.n, .bool o.remove, .slice (a2_0, c2_0).fst ((List.map eDot o.dots).length) c2_0] 24 (0, 0))]) (fun nu1 => [(0 : Int) ≤ i, i < (↑l.length : Int), cs1[off1 + i.toNat * (3 : Nat) + (2 : Nat)]? = some (Value.slice (some (Addr.mk b2 off2 none), c1_1).fst (List.map eOp x.ops).length (some (Addr.mk b2 off2 none), c1_1).snd), (0 : Int) ≤ q, q < (↑(List.map eOp x.ops).length : Int), cs2[off2 + q.toNat * (7 : Nat)]? = some (nI o.no), cs2[off2 + q.toNat * (7 : Nat) + (1 : Nat)]? = some (Value.string o.key), cs2[off2 + q.toNat * (7 : Nat) + (2 : Nat)]? = some (nI o.kind), cs2[off2 + q.toNat * (7 : Nat) + (3 : Nat)]? = some (Value.string o.text), cs2[off2 + q.toNat * (7 : Nat) + (4 : Nat)]? = some (nI o.n), cs2[off2 + q.toNat * (7 : Nat) + (5 : Nat)]? = some (Value.bool o.remove), cs2[off2 + q.toNat * (7 : Nat) + (6 : Nat)]? = some (Value.slice (a2_0, c2_0).fst (List.map eDot o.dots).length (a2_0, c2_0).snd)]) (fun _ => ⟨hi0, hlt2, hrd1_2, hq0, by simp; omega, hrd2_0, hrd2_1, hrd2_2, hrd2_3, hrd2_4, hrd2_5, hrd2_6, trivial⟩) (fun nu1 => ?_)
   refine J_seq ?_
   refine J_fork mixed 26 [(0, true), (1, true), (2, true), (3, true), (4, true), (5, true), (6, true), (7, true), (8, true), (9, true), (10, true), (11, true), (12, true), (13, true), (14, true), (15, true), (16, true), (17, true), (18, true), (19, true), (20, true), (21, true), (22, true), (23, true), (24, true), (25, true), (26, false), (27, true), (28, false), (29, false)] [(0, true), (1, true), (2, true), (3, true), (4, true), (5, true), (6, true), (7, true), (8, true), (9, true), (10, true), (11, true), (12, true), (13, true), (14, true), (15, true), (16, true), (17, true), (18, true), (19, true), (20, true), (21, true), (22, true), (23, true), (24, true), (25, true), (28, false), (26, false), (27, true), (29, false)] [(29, [])] (by kernel_rfl) (by kernel_rfl) ?_ ?_
   ·refine JR_run (id := 9) (rest := [(26, false), (27, true), (28, false), (29, false)]) [.rd 0 [.o 0 none, .o 0 none, .o 0 none, .o 0 none, .o 0 none, .o 0 none, .o 0 none] 0 0, .rd 1 [] 0 0, .rd 2 [] 0 0, .rd 3 [] 0 2, .rd 4 [] 0 0, .rd 5 [.r 0 (some (.int .i64 x.place))] 0 0, .rd 6 [] 0 0, .rd 7 [] 0 0, .rd 8 [] 0 2, .rd 9 [] 0 0, .rd 10 [.r 0 (some (.slice (some (⟨b3, off3, none⟩)) ((List.map eI x.when).length) c1_0))] 0 0, .rd 11 [] 0 0, .rd 12 [] 0 0, .rd 13 [] 0 2, .rd 14 [] 0 0, .rd 15 [.r 0 (some (.int .i64 x.place))] 0 0, .rd 16 [] 0 2, .rd 17 [.r 2 (some (.int .i64 t))] 0 0, .rd 18 [] 0 0, .rd 19 [.o 0 none] 0 0, .rd 20 [] 0 0, .rd 21 [] 0 0, .rd 22 [] 0 0, .rd 23 [] 0 2, .rd 24 [] 0 0, .rd 25 [.r 0 (some (.slice (some (⟨b3, off3, none⟩)) ((List.map eI x.when).length) c1_0))] 0 0] [0, 1, 4, 5, 6, 7, 8, 42, 62, 67] (E1 := fun _ => [(0, .val (.string key)), (1, .val (.slice (some (⟨b1, off1, none⟩)) l.length c)), (4, .val (.slice none 0 0)), (5, .val (.slice av1 ALL.length cv1)), (6, .val (.int .i64 i)), (7, .val (.int .i64 q)), (8, .val (.pointer (some (⟨nu1 0, 0, none⟩)))), (42, .val (.agg #[.int .i64 o.no, .string o.key, .int .i64 o.kind, .string o.text, .int .i64 o.n, .bool o.remove, .slice (a2_0, c2_0).fst ((List.map eDot o.dots).length) c2_0])), (62, .val (.agg #[.int .i64 x.place, .int .i64 t, .int .i64 o.no])), (67, .val (.slice (some (⟨b3, off3, none⟩)) ((List.map eI x.when).length) c1_0))]) (h1 := fun _ => [(nu1 0, .cells #[.int .i64 o.no, .string o.key, .int .i64 o.kind, .string o.text, .int .i64 o.n, .bool o.remove, .slice (a2_0, c2_0).fst ((List.map eDot o.dots).length) c2_0] 24 (0, 0))]) (p1 := fun _ => [(0 : Int) ≤ i, i < (↑l.length : Int), cs1[off1 + i.toNat * (3 : Nat) + (1 : Nat)]? = some (Value.int IntKind.i64 x.place), (0 : Int) ≤ i, i < (↑l.length : Int), cs1[off1 + i.toNat * (3 : Nat)]? = some (Value.slice (some (Addr.mk b3 off3 none), c1_0).fst (List.map eI x.when).length (some (Addr.mk b3 off3 none), c1_0).snd), (0 : Int) ≤ i, i < (↑l.length : Int), cs1[off1 + i.toNat * (3 : Nat) + (1 : Nat)]? = some (Value.int IntKind.i64 x.place), (0 : Int) ≤ x.place, x.place < (↑(List.map eI x.when).length : Int), cs3[off3 + x.place.toNat * (1 : Nat)]? = some (Value.int IntKind.i64 t), (0 : Int) ≤ i, i < (↑l.length : Int), cs1[off1 + i.toNat * (3 : Nat)]? = some (Value.slice (some (Addr.mk b3 off3 none), c1_0).fst (List.map eI x.when).length (some (Addr.mk b3 off3 none), c1_0).snd)]) (W1 := [(29, [])]) (fun _ => by kernel_rfl) (fun _ => ⟨hi0, hlt2, hrd1_1, hi0, hlt2, hrd1_0, hi0, hlt2, hrd1_1, hp0, by simp; omega, hrd3_0, hi0, hlt2, hrd1_0, trivial⟩) (fun _ => ?_)
    refine JR_callp [] 106 #[.slice (some (⟨b3, off3, none⟩)) ((List.map eI x.when).length) c1_0] (some 68) (by kernel_rfl) (fun w S hG => ?_)
    refine (rWeight (hG.at 1 rfl) hrt.vec).mono ?_
    rintro e2 w2 hR
    refine ⟨_, _, _, hR, ?_⟩
    try simp only [cAp, nAp, aNl]
    refine Gr (id := 9) (rest := []) [zR 27, .wr 28 [] 0, .wr 29 [.o 1 none, .o 1 none, .o 1 none, .o 1 none, .o 1 none, .o 1 none, .o 1 none, .o 1 none, .o 1 none, .o 1 none, .o 1 none] 0] [0, 1, 4, 5, 6, 7, 8, 9] (fun nu2 => [zV 0 (.string key), zS 1 (sA b1 off1) l.length c, zS 4 none 0 0, zS 5 av1 ALL.length cv1, zI 6 i, zI 7 q, zP 8 (nu1 0), zP 9 (nu2 0)]) (fun nu2 => [(nu1 0, .cells #[nI o.no, .string o.key, nI o.kind, .string o.text, nI o.n, .bool o.remove, .slice a2_0 ((List.map eDot o.dots).length) c2_0] 24 (0, 0)), (nu2 0, .cells #[nI o.no, .string o.key, nI o.kind, .string o.text, nI o.n, .bool o.remove, .slice a2_0 ((List.map eDot o.dots).length) c2_0, nI x.place, nI t, nI o.no, nI (sumL x.when)] 126 (0, 0))]) (fun nu2 => ?_)
    refine JR_end ?_
    refine Sq mixed [zR 0] [] [0, 1, 4, 5, 6, 7, 8, 9, 10] (fun _ => [zV 0 (.string key), zS 1 (sA b1 off1) l.length c, zS 4 none 0 0, zS 5 av1 ALL.length cv1, zI 6 i, zI 7 q, zP 8 (nu1 0), zP 9 (nu2 0), zB 10 false]) (fun _ => [(nu1 0, .cells #[nI o.no, .string o.key, nI o.kind, .string o.text, nI o.n, .bool o.remove, .slice a2_0 ((List.map eDot o.dots).length) c2_0] 24 (0, 0)), (nu2 0, .cells #[nI o.no, .string o.key, nI o.kind, .string o.text, nI o.n, .bool o.remove, .slice a2_0 ((List.map eDot o.dots).length) c2_0, nI x.place, nI t, nI o.no, nI (sumL x.when)] 126 (0, 0))]) (fun _ => ?_)
    refine J_seq ?_
    refine Sq mixed [zR 0] [] [0, 1, 4, 5, 6, 7, 8, 9, 10, 11] (fun _ => [zV 0 (.string key), zS 1 (sA b1 off1) l.length c, zS 4 none 0 0, zS 5 av1 ALL.length cv1, zI 6 i, zI 7 q, zP 8 (nu1 0), zP 9 (nu2 0), zB 10 false, zI 11 0]) (fun _ => [(nu1 0, .cells #[nI o.no, .string o.key, nI o.kind, .string o.text, nI o.n, .bool o.remove, .slice a2_0 ((List.map eDot o.dots).length) c2_0] 24 (0, 0)), (nu2 0, .cells #[nI o.no, .string o.key, nI o.kind, .string o.text, nI o.n, .bool o.remove, .slice a2_0 ((List.map eDot o.dots).length) c2_0, nI x.place, nI t, nI o.no, nI (sumL x.when)] 126 (0, 0))]) (fun _ => ?_)
    refine J_block ?_
    refine J_loopx (fun z : OpsR => [zV 0 (.string key), zS 1 (sA b1 off1) l.length c, zS 4 none 0 0, zS 5 av1 ALL.length cv1, zI 6 i, zI 7 q, zP 8 (nu1 0), zP 9 (nu2 0), zB 10 z.b, zI 11 z.j]) (fun z : OpsR => [(nu1 0, .cells #[nI o.no, .string o.key, nI o.kind, .string o.text, nI o.n, .bool o.remove, .slice a2_0 ((List.map eDot o.dots).length) c2_0] 24 (0, 0)), (nu2 0, .cells #[nI o.no, .string o.key, nI o.kind, .string o.text, nI o.n, .bool o.remove, .slice a2_0 ((List.map eDot o.dots).length) c2_0, nI x.place, nI t, nI o.no, nI (sumL x.when)] 126 (0, 0))]) (fun z : OpsR => [cAcc (.slice av1 ALL.length cv1) 126 11 (ALL.map eDone)]) (fun z : OpsR => [(.slice (sA b1 off1) l.length c, (D.sl 3 (List.map eCom l))), (.slice (sA b3 off3) ((List.map eI x.when).length) c1_0, (D.sl 1 (List.map eI x.when))), (.slice (sA b2 off2) ((List.map eOp x.ops).length) c1_1, (D.sl 7 (List.map eOp x.ops))), (.slice (a2_0, c2_0).fst ((List.map eDot o.dots).length) c2_0, (D.sl 3 (List.map eDot o.dots)))]) (fun z : OpsR => (ALL.length - z.j).toNat) (fun z : OpsR => (0 ≤ z.j ∧ z.j ≤ ALL.length ∧ z.b = decide ((⟨x.place, t, o.no⟩ : DotT) ∈ (ALL.take z.j.toNat).map (·.d)))) ⟨0, false⟩ [0, 1, 4, 5, 6, 7, 8, 9, 10, 11] [0, 1] [0] [0, 1, 2, 3] ?_ (by kernel_rfl) rfl rfl rfl ?_
    ·exact ⟨by simp, by simp, by simp⟩
    rintro ⟨j, b⟩ ⟨hj0, hj, hb⟩
    dsimp only at hj0 hj hb ⊢
    refine J_seq ?_
    refine Sq mixed [zR 0, zR 1, zR 2, zR 3] [] [0, 1, 4, 5, 6, 7, 8, 9, 10, 11, 73] (fun _ => [zV 0 (.string key), zS 1 (sA b1 off1) l.length c, zS 4 none 0 0, zS 5 av1 ALL.length cv1, zI 6 i, zI 7 q, zP 8 (nu1 0), zP 9 (nu2 0), zB 10 b, zI 11 j, zB 73 (decide (j < (↑ALL.length : Int)))]) (fun _ => [(nu1 0, .cells #[nI o.no, .string o.key, nI o.kind, .string o.text, nI o.n, .bool o.remove, .slice a2_0 ((List.map eDot o.dots).length) c2_0] 24 (0, 0)), (nu2 0, .cells #[nI o.no, .string o.key, nI o.kind, .string o.text, nI o.n, .bool o.remove, .slice a2_0 ((List.map eDot o.dots).length) c2_0, nI x.place, nI t, nI o.no, nI (sumL x.when)] 126 (0, 0))]) (fun _ => ?_)
    refine cC (t := decide (j < (↑ALL.length : Int))) (fun hlt2 => ?_) (fun hlt2 => ?_)
    ·have hlt4 : j < ALL.length := by simpa using hlt2
     obtain ⟨y, hy⟩ : ∃ y, ALL[j.toNat]? = some y := ⟨_, List.getElem?_eq_getElem (by omega)⟩
     refine J_openacc 0 rfl (by intro h0; rw [List.map_eq_nil_iff] at h0; rw [h0] at hy; simp at hy) fun g cur xs hu _ _ hrow => ?_
     subst hu
     refine J_stpx (stp_readrows 0 rfl j.toNat (map_at hy)) fun ls hls => ?_
     obtain ⟨hls1, hls2⟩ := hls
     obtain ⟨⟨xa, xc⟩, rfl⟩ : ∃ l0, ls = [l0] := len1 hls1
     have f := fun (j : Nat) v h => hrow.atx (hls2 j v h)
     have r7 : cur[0 + j.toNat * 11 + 7]? = some (.int .i64 y.d.place) := by rw [Nat.zero_add]; exact f 7 _ rfl
     have r8 : cur[0 + j.toNat * 11 + 8]? = some (.int .i64 y.d.time) := by rw [Nat.zero_add]; exact f 8 _ rfl
     have r9 : cur[0 + j.toNat * 11 + 9]? = some (.int .i64 y.d.no) := by rw [Nat.zero_add]; exact f 9 _ rfl
     try simp only [cAp, nAp, aNl]
     refine J_skip ?_
     try simp only [cAp, nAp, aNl]
     refine J_seq ?_
     try simp only [cAp, nAp, aNl]
     refine J_block ?_
     try simp only [cAp, nAp, aNl]
     refine J_seq ?_
     try simp only [cAp, nAp, aNl]
     refine Gp mixed [zR 0, zR 1, .rd 2 [] 0 2, zR 3, .rd 4 [.o 2 (some (nI y.d.place)), .o 2 (some (nI y.d.time)), .o 2 (some (nI y.d.no))] 0 0, zR 5, .rd 6 [.o 1 none, .o 1 none, .o 1 none] 0 0, .rd 7 [.r 0 (some (.bool (decide (y.d.place = x.place ∧ y.d.time = t ∧ y.d.no = o.no))))] 0 10] [] [0, 1, 4, 5, 6, 7, 8, 9, 10, 11, 83] (fun _ => [zV 0 (.string key), zS 1 (sA b1 off1) l.length c, zS 4 none 0 0, zS 5 (sA g 0) ALL.length cv1, zI 6 i, zI 7 q, zP 8 (nu1 0), zP 9 (nu2 0), zB 10 b, zI 11 j, zB 83 (decide (y.d.place = x.place ∧ y.d.time = t ∧ y.d.no = o.no))]) (fun _ => [(nu1 0, .cells #[nI o.no, .string o.key, nI o.kind, .string o.text, nI o.n, .bool o.remove, .slice a2_0 ((List.map eDot o.dots).length) c2_0] 24 (0, 0)), (nu2 0, .cells #[nI o.no, .string o.key, nI o.kind, .string o.text, nI o.n, .bool o.remove, .slice a2_0 ((List.map eDot o.dots).length) c2_0, nI x.place, nI t, nI o.no, nI (sumL x.when)] 126 (0, 0)), (g, .cells cur 126 (0, 0))]) (fun _ => [(0 : Int) ≤ j, j < (↑ALL.length : Int), cur[(0 : Nat) + j.toNat * (11 : Nat) + (7 : Nat)]? = some (nI y.d.place), cur[(0 : Nat) + j.toNat * (11 : Nat) + (8 : Nat)]? = some (nI y.d.time), cur[(0 : Nat) + j.toNat * (11 : Nat) + (9 : Nat)]? = some (nI y.d.no), eqRun Tryz.prog .eql 65 (Operand.tmp 80) (Operand.tmp 82) (.agg #[nI y.d.place, nI y.d.time, nI y.d.no]) (.agg #[nI x.place, nI t, nI o.no]) (.bool (decide (y.d.place = x.place ∧ y.d.time = t ∧ y.d.no = o.no)))]) (fun _ => ⟨hj0, hlt4, r7, r8, r9, eqRun_eql_65, trivial⟩) (fun _ => ?_)
     try simp only [cAp, nAp, aNl]
     refine J_hide 2 rfl ?_
     refine J_stp (stp_closeacc 1 0 rfl rfl hrow (by decide)) ?_
     rw [show (List.map eDone ALL).length = ALL.length from List.length_map ..]
     refine cC (t := decide (y.d.place = x.place ∧ y.d.time = t ∧ y.d.no = o.no)) (fun he => ?_) (fun he => ?_)
     ·try simp only [List.cons_append, List.nil_append, List.append_nil]
      refine Gq mixed [zR 0] [] [0, 1, 4, 5, 6, 7, 8, 9, 10, 11] (fun _ => [zV 0 (.string key), zS 1 (sA b1 off1) l.length c, zS 4 none 0 0, zS 5 (sA g 0) ALL.length cv1, zI 6 i, zI 7 q, zP 8 (nu1 0), zP 9 (nu2 0), zB 10 true, zI 11 j]) (fun _ => [(nu1 0, .cells #[nI o.no, .string o.key, nI o.kind, .string o.text, nI o.n, .bool o.remove, .slice a2_0 ((List.map eDot o.dots).length) c2_0] 24 (0, 0)), (nu2 0, .cells #[nI o.no, .string o.key, nI o.kind, .string o.text, nI o.n, .bool o.remove, .slice a2_0 ((List.map eDot o.dots).length) c2_0, nI x.place, nI t, nI o.no, nI (sumL x.when)] 126 (0, 0))]) (fun _ => ?_)
      try simp only [cAp, nAp, aNl]
      refine J_eb ?_
      try simp only [cAp, nAp, aNl]
      refine Gp mixed [zR 0, .rd 1 [] 0 1, zR 2] [] [0, 1, 4, 5, 6, 7, 8, 9, 10, 11] (fun _ => [zV 0 (.string key), zS 1 (sA b1 off1) l.length c, zS 4 none 0 0, zS 5 (sA g 0) ALL.length cv1, zI 6 i, zI 7 q, zP 8 (nu1 0), zP 9 (nu2 0), zB 10 true, zI 11 (j + 1)]) (fun _ => [(nu1 0, .cells #[nI o.no, .string o.key, nI o.kind, .string o.text, nI o.n, .bool o.remove, .slice a2_0 ((List.map eDot o.dots).length) c2_0] 24 (0, 0)), (nu2 0, .cells #[nI o.no, .string o.key, nI o.kind, .string o.text, nI o.n, .bool o.remove, .slice a2_0 ((List.map eDot o.dots).length) c2_0, nI x.place, nI t, nI o.no, nI (sumL x.when)] 126 (0, 0))]) (fun _ => [IntKind.i64.wrap (j + (1 : Int)) = j + (1 : Int)]) (fun _ => ⟨wrap_i64 (by omega) (by omega), trivial⟩) (fun _ => ?_)
      try simp only [cAp, nAp, aNl]
      refine J_backx ⟨j + 1, true⟩ [0, 1, 4, 5, 6, 7, 8, 9, 10, 11] [0, 1] [0] [0, 1, 2, 3] ?_ ?_ (by kernel_rfl) rfl rfl rfl
      ·exact ⟨by simp only; omega, by simp only; omega, (memStep hj0 hy (.inl (by simpa using he))).symm⟩
      ·simp only
       omega
     ·try simp only [List.cons_append, List.nil_append, List.append_nil]
      refine J_skip ?_
      try simp only [cAp, nAp, aNl]
      refine J_eb ?_
      try simp only [cAp, nAp, aNl]
      refine Gp mixed [zR 0, .rd 1 [] 0 1, zR 2] [] [0, 1, 4, 5, 6, 7, 8, 9, 10, 11] (fun _ => [zV 0 (.string key), zS 1 (sA b1 off1) l.length c, zS 4 none 0 0, zS 5 (sA g 0) ALL.length cv1, zI 6 i, zI 7 q, zP 8 (nu1 0), zP 9 (nu2 0), zB 10 b, zI 11 (j + 1)]) (fun _ => [(nu1 0, .cells #[nI o.no, .string o.key, nI o.kind, .string o.text, nI o.n, .bool o.remove, .slice a2_0 ((List.map eDot o.dots).length) c2_0] 24 (0, 0)), (nu2 0, .cells #[nI o.no, .string o.key, nI o.kind, .string o.text, nI o.n, .bool o.remove, .slice a2_0 ((List.map eDot o.dots).length) c2_0, nI x.place, nI t, nI o.no, nI (sumL x.when)] 126 (0, 0))]) (fun _ => [IntKind.i64.wrap (j + (1 : Int)) = j + (1 : Int)]) (fun _ => ⟨wrap_i64 (by omega) (by omega), trivial⟩) (fun _ => ?_)
      try simp only [cAp, nAp, aNl]
      refine J_backx ⟨j + 1, b⟩ [0, 1, 4, 5, 6, 7, 8, 9, 10, 11] [0, 1] [0] [0, 1, 2, 3] ?_ ?_ (by kernel_rfl) rfl rfl rfl
      ·exact ⟨by simp only; omega, by simp only; omega, by dsimp only; rw [hb]; exact (memSkip hj0 hy (by simpa using he)).symm⟩
      ·simp only
       omega
    ·have hjl : ALL.take j.toNat = ALL := List.take_of_length_le (by simp at hlt2; omega)
     rw [hjl] at hb
     by_cases hmem : (⟨x.place, t, o.no⟩ : DotT) ∈ ALL.map (·.d)
     ·rw [decide_eq_true hmem] at hb
      subst hb
      have e5 := hstep
      rw [if_pos hmem, List.append_nil] at e5
      refine J_exit rfl ?_
      refine Sq mixed [zR 0, zR 1] [] [0, 1, 4, 5, 6, 7, 8, 9, 10, 11, 85] (fun _ => [zV 0 (.string key), zS 1 (sA b1 off1) l.length c, zS 4 none 0 0, zS 5 av1 ALL.length cv1, zI 6 i, zI 7 q, zP 8 (nu1 0), zP 9 (nu2 0), zB 10 true, zI 11 j, zB 85 false]) (fun _ => [(nu1 0, .cells #[nI o.no, .string o.key, nI o.kind, .string o.text, nI o.n, .bool o.remove, .slice a2_0 ((List.map eDot o.dots).length) c2_0] 24 (0, 0)), (nu2 0, .cells #[nI o.no, .string o.key, nI o.kind, .string o.text, nI o.n, .bool o.remove, .slice a2_0 ((List.map eDot o.dots).length) c2_0, nI x.place, nI t, nI o.no, nI (sumL x.when)] 126 (0, 0))]) (fun _ => ?_)
      refine cF ?_
      refine J_skip ?_
      refine J_eb ?_
      refine Gp mixed [zR 0, .rd 1 [] 0 1, zR 2] [] [0, 1, 4, 5, 6, 7, 8, 9, 10, 11] (fun _ => [zV 0 (.string key), zS 1 (sA b1 off1) l.length c, zS 4 none 0 0, zS 5 av1 ALL.length cv1, zI 6 i, zI 7 (q + 1), zP 8 (nu1 0), zP 9 (nu2 0), zB 10 true, zI 11 j]) (fun _ => [(nu1 0, .cells #[nI o.no, .string o.key, nI o.kind, .string o.text, nI o.n, .bool o.remove, .slice a2_0 ((List.map eDot o.dots).length) c2_0] 24 (0, 0)), (nu2 0, .cells #[nI o.no, .string o.key, nI o.kind, .string o.text, nI o.n, .bool o.remove, .slice a2_0 ((List.map eDot o.dots).length) c2_0, nI x.place, nI t, nI o.no, nI (sumL x.when)] 126 (0, 0))]) (fun _ => [IntKind.i64.wrap (q + (1 : Int)) = q + (1 : Int)]) (fun _ => ⟨wrap_i64 (by omega) (by omega), trivial⟩) (fun _ => ?_)
      rw [← e5]
      refine J_backx ⟨q + 1, _, _, _⟩ [0, 1, 4, 5, 6, 7] [] [0] [0, 1, 2] ?_ ?_ (by kernel_rfl) rfl rfl rfl
      ·exact ⟨by simp only; omega, by simp only; omega⟩
      ·simp only
       omega
     ·rw [decide_eq_false hmem] at hb
      subst hb
      have e5 := hstep
      rw [if_neg hmem] at e5
      refine J_exit rfl ?_
      refine Sq mixed [zR 0, zR 1] [] [0, 1, 4, 5, 6, 7, 8, 9, 10, 11, 85] (fun _ => [zV 0 (.string key), zS 1 (sA b1 off1) l.length c, zS 4 none 0 0, zS 5 av1 ALL.length cv1, zI 6 i, zI 7 q, zP 8 (nu1 0), zP 9 (nu2 0), zB 10 false, zI 11 j, zB 85 true]) (fun _ => [(nu1 0, .cells #[nI o.no, .string o.key, nI o.kind, .string o.text, nI o.n, .bool o.remove, .slice a2_0 ((List.map eDot o.dots).length) c2_0] 24 (0, 0)), (nu2 0, .cells #[nI o.no, .string o.key, nI o.kind, .string o.text, nI o.n, .bool o.remove, .slice a2_0 ((List.map eDot o.dots).length) c2_0, nI x.place, nI t, nI o.no, nI (sumL x.when)] 126 (0, 0))]) (fun _ => ?_)
      refine cTt ?_
      refine jB mixed [(0, true), (1, true), (2, false), (3, false), (4, true)] [] ?_
      refine Gr (id := 17) (rest := [(3, false), (4, true)]) [zR 0, .rd 1 [.o 1 none, .o 1 none, .o 1 none, .o 1 none, .o 1 none, .o 1 none, .o 1 none, .o 1 none, .o 1 none, .o 1 none, .o 1 none] 0 0, .wr 2 [] 0] [0, 1, 4, 5, 6, 7, 8, 9, 10, 11, 86, 88] (fun nu3 => [zV 0 (.string key), zS 1 (sA b1 off1) l.length c, zS 4 none 0 0, zS 5 av1 ALL.length cv1, zI 6 i, zI 7 q, zP 8 (nu1 0), zP 9 (nu2 0), zB 10 false, zI 11 j, zS 86 av1 ALL.length cv1, zS 88 (sA (nu3 0) 0) 1 1]) (fun nu3 => [(nu1 0, .cells #[nI o.no, .string o.key, nI o.kind, .string o.text, nI o.n, .bool o.remove, .slice a2_0 ((List.map eDot o.dots).length) c2_0] 24 (0, 0)), (nu2 0, .cells #[nI o.no, .string o.key, nI o.kind, .string o.text, nI o.n, .bool o.remove, .slice a2_0 ((List.map eDot o.dots).length) c2_0, nI x.place, nI t, nI o.no, nI (sumL x.when)] 126 (0, 0)), (nu3 0, .cells #[nI o.no, .string o.key, nI o.kind, .string o.text, nI o.n, .bool o.remove, .slice a2_0 ((List.map eDot o.dots).length) c2_0, nI x.place, nI t, nI o.no, nI (sumL x.when)] 126 (0, 0))]) (fun nu3 => ?_)
      refine JR_appm 0 123 126 11 120 (.agg #[.int .i64 0, .string (ByteArray.mk #[]), .int .i64 0, .string (ByteArray.mk #[]), .int .i64 0, .bool false, .slice none 0 0, .int .i64 0, .int .i64 0, .int .i64 0, .int .i64 0]) (a0 := av1) (len := ALL.length) (cap0 := cv1) (ax := (some (⟨nu3 0, 0, none⟩))) (m := 1) (c := 1) (dst := (some 89)) [(⟨o, ⟨x.place, t, o.no⟩, sumL x.when⟩ : DoneT)] (by kernel_rfl) (by kernel_rfl) (by kernel_rfl) (by kernel_rfl) rfl (by decide) rfl (fun _ _ _ s => src_one s 2 rfl rfl ⟨.inl ⟨rfl, rfl⟩, ⟨.inl ⟨rfl, rfl⟩, ⟨.inl ⟨rfl, rfl⟩, ⟨.inl ⟨rfl, rfl⟩, ⟨.inl ⟨rfl, rfl⟩, ⟨.inl ⟨rfl, rfl⟩, ⟨.inr (.inl (List.mem_of_getElem? (i := 3) rfl)), ⟨.inl ⟨rfl, rfl⟩, ⟨.inl ⟨rfl, rfl⟩, ⟨.inl ⟨rfl, rfl⟩, ⟨.inl ⟨rfl, rfl⟩, trivial⟩⟩⟩⟩⟩⟩⟩⟩⟩⟩⟩) (by simp only [maxLen]; omega) (by omega) (fun av2 cv2 => ?_)
      rw [← e5]
      try simp only [cAp, nAp, aNl]
      refine Gr (id := 17) (rest := []) [zR 4] [0, 1, 4, 5, 6, 7, 8, 9, 10, 11] (fun _ => [zV 0 (.string key), zS 1 (sA b1 off1) l.length c, zS 4 none 0 0, zS 5 av2 (ALL.length + 1) cv2, zI 6 i, zI 7 q, zP 8 (nu1 0), zP 9 (nu2 0), zB 10 false, zI 11 j]) (fun _ => [(nu1 0, .cells #[nI o.no, .string o.key, nI o.kind, .string o.text, nI o.n, .bool o.remove, .slice a2_0 ((List.map eDot o.dots).length) c2_0] 24 (0, 0)), (nu2 0, .cells #[nI o.no, .string o.key, nI o.kind, .string o.text, nI o.n, .bool o.remove, .slice a2_0 ((List.map eDot o.dots).length) c2_0, nI x.place, nI t, nI o.no, nI (sumL x.when)] 126 (0, 0)), (nu3 0, .cells #[nI o.no, .string o.key, nI o.kind, .string o.text, nI o.n, .bool o.remove, .slice a2_0 ((List.map eDot o.dots).length) c2_0, nI x.place, nI t, nI o.no, nI (sumL x.when)] 126 (0, 0))]) (fun _ => ?_)
      try simp only [cAp, nAp, aNl]
      refine JR_end ?_
      try simp only [cAp, nAp, aNl]
      refine J_eb ?_
      try simp only [cAp, nAp, aNl]
      refine Gp mixed [zR 0, .rd 1 [] 0 1, zR 2] [] [0, 1, 4, 5, 6, 7, 8, 9, 10, 11] (fun _ => [zV 0 (.string key), zS 1 (sA b1 off1) l.length c, zS 4 none 0 0, zS 5 av2 (ALL.length + 1) cv2, zI 6 i, zI 7 (q + 1), zP 8 (nu1 0), zP 9 (nu2 0), zB 10 false, zI 11 j]) (fun _ => [(nu1 0, .cells #[nI o.no, .string o.key, nI o.kind, .string o.text, nI o.n, .bool o.remove, .slice a2_0 ((List.map eDot o.dots).length) c2_0] 24 (0, 0)), (nu2 0, .cells #[nI o.no, .string o.key, nI o.kind, .string o.text, nI o.n, .bool o.remove, .slice a2_0 ((List.map eDot o.dots).length) c2_0, nI x.place, nI t, nI o.no, nI (sumL x.when)] 126 (0, 0)), (nu3 0, .cells #[nI o.no, .string o.key, nI o.kind, .string o.text, nI o.n, .bool o.remove, .slice a2_0 ((List.map eDot o.dots).length) c2_0, nI x.place, nI t, nI o.no, nI (sumL x.when)] 126 (0, 0))]) (fun _ => [IntKind.i64.wrap (q + (1 : Int)) = q + (1 : Int)]) (fun _ => ⟨wrap_i64 (by omega) (by omega), trivial⟩) (fun _ => ?_)
      try simp only [cAp, nAp, aNl]
      refine J_backx ⟨q + 1, _, _, _⟩ [0, 1, 4, 5, 6, 7] [] [0] [0, 1, 2] ?_ ?_ (by kernel_rfl) rfl rfl rfl
      ·exact ⟨by simp only; omega, by simp only; omega⟩
      ·simp only
       omega
   ·refine JR_run (id := 9) (rest := [(26, false), (27, true), (29, false)]) [.rd 0 [.o 0 none, .o 0 none, .o 0 none, .o 0 none, .o 0 none, .o 0 none, .o 0 none] 0 0, .rd 1 [] 0 0, .rd 2 [] 0 0, .rd 3 [] 0 2, .rd 4 [] 0 0, .rd 5 [.r 0 (some (.int .i64 x.place))] 0 0, .rd 6 [] 0 0, .rd 7 [] 0 0, .rd 8 [] 0 2, .rd 9 [] 0 0, .rd 10 [.r 0 (some (.slice (some (⟨b3, off3, none⟩)) ((List.map eI x.when).length) c1_0))] 0 0, .rd 11 [] 0 0, .rd 12 [] 0 0, .rd 13 [] 0 2, .rd 14 [] 0 0, .rd 15 [.r 0 (some (.int .i64 x.place))] 0 0, .rd 16 [] 0 2, .rd 17 [.r 2 (some (.int .i64 t))] 0 0, .rd 18 [] 0 0, .rd 19 [.o 0 none] 0 0, .rd 20 [] 0 0, .rd 21 [] 0 0, .rd 22 [] 0 0, .rd 23 [] 0 2, .rd 24 [] 0 0, .rd 25 [.r 0 (some (.slice (some (⟨b3, off3, none⟩)) ((List.map eI x.when).length) c1_0))] 0 0, .wr 28 [] 0] [0, 1, 4, 5, 6, 7, 8, 9, 42, 62, 67] (E1 := fun nu2 => [(0, .val (.string key)), (1, .val (.slice (some (⟨b1, off1, none⟩)) l.length c)), (4, .val (.slice none 0 0)), (5, .val (.slice av1 ALL.length cv1)), (6, .val (.int .i64 i)), (7, .val (.int .i64 q)), (8, .val (.pointer (some (⟨nu1 0, 0, none⟩)))), (9, .val (.pointer (some (⟨nu2 0, 0, none⟩)))), (42, .val (.agg #[.int .i64 o.no, .string o.key, .int .i64 o.kind, .string o.text, .int .i64 o.n, .bool o.remove, .slice (a2_0, c2_0).fst ((List.map eDot o.dots).length) c2_0])), (62, .val (.agg #[.int .i64 x.place, .int .i64 t, .int .i64 o.no])), (67, .val (.slice (some (⟨b3, off3, none⟩)) ((List.map eI x.when).length) c1_0))]) (h1 := fun nu2 => [(nu1 0, .cells #[.int .i64 o.no, .string o.key, .int .i64 o.kind, .string o.text, .int .i64 o.n, .bool o.remove, .slice (a2_0, c2_0).fst ((List.map eDot o.dots).length) c2_0] 24 (0, 0)), (nu2 0, .cells #[.int .i64 0, .string (ByteArray.mk #[]), .int .i64 0, .string (ByteArray.mk #[]), .int .i64 0, .bool false, .slice none 0 0, .int .i64 0, .int .i64 0, .int .i64 0, .int .i64 0] 126 (0, 0))]) (p1 := fun nu2 => [(0 : Int) ≤ i, i < (↑l.length : Int), cs1[off1 + i.toNat * (3 : Nat) + (1 : Nat)]? = some (Value.int IntKind.i64 x.place), (0 : Int) ≤ i, i < (↑l.length : Int), cs1[off1 + i.toNat * (3 : Nat)]? = some (Value.slice (some (Addr.mk b3 off3 none), c1_0).fst (List.map eI x.when).length (some (Addr.mk b3 off3 none), c1_0).snd), (0 : Int) ≤ i, i < (↑l.length : Int), cs1[off1 + i.toNat * (3 : Nat) + (1 : Nat)]? = some (Value.int IntKind.i64 x.place), (0 : Int) ≤ x.place, x.place < (↑(List.map eI x.when).length : Int), cs3[off3 + x.place.toNat * (1 : Nat)]? = some (Value.int IntKind.i64 t), (0 : Int) ≤ i, i < (↑l.length : Int), cs1[off1 + i.toNat * (3 : Nat)]? = some (Value.slice (some (Addr.mk b3 off3 none), c1_0).fst (List.map eI x.when).length (some (Addr.mk b3 off3 none), c1_0).snd)]) (W1 := [(29, [])]) (fun _ => by kernel_rfl) (fun _ => ⟨hi0, hlt2, hrd1_1, hi0, hlt2, hrd1_0, hi0, hlt2, hrd1_1, hp0, by simp; omega, hrd3_0, hi0, hlt2, hrd1_0, trivial⟩) (fun nu2 => ?_)
    refine JR_callp [] 106 #[.slice (some (⟨b3, off3, none⟩)) ((List.map eI x.when).length) c1_0] (some 68) (by kernel_rfl) (fun w S hG => ?_)
    refine (rWeight (hG.at 1 rfl) hrt.vec).mono ?_
    rintro e2 w2 hR
    refine ⟨_, _, _, hR, ?_⟩
    try simp only [cAp, nAp, aNl]
    refine Gr (id := 9) (rest := []) [zR 27, .wr 29 [.o 1 none, .o 1 none, .o 1 none, .o 1 none, .o 1 none, .o 1 none, .o 1 none, .o 1 none, .o 1 none, .o 1 none, .o 1 none] 0] [0, 1, 4, 5, 6, 7, 8, 9] (fun _ => [zV 0 (.string key), zS 1 (sA b1 off1) l.length c, zS 4 none 0 0, zS 5 av1 ALL.length cv1, zI 6 i, zI 7 q, zP 8 (nu1 0), zP 9 (nu2 0)]) (fun _ => [(nu1 0, .cells #[nI o.no, .string o.key, nI o.kind, .string o.text, nI o.n, .bool o.remove, .slice a2_0 ((List.map eDot o.dots).length) c2_0] 24 (0, 0)), (nu2 0, .cells #[nI o.no, .string o.key, nI o.kind, .string o.text, nI o.n, .bool o.remove, .slice a2_0 ((List.map eDot o.dots).length) c2_0, nI x.place, nI t, nI o.no, nI (sumL x.when)] 126 (0, 0))]) (fun _ => ?_)
    refine JR_end ?_
    refine Sq mixed [zR 0] [] [0, 1, 4, 5, 6, 7, 8, 9, 10] (fun _ => [zV 0 (.string key), zS 1 (sA b1 off1) l.length c, zS 4 none 0 0, zS 5 av1 ALL.length cv1, zI 6 i, zI 7 q, zP 8 (nu1 0), zP 9 (nu2 0), zB 10 false]) (fun _ => [(nu1 0, .cells #[nI o.no, .string o.key, nI o.kind, .string o.text, nI o.n, .bool o.remove, .slice a2_0 ((List.map eDot o.dots).length) c2_0] 24 (0, 0)), (nu2 0, .cells #[nI o.no, .string o.key, nI o.kind, .string o.text, nI o.n, .bool o.remove, .slice a2_0 ((List.map eDot o.dots).length) c2_0, nI x.place, nI t, nI o.no, nI (sumL x.when)] 126 (0, 0))]) (fun _ => ?_)
    refine J_seq ?_
    refine Sq mixed [zR 0] [] [0, 1, 4, 5, 6, 7, 8, 9, 10, 11] (fun _ => [zV 0 (.string key), zS 1 (sA b1 off1) l.length c, zS 4 none 0 0, zS 5 av1 ALL.length cv1, zI 6 i, zI 7 q, zP 8 (nu1 0), zP 9 (nu2 0), zB 10 false, zI 11 0]) (fun _ => [(nu1 0, .cells #[nI o.no, .string o.key, nI o.kind, .string o.text, nI o.n, .bool o.remove, .slice a2_0 ((List.map eDot o.dots).length) c2_0] 24 (0, 0)), (nu2 0, .cells #[nI o.no, .string o.key, nI o.kind, .string o.text, nI o.n, .bool o.remove, .slice a2_0 ((List.map eDot o.dots).length) c2_0, nI x.place, nI t, nI o.no, nI (sumL x.when)] 126 (0, 0))]) (fun _ => ?_)
    refine J_block ?_
    refine J_loopx (fun z : OpsR => [zV 0 (.string key), zS 1 (sA b1 off1) l.length c, zS 4 none 0 0, zS 5 av1 ALL.length cv1, zI 6 i, zI 7 q, zP 8 (nu1 0), zP 9 (nu2 0), zB 10 z.b, zI 11 z.j]) (fun z : OpsR => [(nu1 0, .cells #[nI o.no, .string o.key, nI o.kind, .string o.text, nI o.n, .bool o.remove, .slice a2_0 ((List.map eDot o.dots).length) c2_0] 24 (0, 0)), (nu2 0, .cells #[nI o.no, .string o.key, nI o.kind, .string o.text, nI o.n, .bool o.remove, .slice a2_0 ((List.map eDot o.dots).length) c2_0, nI x.place, nI t, nI o.no, nI (sumL x.when)] 126 (0, 0))]) (fun z : OpsR => [cAcc (.slice av1 ALL.length cv1) 126 11 (ALL.map eDone)]) (fun z : OpsR => [(.slice (sA b1 off1) l.length c, (D.sl 3 (List.map eCom l))), (.slice (sA b3 off3) ((List.map eI x.when).length) c1_0, (D.sl 1 (List.map eI x.when))), (.slice (sA b2 off2) ((List.map eOp x.ops).length) c1_1, (D.sl 7 (List.map eOp x.ops))), (.slice (a2_0, c2_0).fst ((List.map eDot o.dots).length) c2_0, (D.sl 3 (List.map eDot o.dots)))]) (fun z : OpsR => (ALL.length - z.j).toNat) (fun z : OpsR => (0 ≤ z.j ∧ z.j ≤ ALL.length ∧ z.b = decide ((⟨x.place, t, o.no⟩ : DotT) ∈ (ALL.take z.j.toNat).map (·.d)))) ⟨0, false⟩ [0, 1, 4, 5, 6, 7, 8, 9, 10, 11] [0, 1] [0] [0, 1, 2, 3] ?_ (by kernel_rfl) rfl rfl rfl ?_
    ·exact ⟨by simp, by simp, by simp⟩
    rintro ⟨j, b⟩ ⟨hj0, hj, hb⟩
    dsimp only at hj0 hj hb ⊢
    refine J_seq ?_
    refine Sq mixed [zR 0, zR 1, zR 2, zR 3] [] [0, 1, 4, 5, 6, 7, 8, 9, 10, 11, 73] (fun _ => [zV 0 (.string key), zS 1 (sA b1 off1) l.length c, zS 4 none 0 0, zS 5 av1 ALL.length cv1, zI 6 i, zI 7 q, zP 8 (nu1 0), zP 9 (nu2 0), zB 10 b, zI 11 j, zB 73 (decide (j < (↑ALL.length : Int)))]) (fun _ => [(nu1 0, .cells #[nI o.no, .string o.key, nI o.kind, .string o.text, nI o.n, .bool o.remove, .slice a2_0 ((List.map eDot o.dots).length) c2_0] 24 (0, 0)), (nu2 0, .cells #[nI o.no, .string o.key, nI o.kind, .string o.text, nI o.n, .bool o.remove, .slice a2_0 ((List.map eDot o.dots).length) c2_0, nI x.place, nI t, nI o.no, nI (sumL x.when)] 126 (0, 0))]) (fun _ => ?_)
    refine cC (t := decide (j < (↑ALL.length : Int))) (fun hlt2 => ?_) (fun hlt2 => ?_)
    ·have hlt4 : j < ALL.length := by simpa using hlt2
     obtain ⟨y, hy⟩ : ∃ y, ALL[j.toNat]? = some y := ⟨_, List.getElem?_eq_getElem (by omega)⟩
     refine J_openacc 0 rfl (by intro h0; rw [List.map_eq_nil_iff] at h0; rw [h0] at hy; simp at hy) fun g cur xs hu _ _ hrow => ?_
     subst hu
     refine J_stpx (stp_readrows 0 rfl j.toNat (map_at hy)) fun ls hls => ?_
     obtain ⟨hls1, hls2⟩ := hls
     obtain ⟨⟨xa, xc⟩, rfl⟩ : ∃ l0, ls = [l0] := len1 hls1
     have f := fun (j : Nat) v h => hrow.atx (hls2 j v h)
     have r7 : cur[0 + j.toNat * 11 + 7]? = some (.int .i64 y.d.place) := by rw [Nat.zero_add]; exact f 7 _ rfl
     have r8 : cur[0 + j.toNat * 11 + 8]? = some (.int .i64 y.d.time) := by rw [Nat.zero_add]; exact f 8 _ rfl
     have r9 : cur[0 + j.toNat * 11 + 9]? = some (.int .i64 y.d.no) := by rw [Nat.zero_add]; exact f 9 _ rfl
     try simp only [cAp, nAp, aNl]
     refine J_skip ?_
     try simp only [cAp, nAp, aNl]
     refine J_seq ?_
     try simp only [cAp, nAp, aNl]
     refine J_block ?_
     try simp only [cAp, nAp, aNl]
     refine J_seq ?_
     try simp only [cAp, nAp, aNl]
     refine Gp mixed [zR 0, zR 1, .rd 2 [] 0 2, zR 3, .rd 4 [.o 2 (some (nI y.d.place)), .o 2 (some (nI y.d.time)), .o 2 (some (nI y.d.no))] 0 0, zR 5, .rd 6 [.o 1 none, .o 1 none, .o 1 none] 0 0, .rd 7 [.r 0 (some (.bool (decide (y.d.place = x.place ∧ y.d.time = t ∧ y.d.no = o.no))))] 0 10] [] [0, 1, 4, 5, 6, 7, 8, 9, 10, 11, 83] (fun _ => [zV 0 (.string key), zS 1 (sA b1 off1) l.length c, zS 4 none 0 0, zS 5 (sA g 0) ALL.length cv1, zI 6 i, zI 7 q, zP 8 (nu1 0), zP 9 (nu2 0), zB 10 b, zI 11 j, zB 83 (decide (y.d.place = x.place ∧ y.d.time = t ∧ y.d.no = o.no))]) (fun _ => [(nu1 0, .cells #[nI o.no, .string o.key, nI o.kind, .string o.text, nI o.n, .bool o.remove, .slice a2_0 ((List.map eDot o.dots).length) c2_0] 24 (0, 0)), (nu2 0, .cells #[nI o.no, .string o.key, nI o.kind, .string o.text, nI o.n, .bool o.remove, .slice a2_0 ((List.map eDot o.dots).length) c2_0, nI x.place, nI t, nI o.no, nI (sumL x.when)] 126 (0, 0)), (g, .cells cur 126 (0, 0))]) (fun _ => [(0 : Int) ≤ j, j < (↑ALL.length : Int), cur[(0 : Nat) + j.toNat * (11 : Nat) + (7 : Nat)]? = some (nI y.d.place), cur[(0 : Nat) + j.toNat * (11 : Nat) + (8 : Nat)]? = some (nI y.d.time), cur[(0 : Nat) + j.toNat * (11 : Nat) + (9 : Nat)]? = some (nI y.d.no), eqRun Tryz.prog .eql 65 (Operand.tmp 80) (Operand.tmp 82) (.agg #[nI y.d.place, nI y.d.time, nI y.d.no]) (.agg #[nI x.place, nI t, nI o.no]) (.bool (decide (y.d.place = x.place ∧ y.d.time = t ∧ y.d.no = o.no)))]) (fun _ => ⟨hj0, hlt4, r7, r8, r9, eqRun_eql_65, trivial⟩) (fun _ => ?_)
     try simp only [cAp, nAp, aNl]
     refine J_hide 2 rfl ?_
     refine J_stp (stp_closeacc 1 0 rfl rfl hrow (by decide)) ?_
     rw [show (List.map eDone ALL).length = ALL.length from List.length_map ..]
     refine cC (t := decide (y.d.place = x.place ∧ y.d.time = t ∧ y.d.no = o.no)) (fun he => ?_) (fun he => ?_)
     ·try simp only [List.cons_append, List.nil_append, List.append_nil]
      refine Gq mixed [zR 0] [] [0, 1, 4, 5, 6, 7, 8, 9, 10, 11] (fun _ => [zV 0 (.string key), zS 1 (sA b1 off1) l.length c, zS 4 none 0 0, zS 5 (sA g 0) ALL.length cv1, zI 6 i, zI 7 q, zP 8 (nu1 0), zP 9 (nu2 0), zB 10 true, zI 11 j]) (fun _ => [(nu1 0, .cells #[nI o.no, .string o.key, nI o.kind, .string o.text, nI o.n, .bool o.remove, .slice a2_0 ((List.map eDot o.dots).length) c2_0] 24 (0, 0)), (nu2 0, .cells #[nI o.no, .string o.key, nI o.kind, .string o.text, nI o.n, .bool o.remove, .slice a2_0 ((List.map eDot o.dots).length) c2_0, nI x.place, nI t, nI o.no, nI (sumL x.when)] 126 (0, 0))]) (fun _ => ?_)
      try simp only [cAp, nAp, aNl]
      refine J_eb ?_
      try simp only [cAp, nAp, aNl]
      refine Gp mixed [zR 0, .rd 1 [] 0 1, zR 2] [] [0, 1, 4, 5, 6, 7, 8, 9, 10, 11] (fun _ => [zV 0 (.string key), zS 1 (sA b1 off1) l.length c, zS 4 none 0 0, zS 5 (sA g 0) ALL.length cv1, zI 6 i, zI 7 q, zP 8 (nu1 0), zP 9 (nu2 0), zB 10 true, zI 11 (j + 1)]) (fun _ => [(nu1 0, .cells #[nI o.no, .string o.key, nI o.kind, .string o.text, nI o.n, .bool o.remove, .slice a2_0 ((List.map eDot o.dots).length) c2_0] 24 (0, 0)), (nu2 0, .cells #[nI o.no, .string o.key, nI o.kind, .string o.text, nI o.n, .bool o.remove, .slice a2_0 ((List.map eDot o.dots).length) c2_0, nI x.place, nI t, nI o.no, nI (sumL x.when)] 126 (0, 0))]) (fun _ => [IntKind.i64.wrap (j + (1 : Int)) = j + (1 : Int)]) (fun _ => ⟨wrap_i64 (by omega) (by omega), trivial⟩) (fun _ => ?_)
      try simp only [cAp, nAp, aNl]
      refine J_backx ⟨j + 1, true⟩ [0, 1, 4, 5, 6, 7, 8, 9, 10, 11] [0, 1] [0] [0, 1, 2, 3] ?_ ?_ (by kernel_rfl) rfl rfl rfl
      ·exact ⟨by simp only; omega, by simp only; omega, (memStep hj0 hy (.inl (by simpa using he))).symm⟩
      ·simp only
       omega
     ·try simp only [List.cons_append, List.nil_append, List.append_nil]
      refine J_skip ?_
      try simp only [cAp, nAp, aNl]
      refine J_eb ?_
      try simp only [cAp, nAp, aNl]
      refine Gp mixed [zR 0, .rd 1 [] 0 1, zR 2] [] [0, 1, 4, 5, 6, 7, 8, 9, 10, 11] (fun _ => [zV 0 (.string key), zS 1 (sA b1 off1) l.length c, zS 4 none 0 0, zS 5 (sA g 0) ALL.length cv1, zI 6 i, zI 7 q, zP 8 (nu1 0), zP 9 (nu2 0), zB 10 b, zI 11 (j + 1)]) (fun _ => [(nu1 0, .cells #[nI o.no, .string o.key, nI o.kind, .string o.text, nI o.n, .bool o.remove, .slice a2_0 ((List.map eDot o.dots).length) c2_0] 24 (0, 0)), (nu2 0, .cells #[nI o.no, .string o.key, nI o.kind, .string o.text, nI o.n, .bool o.remove, .slice a2_0 ((List.map eDot o.dots).length) c2_0, nI x.place, nI t, nI o.no, nI (sumL x.when)] 126 (0, 0))]) (fun _ => [IntKind.i64.wrap (j + (1 : Int)) = j + (1 : Int)]) (fun _ => ⟨wrap_i64 (by omega) (by omega), trivial⟩) (fun _ => ?_)
      try simp only [cAp, nAp, aNl]
      refine J_backx ⟨j + 1, b⟩ [0, 1, 4, 5, 6, 7, 8, 9, 10, 11] [0, 1] [0] [0, 1, 2, 3] ?_ ?_ (by kernel_rfl) rfl rfl rfl
      ·exact ⟨by simp only; omega, by simp only; omega, by dsimp only; rw [hb]; exact (memSkip hj0 hy (by simpa using he)).symm⟩
      ·simp only
       omega
    ·have hjl : ALL.take j.toNat = ALL := List.take_of_length_le (by simp at hlt2; omega)
     rw [hjl] at hb
     by_cases hmem : (⟨x.place, t, o.no⟩ : DotT) ∈ ALL.map (·.d)
     ·rw [decide_eq_true hmem] at hb
      subst hb
      have e5 := hstep
      rw [if_pos hmem, List.append_nil] at e5
      refine J_exit rfl ?_
      refine Sq mixed [zR 0, zR 1] [] [0, 1, 4, 5, 6, 7, 8, 9, 10, 11, 85] (fun _ => [zV 0 (.string key), zS 1 (sA b1 off1) l.length c, zS 4 none 0 0, zS 5 av1 ALL.length cv1, zI 6 i, zI 7 q, zP 8 (nu1 0), zP 9 (nu2 0), zB 10 true, zI 11 j, zB 85 false]) (fun _ => [(nu1 0, .cells #[nI o.no, .string o.key, nI o.kind, .string o.text, nI o.n, .bool o.remove, .slice a2_0 ((List.map eDot o.dots).length) c2_0] 24 (0, 0)), (nu2 0, .cells #[nI o.no, .string o.key, nI o.kind, .string o.text, nI o.n, .bool o.remove, .slice a2_0 ((List.map eDot o.dots).length) c2_0, nI x.place, nI t, nI o.no, nI (sumL x.when)] 126 (0, 0))]) (fun _ => ?_)
      refine cF ?_
      refine J_skip ?_
      refine J_eb ?_
      refine Gp mixed [zR 0, .rd 1 [] 0 1, zR 2] [] [0, 1, 4, 5, 6, 7, 8, 9, 10, 11] (fun _ => [zV 0 (.string key), zS 1 (sA b1 off1) l.length c, zS 4 none 0 0, zS 5 av1 ALL.length cv1, zI 6 i, zI 7 (q + 1), zP 8 (nu1 0), zP 9 (nu2 0), zB 10 true, zI 11 j]) (fun _ => [(nu1 0, .cells #[nI o.no, .string o.key, nI o.kind, .string o.text, nI o.n, .bool o.remove, .slice a2_0 ((List.map eDot o.dots).length) c2_0] 24 (0, 0)), (nu2 0, .cells #[nI o.no, .string o.key, nI o.kind, .string o.text, nI o.n, .bool o.remove, .slice a2_0 ((List.map eDot o.dots).length) c2_0, nI x.place, nI t, nI o.no, nI (sumL x.when)] 126 (0, 0))]) (fun _ => [IntKind.i64.wrap (q + (1 : Int)) = q + (1 : Int)]) (fun _ => ⟨wrap_i64 (by omega) (by omega), trivial⟩) (fun _ => ?_)
      rw [← e5]
      refine J_backx ⟨q + 1, _, _, _⟩ [0, 1, 4, 5, 6, 7] [] [0] [0, 1, 2] ?_ ?_ (by kernel_rfl) rfl rfl rfl
      ·exact ⟨by simp only; omega, by simp only; omega⟩
      ·simp only
       omega
     ·rw [decide_eq_false hmem] at hb
      subst hb
      have e5 := hstep
      rw [if_neg hmem] at e5
      refine J_exit rfl ?_
      refine Sq mixed [zR 0, zR 1] [] [0, 1, 4, 5, 6, 7, 8, 9, 10, 11, 85] (fun _ => [zV 0 (.string key), zS 1 (sA b1 off1) l.length c, zS 4 none 0 0, zS 5 av1 ALL.length cv1, zI 6 i, zI 7 q, zP 8 (nu1 0), zP 9 (nu2 0), zB 10 false, zI 11 j, zB 85 true]) (fun _ => [(nu1 0, .cells #[nI o.no, .string o.key, nI o.kind, .string o.text, nI o.n, .bool o.remove, .slice a2_0 ((List.map eDot o.dots).length) c2_0] 24 (0, 0)), (nu2 0, .cells #[nI o.no, .string o.key, nI o.kind, .string o.text, nI o.n, .bool o.remove, .slice a2_0 ((List.map eDot o.dots).length) c2_0, nI x.place, nI t, nI o.no, nI (sumL x.when)] 126 (0, 0))]) (fun _ => ?_)
      refine cTt ?_
      refine jB mixed [(0, true), (1, true), (2, false), (3, false), (4, true)] [] ?_
      refine Gr (id := 17) (rest := [(3, false), (4, true)]) [zR 0, .rd 1 [.o 1 none, .o 1 none, .o 1 none, .o 1 none, .o 1 none, .o 1 none, .o 1 none, .o 1 none, .o 1 none, .o 1 none, .o 1 none] 0 0, .wr 2 [] 0] [0, 1, 4, 5, 6, 7, 8, 9, 10, 11, 86, 88] (fun nu3 => [zV 0 (.string key), zS 1 (sA b1 off1) l.length c, zS 4 none 0 0, zS 5 av1 ALL.length cv1, zI 6 i, zI 7 q, zP 8 (nu1 0), zP 9 (nu2 0), zB 10 false, zI 11 j, zS 86 av1 ALL.length cv1, zS 88 (sA (nu3 0) 0) 1 1]) (fun nu3 => [(nu1 0, .cells #[nI o.no, .string o.key, nI o.kind, .string o.text, nI o.n, .bool o.remove, .slice a2_0 ((List.map eDot o.dots).length) c2_0] 24 (0, 0)), (nu2 0, .cells #[nI o.no, .string o.key, nI o.kind, .string o.text, nI o.n, .bool o.remove, .slice a2_0 ((List.map eDot o.dots).length) c2_0, nI x.place, nI t, nI o.no, nI (sumL x.when)] 126 (0, 0)), (nu3 0, .cells #[nI o.no, .string o.key, nI o.kind, .string o.text, nI o.n, .bool o.remove, .slice a2_0 ((List.map eDot o.dots).length) c2_0, nI x.place, nI t, nI o.no, nI (sumL x.when)] 126 (0, 0))]) (fun nu3 => ?_)
      refine JR_appm 0 123 126 11 120 (.agg #[.int .i64 0, .string (ByteArray.mk #[]), .int .i64 0, .string (ByteArray.mk #[]), .int .i64 0, .bool false, .slice none 0 0, .int .i64 0, .int .i64 0, .int .i64 0, .int .i64 0]) (a0 := av1) (len := ALL.length) (cap0 := cv1) (ax := (some (⟨nu3 0, 0, none⟩))) (m := 1) (c := 1) (dst := (some 89)) [(⟨o, ⟨x.place, t, o.no⟩, sumL x.when⟩ : DoneT)] (by kernel_rfl) (by kernel_rfl) (by kernel_rfl) (by kernel_rfl) rfl (by decide) rfl (fun _ _ _ s => src_one s 2 rfl rfl ⟨.inl ⟨rfl, rfl⟩, ⟨.inl ⟨rfl, rfl⟩, ⟨.inl ⟨rfl, rfl⟩, ⟨.inl ⟨rfl, rfl⟩, ⟨.inl ⟨rfl, rfl⟩, ⟨.inl ⟨rfl, rfl⟩, ⟨.inr (.inl (List.mem_of_getElem? (i := 3) rfl)), ⟨.inl ⟨rfl, rfl⟩, ⟨.inl ⟨rfl, rfl⟩, ⟨.inl ⟨rfl, rfl⟩, ⟨.inl ⟨rfl, rfl⟩, trivial⟩⟩⟩⟩⟩⟩⟩⟩⟩⟩⟩) (by simp only [maxLen]; omega) (by omega) (fun av2 cv2 => ?_)
      rw [← e5]
      try simp only [cAp, nAp, aNl]
      refine Gr (id := 17) (rest := []) [zR 4] [0, 1, 4, 5, 6, 7, 8, 9, 10, 11] (fun _ => [zV 0 (.string key), zS 1 (sA b1 off1) l.length c, zS 4 none 0 0, zS 5 av2 (ALL.length + 1) cv2, zI 6 i, zI 7 q, zP 8 (nu1 0), zP 9 (nu2 0), zB 10 false, zI 11 j]) (fun _ => [(nu1 0, .cells #[nI o.no, .string o.key, nI o.kind, .string o.text, nI o.n, .bool o.remove, .slice a2_0 ((List.map eDot o.dots).length) c2_0] 24 (0, 0)), (nu2 0, .cells #[nI o.no, .string o.key, nI o.kind, .string o.text, nI o.n, .bool o.remove, .slice a2_0 ((List.map eDot o.dots).length) c2_0, nI x.place, nI t, nI o.no, nI (sumL x.when)] 126 (0, 0)), (nu3 0, .cells #[nI o.no, .string o.key, nI o.kind, .string o.text, nI o.n, .bool o.remove, .slice a2_0 ((List.map eDot o.dots).length) c2_0, nI x.place, nI t, nI o.no, nI (sumL x.when)] 126 (0, 0))]) (fun _ => ?_)
      try simp only [cAp, nAp, aNl]
      refine JR_end ?_
      try simp only [cAp, nAp, aNl]
      refine J_eb ?_
      try simp only [cAp, nAp, aNl]
      refine Gp mixed [zR 0, .rd 1 [] 0 1, zR 2] [] [0, 1, 4, 5, 6, 7, 8, 9, 10, 11] (fun _ => [zV 0 (.string key), zS 1 (sA b1 off1) l.length c, zS 4 none 0 0, zS 5 av2 (ALL.length + 1) cv2, zI 6 i, zI 7 (q + 1), zP 8 (nu1 0), zP 9 (nu2 0), zB 10 false, zI 11 j]) (fun _ => [(nu1 0, .cells #[nI o.no, .string o.key, nI o.kind, .string o.text, nI o.n, .bool o.remove, .slice a2_0 ((List.map eDot o.dots).length) c2_0] 24 (0, 0)), (nu2 0, .cells #[nI o.no, .string o.key, nI o.kind, .string o.text, nI o.n, .bool o.remove, .slice a2_0 ((List.map eDot o.dots).length) c2_0, nI x.place, nI t, nI o.no, nI (sumL x.when)] 126 (0, 0)), (nu3 0, .cells #[nI o.no, .string o.key, nI o.kind, .string o.text, nI o.n, .bool o.remove, .slice a2_0 ((List.map eDot o.dots).length) c2_0, nI x.place, nI t, nI o.no, nI (sumL x.when)] 126 (0, 0))]) (fun _ => [IntKind.i64.wrap (q + (1 : Int)) = q + (1 : Int)]) (fun _ => ⟨wrap_i64 (by omega) (by omega), trivial⟩) (fun _ => ?_)
      try simp only [cAp, nAp, aNl]
      refine J_backx ⟨q + 1, _, _, _⟩ [0, 1, 4, 5, 6, 7] [] [0] [0, 1, 2] ?_ ?_ (by kernel_rfl) rfl rfl rfl
      ·exact ⟨by simp only; omega, by simp only; omega⟩
      ·simp only
       omega
  ·have hql : x.ops.take q.toNat = x.ops := List.take_of_length_le (by simp at hlt1; omega)
   rw [hql, allDone_snoc hi0 hx] at hALL
   rw [← hALL]
   refine J_exit rfl ?_
   refine J_eb ?_
   refine Gp mixed [zR 0, .rd 1 [] 0 1, zR 2] [] [0, 1, 4, 5, 6, 7] (fun _ => [zV 0 (.string key), zS 1 (sA b1 off1) l.length c, zS 4 none 0 0, zS 5 av1 ((firsts [] (allDone (List.take (i + 1).toNat l))).length) cv1, zI 6 (i + 1), zI 7 q]) (fun _ => []) (fun _ => [IntKind.i64.wrap (i + (1 : Int)) = i + (1 : Int)]) (fun _ => ⟨wrap_i64 (by omega) (by omega), trivial⟩) (fun _ => ?_)
   refine J_backx ⟨i + 1, _, _, _⟩ [0, 1, 4, 5, 6] [] [0] [0] ?_ ?_ (by kernel_rfl) rfl rfl rfl
   ·exact ⟨by simp only; omega, by simp only; omega⟩
   ·simp only
    omega
 ·have hil : l.take i.toNat = l := List.take_of_length_le (by simp at hlt; omega)
  rw [hil]
  refine J_exit rfl ?_
  refine Sq mixed [zR 0] [] [0, 4, 5, 12] (fun _ => [zV 0 (.string key), zS 4 none 0 0, zS 5 av k cv, zS 12 none 0 0]) (fun _ => []) (fun _ => ?_)
  refine J_seq ?_
  refine Sq mixed [zR 0] [] [0, 4, 5, 12, 13] (fun _ => [zV 0 (.string key), zS 4 none 0 0, zS 5 av k cv, zS 12 none 0 0, zI 13 0]) (fun _ => []) (fun _ => ?_)
  refine J_block ?_
  generalize hALL : firsts [] (allDone l) = ALL
  refine J_stpx (stp_acclen 0 rfl) fun _ hk => ?_
  rw [List.length_map] at hk
  subst hk
  have hA12 : ALL.length ≤ 4000000 := by
   have h1 := firsts_len [] (allDone l)
   have h2 := allDone_len hright
   rw [hALL] at h1
   omega
  refine J_stp (stp_freeze 0 rfl) ?_
  refine J_stp (stp_add (cRep (.slice none 0 0) (.sl 11 (([] : List DoneT).map eDone))) fun _ _ => ⟨rfl, .nil⟩) ?_
  refine J_norm (C' := [(cRep (Value.slice none 0 0) (D.sl 11 (List.map eDone [])))]) (G' := [(.slice a l.length c, (D.sl 3 (List.map eCom l))), (.slice av ALL.length cv, (D.sl 11 (List.map eDone ALL)))]) (by kernel_rfl) (by kernel_rfl) ?_
  refine J_loopx (fun x : OutR => [zV 0 (.string key), zS 4 none 0 0, zS 5 av ALL.length cv, zS 12 x.a x.n x.c, zI 13 x.i]) (fun x : OutR => []) (fun x : OutR => [cRep (.slice x.a x.n x.c) (.sl 11 ((((ALL.take x.i.toNat).filter fun z => decide (z.o.key = key)).foldl (insG doneLt) []).map eDone))]) (fun x : OutR => [(.slice a l.length c, (D.sl 3 (List.map eCom l))), (.slice av ALL.length cv, (D.sl 11 (List.map eDone ALL)))]) (fun x : OutR => (ALL.length - x.i).toNat) (fun x : OutR => (0 ≤ x.i ∧ x.i ≤ ALL.length ∧ GoodS x.a x.c)) ⟨0, none, 0, 0⟩ [0, 4, 5, 12, 13] [] [0] [0, 1] ?_ (by kernel_rfl) rfl rfl rfl ?_
  ·exact ⟨by simp, by simp, .inl ⟨rfl, rfl⟩⟩
  rintro ⟨i2, a2, n2, c2⟩ ⟨hi20, hi2, hg2⟩
  dsimp only at hi20 hi2 hg2 ⊢
  refine J_seq ?_
  refine Sq mixed [zR 0, zR 1, zR 2, zR 3] [] [0, 4, 5, 12, 13, 93] (fun _ => [zV 0 (.string key), zS 4 none 0 0, zS 5 av ALL.length cv, zS 12 a2 n2 c2, zI 13 i2, zB 93 (decide (i2 < (↑ALL.length : Int)))]) (fun _ => []) (fun _ => ?_)
  refine cC (t := decide (i2 < (↑ALL.length : Int))) (fun hlt3 => ?_) (fun hlt3 => ?_)
  ·have hlt4 : i2 < ALL.length := by simpa using hlt3
   obtain ⟨y, hy⟩ : ∃ y, ALL[i2.toNat]? = some y := ⟨_, List.getElem?_eq_getElem (by omega)⟩
   have hO12 : (((ALL.take i2.toNat).filter fun z => decide (z.o.key = key)).foldl (insG doneLt) []).length ≤ 4000000 := by
    rw [insG_flen, List.length_nil, Nat.zero_add]
    refine Nat.le_trans (List.length_filter_le _ _) ?_
    rw [List.length_take]
    omega
   generalize hOUT : ((ALL.take i2.toNat).filter fun z => decide (z.o.key = key)).foldl (insG doneLt) [] = OUT at hO12
   refine J_read1 1 rfl i2.toNat (map_at hy) (by kernel_rfl) (fun b1 off1 cs1 ty1 fz1 a1_0 c1_0 ha1 hrd1 => ?_)
   cases ha1
   have hrd1_0 := rd0 (hrd1 0 _ rfl)
   have hrd1_1 := hrd1 1 _ rfl
   have hrd1_2 := hrd1 2 _ rfl
   have hrd1_3 := hrd1 3 _ rfl
   have hrd1_4 := hrd1 4 _ rfl
   have hrd1_5 := hrd1 5 _ rfl
   have hrd1_6 := hrd1 6 _ rfl
   have hrd1_7 := hrd1 7 _ rfl
   have hrd1_8 := hrd1 8 _ rfl
   have hrd1_9 := hrd1 9 _ rfl
   have hrd1_10 := hrd1 10 _ rfl
   by_cases hkey : y.o.key = key
   ·have hkb : (y.o.key.toList == key.toList) = true := by rw [strEq, decide_eq_true hkey]
    have e6 : insG doneLt OUT y = ((ALL.take (i2 + 1).toNat).filter fun z => decide (z.o.key = key)).foldl (insG doneLt) [] := by
     rw [← hOUT, ← take_snoc hi20 hy, List.filter_append, List.foldl_append]
     simp [hkey]
    try simp only [cAp, nAp, aNl]
    refine J_skip ?_
    refine J_seq ?_
    refine J_block ?_
    refine J_seq ?_
    refine Sp mixed [zR 0, zR 1, .rd 2 [] 0 2, zR 3, zR 4, .rd 5 [.r 0 (some (.string y.o.key))] 0 0, zR 6, .rd 7 [] 0 7] [] [0, 4, 5, 12, 13, 103] (fun _ => [zV 0 (.string key), zS 4 none 0 0, zS 5 (sA b1 off1) ALL.length cv, zS 12 a2 n2 c2, zI 13 i2, zB 103 false]) (fun _ => []) (fun _ => [(0 : Int) ≤ i2, i2 < (↑ALL.length : Int), cs1[off1 + i2.toNat * (11 : Nat) + (1 : Nat)]? = some (Value.string y.o.key), (!y.o.key.toList == key.toList) = false]) (fun _ => ⟨hi20, hlt4, hrd1_1, by simp [*]; done, trivial⟩) (fun _ => ?_)
    refine cF ?_
    refine J_skip ?_
    refine Sq mixed [zR 0] [] [0, 4, 5, 12, 13, 14] (fun _ => [zV 0 (.string key), zS 4 none 0 0, zS 5 (sA b1 off1) ALL.length cv, zS 12 a2 n2 c2, zI 13 i2, zI 14 0]) (fun _ => []) (fun _ => ?_)
    refine J_seq ?_
    refine J_block ?_
    refine J_stp (stp_rep 0 rfl) ?_
    refine J_norm (C' := []) (G' := [(.slice a l.length c, (D.sl 3 (List.map eCom l))), (.slice (some (⟨b1, off1, none⟩)) ALL.length cv, (D.sl 11 (List.map eDone ALL))), (.slice (a1_0, c1_0).fst ((List.map eDot y.o.dots).length) c1_0, (D.sl 3 (List.map eDot y.o.dots))), (.slice a2 n2 c2, (D.sl 11 (List.map eDone OUT)))]) (by kernel_rfl) (by kernel_rfl) ?_
    refine J_stpx (stp_replen 3 rfl) fun _ hn2 => ?_
    rw [List.length_map] at hn2
    subst hn2
    refine J_stpx (stp_know (p := OUT.length ≤ c2) fun _ _ H => (H.g (_, _) (List.mem_of_getElem? (i := 3) rfl)).cap) fun _ hcap2 => ?_
    refine J_loopx (fun k : Int => [zV 0 (.string key), zS 4 none 0 0, zS 5 (sA b1 off1) ALL.length cv, zS 12 a2 OUT.length c2, zI 13 i2, zI 14 k]) (fun k : Int => []) (fun k : Int => []) (fun k : Int => [(.slice a l.length c, (D.sl 3 (List.map eCom l))), (.slice (sA b1 off1) ALL.length cv, (D.sl 11 (List.map eDone ALL))), (.slice (a1_0, c1_0).fst ((List.map eDot y.o.dots).length) c1_0, (D.sl 3 (List.map eDot y.o.dots))), (.slice a2 OUT.length c2, (D.sl 11 (List.map eDone OUT)))]) (fun k : Int => (OUT.length - k).toNat) (fun k : Int => (0 ≤ k ∧ k ≤ OUT.length ∧ ∀ z ∈ OUT.take k.toNat, doneLt z y = true)) 0 [0, 4, 5, 12, 13, 14] [] [] [0, 1, 2, 3] ?_ (by kernel_rfl) rfl rfl rfl ?_
    ·exact ⟨by simp, by simp, by simp⟩
    rintro k ⟨hk0, hk, hkn⟩
    by_cases hlt5 : k < OUT.length
    ·obtain ⟨z, hz⟩ : ∃ z, OUT[k.toNat]? = some z := ⟨_, List.getElem?_eq_getElem (by omega)⟩
     refine J_read1 3 rfl k.toNat (map_at hz) (by kernel_rfl) (fun b2 off2 cs2 ty2 fz2 a2_0 c2_0 ha2 hrd2 => ?_)
     cases ha2
     have hrd2_0 := rd0 (hrd2 0 _ rfl)
     have hrd2_1 := hrd2 1 _ rfl
     have hrd2_2 := hrd2 2 _ rfl
     have hrd2_3 := hrd2 3 _ rfl
     have hrd2_4 := hrd2 4 _ rfl
     have hrd2_5 := hrd2 5 _ rfl
     have hrd2_6 := hrd2 6 _ rfl
     have hrd2_7 := hrd2 7 _ rfl
     have hrd2_8 := hrd2 8 _ rfl
     have hrd2_9 := hrd2 9 _ rfl
     have hrd2_10 := hrd2 10 _ rfl
     try simp only [cAp, nAp, aNl]
     refine J_seq ?_
     refine J_seq ?_
     refine jB mixed [(0, true), (1, true), (2, true), (3, true), (4, true), (5, true), (6, true), (7, true), (8, true), (9, true), (10, true), (11, true), (12, true), (13, false), (14, true)] [] ?_
     refine Gs (id := 24) (rest := [(13, false), (14, true)]) [zR 0, zR 1, zR 2, .rd 3 [] 0 6, zR 4, zR 5, zR 6, .rd 7 [] 0 2, .rd 8 [.r 1 (some (nI z.o.no)), .r 1 (some (.string z.o.key)), .r 1 (some (nI z.o.kind)), .r 1 (some (.string z.o.text)), .r 1 (some (nI z.o.n)), .r 1 (some (.bool z.o.remove)), .r 1 (some (.slice (a2_0, c2_0).fst ((List.map eDot z.o.dots).length) c2_0)), .r 1 (some (nI z.d.place)), .r 1 (some (nI z.d.time)), .r 1 (some (nI z.d.no)), .r 1 (some (nI z.w))] 0 0, zR 9, zR 10, .rd 11 [] 0 2, .rd 12 [.r 0 (some (nI y.o.no)), .r 0 (some (.string y.o.key)), .r 0 (some (nI y.o.kind)), .r 0 (some (.string y.o.text)), .r 0 (some (nI y.o.n)), .r 0 (some (.bool y.o.remove)), .r 0 (some (.slice (a1_0, c1_0).fst ((List.map eDot y.o.dots).length) c1_0)), .r 0 (some (nI y.d.place)), .r 0 (some (nI y.d.time)), .r 0 (some (nI y.d.no)), .r 0 (some (nI y.w))] 0 0] [0, 4, 5, 12, 13, 14, 108, 112, 116] (fun _ => [zV 0 (.string key), zS 4 none 0 0, zS 5 (sA b1 off1) ALL.length cv, zS 12 (sA b2 off2) OUT.length c2, zI 13 i2, zI 14 k, zB 108 true, zV 112 (.agg #[nI z.o.no, .string z.o.key, nI z.o.kind, .string z.o.text, nI z.o.n, .bool z.o.remove, .slice (a2_0, c2_0).fst ((List.map eDot z.o.dots).length) c2_0, nI z.d.place, nI z.d.time, nI z.d.no, nI z.w]), zV 116 (.agg #[nI y.o.no, .string y.o.key, nI y.o.kind, .string y.o.text, nI y.o.n, .bool y.o.remove, .slice (a1_0, c1_0).fst ((List.map eDot y.o.dots).length) c1_0, nI y.d.place, nI y.d.time, nI y.d.no, nI y.w])]) (fun _ => []) (fun _ => [decide (k < (↑OUT.length : Int)) = true, (0 : Int) ≤ k, k < (↑OUT.length : Int), cs2[off2 + k.toNat * (11 : Nat)]? = some (nI z.o.no), cs2[off2 + k.toNat * (11 : Nat) + (1 : Nat)]? = some (Value.string z.o.key), cs2[off2 + k.toNat * (11 : Nat) + (2 : Nat)]? = some (nI z.o.kind), cs2[off2 + k.toNat * (11 : Nat) + (3 : Nat)]? = some (Value.string z.o.text), cs2[off2 + k.toNat * (11 : Nat) + (4 : Nat)]? = some (nI z.o.n), cs2[off2 + k.toNat * (11 : Nat) + (5 : Nat)]? = some (Value.bool z.o.remove), cs2[off2 + k.toNat * (11 : Nat) + (6 : Nat)]? = some (Value.slice (a2_0, c2_0).fst (List.map eDot z.o.dots).length (a2_0, c2_0).snd), cs2[off2 + k.toNat * (11 : Nat) + (7 : Nat)]? = some (nI z.d.place), cs2[off2 + k.toNat * (11 : Nat) + (8 : Nat)]? = some (nI z.d.time), cs2[off2 + k.toNat * (11 : Nat) + (9 : Nat)]? = some (nI z.d.no), cs2[off2 + k.toNat * (11 : Nat) + (10 : Nat)]? = some (nI z.w), (0 : Int) ≤ i2, i2 < (↑ALL.length : Int), cs1[off1 + i2.toNat * (11 : Nat)]? = some (nI y.o.no), cs1[off1 + i2.toNat * (11 : Nat) + (1 : Nat)]? = some (Value.string y.o.key), cs1[off1 + i2.toNat * (11 : Nat) + (2 : Nat)]? = some (nI y.o.kind), cs1[off1 + i2.toNat * (11 : Nat) + (3 : Nat)]? = some (Value.string y.o.text), cs1[off1 + i2.toNat * (11 : Nat) + (4 : Nat)]? = some (nI y.o.n), cs1[off1 + i2.toNat * (11 : Nat) + (5 : Nat)]? = some (Value.bool y.o.remove), cs1[off1 + i2.toNat * (11 : Nat) + (6 : Nat)]? = some (Value.slice (a1_0, c1_0).fst (List.map eDot y.o.dots).length (a1_0, c1_0).snd), cs1[off1 + i2.toNat * (11 : Nat) + (7 : Nat)]? = some (nI y.d.place), cs1[off1 + i2.toNat * (11 : Nat) + (8 : Nat)]? = some (nI y.d.time), cs1[off1 + i2.toNat * (11 : Nat) + (9 : Nat)]? = some (nI y.d.no), cs1[off1 + i2.toNat * (11 : Nat) + (10 : Nat)]? = some (nI y.w)]) (fun _ => ⟨by simp; omega, hk0, hlt5, hrd2_0, hrd2_1, hrd2_2, hrd2_3, hrd2_4, hrd2_5, hrd2_6, hrd2_7, hrd2_8, hrd2_9, hrd2_10, hi20, hlt4, hrd1_0, hrd1_1, hrd1_2, hrd1_3, hrd1_4, hrd1_5, hrd1_6, hrd1_7, hrd1_8, hrd1_9, hrd1_10, trivial⟩) (fun _ => ?_)
     refine JR_callp [] 107 #[.agg #[.int .i64 z.o.no, .string z.o.key, .int .i64 z.o.kind, .string z.o.text, .int .i64 z.o.n, .bool z.o.remove, .slice (a2_0, c2_0).fst ((List.map eDot z.o.dots).length) c2_0, .int .i64 z.d.place, .int .i64 z.d.time, .int .i64 z.d.no, .int .i64 z.w], .agg #[.int .i64 y.o.no, .string y.o.key, .int .i64 y.o.kind, .string y.o.text, .int .i64 y.o.n, .bool y.o.remove, .slice (a1_0, c1_0).fst ((List.map eDot y.o.dots).length) c1_0, .int .i64 y.d.place, .int .i64 y.d.time, .int .i64 y.d.no, .int .i64 y.w]] (some 117) (by kernel_rfl) (fun w S hG => ?_)
     refine (rAhead (w := w) (S := S) (x := z) (y := y) rfl rfl).mono ?_
     rintro e3 w3 hR
     refine ⟨_, _, _, hR, ?_⟩
     cases hzy : doneLt z y with
     | true =>
      try simp only [cAp, nAp, aNl]
      refine Gr (id := 24) (rest := []) [zR 14] [0, 4, 5, 12, 13, 14, 118] (fun _ => [zV 0 (.string key), zS 4 none 0 0, zS 5 (sA b1 off1) ALL.length cv, zS 12 (sA b2 off2) OUT.length c2, zI 13 i2, zI 14 k, zB 118 true]) (fun _ => []) (fun _ => ?_)
      refine JR_end ?_
      refine cTt ?_
      refine J_skip ?_
      refine J_block ?_
      refine Gp mixed [zR 0, .rd 1 [] 0 1, zR 2] [] [0, 4, 5, 12, 13, 14] (fun _ => [zV 0 (.string key), zS 4 none 0 0, zS 5 (sA b1 off1) ALL.length cv, zS 12 (sA b2 off2) OUT.length c2, zI 13 i2, zI 14 (k + 1)]) (fun _ => []) (fun _ => [IntKind.i64.wrap (k + (1 : Int)) = k + (1 : Int)]) (fun _ => ⟨wrap_i64 (by omega) (by omega), trivial⟩) (fun _ => ?_)
      refine J_eb ?_
      refine J_backx (k + 1) [0, 4, 5, 12, 13, 14] [] [] [0, 1, 2, 3] ?_ ?_ (by kernel_rfl) rfl rfl rfl
      ·refine ⟨by omega, by omega, fun q hq => ?_⟩
       rw [← take_snoc hk0 hz, List.mem_append, List.mem_singleton] at hq
       rcases hq with hq | rfl
       ·exact hkn q hq
       ·exact hzy
      ·omega
     | false =>
      have hins := insG_at doneLt (l := OUT) (x := y) (k := k.toNat) hkn fun q hq => by rw [hz] at hq; cases hq; exact hzy
      rw [e6] at hins
      have e8 : OUT.take k.toNat ++ [y] ++ OUT.drop k.toNat = ((ALL.take (i2 + 1).toNat).filter fun z => decide (z.o.key = key)).foldl (insG doneLt) [] := by
       rw [List.append_assoc, List.singleton_append]
       exact hins.symm
      try simp only [cAp, nAp, aNl]
      refine Gr (id := 24) (rest := []) [zR 14] [0, 4, 5, 12, 13, 14, 118] (fun _ => [zV 0 (.string key), zS 4 none 0 0, zS 5 (sA b1 off1) ALL.length cv, zS 12 (sA b2 off2) OUT.length c2, zI 13 i2, zI 14 k, zB 118 false]) (fun _ => []) (fun _ => ?_)
      refine JR_end ?_
      refine cF ?_
      refine J_exit rfl ?_
      refine Sq mixed [zR 0] [] [0, 4, 5, 12, 13, 14, 15] (fun _ => [zV 0 (.string key), zS 4 none 0 0, zS 5 (sA b1 off1) ALL.length cv, zS 12 (sA b2 off2) OUT.length c2, zI 13 i2, zI 14 k, zS 15 none 0 0]) (fun _ => []) (fun _ => ?_)
      refine J_seq ?_
      refine J_stp (stp_fact fun w S H => (H (_, _) (List.mem_of_getElem? (i := 3) rfl)).takeM k.toNat (by omega)) ?_
      refine J_stp (stp_accm eDone 126 11) ?_
      refine J_norm (C' := [cAcc (.slice none 0 0) 126 11 (List.map eDone [])]) (G' := [(.slice a l.length c, (D.sl 3 (List.map eCom l))), (.slice (some (⟨b1, off1, none⟩)) ALL.length cv, (D.sl 11 (List.map eDone ALL))), (.slice a1_0 ((List.map eDot y.o.dots).length) c1_0, (D.sl 3 (List.map eDot y.o.dots))), (.slice (some (⟨b2, off2, none⟩)) OUT.length c2, (D.sl 11 (List.map eDone OUT))), (.slice (a2_0, c2_0).fst ((List.map eDot z.o.dots).length) c2_0, (D.sl 3 (List.map eDot z.o.dots))), (.slice (some (⟨b2, off2, none⟩)) k.toNat c2, (D.sl 11 (List.map eDone (List.take k.toNat OUT))))]) (by kernel_rfl) (by kernel_rfl) ?_
      refine jB mixed [(0, true), (1, true), (2, true), (3, true), (4, false), (5, true)] [] ?_
      refine Gs (id := 27) (rest := [(4, false), (5, true)]) [zR 0, zR 1, zR 2, .rd 3 [] 0 4] [0, 4, 5, 12, 13, 14, 15, 121, 124] (fun _ => [zV 0 (.string key), zS 4 none 0 0, zS 5 (sA b1 off1) ALL.length cv, zS 12 (sA b2 off2) OUT.length c2, zI 13 i2, zI 14 k, zS 15 none 0 0, zS 121 none 0 0, zS 124 (sA b2 off2) k.toNat c2]) (fun _ => []) (fun _ => [(0 : Int) ≤ k, k ≤ (↑c2 : Int)]) (fun _ => ⟨hk0, by omega, trivial⟩) (fun _ => ?_)
      refine JR_appm 0 123 126 11 120 (.agg #[.int .i64 0, .string (ByteArray.mk #[]), .int .i64 0, .string (ByteArray.mk #[]), .int .i64 0, .bool false, .slice none 0 0, .int .i64 0, .int .i64 0, .int .i64 0, .int .i64 0]) (a0 := none) (len := 0) (cap0 := 0) (ax := (some (⟨b2, off2, none⟩))) (m := k.toNat) (c := c2) (dst := (some 125)) (List.take k.toNat OUT) (by kernel_rfl) (by kernel_rfl) (by kernel_rfl) (by kernel_rfl) rfl (by decide) rfl (fun _ _ _ s => src_fact s 5 rfl (by decide)) (by simp only [maxLen]; omega) (by omega) (fun av1 cv1 => ?_)
      rw [Nat.zero_add]
      try simp only [cAp, nAp, aNl]
      refine Gr (id := 27) (rest := []) [zR 5] [0, 4, 5, 12, 13, 14, 15] (fun _ => [zV 0 (.string key), zS 4 none 0 0, zS 5 (sA b1 off1) ALL.length cv, zS 12 (sA b2 off2) OUT.length c2, zI 13 i2, zI 14 k, zS 15 av1 k.toNat cv1]) (fun _ => []) (fun _ => ?_)
      try simp only [cAp, nAp, aNl]
      refine JR_end ?_
      try simp only [cAp, nAp, aNl]
      refine J_seq ?_
      try simp only [cAp, nAp, aNl]
      refine J_again1 1 rfl 0 rfl i2.toNat (map_at hy) (by kernel_rfl) (fun a3_0 c3_0 hrd3 => ?_)
      have hrd3_0 := rd0 (hrd3 0 _ rfl)
      have hrd3_1 := hrd3 1 _ rfl
      have hrd3_2 := hrd3 2 _ rfl
      have hrd3_3 := hrd3 3 _ rfl
      have hrd3_4 := hrd3 4 _ rfl
      have hrd3_5 := hrd3 5 _ rfl
      have hrd3_6 := hrd3 6 _ rfl
      have hrd3_7 := hrd3 7 _ rfl
      have hrd3_8 := hrd3 8 _ rfl
      have hrd3_9 := hrd3 9 _ rfl
      have hrd3_10 := hrd3 10 _ rfl
      try simp only [cAp, nAp, aNl]
      refine jB mixed [(0, true), (1, true), (2, true), (3, true), (4, true), (5, false), (6, false), (7, true)] [] ?_
      refine Gs (id := 28) (rest := [(6, false), (7, true)]) [zR 0, zR 1, zR 2, .rd 3 [] 0 2, .rd 4 [.r 0 (some (nI y.o.no)), .r 0 (some (.string y.o.key)), .r 0 (some (nI y.o.kind)), .r 0 (some (.string y.o.text)), .r 0 (some (nI y.o.n)), .r 0 (some (.bool y.o.remove)), .r 0 (some (.slice (a1_0, c1_0).fst ((List.map eDot y.o.dots).length) c1_0)), .r 0 (some (nI y.d.place)), .r 0 (some (nI y.d.time)), .r 0 (some (nI y.d.no)), .r 0 (some (nI y.w))] 0 0, .wr 5 [] 0] [0, 4, 5, 12, 13, 14, 15, 126, 131] (fun nu1 => [zV 0 (.string key), zS 4 none 0 0, zS 5 (sA b1 off1) ALL.length cv, zS 12 (sA b2 off2) OUT.length c2, zI 13 i2, zI 14 k, zS 15 av1 k.toNat cv1, zS 126 av1 k.toNat cv1, zS 131 (sA (nu1 0) 0) 1 1]) (fun nu1 => [(nu1 0, .cells #[nI y.o.no, .string y.o.key, nI y.o.kind, .string y.o.text, nI y.o.n, .bool y.o.remove, .slice (a1_0, c1_0).fst ((List.map eDot y.o.dots).length) c1_0, nI y.d.place, nI y.d.time, nI y.d.no, nI y.w] 126 (0, 0))]) (fun nu1 => [(0 : Int) ≤ i2, i2 < (↑ALL.length : Int), cs1[off1 + i2.toNat * (11 : Nat)]? = some (nI y.o.no), cs1[off1 + i2.toNat * (11 : Nat) + (1 : Nat)]? = some (Value.string y.o.key), cs1[off1 + i2.toNat * (11 : Nat) + (2 : Nat)]? = some (nI y.o.kind), cs1[off1 + i2.toNat * (11 : Nat) + (3 : Nat)]? = some (Value.string y.o.text), cs1[off1 + i2.toNat * (11 : Nat) + (4 : Nat)]? = some (nI y.o.n), cs1[off1 + i2.toNat * (11 : Nat) + (5 : Nat)]? = some (Value.bool y.o.remove), cs1[off1 + i2.toNat * (11 : Nat) + (6 : Nat)]? = some (Value.slice (a1_0, c1_0).fst (List.map eDot y.o.dots).length (a1_0, c1_0).snd), cs1[off1 + i2.toNat * (11 : Nat) + (7 : Nat)]? = some (nI y.d.place), cs1[off1 + i2.toNat * (11 : Nat) + (8 : Nat)]? = some (nI y.d.time), cs1[off1 + i2.toNat * (11 : Nat) + (9 : Nat)]? = some (nI y.d.no), cs1[off1 + i2.toNat * (11 : Nat) + (10 : Nat)]? = some (nI y.w)]) (fun _ => ⟨hi20, hlt4, hrd1_0, hrd1_1, hrd1_2, hrd1_3, hrd1_4, hrd1_5, hrd1_6, hrd1_7, hrd1_8, hrd1_9, hrd1_10, trivial⟩) (fun nu1 => ?_)
      refine JR_appm 0 123 126 11 120 (.agg #[.int .i64 0, .string (ByteArray.mk #[]), .int .i64 0, .string (ByteArray.mk #[]), .int .i64 0, .bool false, .slice none 0 0, .int .i64 0, .int .i64 0, .int .i64 0, .int .i64 0]) (a0 := av1) (len := k.toNat) (cap0 := cv1) (ax := (some (⟨nu1 0, 0, none⟩))) (m := 1) (c := 1) (dst := (some 132)) [y] (by kernel_rfl) (by kernel_rfl) (by kernel_rfl) (by kernel_rfl) rfl (by decide) rfl (fun _ _ _ s => src_one s 0 rfl rfl ⟨.inl ⟨rfl, rfl⟩, ⟨.inl ⟨rfl, rfl⟩, ⟨.inl ⟨rfl, rfl⟩, ⟨.inl ⟨rfl, rfl⟩, ⟨.inl ⟨rfl, rfl⟩, ⟨.inl ⟨rfl, rfl⟩, ⟨.inr (.inl (List.mem_of_getElem? (i := 2) rfl)), ⟨.inl ⟨rfl, rfl⟩, ⟨.inl ⟨rfl, rfl⟩, ⟨.inl ⟨rfl, rfl⟩, ⟨.inl ⟨rfl, rfl⟩, trivial⟩⟩⟩⟩⟩⟩⟩⟩⟩⟩⟩) (by simp only [maxLen]; omega) (by omega) (fun av2 cv2 => ?_)
      try simp only [cAp, nAp, aNl]
      refine Gr (id := 28) (rest := []) [zR 7] [0, 4, 5, 12, 13, 14, 15] (fun _ => [zV 0 (.string key), zS 4 none 0 0, zS 5 (sA b1 off1) ALL.length cv, zS 12 (sA b2 off2) OUT.length c2, zI 13 i2, zI 14 k, zS 15 av2 (k.toNat + 1) cv2]) (fun _ => [(nu1 0, .cells #[nI y.o.no, .string y.o.key, nI y.o.kind, .string y.o.text, nI y.o.n, .bool y.o.remove, .slice a1_0 ((List.map eDot y.o.dots).length) c1_0, nI y.d.place, nI y.d.time, nI y.d.no, nI y.w] 126 (0, 0))]) (fun _ => ?_)
      try simp only [cAp, nAp, aNl]
      refine JR_end ?_
      try simp only [cAp, nAp, aNl]
      refine J_stp (stp_fact fun w S H => (H (_, _) (List.mem_of_getElem? (i := 3) rfl)).dropM k.toNat (by omega)) ?_
      refine J_norm (C' := [cAcc (.slice av2 (k.toNat + 1) cv2) 126 11 (List.map eDone (List.take k.toNat OUT ++ [y]))]) (G' := [(.slice a l.length c, (D.sl 3 (List.map eCom l))), (.slice (some (⟨b1, off1, none⟩)) ALL.length cv, (D.sl 11 (List.map eDone ALL))), (.slice a1_0 ((List.map eDot y.o.dots).length) c1_0, (D.sl 3 (List.map eDot y.o.dots))), (.slice (some (⟨b2, off2, none⟩)) OUT.length c2, (D.sl 11 (List.map eDone OUT))), (.slice a2_0 ((List.map eDot z.o.dots).length) c2_0, (D.sl 3 (List.map eDot z.o.dots))), (.slice (some (⟨b2, off2, none⟩)) k.toNat c2, (D.sl 11 (List.map eDone (List.take k.toNat OUT)))), (.slice (a3_0, c3_0).fst ((List.map eDot y.o.dots).length) c3_0, (D.sl 3 (List.map eDot y.o.dots))), (.slice (some (⟨b2, off2 + k.toNat * 11, none⟩)) (OUT.length - k.toNat) (c2 - k.toNat), (D.sl 11 (List.map eDone (List.drop k.toNat OUT))))]) (by kernel_rfl) (by kernel_rfl) ?_
      refine jB mixed [(0, true), (1, true), (2, true), (3, true), (4, false), (5, true)] [] ?_
      refine Gs (id := 29) (rest := [(4, false), (5, true)]) [zR 0, zR 1, zR 2, .rd 3 [] 0 4] [0, 4, 5, 12, 13, 14, 15, 133, 136] (fun _ => [zV 0 (.string key), zS 4 none 0 0, zS 5 (sA b1 off1) ALL.length cv, zS 12 (sA b2 off2) OUT.length c2, zI 13 i2, zI 14 k, zS 15 av2 (k.toNat + 1) cv2, zS 133 av2 (k.toNat + 1) cv2, zS 136 (sA b2 (off2 + k.toNat * 11)) (OUT.length - k.toNat) (c2 - k.toNat)]) (fun _ => [(nu1 0, .cells #[nI y.o.no, .string y.o.key, nI y.o.kind, .string y.o.text, nI y.o.n, .bool y.o.remove, .slice a1_0 ((List.map eDot y.o.dots).length) c1_0, nI y.d.place, nI y.d.time, nI y.d.no, nI y.w] 126 (0, 0))]) (fun _ => [(0 : Int) ≤ k, k ≤ (↑OUT.length : Int), k < (↑c2 : Int)]) (fun _ => ⟨hk0, hk, by omega, trivial⟩) (fun _ => ?_)
      refine JR_appm 0 123 126 11 120 (.agg #[.int .i64 0, .string (ByteArray.mk #[]), .int .i64 0, .string (ByteArray.mk #[]), .int .i64 0, .bool false, .slice none 0 0, .int .i64 0, .int .i64 0, .int .i64 0, .int .i64 0]) (a0 := av2) (len := k.toNat + 1) (cap0 := cv2) (ax := (some (⟨b2, off2 + k.toNat * 11, none⟩))) (m := OUT.length - k.toNat) (c := c2 - k.toNat) (dst := (some 137)) (List.drop k.toNat OUT) (by kernel_rfl) (by kernel_rfl) (by kernel_rfl) (by kernel_rfl) rfl (by decide) rfl (fun _ _ _ s => src_fact s 7 rfl (by decide)) (by simp only [maxLen]; omega) (by omega) (fun av3 cv3 => ?_)
      rw [e8]
      try simp only [cAp, nAp, aNl]
      refine Gr (id := 29) (rest := []) [zR 5] [0, 4, 5, 12, 13, 14, 15] (fun _ => [zV 0 (.string key), zS 4 none 0 0, zS 5 (sA b1 off1) ALL.length cv, zS 12 av3 (k.toNat + 1 + (OUT.length - k.toNat)) cv3, zI 13 i2, zI 14 k, zS 15 av2 (k.toNat + 1) cv2]) (fun _ => [(nu1 0, .cells #[nI y.o.no, .string y.o.key, nI y.o.kind, .string y.o.text, nI y.o.n, .bool y.o.remove, .slice a1_0 ((List.map eDot y.o.dots).length) c1_0, nI y.d.place, nI y.d.time, nI y.d.no, nI y.w] 126 (0, 0))]) (fun _ => ?_)
      try simp only [cAp, nAp, aNl]
      refine JR_end ?_
      try simp only [cAp, nAp, aNl]
      refine J_eb ?_
      try simp only [cAp, nAp, aNl]
      refine Gp mixed [zR 0, .rd 1 [] 0 1, zR 2] [] [0, 4, 5, 12, 13, 14, 15] (fun _ => [zV 0 (.string key), zS 4 none 0 0, zS 5 (sA b1 off1) ALL.length cv, zS 12 av3 (k.toNat + 1 + (OUT.length - k.toNat)) cv3, zI 13 (i2 + 1), zI 14 k, zS 15 av2 (k.toNat + 1) cv2]) (fun _ => [(nu1 0, .cells #[nI y.o.no, .string y.o.key, nI y.o.kind, .string y.o.text, nI y.o.n, .bool y.o.remove, .slice a1_0 ((List.map eDot y.o.dots).length) c1_0, nI y.d.place, nI y.d.time, nI y.d.no, nI y.w] 126 (0, 0))]) (fun _ => [IntKind.i64.wrap (i2 + (1 : Int)) = i2 + (1 : Int)]) (fun _ => ⟨wrap_i64 (by omega) (by omega), trivial⟩) (fun _ => ?_)
      try simp only [cAp, nAp, aNl]
      refine J_stpx (stp_good 0 rfl) fun _ hga => ?_
      refine J_stp (stp_freeze 0 rfl) ?_
      refine J_norm (C' := []) (G' := [(.slice a l.length c, (D.sl 3 (List.map eCom l))), (.slice (some (⟨b1, off1, none⟩)) ALL.length cv, (D.sl 11 (List.map eDone ALL))), (.slice a1_0 ((List.map eDot y.o.dots).length) c1_0, (D.sl 3 (List.map eDot y.o.dots))), (.slice (some (⟨b2, off2, none⟩)) OUT.length c2, (D.sl 11 (List.map eDone OUT))), (.slice a2_0 ((List.map eDot z.o.dots).length) c2_0, (D.sl 3 (List.map eDot z.o.dots))), (.slice (some (⟨b2, off2, none⟩)) k.toNat c2, (D.sl 11 (List.map eDone (List.take k.toNat OUT)))), (.slice a3_0 ((List.map eDot y.o.dots).length) c3_0, (D.sl 3 (List.map eDot y.o.dots))), (.slice (some (⟨b2, off2 + k.toNat * 11, none⟩)) (OUT.length - k.toNat) (c2 - k.toNat), (D.sl 11 (List.map eDone (List.drop k.toNat OUT)))), (.slice av3 (k.toNat + 1 + (OUT.length - k.toNat)) cv3, (D.sl 11 (List.map eDone (List.foldl (insG doneLt) [] (List.filter (fun z => decide (z.o.key = key)) (List.take (i2 + 1).toNat ALL))))))]) (by kernel_rfl) (by kernel_rfl) ?_
      refine J_stp (stp_keep 8 rfl) ?_
      refine J_norm (C' := [(cRep (Value.slice av3 (k.toNat + 1 + (OUT.length - k.toNat)) cv3) (D.sl 11 (List.map eDone (List.foldl (insG doneLt) [] (List.filter (fun z => decide (z.o.key = key)) (List.take (i2 + 1).toNat ALL))))))]) (G' := [(.slice a l.length c, (D.sl 3 (List.map eCom l))), (.slice (some (⟨b1, off1, none⟩)) ALL.length cv, (D.sl 11 (List.map eDone ALL))), (.slice a1_0 ((List.map eDot y.o.dots).length) c1_0, (D.sl 3 (List.map eDot y.o.dots))), (.slice (some (⟨b2, off2, none⟩)) OUT.length c2, (D.sl 11 (List.map eDone OUT))), (.slice a2_0 ((List.map eDot z.o.dots).length) c2_0, (D.sl 3 (List.map eDot z.o.dots))), (.slice (some (⟨b2, off2, none⟩)) k.toNat c2, (D.sl 11 (List.map eDone (List.take k.toNat OUT)))), (.slice a3_0 ((List.map eDot y.o.dots).length) c3_0, (D.sl 3 (List.map eDot y.o.dots))), (.slice (some (⟨b2, off2 + k.toNat * 11, none⟩)) (OUT.length - k.toNat) (c2 - k.toNat), (D.sl 11 (List.map eDone (List.drop k.toNat OUT)))), (.slice av3 (k.toNat + 1 + (OUT.length - k.toNat)) cv3, (D.sl 11 (List.map eDone (List.foldl (insG doneLt) [] (List.filter (fun z => decide (z.o.key = key)) (List.take (i2 + 1).toNat ALL))))))]) (by kernel_rfl) (by kernel_rfl) ?_
      refine J_backx ⟨i2 + 1, _, _, _⟩ [0, 4, 5, 12, 13] [] [0] [0, 1] ?_ ?_ (by kernel_rfl) rfl rfl rfl
      ·exact ⟨by simp only; omega, by simp only; omega, hga⟩
      ·simp only
       omega
    ·have hins := insG_at doneLt (l := OUT) (x := y) (k := k.toNat) hkn fun q hq => by
      have := (List.getElem?_eq_some_iff.1 hq).1
      omega
     rw [e6] at hins
     have e8 : OUT.take k.toNat ++ [y] ++ OUT.drop k.toNat = ((ALL.take (i2 + 1).toNat).filter fun z => decide (z.o.key = key)).foldl (insG doneLt) [] := by
      rw [List.append_assoc, List.singleton_append]
      exact hins.symm
     refine J_seq ?_
     refine Sp mixed [zR 0, zR 1, zR 2, .rd 3 [] 0 7, zR 4, .rd 5 [] 1 0, .rd 6 [] 1 0, .rd 7 [] 1 0, .rd 8 [] 1 0, .rd 9 [] 1 0, .rd 10 [] 1 0, .rd 11 [] 1 0, .rd 12 [] 1 0, .wr 13 [] 1, zR 14] [] [0, 4, 5, 12, 13, 14, 118] (fun _ => [zV 0 (.string key), zS 4 none 0 0, zS 5 (sA b1 off1) ALL.length cv, zS 12 a2 OUT.length c2, zI 13 i2, zI 14 k, zB 118 false]) (fun _ => []) (fun _ => [decide (k < (↑OUT.length : Int)) = false]) (fun _ => ⟨by simp; omega, trivial⟩) (fun _ => ?_)
     refine cF ?_
     refine J_exit rfl ?_
     refine Sq mixed [zR 0] [] [0, 4, 5, 12, 13, 14, 15] (fun _ => [zV 0 (.string key), zS 4 none 0 0, zS 5 (sA b1 off1) ALL.length cv, zS 12 a2 OUT.length c2, zI 13 i2, zI 14 k, zS 15 none 0 0]) (fun _ => []) (fun _ => ?_)
     refine J_seq ?_
     refine J_stp (stp_fact fun w S H => (H (_, _) (List.mem_of_getElem? (i := 3) rfl)).takeM k.toNat (by omega)) ?_
     refine J_stp (stp_accm eDone 126 11) ?_
     refine J_norm (C' := [cAcc (.slice none 0 0) 126 11 (List.map eDone [])]) (G' := [(.slice a l.length c, (D.sl 3 (List.map eCom l))), (.slice (some (⟨b1, off1, none⟩)) ALL.length cv, (D.sl 11 (List.map eDone ALL))), (.slice (a1_0, c1_0).fst ((List.map eDot y.o.dots).length) c1_0, (D.sl 3 (List.map eDot y.o.dots))), (.slice a2 OUT.length c2, (D.sl 11 (List.map eDone OUT))), (.slice a2 k.toNat c2, (D.sl 11 (List.map eDone (List.take k.toNat OUT))))]) (by kernel_rfl) (by kernel_rfl) ?_
     refine jB mixed [(0, true), (1, true), (2, true), (3, true), (4, false), (5, true)] [] ?_
     refine Gs (id := 27) (rest := [(4, false), (5, true)]) [zR 0, zR 1, zR 2, .rd 3 [] 0 4] [0, 4, 5, 12, 13, 14, 15, 121, 124] (fun _ => [zV 0 (.string key), zS 4 none 0 0, zS 5 (sA b1 off1) ALL.length cv, zS 12 a2 OUT.length c2, zI 13 i2, zI 14 k, zS 15 none 0 0, zS 121 none 0 0, zS 124 a2 k.toNat c2]) (fun _ => []) (fun _ => [(0 : Int) ≤ k, k ≤ (↑c2 : Int)]) (fun _ => ⟨hk0, by omega, trivial⟩) (fun _ => ?_)
     refine JR_appm 0 123 126 11 120 (.agg #[.int .i64 0, .string (ByteArray.mk #[]), .int .i64 0, .string (ByteArray.mk #[]), .int .i64 0, .bool false, .slice none 0 0, .int .i64 0, .int .i64 0, .int .i64 0, .int .i64 0]) (a0 := none) (len := 0) (cap0 := 0) (ax := a2) (m := k.toNat) (c := c2) (dst := (some 125)) (List.take k.toNat OUT) (by kernel_rfl) (by kernel_rfl) (by kernel_rfl) (by kernel_rfl) rfl (by decide) rfl (fun _ _ _ s => src_fact s 4 rfl (by decide)) (by simp only [maxLen]; omega) (by omega) (fun av1 cv1 => ?_)
     rw [Nat.zero_add]
     try simp only [cAp, nAp, aNl]
     refine Gr (id := 27) (rest := []) [zR 5] [0, 4, 5, 12, 13, 14, 15] (fun _ => [zV 0 (.string key), zS 4 none 0 0, zS 5 (sA b1 off1) ALL.length cv, zS 12 a2 OUT.length c2, zI 13 i2, zI 14 k, zS 15 av1 k.toNat cv1]) (fun _ => []) (fun _ => ?_)
     try simp only [cAp, nAp, aNl]
     refine JR_end ?_
     try simp only [cAp, nAp, aNl]
     refine J_seq ?_
     try simp only [cAp, nAp, aNl]
     refine J_again1 1 rfl 0 rfl i2.toNat (map_at hy) (by kernel_rfl) (fun a2_0 c2_0 hrd2 => ?_)
     have hrd2_0 := rd0 (hrd2 0 _ rfl)
     have hrd2_1 := hrd2 1 _ rfl
     have hrd2_2 := hrd2 2 _ rfl
     have hrd2_3 := hrd2 3 _ rfl
     have hrd2_4 := hrd2 4 _ rfl
     have hrd2_5 := hrd2 5 _ rfl
     have hrd2_6 := hrd2 6 _ rfl
     have hrd2_7 := hrd2 7 _ rfl
     have hrd2_8 := hrd2 8 _ rfl
     have hrd2_9 := hrd2 9 _ rfl
     have hrd2_10 := hrd2 10 _ rfl
     try simp only [cAp, nAp, aNl]
     refine jB mixed [(0, true), (1, true), (2, true), (3, true), (4, true), (5, false), (6, false), (7, true)] [] ?_
     refine Gs (id := 28) (rest := [(6, false), (7, true)]) [zR 0, zR 1, zR 2, .rd 3 [] 0 2, .rd 4 [.r 0 (some (nI y.o.no)), .r 0 (some (.string y.o.key)), .r 0 (some (nI y.o.kind)), .r 0 (some (.string y.o.text)), .r 0 (some (nI y.o.n)), .r 0 (some (.bool y.o.remove)), .r 0 (some (.slice (a1_0, c1_0).fst ((List.map eDot y.o.dots).length) c1_0)), .r 0 (some (nI y.d.place)), .r 0 (some (nI y.d.time)), .r 0 (some (nI y.d.no)), .r 0 (some (nI y.w))] 0 0, .wr 5 [] 0] [0, 4, 5, 12, 13, 14, 15, 126, 131] (fun nu1 => [zV 0 (.string key), zS 4 none 0 0, zS 5 (sA b1 off1) ALL.length cv, zS 12 a2 OUT.length c2, zI 13 i2, zI 14 k, zS 15 av1 k.toNat cv1, zS 126 av1 k.toNat cv1, zS 131 (sA (nu1 0) 0) 1 1]) (fun nu1 => [(nu1 0, .cells #[nI y.o.no, .string y.o.key, nI y.o.kind, .string y.o.text, nI y.o.n, .bool y.o.remove, .slice (a1_0, c1_0).fst ((List.map eDot y.o.dots).length) c1_0, nI y.d.place, nI y.d.time, nI y.d.no, nI y.w] 126 (0, 0))]) (fun nu1 => [(0 : Int) ≤ i2, i2 < (↑ALL.length : Int), cs1[off1 + i2.toNat * (11 : Nat)]? = some (nI y.o.no), cs1[off1 + i2.toNat * (11 : Nat) + (1 : Nat)]? = some (Value.string y.o.key), cs1[off1 + i2.toNat * (11 : Nat) + (2 : Nat)]? = some (nI y.o.kind), cs1[off1 + i2.toNat * (11 : Nat) + (3 : Nat)]? = some (Value.string y.o.text), cs1[off1 + i2.toNat * (11 : Nat) + (4 : Nat)]? = some (nI y.o.n), cs1[off1 + i2.toNat * (11 : Nat) + (5 : Nat)]? = some (Value.bool y.o.remove), cs1[off1 + i2.toNat * (11 : Nat) + (6 : Nat)]? = some (Value.slice (a1_0, c1_0).fst (List.map eDot y.o.dots).length (a1_0, c1_0).snd), cs1[off1 + i2.toNat * (11 : Nat) + (7 : Nat)]? = some (nI y.d.place), cs1[off1 + i2.toNat * (11 : Nat) + (8 : Nat)]? = some (nI y.d.time), cs1[off1 + i2.toNat * (11 : Nat) + (9 : Nat)]? = some (nI y.d.no), cs1[off1 + i2.toNat * (11 : Nat) + (10 : Nat)]? = some (nI y.w)]) (fun _ => ⟨hi20, hlt4, hrd1_0, hrd1_1, hrd1_2, hrd1_3, hrd1_4, hrd1_5, hrd1_6, hrd1_7, hrd1_8, hrd1_9, hrd1_10, trivial⟩) (fun nu1 => ?_)
     refine JR_appm 0 123 126 11 120 (.agg #[.int .i64 0, .string (ByteArray.mk #[]), .int .i64 0, .string (ByteArray.mk #[]), .int .i64 0, .bool false, .slice none 0 0, .int .i64 0, .int .i64 0, .int .i64 0, .int .i64 0]) (a0 := av1) (len := k.toNat) (cap0 := cv1) (ax := (some (⟨nu1 0, 0, none⟩))) (m := 1) (c := 1) (dst := (some 132)) [y] (by kernel_rfl) (by kernel_rfl) (by kernel_rfl) (by kernel_rfl) rfl (by decide) rfl (fun _ _ _ s => src_one s 0 rfl rfl ⟨.inl ⟨rfl, rfl⟩, ⟨.inl ⟨rfl, rfl⟩, ⟨.inl ⟨rfl, rfl⟩, ⟨.inl ⟨rfl, rfl⟩, ⟨.inl ⟨rfl, rfl⟩, ⟨.inl ⟨rfl, rfl⟩, ⟨.inr (.inl (List.mem_of_getElem? (i := 2) rfl)), ⟨.inl ⟨rfl, rfl⟩, ⟨.inl ⟨rfl, rfl⟩, ⟨.inl ⟨rfl, rfl⟩, ⟨.inl ⟨rfl, rfl⟩, trivial⟩⟩⟩⟩⟩⟩⟩⟩⟩⟩⟩) (by simp only [maxLen]; omega) (by omega) (fun av2 cv2 => ?_)
     try simp only [cAp, nAp, aNl]
     refine Gr (id := 28) (rest := []) [zR 7] [0, 4, 5, 12, 13, 14, 15] (fun _ => [zV 0 (.string key), zS 4 none 0 0, zS 5 (sA b1 off1) ALL.length cv, zS 12 a2 OUT.length c2, zI 13 i2, zI 14 k, zS 15 av2 (k.toNat + 1) cv2]) (fun _ => [(nu1 0, .cells #[nI y.o.no, .string y.o.key, nI y.o.kind, .string y.o.text, nI y.o.n, .bool y.o.remove, .slice a1_0 ((List.map eDot y.o.dots).length) c1_0, nI y.d.place, nI y.d.time, nI y.d.no, nI y.w] 126 (0, 0))]) (fun _ => ?_)
     try simp only [cAp, nAp, aNl]
     refine JR_end ?_
     try simp only [cAp, nAp, aNl]
     have hkl : k = OUT.length := by omega
     have hnil : ∀ w S, Rep w S (.slice a2 0 0) (.sl 11 ((OUT.drop k.toNat).map eDone)) := fun w S => by
      rw [List.drop_of_length_le (by omega)]
      exact .nil
     by_cases hcc : OUT.length = c2
     ·refine J_stp (stp_fact fun w S _ => hnil w S) ?_
      refine J_norm (C' := [cAcc (.slice av2 (k.toNat + 1) cv2) 126 11 (List.map eDone (List.take k.toNat OUT ++ [y]))]) (G' := [(.slice a l.length c, (D.sl 3 (List.map eCom l))), (.slice (some (⟨b1, off1, none⟩)) ALL.length cv, (D.sl 11 (List.map eDone ALL))), (.slice a1_0 ((List.map eDot y.o.dots).length) c1_0, (D.sl 3 (List.map eDot y.o.dots))), (.slice a2 OUT.length c2, (D.sl 11 (List.map eDone OUT))), (.slice a2 k.toNat c2, (D.sl 11 (List.map eDone (List.take k.toNat OUT)))), (.slice (a2_0, c2_0).fst ((List.map eDot y.o.dots).length) c2_0, (D.sl 3 (List.map eDot y.o.dots))), (.slice a2 0 0, (D.sl 11 (List.map eDone (List.drop k.toNat OUT))))]) (by kernel_rfl) (by kernel_rfl) ?_
      refine jB mixed [(0, true), (1, true), (2, true), (3, true), (4, false), (5, true)] [] ?_
      refine Gs (id := 29) (rest := [(4, false), (5, true)]) [zR 0, zR 1, zR 2, .rd 3 [] 0 5] [0, 4, 5, 12, 13, 14, 15, 133, 136] (fun _ => [zV 0 (.string key), zS 4 none 0 0, zS 5 (sA b1 off1) ALL.length cv, zS 12 a2 OUT.length c2, zI 13 i2, zI 14 k, zS 15 av2 (k.toNat + 1) cv2, zS 133 av2 (k.toNat + 1) cv2, zS 136 a2 0 0]) (fun _ => [(nu1 0, .cells #[nI y.o.no, .string y.o.key, nI y.o.kind, .string y.o.text, nI y.o.n, .bool y.o.remove, .slice a1_0 ((List.map eDot y.o.dots).length) c1_0, nI y.d.place, nI y.d.time, nI y.d.no, nI y.w] 126 (0, 0))]) (fun _ => [k = (↑c2 : Int), OUT.length = c2]) (fun _ => ⟨by omega, hcc, trivial⟩) (fun _ => ?_)
      refine JR_appm 0 123 126 11 120 (.agg #[.int .i64 0, .string (ByteArray.mk #[]), .int .i64 0, .string (ByteArray.mk #[]), .int .i64 0, .bool false, .slice none 0 0, .int .i64 0, .int .i64 0, .int .i64 0, .int .i64 0]) (a0 := av2) (len := k.toNat + 1) (cap0 := cv2) (ax := a2) (m := 0) (c := 0) (dst := (some 137)) (List.drop k.toNat OUT) (by kernel_rfl) (by kernel_rfl) (by kernel_rfl) (by kernel_rfl) rfl (by decide) rfl (fun _ _ _ s => src_fact s 6 rfl (by decide)) (by simp only [maxLen]; omega) (by omega) (fun av3 cv3 => ?_)
      rw [e8]
      try simp only [cAp, nAp, aNl]
      refine Gr (id := 29) (rest := []) [zR 5] [0, 4, 5, 12, 13, 14, 15] (fun _ => [zV 0 (.string key), zS 4 none 0 0, zS 5 (sA b1 off1) ALL.length cv, zS 12 av3 (k.toNat + 1) cv3, zI 13 i2, zI 14 k, zS 15 av2 (k.toNat + 1) cv2]) (fun _ => [(nu1 0, .cells #[nI y.o.no, .string y.o.key, nI y.o.kind, .string y.o.text, nI y.o.n, .bool y.o.remove, .slice a1_0 ((List.map eDot y.o.dots).length) c1_0, nI y.d.place, nI y.d.time, nI y.d.no, nI y.w] 126 (0, 0))]) (fun _ => ?_)
      try simp only [cAp, nAp, aNl]
      refine JR_end ?_
      try simp only [cAp, nAp, aNl]
      refine J_eb ?_
      try simp only [cAp, nAp, aNl]
      refine Gp mixed [zR 0, .rd 1 [] 0 1, zR 2] [] [0, 4, 5, 12, 13, 14, 15] (fun _ => [zV 0 (.string key), zS 4 none 0 0, zS 5 (sA b1 off1) ALL.length cv, zS 12 av3 (k.toNat + 1) cv3, zI 13 (i2 + 1), zI 14 k, zS 15 av2 (k.toNat + 1) cv2]) (fun _ => [(nu1 0, .cells #[nI y.o.no, .string y.o.key, nI y.o.kind, .string y.o.text, nI y.o.n, .bool y.o.remove, .slice a1_0 ((List.map eDot y.o.dots).length) c1_0, nI y.d.place, nI y.d.time, nI y.d.no, nI y.w] 126 (0, 0))]) (fun _ => [IntKind.i64.wrap (i2 + (1 : Int)) = i2 + (1 : Int)]) (fun _ => ⟨wrap_i64 (by omega) (by omega), trivial⟩) (fun _ => ?_)
      try simp only [cAp, nAp, aNl]
      refine J_stpx (stp_good 0 rfl) fun _ hga => ?_
      refine J_stp (stp_freeze 0 rfl) ?_
      refine J_norm (C' := []) (G' := [(.slice a l.length c, (D.sl 3 (List.map eCom l))), (.slice (some (⟨b1, off1, none⟩)) ALL.length cv, (D.sl 11 (List.map eDone ALL))), (.slice a1_0 ((List.map eDot y.o.dots).length) c1_0, (D.sl 3 (List.map eDot y.o.dots))), (.slice a2 OUT.length c2, (D.sl 11 (List.map eDone OUT))), (.slice a2 k.toNat c2, (D.sl 11 (List.map eDone (List.take k.toNat OUT)))), (.slice a2_0 ((List.map eDot y.o.dots).length) c2_0, (D.sl 3 (List.map eDot y.o.dots))), (.slice a2 0 0, (D.sl 11 (List.map eDone (List.drop k.toNat OUT)))), (.slice av3 (k.toNat + 1) cv3, (D.sl 11 (List.map eDone (List.foldl (insG doneLt) [] (List.filter (fun z => decide (z.o.key = key)) (List.take (i2 + 1).toNat ALL))))))]) (by kernel_rfl) (by kernel_rfl) ?_
      refine J_stp (stp_keep 7 rfl) ?_
      refine J_norm (C' := [(cRep (Value.slice av3 (k.toNat + 1) cv3) (D.sl 11 (List.map eDone (List.foldl (insG doneLt) [] (List.filter (fun z => decide (z.o.key = key)) (List.take (i2 + 1).toNat ALL))))))]) (G' := [(.slice a l.length c, (D.sl 3 (List.map eCom l))), (.slice (some (⟨b1, off1, none⟩)) ALL.length cv, (D.sl 11 (List.map eDone ALL))), (.slice a1_0 ((List.map eDot y.o.dots).length) c1_0, (D.sl 3 (List.map eDot y.o.dots))), (.slice a2 OUT.length c2, (D.sl 11 (List.map eDone OUT))), (.slice a2 k.toNat c2, (D.sl 11 (List.map eDone (List.take k.toNat OUT)))), (.slice a2_0 ((List.map eDot y.o.dots).length) c2_0, (D.sl 3 (List.map eDot y.o.dots))), (.slice a2 0 0, (D.sl 11 (List.map eDone (List.drop k.toNat OUT)))), (.slice av3 (k.toNat + 1) cv3, (D.sl 11 (List.map eDone (List.foldl (insG doneLt) [] (List.filter (fun z => decide (z.o.key = key)) (List.take (i2 + 1).toNat ALL))))))]) (by kernel_rfl) (by kernel_rfl) ?_
      refine J_backx ⟨i2 + 1, _, _, _⟩ [0, 4, 5, 12, 13] [] [0] [0, 1] ?_ ?_ (by kernel_rfl) rfl rfl rfl
      ·exact ⟨by simp only; omega, by simp only; omega, hga⟩
      ·simp only
       omega
     ·rcases hg2 with ⟨rfl, rfl⟩ | ⟨b, off, rfl⟩
      ·omega
      ·refine J_stp (stp_fact fun w S H => (H (_, _) (List.mem_of_getElem? (i := 3) rfl)).dropM k.toNat (by omega)) ?_
       refine J_norm (C' := [cAcc (.slice av2 (k.toNat + 1) cv2) 126 11 (List.map eDone (List.take k.toNat OUT ++ [y]))]) (G' := [(.slice a l.length c, (D.sl 3 (List.map eCom l))), (.slice (some (⟨b1, off1, none⟩)) ALL.length cv, (D.sl 11 (List.map eDone ALL))), (.slice a1_0 ((List.map eDot y.o.dots).length) c1_0, (D.sl 3 (List.map eDot y.o.dots))), (.slice (some (⟨b, off, none⟩)) OUT.length c2, (D.sl 11 (List.map eDone OUT))), (.slice (some (⟨b, off, none⟩)) k.toNat c2, (D.sl 11 (List.map eDone (List.take k.toNat OUT)))), (.slice (a2_0, c2_0).fst ((List.map eDot y.o.dots).length) c2_0, (D.sl 3 (List.map eDot y.o.dots))), (.slice (some (⟨b, off + k.toNat * 11, none⟩)) (OUT.length - k.toNat) (c2 - k.toNat), (D.sl 11 (List.map eDone (List.drop k.toNat OUT))))]) (by kernel_rfl) (by kernel_rfl) ?_
       refine jB mixed [(0, true), (1, true), (2, true), (3, true), (4, false), (5, true)] [] ?_
       refine Gs (id := 29) (rest := [(4, false), (5, true)]) [zR 0, zR 1, zR 2, .rd 3 [] 0 4] [0, 4, 5, 12, 13, 14, 15, 133, 136] (fun _ => [zV 0 (.string key), zS 4 none 0 0, zS 5 (sA b1 off1) ALL.length cv, zS 12 (sA b off) OUT.length c2, zI 13 i2, zI 14 k, zS 15 av2 (k.toNat + 1) cv2, zS 133 av2 (k.toNat + 1) cv2, zS 136 (sA b (off + k.toNat * 11)) (OUT.length - k.toNat) (c2 - k.toNat)]) (fun _ => [(nu1 0, .cells #[nI y.o.no, .string y.o.key, nI y.o.kind, .string y.o.text, nI y.o.n, .bool y.o.remove, .slice a1_0 ((List.map eDot y.o.dots).length) c1_0, nI y.d.place, nI y.d.time, nI y.d.no, nI y.w] 126 (0, 0))]) (fun _ => [(0 : Int) ≤ k, k ≤ (↑OUT.length : Int), k < (↑c2 : Int)]) (fun _ => ⟨hk0, hk, by omega, trivial⟩) (fun _ => ?_)
       refine JR_appm 0 123 126 11 120 (.agg #[.int .i64 0, .string (ByteArray.mk #[]), .int .i64 0, .string (ByteArray.mk #[]), .int .i64 0, .bool false, .slice none 0 0, .int .i64 0, .int .i64 0, .int .i64 0, .int .i64 0]) (a0 := av2) (len := k.toNat + 1) (cap0 := cv2) (ax := (some (⟨b, off + k.toNat * 11, none⟩))) (m := OUT.length - k.toNat) (c := c2 - k.toNat) (dst := (some 137)) (List.drop k.toNat OUT) (by kernel_rfl) (by kernel_rfl) (by kernel_rfl) (by kernel_rfl) rfl (by decide) rfl (fun _ _ _ s => src_fact s 6 rfl (by decide)) (by simp only [maxLen]; omega) (by omega) (fun av3 cv3 => ?_)
       rw [e8]
       try simp only [cAp, nAp, aNl]
       refine Gr (id := 29) (rest := []) [zR 5] [0, 4, 5, 12, 13, 14, 15] (fun _ => [zV 0 (.string key), zS 4 none 0 0, zS 5 (sA b1 off1) ALL.length cv, zS 12 av3 (k.toNat + 1 + (OUT.length - k.toNat)) cv3, zI 13 i2, zI 14 k, zS 15 av2 (k.toNat + 1) cv2]) (fun _ => [(nu1 0, .cells #[nI y.o.no, .string y.o.key, nI y.o.kind, .string y.o.text, nI y.o.n, .bool y.o.remove, .slice a1_0 ((List.map eDot y.o.dots).length) c1_0, nI y.d.place, nI y.d.time, nI y.d.no, nI y.w] 126 (0, 0))]) (fun _ => ?_)
       try simp only [cAp, nAp, aNl]
       refine JR_end ?_
       try simp only [cAp, nAp, aNl]
       refine J_eb ?_
       try simp only [cAp, nAp, aNl]
       refine Gp mixed [zR 0, .rd 1 [] 0 1, zR 2] [] [0, 4, 5, 12, 13, 14, 15] (fun _ => [zV 0 (.string key), zS 4 none 0 0, zS 5 (sA b1 off1) ALL.length cv, zS 12 av3 (k.toNat + 1 + (OUT.length - k.toNat)) cv3, zI 13 (i2 + 1), zI 14 k, zS 15 av2 (k.toNat + 1) cv2]) (fun _ => [(nu1 0, .cells #[nI y.o.no, .string y.o.key, nI y.o.kind, .string y.o.text, nI y.o.n, .bool y.o.remove, .slice a1_0 ((List.map eDot y.o.dots).length) c1_0, nI y.d.place, nI y.d.time, nI y.d.no, nI y.w] 126 (0, 0))]) (fun _ => [IntKind.i64.wrap (i2 + (1 : Int)) = i2 + (1 : Int)]) (fun _ => ⟨wrap_i64 (by omega) (by omega), trivial⟩) (fun _ => ?_)
       try simp only [cAp, nAp, aNl]
       refine J_stpx (stp_good 0 rfl) fun _ hga => ?_
       refine J_stp (stp_freeze 0 rfl) ?_
       refine J_norm (C' := []) (G' := [(.slice a l.length c, (D.sl 3 (List.map eCom l))), (.slice (some (⟨b1, off1, none⟩)) ALL.length cv, (D.sl 11 (List.map eDone ALL))), (.slice a1_0 ((List.map eDot y.o.dots).length) c1_0, (D.sl 3 (List.map eDot y.o.dots))), (.slice (some (⟨b, off, none⟩)) OUT.length c2, (D.sl 11 (List.map eDone OUT))), (.slice (some (⟨b, off, none⟩)) k.toNat c2, (D.sl 11 (List.map eDone (List.take k.toNat OUT)))), (.slice a2_0 ((List.map eDot y.o.dots).length) c2_0, (D.sl 3 (List.map eDot y.o.dots))), (.slice (some (⟨b, off + k.toNat * 11, none⟩)) (OUT.length - k.toNat) (c2 - k.toNat), (D.sl 11 (List.map eDone (List.drop k.toNat OUT)))), (.slice av3 (k.toNat + 1 + (OUT.length - k.toNat)) cv3, (D.sl 11 (List.map eDone (List.foldl (insG doneLt) [] (List.filter (fun z => decide (z.o.key = key)) (List.take (i2 + 1).toNat ALL))))))]) (by kernel_rfl) (by kernel_rfl) ?_
       refine J_stp (stp_keep 7 rfl) ?_
       refine J_norm (C' := [(cRep (Value.slice av3 (k.toNat + 1 + (OUT.length - k.toNat)) cv3) (D.sl 11 (List.map eDone (List.foldl (insG doneLt) [] (List.filter (fun z => decide (z.o.key = key)) (List.take (i2 + 1).toNat ALL))))))]) (G' := [(.slice a l.length c, (D.sl 3 (List.map eCom l))), (.slice (some (⟨b1, off1, none⟩)) ALL.length cv, (D.sl 11 (List.map eDone ALL))), (.slice a1_0 ((List.map eDot y.o.dots).length) c1_0, (D.sl 3 (List.map eDot y.o.dots))), (.slice (some (⟨b, off, none⟩)) OUT.length c2, (D.sl 11 (List.map eDone OUT))), (.slice (some (⟨b, off, none⟩)) k.toNat c2, (D.sl 11 (List.map eDone (List.take k.toNat OUT)))), (.slice a2_0 ((List.map eDot y.o.dots).length) c2_0, (D.sl 3 (List.map eDot y.o.dots))), (.slice (some (⟨b, off + k.toNat * 11, none⟩)) (OUT.length - k.toNat) (c2 - k.toNat), (D.sl 11 (List.map eDone (List.drop k.toNat OUT)))), (.slice av3 (k.toNat + 1 + (OUT.length - k.toNat)) cv3, (D.sl 11 (List.map eDone (List.foldl (insG doneLt) [] (List.filter (fun z => decide (z.o.key = key)) (List.take (i2 + 1).toNat ALL))))))]) (by kernel_rfl) (by kernel_rfl) ?_
       refine J_backx ⟨i2 + 1, _, _, _⟩ [0, 4, 5, 12, 13] [] [0] [0, 1] ?_ ?_ (by kernel_rfl) rfl rfl rfl
       ·exact ⟨by simp only; omega, by simp only; omega, hga⟩
       ·simp only
        omega
   ·have hkb : (y.o.key.toList == key.toList) = false := by rw [strEq, decide_eq_false hkey]
    have e6 : OUT = ((ALL.take (i2 + 1).toNat).filter fun z => decide (z.o.key = key)).foldl (insG doneLt) [] := by
     rw [← hOUT, ← take_snoc hi20 hy, List.filter_append]
     simp [hkey]
    try simp only [cAp, nAp, aNl]
    refine J_skip ?_
    refine J_seq ?_
    refine J_block ?_
    refine J_seq ?_
    refine Sp mixed [zR 0, zR 1, .rd 2 [] 0 2, zR 3, zR 4, .rd 5 [.r 0 (some (.string y.o.key))] 0 0, zR 6, .rd 7 [] 0 6] [] [0, 4, 5, 12, 13, 103] (fun _ => [zV 0 (.string key), zS 4 none 0 0, zS 5 (sA b1 off1) ALL.length cv, zS 12 a2 n2 c2, zI 13 i2, zB 103 true]) (fun _ => []) (fun _ => [(0 : Int) ≤ i2, i2 < (↑ALL.length : Int), cs1[off1 + i2.toNat * (11 : Nat) + (1 : Nat)]? = some (Value.string y.o.key), (!y.o.key.toList == key.toList) = true]) (fun _ => ⟨hi20, hlt4, hrd1_1, by simp [*]; done, trivial⟩) (fun _ => ?_)
    refine cTt ?_
    refine J_exit rfl ?_
    refine Gp mixed [zR 0, .rd 1 [] 0 1, zR 2] [] [0, 4, 5, 12, 13] (fun _ => [zV 0 (.string key), zS 4 none 0 0, zS 5 (sA b1 off1) ALL.length cv, zS 12 a2 n2 c2, zI 13 (i2 + 1)]) (fun _ => []) (fun _ => [IntKind.i64.wrap (i2 + (1 : Int)) = i2 + (1 : Int)]) (fun _ => ⟨wrap_i64 (by omega) (by omega), trivial⟩) (fun _ => ?_)
    rw [e6]
    refine J_backx ⟨i2 + 1, _, _, _⟩ [0, 4, 5, 12, 13] [] [0] [0, 1] ?_ ?_ (by kernel_rfl) rfl rfl rfl
    ·exact ⟨by simp only; omega, by simp only; omega, hg2⟩
    ·simp only
     omega
  ·have hi3 : ALL.take i2.toNat = ALL := List.take_of_length_le (by simp at hlt3; omega)
   rw [hi3]
   have hO : (ALL.filter fun z => decide (z.o.key = key)).foldl (insG doneLt) [] = opsOf key l := by
    rw [← hALL]
    exact sort_done ((firsts_nodup (s := []) (l := allDone l)).sublist ((List.filter_sublist ..).map _))
   rw [hO]
   have hO12 : (opsOf key l).length ≤ 4000000 := by
    rw [← hO, insG_flen, List.length_nil, Nat.zero_add]
    exact Nat.le_trans (List.length_filter_le _ _) hA12
   have hofk : ofKey key l = (opsOf key l).filter fun z => decide (z.o.kind = kindOf (opsOf key l)) := rfl
   rw [hofk]
   generalize opsOf key l = OUT at hO12
   refine J_stp (stp_rep 0 rfl) ?_
   refine J_stp (stp_accm eDone 126 11) ?_
   refine J_norm (C' := [cAcc (.slice none 0 0) 126 11 (List.map eDone [])]) (G' := [(.slice a l.length c, (D.sl 3 (List.map eCom l))), (.slice av ALL.length cv, (D.sl 11 (List.map eDone ALL))), (.slice a2 n2 c2, (D.sl 11 (List.map eDone OUT)))]) (by kernel_rfl) (by kernel_rfl) ?_
   refine J_stpx (stp_replen 2 rfl) fun _ hn2 => ?_
   rw [List.length_map] at hn2
   subst hn2
   refine J_exit rfl ?_
   refine Sq mixed [zR 0] [] [4, 12, 16] (fun _ => [zS 4 none 0 0, zS 12 a2 OUT.length c2, zS 16 none 0 0]) (fun _ => []) (fun _ => ?_)
   refine J_seq ?_
   refine Sq mixed [zR 0] [] [4, 12, 16, 17] (fun _ => [zS 4 none 0 0, zS 12 a2 OUT.length c2, zS 16 none 0 0, zI 17 0]) (fun _ => []) (fun _ => ?_)
   refine J_block ?_
   refine J_loopx (fun x : AccI => [zS 4 none 0 0, zS 12 a2 OUT.length c2, zS 16 x.a x.k x.c, zI 17 x.i]) (fun x : AccI => []) (fun x : AccI => [cAcc (.slice x.a x.k x.c) 126 11 (((OUT.take x.i.toNat).filter fun z => decide (z.o.kind = kindOf OUT)).map eDone)]) (fun x : AccI => [(.slice a l.length c, (D.sl 3 (List.map eCom l))), (.slice av ALL.length cv, (D.sl 11 (List.map eDone ALL))), (.slice a2 OUT.length c2, (D.sl 11 (List.map eDone OUT)))]) (fun x : AccI => (OUT.length - x.i).toNat) (fun x : AccI => (0 ≤ x.i ∧ x.i ≤ OUT.length)) ⟨0, none, 0, 0⟩ [4, 12, 16, 17] [] [0] [0, 1, 2] ?_ (by kernel_rfl) rfl rfl rfl ?_
   ·exact ⟨by simp, by simp⟩
   rintro ⟨i3, av3, k3, cv3⟩ ⟨hi30, hi3⟩
   dsimp only at hi30 hi3 ⊢
   refine J_stpx (stp_acclen 0 rfl) fun _ hk3 => ?_
   have hk4 : k3 ≤ 4000000 := by
    rw [List.length_map] at hk3
    have h1 := List.length_filter_le (fun z => decide (z.o.kind = kindOf OUT)) (OUT.take i3.toNat)
    rw [List.length_take] at h1
    omega
   refine J_seq ?_
   refine Sq mixed [zR 0, zR 1, zR 2, zR 3] [] [4, 12, 16, 17, 141] (fun _ => [zS 4 none 0 0, zS 12 a2 OUT.length c2, zS 16 av3 k3 cv3, zI 17 i3, zB 141 (decide (i3 < (↑OUT.length : Int)))]) (fun _ => []) (fun _ => ?_)
   refine cC (t := decide (i3 < (↑OUT.length : Int))) (fun hlt4 => ?_) (fun hlt4 => ?_)
   ·have hlt5 : i3 < OUT.length := by simpa using hlt4
    obtain ⟨z, hz⟩ : ∃ z, OUT[i3.toNat]? = some z := ⟨_, List.getElem?_eq_getElem (by omega)⟩
    obtain ⟨z0, hz0⟩ : ∃ z, OUT[0]? = some z := ⟨_, List.getElem?_eq_getElem (by omega)⟩
    have hk0 : kindOf OUT = z0.o.kind := by
     cases OUT with
     | nil => simp at hz0
     | cons q r =>
      simp only [List.getElem?_cons_zero, Option.some.injEq] at hz0
      subst hz0
      rfl
    refine J_read1 2 rfl i3.toNat (map_at hz) (by kernel_rfl) (fun b1 off1 cs1 ty1 fz1 a1_0 c1_0 ha1 hrd1 => ?_)
    cases ha1
    have hrd1_0 := rd0 (hrd1 0 _ rfl)
    have hrd1_1 := hrd1 1 _ rfl
    have hrd1_2 := hrd1 2 _ rfl
    have hrd1_3 := hrd1 3 _ rfl
    have hrd1_4 := hrd1 4 _ rfl
    have hrd1_5 := hrd1 5 _ rfl
    have hrd1_6 := hrd1 6 _ rfl
    have hrd1_7 := hrd1 7 _ rfl
    have hrd1_8 := hrd1 8 _ rfl
    have hrd1_9 := hrd1 9 _ rfl
    have hrd1_10 := hrd1 10 _ rfl
    refine J_again1 2 rfl 0 rfl 0 (map_at hz0) (by kernel_rfl) (fun a2_0 c2_0 hrd2 => ?_)
    have hrd2_0 := rd0 (hrd2 0 _ rfl)
    have hrd2_1 := hrd2 1 _ rfl
    have hrd2_2 := hrd2 2 _ rfl
    have hrd2_3 := hrd2 3 _ rfl
    have hrd2_4 := hrd2 4 _ rfl
    have hrd2_5 := hrd2 5 _ rfl
    have hrd2_6 := hrd2 6 _ rfl
    have hrd2_7 := hrd2 7 _ rfl
    have hrd2_8 := hrd2 8 _ rfl
    have hrd2_9 := hrd2 9 _ rfl
    have hrd2_10 := hrd2 10 _ rfl
    by_cases hkk : z.o.kind = z0.o.kind
    ·have e9 : (OUT.take i3.toNat).filter (fun z => decide (z.o.kind = kindOf OUT)) ++ [z] = (OUT.take (i3 + 1).toNat).filter fun z => decide (z.o.kind = kindOf OUT) := by
      rw [← take_snoc hi30 hz, List.filter_append]
      simp [hk0, hkk]
     try simp only [cAp, nAp, aNl]
     refine J_skip ?_
     refine J_seq ?_
     refine J_block ?_
     refine Sp mixed [zR 0, zR 1, .rd 2 [] 0 2, zR 3, zR 4, .rd 5 [.r 0 (some (nI z.o.kind))] 0 0, zR 6, .rd 7 [] 0 2, zR 8, zR 9, .rd 10 [.r 0 (some (nI z0.o.kind))] 0 0, .rd 11 [] 0 6] [] [4, 12, 16, 17, 155] (fun _ => [zS 4 none 0 0, zS 12 (sA b1 off1) OUT.length c2, zS 16 av3 k3 cv3, zI 17 i3, zB 155 true]) (fun _ => []) (fun _ => [(0 : Int) ≤ i3, i3 < (↑OUT.length : Int), cs1[off1 + i3.toNat * (11 : Nat) + (2 : Nat)]? = some (nI z.o.kind), (0 : Int) ≤ (0 : Int), (0 : Int) < (↑OUT.length : Int), cs1[off1 + (0 : Nat) * (11 : Nat) + (2 : Nat)]? = some (nI z0.o.kind), (z.o.kind == z0.o.kind) = true]) (fun _ => ⟨hi30, hlt5, hrd1_2, by omega, by omega, hrd2_2, by simp; omega, trivial⟩) (fun _ => ?_)
     refine cTt ?_
     refine jB mixed [(0, true), (1, true), (2, true), (3, true), (4, true), (5, false), (6, false), (7, true)] [] ?_
     refine Gs (id := 35) (rest := [(6, false), (7, true)]) [zR 0, zR 1, zR 2, .rd 3 [] 0 2, .rd 4 [.r 0 (some (nI z.o.no)), .r 0 (some (.string z.o.key)), .r 0 (some (nI z.o.kind)), .r 0 (some (.string z.o.text)), .r 0 (some (nI z.o.n)), .r 0 (some (.bool z.o.remove)), .r 0 (some (.slice (a1_0, c1_0).fst ((List.map eDot z.o.dots).length) c1_0)), .r 0 (some (nI z.d.place)), .r 0 (some (nI z.d.time)), .r 0 (some (nI z.d.no)), .r 0 (some (nI z.w))] 0 0, .wr 5 [] 0] [4, 12, 16, 17, 156, 161] (fun nu1 => [zS 4 none 0 0, zS 12 (sA b1 off1) OUT.length c2, zS 16 av3 k3 cv3, zI 17 i3, zS 156 av3 k3 cv3, zS 161 (sA (nu1 0) 0) 1 1]) (fun nu1 => [(nu1 0, .cells #[nI z.o.no, .string z.o.key, nI z.o.kind, .string z.o.text, nI z.o.n, .bool z.o.remove, .slice (a1_0, c1_0).fst ((List.map eDot z.o.dots).length) c1_0, nI z.d.place, nI z.d.time, nI z.d.no, nI z.w] 126 (0, 0))]) (fun nu1 => [(0 : Int) ≤ i3, i3 < (↑OUT.length : Int), cs1[off1 + i3.toNat * (11 : Nat)]? = some (nI z.o.no), cs1[off1 + i3.toNat * (11 : Nat) + (1 : Nat)]? = some (Value.string z.o.key), cs1[off1 + i3.toNat * (11 : Nat) + (2 : Nat)]? = some (nI z.o.kind), cs1[off1 + i3.toNat * (11 : Nat) + (3 : Nat)]? = some (Value.string z.o.text), cs1[off1 + i3.toNat * (11 : Nat) + (4 : Nat)]? = some (nI z.o.n), cs1[off1 + i3.toNat * (11 : Nat) + (5 : Nat)]? = some (Value.bool z.o.remove), cs1[off1 + i3.toNat * (11 : Nat) + (6 : Nat)]? = some (Value.slice (a1_0, c1_0).fst (List.map eDot z.o.dots).length (a1_0, c1_0).snd), cs1[off1 + i3.toNat * (11 : Nat) + (7 : Nat)]? = some (nI z.d.place), cs1[off1 + i3.toNat * (11 : Nat) + (8 : Nat)]? = some (nI z.d.time), cs1[off1 + i3.toNat * (11 : Nat) + (9 : Nat)]? = some (nI z.d.no), cs1[off1 + i3.toNat * (11 : Nat) + (10 : Nat)]? = some (nI z.w)]) (fun _ => ⟨hi30, hlt5, hrd1_0, hrd1_1, hrd1_2, hrd1_3, hrd1_4, hrd1_5, hrd1_6, hrd1_7, hrd1_8, hrd1_9, hrd1_10, trivial⟩) (fun nu1 => ?_)
     refine JR_appm 0 123 126 11 120 (.agg #[.int .i64 0, .string (ByteArray.mk #[]), .int .i64 0, .string (ByteArray.mk #[]), .int .i64 0, .bool false, .slice none 0 0, .int .i64 0, .int .i64 0, .int .i64 0, .int .i64 0]) (a0 := av3) (len := k3) (cap0 := cv3) (ax := (some (⟨nu1 0, 0, none⟩))) (m := 1) (c := 1) (dst := (some 162)) [z] (by kernel_rfl) (by kernel_rfl) (by kernel_rfl) (by kernel_rfl) rfl (by decide) rfl (fun _ _ _ s => src_one s 0 rfl rfl ⟨.inl ⟨rfl, rfl⟩, ⟨.inl ⟨rfl, rfl⟩, ⟨.inl ⟨rfl, rfl⟩, ⟨.inl ⟨rfl, rfl⟩, ⟨.inl ⟨rfl, rfl⟩, ⟨.inl ⟨rfl, rfl⟩, ⟨.inr (.inl (List.mem_of_getElem? (i := 3) rfl)), ⟨.inl ⟨rfl, rfl⟩, ⟨.inl ⟨rfl, rfl⟩, ⟨.inl ⟨rfl, rfl⟩, ⟨.inl ⟨rfl, rfl⟩, trivial⟩⟩⟩⟩⟩⟩⟩⟩⟩⟩⟩) (by simp only [maxLen]; omega) (by omega) (fun av1 cv1 => ?_)
     rw [e9]
     try simp only [cAp, nAp, aNl]
     refine Gr (id := 35) (rest := []) [zR 7] [4, 12, 16, 17] (fun _ => [zS 4 none 0 0, zS 12 (sA b1 off1) OUT.length c2, zS 16 av1 (k3 + 1) cv1, zI 17 i3]) (fun _ => [(nu1 0, .cells #[nI z.o.no, .string z.o.key, nI z.o.kind, .string z.o.text, nI z.o.n, .bool z.o.remove, .slice a1_0 ((List.map eDot z.o.dots).length) c1_0, nI z.d.place, nI z.d.time, nI z.d.no, nI z.w] 126 (0, 0))]) (fun _ => ?_)
     try simp only [cAp, nAp, aNl]
     refine JR_end ?_
     try simp only [cAp, nAp, aNl]
     refine J_eb ?_
     try simp only [cAp, nAp, aNl]
     refine Gp mixed [zR 0, .rd 1 [] 0 1, zR 2] [] [4, 12, 16, 17] (fun _ => [zS 4 none 0 0, zS 12 (sA b1 off1) OUT.length c2, zS 16 av1 (k3 + 1) cv1, zI 17 (i3 + 1)]) (fun _ => [(nu1 0, .cells #[nI z.o.no, .string z.o.key, nI z.o.kind, .string z.o.text, nI z.o.n, .bool z.o.remove, .slice a1_0 ((List.map eDot z.o.dots).length) c1_0, nI z.d.place, nI z.d.time, nI z.d.no, nI z.w] 126 (0, 0))]) (fun _ => [IntKind.i64.wrap (i3 + (1 : Int)) = i3 + (1 : Int)]) (fun _ => ⟨wrap_i64 (by omega) (by omega), trivial⟩) (fun _ => ?_)
     try simp only [cAp, nAp, aNl]
     refine J_backx ⟨i3 + 1, _, _, _⟩ [4, 12, 16, 17] [] [0] [0, 1, 2] ?_ ?_ (by kernel_rfl) rfl rfl rfl
     ·exact ⟨by simp only; omega, by simp only; omega⟩
     ·simp only
      omega
    ·have e9 : (OUT.take i3.toNat).filter (fun z => decide (z.o.kind = kindOf OUT)) = (OUT.take (i3 + 1).toNat).filter fun z => decide (z.o.kind = kindOf OUT) := by
      rw [← take_snoc hi30 hz, List.filter_append]
      simp [hk0, hkk]
     try simp only [cAp, nAp, aNl]
     refine J_skip ?_
     refine J_seq ?_
     refine J_block ?_
     refine Sp mixed [zR 0, zR 1, .rd 2 [] 0 2, zR 3, zR 4, .rd 5 [.r 0 (some (nI z.o.kind))] 0 0, zR 6, .rd 7 [] 0 2, zR 8, zR 9, .rd 10 [.r 0 (some (nI z0.o.kind))] 0 0, .rd 11 [] 0 7] [] [4, 12, 16, 17, 155] (fun _ => [zS 4 none 0 0, zS 12 (sA b1 off1) OUT.length c2, zS 16 av3 k3 cv3, zI 17 i3, zB 155 false]) (fun _ => []) (fun _ => [(0 : Int) ≤ i3, i3 < (↑OUT.length : Int), cs1[off1 + i3.toNat * (11 : Nat) + (2 : Nat)]? = some (nI z.o.kind), (0 : Int) ≤ (0 : Int), (0 : Int) < (↑OUT.length : Int), cs1[off1 + (0 : Nat) * (11 : Nat) + (2 : Nat)]? = some (nI z0.o.kind), (z.o.kind == z0.o.kind) = false]) (fun _ => ⟨hi30, hlt5, hrd1_2, by omega, by omega, hrd2_2, by simp; omega, trivial⟩) (fun _ => ?_)
     refine cF ?_
     refine J_skip ?_
     refine J_eb ?_
     refine Gp mixed [zR 0, .rd 1 [] 0 1, zR 2] [] [4, 12, 16, 17] (fun _ => [zS 4 none 0 0, zS 12 (sA b1 off1) OUT.length c2, zS 16 av3 k3 cv3, zI 17 (i3 + 1)]) (fun _ => []) (fun _ => [IntKind.i64.wrap (i3 + (1 : Int)) = i3 + (1 : Int)]) (fun _ => ⟨wrap_i64 (by omega) (by omega), trivial⟩) (fun _ => ?_)
     rw [e9]
     refine J_backx ⟨i3 + 1, _, _, _⟩ [4, 12, 16, 17] [] [0] [0, 1, 2] ?_ ?_ (by kernel_rfl) rfl rfl rfl
     ·exact ⟨by simp only; omega, by simp only; omega⟩
     ·simp only
      omega
   ·have hil3 : OUT.take i3.toNat = OUT := List.take_of_length_le (by simp at hlt4; omega)
    rw [hil3]
    refine J_exit rfl ?_
    refine Sq mixed [zR 0, zR 1] [] [4] (fun _ => [zS 4 av3 k3 cv3]) (fun _ => []) (fun _ => ?_)
    refine J_return [[]] (.slice av3 k3 cv3) (by kernel_rfl) (fun a w s => ?_)
    exact ⟨_, _, _, (s.stp (stp_freeze 0 rfl)).ret (by simp) [] [3] rfl rfl⟩
end Go.Proofs.YtpjkiomccpjboaaGreatDoor
end
