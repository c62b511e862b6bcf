/- Part 4 of the texts of a claim: Tx11 Tx12 Tx13 Tx14 Dat MsgT Tk Msg. -/
import Derived.Laws.CopyRow
import Derived.Lib.ConvBytes
import Derived.Below
import Derived.Test.YtpjkiomccpjboaaGreatDoorProg
import Derived.Test.YtpjkiomccpjboaaGreatDoorTf3
section
namespace Go.Sx
open Go
theorem setRow_eq {w : World} {g : Nat} {cs cs' : Array Value} {e : TypeId} (hw : w.heap[g]? = some (.cells cs e (0, 0))) : w.setRow g cs' = { w with heap := w.heap.setIfInBounds g (.cells cs' e (0, 0)) } := by
 unfold World.setRow
 congr 1
 apply Array.ext_getElem?
 intro j
 rw [Array.getElem?_modify, Array.getElem?_setIfInBounds]
 by_cases hj : g = j
 ·subst hj
  have : g < w.heap.size := (Array.getElem?_eq_some_iff.1 hw).1
  simp only [if_true, hw, Option.map_some, this]
 ·simp [hj]
def seg (cur : Array Value) (o : Nat) (vs : List Value) : Array Value := (cur.toList.take o ++ vs ++ cur.toList.drop (o + vs.length)).toArray
def stOf (n : Nat) (ops : Array Oper) (E : Env) (i : Nat) : Option (Value × Value × TypeId × Option Tmp) :=
 match ops[i]? with
 | none => none
 | some o => if dstOk n o.dst then match o.guard with
  | some _ => none
  | none => match o.op with
   | .store t a x => match opsOk E none [a, x] with
    | some [] => some (rho E a, rho E x, t, o.dst)
    | _ => none
   | _ => none
  else none
section rows
variable {P : Program} {f : Func} {R : Act → World → Prop} {n : Nat} {k : List Itm} {E : Env} {h r : List (Nat × Obj)} {F : List (List Nat × World)} {Y : Ghost}
theorem stOf_sound {ops : Array Oper} {i : Nat} {av xv : Value} {t : TypeId} {dst : Option Tmp} (he : stOf n ops E i = some (av, xv, t, dst))
  {a : Act} {w : World} {fps : List (List Nat)} (s : StF n E h r F Y a w fps) {K : Act → World → Prop}
  (H : ∃ w', (Instr.storeAt t av xv).run P w = .ok () w' ∧ ∀ a', Ag n (E.put dst (.val undef)) a' → K a' w') : wpOp P ops (wpK P f R k) i K a w := by
 unfold stOf at he
 split at he
 ·cases he
 rename_i o ho
 split at he
 case isFalse => cases he
 rename_i hd
 split at he
 ·cases he
 rename_i hg
 split at he
 case h_2 => cases he
 rename_i t' m x hc
 split at he
 case h_2 => cases he
 rename_i hq
 simp only [Option.some.injEq, Prod.mk.injEq] at he
 obtain ⟨rfl, rfl, rfl, rfl⟩ := he
 have hev := opsOk_sound s.ag (fun c w h => by cases h) _ _ hq trivial
 have e1 : a.eval m = rho E m := hev m (by simp)
 have e2 : a.eval x = rho E x := hev x (by simp)
 obtain ⟨w', hrun, hk⟩ := H
 unfold wpOp
 simp only [ho]
 rw [if_pos (by simp [Region.wanted, hg])]
 refine .inl ?_
 unfold Oper.wp execOp
 simp only [hc, Sem.run_bind, Sem.run_pure, Result.andThen_ok, e1, e2, hrun]
 exact hk _ (s.ag.put hd (.val undef))
theorem JR_storerow {id L0 i : Nat} {ck : Bool} {Wp : List (Nat × List Nat)} {rest : List (Nat × Bool)} (p g o t e : Nat) (v : Value) (vs : List Value) (dst : Option Tmp) {cur : Array Value} {size : Nat}
  (he : stOf n (rgOf f id) E i = some (.pointer (some ⟨g, o, none⟩), v, t, dst)) (hok : (!ck || okW L0 (Wp.lookup i) [p]) = true) (hi : (P.info? t).map (·.size) = some size) (hvs : v.cells.size = size) (hv2 : v.cells.toList = vs)
  (hp : h[p]? = some (g, .cells cur e (0, 0))) (hl : o + size ≤ cur.size) (h1 : ∀ u ∈ vs, u.oneCell' = true)
  (A : JR P f R n (rgOf f id) L0 ck rest (Wp.filter (·.1 != i)) k (E.put dst (.val undef)) (h.set p (g, .cells (seg cur o vs) e (0, 0))) r F Y) :
  JR P f R n (rgOf f id) L0 ck ((i, false) :: rest) Wp k E h r F Y := by
 subst hv2
 intro BB Hd fps a w s hH hR hN hW
 simp only [PW]
 have hb : w.heap[g]? = some (.cells cur e (0, 0)) := s.own.own _ (List.mem_of_getElem? hp)
 obtain ⟨inf, hinf, hz⟩ := Option.map_eq_some_iff.1 hi
 have hrun := run_storeCells_at (P := P) g o e v.cells.toList 0 cur w hb (by simpa [hvs] using hl) h1
 rw [setRow_eq hb, Nat.add_zero] at hrun
 refine stOf_sound he s ⟨{ w with heap := w.heap.setIfInBounds g (.cells (seg cur o v.cells.toList) e (0, 0)) }, ?_, fun a' hA => JR_setmap hok hp s hH hR hN hW hA A⟩
 have hsure : (Instr.sureAddr (.pointer (some ⟨g, o, none⟩))).run P w = .ok ⟨g, o, none⟩ w := rfl
 have hst : (storeVar t ⟨g, o, none⟩ v).run P w = .ok () { w with heap := w.heap.setIfInBounds g (.cells (seg cur o v.cells.toList) e (0, 0)) } := by
  have hsz : (sizeOf t).run P w = .ok size w := by simp [sizeOf, typeInfo, hinf, hz, Result.andThen]
  simp only [storeVar, Sem.run_bind, hsz, Result.andThen_ok]
  rw [if_neg (by simp [hvs])]
  simpa [seg] using hrun
 simp only [Instr.storeAt, Sem.run_bind, hsure, Result.andThen_ok, hst]
end rows
theorem seg_len {cur : Array Value} {o : Nat} {vs : List Value} (h : o + vs.length ≤ cur.size) : (seg cur o vs).size = cur.size := by
 simp [seg]
 omega
theorem Row.cut {cur : Array Value} {cap n size : Nat} {xs : List Value} (h : Row cur cap n size xs) {i : Nat} (hi : i ≤ n) : Row cur cap i size (xs.take (i * size)) := by
 have hle : i * size ≤ n * size := Nat.mul_le_mul_right size hi
 refine ⟨?_, h.siz, Nat.le_trans hi h.le, h.max, ?_⟩
 ·rw [List.length_take, h.len]
  omega
 ·rw [← h.take, List.take_take]
  congr 1
  omega
theorem Row.turn {cur : Array Value} {cap n size : Nat} {xs vs : List Value} (h : Row cur cap n size xs) {i : Nat} (hi : i < n) (hv : vs.length = size) : Row (seg cur (i * size) vs) cap n size (xs.take (i * size) ++ vs ++ xs.drop (i * size + size)) := by
 have h1 : i * size + size ≤ n * size := by
  have := Nat.mul_le_mul_right size (Nat.succ_le_of_lt hi)
  rwa [Nat.succ_mul] at this
 have h2 : n * size ≤ cap * size := Nat.mul_le_mul_right size h.le
 have hs := h.siz
 refine ⟨?_, ?_, h.le, h.max, ?_⟩
 ·simp only [List.length_append, List.length_take, List.length_drop, h.len, hv]
  omega
 ·rw [seg_len (by omega)]
  exact hs
 ·rw [← h.take]
  apply List.ext_getElem?
  intro j
  simp only [seg, List.getElem?_take, List.getElem?_append, List.length_append, List.length_take, List.getElem?_drop, Array.length_toList, hv]
  by_cases hj : j < n * size
  ·rw [if_pos hj]
   have e1 : min (i * size) cur.size = i * size := by omega
   have e2 : min (i * size) (min (n * size) cur.size) = i * size := by omega
   rw [e1, e2]
   by_cases hj1 : j < i * size
   ·have e3 : j < i * size + size := by omega
    simp [hj1, hj, e3]
   ·by_cases hj2 : j < i * size + size
    ·simp [hj1, hj2]
    ·have hlt : i * size + size + (j - (i * size + size)) < n * size := by omega
     simp [hj2, hlt]
  ·rw [if_neg hj]
   have e2 : min (i * size) (min (n * size) cur.size) = i * size := by omega
   rw [e2]
   have hj1 : ¬ j < i * size + size := by omega
   have hj3 : ¬ i * size + size + (j - (i * size + size)) < n * size := by omega
   simp [hj1, hj3]
theorem Row.atx {cur : Array Value} {cap n size : Nat} {xs : List Value} (h : Row cur cap n size xs) {j : Nat} {u : Value} (hu : xs[j]? = some u) : cur[j]? = some u := by
 have hj := (List.getElem?_eq_some_iff.1 hu).1
 rw [h.len] at hj
 rw [h.at hj, hu]
theorem Row.set1 {cur : Array Value} {cap n size : Nat} {xs : List Value} (h : Row cur cap n size xs) (o : Nat) (v : Value) : Row (cur.setIfInBounds o v) cap n size (xs.set o v) :=
 ⟨by rw [List.length_set, h.len], by rw [Array.size_setIfInBounds, h.siz], h.le, h.max, by rw [Array.toList_setIfInBounds, List.take_set, h.take]⟩
def cRows (xs : List Value) (k : Nat) (rows : List (List D)) : Chunk where
 P w S fp := fp = [] ∧ RowsAt w S xs k rows
 mono := by
  intro w w' S S' fp h _ hS
  exact ⟨h.1, h.2.mono hS⟩
section more0
variable {P : Program} {f : Func} {R : Act → World → Prop} {n : Nat} {kk : List Itm} {E : Env} {h r : List (Nat × Obj)} {F : List (List Nat × World)} {Y : Ghost}
theorem StF.hide1 {a : Act} {w : World} {fps : List (List Nat)} (s : StF n E h r F Y a w fps) (p : Nat) {b : Nat} {o : Obj} (hp : h[p]? = some (b, o)) : StF n E (h.eraseIdx p) r F ⟨Y.S, Y.C ++ [cObj b o], Y.G⟩ a w (fps ++ [[b]]) := by
 have hm : ∀ x ∈ h.eraseIdx p, x ∈ h := fun x hx => (List.eraseIdx_sublist h p).subset hx
 have hid : ∀ c, c ∈ (h.eraseIdx p).map (·.1) → c ∈ h.map (·.1) := fun c hc => by
  obtain ⟨x, hx, rfl⟩ := List.mem_map.1 hc
  exact List.mem_map.2 ⟨x, hm x hx, rfl⟩
 have hnot : b ∉ (h.eraseIdx p).map (·.1) := fun hc => by
  obtain ⟨x, hx, hxb⟩ := List.mem_map.1 hc
  obtain ⟨j, hj, he⟩ := List.mem_eraseIdx_iff_getElem?.1 hx
  have h1 : (h.map (·.1))[j]? = some b := by simp [he, hxb]
  have h2 : (h.map (·.1))[p]? = some b := by simp [hp]
  exact hj ((List.getElem?_inj (List.getElem?_eq_some_iff.1 h1).1 s.own.nodup).1 (h1.trans h2.symm))
 have hbm : (b, o) ∈ h := List.mem_of_getElem? hp
 have e : (fps ++ [[b]]).flatten = fps.flatten ++ [b] := by simp
 have hS : ∀ c, Sd Y h fps c → Sd Y (h.eraseIdx p) (fps ++ [[b]]) c := fun c hc => ⟨hc.1, fun hx => hc.2.1 (hid c hx), fun hx => by
  rw [e] at hx
  rcases List.mem_append.1 hx with hx | hx
  ·exact hc.2.2 hx
  ·rw [List.mem_singleton] at hx
   subst hx
   exact hc.2.1 (List.mem_map.2 ⟨_, hbm, rfl⟩)⟩
 have hin : ∀ c, c ∈ (fps ++ [[b]]).flatten → c ∈ fps.flatten ∨ c = b := fun c hc => by
  rw [e] at hc
  simpa using hc
 refine ⟨s.ag, ⟨fun x hx => s.own.own x (hm x hx), ((List.eraseIdx_sublist h p).map _).nodup s.own.nodup, s.own.ro, fun x hx hc => s.own.apart x hx (hid _ hc)⟩, s.fr, fun f hf x hx => s.may f hf x (hm x hx),
  ⟨(s.gh.chs.mono (fun _ _ => rfl) fun c hc _ => ⟨hS c hc, rfl⟩).app ⟨⟨rfl, s.own.own _ hbm⟩, trivial⟩, ?_, fun c hc hx => ?_, fun x hx hc => ?_, fun f hf c hc => ?_, fun c hc => ?_, fun x hx => s.gh.own x (hm x hx), fun c hc => ?_, s.gh.top, fun x hx => (s.gh.g x hx).mono fun c hc _ => ⟨hS c hc, rfl⟩⟩⟩
 ·rw [e, List.nodup_append]
  refine ⟨s.gh.nodup, by simp, fun x hx y hy hxy => ?_⟩
  simp at hy
  subst hy hxy
  exact s.gh.disj _ hx (List.mem_map.2 ⟨_, hbm, rfl⟩)
 ·rcases hin c hc with h1 | rfl
  ·exact s.gh.disj c h1 (hid c hx)
  ·exact hnot hx
 ·rcases hin _ hc with h1 | h1
  ·exact s.gh.apart x hx h1
  ·exact s.own.apart x hx (List.mem_map.2 ⟨_, hbm, h1.symm⟩)
 ·rcases hin c hc with h1 | rfl
  ·exact s.gh.may f hf c h1
  ·exact s.may f hf _ hbm
 ·rcases hin c hc with h1 | rfl
  ·exact s.gh.lt c h1
  ·exact s.own.own.lt hbm
 ·rcases hin c hc with h1 | rfl
  ·exact s.gh.hid c h1
  ·exact s.gh.own _ hbm
end more0
section more
variable {P : Program} {f : Func} {R : Act → World → Prop} {n : Nat} {kk : List Itm} {E : Env} {h r : List (Nat × Obj)} {F : List (List Nat × World)}
def accParts (a : Option Addr) (m c e k : Nat) (rows : List (List D)) (x : Nat × Array Value × List Value) : Chunk := cStar [cPure (a = some ⟨x.1, 0, none⟩ ∧ m = rows.length ∧ 0 < k ∧ Row x.2.1 c rows.length k x.2.2), cObj x.1 (.cells x.2.1 e (0, 0)), cRows x.2.2 k rows]
theorem J_openacc {S0 : Nat → Prop} {C0 : List Chunk} {G0 : List (Value × D)} (q : Nat) {a : Option Addr} {m c e k : Nat} {rows : List (List D)} (hq : C0[q]? = some (cAcc (.slice a m c) e k rows)) (hne : rows ≠ [])
  (H : ∀ g cur xs, a = some ⟨g, 0, none⟩ → m = rows.length → 0 < k → Row cur c rows.length k xs → J P f R n kk E (h ++ [(g, .cells cur e (0, 0))]) r F ⟨S0, C0.eraseIdx q ++ [cRows xs k rows], G0⟩) : J P f R n kk E h r F ⟨S0, C0, G0⟩ := by
 have hv : (cAcc (.slice a m c) e k rows).eqv (cExi (accParts a m c e k rows)) := by
  intro w S fp ⟨hk, hP⟩
  rcases hP with ⟨h1, _⟩ | ⟨g, cap, cur, xs, h1, rfl, h3, h4, h5⟩
  ·exact absurd h1 hne
  ·cases h1
   have hch : Chs w S [cPure (some (⟨g, 0, none⟩ : Addr) = some ⟨g, 0, none⟩ ∧ rows.length = rows.length ∧ 0 < k ∧ Row cur c rows.length k xs), cObj g (.cells cur e (0, 0)), cRows xs k rows] [[], [g], []] := ⟨⟨rfl, rfl, rfl, hk, h4⟩, ⟨rfl, h3⟩, ⟨rfl, h5⟩, trivial⟩
   exact ⟨(g, cur, xs), [[], [g], []], by simp, hch⟩
 refine J_stp (stp_conv q hq hv) ?_
 have hql := (List.getElem?_eq_some_iff.1 hq).1
 refine J_stpx (stp_exi (g := accParts a m c e k rows) q (by rw [List.getElem?_set_self hql])) fun x _ => ?_
 obtain ⟨g, cur, xs⟩ := x
 rw [List.set_set]
 refine J_stp (stp_star (cs := [cPure (a = some ⟨g, 0, none⟩ ∧ m = rows.length ∧ 0 < k ∧ Row cur c rows.length k xs), cObj g (.cells cur e (0, 0)), cRows xs k rows]) q (by rw [List.getElem?_set_self hql]; rfl)) ?_
 have e0 : ∀ y : Chunk, (C0.set q y).eraseIdx q = C0.eraseIdx q := fun y => by
  apply List.ext_getElem?
  intro j
  rw [List.getElem?_eraseIdx, List.getElem?_eraseIdx]
  split
  ·rw [List.getElem?_set_ne (by omega)]
  ·rw [List.getElem?_set_ne (by omega)]
 rw [e0]
 have hl : (C0.eraseIdx q).length = C0.length - 1 := by rw [List.length_eraseIdx, if_pos hql]
 refine J_stpx (stp_pure (p := a = some ⟨g, 0, none⟩ ∧ m = rows.length ∧ 0 < k ∧ Row cur c rows.length k xs) (C0.eraseIdx q).length (by rw [List.getElem?_append_right (Nat.le_refl _), Nat.sub_self]; rfl)) fun _ hp => ?_
 rw [List.eraseIdx_append_of_length_le (Nat.le_refl _)]
 simp only [Nat.sub_self, List.eraseIdx_cons_zero]
 refine J_show (b := g) (o := .cells cur e (0, 0)) (C0.eraseIdx q).length (by rw [List.getElem?_append_right (Nat.le_refl _), Nat.sub_self]; rfl) ?_
 rw [List.eraseIdx_append_of_length_le (Nat.le_refl _)]
 simp only [Nat.sub_self, List.eraseIdx_cons_zero]
 exact H g cur xs hp.1 hp.2.1 hp.2.2.1 hp.2.2.2
theorem stp_readrows {S0 : Nat → Prop} {C0 : List Chunk} {G0 : List (Value × D)} (q : Nat) {xs : List Value} {k : Nat} {rows : List (List D)} (hq : C0[q]? = some (cRows xs k rows)) (i : Nat) {row : List D} (hrow : rows[i]? = some row) :
  Stp h r F ⟨S0, C0, G0⟩ (fun ls : List (Option Addr × Nat) => ls.length = sls row ∧ ∀ (j : Nat) u, (inst row ls)[j]? = some u → xs[i * k + j]? = some u) fun ls => ⟨S0, C0, G0 ++ deep row ls⟩ := by
 intro w fps hO H
 obtain ⟨fp, hfp, _, hP⟩ := H.chs.at hq
 have hu : ∀ j d, row[j]? = some d → ∃ u, xs[i * k + j]? = some u ∧ Rep w (Sd ⟨S0, C0, G0⟩ h fps) u d := fun j d hd => hP.rep i j row d hrow hd
 obtain ⟨ls, h1, h2, h3⟩ := inst_ex row (fun j => xs.getD (i * k + j) undef) fun j d hd => by
  obtain ⟨u, hu1, hu2⟩ := hu j d hd
  simpa [List.getD_eq_getElem?_getD, hu1] using hu2
 refine ⟨ls, fps, ⟨h1, fun j u hj => ?_⟩, fun _ hb => hb, H.less (fun _ hb => hb) H.nodup H.chs fun x hx => ?_⟩
 ·have hjl : j < row.length := by
   have := (List.getElem?_eq_some_iff.1 hj).1
   rwa [inst_len] at this
  obtain ⟨u', hu1, _⟩ := hu j _ (List.getElem?_eq_getElem hjl)
  have := h2 j u hj
  rw [this]
  simp [List.getD_eq_getElem?_getD, hu1]
 ·rcases List.mem_append.1 hx with hx | hx
  ·exact H.g x hx
  ·exact h3 x hx
theorem RowsAt.set {w : World} {S : Nat → Prop} {xs : List Value} {k : Nat} {rows : List (List D)} (h : RowsAt w S xs k rows) (hl : xs.length = rows.length * k) {i j : Nat} {row : List D} {v : Value} {d : D} (hrow : rows[i]? = some row) (hj : j < k) (hv : Rep w S v d) :
  RowsAt w S (xs.set (i * k + j) v) k (rows.set i (row.set j d)) := by
 have hil := (List.getElem?_eq_some_iff.1 hrow).1
 refine ⟨fun row' hr => ?_, fun i' j' row' d' hi' hj' => ?_⟩
 ·rcases List.mem_or_eq_of_mem_set hr with hr | rfl
  ·exact h.len row' hr
  ·rw [List.length_set]
   exact h.len row (List.mem_of_getElem? hrow)
 ·by_cases hii : i = i'
  ·subst hii
   rw [List.getElem?_set_self hil] at hi'
   cases hi'
   by_cases hjj : j = j'
   ·subst hjj
    have hjl := (List.getElem?_eq_some_iff.1 hj').1
    rw [List.length_set] at hjl
    rw [List.getElem?_set_self hjl] at hj'
    cases hj'
    exact ⟨v, by rw [List.getElem?_set_self (by rw [hl]; exact idx_lt hil hj)], hv⟩
   ·rw [List.getElem?_set_ne hjj] at hj'
    obtain ⟨u, h1, h2⟩ := h.rep i j' row d' hrow hj'
    exact ⟨u, by rw [List.getElem?_set_ne (by omega)]; exact h1, h2⟩
  ·rw [List.getElem?_set_ne hii] at hi'
   obtain ⟨u, h1, h2⟩ := h.rep i' j' row' d' hi' hj'
   have hjl : j' < k := by
    rw [← h.len row' (List.mem_of_getElem? hi')]
    exact (List.getElem?_eq_some_iff.1 hj').1
   refine ⟨u, ?_, h2⟩
   rw [List.getElem?_set_ne ?_]
   ·exact h1
   ·intro he
    rcases Nat.lt_or_gt_of_ne hii with h3 | h3
    ·have := Nat.mul_le_mul_right k (Nat.succ_le_of_lt h3)
     rw [Nat.succ_mul] at this
     omega
    ·have := Nat.mul_le_mul_right k (Nat.succ_le_of_lt h3)
     rw [Nat.succ_mul] at this
     omega
theorem stp_setrows {S0 : Nat → Prop} {C0 : List Chunk} {G0 : List (Value × D)} (q p i j : Nat) {xs : List Value} {k : Nat} {rows : List (List D)} {row : List D} {v : Value} {d : D} (hq : C0[q]? = some (cRows xs k rows)) (hl : xs.length = rows.length * k) (hrow : rows[i]? = some row) (hj : j < k) (hp : G0[p]? = some (v, d)) :
  Stp h r F ⟨S0, C0, G0⟩ (fun _ : Unit => True) fun _ => ⟨S0, C0.set q (cRows (xs.set (i * k + j) v) k (rows.set i (row.set j d))), G0⟩ := by
 intro w fps hO H
 obtain ⟨fp, hfp, hnil, hP⟩ := H.chs.at hq
 have hc : (cRows (xs.set (i * k + j) v) k (rows.set i (row.set j d))).P w (Sd ⟨S0, C0, G0⟩ h fps) fp := ⟨hnil, hP.set hl hrow hj (H.g _ (List.mem_of_getElem? hp))⟩
 have hs := H.chs.set hc (i := q)
 have e : fps.set q fp = fps := set_same hfp
 rw [e] at hs
 exact ⟨(), fps, trivial, fun _ hb => hb, H.less (fun _ hb => hb) H.nodup hs H.g⟩
theorem stp_closeacc {S0 : Nat → Prop} {C0 : List Chunk} {G0 : List (Value × D)} (q1 q2 : Nat) {g c e k : Nat} {cur : Array Value} {xs : List Value} {rows : List (List D)} (h1 : C0[q1]? = some (cObj g (.cells cur e (0, 0)))) (h2 : C0[q2]? = some (cRows xs k rows)) (hrow : Row cur c rows.length k xs) (hk : 0 < k) :
  Stp h r F ⟨S0, C0, G0⟩ (fun _ : Unit => True) fun _ => ⟨S0, pick C0 (others C0.length [q1, q2]) ++ [cAcc (.slice (some ⟨g, 0, none⟩) rows.length c) e k rows], G0⟩ := by
 intro w fps hO H
 obtain ⟨fp1, hf1, rfl, hb⟩ := H.chs.at h1
 obtain ⟨fp2, hf2, rfl, hR⟩ := H.chs.at h2
 have hlen := H.chs.len
 have hq1 : q1 < C0.length := (List.getElem?_eq_some_iff.1 h1).1
 have hnd : (others C0.length [q1, q2] ++ [q1]).Nodup := by
  rw [List.nodup_append]
  refine ⟨List.Nodup.sublist List.filter_sublist List.nodup_range, by simp, fun x hx y hy hxy => ?_⟩
  simp only [List.mem_singleton] at hy
  subst hy hxy
  simp [others] at hx
 have hE : pick fps (others C0.length [q1, q2]) ++ [[g]] = pick fps (others C0.length [q1, q2] ++ [q1]) := by
  rw [pick_app]
  simp [pick, hf1]
 have hsub : ∀ b ∈ (pick fps (others C0.length [q1, q2]) ++ [[g]]).flatten, b ∈ fps.flatten := fun b hb => by
  rw [hE] at hb
  exact pick_flat_sub hb
 have hS : ∀ b, Sd ⟨S0, C0, G0⟩ h fps b → Sd ⟨S0, C0, G0⟩ h (pick fps (others C0.length [q1, q2]) ++ [[g]]) b := fun b hb => Sd_sub hsub hb
 refine ⟨(), _, trivial, hsub, H.less hsub (by rw [hE]; exact pick_flat_nodup H.nodup hnd) ?_ fun x hx => (H.g x hx).mono fun b hb _ => ⟨hS b hb, rfl⟩⟩
 have hc : (cAcc (.slice (some ⟨g, 0, none⟩) rows.length c) e k rows).P w (Sd ⟨S0, C0, G0⟩ h (pick fps (others C0.length [q1, q2]) ++ [[g]])) [g] := ⟨hk, .inr ⟨g, c, cur, xs, rfl, rfl, hb, hrow, hR.mono fun b hb _ => ⟨hS b hb, rfl⟩⟩⟩
 exact ((H.chs.pick _).mono (fun _ _ => rfl) fun b hb _ => ⟨hS b hb, rfl⟩).app (show Chs w _ [_] [[g]] from ⟨hc, trivial⟩)
theorem accz_eqv (b e k : Nat) (hk : 0 < k) : (cObj b (.cells #[] e (0, 0))).eqv (cAcc (.slice (some ⟨b, 0, none⟩) 0 0) e k []) := fun w S fp h =>
 ⟨hk, .inr ⟨b, 0, #[], [], rfl, h.1, h.2, ⟨by simp, by simp, Nat.le_refl _, Nat.zero_le _, by simp⟩, RowsAt.nil _ _ _ _⟩⟩
theorem JR_accz {S0 : Nat → Prop} {C0 : List Chunk} {G0 : List (Value × D)} {ops : Array Oper} {L0 : Nat} {ck : Bool} {plan : List (Nat × Bool)} {Wp : List (Nat × List Nat)} (p k : Nat) {b e : Nat} (hp : h[p]? = some (b, .cells #[] e (0, 0))) (hL : Nat.ble L0 p = true) (hk : 0 < k)
  (H : JR P f R n ops L0 ck plan Wp kk E (h.eraseIdx p) r F ⟨S0, C0 ++ [cAcc (.slice (some ⟨b, 0, none⟩) 0 0) e k []], G0⟩) : JR P f R n ops L0 ck plan Wp kk E h r F ⟨S0, C0, G0⟩ := by
 have H2 : JR P f R n ops L0 ck plan Wp kk E (h.eraseIdx p) r F ⟨S0, C0 ++ [cObj b (.cells #[] e (0, 0))], G0⟩ := by
  refine JR_stp (stp_conv C0.length (by simp) (accz_eqv b e k hk)) ?_
  simpa using H
 intro B Hd fps a w s hH hR2 hN hW
 have hLp := Nat.le_of_ble_eq_true hL
 have hpl := (List.getElem?_eq_some_iff.1 hp).1
 have hsame : ∀ i : Nat, i < L0 → (h.eraseIdx p)[i]? = h[i]? := fun i hi => by rw [List.getElem?_eraseIdx]; simp [show i < p by omega]
 have hids : idsW Hd (h.eraseIdx p) Wp = idsW Hd h Wp := by
  unfold idsW
  refine List.map_congr_left fun y hy => ?_
  congr 2
  have h1 := List.all_eq_true.1 hW y hy
  exact filterMap_same _ _ _ fun q hq => by rw [hsame q (blt_lt (List.all_eq_true.1 h1 q hq))]
 have := H2 B Hd _ a w (s.hide1 p hp) (fun c hc => by
  rw [List.flatten_append] at hc
  rcases List.mem_append.1 hc with hc | hc
  ·exact hH c hc
  ·simp only [List.flatten_cons, List.flatten_nil, List.append_nil, List.mem_singleton] at hc
   subst hc
   exact .inr (hN p hLp _ hp)) ⟨fun i hi x hx => hR2.old i hi x (by rw [← hsame i hi]; exact hx), hR2.ro, by rw [List.length_eraseIdx]; simp only [hpl, if_true]; have := hR2.len; omega, hR2.size⟩ (fun j hj x hx => by
  rw [List.getElem?_eraseIdx] at hx
  split at hx
  ·exact hN j hj x hx
  ·exact hN (j + 1) (by omega) x hx) hW
 rwa [hids] at this
theorem JR_acczm {β : Type} (enc : β → List D) {S0 : Nat → Prop} {C0 : List Chunk} {G0 : List (Value × D)} {ops : Array Oper} {L0 : Nat} {ck : Bool} {plan : List (Nat × Bool)} {Wp : List (Nat × List Nat)} (p k : Nat) {b e : Nat} (hp : h[p]? = some (b, .cells #[] e (0, 0))) (hL : Nat.ble L0 p = true) (hk : 0 < k)
  (H : JR P f R n ops L0 ck plan Wp kk E (h.eraseIdx p) r F ⟨S0, C0 ++ [cAcc (.slice (some ⟨b, 0, none⟩) 0 0) e k (([] : List β).map enc)], G0⟩) : JR P f R n ops L0 ck plan Wp kk E h r F ⟨S0, C0, G0⟩ := JR_accz p k hp hL hk H
end more
end Go.Sx
end
section
namespace Go.Sx
open Go Go.MapKept
def KeptP (w : World) (S : Nat → Prop) (g : Value → Option Value) (K : Value → Option (List D)) : Prop :=
 (∀ key, K key = none → g key = none) ∧ ∀ key row, K key = some row → ∃ us : List Value, g key = some (.agg us.toArray) ∧ us.length = row.length ∧ ∀ (j : Nat) d, row[j]? = some d → ∃ u, us[j]? = some u ∧ Rep w S u d
theorem KeptP.mono {w w' : World} {S S' : Nat → Prop} {g : Value → Option Value} {K : Value → Option (List D)} (h : KeptP w S g K) (hS : ∀ b, S b → b < w.heap.size → S' b ∧ w'.heap[b]? = w.heap[b]?) : KeptP w' S' g K :=
 ⟨h.1, fun key row hr => by
  obtain ⟨us, h1, h2, h3⟩ := h.2 key row hr
  exact ⟨us, h1, h2, fun j d hd => by
   obtain ⟨u, h4, h5⟩ := h3 j d hd
   exact ⟨u, h4, h5.mono hS⟩⟩⟩
end Go.Sx
end
section
namespace Go.Sx
open Go
abbrev eB (b : UInt8) : List D := [.v (.int .u8 b.toNat)]
abbrev dBytes (s : ByteArray) : D := .sl 1 (s.data.toList.map eB)
def cvOf (n : Nat) (ops : Array Oper) (E : Env) (i : Nat) : Option (TypeId × TypeId × Value × Option Tmp × List Ob) :=
 match ops[i]? with
 | none => none
 | some o => if dstOk n o.dst && !isSel o.op then match (match o.guard with
   | none => some (none, [])
   | some (j, want) => (guardOf E ops j).map fun c => (some (c, want), [.bb c want])) with
  | none => none
  | some (cd, g) => match opsOk E cd o.op.operands.toList with
   | none => none
   | some q => match o.op with
    | .convert src dt x => some (src, dt, rho E x, o.dst, g ++ q)
    | _ => none
  else none
def chkCv (x : Option (TypeId × TypeId × Value × Option Tmp × List Ob)) : Option (TypeId × TypeId × Value × Option Tmp) × (List Nat × List Bool × List (Option Nat)) × Nat := match x with
 | some y => (some (y.1, y.2.1, y.2.2.1, y.2.2.2.1), obL y.2.2.2.2, (obP y.2.2.2.2).length)
 | none => (none, ([], [], []), 0)
def trivCv (x : Option (TypeId × TypeId × Value × Option Tmp × List Ob)) : List Nat × List Bool × List (Option Nat) := match x with
 | some y => obR y.2.2.2.2
 | none => ([], [], [])
theorem chkCv_sound {x : Option (TypeId × TypeId × Value × Option Tmp × List Ob)} {src dt : TypeId} {v : Value} {dst : Option Tmp} (h : chkCv x = (some (src, dt, v, dst), trivCv x, 0)) : ∃ p, x = some (src, dt, v, dst, p) ∧ All p := by
 cases x with
 | none => simp [chkCv] at h
 | some y =>
  obtain ⟨a, b, c, d, p⟩ := y
  simp only [chkCv, trivCv, Prod.mk.injEq, Option.some.injEq] at h
  obtain ⟨⟨rfl, rfl, rfl, rfl⟩, h2, h3⟩ := h
  refine ⟨p, rfl, All_of p h2 ?_⟩
  rw [List.eq_nil_of_length_eq_zero h3]
  trivial
section
variable {P : Program} {f : Func} {R : Act → World → Prop} {n : Nat} {k : List Itm} {E : Env} {h r : List (Nat × Obj)} {F : List (List Nat × World)} {Y : Ghost}
theorem cvOf_sound {ops : Array Oper} {i : Nat} {src dt : TypeId} {xv : Value} {dst : Option Tmp} {p : List Ob} (he : cvOf n ops E i = some (src, dt, xv, dst, p)) (hp : All p)
  {a : Act} {w : World} {fps : List (List Nat)} (s : StF n E h r F Y a w fps) {K : Act → World → Prop} {Q : Exit → Act → World → Prop}
  (H : ∃ v' w', (convert src dt xv).run P w = .ok v' w' ∧ ∀ a', Ag n (E.put dst (.val v')) a' → K a' w') : wpOp P ops Q i K a w := by
 unfold cvOf at he
 split at he
 ·cases he
 rename_i o ho
 split at he
 case isFalse => cases he
 rename_i hd
 simp only [Bool.and_eq_true, Bool.not_eq_true'] at hd
 split at he
 ·cases he
 rename_i cd g hg
 split at he
 ·cases he
 rename_i q hq
 split at he
 case h_2 => cases he
 rename_i src' dt' x hc
 simp only [Option.some.injEq, Prod.mk.injEq] at he
 obtain ⟨rfl, rfl, rfl, rfl, rfl⟩ := he
 obtain ⟨hg1, hq1⟩ := All_append hp
 have hwant : Region.wanted o (yielded ops a.tmps) = true ∧ ∀ c wn, cd = some (c, wn) → c = wn := by
  cases hgd : o.guard with
  | none =>
   rw [hgd] at hg
   simp only [Option.some.injEq, Prod.mk.injEq] at hg
   refine ⟨by simp [Region.wanted, hgd], fun c wn h => ?_⟩
   rw [← hg.1] at h
   cases h
  | some y =>
   obtain ⟨j, want⟩ := y
   rw [hgd] at hg
   obtain ⟨c, hc, hcg⟩ := Option.map_eq_some_iff.1 hg
   simp only [Prod.mk.injEq] at hcg
   obtain ⟨rfl, rfl⟩ := hcg
   have hy := guardOf_sound s.ag hc
   have hcw : c = want := hg1.1
   refine ⟨by simp [Region.wanted, hgd, hy, hcw], fun c' wn h => ?_⟩
   injection h with h
   injection h with h1 h2
   rw [← h1, ← h2]
   exact hcw
 unfold wpOp
 simp only [ho]
 rw [if_pos hwant.1]
 refine .inl ?_
 obtain ⟨v', w', hrun, hk⟩ := H
 unfold Oper.wp
 have hcongr : execOp a.eval o = execOp (rho E) o := execOp_congr o (fun cs b hc => by have := hd.2; rw [hc] at this; cases this) (fun x hx => opsOk_sound s.ag hwant.2 _ _ hq hq1 x (by simpa using hx))
 rw [hcongr]
 unfold execOp
 simp only [hc, Sem.run_bind, hrun, Result.andThen_ok, Sem.run_pure]
 exact hk _ (s.ag.put hd.1 (.val v'))
theorem JR_bytes0 {id L0 i : Nat} {ck : Bool} {Wp : List (Nat × List Nat)} {rest : List (Nat × Bool)} (src dt e : TypeId) (s : ByteArray) (dst : Option Tmp)
  (he : chkCv (cvOf n (rgOf f id) E i) = (some (src, dt, .string s, dst), trivCv (cvOf n (rgOf f id) E i), 0)) (hs : P.underlying src = some .string) (hd : P.underlying dt = some (.slice e)) (hb : P.underlying e = some (.int .u8))
  (A : ∀ g c, JR P f R n (rgOf f id) L0 ck rest (Wp.filter (·.1 != i)) k (E.put dst (.val (.slice (some ⟨g, 0, none⟩) s.size c))) h r F ⟨Y.S, Y.C ++ [], Y.G ++ [(.slice (some ⟨g, 0, none⟩) s.size c, dBytes s)]⟩) :
  JR P f R n (rgOf f id) L0 ck ((i, false) :: rest) Wp k E h r F Y := by
 obtain ⟨p, he, hp⟩ := chkCv_sound he
 intro B Hd fps a w st hH hR hN hW
 simp only [PW]
 have hold : ∀ b, b < w.heap.size → (Lib.bytesWorld w e s).heap[b]? = w.heap[b]? := fun b hlt => Lib.bytesWorld_at_old w e s b hlt
 have hf : Fr [] w (Lib.bytesWorld w e s) := ⟨rfl, rfl, rfl, by rw [Lib.bytesWorld_size]; omega, fun b hlt _ => hold b hlt, Nat.le_succ _⟩
 have hnew := Lib.bytesWorld_at_new w e s
 have hlen : (s.data.toList.map eB).length = s.size := by simp
 have hcap : s.size ≤ grownCap w s.size 0 e := grownCap_ge _ _ _ _
 have hrep : Rep (Lib.bytesWorld w e s) (retS (Sd Y h fps) [] w []) (.slice (some ⟨w.heap.size, 0, none⟩) s.size (grownCap w s.size 0 e)) (dBytes s) := by
  have := Rep.sl (w := Lib.bytesWorld w e s) (S := retS (Sd Y h fps) [] w []) (off := 0) (cap := grownCap w s.size 0 e) (k := 1) (rows := s.data.toList.map eB) (fun i _ => .int .u8 (s.data.toList.getD i 0).toNat) hnew ⟨.inr (.inr (Nat.le_refl _)), by simp⟩ (by rw [hlen]; exact hcap) (by decide) (by intro row hr; obtain ⟨x, _, rfl⟩ := List.mem_map.1 hr; rfl) (fun i j hi hj => ?_) (fun i j row d hi hj => ?_)
  ·rwa [hlen] at this
  ·obtain rfl : j = 0 := by omega
   rw [hlen] at hi
   have h1 : i < s.data.toList.length := by simpa using hi
   have h2 : i < s.data.size := by simpa using hi
   simp [Lib.bytesCells, Array.getElem?_append, hi, h2, List.getD_eq_getElem?_getD]
  ·rw [List.getElem?_map] at hi
   obtain ⟨x, hx, rfl⟩ := Option.map_eq_some_iff.1 hi
   match j, hj with
   | 0, hj =>
    simp only [List.getElem?_cons_zero, Option.some.injEq] at hj
    subst hj
    rw [List.getD_eq_getElem?_getD, hx]
    exact .v rfl
   | j + 1, hj => simp at hj
 have hRet : Ret (pick fps []).flatten w (Sd Y h fps) (Lib.bytesWorld w e s) (.returned (.slice (some ⟨w.heap.size, 0, none⟩) s.size (grownCap w s.size 0 e))) (.slice (some ⟨w.heap.size, 0, none⟩) s.size (grownCap w s.size 0 e)) [] [(.slice (some ⟨w.heap.size, 0, none⟩) s.size (grownCap w s.size 0 e), dBytes s)] :=
  ⟨rfl, hf, [], trivial, by simp, by simp, fun x hx => by rw [List.mem_singleton] at hx; subst hx; exact hrep⟩
 refine cvOf_sound he hp st ⟨_, _, Lib.run_convert_string_bytes w src dt e s hs hd hb, fun a2 hA => ⟨fun hck b hb2 hl => hold b hb2, ?_⟩⟩
 rw [filter_idsW]
 obtain ⟨fps', h3, s'⟩ := st.called (cs := []) hA hRet
 have hpk : pick Y.C (others Y.C.length []) = Y.C := by
  have h1 : others Y.C.length [] = List.range Y.C.length := by simp [others]
  rw [h1, pick_all]
 rw [hpk] at s'
 refine A w.heap.size (grownCap w s.size 0 e) B Hd _ a2 _ s' (fun b hb => ?_) ⟨hR.old, hR.ro, hR.len, Nat.le_trans hR.size hf.size⟩ hN (okWp_filter hW)
 rw [List.flatten_append] at hb
 rcases List.mem_append.1 hb with hb | hb
 ·exact hH b (pick_flat_sub hb)
 ·rcases h3 b hb with h1 | h1
  ·exact hH b (pick_flat_sub h1)
  ·exact .inr (Nat.le_trans hR.size h1)
theorem JR_bytes {S0 : Nat → Prop} {C0 : List Chunk} {G0 : List (Value × D)} {id L0 i : Nat} {ck : Bool} {Wp : List (Nat × List Nat)} {rest : List (Nat × Bool)} (src dt e : TypeId) (s : ByteArray) (dst : Option Tmp)
  (he : chkCv (cvOf n (rgOf f id) E i) = (some (src, dt, .string s, dst), trivCv (cvOf n (rgOf f id) E i), 0)) (hs : P.underlying src = some .string) (hd : P.underlying dt = some (.slice e)) (hb : P.underlying e = some (.int .u8))
  (A : ∀ g c, JR P f R n (rgOf f id) L0 ck rest (Wp.filter (·.1 != i)) k (E.put dst (.val (.slice (some ⟨g, 0, none⟩) s.size c))) h r F ⟨S0, C0, G0 ++ [(.slice (some ⟨g, 0, none⟩) s.size c, dBytes s)]⟩) :
  JR P f R n (rgOf f id) L0 ck ((i, false) :: rest) Wp k E h r F ⟨S0, C0, G0⟩ := JR_bytes0 (Y := ⟨S0, C0, G0⟩) src dt e s dst he hs hd hb fun g c => by
 have := A g c
 simpa using this
end
end Go.Sx
end
section
namespace Go.Sx
open Go
def clOf (n : Nat) (ops : Array Oper) (E : Env) (i : Nat) : Option (Value × TypeId × Option Tmp) :=
 match ops[i]? with
 | none => none
 | some o => if dstOk n o.dst then match o.guard with
  | some _ => none
  | none => match o.op with
   | .call c => match c.callee with
    | .builtin .clear => match opsOk E none c.args.toList with
     | some [] => match c.args.toList, c.argTypes.toList with
      | [s], [t] => some (rho E s, t, o.dst)
      | _, _ => none
     | _ => none
    | _ => none
   | _ => none
  else none
section rows
variable {P : Program} {f : Func} {R : Act → World → Prop} {n : Nat} {k : List Itm} {E : Env} {h r : List (Nat × Obj)} {F : List (List Nat × World)} {Y : Ghost}
theorem zc_size (z : Array Value) (n : Nat) : (Builtin.zeroCells z n).size = n * z.size := by simp [Builtin.zeroCells]
theorem zc_one {z : Array Value} (hz : ∀ u ∈ z.toList, u.oneCell' = true) (m : Nat) : ∀ u ∈ (Builtin.zeroCells z m).toList, u.oneCell' = true := by
 intro u hu
 unfold Builtin.zeroCells at hu
 simp only [Array.toList_map, List.mem_map] at hu
 obtain ⟨i, hi, rfl⟩ := hu
 have hi2 : i < m * z.size := by simpa using hi
 have hpos : 0 < z.size := Nat.pos_of_ne_zero fun h => by rw [h] at hi2; simp at hi2
 have hlt := Nat.mod_lt i hpos
 rw [getElem!_pos z _ hlt]
 exact hz _ (by simp)
theorem clOf_sound {ops : Array Oper} {i : Nat} {mv : Value} {t : TypeId} {dst : Option Tmp} (he : clOf n ops E i = some (mv, t, dst))
  {a : Act} {w : World} {fps : List (List Nat)} (s : StF n E h r F Y a w fps) {K : Act → World → Prop}
  (H : ∀ ty, ∃ v' w', (Builtin.clear_ #[t] ty #[mv]).run P w = .ok v' w' ∧ ∀ a', Ag n (E.put dst (.val v')) a' → K a' w') : wpOp P ops (wpK P f R k) i K a w := by
 unfold clOf at he
 split at he
 ·cases he
 rename_i o ho
 split at he
 case isFalse => cases he
 rename_i hd
 split at he
 ·cases he
 rename_i hg
 split at he
 case h_2 => cases he
 rename_i c hc
 split at he
 case h_2 => cases he
 rename_i hcal
 split at he
 case h_2 => cases he
 rename_i hq
 split at he
 case h_2 => cases he
 rename_i xs t' hargs htys
 simp only [Option.some.injEq, Prod.mk.injEq] at he
 obtain ⟨rfl, rfl, rfl⟩ := he
 have hev := opsOk_sound s.ag (fun c w h => by cases h) _ _ hq trivial
 have e1 : a.eval xs = rho E xs := hev xs (by rw [hargs]; simp)
 have hca : c.args = #[xs] := by rw [← Array.toArray_toList (xs := c.args), hargs]
 have hct : c.argTypes = #[t'] := by rw [← Array.toArray_toList (xs := c.argTypes), htys]
 obtain ⟨v', w', hrun, hk⟩ := H o.type
 unfold wpOp
 simp only [ho]
 rw [if_pos (by simp [Region.wanted, hg])]
 refine .inl ?_
 unfold Oper.wp execOp
 simp only [hc, resolve, hcal, hca, hct, invoke, builtin, Sem.run_bind, Sem.run_pure, Result.andThen_ok, List.map_toArray, List.map_cons, List.map_nil, e1, hrun]
 exact hk _ (s.ag.put hd (.val v'))
theorem JR_clear {id L0 i : Nat} {ck : Bool} {Wp : List (Nat × List Nat)} {rest : List (Nat × Bool)} (p g o m c t e : Nat) (z : Value) (dst : Option Tmp) {cur : Array Value} {size bytes : Nat}
  (he : clOf n (rgOf f id) E i = some (.slice (some ⟨g, o, none⟩) m c, t, dst)) (hok : (!ck || okW L0 (Wp.lookup i) [p]) = true) (ht : P.underlying t = some (.slice e)) (hi : (P.info? e).map (fun i => (i.zero, i.size, i.bytes)) = some (some z, size, bytes)) (hm : 0 < m)
  (hp : h[p]? = some (g, .cells cur e (0, 0))) (hz : z.cells.size = size) (hl0 : o + m * size ≤ cur.size) (h10 : ∀ u ∈ z.cells.toList, u.oneCell' = true)
  (A0 : ∀ vs : List Value, vs.length = m * size → JR P f R n (rgOf f id) L0 ck rest (Wp.filter (·.1 != i)) k (E.put dst (.val (.tuple #[]))) (h.set p (g, .cells (seg cur o vs) e (0, 0))) r F Y) :
  JR P f R n (rgOf f id) L0 ck ((i, false) :: rest) Wp k E h r F Y := by
 have hsz : (Builtin.zeroCells z.cells m).size = m * size := by rw [zc_size, hz]
 have hl : o + (Builtin.zeroCells z.cells m).size ≤ cur.size := by rw [hsz]; exact hl0
 have h1 : ∀ u ∈ (Builtin.zeroCells z.cells m).toList, u.oneCell' = true := zc_one h10 m
 have A := A0 (Builtin.zeroCells z.cells m).toList (by simpa using hsz)
 intro BB Hd fps a w s hH hR hN hW
 simp only [PW]
 obtain ⟨inf, h1i, h2i, _⟩ := infoParts hi
 have hb : w.heap[g]? = some (.cells cur e (0, 0)) := s.own.own _ (List.mem_of_getElem? hp)
 have hzero : (zeroValue e).run P w = .ok z w := by simp [zeroValue, typeInfo, h1i, h2i]
 have hrun := run_storeCells_at (P := P) g o e (Builtin.zeroCells z.cells m).toList 0 cur w hb (by simpa using hl) h1
 rw [setRow_eq hb, Nat.add_zero] at hrun
 refine clOf_sound he s fun ty => ⟨.tuple #[], { w with heap := w.heap.setIfInBounds g (.cells (seg cur o (Builtin.zeroCells z.cells m).toList) e (0, 0)) }, ?_, fun a' hA => JR_setmap hok hp s hH hR hN hW hA A⟩
 obtain ⟨m', rfl⟩ : ∃ m', m = m' + 1 := ⟨m - 1, by omega⟩
 have hrun' : (storeCells ⟨g, o, none⟩ (Builtin.zeroCells z.cells (m' + 1)).toList).run P w = .ok () { w with heap := w.heap.setIfInBounds g (.cells (seg cur o (Builtin.zeroCells z.cells (m' + 1)).toList) e (0, 0)) } := hrun
 simp [Builtin.clear_, run_underlying ht, hzero, hrun', Result.andThen]
end rows
theorem Row.clr {cur : Array Value} {cap n size : Nat} {xs vs : List Value} (h : Row cur cap n size xs) {i : Nat} (hi : i ≤ n) (hv : vs.length = (n - i) * size) : Row (seg cur (i * size) vs) cap i size (xs.take (i * size)) := by
 have hle : i * size ≤ n * size := Nat.mul_le_mul_right size hi
 have h2 : n * size ≤ cap * size := Nat.mul_le_mul_right size h.le
 have hs := h.siz
 have hsum : i * size + (n - i) * size = n * size := by rw [← Nat.add_mul]; congr 1; omega
 refine ⟨?_, ?_, Nat.le_trans hi h.le, h.max, ?_⟩
 ·rw [List.length_take, h.len]
  omega
 ·rw [seg_len (by rw [hv]; omega)]
  exact hs
 ·have e1 : (seg cur (i * size) vs).toList.take (i * size) = cur.toList.take (i * size) := by
   simp only [seg]
   rw [List.append_assoc, List.take_append_of_le_length (by simp; omega), List.take_take, Nat.min_self]
  rw [e1, ← h.take, List.take_take]
  congr 1
  omega
section steps
variable {h r : List (Nat × Obj)} {F : List (List Nat × World)}
theorem RowsAt.cut {w : World} {S : Nat → Prop} {xs : List Value} {k : Nat} {rows : List (List D)} (h : RowsAt w S xs k rows) (i : Nat) : RowsAt w S (xs.take (i * k)) k (rows.take i) := by
 refine ⟨fun row hr => h.len row (List.mem_of_mem_take hr), fun p j row d hp hj => ?_⟩
 rw [List.getElem?_take] at hp
 split at hp
 ·rename_i hpi
  obtain ⟨u, h1, h2⟩ := h.rep p j row d hp hj
  have hjk : j < k := by rw [← h.len row (List.mem_of_getElem? hp)]; exact (List.getElem?_eq_some_iff.1 hj).1
  exact ⟨u, by rw [List.getElem?_take, if_pos (idx_lt hpi hjk)]; exact h1, h2⟩
 ·cases hp
theorem stp_cutrows {S0 : Nat → Prop} {C0 : List Chunk} {G0 : List (Value × D)} (q i : Nat) {xs : List Value} {k : Nat} {rows : List (List D)} (hq : C0[q]? = some (cRows xs k rows)) :
  Stp h r F ⟨S0, C0, G0⟩ (fun _ : Unit => True) fun _ => ⟨S0, C0.set q (cRows (xs.take (i * k)) k (rows.take i)), G0⟩ := by
 intro w fps hO H
 obtain ⟨fp, hfp, hnil, hP⟩ := H.chs.at hq
 have hc : (cRows (xs.take (i * k)) k (rows.take i)).P w (Sd ⟨S0, C0, G0⟩ h fps) fp := ⟨hnil, hP.cut i⟩
 have hs := H.chs.set hc (i := q)
 have e : fps.set q fp = fps := set_same hfp
 rw [e] at hs
 exact ⟨(), fps, trivial, fun _ hb => hb, H.less (fun _ hb => hb) H.nodup hs H.g⟩
theorem RowsAt.put {w : World} {S : Nat → Prop} {xs vs : List Value} {k : Nat} {rows : List (List D)} (h : RowsAt w S xs k rows) (hl : xs.length = rows.length * k) {i : Nat} (hi : i < rows.length) {row : List D} (hv : vs.length = k) (hr : row.length = k) (hrep : ∀ (j : Nat) d, row[j]? = some d → ∃ u, vs[j]? = some u ∧ Rep w S u d) :
  RowsAt w S (xs.take (i * k) ++ vs ++ xs.drop (i * k + k)) k (rows.set i row) := by
 have h1 : i * k + k ≤ rows.length * k := by
  have := Nat.mul_le_mul_right k (Nat.succ_le_of_lt hi)
  rwa [Nat.succ_mul] at this
 refine ⟨fun row' hr' => ?_, fun p j row' d hp hj => ?_⟩
 ·rcases List.mem_or_eq_of_mem_set hr' with h2 | rfl
  ·exact h.len row' h2
  ·exact hr
 ·by_cases hpi : i = p
  ·subst hpi
   rw [List.getElem?_set_self hi] at hp
   cases hp
   obtain ⟨u, hu, hru⟩ := hrep j d hj
   have hjk : j < k := by rw [← hr]; exact (List.getElem?_eq_some_iff.1 hj).1
   refine ⟨u, ?_, hru⟩
   rw [List.getElem?_append_left (by simp; omega), List.getElem?_append_right (by simp; omega)]
   simp only [List.length_take, hl]
   rw [show i * k + j - min (i * k) (rows.length * k) = j by omega]
   exact hu
  ·rw [List.getElem?_set_ne hpi] at hp
   obtain ⟨u, h3, h4⟩ := h.rep p j row' d hp hj
   have hjk : j < k := by rw [← h.len row' (List.mem_of_getElem? hp)]; exact (List.getElem?_eq_some_iff.1 hj).1
   refine ⟨u, ?_, h4⟩
   rcases Nat.lt_or_gt_of_ne hpi with hlt | hgt
   ·have h5 := Nat.mul_le_mul_right k (Nat.succ_le_of_lt hlt)
    rw [Nat.succ_mul] at h5
    rw [List.getElem?_append_right (by simp; omega), List.getElem?_drop]
    simp only [List.length_append, List.length_take, hl, hv]
    rw [show i * k + k + (p * k + j - (min (i * k) (rows.length * k) + k)) = p * k + j by omega]
    exact h3
   ·have h5 := Nat.mul_le_mul_right k (Nat.succ_le_of_lt hgt)
    rw [Nat.succ_mul] at h5
    rw [List.getElem?_append_left (by simp; omega), List.getElem?_append_left (by simp; omega), List.getElem?_take, if_pos (by omega)]
    exact h3
theorem stp_putrow {S0 : Nat → Prop} {C0 : List Chunk} {G0 : List (Value × D)} (q i : Nat) {xs vs : List Value} {k : Nat} {rows : List (List D)} {row : List D} (hq : C0[q]? = some (cRows xs k rows)) (hl : xs.length = rows.length * k) (hi : i < rows.length) (hk : row.length = k) (hR : RowG G0 vs row) :
  Stp h r F ⟨S0, C0, G0⟩ (fun _ : Unit => True) fun _ => ⟨S0, C0.set q (cRows (xs.take (i * k) ++ vs ++ xs.drop (i * k + k)) k (rows.set i row)), G0⟩ := by
 intro w fps hO H
 obtain ⟨fp, hfp, hnil, hP⟩ := H.chs.at hq
 have hc : (cRows (xs.take (i * k) ++ vs ++ xs.drop (i * k + k)) k (rows.set i row)).P w (Sd ⟨S0, C0, G0⟩ h fps) fp := ⟨hnil, hP.put hl hi (by rw [hR.len, hk]) hk fun j d hj => hR.at H.g j d hj⟩
 have hs := H.chs.set hc (i := q)
 have e : fps.set q fp = fps := set_same hfp
 rw [e] at hs
 exact ⟨(), fps, trivial, fun _ hb => hb, H.less (fun _ hb => hb) H.nodup hs H.g⟩
end steps
end Go.Sx
end
section
namespace Go.Sx
open Go Go.RowKit
abbrev dI (n : Int) : D := .v (.int .i64 n)
abbrev eI (t : Int) : List D := [dI t]
abbrev dInts (l : List Int) : D := .sl 1 (l.map eI)
theorem rep_ints_len {w : World} {S : Nat → Prop} {a : Option Addr} {n c : Nat} {xs : List Int} (h : Rep w S (.slice a n c) (dInts xs)) : n = xs.length := by
 have := h.slen
 simpa using this
abbrev eS (s : ByteArray) : List D := [.v (.string s)]
abbrev dStrs (l : List ByteArray) : D := .sl 1 (l.map eS)
def errV (T : Nat) (er : Nat → Addr) (k : Nat) : Value := .iface T (.pointer (some (er k)))
def ErrIs (T : Nat) (er : Nat → Addr) (k : Nat) (v : Value) : Prop := (k = 0 ∧ v = .nilIface) ∨ (k ≠ 0 ∧ v = .iface T (.pointer (some (er k))))
abbrev dE (T : Nat) (er : Nat → Addr) (g k : Nat) : Value × D := (.pointer (some ⟨g, 0, none⟩), .ptr [.v (.iface T (.pointer (some (er k))))])
theorem AllG.pick {w : World} {S : Nat → Prop} {G G' : List (Value × D)} (h : AllG w S G) (ps : List Nat) (hp : pick G ps = G') : AllG w S G' := fun x hx => h x (pick_mem hp x hx)
theorem AllG.app {w : World} {S : Nat → Prop} {G G' : List (Value × D)} (h : AllG w S G) (h' : AllG w S G') : AllG w S (G ++ G') := fun x hx => by
 rcases List.mem_append.1 hx with hx | hx
 ·exact h x hx
 ·exact h' x hx
structure AccI where
 i : Int
 a : Option Addr
 k : Nat
 c : Nat
theorem take_snoc {α : Type} {l : List α} {i : Int} {x : α} (hi : 0 ≤ i) (hx : l[i.toNat]? = some x) : l.take i.toNat ++ [x] = l.take (i + 1).toNat := by
 have e : (i + 1).toNat = i.toNat + 1 := by omega
 rw [e, List.take_add_one, hx]
 rfl
theorem ret_below {w w' : World} {S : Nat → Prop} {e : Ending} {v : Value} (he : e = .returned v) (h : Below w.heap.size w w') (hd : w.drawn ≤ w'.drawn) : Ret [] w S w' e v [] [] :=
 ⟨he, ⟨h.os, h.tape, h.output, h.size, fun b hb _ => h.block b hb, hd⟩, [], trivial, by simp, by simp, by simp⟩
theorem ret_same {w w' : World} {S : Nat → Prop} {e : Ending} {v : Value} (he : e = .returned v) (h : w' = w) : Ret [] w S w' e v [] [] := ret_below he (h ▸ Below.refl _ _) (h ▸ Nat.le_refl _)
end Go.Sx
end
section
namespace Go.Sx
open Go
structure DotT where
 place : Int
 time : Int
 no : Int
structure OpT where
 no : Int
 key : ByteArray
 kind : Int
 text : ByteArray
 n : Int
 remove : Bool
 dots : List DotT
structure ComT where
 when : List Int
 place : Int
 ops : List OpT
abbrev eDot (d : DotT) : List D := [dI d.place, dI d.time, dI d.no]
abbrev eOp (o : OpT) : List D := [dI o.no, .v (.string o.key), dI o.kind, .v (.string o.text), dI o.n, .v (.bool o.remove), .sl 3 (o.dots.map eDot)]
abbrev eCom (c : ComT) : List D := [.sl 1 (c.when.map eI), dI c.place, .sl 7 (c.ops.map eOp)]
instance : DecidableEq DotT := fun a b => decidable_of_iff (a.place = b.place ∧ a.time = b.time ∧ a.no = b.no) ⟨fun ⟨h1, h2, h3⟩ => by cases a; cases b; simp_all, fun h => by subst h; exact ⟨rfl, rfl, rfl⟩⟩
end Go.Sx
end
section
namespace Go.Proofs.YtpjkiomccpjboaaGreatDoor
open Go Go.Sx
theorem mixed : Tryz.prog.follows .mixedOrders = true := by kernel_rfl
def sk10 : Sk := (.seq (.rg 0 false) (.seq (.rg 1 false) (.seq (.seq (.rg 2 false) (.cond (.tmp 43) (.seq (.rg 3 false) .ret) .skip)) (.seq (.rg 4 false) (.seq (.seq (.rg 5 false) (.cond (.tmp 51) (.seq (.rg 6 false) .ret) .skip)) (.seq (.seq (.rg 7 false) (.block 0 (.loop (.seq (.seq (.rg 8 false) (.cond (.tmp 57) .skip (.exit 0))) (.seq (.block 1 (.rg 10 false)) (.rg 9 false)))))) (.seq (.rg 11 false) (.seq (.seq (.rg 12 false) (.cond (.tmp 70) (.seq (.rg 13 false) .ret) .skip)) (.seq (.rg 14 false) (.seq (.seq (.rg 15 false) (.cond (.tmp 76) (.seq (.rg 16 false) .ret) .skip)) (.seq (.rg 17 false) (.seq (.rg 18 false) (.seq (.seq (.rg 19 false) (.cond (.tmp 94) (.seq (.rg 20 false) .ret) .skip)) (.seq (.rg 21 false) (.seq (.seq (.rg 22 false) (.cond (.tmp 106) (.seq (.rg 23 false) .ret) .skip)) (.seq (.seq (.rg 24 false) (.cond (.tmp 108) (.seq (.rg 25 false) .ret) .skip)) (.seq (.rg 26 false) .ret)))))))))))))))))
theorem bd10 : Tryz.f10.body = some (sk10.code Tryz.f10) := by kernel_rfl
theorem ep10 {args : List Value} {w : World} {S : Nat → Prop} {G : List (Value × D)} {Rr : Ending → World → Prop} (hl : Nat.ble args.length Tryz.f10.ntmps = true) (hG : AllG w S G) (H : J Tryz.prog Tryz.f10 (retR Tryz.prog Tryz.f10 Rr) Tryz.f10.ntmps [.c sk10] (envOf 0 args) [] [] [([], w)] ⟨newS S [] w, [], G⟩) : Calls Tryz.prog 10 args.toArray w Rr :=
 calls_J Tryz.func10 bd10 rfl hl (Pre.none _ _) hG H
def sk12 : Sk := (.seq (.rg 0 false) (.seq (.seq (.rg 1 false) (.cond (.tmp 13) (.seq (.rg 2 false) .ret) .skip)) (.seq (.seq (.rg 3 false) (.block 0 (.loop (.seq (.seq (.rg 4 false) (.cond (.tmp 18) .skip (.exit 0))) (.seq (.block 1 (.seq (.rg 6 false) (.cond (.tmp 48) (.seq (.rg 7 false) .ret) .skip))) (.rg 5 false)))))) (.seq (.rg 8 false) .ret))))
theorem bd12 : Tryz.f12.body = some (sk12.code Tryz.f12) := by kernel_rfl
theorem ep12 {args : List Value} {w : World} {S : Nat → Prop} {G : List (Value × D)} {Rr : Ending → World → Prop} (hl : Nat.ble args.length Tryz.f12.ntmps = true) (hG : AllG w S G) (H : J Tryz.prog Tryz.f12 (retR Tryz.prog Tryz.f12 Rr) Tryz.f12.ntmps [.c sk12] (envOf 0 args) [] [] [([], w)] ⟨newS S [] w, [], G⟩) : Calls Tryz.prog 12 args.toArray w Rr :=
 calls_J Tryz.func12 bd12 rfl hl (Pre.none _ _) hG H
def sk13 : Sk := (.seq (.rg 0 false) (.seq (.rg 1 false) (.seq (.rg 2 false) .ret)))
theorem bd13 : Tryz.f13.body = some (sk13.code Tryz.f13) := by kernel_rfl
theorem ep13 {args : List Value} {w : World} {S : Nat → Prop} {G : List (Value × D)} {Rr : Ending → World → Prop} (hl : Nat.ble args.length Tryz.f13.ntmps = true) (hG : AllG w S G) (H : J Tryz.prog Tryz.f13 (retR Tryz.prog Tryz.f13 Rr) Tryz.f13.ntmps [.c sk13] (envOf 0 args) [] [] [([], w)] ⟨newS S [] w, [], G⟩) : Calls Tryz.prog 13 args.toArray w Rr :=
 calls_J Tryz.func13 bd13 rfl hl (Pre.none _ _) hG H
def sk14 : Sk := (.seq (.rg 0 false) (.seq (.block 0 (.seq (.rg 1 false) (.cond (.tmp 5) (.seq (.rg 2 false) .ret) (.seq (.rg 3 false) (.cond (.tmp 23) (.seq (.rg 4 false) .ret) (.seq (.rg 5 false) (.cond (.tmp 29) (.seq (.rg 6 false) .ret) (.seq (.rg 7 false) (.cond (.tmp 44) (.seq (.rg 8 false) .ret) (.seq (.rg 9 false) (.cond (.tmp 49) (.seq (.rg 10 false) .ret) (.seq (.rg 11 false) (.cond (.tmp 71) (.seq (.rg 12 false) .ret) .skip))))))))))))) (.seq (.rg 13 false) .ret)))
theorem bd14 : Tryz.f14.body = some (sk14.code Tryz.f14) := by kernel_rfl
theorem ep14 {args : List Value} {w : World} {S : Nat → Prop} {G : List (Value × D)} {Rr : Ending → World → Prop} (hl : Nat.ble args.length Tryz.f14.ntmps = true) (hG : AllG w S G) (H : J Tryz.prog Tryz.f14 (retR Tryz.prog Tryz.f14 Rr) Tryz.f14.ntmps [.c sk14] (envOf 0 args) [] [] [([], w)] ⟨newS S [] w, [], G⟩) : Calls Tryz.prog 14 args.toArray w Rr :=
 calls_J Tryz.func14 bd14 rfl hl (Pre.none _ _) hG H
def sk17 : Sk := (.seq (.rg 0 false) (.seq (.seq (.rg 1 false) (.seq (.rg 2 false) (.cond (.tmp 11) (.seq (.rg 3 false) .ret) .skip))) (.seq (.seq (.rg 4 false) (.cond (.tmp 38) (.seq (.rg 5 false) .ret) .skip)) (.seq (.seq (.rg 6 false) (.cond (.tmp 43) (.seq (.rg 7 false) .ret) .skip)) (.seq (.seq (.rg 8 false) (.block 0 (.loop (.seq (.rg 9 false) (.seq (.cond (.tmp 49) .skip (.exit 0)) (.seq (.block 1 (.seq (.rg 10 false) (.seq (.rg 11 false) (.seq (.seq (.rg 12 true) (.cond (.tmp 75) (.rg 13 false) .skip)) (.seq (.rg 14 false) (.cond (.tmp 78) (.seq (.rg 15 false) .ret) .skip)))))) (.rg 16 false))))))) (.seq (.rg 17 false) .ret))))))
theorem bd17 : Tryz.f17.body = some (sk17.code Tryz.f17) := by kernel_rfl
theorem ep17 {args : List Value} {w : World} {S : Nat → Prop} {G : List (Value × D)} {Rr : Ending → World → Prop} (hl : Nat.ble args.length Tryz.f17.ntmps = true) (hG : AllG w S G) (H : J Tryz.prog Tryz.f17 (retR Tryz.prog Tryz.f17 Rr) Tryz.f17.ntmps [.c sk17] (envOf 0 args) [] [] [([], w)] ⟨newS S [] w, [], G⟩) : Calls Tryz.prog 17 args.toArray w Rr :=
 calls_J Tryz.func17 bd17 rfl hl (Pre.none _ _) hG H
def sk18 : Sk := (.seq (.rg 0 false) (.seq (.rg 1 false) (.seq (.rg 2 false) (.seq (.seq (.rg 3 false) (.block 0 (.loop (.seq (.seq (.rg 4 false) (.cond (.tmp 20) .skip (.exit 0))) (.seq (.block 1 (.seq (.rg 6 false) (.seq (.rg 7 false) (.seq (.rg 8 false) (.rg 9 false))))) (.rg 5 false)))))) (.seq (.rg 10 false) .ret)))))
theorem bd18 : Tryz.f18.body = some (sk18.code Tryz.f18) := by kernel_rfl
theorem ep18 {args : List Value} {w : World} {S : Nat → Prop} {G : List (Value × D)} {Rr : Ending → World → Prop} (hl : Nat.ble args.length Tryz.f18.ntmps = true) (hG : AllG w S G) (H : J Tryz.prog Tryz.f18 (retR Tryz.prog Tryz.f18 Rr) Tryz.f18.ntmps [.c sk18] (envOf 0 args) [] [] [([], w)] ⟨newS S [] w, [], G⟩) : Calls Tryz.prog 18 args.toArray w Rr :=
 calls_J Tryz.func18 bd18 rfl hl (Pre.none _ _) hG H
def sk20 : Sk := (.seq (.rg 0 false) (.seq (.seq (.rg 1 false) (.cond (.tmp 6) (.seq (.rg 2 false) .ret) .skip)) (.seq (.seq (.rg 3 false) (.block 0 (.loop (.seq (.seq (.rg 4 false) (.cond (.tmp 10) .skip (.exit 0))) (.seq (.block 1 (.seq (.rg 6 false) (.cond (.tmp 18) (.seq (.rg 7 false) .ret) .skip))) (.rg 5 false)))))) (.seq (.rg 8 false) .ret))))
theorem bd20 : Tryz.f20.body = some (sk20.code Tryz.f20) := by kernel_rfl
theorem ep20 {args : List Value} {w : World} {S : Nat → Prop} {G : List (Value × D)} {Rr : Ending → World → Prop} (hl : Nat.ble args.length Tryz.f20.ntmps = true) (hG : AllG w S G) (H : J Tryz.prog Tryz.f20 (retR Tryz.prog Tryz.f20 Rr) Tryz.f20.ntmps [.c sk20] (envOf 0 args) [] [] [([], w)] ⟨newS S [] w, [], G⟩) : Calls Tryz.prog 20 args.toArray w Rr :=
 calls_J Tryz.func20 bd20 rfl hl (Pre.none _ _) hG H
def sk21 : Sk := (.seq (.rg 0 false) (.seq (.rg 1 false) (.seq (.seq (.rg 2 false) (.cond (.tmp 19) (.seq (.rg 3 false) .ret) .skip)) (.seq (.rg 4 false) (.seq (.rg 5 false) (.seq (.seq (.rg 6 false) (.block 0 (.loop (.seq (.rg 7 false) (.seq (.cond (.tmp 32) .skip (.exit 0)) (.seq (.block 1 (.seq (.rg 8 false) (.seq (.rg 9 false) (.block 2 (.seq (.rg 10 false) (.cond (.tmp 36) (.rg 11 false) (.seq (.rg 12 false) (.cond (.tmp 42) (.rg 13 false) .skip)))))))) (.rg 14 false))))))) (.seq (.seq (.rg 15 false) (.cond (.tmp 53) (.rg 16 false) .skip)) (.seq (.rg 17 false) .ret))))))))
theorem bd21 : Tryz.f21.body = some (sk21.code Tryz.f21) := by kernel_rfl
theorem ep21 {args : List Value} {w : World} {S : Nat → Prop} {G : List (Value × D)} {Rr : Ending → World → Prop} (hl : Nat.ble args.length Tryz.f21.ntmps = true) (hG : AllG w S G) (H : J Tryz.prog Tryz.f21 (retR Tryz.prog Tryz.f21 Rr) Tryz.f21.ntmps [.c sk21] (envOf 0 args) [] [] [([], w)] ⟨newS S [] w, [], G⟩) : Calls Tryz.prog 21 args.toArray w Rr :=
 calls_J Tryz.func21 bd21 rfl hl (Pre.none _ _) hG H
def sk27 : Sk := (.seq (.rg 0 false) (.seq (.rg 1 false) .ret))
theorem bd27 : Tryz.f27.body = some (sk27.code Tryz.f27) := by kernel_rfl
theorem ep27 {args : List Value} {w : World} {S : Nat → Prop} {G : List (Value × D)} {Rr : Ending → World → Prop} (hl : Nat.ble args.length Tryz.f27.ntmps = true) (hG : AllG w S G) (H : J Tryz.prog Tryz.f27 (retR Tryz.prog Tryz.f27 Rr) Tryz.f27.ntmps [.c sk27] (envOf 0 args) [] [] [([], w)] ⟨newS S [] w, [], G⟩) : Calls Tryz.prog 27 args.toArray w Rr :=
 calls_J Tryz.func27 bd27 rfl hl (Pre.none _ _) hG H
def sk32 : Sk := (.seq (.rg 0 false) (.seq (.seq (.rg 1 false) (.cond (.tmp 10) (.seq (.rg 2 false) .ret) .skip)) (.seq (.seq (.rg 3 false) (.block 0 (.loop (.seq (.seq (.rg 4 false) (.cond (.tmp 14) .skip (.exit 0))) (.seq (.block 1 (.seq (.rg 6 true) (.cond (.tmp 25) (.seq (.rg 7 false) .ret) .skip))) (.rg 5 false)))))) (.seq (.rg 8 false) .ret))))
theorem bd32 : Tryz.f32.body = some (sk32.code Tryz.f32) := by kernel_rfl
theorem ep32 {args : List Value} {w : World} {S : Nat → Prop} {G : List (Value × D)} {Rr : Ending → World → Prop} (hl : Nat.ble args.length Tryz.f32.ntmps = true) (hG : AllG w S G) (H : J Tryz.prog Tryz.f32 (retR Tryz.prog Tryz.f32 Rr) Tryz.f32.ntmps [.c sk32] (envOf 0 args) [] [] [([], w)] ⟨newS S [] w, [], G⟩) : Calls Tryz.prog 32 args.toArray w Rr :=
 calls_J Tryz.func32 bd32 rfl hl (Pre.none _ _) hG H
def sk33 : Sk := (.seq (.rg 0 false) (.seq (.rg 1 false) (.seq (.seq (.rg 2 false) (.cond (.tmp 17) (.seq (.rg 3 false) .ret) .skip)) (.seq (.rg 4 false) (.seq (.rg 5 false) (.seq (.rg 6 false) (.seq (.rg 7 false) .ret)))))))
theorem bd33 : Tryz.f33.body = some (sk33.code Tryz.f33) := by kernel_rfl
theorem ep33 {args : List Value} {w : World} {S : Nat → Prop} {G : List (Value × D)} {Rr : Ending → World → Prop} (hl : Nat.ble args.length Tryz.f33.ntmps = true) (hG : AllG w S G) (H : J Tryz.prog Tryz.f33 (retR Tryz.prog Tryz.f33 Rr) Tryz.f33.ntmps [.c sk33] (envOf 0 args) [] [] [([], w)] ⟨newS S [] w, [], G⟩) : Calls Tryz.prog 33 args.toArray w Rr :=
 calls_J Tryz.func33 bd33 rfl hl (Pre.none _ _) hG H
def sk34 : Sk := (.seq (.rg 0 false) (.seq (.seq (.rg 1 false) (.cond (.tmp 9) (.seq (.rg 2 true) .ret) .skip)) (.seq (.rg 3 false) .ret)))
theorem bd34 : Tryz.f34.body = some (sk34.code Tryz.f34) := by kernel_rfl
theorem ep34 {args : List Value} {w : World} {S : Nat → Prop} {G : List (Value × D)} {Rr : Ending → World → Prop} (hl : Nat.ble args.length Tryz.f34.ntmps = true) (hG : AllG w S G) (H : J Tryz.prog Tryz.f34 (retR Tryz.prog Tryz.f34 Rr) Tryz.f34.ntmps [.c sk34] (envOf 0 args) [] [] [([], w)] ⟨newS S [] w, [], G⟩) : Calls Tryz.prog 34 args.toArray w Rr :=
 calls_J Tryz.func34 bd34 rfl hl (Pre.none _ _) hG H
def sk36 : Sk := (.seq (.rg 0 false) (.seq (.seq (.rg 1 false) (.seq (.rg 2 false) (.cond (.tmp 16) (.seq (.rg 3 false) .ret) .skip))) (.seq (.seq (.rg 4 true) (.cond (.tmp 25) (.seq (.rg 5 false) .ret) .skip)) (.seq (.seq (.rg 6 true) (.seq (.rg 7 false) (.cond (.tmp 37) (.seq (.rg 8 false) .ret) .skip))) (.seq (.seq (.rg 9 false) (.block 0 (.loop (.seq (.rg 10 false) (.seq (.cond (.tmp 43) .skip (.exit 0)) (.seq (.block 1 (.seq (.rg 11 false) (.seq (.rg 12 true) (.cond (.tmp 54) (.seq (.rg 13 false) .ret) .skip)))) (.rg 14 false))))))) (.seq (.rg 15 false) (.seq (.seq (.rg 16 false) (.block 2 (.loop (.seq (.rg 17 false) (.seq (.cond (.tmp 67) .skip (.exit 2)) (.seq (.block 3 (.seq (.rg 18 false) (.seq (.rg 19 true) (.seq (.rg 20 false) (.seq (.rg 21 false) (.rg 22 true)))))) (.rg 23 false))))))) (.seq (.rg 24 false) .ret))))))))
theorem bd36 : Tryz.f36.body = some (sk36.code Tryz.f36) := by kernel_rfl
theorem en36 {args : List Value} {w : World} {S : Nat → Prop} {M : List Nat} {C : List Chunk} {G : List (Value × D)} {Rr : Ending → World → Prop} (hl : Nat.ble args.length Tryz.f36.ntmps = true) (hp : Pre w S M C) (hG : AllG w S G) (H : J Tryz.prog Tryz.f36 (retR Tryz.prog Tryz.f36 Rr) Tryz.f36.ntmps [.c sk36] (envOf 0 args) [] [] [(M, w)] ⟨newS S M w, C, G⟩) : Calls Tryz.prog 36 args.toArray w Rr :=
 calls_J Tryz.func36 bd36 rfl hl hp hG H
def sk38 : Sk := (.seq (.rg 0 false) (.seq (.rg 1 false) (.seq (.seq (.rg 2 false) (.cond (.tmp 18) (.seq (.rg 3 false) .ret) .skip)) (.seq (.rg 4 false) .ret))))
theorem bd38 : Tryz.f38.body = some (sk38.code Tryz.f38) := by kernel_rfl
theorem en38 {args : List Value} {w : World} {S : Nat → Prop} {M : List Nat} {C : List Chunk} {G : List (Value × D)} {Rr : Ending → World → Prop} (hl : Nat.ble args.length Tryz.f38.ntmps = true) (hp : Pre w S M C) (hG : AllG w S G) (H : J Tryz.prog Tryz.f38 (retR Tryz.prog Tryz.f38 Rr) Tryz.f38.ntmps [.c sk38] (envOf 0 args) [] [] [(M, w)] ⟨newS S M w, C, G⟩) : Calls Tryz.prog 38 args.toArray w Rr :=
 calls_J Tryz.func38 bd38 rfl hl hp hG H
def sk39 : Sk := (.seq (.rg 0 false) (.seq (.rg 1 false) (.seq (.rg 2 false) .ret)))
theorem bd39 : Tryz.f39.body = some (sk39.code Tryz.f39) := by kernel_rfl
theorem ep39 {args : List Value} {w : World} {S : Nat → Prop} {G : List (Value × D)} {Rr : Ending → World → Prop} (hl : Nat.ble args.length Tryz.f39.ntmps = true) (hG : AllG w S G) (H : J Tryz.prog Tryz.f39 (retR Tryz.prog Tryz.f39 Rr) Tryz.f39.ntmps [.c sk39] (envOf 0 args) [] [] [([], w)] ⟨newS S [] w, [], G⟩) : Calls Tryz.prog 39 args.toArray w Rr :=
 calls_J Tryz.func39 bd39 rfl hl (Pre.none _ _) hG H
def sk44 : Sk := (.seq (.rg 0 false) (.seq (.seq (.rg 1 false) (.seq (.rg 2 false) (.cond (.tmp 9) (.seq (.rg 3 false) .ret) .skip))) (.seq (.seq (.rg 4 false) (.cond (.tmp 17) (.seq (.rg 5 false) .ret) .skip)) (.seq (.rg 6 false) (.seq (.rg 7 false) .ret)))))
theorem bd44 : Tryz.f44.body = some (sk44.code Tryz.f44) := by kernel_rfl
theorem en44 {args : List Value} {w : World} {S : Nat → Prop} {M : List Nat} {C : List Chunk} {G : List (Value × D)} {Rr : Ending → World → Prop} (hl : Nat.ble args.length Tryz.f44.ntmps = true) (hp : Pre w S M C) (hG : AllG w S G) (H : J Tryz.prog Tryz.f44 (retR Tryz.prog Tryz.f44 Rr) Tryz.f44.ntmps [.c sk44] (envOf 0 args) [] [] [(M, w)] ⟨newS S M w, C, G⟩) : Calls Tryz.prog 44 args.toArray w Rr :=
 calls_J Tryz.func44 bd44 rfl hl hp hG H
def sk46 : Sk := (.seq (.rg 0 false) (.seq (.rg 1 true) (.seq (.seq (.rg 2 false) (.block 0 (.loop (.seq (.rg 3 false) (.seq (.cond (.tmp 29) .skip (.exit 0)) (.block 1 (.seq (.rg 4 false) (.rg 5 true)))))))) (.seq (.rg 6 false) .ret))))
theorem bd46 : Tryz.f46.body = some (sk46.code Tryz.f46) := by kernel_rfl
theorem en46 {args : List Value} {w : World} {S : Nat → Prop} {M : List Nat} {C : List Chunk} {G : List (Value × D)} {Rr : Ending → World → Prop} (hl : Nat.ble args.length Tryz.f46.ntmps = true) (hp : Pre w S M C) (hG : AllG w S G) (H : J Tryz.prog Tryz.f46 (retR Tryz.prog Tryz.f46 Rr) Tryz.f46.ntmps [.c sk46] (envOf 0 args) [] [] [(M, w)] ⟨newS S M w, C, G⟩) : Calls Tryz.prog 46 args.toArray w Rr :=
 calls_J Tryz.func46 bd46 rfl hl hp hG H
def sk52 : Sk := (.seq (.rg 0 false) (.seq (.seq (.rg 1 false) (.seq (.rg 2 false) (.cond (.tmp 11) (.seq (.rg 3 false) .ret) .skip))) (.seq (.rg 4 false) .ret)))
theorem bd52 : Tryz.f52.body = some (sk52.code Tryz.f52) := by kernel_rfl
theorem ep52 {args : List Value} {w : World} {S : Nat → Prop} {G : List (Value × D)} {Rr : Ending → World → Prop} (hl : Nat.ble args.length Tryz.f52.ntmps = true) (hG : AllG w S G) (H : J Tryz.prog Tryz.f52 (retR Tryz.prog Tryz.f52 Rr) Tryz.f52.ntmps [.c sk52] (envOf 0 args) [] [] [([], w)] ⟨newS S [] w, [], G⟩) : Calls Tryz.prog 52 args.toArray w Rr :=
 calls_J Tryz.func52 bd52 rfl hl (Pre.none _ _) hG H
def sk53 : Sk := (.seq (.rg 0 false) (.seq (.seq (.rg 1 false) (.cond (.tmp 8) (.seq (.rg 2 false) .ret) .skip)) (.seq (.rg 3 false) (.seq (.rg 4 false) (.seq (.seq (.rg 5 false) (.cond (.tmp 11) (.rg 6 false) .skip)) (.seq (.seq (.rg 7 false) (.block 0 (.loop (.seq (.rg 8 false) (.seq (.cond (.tmp 31) .skip (.exit 0)) (.seq (.block 1 (.seq (.rg 9 false) (.seq (.rg 10 false) (.cond (.tmp 37) (.seq (.rg 11 false) .ret) .skip)))) (.rg 12 false))))))) (.seq (.rg 13 false) .ret)))))))
theorem bd53 : Tryz.f53.body = some (sk53.code Tryz.f53) := by kernel_rfl
theorem ep53 {args : List Value} {w : World} {S : Nat → Prop} {G : List (Value × D)} {Rr : Ending → World → Prop} (hl : Nat.ble args.length Tryz.f53.ntmps = true) (hG : AllG w S G) (H : J Tryz.prog Tryz.f53 (retR Tryz.prog Tryz.f53 Rr) Tryz.f53.ntmps [.c sk53] (envOf 0 args) [] [] [([], w)] ⟨newS S [] w, [], G⟩) : Calls Tryz.prog 53 args.toArray w Rr :=
 calls_J Tryz.func53 bd53 rfl hl (Pre.none _ _) hG H
def sk54 : Sk := (.seq (.rg 0 false) (.seq (.rg 1 false) .ret))
theorem bd54 : Tryz.f54.body = some (sk54.code Tryz.f54) := by kernel_rfl
theorem ep54 {args : List Value} {w : World} {S : Nat → Prop} {G : List (Value × D)} {Rr : Ending → World → Prop} (hl : Nat.ble args.length Tryz.f54.ntmps = true) (hG : AllG w S G) (H : J Tryz.prog Tryz.f54 (retR Tryz.prog Tryz.f54 Rr) Tryz.f54.ntmps [.c sk54] (envOf 0 args) [] [] [([], w)] ⟨newS S [] w, [], G⟩) : Calls Tryz.prog 54 args.toArray w Rr :=
 calls_J Tryz.func54 bd54 rfl hl (Pre.none _ _) hG H
def sk55 : Sk := (.seq (.rg 0 false) (.seq (.seq (.rg 1 false) (.block 0 (.seq (.rg 2 false) (.cond (.tmp 5) (.seq (.rg 3 false) .ret) (.seq (.rg 4 false) (.cond (.tmp 21) (.seq (.rg 5 false) .ret) .skip)))))) (.seq (.rg 6 false) .ret)))
theorem bd55 : Tryz.f55.body = some (sk55.code Tryz.f55) := by kernel_rfl
theorem ep55 {args : List Value} {w : World} {S : Nat → Prop} {G : List (Value × D)} {Rr : Ending → World → Prop} (hl : Nat.ble args.length Tryz.f55.ntmps = true) (hG : AllG w S G) (H : J Tryz.prog Tryz.f55 (retR Tryz.prog Tryz.f55 Rr) Tryz.f55.ntmps [.c sk55] (envOf 0 args) [] [] [([], w)] ⟨newS S [] w, [], G⟩) : Calls Tryz.prog 55 args.toArray w Rr :=
 calls_J Tryz.func55 bd55 rfl hl (Pre.none _ _) hG H
def sk56 : Sk := (.seq (.rg 0 false) (.seq (.rg 1 false) .ret))
theorem bd56 : Tryz.f56.body = some (sk56.code Tryz.f56) := by kernel_rfl
theorem ep56 {args : List Value} {w : World} {S : Nat → Prop} {G : List (Value × D)} {Rr : Ending → World → Prop} (hl : Nat.ble args.length Tryz.f56.ntmps = true) (hG : AllG w S G) (H : J Tryz.prog Tryz.f56 (retR Tryz.prog Tryz.f56 Rr) Tryz.f56.ntmps [.c sk56] (envOf 0 args) [] [] [([], w)] ⟨newS S [] w, [], G⟩) : Calls Tryz.prog 56 args.toArray w Rr :=
 calls_J Tryz.func56 bd56 rfl hl (Pre.none _ _) hG H
def sk57 : Sk := (.seq (.rg 0 false) (.seq (.rg 1 false) .ret))
theorem bd57 : Tryz.f57.body = some (sk57.code Tryz.f57) := by kernel_rfl
theorem ep57 {args : List Value} {w : World} {S : Nat → Prop} {G : List (Value × D)} {Rr : Ending → World → Prop} (hl : Nat.ble args.length Tryz.f57.ntmps = true) (hG : AllG w S G) (H : J Tryz.prog Tryz.f57 (retR Tryz.prog Tryz.f57 Rr) Tryz.f57.ntmps [.c sk57] (envOf 0 args) [] [] [([], w)] ⟨newS S [] w, [], G⟩) : Calls Tryz.prog 57 args.toArray w Rr :=
 calls_J Tryz.func57 bd57 rfl hl (Pre.none _ _) hG H
def sk58 : Sk := (.seq (.rg 0 false) (.seq (.rg 1 false) .ret))
theorem bd58 : Tryz.f58.body = some (sk58.code Tryz.f58) := by kernel_rfl
theorem ep58 {args : List Value} {w : World} {S : Nat → Prop} {G : List (Value × D)} {Rr : Ending → World → Prop} (hl : Nat.ble args.length Tryz.f58.ntmps = true) (hG : AllG w S G) (H : J Tryz.prog Tryz.f58 (retR Tryz.prog Tryz.f58 Rr) Tryz.f58.ntmps [.c sk58] (envOf 0 args) [] [] [([], w)] ⟨newS S [] w, [], G⟩) : Calls Tryz.prog 58 args.toArray w Rr :=
 calls_J Tryz.func58 bd58 rfl hl (Pre.none _ _) hG H
def sk59 : Sk := (.seq (.rg 0 false) (.seq (.seq (.rg 1 false) (.cond (.tmp 10) (.seq (.rg 2 false) .ret) .skip)) (.seq (.seq (.rg 3 false) (.cond (.tmp 13) (.seq (.rg 4 false) .ret) .skip)) (.seq (.rg 5 false) .ret))))
theorem bd59 : Tryz.f59.body = some (sk59.code Tryz.f59) := by kernel_rfl
theorem ep59 {args : List Value} {w : World} {S : Nat → Prop} {G : List (Value × D)} {Rr : Ending → World → Prop} (hl : Nat.ble args.length Tryz.f59.ntmps = true) (hG : AllG w S G) (H : J Tryz.prog Tryz.f59 (retR Tryz.prog Tryz.f59 Rr) Tryz.f59.ntmps [.c sk59] (envOf 0 args) [] [] [([], w)] ⟨newS S [] w, [], G⟩) : Calls Tryz.prog 59 args.toArray w Rr :=
 calls_J Tryz.func59 bd59 rfl hl (Pre.none _ _) hG H
def sk61 : Sk := (.seq (.rg 0 false) (.seq (.seq (.rg 1 false) (.cond (.tmp 18) (.seq (.rg 2 true) .ret) .skip)) (.seq (.rg 3 false) (.seq (.rg 4 false) (.seq (.seq (.rg 5 false) (.block 0 (.loop (.seq (.rg 6 false) (.seq (.cond (.tmp 24) .skip (.exit 0)) (.seq (.block 1 (.seq (.rg 7 false) (.seq (.rg 8 false) (.seq (.seq (.rg 9 true) (.cond (.tmp 43) (.rg 10 false) .skip)) (.seq (.seq (.rg 11 false) (.cond (.tmp 46) (.seq (.rg 12 false) .ret) .skip)) (.seq (.rg 13 false) (.seq (.rg 14 false) (.block 2 (.loop (.seq (.rg 15 false) (.seq (.cond (.tmp 62) .skip (.exit 2)) (.seq (.block 3 (.seq (.rg 16 false) (.seq (.rg 17 true) (.seq (.seq (.rg 18 false) (.cond (.tmp 85) (.rg 19 false) .skip)) (.rg 20 false))))) (.rg 21 false))))))))))))) (.rg 22 false))))))) (.seq (.rg 23 false) (.seq (.rg 24 false) .ret)))))))
theorem bd61 : Tryz.f61.body = some (sk61.code Tryz.f61) := by kernel_rfl
theorem ep61 {args : List Value} {w : World} {S : Nat → Prop} {G : List (Value × D)} {Rr : Ending → World → Prop} (hl : Nat.ble args.length Tryz.f61.ntmps = true) (hG : AllG w S G) (H : J Tryz.prog Tryz.f61 (retR Tryz.prog Tryz.f61 Rr) Tryz.f61.ntmps [.c sk61] (envOf 0 args) [] [] [([], w)] ⟨newS S [] w, [], G⟩) : Calls Tryz.prog 61 args.toArray w Rr :=
 calls_J Tryz.func61 bd61 rfl hl (Pre.none _ _) hG H
def sk62 : Sk := (.seq (.rg 0 false) (.seq (.seq (.rg 1 false) (.cond (.tmp 7) (.seq (.rg 2 false) .ret) .skip)) (.seq (.rg 3 false) (.seq (.rg 4 true) .ret))))
theorem bd62 : Tryz.f62.body = some (sk62.code Tryz.f62) := by kernel_rfl
theorem ep62 {args : List Value} {w : World} {S : Nat → Prop} {G : List (Value × D)} {Rr : Ending → World → Prop} (hl : Nat.ble args.length Tryz.f62.ntmps = true) (hG : AllG w S G) (H : J Tryz.prog Tryz.f62 (retR Tryz.prog Tryz.f62 Rr) Tryz.f62.ntmps [.c sk62] (envOf 0 args) [] [] [([], w)] ⟨newS S [] w, [], G⟩) : Calls Tryz.prog 62 args.toArray w Rr :=
 calls_J Tryz.func62 bd62 rfl hl (Pre.none _ _) hG H
def sk65 : Sk := (.seq (.rg 0 false) (.seq (.rg 1 false) (.seq (.seq (.rg 2 false) (.block 0 (.loop (.seq (.rg 3 false) (.seq (.cond (.tmp 15) .skip (.exit 0)) (.seq (.block 1 (.seq (.rg 4 false) (.seq (.rg 5 false) (.cond (.tmp 20) (.seq (.seq (.rg 6 false) (.cond (.tmp 26) (.rg 7 false) .skip)) (.seq (.rg 8 false) (.block 2 (.loop (.seq (.rg 9 false) (.seq (.cond (.tmp 37) .skip (.exit 2)) (.seq (.block 3 (.seq (.rg 10 false) (.rg 11 false))) (.rg 12 false)))))))) .skip)))) (.rg 13 false))))))) (.seq (.rg 14 false) (.seq (.seq (.rg 15 false) (.block 4 (.loop (.seq (.rg 16 false) (.seq (.cond (.tmp 52) .skip (.exit 4)) (.seq (.block 5 (.seq (.rg 17 false) (.seq (.rg 18 false) (.cond (.tmp 69) (.rg 19 true) .skip)))) (.rg 20 false))))))) (.seq (.rg 21 false) .ret))))))
theorem bd65 : Tryz.f65.body = some (sk65.code Tryz.f65) := by kernel_rfl
theorem ep65 {args : List Value} {w : World} {S : Nat → Prop} {G : List (Value × D)} {Rr : Ending → World → Prop} (hl : Nat.ble args.length Tryz.f65.ntmps = true) (hG : AllG w S G) (H : J Tryz.prog Tryz.f65 (retR Tryz.prog Tryz.f65 Rr) Tryz.f65.ntmps [.c sk65] (envOf 0 args) [] [] [([], w)] ⟨newS S [] w, [], G⟩) : Calls Tryz.prog 65 args.toArray w Rr :=
 calls_J Tryz.func65 bd65 rfl hl (Pre.none _ _) hG H
def sk68 : Sk := (.seq (.rg 0 false) (.seq (.rg 1 false) (.seq (.seq (.rg 2 false) (.block 0 (.loop (.seq (.rg 3 false) (.seq (.cond (.tmp 9) .skip (.exit 0)) (.seq (.block 1 (.seq (.rg 4 false) (.seq (.rg 5 false) (.cond (.tmp 14) (.seq (.rg 6 false) .ret) .skip)))) (.rg 7 false))))))) (.seq (.rg 8 false) .ret))))
theorem bd68 : Tryz.f68.body = some (sk68.code Tryz.f68) := by kernel_rfl
theorem ep68 {args : List Value} {w : World} {S : Nat → Prop} {G : List (Value × D)} {Rr : Ending → World → Prop} (hl : Nat.ble args.length Tryz.f68.ntmps = true) (hG : AllG w S G) (H : J Tryz.prog Tryz.f68 (retR Tryz.prog Tryz.f68 Rr) Tryz.f68.ntmps [.c sk68] (envOf 0 args) [] [] [([], w)] ⟨newS S [] w, [], G⟩) : Calls Tryz.prog 68 args.toArray w Rr :=
 calls_J Tryz.func68 bd68 rfl hl (Pre.none _ _) hG H
def sk69 : Sk := (.seq (.rg 0 false) (.seq (.rg 1 false) (.seq (.rg 2 false) (.seq (.seq (.rg 3 false) (.cond (.tmp 11) (.seq (.seq (.rg 4 false) (.cond (.tmp 12) (.seq (.rg 5 false) .ret) .skip)) (.seq (.rg 6 false) .ret)) .skip)) (.seq (.seq (.rg 7 false) (.cond (.tmp 13) (.seq (.rg 8 false) .ret) .skip)) (.seq (.seq (.rg 9 false) (.cond (.tmp 16) (.seq (.rg 10 false) .ret) .skip)) (.seq (.seq (.rg 11 false) (.cond (.tmp 19) (.seq (.rg 12 false) .ret) .skip)) (.seq (.rg 13 false) .ret))))))))
theorem bd69 : Tryz.f69.body = some (sk69.code Tryz.f69) := by kernel_rfl
theorem ep69 {args : List Value} {w : World} {S : Nat → Prop} {G : List (Value × D)} {Rr : Ending → World → Prop} (hl : Nat.ble args.length Tryz.f69.ntmps = true) (hG : AllG w S G) (H : J Tryz.prog Tryz.f69 (retR Tryz.prog Tryz.f69 Rr) Tryz.f69.ntmps [.c sk69] (envOf 0 args) [] [] [([], w)] ⟨newS S [] w, [], G⟩) : Calls Tryz.prog 69 args.toArray w Rr :=
 calls_J Tryz.func69 bd69 rfl hl (Pre.none _ _) hG H
def sk74 : Sk := (.seq (.rg 0 false) (.seq (.rg 1 true) .ret))
theorem bd74 : Tryz.f74.body = some (sk74.code Tryz.f74) := by kernel_rfl
theorem ep74 {args : List Value} {w : World} {S : Nat → Prop} {G : List (Value × D)} {Rr : Ending → World → Prop} (hl : Nat.ble args.length Tryz.f74.ntmps = true) (hG : AllG w S G) (H : J Tryz.prog Tryz.f74 (retR Tryz.prog Tryz.f74 Rr) Tryz.f74.ntmps [.c sk74] (envOf 0 args) [] [] [([], w)] ⟨newS S [] w, [], G⟩) : Calls Tryz.prog 74 args.toArray w Rr :=
 calls_J Tryz.func74 bd74 rfl hl (Pre.none _ _) hG H
def sk75 : Sk := (.seq (.rg 0 false) (.seq (.rg 1 false) (.seq (.rg 2 false) (.seq (.seq (.rg 3 false) (.block 0 (.loop (.seq (.rg 4 false) (.seq (.cond (.tmp 16) .skip (.exit 0)) (.seq (.block 1 (.seq (.rg 5 false) (.rg 6 true))) (.rg 7 false))))))) (.seq (.rg 8 false) .ret)))))
theorem bd75 : Tryz.f75.body = some (sk75.code Tryz.f75) := by kernel_rfl
theorem ep75 {args : List Value} {w : World} {S : Nat → Prop} {G : List (Value × D)} {Rr : Ending → World → Prop} (hl : Nat.ble args.length Tryz.f75.ntmps = true) (hG : AllG w S G) (H : J Tryz.prog Tryz.f75 (retR Tryz.prog Tryz.f75 Rr) Tryz.f75.ntmps [.c sk75] (envOf 0 args) [] [] [([], w)] ⟨newS S [] w, [], G⟩) : Calls Tryz.prog 75 args.toArray w Rr :=
 calls_J Tryz.func75 bd75 rfl hl (Pre.none _ _) hG H
def sk78 : Sk := (.seq (.rg 0 false) (.seq (.seq (.rg 1 false) (.cond (.tmp 18) (.seq (.rg 2 true) .ret) .skip)) (.seq (.seq (.rg 3 false) (.seq (.rg 4 false) (.cond (.tmp 23) (.seq (.rg 5 false) .ret) .skip))) (.seq (.seq (.rg 6 false) (.cond (.tmp 31) (.seq (.rg 7 true) .ret) .skip)) (.seq (.seq (.rg 8 false) (.seq (.rg 9 false) (.cond (.tmp 43) (.seq (.rg 10 true) .ret) .skip))) (.seq (.rg 11 false) (.seq (.seq (.rg 12 false) (.block 0 (.loop (.seq (.rg 13 false) (.seq (.cond (.tmp 53) .skip (.exit 0)) (.seq (.block 1 (.seq (.rg 14 false) (.seq (.rg 15 false) (.seq (.rg 16 false) (.cond (.tmp 63) (.rg 17 false) .skip))))) (.rg 18 false))))))) (.seq (.rg 19 false) .ret))))))))
theorem bd78 : Tryz.f78.body = some (sk78.code Tryz.f78) := by kernel_rfl
theorem en78 {args : List Value} {w : World} {S : Nat → Prop} {M : List Nat} {C : List Chunk} {G : List (Value × D)} {Rr : Ending → World → Prop} (hl : Nat.ble args.length Tryz.f78.ntmps = true) (hp : Pre w S M C) (hG : AllG w S G) (H : J Tryz.prog Tryz.f78 (retR Tryz.prog Tryz.f78 Rr) Tryz.f78.ntmps [.c sk78] (envOf 0 args) [] [] [(M, w)] ⟨newS S M w, C, G⟩) : Calls Tryz.prog 78 args.toArray w Rr :=
 calls_J Tryz.func78 bd78 rfl hl hp hG H
def sk79 : Sk := (.seq (.rg 0 false) (.seq (.rg 1 false) .ret))
theorem bd79 : Tryz.f79.body = some (sk79.code Tryz.f79) := by kernel_rfl
theorem ep79 {args : List Value} {w : World} {S : Nat → Prop} {G : List (Value × D)} {Rr : Ending → World → Prop} (hl : Nat.ble args.length Tryz.f79.ntmps = true) (hG : AllG w S G) (H : J Tryz.prog Tryz.f79 (retR Tryz.prog Tryz.f79 Rr) Tryz.f79.ntmps [.c sk79] (envOf 0 args) [] [] [([], w)] ⟨newS S [] w, [], G⟩) : Calls Tryz.prog 79 args.toArray w Rr :=
 calls_J Tryz.func79 bd79 rfl hl (Pre.none _ _) hG H
def sk80 : Sk := (.seq (.rg 0 false) (.seq (.seq (.rg 1 false) (.cond (.tmp 4) (.seq (.rg 2 false) .ret) .skip)) (.seq (.rg 3 false) .ret)))
theorem bd80 : Tryz.f80.body = some (sk80.code Tryz.f80) := by kernel_rfl
theorem ep80 {args : List Value} {w : World} {S : Nat → Prop} {G : List (Value × D)} {Rr : Ending → World → Prop} (hl : Nat.ble args.length Tryz.f80.ntmps = true) (hG : AllG w S G) (H : J Tryz.prog Tryz.f80 (retR Tryz.prog Tryz.f80 Rr) Tryz.f80.ntmps [.c sk80] (envOf 0 args) [] [] [([], w)] ⟨newS S [] w, [], G⟩) : Calls Tryz.prog 80 args.toArray w Rr :=
 calls_J Tryz.func80 bd80 rfl hl (Pre.none _ _) hG H
def sk82 : Sk := (.seq (.rg 0 false) (.seq (.seq (.rg 1 false) (.cond (.tmp 4) (.seq (.rg 2 false) .ret) .skip)) (.seq (.rg 3 false) .ret)))
theorem bd82 : Tryz.f82.body = some (sk82.code Tryz.f82) := by kernel_rfl
theorem en82 {args : List Value} {w : World} {S : Nat → Prop} {M : List Nat} {C : List Chunk} {G : List (Value × D)} {Rr : Ending → World → Prop} (hl : Nat.ble args.length Tryz.f82.ntmps = true) (hp : Pre w S M C) (hG : AllG w S G) (H : J Tryz.prog Tryz.f82 (retR Tryz.prog Tryz.f82 Rr) Tryz.f82.ntmps [.c sk82] (envOf 0 args) [] [] [(M, w)] ⟨newS S M w, C, G⟩) : Calls Tryz.prog 82 args.toArray w Rr :=
 calls_J Tryz.func82 bd82 rfl hl hp hG H
def sk84 : Sk := (.seq (.rg 0 false) (.seq (.seq (.rg 1 false) (.block 0 (.loop (.seq (.rg 2 false) (.seq (.cond (.tmp 13) .skip (.exit 0)) (.seq (.block 1 (.seq (.rg 3 false) (.seq (.rg 4 false) (.seq (.rg 5 false) (.cond (.tmp 19) (.seq (.rg 6 false) .ret) .skip))))) (.rg 7 false))))))) (.seq (.seq (.rg 8 false) (.cond (.tmp 26) (.seq (.rg 9 false) .ret) .skip)) (.seq (.rg 10 false) .ret))))
theorem bd84 : Tryz.f84.body = some (sk84.code Tryz.f84) := by kernel_rfl
theorem ep84 {args : List Value} {w : World} {S : Nat → Prop} {G : List (Value × D)} {Rr : Ending → World → Prop} (hl : Nat.ble args.length Tryz.f84.ntmps = true) (hG : AllG w S G) (H : J Tryz.prog Tryz.f84 (retR Tryz.prog Tryz.f84 Rr) Tryz.f84.ntmps [.c sk84] (envOf 0 args) [] [] [([], w)] ⟨newS S [] w, [], G⟩) : Calls Tryz.prog 84 args.toArray w Rr :=
 calls_J Tryz.func84 bd84 rfl hl (Pre.none _ _) hG H
def sk85 : Sk := (.seq (.rg 0 false) (.seq (.seq (.rg 1 false) (.block 0 (.loop (.seq (.rg 2 false) (.seq (.cond (.tmp 10) .skip (.exit 0)) (.seq (.block 1 (.seq (.rg 3 false) (.seq (.rg 4 false) (.cond (.tmp 19) (.seq (.rg 5 false) .ret) .skip)))) (.rg 6 false))))))) (.seq (.rg 7 false) .ret)))
theorem bd85 : Tryz.f85.body = some (sk85.code Tryz.f85) := by kernel_rfl
theorem ep85 {args : List Value} {w : World} {S : Nat → Prop} {G : List (Value × D)} {Rr : Ending → World → Prop} (hl : Nat.ble args.length Tryz.f85.ntmps = true) (hG : AllG w S G) (H : J Tryz.prog Tryz.f85 (retR Tryz.prog Tryz.f85 Rr) Tryz.f85.ntmps [.c sk85] (envOf 0 args) [] [] [([], w)] ⟨newS S [] w, [], G⟩) : Calls Tryz.prog 85 args.toArray w Rr :=
 calls_J Tryz.func85 bd85 rfl hl (Pre.none _ _) hG H
def sk88 : Sk := (.seq (.rg 0 false) (.seq (.rg 1 false) .ret))
theorem bd88 : Tryz.f88.body = some (sk88.code Tryz.f88) := by kernel_rfl
theorem ep88 {args : List Value} {w : World} {S : Nat → Prop} {G : List (Value × D)} {Rr : Ending → World → Prop} (hl : Nat.ble args.length Tryz.f88.ntmps = true) (hG : AllG w S G) (H : J Tryz.prog Tryz.f88 (retR Tryz.prog Tryz.f88 Rr) Tryz.f88.ntmps [.c sk88] (envOf 0 args) [] [] [([], w)] ⟨newS S [] w, [], G⟩) : Calls Tryz.prog 88 args.toArray w Rr :=
 calls_J Tryz.func88 bd88 rfl hl (Pre.none _ _) hG H
def sk89 : Sk := (.seq (.rg 0 false) (.seq (.rg 1 false) .ret))
theorem bd89 : Tryz.f89.body = some (sk89.code Tryz.f89) := by kernel_rfl
theorem ep89 {args : List Value} {w : World} {S : Nat → Prop} {G : List (Value × D)} {Rr : Ending → World → Prop} (hl : Nat.ble args.length Tryz.f89.ntmps = true) (hG : AllG w S G) (H : J Tryz.prog Tryz.f89 (retR Tryz.prog Tryz.f89 Rr) Tryz.f89.ntmps [.c sk89] (envOf 0 args) [] [] [([], w)] ⟨newS S [] w, [], G⟩) : Calls Tryz.prog 89 args.toArray w Rr :=
 calls_J Tryz.func89 bd89 rfl hl (Pre.none _ _) hG H
def sk90 : Sk := (.seq (.rg 0 false) (.seq (.seq (.rg 1 false) (.block 0 (.loop (.seq (.rg 2 false) (.seq (.cond (.tmp 9) .skip (.exit 0)) (.seq (.block 1 (.seq (.rg 3 false) (.seq (.rg 4 false) (.cond (.tmp 16) (.seq (.rg 5 false) .ret) .skip)))) (.rg 6 false))))))) (.seq (.rg 7 false) .ret)))
theorem bd90 : Tryz.f90.body = some (sk90.code Tryz.f90) := by kernel_rfl
theorem ep90 {args : List Value} {w : World} {S : Nat → Prop} {G : List (Value × D)} {Rr : Ending → World → Prop} (hl : Nat.ble args.length Tryz.f90.ntmps = true) (hG : AllG w S G) (H : J Tryz.prog Tryz.f90 (retR Tryz.prog Tryz.f90 Rr) Tryz.f90.ntmps [.c sk90] (envOf 0 args) [] [] [([], w)] ⟨newS S [] w, [], G⟩) : Calls Tryz.prog 90 args.toArray w Rr :=
 calls_J Tryz.func90 bd90 rfl hl (Pre.none _ _) hG H
def sk91 : Sk := (.seq (.rg 0 false) (.seq (.rg 1 false) .ret))
theorem bd91 : Tryz.f91.body = some (sk91.code Tryz.f91) := by kernel_rfl
theorem ep91 {args : List Value} {w : World} {S : Nat → Prop} {G : List (Value × D)} {Rr : Ending → World → Prop} (hl : Nat.ble args.length Tryz.f91.ntmps = true) (hG : AllG w S G) (H : J Tryz.prog Tryz.f91 (retR Tryz.prog Tryz.f91 Rr) Tryz.f91.ntmps [.c sk91] (envOf 0 args) [] [] [([], w)] ⟨newS S [] w, [], G⟩) : Calls Tryz.prog 91 args.toArray w Rr :=
 calls_J Tryz.func91 bd91 rfl hl (Pre.none _ _) hG H
def sk92 : Sk := (.seq (.rg 0 false) (.seq (.rg 1 false) .ret))
theorem bd92 : Tryz.f92.body = some (sk92.code Tryz.f92) := by kernel_rfl
theorem ep92 {args : List Value} {w : World} {S : Nat → Prop} {G : List (Value × D)} {Rr : Ending → World → Prop} (hl : Nat.ble args.length Tryz.f92.ntmps = true) (hG : AllG w S G) (H : J Tryz.prog Tryz.f92 (retR Tryz.prog Tryz.f92 Rr) Tryz.f92.ntmps [.c sk92] (envOf 0 args) [] [] [([], w)] ⟨newS S [] w, [], G⟩) : Calls Tryz.prog 92 args.toArray w Rr :=
 calls_J Tryz.func92 bd92 rfl hl (Pre.none _ _) hG H
def sk93 : Sk := (.seq (.rg 0 false) (.seq (.rg 1 false) (.seq (.seq (.rg 2 false) (.cond (.tmp 6) (.seq (.rg 3 false) .ret) .skip)) (.seq (.rg 4 false) .ret))))
theorem bd93 : Tryz.f93.body = some (sk93.code Tryz.f93) := by kernel_rfl
theorem ep93 {args : List Value} {w : World} {S : Nat → Prop} {G : List (Value × D)} {Rr : Ending → World → Prop} (hl : Nat.ble args.length Tryz.f93.ntmps = true) (hG : AllG w S G) (H : J Tryz.prog Tryz.f93 (retR Tryz.prog Tryz.f93 Rr) Tryz.f93.ntmps [.c sk93] (envOf 0 args) [] [] [([], w)] ⟨newS S [] w, [], G⟩) : Calls Tryz.prog 93 args.toArray w Rr :=
 calls_J Tryz.func93 bd93 rfl hl (Pre.none _ _) hG H
def sk94 : Sk := (.seq (.rg 0 false) (.seq (.seq (.rg 1 false) (.seq (.rg 2 false) (.cond (.tmp 11) (.seq (.rg 3 false) .ret) .skip))) (.seq (.rg 4 false) (.seq (.seq (.rg 5 false) (.block 0 (.loop (.seq (.rg 6 false) (.seq (.cond (.tmp 16) .skip (.exit 0)) (.seq (.block 1 (.seq (.rg 7 false) (.rg 8 false))) (.rg 9 false))))))) (.seq (.rg 10 false) .ret)))))
theorem bd94 : Tryz.f94.body = some (sk94.code Tryz.f94) := by kernel_rfl
theorem ep94 {args : List Value} {w : World} {S : Nat → Prop} {G : List (Value × D)} {Rr : Ending → World → Prop} (hl : Nat.ble args.length Tryz.f94.ntmps = true) (hG : AllG w S G) (H : J Tryz.prog Tryz.f94 (retR Tryz.prog Tryz.f94 Rr) Tryz.f94.ntmps [.c sk94] (envOf 0 args) [] [] [([], w)] ⟨newS S [] w, [], G⟩) : Calls Tryz.prog 94 args.toArray w Rr :=
 calls_J Tryz.func94 bd94 rfl hl (Pre.none _ _) hG H
def sk96 : Sk := (.seq (.rg 0 false) (.seq (.rg 1 true) .ret))
theorem bd96 : Tryz.f96.body = some (sk96.code Tryz.f96) := by kernel_rfl
theorem ep96 {args : List Value} {w : World} {S : Nat → Prop} {G : List (Value × D)} {Rr : Ending → World → Prop} (hl : Nat.ble args.length Tryz.f96.ntmps = true) (hG : AllG w S G) (H : J Tryz.prog Tryz.f96 (retR Tryz.prog Tryz.f96 Rr) Tryz.f96.ntmps [.c sk96] (envOf 0 args) [] [] [([], w)] ⟨newS S [] w, [], G⟩) : Calls Tryz.prog 96 args.toArray w Rr :=
 calls_J Tryz.func96 bd96 rfl hl (Pre.none _ _) hG H
def sk97 : Sk := (.seq (.rg 0 false) (.seq (.rg 1 false) (.seq (.seq (.rg 2 false) (.cond (.tmp 12) (.seq (.rg 3 false) .ret) .skip)) (.seq (.seq (.rg 4 false) (.block 0 (.loop (.seq (.seq (.rg 5 false) (.cond (.tmp 19) .skip (.exit 0))) (.seq (.block 1 (.seq (.rg 7 false) (.seq (.rg 8 false) (.cond (.tmp 29) (.seq (.rg 9 false) (.rg 10 false)) .skip)))) (.rg 6 false)))))) (.seq (.rg 11 false) (.seq (.rg 12 false) .ret))))))
theorem bd97 : Tryz.f97.body = some (sk97.code Tryz.f97) := by kernel_rfl
theorem en97 {args : List Value} {w : World} {S : Nat → Prop} {M : List Nat} {C : List Chunk} {G : List (Value × D)} {Rr : Ending → World → Prop} (hl : Nat.ble args.length Tryz.f97.ntmps = true) (hp : Pre w S M C) (hG : AllG w S G) (H : J Tryz.prog Tryz.f97 (retR Tryz.prog Tryz.f97 Rr) Tryz.f97.ntmps [.c sk97] (envOf 0 args) [] [] [(M, w)] ⟨newS S M w, C, G⟩) : Calls Tryz.prog 97 args.toArray w Rr :=
 calls_J Tryz.func97 bd97 rfl hl hp hG H
def sk98 : Sk := (.seq (.rg 0 false) (.seq (.seq (.rg 1 false) (.cond (.tmp 4) (.seq (.rg 2 false) .ret) .skip)) (.seq (.rg 3 false) .ret)))
theorem bd98 : Tryz.f98.body = some (sk98.code Tryz.f98) := by kernel_rfl
theorem ep98 {args : List Value} {w : World} {S : Nat → Prop} {G : List (Value × D)} {Rr : Ending → World → Prop} (hl : Nat.ble args.length Tryz.f98.ntmps = true) (hG : AllG w S G) (H : J Tryz.prog Tryz.f98 (retR Tryz.prog Tryz.f98 Rr) Tryz.f98.ntmps [.c sk98] (envOf 0 args) [] [] [([], w)] ⟨newS S [] w, [], G⟩) : Calls Tryz.prog 98 args.toArray w Rr :=
 calls_J Tryz.func98 bd98 rfl hl (Pre.none _ _) hG H
def sk99 : Sk := (.seq (.rg 0 false) (.seq (.rg 1 false) .ret))
theorem bd99 : Tryz.f99.body = some (sk99.code Tryz.f99) := by kernel_rfl
theorem ep99 {args : List Value} {w : World} {S : Nat → Prop} {G : List (Value × D)} {Rr : Ending → World → Prop} (hl : Nat.ble args.length Tryz.f99.ntmps = true) (hG : AllG w S G) (H : J Tryz.prog Tryz.f99 (retR Tryz.prog Tryz.f99 Rr) Tryz.f99.ntmps [.c sk99] (envOf 0 args) [] [] [([], w)] ⟨newS S [] w, [], G⟩) : Calls Tryz.prog 99 args.toArray w Rr :=
 calls_J Tryz.func99 bd99 rfl hl (Pre.none _ _) hG H
def sk105 : Sk := (.seq (.rg 0 false) (.seq (.rg 1 false) .ret))
theorem bd105 : Tryz.f105.body = some (sk105.code Tryz.f105) := by kernel_rfl
theorem ep105 {args : List Value} {w : World} {S : Nat → Prop} {G : List (Value × D)} {Rr : Ending → World → Prop} (hl : Nat.ble args.length Tryz.f105.ntmps = true) (hG : AllG w S G) (H : J Tryz.prog Tryz.f105 (retR Tryz.prog Tryz.f105 Rr) Tryz.f105.ntmps [.c sk105] (envOf 0 args) [] [] [([], w)] ⟨newS S [] w, [], G⟩) : Calls Tryz.prog 105 args.toArray w Rr :=
 calls_J Tryz.func105 bd105 rfl hl (Pre.none _ _) hG H
def sk108 : Sk := (.seq (.rg 0 false) (.seq (.seq (.rg 1 false) (.cond (.tmp 4) (.seq (.rg 2 false) .ret) .skip)) (.seq (.rg 3 false) .ret)))
theorem bd108 : Tryz.f108.body = some (sk108.code Tryz.f108) := by kernel_rfl
theorem ep108 {args : List Value} {w : World} {S : Nat → Prop} {G : List (Value × D)} {Rr : Ending → World → Prop} (hl : Nat.ble args.length Tryz.f108.ntmps = true) (hG : AllG w S G) (H : J Tryz.prog Tryz.f108 (retR Tryz.prog Tryz.f108 Rr) Tryz.f108.ntmps [.c sk108] (envOf 0 args) [] [] [([], w)] ⟨newS S [] w, [], G⟩) : Calls Tryz.prog 108 args.toArray w Rr :=
 calls_J Tryz.func108 bd108 rfl hl (Pre.none _ _) hG H
def sk109 : Sk := (.seq (.rg 0 false) (.seq (.seq (.rg 1 false) (.cond (.tmp 4) (.seq (.rg 2 false) .ret) .skip)) (.seq (.rg 3 false) .ret)))
theorem bd109 : Tryz.f109.body = some (sk109.code Tryz.f109) := by kernel_rfl
theorem ep109 {args : List Value} {w : World} {S : Nat → Prop} {G : List (Value × D)} {Rr : Ending → World → Prop} (hl : Nat.ble args.length Tryz.f109.ntmps = true) (hG : AllG w S G) (H : J Tryz.prog Tryz.f109 (retR Tryz.prog Tryz.f109 Rr) Tryz.f109.ntmps [.c sk109] (envOf 0 args) [] [] [([], w)] ⟨newS S [] w, [], G⟩) : Calls Tryz.prog 109 args.toArray w Rr :=
 calls_J Tryz.func109 bd109 rfl hl (Pre.none _ _) hG H
def sk110 : Sk := (.seq (.rg 0 false) (.seq (.seq (.rg 1 false) (.seq (.rg 2 false) (.cond (.tmp 16) (.seq (.rg 3 false) .ret) .skip))) (.seq (.rg 4 false) (.seq (.seq (.rg 5 false) (.block 0 (.loop (.seq (.rg 6 false) (.seq (.cond (.tmp 21) .skip (.exit 0)) (.seq (.block 1 (.seq (.rg 7 false) (.rg 8 false))) (.rg 9 false))))))) (.seq (.rg 10 false) .ret)))))
theorem bd110 : Tryz.f110.body = some (sk110.code Tryz.f110) := by kernel_rfl
theorem ep110 {args : List Value} {w : World} {S : Nat → Prop} {G : List (Value × D)} {Rr : Ending → World → Prop} (hl : Nat.ble args.length Tryz.f110.ntmps = true) (hG : AllG w S G) (H : J Tryz.prog Tryz.f110 (retR Tryz.prog Tryz.f110 Rr) Tryz.f110.ntmps [.c sk110] (envOf 0 args) [] [] [([], w)] ⟨newS S [] w, [], G⟩) : Calls Tryz.prog 110 args.toArray w Rr :=
 calls_J Tryz.func110 bd110 rfl hl (Pre.none _ _) hG H
def sk111 : Sk := (.seq (.rg 0 false) (.seq (.rg 1 false) .ret))
theorem bd111 : Tryz.f111.body = some (sk111.code Tryz.f111) := by kernel_rfl
theorem ep111 {args : List Value} {w : World} {S : Nat → Prop} {G : List (Value × D)} {Rr : Ending → World → Prop} (hl : Nat.ble args.length Tryz.f111.ntmps = true) (hG : AllG w S G) (H : J Tryz.prog Tryz.f111 (retR Tryz.prog Tryz.f111 Rr) Tryz.f111.ntmps [.c sk111] (envOf 0 args) [] [] [([], w)] ⟨newS S [] w, [], G⟩) : Calls Tryz.prog 111 args.toArray w Rr :=
 calls_J Tryz.func111 bd111 rfl hl (Pre.none _ _) hG H
def sk120 : Sk := (.seq (.rg 0 false) (.seq (.seq (.rg 1 false) (.block 0 (.loop (.seq (.rg 2 false) (.seq (.cond (.tmp 9) .skip (.exit 0)) (.seq (.block 1 (.seq (.rg 3 false) (.seq (.rg 4 false) (.cond (.tmp 16) (.seq (.rg 5 false) .ret) .skip)))) (.rg 6 false))))))) (.seq (.rg 7 false) .ret)))
theorem bd120 : Tryz.f120.body = some (sk120.code Tryz.f120) := by kernel_rfl
theorem ep120 {args : List Value} {w : World} {S : Nat → Prop} {G : List (Value × D)} {Rr : Ending → World → Prop} (hl : Nat.ble args.length Tryz.f120.ntmps = true) (hG : AllG w S G) (H : J Tryz.prog Tryz.f120 (retR Tryz.prog Tryz.f120 Rr) Tryz.f120.ntmps [.c sk120] (envOf 0 args) [] [] [([], w)] ⟨newS S [] w, [], G⟩) : Calls Tryz.prog 120 args.toArray w Rr :=
 calls_J Tryz.func120 bd120 rfl hl (Pre.none _ _) hG H
def sk121 : Sk := (.seq (.rg 0 false) (.seq (.seq (.rg 1 false) (.block 0 (.loop (.seq (.rg 2 false) (.seq (.cond (.tmp 9) .skip (.exit 0)) (.seq (.block 1 (.seq (.rg 3 false) (.seq (.rg 4 false) (.cond (.tmp 16) (.seq (.rg 5 false) .ret) .skip)))) (.rg 6 false))))))) (.seq (.rg 7 false) .ret)))
theorem bd121 : Tryz.f121.body = some (sk121.code Tryz.f121) := by kernel_rfl
theorem ep121 {args : List Value} {w : World} {S : Nat → Prop} {G : List (Value × D)} {Rr : Ending → World → Prop} (hl : Nat.ble args.length Tryz.f121.ntmps = true) (hG : AllG w S G) (H : J Tryz.prog Tryz.f121 (retR Tryz.prog Tryz.f121 Rr) Tryz.f121.ntmps [.c sk121] (envOf 0 args) [] [] [([], w)] ⟨newS S [] w, [], G⟩) : Calls Tryz.prog 121 args.toArray w Rr :=
 calls_J Tryz.func121 bd121 rfl hl (Pre.none _ _) hG H
def sk123 : Sk := (.seq (.rg 0 false) (.seq (.seq (.rg 1 false) (.block 0 (.loop (.seq (.rg 2 false) (.seq (.cond (.tmp 9) .skip (.exit 0)) (.seq (.block 1 (.seq (.rg 3 false) (.seq (.rg 4 false) (.cond (.tmp 16) (.seq (.rg 5 false) .ret) .skip)))) (.rg 6 false))))))) (.seq (.rg 7 false) .ret)))
theorem bd123 : Tryz.f123.body = some (sk123.code Tryz.f123) := by kernel_rfl
theorem en123 {args : List Value} {w : World} {S : Nat → Prop} {M : List Nat} {C : List Chunk} {G : List (Value × D)} {Rr : Ending → World → Prop} (hl : Nat.ble args.length Tryz.f123.ntmps = true) (hp : Pre w S M C) (hG : AllG w S G) (H : J Tryz.prog Tryz.f123 (retR Tryz.prog Tryz.f123 Rr) Tryz.f123.ntmps [.c sk123] (envOf 0 args) [] [] [(M, w)] ⟨newS S M w, C, G⟩) : Calls Tryz.prog 123 args.toArray w Rr :=
 calls_J Tryz.func123 bd123 rfl hl hp hG H
end Go.Proofs.YtpjkiomccpjboaaGreatDoor
end
section
namespace Go.Proofs.YtpjkiomccpjboaaGreatDoor
open Go Go.Sx
theorem ownCommit {w0 : World} {S : Nat → Prop} {a1 a2 : Option Addr} {n1 c1 n2 c2 : Nat} {c : ComT} (h1 : Rep w0 S (.slice a1 n1 c1) (dInts c.when)) (h2 : Rep w0 S (.slice a2 n2 c2) (.sl 7 (c.ops.map eOp))) (hl1 : c.when.length ≤ 1000000) (hl2 : c.ops.length ≤ 1000000) (hl3 : ∀ o ∈ c.ops, o.dots.length ≤ 1000000) :
  Calls Tryz.prog 18 #[.agg #[.slice a1 n1 c1, .int .i64 c.place, .slice a2 n2 c2]] w0 fun e w' => ∃ b1 m1 d1 b2 m2 d2, Ret [] w0 S w' e (.agg #[.slice b1 m1 d1, .int .i64 c.place, .slice b2 m2 d2]) [] [(.slice b1 m1 d1, dInts c.when), (.slice b2 m2 d2, .sl 7 (c.ops.map eOp))] := by
 obtain rfl := rep_ints_len h1
 have e2 := h2.slen
 rw [List.length_map] at e2
 subst e2
 refine ep18 (args := [.agg #[.slice a1 c.when.length c1, .int .i64 c.place, .slice a2 c.ops.length c2]]) (G := [(_, dInts c.when), (_, .sl 7 (c.ops.map eOp))]) (by kernel_rfl) (.cons h1 (.cons h2 (.nil _ _))) ?_
 refine J_stp (stp_accm eI 3 1) ?_
 try simp only [cAp, nAp, aNl]
 refine Sq mixed [.wr 0 [] 0, .wr 1 [] 0] [] [1, 2] (fun nu1 => [zP 1 (nu1 0), zP 2 (nu1 1)]) (fun nu1 => [(nu1 0, .cells #[.slice a1 c.when.length c1, nI c.place, .slice a2 c.ops.length c2] 28 (0, 0)), (nu1 1, .cells #[.slice none 0 0, nI 0, .slice none 0 0] 28 (0, 0))]) (fun nu1 => ?_)
 refine Sq mixed [zR 0, .rd 1 [.o 0 none] 0 0, zR 2, .wr 3 [] 0, .wr 4 [.o 2 none, .o 2 none, .o 2 none] 0] [(4, [])] [1, 2, 3] (fun nu2 => [zP 1 (nu1 0), zP 2 (nu1 1), zP 3 (nu2 0)]) (fun nu2 => [(nu1 0, .cells #[.slice a1 c.when.length c1, nI c.place, .slice a2 c.ops.length c2] 28 (0, 0)), (nu1 1, .cells #[.slice none 0 0, nI 0, .slice none 0 0] 28 (0, 0)), (nu2 0, .cells #[.slice none 0 0, nI c.place, .slice none 0 0] 28 (0, 0))]) (fun nu2 => ?_)
 refine J_seq ?_
 refine jB mixed [(0, true), (1, true), (2, true), (3, true), (4, false), (5, true), (6, false)] [] ?_
 refine Gr (id := 2) (rest := [(4, false), (5, true), (6, false)]) [zR 0, .rd 1 [.o 2 none] 0 0, zR 2, .rd 3 [.o 0 none] 0 0] [1, 2, 3, 11, 13] (fun _ => [zP 1 (nu1 0), zP 2 (nu1 1), zP 3 (nu2 0), zS 11 none 0 0, zS 13 a1 c.when.length c1]) (fun _ => [(nu1 0, .cells #[.slice a1 c.when.length c1, nI c.place, .slice a2 c.ops.length c2] 28 (0, 0)), (nu1 1, .cells #[.slice none 0 0, nI 0, .slice none 0 0] 28 (0, 0)), (nu2 0, .cells #[.slice none 0 0, nI c.place, .slice none 0 0] 28 (0, 0))]) (fun _ => ?_)
 refine JR_appm 0 25 3 1 8 (.int .i64 0) (a0 := none) (len := 0) (cap0 := 0) (ax := a1) (m := c.when.length) (c := c1) (dst := (some 14)) c.when (by kernel_rfl) (by kernel_rfl) (by kernel_rfl) (by kernel_rfl) rfl (by decide) rfl (fun _ _ _ s => src_fact s 0 rfl (by decide)) (by simp only [maxLen]; omega) (by omega) (fun av1 cv1 => ?_)
 rw [Nat.zero_add]
 try simp only [cAp, nAp, aNl]
 refine Gr (id := 2) (rest := []) [zR 5, .wr 6 [.o 2 none] 0] [1, 2, 3] (fun _ => [zP 1 (nu1 0), zP 2 (nu1 1), zP 3 (nu2 0)]) (fun _ => [(nu1 0, .cells #[.slice a1 c.when.length c1, nI c.place, .slice a2 c.ops.length c2] 28 (0, 0)), (nu1 1, .cells #[.slice none 0 0, nI 0, .slice none 0 0] 28 (0, 0)), (nu2 0, .cells #[.slice av1 c.when.length cv1, nI c.place, .slice none 0 0] 28 (0, 0))]) (fun _ => ?_)
 try simp only [cAp, nAp, aNl]
 refine JR_end ?_
 try simp only [cAp, nAp, aNl]
 refine J_seq ?_
 try simp only [cAp, nAp, aNl]
 refine J_seq ?_
 try simp only [cAp, nAp, aNl]
 refine Gq mixed [zR 0] [] [1, 2, 3, 4] (fun _ => [zP 1 (nu1 0), zP 2 (nu1 1), zP 3 (nu2 0), zI 4 0]) (fun _ => [(nu1 0, .cells #[.slice a1 c.when.length c1, nI c.place, .slice a2 c.ops.length c2] 28 (0, 0)), (nu1 1, .cells #[.slice none 0 0, nI 0, .slice none 0 0] 28 (0, 0)), (nu2 0, .cells #[.slice av1 c.when.length cv1, nI c.place, .slice none 0 0] 28 (0, 0))]) (fun _ => ?_)
 try simp only [cAp, nAp, aNl]
 refine J_block ?_
 try simp only [cAp, nAp, aNl]
 refine J_stp (stp_freeze 0 rfl) ?_
 refine J_stp (stp_accm eOp 24 7) ?_
 refine J_loopx (fun x : AccI => [zP 1 (nu1 0), zP 2 (nu1 1), zP 3 (nu2 0), zI 4 x.i]) (fun x : AccI => [(nu1 0, .cells #[.slice a1 c.when.length c1, nI c.place, .slice a2 c.ops.length c2] 28 (0, 0)), (nu1 1, .cells #[.slice none 0 0, nI 0, .slice none 0 0] 28 (0, 0)), (nu2 0, .cells #[.slice av1 c.when.length cv1, nI c.place, .slice x.a x.k x.c] 28 (0, 0))]) (fun x : AccI => [cAcc (.slice x.a x.k x.c) 24 7 ((List.take x.i.toNat c.ops).map eOp)]) (fun x : AccI => [(.slice a1 c.when.length c1, (dInts c.when)), (.slice a2 c.ops.length c2, (D.sl 7 (List.map eOp c.ops))), (.slice av1 c.when.length cv1, (D.sl 1 (List.map eI c.when)))]) (fun x : AccI => (c.ops.length - x.i).toNat) (fun x : AccI => (0 ≤ x.i ∧ x.i ≤ c.ops.length)) ⟨0, none, 0, 0⟩ [1, 2, 3, 4] [0, 1, 2] [0] [0, 1, 2] ?_ (by kernel_rfl) rfl rfl rfl ?_
 ·exact ⟨by simp, by simp⟩
 rintro ⟨i, av, k, cv⟩ ⟨hi0, hi⟩
 dsimp only at hi0 hi ⊢
 refine J_stpx (stp_acclen 0 rfl) fun _ hk => ?_
 have hk2 : k ≤ c.ops.length := by simp at hk; omega
 refine J_seq ?_
 refine Sq mixed [zR 0, zR 1, .rd 2 [.o 0 none] 0 0, zR 3, zR 4] [] [1, 2, 3, 4, 20] (fun _ => [zP 1 (nu1 0), zP 2 (nu1 1), zP 3 (nu2 0), zI 4 i, zB 20 (decide (i < (↑c.ops.length : Int)))]) (fun _ => [(nu1 0, .cells #[.slice a1 c.when.length c1, nI c.place, .slice a2 c.ops.length c2] 28 (0, 0)), (nu1 1, .cells #[.slice none 0 0, nI 0, .slice none 0 0] 28 (0, 0)), (nu2 0, .cells #[.slice av1 c.when.length cv1, nI c.place, .slice av k cv] 28 (0, 0))]) (fun _ => ?_)
 refine cC (t := decide (i < (↑c.ops.length : Int))) (fun hlt => ?_) (fun hlt => ?_)
 ·have hlt2 : i < c.ops.length := by simpa using hlt
  obtain ⟨o, ho⟩ : ∃ o, c.ops[i.toNat]? = some o := ⟨_, List.getElem?_eq_getElem (by omega)⟩
  have hd : (o.dots.map eDot).length ≤ 1000000 := by simpa using hl3 o (List.mem_of_getElem? ho)
  refine J_read1 1 rfl i.toNat (map_at ho) (by kernel_rfl) (fun b1 off1 cs1 ty1 fz1 a1_0 c1_0 ha1 hrd1 => ?_)
  cases ha1
  have hrd1_0 := rd0 (hrd1 0 _ rfl)
  have hrd1_1 := hrd1 1 _ rfl
  have hrd1_2 := hrd1 2 _ rfl
  have hrd1_3 := hrd1 3 _ rfl
  have hrd1_4 := hrd1 4 _ rfl
  have hrd1_5 := hrd1 5 _ rfl
  have hrd1_6 := hrd1 6 _ rfl
  refine J_stp (stp_accm eDot 65 3) ?_
  try simp only [cAp, nAp, aNl]
  refine J_skip ?_
  refine J_seq ?_
  refine J_block ?_
  refine Sp mixed [zR 0, .rd 1 [.o 0 none] 0 0, zR 2, .rd 3 [] 0 2, .rd 4 [.r 0 (some (nI o.no)), .r 0 (some (.string o.key)), .r 0 (some (nI o.kind)), .r 0 (some (.string o.text)), .r 0 (some (nI o.n)), .r 0 (some (.bool o.remove)), .r 0 (some (.slice (a1_0, c1_0).fst ((List.map eDot o.dots).length) c1_0))] 0 0, .wr 5 [] 0, .wr 6 [.o 3 none, .o 3 none, .o 3 none, .o 3 none, .o 3 none, .o 3 none, .o 3 none] 0] [(6, [])] [1, 2, 3, 4, 5] (fun nu3 => [zP 1 (nu1 0), zP 2 (nu1 1), zP 3 (nu2 0), zI 4 i, zP 5 (nu3 0)]) (fun nu3 => [(nu1 0, .cells #[.slice a1 c.when.length c1, nI c.place, .slice (sA b1 off1) c.ops.length c2] 28 (0, 0)), (nu1 1, .cells #[.slice none 0 0, nI 0, .slice none 0 0] 28 (0, 0)), (nu2 0, .cells #[.slice av1 c.when.length cv1, nI c.place, .slice av k cv] 28 (0, 0)), (nu3 0, .cells #[nI o.no, .string o.key, nI o.kind, .string o.text, nI o.n, .bool o.remove, .slice (a1_0, c1_0).fst ((List.map eDot o.dots).length) c1_0] 24 (0, 0))]) (fun nu3 => [(0 : Int) ≤ i, i < (↑c.ops.length : Int), cs1[off1 + i.toNat * (7 : Nat)]? = some (nI o.no), cs1[off1 + i.toNat * (7 : Nat) + (1 : Nat)]? = some (Value.string o.key), cs1[off1 + i.toNat * (7 : Nat) + (2 : Nat)]? = some (nI o.kind), cs1[off1 + i.toNat * (7 : Nat) + (3 : Nat)]? = some (Value.string o.text), cs1[off1 + i.toNat * (7 : Nat) + (4 : Nat)]? = some (nI o.n), cs1[off1 + i.toNat * (7 : Nat) + (5 : Nat)]? = some (Value.bool o.remove), cs1[off1 + i.toNat * (7 : Nat) + (6 : Nat)]? = some (Value.slice (a1_0, c1_0).fst (List.map eDot o.dots).length (a1_0, c1_0).snd)]) (fun _ => ⟨hi0, hlt2, hrd1_0, hrd1_1, hrd1_2, hrd1_3, hrd1_4, hrd1_5, hrd1_6, trivial⟩) (fun nu3 => ?_)
  refine Sq mixed [zR 0] [] [1, 2, 3, 4, 5, 6] (fun _ => [zP 1 (nu1 0), zP 2 (nu1 1), zP 3 (nu2 0), zI 4 i, zP 5 (nu3 0), zS 6 none 0 0]) (fun _ => [(nu1 0, .cells #[.slice a1 c.when.length c1, nI c.place, .slice (sA b1 off1) c.ops.length c2] 28 (0, 0)), (nu1 1, .cells #[.slice none 0 0, nI 0, .slice none 0 0] 28 (0, 0)), (nu2 0, .cells #[.slice av1 c.when.length cv1, nI c.place, .slice av k cv] 28 (0, 0)), (nu3 0, .cells #[nI o.no, .string o.key, nI o.kind, .string o.text, nI o.n, .bool o.remove, .slice (a1_0, c1_0).fst ((List.map eDot o.dots).length) c1_0] 24 (0, 0))]) (fun _ => ?_)
  refine J_seq ?_
  refine jB mixed [(0, true), (1, true), (2, true), (3, true), (4, true), (5, true), (6, true), (7, false), (8, true), (9, false)] [] ?_
  refine Gs (id := 8) (rest := [(7, false), (8, true), (9, false)]) [zR 0, zR 1, .rd 2 [.o 0 none] 0 0, zR 3, .rd 4 [] 0 2, zR 5, .rd 6 [.r 0 (some (.slice (a1_0, c1_0).fst ((List.map eDot o.dots).length) c1_0))] 0 0] [1, 2, 3, 4, 5, 6, 28, 34] (fun _ => [zP 1 (nu1 0), zP 2 (nu1 1), zP 3 (nu2 0), zI 4 i, zP 5 (nu3 0), zS 6 none 0 0, zS 28 none 0 0, zS 34 (a1_0, c1_0).fst ((List.map eDot o.dots).length) c1_0]) (fun _ => [(nu1 0, .cells #[.slice a1 c.when.length c1, nI c.place, .slice (sA b1 off1) c.ops.length c2] 28 (0, 0)), (nu1 1, .cells #[.slice none 0 0, nI 0, .slice none 0 0] 28 (0, 0)), (nu2 0, .cells #[.slice av1 c.when.length cv1, nI c.place, .slice av k cv] 28 (0, 0)), (nu3 0, .cells #[nI o.no, .string o.key, nI o.kind, .string o.text, nI o.n, .bool o.remove, .slice (a1_0, c1_0).fst ((List.map eDot o.dots).length) c1_0] 24 (0, 0))]) (fun _ => [(0 : Int) ≤ i, i < (↑c.ops.length : Int), cs1[off1 + i.toNat * (7 : Nat) + (6 : Nat)]? = some (Value.slice (a1_0, c1_0).fst (List.map eDot o.dots).length (a1_0, c1_0).snd)]) (fun _ => ⟨hi0, hlt2, hrd1_6, trivial⟩) (fun _ => ?_)
  refine JR_appm 1 22 65 3 24 (.agg #[.int .i64 0, .int .i64 0, .int .i64 0]) (a0 := none) (len := 0) (cap0 := 0) (ax := (a1_0, c1_0).fst) (m := (List.map eDot o.dots).length) (c := c1_0) (dst := (some 35)) o.dots (by kernel_rfl) (by kernel_rfl) (by kernel_rfl) (by kernel_rfl) rfl (by decide) rfl (fun _ _ _ s => src_fact s 3 rfl (by decide)) (by simp only [maxLen]; omega) (by omega) (fun av2 cv2 => ?_)
  rw [Nat.zero_add]
  try simp only [cAp, nAp, aNl]
  refine Gr (id := 8) (rest := []) [zR 8, .wr 9 [.o 3 none] 0] [1, 2, 3, 4, 5, 6] (fun _ => [zP 1 (nu1 0), zP 2 (nu1 1), zP 3 (nu2 0), zI 4 i, zP 5 (nu3 0), zS 6 none 0 0]) (fun _ => [(nu1 0, .cells #[.slice a1 c.when.length c1, nI c.place, .slice (sA b1 off1) c.ops.length c2] 28 (0, 0)), (nu1 1, .cells #[.slice none 0 0, nI 0, .slice none 0 0] 28 (0, 0)), (nu2 0, .cells #[.slice av1 c.when.length cv1, nI c.place, .slice av k cv] 28 (0, 0)), (nu3 0, .cells #[nI o.no, .string o.key, nI o.kind, .string o.text, nI o.n, .bool o.remove, .slice av2 ((List.map eDot o.dots).length) cv2] 24 (0, 0))]) (fun _ => ?_)
  try simp only [cAp, nAp, aNl]
  refine JR_end ?_
  try simp only [cAp, nAp, aNl]
  refine J_stp (stp_freeze 1 rfl) ?_
  try simp only [cAp, nAp, aNl]
  refine jB mixed [(0, true), (1, true), (2, true), (3, false), (4, false), (5, true), (6, false)] [] ?_
  refine Gr (id := 9) (rest := [(4, false), (5, true), (6, false)]) [zR 0, .rd 1 [.o 2 none] 0 0, .rd 2 [.o 3 none, .o 3 none, .o 3 none, .o 3 none, .o 3 none, .o 3 none, .o 3 none] 0 0, .wr 3 [] 0] [1, 2, 3, 4, 5, 6, 38, 40] (fun nu4 => [zP 1 (nu1 0), zP 2 (nu1 1), zP 3 (nu2 0), zI 4 i, zP 5 (nu3 0), zS 6 none 0 0, zS 38 av k cv, zS 40 (sA (nu4 0) 0) 1 1]) (fun nu4 => [(nu1 0, .cells #[.slice a1 c.when.length c1, nI c.place, .slice (sA b1 off1) c.ops.length c2] 28 (0, 0)), (nu1 1, .cells #[.slice none 0 0, nI 0, .slice none 0 0] 28 (0, 0)), (nu2 0, .cells #[.slice av1 c.when.length cv1, nI c.place, .slice av k cv] 28 (0, 0)), (nu3 0, .cells #[nI o.no, .string o.key, nI o.kind, .string o.text, nI o.n, .bool o.remove, .slice av2 ((List.map eDot o.dots).length) cv2] 24 (0, 0)), (nu4 0, .cells #[nI o.no, .string o.key, nI o.kind, .string o.text, nI o.n, .bool o.remove, .slice av2 ((List.map eDot o.dots).length) cv2] 24 (0, 0))]) (fun nu4 => ?_)
  refine JR_appm 0 26 24 7 88 (.agg #[.int .i64 0, .string (ByteArray.mk #[]), .int .i64 0, .string (ByteArray.mk #[]), .int .i64 0, .bool false, .slice none 0 0]) (a0 := av) (len := k) (cap0 := cv) (ax := (some (⟨nu4 0, 0, none⟩))) (m := 1) (c := 1) (dst := (some 41)) [o] (by kernel_rfl) (by kernel_rfl) (by kernel_rfl) (by kernel_rfl) rfl (by decide) rfl (fun _ _ _ s => src_one s 4 rfl rfl ⟨.inl ⟨rfl, rfl⟩, ⟨.inl ⟨rfl, rfl⟩, ⟨.inl ⟨rfl, rfl⟩, ⟨.inl ⟨rfl, rfl⟩, ⟨.inl ⟨rfl, rfl⟩, ⟨.inl ⟨rfl, rfl⟩, ⟨.inr (.inl (List.mem_of_getElem? (i := 4) rfl)), trivial⟩⟩⟩⟩⟩⟩⟩) (by simp only [maxLen]; omega) (by omega) (fun av3 cv3 => ?_)
  try simp only [cAp, nAp, aNl]
  refine Gr (id := 9) (rest := []) [zR 5, .wr 6 [.o 2 none] 0] [1, 2, 3, 4, 5, 6] (fun _ => [zP 1 (nu1 0), zP 2 (nu1 1), zP 3 (nu2 0), zI 4 i, zP 5 (nu3 0), zS 6 none 0 0]) (fun _ => [(nu1 0, .cells #[.slice a1 c.when.length c1, nI c.place, .slice (sA b1 off1) c.ops.length c2] 28 (0, 0)), (nu1 1, .cells #[.slice none 0 0, nI 0, .slice none 0 0] 28 (0, 0)), (nu2 0, .cells #[.slice av1 c.when.length cv1, nI c.place, .slice av3 (k + 1) cv3] 28 (0, 0)), (nu3 0, .cells #[nI o.no, .string o.key, nI o.kind, .string o.text, nI o.n, .bool o.remove, .slice av2 ((List.map eDot o.dots).length) cv2] 24 (0, 0)), (nu4 0, .cells #[nI o.no, .string o.key, nI o.kind, .string o.text, nI o.n, .bool o.remove, .slice av2 ((List.map eDot o.dots).length) cv2] 24 (0, 0))]) (fun _ => ?_)
  try simp only [cAp, nAp, aNl]
  refine JR_end ?_
  try simp only [cAp, nAp, aNl]
  refine J_eb ?_
  try simp only [cAp, nAp, aNl]
  refine Gp mixed [zR 0, .rd 1 [] 0 1, zR 2] [] [1, 2, 3, 4, 5, 6] (fun _ => [zP 1 (nu1 0), zP 2 (nu1 1), zP 3 (nu2 0), zI 4 (i + 1), zP 5 (nu3 0), zS 6 none 0 0]) (fun _ => [(nu1 0, .cells #[.slice a1 c.when.length c1, nI c.place, .slice (sA b1 off1) c.ops.length c2] 28 (0, 0)), (nu1 1, .cells #[.slice none 0 0, nI 0, .slice none 0 0] 28 (0, 0)), (nu2 0, .cells #[.slice av1 c.when.length cv1, nI c.place, .slice av3 (k + 1) cv3] 28 (0, 0)), (nu3 0, .cells #[nI o.no, .string o.key, nI o.kind, .string o.text, nI o.n, .bool o.remove, .slice av2 ((List.map eDot o.dots).length) cv2] 24 (0, 0)), (nu4 0, .cells #[nI o.no, .string o.key, nI o.kind, .string o.text, nI o.n, .bool o.remove, .slice av2 ((List.map eDot o.dots).length) cv2] 24 (0, 0))]) (fun _ => [IntKind.i64.wrap (i + (1 : Int)) = i + (1 : Int)]) (fun _ => ⟨wrap_i64 (by omega) (by omega), trivial⟩) (fun _ => ?_)
  try simp only [cAp, nAp, aNl]
  rw [take_snoc hi0 ho]
  refine J_backx ⟨i + 1, av3, k + 1, cv3⟩ [1, 2, 3, 4] [0, 1, 2] [0] [0, 1, 2] ?_ ?_ (by kernel_rfl) rfl rfl rfl
  ·exact ⟨by simp only; omega, by simp only; omega⟩
  ·simp only
   omega
 ·refine J_exit rfl ?_
  refine Sq mixed [.rd 0 [.o 2 none, .o 2 none, .o 2 none] 0 0, .wr 1 [.o 1 none, .o 1 none, .o 1 none] 0] [(1, [1])] [2] (fun _ => [zP 2 (nu1 1)]) (fun _ => [(nu1 0, .cells #[.slice a1 c.when.length c1, nI c.place, .slice a2 c.ops.length c2] 28 (0, 0)), (nu1 1, .cells #[.slice av1 c.when.length cv1, nI c.place, .slice av k cv] 28 (0, 0)), (nu2 0, .cells #[.slice av1 c.when.length cv1, nI c.place, .slice av k cv] 28 (0, 0))]) (fun _ => ?_)
  refine J_return [[.o 1 none, .o 1 none, .o 1 none]] (.agg #[.slice av1 c.when.length cv1, .int .i64 c.place, .slice av k cv]) (by kernel_rfl) (fun a w s => ?_)
  have e : List.take i.toNat c.ops = c.ops := List.take_of_length_le (by simp at hlt; omega)
  rw [e] at hk s
  rw [List.length_map] at hk
  have s2 := s.stp (stp_freeze 0 rfl)
  exact ⟨_, _, _, _, _, _, s2.ret (by simp) [] [2, 3] rfl rfl⟩
end Go.Proofs.YtpjkiomccpjboaaGreatDoor
end
