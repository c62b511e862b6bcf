/- Part 4 of the texts of a claim: Tx11 Tx12 Tx13 Tx14 Dat MsgT Tk Mz. -/
import Derived.Laws.CopyRow
import Derived.Lib.ConvBytes
import Derived.Below
import Derived.Test.YtehdegekgdlifaaDoorProg
import Derived.KernelRfl
import Derived.Test.YtehdegekgdlifaaDoorTa3
section
namespace Go.Sx
open Go
theorem setRow_eq {w : World} {g : Nat} {cs cs' : Array Value} {e : TypeId} (hw : w.heap[g]? = some (.cells cs e (0, 0))) : w.setRow g cs' = { w with heap := w.heap.setIfInBounds g (.cells cs' e (0, 0)) } := by
  unfold World.setRow
  congr 1
  apply Array.ext_getElem?
  intro j
  rw [Array.getElem?_modify, Array.getElem?_setIfInBounds]
  by_cases hj : g = j
  · subst hj
    have : g < w.heap.size := (Array.getElem?_eq_some_iff.1 hw).1
    simp only [if_true, hw, Option.map_some, this]
  · simp [hj]
def seg (cur : Array Value) (o : Nat) (vs : List Value) : Array Value := (cur.toList.take o ++ vs ++ cur.toList.drop (o + vs.length)).toArray
def stOf (n : Nat) (ops : Array Oper) (E : Env) (i : Nat) : Option (Value × Value × TypeId × Option Tmp) :=
  match ops[i]? with
  | none => none
  | some o => if dstOk n o.dst then match o.guard with
    | some _ => none
    | none => match o.op with
      | .store t a x => match opsOk E none [a, x] with
        | some [] => some (rho E a, rho E x, t, o.dst)
        | _ => none
      | _ => none
    else none
section rows
variable {P : Program} {f : Func} [Pan f] {R : Act → World → Prop} {n : Nat} [Dfr n] {k : List Itm} {E : Env} {h r : List (Nat × Obj)} {F : List (List Nat × World)} {Y : Ghost}
theorem stOf_sound {ops : Array Oper} {i : Nat} {av xv : Value} {t : TypeId} {dst : Option Tmp} (he : stOf n ops E i = some (av, xv, t, dst))
    {a : Act} {w : World} {fps : List (List Nat)} (s : StF n E h r F Y a w fps) {K : Act → World → Prop}
    (H : ∃ w', (Instr.storeAt t av xv).run P w = .ok () w' ∧ ∀ a', Ag n (E.put dst (.val undef)) a' → K a' w') : wpOp P ops (wpK P f R k) i K a w := by
  unfold stOf at he
  split at he
  · cases he
  rename_i o ho
  split at he
  case isFalse => cases he
  rename_i hd
  split at he
  · cases he
  rename_i hg
  split at he
  case h_2 => cases he
  rename_i t' m x hc
  split at he
  case h_2 => cases he
  rename_i hq
  simp only [Option.some.injEq, Prod.mk.injEq] at he
  obtain ⟨rfl, rfl, rfl, rfl⟩ := he
  have hev := opsOk_sound s.ag (fun c w h => by cases h) _ _ hq trivial
  have e1 : a.eval m = rho E m := hev m (by simp)
  have e2 : a.eval x = rho E x := hev x (by simp)
  obtain ⟨w', hrun, hk⟩ := H
  unfold wpOp
  simp only [ho]
  rw [if_pos (by simp [Region.wanted, hg])]
  refine .inl ?_
  unfold Oper.wp execOp
  simp only [hc, Sem.run_bind, Sem.run_pure, Result.andThen_ok, e1, e2, hrun]
  exact hk _ (s.ag.put hd (.val undef))
theorem JR_storerow {id L0 i : Nat} {ck : Bool} {Wp : List (Nat × List Nat)} {rest : List (Nat × Bool)} (p g o t e : Nat) (v : Value) (vs : List Value) (dst : Option Tmp) {cur : Array Value} {size : Nat}
    (he : stOf n (rgOf f id) E i = some (.pointer (some ⟨g, o, none⟩), v, t, dst)) (hok : (!ck || okW L0 (Wp.lookup i) [p]) = true) (hi : (P.info? t).map (·.size) = some size) (hvs : v.cells.size = size) (hv2 : v.cells.toList = vs)
    (hp : h[p]? = some (g, .cells cur e (0, 0))) (hl : o + size ≤ cur.size) (h1 : ∀ u ∈ vs, u.oneCell' = true)
    (A : JR P f R n (rgOf f id) L0 ck rest (Wp.filter (·.1 != i)) k (E.put dst (.val undef)) (h.set p (g, .cells (seg cur o vs) e (0, 0))) r F Y) :
    JR P f R n (rgOf f id) L0 ck ((i, false) :: rest) Wp k E h r F Y := by
  subst hv2
  intro BB Hd fps a w s hH hR hN hW
  simp only [PW]
  have hb : w.heap[g]? = some (.cells cur e (0, 0)) := s.own.own _ (List.mem_of_getElem? hp)
  obtain ⟨inf, hinf, hz⟩ := Option.map_eq_some_iff.1 hi
  have hrun := run_storeCells_at (P := P) g o e v.cells.toList 0 cur w hb (by simpa [hvs] using hl) h1
  rw [setRow_eq hb, Nat.add_zero] at hrun
  refine stOf_sound he s ⟨{ w with heap := w.heap.setIfInBounds g (.cells (seg cur o v.cells.toList) e (0, 0)) }, ?_, fun a' hA => JR_setmap hok hp s hH hR hN hW hA A⟩
  have hsure : (Instr.sureAddr (.pointer (some ⟨g, o, none⟩))).run P w = .ok ⟨g, o, none⟩ w := rfl
  have hst : (storeVar t ⟨g, o, none⟩ v).run P w = .ok () { w with heap := w.heap.setIfInBounds g (.cells (seg cur o v.cells.toList) e (0, 0)) } := by
    have hsz : (sizeOf t).run P w = .ok size w := by simp [sizeOf, typeInfo, hinf, hz, Result.andThen]
    simp only [storeVar, Sem.run_bind, hsz, Result.andThen_ok]
    rw [if_neg (by simp [hvs])]
    simpa [seg] using hrun
  simp only [Instr.storeAt, Sem.run_bind, hsure, Result.andThen_ok, hst]
end rows
theorem seg_len {cur : Array Value} {o : Nat} {vs : List Value} (h : o + vs.length ≤ cur.size) : (seg cur o vs).size = cur.size := by
  simp [seg]
  omega
theorem Row.cut {cur : Array Value} {cap n size : Nat} {xs : List Value} (h : Row cur cap n size xs) {i : Nat} (hi : i ≤ n) : Row cur cap i size (xs.take (i * size)) := by
  have hle : i * size ≤ n * size := Nat.mul_le_mul_right size hi
  refine ⟨?_, h.siz, Nat.le_trans hi h.le, h.max, ?_⟩
  · rw [List.length_take, h.len]
    omega
  · rw [← h.take, List.take_take]
    congr 1
    omega
theorem Row.turn {cur : Array Value} {cap n size : Nat} {xs vs : List Value} (h : Row cur cap n size xs) {i : Nat} (hi : i < n) (hv : vs.length = size) : Row (seg cur (i * size) vs) cap n size (xs.take (i * size) ++ vs ++ xs.drop (i * size + size)) := by
  have h1 : i * size + size ≤ n * size := by
    have := Nat.mul_le_mul_right size (Nat.succ_le_of_lt hi)
    rwa [Nat.succ_mul] at this
  have h2 : n * size ≤ cap * size := Nat.mul_le_mul_right size h.le
  have hs := h.siz
  refine ⟨?_, ?_, h.le, h.max, ?_⟩
  · simp only [List.length_append, List.length_take, List.length_drop, h.len, hv]
    omega
  · rw [seg_len (by omega)]
    exact hs
  · rw [← h.take]
    apply List.ext_getElem?
    intro j
    simp only [seg, List.getElem?_take, List.getElem?_append, List.length_append, List.length_take, List.getElem?_drop, Array.length_toList, hv]
    by_cases hj : j < n * size
    · rw [if_pos hj]
      have e1 : min (i * size) cur.size = i * size := by omega
      have e2 : min (i * size) (min (n * size) cur.size) = i * size := by omega
      rw [e1, e2]
      by_cases hj1 : j < i * size
      · have e3 : j < i * size + size := by omega
        simp [hj1, hj, e3]
      · by_cases hj2 : j < i * size + size
        · simp [hj1, hj2]
        · have hlt : i * size + size + (j - (i * size + size)) < n * size := by omega
          simp [hj2, hlt]
    · rw [if_neg hj]
      have e2 : min (i * size) (min (n * size) cur.size) = i * size := by omega
      rw [e2]
      have hj1 : ¬ j < i * size + size := by omega
      have hj3 : ¬ i * size + size + (j - (i * size + size)) < n * size := by omega
      simp [hj1, hj3]
theorem Row.atx {cur : Array Value} {cap n size : Nat} {xs : List Value} (h : Row cur cap n size xs) {j : Nat} {u : Value} (hu : xs[j]? = some u) : cur[j]? = some u := by
  have hj := (List.getElem?_eq_some_iff.1 hu).1
  rw [h.len] at hj
  rw [h.at hj, hu]
theorem Row.set1 {cur : Array Value} {cap n size : Nat} {xs : List Value} (h : Row cur cap n size xs) (o : Nat) (v : Value) : Row (cur.setIfInBounds o v) cap n size (xs.set o v) :=
  ⟨by rw [List.length_set, h.len], by rw [Array.size_setIfInBounds, h.siz], h.le, h.max, by rw [Array.toList_setIfInBounds, List.take_set, h.take]⟩
def cRows (xs : List Value) (k : Nat) (rows : List (List D)) : Chunk where
  P w S fp := fp = [] ∧ RowsAt w S xs k rows
  mono := by
    intro w w' S S' fp h _ hS
    exact ⟨h.1, h.2.mono hS⟩
section more0
variable {P : Program} {f : Func} [Pan f] {R : Act → World → Prop} {n : Nat} [Dfr n] {kk : List Itm} {E : Env} {h r : List (Nat × Obj)} {F : List (List Nat × World)} {Y : Ghost}
theorem StF.hide1 {a : Act} {w : World} {fps : List (List Nat)} (s : StF n E h r F Y a w fps) (p : Nat) {b : Nat} {o : Obj} (hp : h[p]? = some (b, o)) : StF n E (h.eraseIdx p) r F ⟨Y.S, Y.C ++ [cObj b o], Y.G⟩ a w (fps ++ [[b]]) := by
  have hm : ∀ x ∈ h.eraseIdx p, x ∈ h := fun x hx => (List.eraseIdx_sublist h p).subset hx
  have hid : ∀ c, c ∈ (h.eraseIdx p).map (·.1) → c ∈ h.map (·.1) := fun c hc => by
    obtain ⟨x, hx, rfl⟩ := List.mem_map.1 hc
    exact List.mem_map.2 ⟨x, hm x hx, rfl⟩
  have hnot : b ∉ (h.eraseIdx p).map (·.1) := fun hc => by
    obtain ⟨x, hx, hxb⟩ := List.mem_map.1 hc
    obtain ⟨j, hj, he⟩ := List.mem_eraseIdx_iff_getElem?.1 hx
    have h1 : (h.map (·.1))[j]? = some b := by simp [he, hxb]
    have h2 : (h.map (·.1))[p]? = some b := by simp [hp]
    exact hj ((List.getElem?_inj (List.getElem?_eq_some_iff.1 h1).1 s.own.nodup).1 (h1.trans h2.symm))
  have hbm : (b, o) ∈ h := List.mem_of_getElem? hp
  have e : (fps ++ [[b]]).flatten = fps.flatten ++ [b] := by simp
  have hS : ∀ c, Sd Y h fps c → Sd Y (h.eraseIdx p) (fps ++ [[b]]) c := fun c hc => ⟨hc.1, fun hx => hc.2.1 (hid c hx), fun hx => by
    rw [e] at hx
    rcases List.mem_append.1 hx with hx | hx
    · exact hc.2.2 hx
    · rw [List.mem_singleton] at hx
      subst hx
      exact hc.2.1 (List.mem_map.2 ⟨_, hbm, rfl⟩)⟩
  have hin : ∀ c, c ∈ (fps ++ [[b]]).flatten → c ∈ fps.flatten ∨ c = b := fun c hc => by
    rw [e] at hc
    simpa using hc
  refine ⟨s.ag, ⟨fun x hx => s.own.own x (hm x hx), ((List.eraseIdx_sublist h p).map _).nodup s.own.nodup, s.own.ro, fun x hx hc => s.own.apart x hx (hid _ hc)⟩, s.fr, fun f hf x hx => s.may f hf x (hm x hx),
    ⟨(s.gh.chs.mono (fun _ _ => rfl) fun c hc _ => ⟨hS c hc, rfl⟩).app ⟨⟨rfl, s.own.own _ hbm⟩, trivial⟩, ?_, fun c hc hx => ?_, fun x hx hc => ?_, fun f hf c hc => ?_, fun c hc => ?_, fun x hx => s.gh.own x (hm x hx), fun c hc => ?_, s.gh.top, fun x hx => (s.gh.g x hx).mono fun c hc _ => ⟨hS c hc, rfl⟩⟩⟩
  · rw [e, List.nodup_append]
    refine ⟨s.gh.nodup, by simp, fun x hx y hy hxy => ?_⟩
    simp at hy
    subst hy hxy
    exact s.gh.disj _ hx (List.mem_map.2 ⟨_, hbm, rfl⟩)
  · rcases hin c hc with h1 | rfl
    · exact s.gh.disj c h1 (hid c hx)
    · exact hnot hx
  · rcases hin _ hc with h1 | h1
    · exact s.gh.apart x hx h1
    · exact s.own.apart x hx (List.mem_map.2 ⟨_, hbm, h1.symm⟩)
  · rcases hin c hc with h1 | rfl
    · exact s.gh.may f hf c h1
    · exact s.may f hf _ hbm
  · rcases hin c hc with h1 | rfl
    · exact s.gh.lt c h1
    · exact s.own.own.lt hbm
  · rcases hin c hc with h1 | rfl
    · exact s.gh.hid c h1
    · exact s.gh.own _ hbm
end more0
section more
variable {P : Program} {f : Func} [Pan f] {R : Act → World → Prop} {n : Nat} [Dfr n] {kk : List Itm} {E : Env} {h r : List (Nat × Obj)} {F : List (List Nat × World)}
def accParts (a : Option Addr) (m c e k : Nat) (rows : List (List D)) (x : Nat × Array Value × List Value) : Chunk := cStar [cPure (a = some ⟨x.1, 0, none⟩ ∧ m = rows.length ∧ 0 < k ∧ Row x.2.1 c rows.length k x.2.2), cObj x.1 (.cells x.2.1 e (0, 0)), cRows x.2.2 k rows]
theorem J_openacc {S0 : Nat → Prop} {C0 : List Chunk} {G0 : List (Value × D)} (q : Nat) {a : Option Addr} {m c e k : Nat} {rows : List (List D)} (hq : C0[q]? = some (cAcc (.slice a m c) e k rows)) (hne : rows ≠ [])
    (H : ∀ g cur xs, a = some ⟨g, 0, none⟩ → m = rows.length → 0 < k → Row cur c rows.length k xs → J P f R n kk E (h ++ [(g, .cells cur e (0, 0))]) r F ⟨S0, C0.eraseIdx q ++ [cRows xs k rows], G0⟩) : J P f R n kk E h r F ⟨S0, C0, G0⟩ := by
  have hv : (cAcc (.slice a m c) e k rows).eqv (cExi (accParts a m c e k rows)) := by
    intro w S fp ⟨hk, hP⟩
    rcases hP with ⟨h1, _⟩ | ⟨g, cap, cur, xs, h1, rfl, h3, h4, h5⟩
    · exact absurd h1 hne
    · cases h1
      have hch : Chs w S [cPure (some (⟨g, 0, none⟩ : Addr) = some ⟨g, 0, none⟩ ∧ rows.length = rows.length ∧ 0 < k ∧ Row cur c rows.length k xs), cObj g (.cells cur e (0, 0)), cRows xs k rows] [[], [g], []] := ⟨⟨rfl, rfl, rfl, hk, h4⟩, ⟨rfl, h3⟩, ⟨rfl, h5⟩, trivial⟩
      exact ⟨(g, cur, xs), [[], [g], []], by simp, hch⟩
  refine J_stp (stp_conv q hq hv) ?_
  have hql := (List.getElem?_eq_some_iff.1 hq).1
  refine J_stpx (stp_exi (g := accParts a m c e k rows) q (by rw [List.getElem?_set_self hql])) fun x _ => ?_
  obtain ⟨g, cur, xs⟩ := x
  rw [List.set_set]
  refine J_stp (stp_star (cs := [cPure (a = some ⟨g, 0, none⟩ ∧ m = rows.length ∧ 0 < k ∧ Row cur c rows.length k xs), cObj g (.cells cur e (0, 0)), cRows xs k rows]) q (by rw [List.getElem?_set_self hql]; rfl)) ?_
  have e0 : ∀ y : Chunk, (C0.set q y).eraseIdx q = C0.eraseIdx q := fun y => by
    apply List.ext_getElem?
    intro j
    rw [List.getElem?_eraseIdx, List.getElem?_eraseIdx]
    split
    · rw [List.getElem?_set_ne (by omega)]
    · rw [List.getElem?_set_ne (by omega)]
  rw [e0]
  have hl : (C0.eraseIdx q).length = C0.length - 1 := by rw [List.length_eraseIdx, if_pos hql]
  refine J_stpx (stp_pure (p := a = some ⟨g, 0, none⟩ ∧ m = rows.length ∧ 0 < k ∧ Row cur c rows.length k xs) (C0.eraseIdx q).length (by rw [List.getElem?_append_right (Nat.le_refl _), Nat.sub_self]; rfl)) fun _ hp => ?_
  rw [List.eraseIdx_append_of_length_le (Nat.le_refl _)]
  simp only [Nat.sub_self, List.eraseIdx_cons_zero]
  refine J_show (b := g) (o := .cells cur e (0, 0)) (C0.eraseIdx q).length (by rw [List.getElem?_append_right (Nat.le_refl _), Nat.sub_self]; rfl) ?_
  rw [List.eraseIdx_append_of_length_le (Nat.le_refl _)]
  simp only [Nat.sub_self, List.eraseIdx_cons_zero]
  exact H g cur xs hp.1 hp.2.1 hp.2.2.1 hp.2.2.2
theorem stp_readrows {S0 : Nat → Prop} {C0 : List Chunk} {G0 : List (Value × D)} (q : Nat) {xs : List Value} {k : Nat} {rows : List (List D)} (hq : C0[q]? = some (cRows xs k rows)) (i : Nat) {row : List D} (hrow : rows[i]? = some row) :
    Stp h r F ⟨S0, C0, G0⟩ (fun ls : List (Option Addr × Nat) => ls.length = sls row ∧ ∀ (j : Nat) u, (inst row ls)[j]? = some u → xs[i * k + j]? = some u) fun ls => ⟨S0, C0, G0 ++ deep row ls⟩ := by
  intro w fps hO H
  obtain ⟨fp, hfp, _, hP⟩ := H.chs.at hq
  have hu : ∀ j d, row[j]? = some d → ∃ u, xs[i * k + j]? = some u ∧ Rep w (Sd ⟨S0, C0, G0⟩ h fps) u d := fun j d hd => hP.rep i j row d hrow hd
  obtain ⟨ls, h1, h2, h3⟩ := inst_ex row (fun j => xs.getD (i * k + j) undef) fun j d hd => by
    obtain ⟨u, hu1, hu2⟩ := hu j d hd
    simpa [List.getD_eq_getElem?_getD, hu1] using hu2
  refine ⟨ls, fps, ⟨h1, fun j u hj => ?_⟩, fun _ hb => hb, H.less (fun _ hb => hb) H.nodup H.chs fun x hx => ?_⟩
  · have hjl : j < row.length := by
      have := (List.getElem?_eq_some_iff.1 hj).1
      rwa [inst_len] at this
    obtain ⟨u', hu1, _⟩ := hu j _ (List.getElem?_eq_getElem hjl)
    have := h2 j u hj
    rw [this]
    simp [List.getD_eq_getElem?_getD, hu1]
  · rcases List.mem_append.1 hx with hx | hx
    · exact H.g x hx
    · exact h3 x hx
theorem RowsAt.set {w : World} {S : Nat → Prop} {xs : List Value} {k : Nat} {rows : List (List D)} (h : RowsAt w S xs k rows) (hl : xs.length = rows.length * k) {i j : Nat} {row : List D} {v : Value} {d : D} (hrow : rows[i]? = some row) (hj : j < k) (hv : Rep w S v d) :
    RowsAt w S (xs.set (i * k + j) v) k (rows.set i (row.set j d)) := by
  have hil := (List.getElem?_eq_some_iff.1 hrow).1
  refine ⟨fun row' hr => ?_, fun i' j' row' d' hi' hj' => ?_⟩
  · rcases List.mem_or_eq_of_mem_set hr with hr | rfl
    · exact h.len row' hr
    · rw [List.length_set]
      exact h.len row (List.mem_of_getElem? hrow)
  · by_cases hii : i = i'
    · subst hii
      rw [List.getElem?_set_self hil] at hi'
      cases hi'
      by_cases hjj : j = j'
      · subst hjj
        have hjl := (List.getElem?_eq_some_iff.1 hj').1
        rw [List.length_set] at hjl
        rw [List.getElem?_set_self hjl] at hj'
        cases hj'
        exact ⟨v, by rw [List.getElem?_set_self (by rw [hl]; exact idx_lt hil hj)], hv⟩
      · rw [List.getElem?_set_ne hjj] at hj'
        obtain ⟨u, h1, h2⟩ := h.rep i j' row d' hrow hj'
        exact ⟨u, by rw [List.getElem?_set_ne (by omega)]; exact h1, h2⟩
    · rw [List.getElem?_set_ne hii] at hi'
      obtain ⟨u, h1, h2⟩ := h.rep i' j' row' d' hi' hj'
      have hjl : j' < k := by
        rw [← h.len row' (List.mem_of_getElem? hi')]
        exact (List.getElem?_eq_some_iff.1 hj').1
      refine ⟨u, ?_, h2⟩
      rw [List.getElem?_set_ne ?_]
      · exact h1
      · intro he
        rcases Nat.lt_or_gt_of_ne hii with h3 | h3
        · have := Nat.mul_le_mul_right k (Nat.succ_le_of_lt h3)
          rw [Nat.succ_mul] at this
          omega
        · have := Nat.mul_le_mul_right k (Nat.succ_le_of_lt h3)
          rw [Nat.succ_mul] at this
          omega
theorem stp_setrows {S0 : Nat → Prop} {C0 : List Chunk} {G0 : List (Value × D)} (q p i j : Nat) {xs : List Value} {k : Nat} {rows : List (List D)} {row : List D} {v : Value} {d : D} (hq : C0[q]? = some (cRows xs k rows)) (hl : xs.length = rows.length * k) (hrow : rows[i]? = some row) (hj : j < k) (hp : G0[p]? = some (v, d)) :
    Stp h r F ⟨S0, C0, G0⟩ (fun _ : Unit => True) fun _ => ⟨S0, C0.set q (cRows (xs.set (i * k + j) v) k (rows.set i (row.set j d))), G0⟩ := by
  intro w fps hO H
  obtain ⟨fp, hfp, hnil, hP⟩ := H.chs.at hq
  have hc : (cRows (xs.set (i * k + j) v) k (rows.set i (row.set j d))).P w (Sd ⟨S0, C0, G0⟩ h fps) fp := ⟨hnil, hP.set hl hrow hj (H.g _ (List.mem_of_getElem? hp))⟩
  have hs := H.chs.set hc (i := q)
  have e : fps.set q fp = fps := set_same hfp
  rw [e] at hs
  exact ⟨(), fps, trivial, fun _ hb => hb, H.less (fun _ hb => hb) H.nodup hs H.g⟩
theorem stp_closeacc {S0 : Nat → Prop} {C0 : List Chunk} {G0 : List (Value × D)} (q1 q2 : Nat) {g c e k : Nat} {cur : Array Value} {xs : List Value} {rows : List (List D)} (h1 : C0[q1]? = some (cObj g (.cells cur e (0, 0)))) (h2 : C0[q2]? = some (cRows xs k rows)) (hrow : Row cur c rows.length k xs) (hk : 0 < k) :
    Stp h r F ⟨S0, C0, G0⟩ (fun _ : Unit => True) fun _ => ⟨S0, pick C0 (others C0.length [q1, q2]) ++ [cAcc (.slice (some ⟨g, 0, none⟩) rows.length c) e k rows], G0⟩ := by
  intro w fps hO H
  obtain ⟨fp1, hf1, rfl, hb⟩ := H.chs.at h1
  obtain ⟨fp2, hf2, rfl, hR⟩ := H.chs.at h2
  have hlen := H.chs.len
  have hq1 : q1 < C0.length := (List.getElem?_eq_some_iff.1 h1).1
  have hnd : (others C0.length [q1, q2] ++ [q1]).Nodup := by
    rw [List.nodup_append]
    refine ⟨List.Nodup.sublist List.filter_sublist List.nodup_range, by simp, fun x hx y hy hxy => ?_⟩
    simp only [List.mem_singleton] at hy
    subst hy hxy
    simp [others] at hx
  have hE : pick fps (others C0.length [q1, q2]) ++ [[g]] = pick fps (others C0.length [q1, q2] ++ [q1]) := by
    rw [pick_app]
    simp [pick, hf1]
  have hsub : ∀ b ∈ (pick fps (others C0.length [q1, q2]) ++ [[g]]).flatten, b ∈ fps.flatten := fun b hb => by
    rw [hE] at hb
    exact pick_flat_sub hb
  have hS : ∀ b, Sd ⟨S0, C0, G0⟩ h fps b → Sd ⟨S0, C0, G0⟩ h (pick fps (others C0.length [q1, q2]) ++ [[g]]) b := fun b hb => Sd_sub hsub hb
  refine ⟨(), _, trivial, hsub, H.less hsub (by rw [hE]; exact pick_flat_nodup H.nodup hnd) ?_ fun x hx => (H.g x hx).mono fun b hb _ => ⟨hS b hb, rfl⟩⟩
  have hc : (cAcc (.slice (some ⟨g, 0, none⟩) rows.length c) e k rows).P w (Sd ⟨S0, C0, G0⟩ h (pick fps (others C0.length [q1, q2]) ++ [[g]])) [g] := ⟨hk, .inr ⟨g, c, cur, xs, rfl, rfl, hb, hrow, hR.mono fun b hb _ => ⟨hS b hb, rfl⟩⟩⟩
  exact ((H.chs.pick _).mono (fun _ _ => rfl) fun b hb _ => ⟨hS b hb, rfl⟩).app (show Chs w _ [_] [[g]] from ⟨hc, trivial⟩)
theorem accz_eqv (b e k : Nat) (hk : 0 < k) : (cObj b (.cells #[] e (0, 0))).eqv (cAcc (.slice (some ⟨b, 0, none⟩) 0 0) e k []) := fun w S fp h =>
  ⟨hk, .inr ⟨b, 0, #[], [], rfl, h.1, h.2, ⟨by simp, by simp, Nat.le_refl _, Nat.zero_le _, by simp⟩, RowsAt.nil _ _ _ _⟩⟩
theorem JR_accz {S0 : Nat → Prop} {C0 : List Chunk} {G0 : List (Value × D)} {ops : Array Oper} {L0 : Nat} {ck : Bool} {plan : List (Nat × Bool)} {Wp : List (Nat × List Nat)} (p k : Nat) {b e : Nat} (hp : h[p]? = some (b, .cells #[] e (0, 0))) (hL : Nat.ble L0 p = true) (hk : 0 < k)
    (H : JR P f R n ops L0 ck plan Wp kk E (h.eraseIdx p) r F ⟨S0, C0 ++ [cAcc (.slice (some ⟨b, 0, none⟩) 0 0) e k []], G0⟩) : JR P f R n ops L0 ck plan Wp kk E h r F ⟨S0, C0, G0⟩ := by
  have H2 : JR P f R n ops L0 ck plan Wp kk E (h.eraseIdx p) r F ⟨S0, C0 ++ [cObj b (.cells #[] e (0, 0))], G0⟩ := by
    refine JR_stp (stp_conv C0.length (by simp) (accz_eqv b e k hk)) ?_
    simpa using H
  intro B Hd fps a w s hH hR2 hN hW
  have hLp := Nat.le_of_ble_eq_true hL
  have hpl := (List.getElem?_eq_some_iff.1 hp).1
  have hsame : ∀ i : Nat, i < L0 → (h.eraseIdx p)[i]? = h[i]? := fun i hi => by rw [List.getElem?_eraseIdx]; simp [show i < p by omega]
  have hids : idsW Hd (h.eraseIdx p) Wp = idsW Hd h Wp := by
    unfold idsW
    refine List.map_congr_left fun y hy => ?_
    congr 2
    have h1 := List.all_eq_true.1 hW y hy
    exact filterMap_same _ _ _ fun q hq => by rw [hsame q (blt_lt (List.all_eq_true.1 h1 q hq))]
  have := H2 B Hd _ a w (s.hide1 p hp) (fun c hc => by
    rw [List.flatten_append] at hc
    rcases List.mem_append.1 hc with hc | hc
    · exact hH c hc
    · simp only [List.flatten_cons, List.flatten_nil, List.append_nil, List.mem_singleton] at hc
      subst hc
      exact .inr (hN p hLp _ hp)) ⟨fun i hi x hx => hR2.old i hi x (by rw [← hsame i hi]; exact hx), hR2.ro, by rw [List.length_eraseIdx]; simp only [hpl, if_true]; have := hR2.len; omega, hR2.size⟩ (fun j hj x hx => by
    rw [List.getElem?_eraseIdx] at hx
    split at hx
    · exact hN j hj x hx
    · exact hN (j + 1) (by omega) x hx) hW
  rwa [hids] at this
theorem JR_acczm {β : Type} (enc : β → List D) {S0 : Nat → Prop} {C0 : List Chunk} {G0 : List (Value × D)} {ops : Array Oper} {L0 : Nat} {ck : Bool} {plan : List (Nat × Bool)} {Wp : List (Nat × List Nat)} (p k : Nat) {b e : Nat} (hp : h[p]? = some (b, .cells #[] e (0, 0))) (hL : Nat.ble L0 p = true) (hk : 0 < k)
    (H : JR P f R n ops L0 ck plan Wp kk E (h.eraseIdx p) r F ⟨S0, C0 ++ [cAcc (.slice (some ⟨b, 0, none⟩) 0 0) e k (([] : List β).map enc)], G0⟩) : JR P f R n ops L0 ck plan Wp kk E h r F ⟨S0, C0, G0⟩ := JR_accz p k hp hL hk H
end more
end Go.Sx
end
section
namespace Go.Sx
open Go Go.MapKept
def KeptP (w : World) (S : Nat → Prop) (g : Value → Option Value) (K : Value → Option (List D)) : Prop :=
  (∀ key, K key = none → g key = none) ∧ ∀ key row, K key = some row → ∃ us : List Value, g key = some (.agg us.toArray) ∧ us.length = row.length ∧ ∀ (j : Nat) d, row[j]? = some d → ∃ u, us[j]? = some u ∧ Rep w S u d
theorem KeptP.mono {w w' : World} {S S' : Nat → Prop} {g : Value → Option Value} {K : Value → Option (List D)} (h : KeptP w S g K) (hS : ∀ b, S b → b < w.heap.size → S' b ∧ w'.heap[b]? = w.heap[b]?) : KeptP w' S' g K :=
  ⟨h.1, fun key row hr => by
    obtain ⟨us, h1, h2, h3⟩ := h.2 key row hr
    exact ⟨us, h1, h2, fun j d hd => by
      obtain ⟨u, h4, h5⟩ := h3 j d hd
      exact ⟨u, h4, h5.mono hS⟩⟩⟩
def cMap (b : Nat) (d : TypeDesc) (K : Value → Option (List D)) : Chunk where
  P w S fp := fp = [b] ∧ ∃ es clock g, w.heap[b]? = some (.map es clock) ∧ MapOf d es g ∧ KeptP w S g K
  mono := by
    intro w w' S S' fp ⟨h, es, clock, g, h1, h2, h3⟩ hb hS
    exact ⟨h, es, clock, g, (hb _ (by rw [h]; simp)).trans h1, h2, h3.mono hS⟩
theorem map0_eqv (mb clock : Nat) (d : TypeDesc) : (cObj mb (.map #[] clock)).eqv (cMap mb d fun _ => none) := fun _ _ _ h =>
  ⟨h.1, #[], clock, fun _ => none, h.2, MapOf.empty d, fun _ _ => rfl, fun _ _ hk => by cases hk⟩
end Go.Sx
end
section
namespace Go.Sx
open Go
abbrev eB (b : UInt8) : List D := [.v (.int .u8 b.toNat)]
abbrev dBytes (s : ByteArray) : D := .sl 1 (s.data.toList.map eB)
def cvOf (n : Nat) (ops : Array Oper) (E : Env) (i : Nat) : Option (TypeId × TypeId × Value × Option Tmp × List Ob) :=
  match ops[i]? with
  | none => none
  | some o => if dstOk n o.dst && !isSel o.op then match (match o.guard with
      | none => some (none, [])
      | some (j, want) => (guardOf E ops j).map fun c => (some (c, want), [.bb c want])) with
    | none => none
    | some (cd, g) => match opsOk E cd o.op.operands.toList with
      | none => none
      | some q => match o.op with
        | .convert src dt x => some (src, dt, rho E x, o.dst, g ++ q)
        | _ => none
    else none
def ixOf (n : Nat) (ops : Array Oper) (E : Env) (i : Nat) : Option (TypeId × Value × Value × Option Tmp × List Ob) :=
  match ops[i]? with
  | none => none
  | some o => if dstOk n o.dst && !isSel o.op then match (match o.guard with
      | none => some (none, [])
      | some (j, want) => (guardOf E ops j).map fun c => (some (c, want), [.bb c want])) with
    | none => none
    | some (cd, g) => match opsOk E cd o.op.operands.toList with
      | none => none
      | some q => match o.op with
        | .index t x ix => some (t, rho E x, rho E ix, o.dst, g ++ q)
        | _ => none
    else none
def chkCv (x : Option (TypeId × TypeId × Value × Option Tmp × List Ob)) : Option (TypeId × TypeId × Value × Option Tmp) × (List Nat × List Bool × List (Option Nat)) × Nat := match x with
  | some y => (some (y.1, y.2.1, y.2.2.1, y.2.2.2.1), obL y.2.2.2.2, (obP y.2.2.2.2).length)
  | none => (none, ([], [], []), 0)
def trivCv (x : Option (TypeId × TypeId × Value × Option Tmp × List Ob)) : List Nat × List Bool × List (Option Nat) := match x with
  | some y => obR y.2.2.2.2
  | none => ([], [], [])
theorem chkCv_sound {x : Option (TypeId × TypeId × Value × Option Tmp × List Ob)} {src dt : TypeId} {v : Value} {dst : Option Tmp} (h : chkCv x = (some (src, dt, v, dst), trivCv x, 0)) : ∃ p, x = some (src, dt, v, dst, p) ∧ All p := by
  cases x with
  | none => simp [chkCv] at h
  | some y =>
    obtain ⟨a, b, c, d, p⟩ := y
    simp only [chkCv, trivCv, Prod.mk.injEq, Option.some.injEq] at h
    obtain ⟨⟨rfl, rfl, rfl, rfl⟩, h2, h3⟩ := h
    refine ⟨p, rfl, All_of p h2 ?_⟩
    rw [List.eq_nil_of_length_eq_zero h3]
    trivial
def chkIx (x : Option (TypeId × Value × Value × Option Tmp × List Ob)) : Option (TypeId × Value × Value × Option Tmp) × (List Nat × List Bool × List (Option Nat)) × Nat := match x with
  | some y => (some (y.1, y.2.1, y.2.2.1, y.2.2.2.1), obL y.2.2.2.2, (obP y.2.2.2.2).length)
  | none => (none, ([], [], []), 0)
def trivIx (x : Option (TypeId × Value × Value × Option Tmp × List Ob)) : List Nat × List Bool × List (Option Nat) := match x with
  | some y => obR y.2.2.2.2
  | none => ([], [], [])
theorem chkIx_sound {x : Option (TypeId × Value × Value × Option Tmp × List Ob)} {src : TypeId} {dt v : Value} {dst : Option Tmp} (h : chkIx x = (some (src, dt, v, dst), trivIx x, 0)) : ∃ p, x = some (src, dt, v, dst, p) ∧ All p := by
  cases x with
  | none => simp [chkIx] at h
  | some y =>
    obtain ⟨a, b, c, d, p⟩ := y
    simp only [chkIx, trivIx, Prod.mk.injEq, Option.some.injEq] at h
    obtain ⟨⟨rfl, rfl, rfl, rfl⟩, h2, h3⟩ := h
    refine ⟨p, rfl, All_of p h2 ?_⟩
    rw [List.eq_nil_of_length_eq_zero h3]
    trivial
section
variable {P : Program} {f : Func} [Pan f] {R : Act → World → Prop} {n : Nat} [Dfr n] {k : List Itm} {E : Env} {h r : List (Nat × Obj)} {F : List (List Nat × World)} {Y : Ghost}
theorem cvOf_sound {ops : Array Oper} {i : Nat} {src dt : TypeId} {xv : Value} {dst : Option Tmp} {p : List Ob} (he : cvOf n ops E i = some (src, dt, xv, dst, p)) (hp : All p)
    {a : Act} {w : World} {fps : List (List Nat)} (s : StF n E h r F Y a w fps) {K : Act → World → Prop} {Q : Exit → Act → World → Prop}
    (H : ∃ v' w', (convert src dt xv).run P w = .ok v' w' ∧ ∀ a', Ag n (E.put dst (.val v')) a' → K a' w') : wpOp P ops Q i K a w := by
  unfold cvOf at he
  split at he
  · cases he
  rename_i o ho
  split at he
  case isFalse => cases he
  rename_i hd
  simp only [Bool.and_eq_true, Bool.not_eq_true'] at hd
  split at he
  · cases he
  rename_i cd g hg
  split at he
  · cases he
  rename_i q hq
  split at he
  case h_2 => cases he
  rename_i src' dt' x hc
  simp only [Option.some.injEq, Prod.mk.injEq] at he
  obtain ⟨rfl, rfl, rfl, rfl, rfl⟩ := he
  obtain ⟨hg1, hq1⟩ := All_append hp
  have hwant : Region.wanted o (yielded ops a.tmps) = true ∧ ∀ c wn, cd = some (c, wn) → c = wn := by
    cases hgd : o.guard with
    | none =>
      rw [hgd] at hg
      simp only [Option.some.injEq, Prod.mk.injEq] at hg
      refine ⟨by simp [Region.wanted, hgd], fun c wn h => ?_⟩
      rw [← hg.1] at h
      cases h
    | some y =>
      obtain ⟨j, want⟩ := y
      rw [hgd] at hg
      obtain ⟨c, hc, hcg⟩ := Option.map_eq_some_iff.1 hg
      simp only [Prod.mk.injEq] at hcg
      obtain ⟨rfl, rfl⟩ := hcg
      have hy := guardOf_sound s.ag hc
      have hcw : c = want := hg1.1
      refine ⟨by simp [Region.wanted, hgd, hy, hcw], fun c' wn h => ?_⟩
      injection h with h
      injection h with h1 h2
      rw [← h1, ← h2]
      exact hcw
  unfold wpOp
  simp only [ho]
  rw [if_pos hwant.1]
  refine .inl ?_
  obtain ⟨v', w', hrun, hk⟩ := H
  unfold Oper.wp
  have hcongr : execOp a.eval o = execOp (rho E) o := execOp_congr o (fun cs b hc => by have := hd.2; rw [hc] at this; cases this) (fun x hx => opsOk_sound s.ag hwant.2 _ _ hq hq1 x (by simpa using hx))
  rw [hcongr]
  unfold execOp
  simp only [hc, Sem.run_bind, hrun, Result.andThen_ok, Sem.run_pure]
  exact hk _ (s.ag.put hd.1 (.val v'))
theorem ixOf_sound {ops : Array Oper} {i : Nat} {src : TypeId} {dt xv : Value} {dst : Option Tmp} {p : List Ob} (he : ixOf n ops E i = some (src, dt, xv, dst, p)) (hp : All p)
    {a : Act} {w : World} {fps : List (List Nat)} (s : StF n E h r F Y a w fps) {K : Act → World → Prop} {Q : Exit → Act → World → Prop}
    (H : ∃ v' w', (Instr.index src dt xv).run P w = .ok v' w' ∧ ∀ a', Ag n (E.put dst (.val v')) a' → K a' w') : wpOp P ops Q i K a w := by
  unfold ixOf at he
  split at he
  · cases he
  rename_i o ho
  split at he
  case isFalse => cases he
  rename_i hd
  simp only [Bool.and_eq_true, Bool.not_eq_true'] at hd
  split at he
  · cases he
  rename_i cd g hg
  split at he
  · cases he
  rename_i q hq
  split at he
  case h_2 => cases he
  rename_i src' dt' x hc
  simp only [Option.some.injEq, Prod.mk.injEq] at he
  obtain ⟨rfl, rfl, rfl, rfl, rfl⟩ := he
  obtain ⟨hg1, hq1⟩ := All_append hp
  have hwant : Region.wanted o (yielded ops a.tmps) = true ∧ ∀ c wn, cd = some (c, wn) → c = wn := by
    cases hgd : o.guard with
    | none =>
      rw [hgd] at hg
      simp only [Option.some.injEq, Prod.mk.injEq] at hg
      refine ⟨by simp [Region.wanted, hgd], fun c wn h => ?_⟩
      rw [← hg.1] at h
      cases h
    | some y =>
      obtain ⟨j, want⟩ := y
      rw [hgd] at hg
      obtain ⟨c, hc, hcg⟩ := Option.map_eq_some_iff.1 hg
      simp only [Prod.mk.injEq] at hcg
      obtain ⟨rfl, rfl⟩ := hcg
      have hy := guardOf_sound s.ag hc
      have hcw : c = want := hg1.1
      refine ⟨by simp [Region.wanted, hgd, hy, hcw], fun c' wn h => ?_⟩
      injection h with h
      injection h with h1 h2
      rw [← h1, ← h2]
      exact hcw
  unfold wpOp
  simp only [ho]
  rw [if_pos hwant.1]
  refine .inl ?_
  obtain ⟨v', w', hrun, hk⟩ := H
  unfold Oper.wp
  have hcongr : execOp a.eval o = execOp (rho E) o := execOp_congr o (fun cs b hc => by have := hd.2; rw [hc] at this; cases this) (fun x hx => opsOk_sound s.ag hwant.2 _ _ hq hq1 x (by simpa using hx))
  rw [hcongr]
  unfold execOp
  simp only [hc, Sem.run_bind, hrun, Result.andThen_ok, Sem.run_pure]
  exact hk _ (s.ag.put hd.1 (.val v'))
theorem JR_bytes0 {id L0 i : Nat} {ck : Bool} {Wp : List (Nat × List Nat)} {rest : List (Nat × Bool)} (src dt e : TypeId) (s : ByteArray) (dst : Option Tmp)
    (he : chkCv (cvOf n (rgOf f id) E i) = (some (src, dt, .string s, dst), trivCv (cvOf n (rgOf f id) E i), 0)) (hs : P.underlying src = some .string) (hd : P.underlying dt = some (.slice e)) (hb : P.underlying e = some (.int .u8))
    (A : ∀ g c, JR P f R n (rgOf f id) L0 ck rest (Wp.filter (·.1 != i)) k (E.put dst (.val (.slice (some ⟨g, 0, none⟩) s.size c))) h r F ⟨Y.S, Y.C ++ [], Y.G ++ [(.slice (some ⟨g, 0, none⟩) s.size c, dBytes s)]⟩) :
    JR P f R n (rgOf f id) L0 ck ((i, false) :: rest) Wp k E h r F Y := by
  obtain ⟨p, he, hp⟩ := chkCv_sound he
  intro B Hd fps a w st hH hR hN hW
  simp only [PW]
  have hold : ∀ b, b < w.heap.size → (Lib.bytesWorld w e s).heap[b]? = w.heap[b]? := fun b hlt => Lib.bytesWorld_at_old w e s b hlt
  have hf : Fr [] w (Lib.bytesWorld w e s) := ⟨rfl, rfl, rfl, by rw [Lib.bytesWorld_size]; omega, fun b hlt _ => hold b hlt, Nat.le_succ _⟩
  have hnew := Lib.bytesWorld_at_new w e s
  have hlen : (s.data.toList.map eB).length = s.size := by simp
  have hcap : s.size ≤ grownCap w s.size 0 e := grownCap_ge _ _ _ _
  have hrep : Rep (Lib.bytesWorld w e s) (retS (Sd Y h fps) [] w []) (.slice (some ⟨w.heap.size, 0, none⟩) s.size (grownCap w s.size 0 e)) (dBytes s) := by
    have := Rep.sl (w := Lib.bytesWorld w e s) (S := retS (Sd Y h fps) [] w []) (off := 0) (cap := grownCap w s.size 0 e) (k := 1) (rows := s.data.toList.map eB) (fun i _ => .int .u8 (s.data.toList.getD i 0).toNat) hnew ⟨.inr (.inr (Nat.le_refl _)), by simp⟩ (by rw [hlen]; exact hcap) (by decide) (by intro row hr; obtain ⟨x, _, rfl⟩ := List.mem_map.1 hr; rfl) (fun i j hi hj => ?_) (fun i j row d hi hj => ?_)
    · rwa [hlen] at this
    · obtain rfl : j = 0 := by omega
      rw [hlen] at hi
      have h1 : i < s.data.toList.length := by simpa using hi
      have h2 : i < s.data.size := by simpa using hi
      simp [Lib.bytesCells, Array.getElem?_append, hi, h2, List.getD_eq_getElem?_getD]
    · rw [List.getElem?_map] at hi
      obtain ⟨x, hx, rfl⟩ := Option.map_eq_some_iff.1 hi
      match j, hj with
      | 0, hj =>
        simp only [List.getElem?_cons_zero, Option.some.injEq] at hj
        subst hj
        rw [List.getD_eq_getElem?_getD, hx]
        exact .v rfl
      | j + 1, hj => simp at hj
  have hRet : Ret (pick fps []).flatten w (Sd Y h fps) (Lib.bytesWorld w e s) (.returned (.slice (some ⟨w.heap.size, 0, none⟩) s.size (grownCap w s.size 0 e))) (.slice (some ⟨w.heap.size, 0, none⟩) s.size (grownCap w s.size 0 e)) [] [(.slice (some ⟨w.heap.size, 0, none⟩) s.size (grownCap w s.size 0 e), dBytes s)] :=
    ⟨rfl, hf, [], trivial, by simp, by simp, fun x hx => by rw [List.mem_singleton] at hx; subst hx; exact hrep⟩
  refine cvOf_sound he hp st ⟨_, _, Lib.run_convert_string_bytes w src dt e s hs hd hb, fun a2 hA => ⟨fun hck b hb2 hl => hold b hb2, ?_⟩⟩
  rw [filter_idsW]
  obtain ⟨fps', h3, s'⟩ := st.called (cs := []) hA hRet
  have hpk : pick Y.C (others Y.C.length []) = Y.C := by
    have h1 : others Y.C.length [] = List.range Y.C.length := by simp [others]
    rw [h1, pick_all]
  rw [hpk] at s'
  refine A w.heap.size (grownCap w s.size 0 e) B Hd _ a2 _ s' (fun b hb => ?_) ⟨hR.old, hR.ro, hR.len, Nat.le_trans hR.size hf.size⟩ hN (okWp_filter hW)
  rw [List.flatten_append] at hb
  rcases List.mem_append.1 hb with hb | hb
  · exact hH b (pick_flat_sub hb)
  · rcases h3 b hb with h1 | h1
    · exact hH b (pick_flat_sub h1)
    · exact .inr (Nat.le_trans hR.size h1)
theorem JR_bytes {S0 : Nat → Prop} {C0 : List Chunk} {G0 : List (Value × D)} {id L0 i : Nat} {ck : Bool} {Wp : List (Nat × List Nat)} {rest : List (Nat × Bool)} (src dt e : TypeId) (s : ByteArray) (dst : Option Tmp)
    (he : chkCv (cvOf n (rgOf f id) E i) = (some (src, dt, .string s, dst), trivCv (cvOf n (rgOf f id) E i), 0)) (hs : P.underlying src = some .string) (hd : P.underlying dt = some (.slice e)) (hb : P.underlying e = some (.int .u8))
    (A : ∀ g c, JR P f R n (rgOf f id) L0 ck rest (Wp.filter (·.1 != i)) k (E.put dst (.val (.slice (some ⟨g, 0, none⟩) s.size c))) h r F ⟨S0, C0, G0 ++ [(.slice (some ⟨g, 0, none⟩) s.size c, dBytes s)]⟩) :
    JR P f R n (rgOf f id) L0 ck ((i, false) :: rest) Wp k E h r F ⟨S0, C0, G0⟩ := JR_bytes0 (Y := ⟨S0, C0, G0⟩) src dt e s dst he hs hd hb fun g c => by
  have := A g c
  simpa using this
theorem bytes_get {s : ByteArray} {i : Nat} {b : UInt8} (h : s.data.toList[i]? = some b) : s[i]? = some b := by
  obtain ⟨hi, he⟩ := List.getElem?_eq_some_iff.1 h
  have h1 : i < s.size := by simpa using hi
  rw [getElem?_pos s i h1]
  congr 1
theorem JR_idx {id L0 j : Nat} {ck : Bool} {Wp : List (Nat × List Nat)} {rest : List (Nat × Bool)} (t : TypeId) (s : ByteArray) (i : Int) (b : UInt8) (dst : Option Tmp)
    (he : chkIx (ixOf n (rgOf f id) E j) = (some (t, .string s, .int .i64 i, dst), trivIx (ixOf n (rgOf f id) E j), 0)) (hu : P.underlying t = some .string) (h0 : 0 ≤ i) (hb : s.data.toList[i.toNat]? = some b)
    (A : JR P f R n (rgOf f id) L0 ck rest (Wp.filter (·.1 != j)) k (E.put dst (.val (.int .u8 b.toNat))) h r F Y) :
    JR P f R n (rgOf f id) L0 ck ((j, false) :: rest) Wp k E h r F Y := by
  obtain ⟨p, he, hp⟩ := chkIx_sound he
  intro B Hd fps a w st hH hR hN hW
  simp only [PW]
  have h1 := bytes_get hb
  refine ixOf_sound he hp st ⟨.int .u8 b.toNat, w, by simp [Instr.index, asIntOf, run_underlying hu, h0, h1], fun a2 hA => ⟨fun hck b hb2 hl => rfl, ?_⟩⟩
  rw [filter_idsW]
  exact A B Hd fps a2 w ⟨hA, st.own, st.fr, st.may, st.gh⟩ hH hR hN (okWp_filter hW)
end
end Go.Sx
end
section
namespace Go.Sx
open Go
def clOf (n : Nat) (ops : Array Oper) (E : Env) (i : Nat) : Option (Value × TypeId × Option Tmp) :=
  match ops[i]? with
  | none => none
  | some o => if dstOk n o.dst then match o.guard with
    | some _ => none
    | none => match o.op with
      | .call c => match c.callee with
        | .builtin .clear => match opsOk E none c.args.toList with
          | some [] => match c.args.toList, c.argTypes.toList with
            | [s], [t] => some (rho E s, t, o.dst)
            | _, _ => none
          | _ => none
        | _ => none
      | _ => none
    else none
section rows
variable {P : Program} {f : Func} [Pan f] {R : Act → World → Prop} {n : Nat} [Dfr n] {k : List Itm} {E : Env} {h r : List (Nat × Obj)} {F : List (List Nat × World)} {Y : Ghost}
theorem zc_size (z : Array Value) (n : Nat) : (Builtin.zeroCells z n).size = n * z.size := by simp [Builtin.zeroCells]
theorem zc_one {z : Array Value} (hz : ∀ u ∈ z.toList, u.oneCell' = true) (m : Nat) : ∀ u ∈ (Builtin.zeroCells z m).toList, u.oneCell' = true := by
  intro u hu
  unfold Builtin.zeroCells at hu
  simp only [Array.toList_map, List.mem_map] at hu
  obtain ⟨i, hi, rfl⟩ := hu
  have hi2 : i < m * z.size := by simpa using hi
  have hpos : 0 < z.size := Nat.pos_of_ne_zero fun h => by rw [h] at hi2; simp at hi2
  have hlt := Nat.mod_lt i hpos
  rw [getElem!_pos z _ hlt]
  exact hz _ (by simp)
theorem clOf_sound {ops : Array Oper} {i : Nat} {mv : Value} {t : TypeId} {dst : Option Tmp} (he : clOf n ops E i = some (mv, t, dst))
    {a : Act} {w : World} {fps : List (List Nat)} (s : StF n E h r F Y a w fps) {K : Act → World → Prop}
    (H : ∀ ty, ∃ v' w', (Builtin.clear_ #[t] ty #[mv]).run P w = .ok v' w' ∧ ∀ a', Ag n (E.put dst (.val v')) a' → K a' w') : wpOp P ops (wpK P f R k) i K a w := by
  unfold clOf at he
  split at he
  · cases he
  rename_i o ho
  split at he
  case isFalse => cases he
  rename_i hd
  split at he
  · cases he
  rename_i hg
  split at he
  case h_2 => cases he
  rename_i c hc
  split at he
  case h_2 => cases he
  rename_i hcal
  split at he
  case h_2 => cases he
  rename_i hq
  split at he
  case h_2 => cases he
  rename_i xs t' hargs htys
  simp only [Option.some.injEq, Prod.mk.injEq] at he
  obtain ⟨rfl, rfl, rfl⟩ := he
  have hev := opsOk_sound s.ag (fun c w h => by cases h) _ _ hq trivial
  have e1 : a.eval xs = rho E xs := hev xs (by rw [hargs]; simp)
  have hca : c.args = #[xs] := by rw [← Array.toArray_toList (xs := c.args), hargs]
  have hct : c.argTypes = #[t'] := by rw [← Array.toArray_toList (xs := c.argTypes), htys]
  obtain ⟨v', w', hrun, hk⟩ := H o.type
  unfold wpOp
  simp only [ho]
  rw [if_pos (by simp [Region.wanted, hg])]
  refine .inl ?_
  unfold Oper.wp execOp
  simp only [hc, resolve, hcal, hca, hct, invoke, builtin, Sem.run_bind, Sem.run_pure, Result.andThen_ok, List.map_toArray, List.map_cons, List.map_nil, e1, hrun]
  exact hk _ (s.ag.put hd (.val v'))
theorem JR_clear {id L0 i : Nat} {ck : Bool} {Wp : List (Nat × List Nat)} {rest : List (Nat × Bool)} (p g o m c t e : Nat) (z : Value) (dst : Option Tmp) {cur : Array Value} {size bytes : Nat}
    (he : clOf n (rgOf f id) E i = some (.slice (some ⟨g, o, none⟩) m c, t, dst)) (hok : (!ck || okW L0 (Wp.lookup i) [p]) = true) (ht : P.underlying t = some (.slice e)) (hi : (P.info? e).map (fun i => (i.zero, i.size, i.bytes)) = some (some z, size, bytes)) (hm : 0 < m)
    (hp : h[p]? = some (g, .cells cur e (0, 0))) (hz : z.cells.size = size) (hl0 : o + m * size ≤ cur.size) (h10 : ∀ u ∈ z.cells.toList, u.oneCell' = true)
    (A0 : ∀ vs : List Value, vs.length = m * size → JR P f R n (rgOf f id) L0 ck rest (Wp.filter (·.1 != i)) k (E.put dst (.val (.tuple #[]))) (h.set p (g, .cells (seg cur o vs) e (0, 0))) r F Y) :
    JR P f R n (rgOf f id) L0 ck ((i, false) :: rest) Wp k E h r F Y := by
  have hsz : (Builtin.zeroCells z.cells m).size = m * size := by rw [zc_size, hz]
  have hl : o + (Builtin.zeroCells z.cells m).size ≤ cur.size := by rw [hsz]; exact hl0
  have h1 : ∀ u ∈ (Builtin.zeroCells z.cells m).toList, u.oneCell' = true := zc_one h10 m
  have A := A0 (Builtin.zeroCells z.cells m).toList (by simpa using hsz)
  intro BB Hd fps a w s hH hR hN hW
  simp only [PW]
  obtain ⟨inf, h1i, h2i, _⟩ := infoParts hi
  have hb : w.heap[g]? = some (.cells cur e (0, 0)) := s.own.own _ (List.mem_of_getElem? hp)
  have hzero : (zeroValue e).run P w = .ok z w := by simp [zeroValue, typeInfo, h1i, h2i]
  have hrun := run_storeCells_at (P := P) g o e (Builtin.zeroCells z.cells m).toList 0 cur w hb (by simpa using hl) h1
  rw [setRow_eq hb, Nat.add_zero] at hrun
  refine clOf_sound he s fun ty => ⟨.tuple #[], { w with heap := w.heap.setIfInBounds g (.cells (seg cur o (Builtin.zeroCells z.cells m).toList) e (0, 0)) }, ?_, fun a' hA => JR_setmap hok hp s hH hR hN hW hA A⟩
  obtain ⟨m', rfl⟩ : ∃ m', m = m' + 1 := ⟨m - 1, by omega⟩
  have hrun' : (storeCells ⟨g, o, none⟩ (Builtin.zeroCells z.cells (m' + 1)).toList).run P w = .ok () { w with heap := w.heap.setIfInBounds g (.cells (seg cur o (Builtin.zeroCells z.cells (m' + 1)).toList) e (0, 0)) } := hrun
  simp [Builtin.clear_, run_underlying ht, hzero, hrun', Result.andThen]
end rows
theorem Row.clr {cur : Array Value} {cap n size : Nat} {xs vs : List Value} (h : Row cur cap n size xs) {i : Nat} (hi : i ≤ n) (hv : vs.length = (n - i) * size) : Row (seg cur (i * size) vs) cap i size (xs.take (i * size)) := by
  have hle : i * size ≤ n * size := Nat.mul_le_mul_right size hi
  have h2 : n * size ≤ cap * size := Nat.mul_le_mul_right size h.le
  have hs := h.siz
  have hsum : i * size + (n - i) * size = n * size := by rw [← Nat.add_mul]; congr 1; omega
  refine ⟨?_, ?_, Nat.le_trans hi h.le, h.max, ?_⟩
  · rw [List.length_take, h.len]
    omega
  · rw [seg_len (by rw [hv]; omega)]
    exact hs
  · have e1 : (seg cur (i * size) vs).toList.take (i * size) = cur.toList.take (i * size) := by
      simp only [seg]
      rw [List.append_assoc, List.take_append_of_le_length (by simp; omega), List.take_take, Nat.min_self]
    rw [e1, ← h.take, List.take_take]
    congr 1
    omega
section steps
variable {h r : List (Nat × Obj)} {F : List (List Nat × World)}
theorem RowsAt.cut {w : World} {S : Nat → Prop} {xs : List Value} {k : Nat} {rows : List (List D)} (h : RowsAt w S xs k rows) (i : Nat) : RowsAt w S (xs.take (i * k)) k (rows.take i) := by
  refine ⟨fun row hr => h.len row (List.mem_of_mem_take hr), fun p j row d hp hj => ?_⟩
  rw [List.getElem?_take] at hp
  split at hp
  · rename_i hpi
    obtain ⟨u, h1, h2⟩ := h.rep p j row d hp hj
    have hjk : j < k := by rw [← h.len row (List.mem_of_getElem? hp)]; exact (List.getElem?_eq_some_iff.1 hj).1
    exact ⟨u, by rw [List.getElem?_take, if_pos (idx_lt hpi hjk)]; exact h1, h2⟩
  · cases hp
theorem stp_cutrows {S0 : Nat → Prop} {C0 : List Chunk} {G0 : List (Value × D)} (q i : Nat) {xs : List Value} {k : Nat} {rows : List (List D)} (hq : C0[q]? = some (cRows xs k rows)) :
    Stp h r F ⟨S0, C0, G0⟩ (fun _ : Unit => True) fun _ => ⟨S0, C0.set q (cRows (xs.take (i * k)) k (rows.take i)), G0⟩ := by
  intro w fps hO H
  obtain ⟨fp, hfp, hnil, hP⟩ := H.chs.at hq
  have hc : (cRows (xs.take (i * k)) k (rows.take i)).P w (Sd ⟨S0, C0, G0⟩ h fps) fp := ⟨hnil, hP.cut i⟩
  have hs := H.chs.set hc (i := q)
  have e : fps.set q fp = fps := set_same hfp
  rw [e] at hs
  exact ⟨(), fps, trivial, fun _ hb => hb, H.less (fun _ hb => hb) H.nodup hs H.g⟩
theorem RowsAt.put {w : World} {S : Nat → Prop} {xs vs : List Value} {k : Nat} {rows : List (List D)} (h : RowsAt w S xs k rows) (hl : xs.length = rows.length * k) {i : Nat} (hi : i < rows.length) {row : List D} (hv : vs.length = k) (hr : row.length = k) (hrep : ∀ (j : Nat) d, row[j]? = some d → ∃ u, vs[j]? = some u ∧ Rep w S u d) :
    RowsAt w S (xs.take (i * k) ++ vs ++ xs.drop (i * k + k)) k (rows.set i row) := by
  have h1 : i * k + k ≤ rows.length * k := by
    have := Nat.mul_le_mul_right k (Nat.succ_le_of_lt hi)
    rwa [Nat.succ_mul] at this
  refine ⟨fun row' hr' => ?_, fun p j row' d hp hj => ?_⟩
  · rcases List.mem_or_eq_of_mem_set hr' with h2 | rfl
    · exact h.len row' h2
    · exact hr
  · by_cases hpi : i = p
    · subst hpi
      rw [List.getElem?_set_self hi] at hp
      cases hp
      obtain ⟨u, hu, hru⟩ := hrep j d hj
      have hjk : j < k := by rw [← hr]; exact (List.getElem?_eq_some_iff.1 hj).1
      refine ⟨u, ?_, hru⟩
      rw [List.getElem?_append_left (by simp; omega), List.getElem?_append_right (by simp; omega)]
      simp only [List.length_take, hl]
      rw [show i * k + j - min (i * k) (rows.length * k) = j by omega]
      exact hu
    · rw [List.getElem?_set_ne hpi] at hp
      obtain ⟨u, h3, h4⟩ := h.rep p j row' d hp hj
      have hjk : j < k := by rw [← h.len row' (List.mem_of_getElem? hp)]; exact (List.getElem?_eq_some_iff.1 hj).1
      refine ⟨u, ?_, h4⟩
      rcases Nat.lt_or_gt_of_ne hpi with hlt | hgt
      · have h5 := Nat.mul_le_mul_right k (Nat.succ_le_of_lt hlt)
        rw [Nat.succ_mul] at h5
        rw [List.getElem?_append_right (by simp; omega), List.getElem?_drop]
        simp only [List.length_append, List.length_take, hl, hv]
        rw [show i * k + k + (p * k + j - (min (i * k) (rows.length * k) + k)) = p * k + j by omega]
        exact h3
      · have h5 := Nat.mul_le_mul_right k (Nat.succ_le_of_lt hgt)
        rw [Nat.succ_mul] at h5
        rw [List.getElem?_append_left (by simp; omega), List.getElem?_append_left (by simp; omega), List.getElem?_take, if_pos (by omega)]
        exact h3
theorem stp_putrow {S0 : Nat → Prop} {C0 : List Chunk} {G0 : List (Value × D)} (q i : Nat) {xs vs : List Value} {k : Nat} {rows : List (List D)} {row : List D} (hq : C0[q]? = some (cRows xs k rows)) (hl : xs.length = rows.length * k) (hi : i < rows.length) (hk : row.length = k) (hR : RowG G0 vs row) :
    Stp h r F ⟨S0, C0, G0⟩ (fun _ : Unit => True) fun _ => ⟨S0, C0.set q (cRows (xs.take (i * k) ++ vs ++ xs.drop (i * k + k)) k (rows.set i row)), G0⟩ := by
  intro w fps hO H
  obtain ⟨fp, hfp, hnil, hP⟩ := H.chs.at hq
  have hc : (cRows (xs.take (i * k) ++ vs ++ xs.drop (i * k + k)) k (rows.set i row)).P w (Sd ⟨S0, C0, G0⟩ h fps) fp := ⟨hnil, hP.put hl hi (by rw [hR.len, hk]) hk fun j d hj => hR.at H.g j d hj⟩
  have hs := H.chs.set hc (i := q)
  have e : fps.set q fp = fps := set_same hfp
  rw [e] at hs
  exact ⟨(), fps, trivial, fun _ hb => hb, H.less (fun _ hb => hb) H.nodup hs H.g⟩
end steps
end Go.Sx
end
section
namespace Go.Sx
open Go Go.RowKit
abbrev dI (n : Int) : D := .v (.int .i64 n)
abbrev eI (t : Int) : List D := [dI t]
abbrev dInts (l : List Int) : D := .sl 1 (l.map eI)
theorem rep_ints_len {w : World} {S : Nat → Prop} {a : Option Addr} {n c : Nat} {xs : List Int} (h : Rep w S (.slice a n c) (dInts xs)) : n = xs.length := by
  have := h.slen
  simpa using this
def errV (T : Nat) (er : Nat → Addr) (k : Nat) : Value := .iface T (.pointer (some (er k)))
def ErrIs (T : Nat) (er : Nat → Addr) (k : Nat) (v : Value) : Prop := (k = 0 ∧ v = .nilIface) ∨ (k ≠ 0 ∧ v = .iface T (.pointer (some (er k))))
abbrev dE (T : Nat) (er : Nat → Addr) (g k : Nat) : Value × D := (.pointer (some ⟨g, 0, none⟩), .ptr [.v (.iface T (.pointer (some (er k))))])
theorem AllG.pick {w : World} {S : Nat → Prop} {G G' : List (Value × D)} (h : AllG w S G) (ps : List Nat) (hp : pick G ps = G') : AllG w S G' := fun x hx => h x (pick_mem hp x hx)
theorem AllG.app {w : World} {S : Nat → Prop} {G G' : List (Value × D)} (h : AllG w S G) (h' : AllG w S G') : AllG w S (G ++ G') := fun x hx => by
  rcases List.mem_append.1 hx with hx | hx
  · exact h x hx
  · exact h' x hx
structure AccI where
  i : Int
  a : Option Addr
  k : Nat
  c : Nat
theorem take_snoc {α : Type} {l : List α} {i : Int} {x : α} (hi : 0 ≤ i) (hx : l[i.toNat]? = some x) : l.take i.toNat ++ [x] = l.take (i + 1).toNat := by
  have e : (i + 1).toNat = i.toNat + 1 := by omega
  rw [e, List.take_add_one, hx]
  rfl
theorem ret_below {w w' : World} {S : Nat → Prop} {e : Ending} {v : Value} (he : e = .returned v) (h : Below w.heap.size w w') (hd : w.drawn ≤ w'.drawn) : Ret [] w S w' e v [] [] :=
  ⟨he, ⟨h.os, h.tape, h.output, h.size, fun b hb _ => h.block b hb, hd⟩, [], trivial, by simp, by simp, by simp⟩
theorem ret_same {w w' : World} {S : Nat → Prop} {e : Ending} {v : Value} (he : e = .returned v) (h : w' = w) : Ret [] w S w' e v [] [] := ret_below he (h ▸ Below.refl _ _) (h ▸ Nat.le_refl _)
end Go.Sx
end
section
namespace Go.Sx
open Go
structure DotT where
  place : Int
  time : Int
  no : Int
structure OpT where
  no : Int
  key : ByteArray
  kind : Int
  text : ByteArray
  n : Int
  remove : Bool
  dots : List DotT
structure ComT where
  when : List Int
  place : Int
  ops : List OpT
structure MsgT where
  fm : Int
  to : Int
  shard : Int
  seq : Int
  time : Int
  beat : Bool
  c : ComT
abbrev eDot (d : DotT) : List D := [dI d.place, dI d.time, dI d.no]
abbrev eOp (o : OpT) : List D := [dI o.no, .v (.string o.key), dI o.kind, .v (.string o.text), dI o.n, .v (.bool o.remove), .sl 3 (o.dots.map eDot)]
abbrev eCom (c : ComT) : List D := [.sl 1 (c.when.map eI), dI c.place, .sl 7 (c.ops.map eOp)]
abbrev eMsg (m : MsgT) : List D := [dI m.fm, dI m.to, dI m.shard, dI m.seq, dI m.time, .v (.bool m.beat), .sl 1 (m.c.when.map eI), dI m.c.place, .sl 7 (m.c.ops.map eOp)]
instance : DecidableEq DotT := fun a b => decidable_of_iff (a.place = b.place ∧ a.time = b.time ∧ a.no = b.no) ⟨fun ⟨h1, h2, h3⟩ => by cases a; cases b; simp_all, fun h => by subst h; exact ⟨rfl, rfl, rfl⟩⟩
end Go.Sx
end
section
namespace Go.Proofs.YtehdegekgdlifaaDoor
open Go Go.Sx
theorem mixed : Tryd.prog.follows .mixedOrders = true := by kernel_rfl
def sk3 : Sk := (.seq (.rg 0 false) (.seq (.rg 1 false) (.seq (.seq (.rg 2 false) (.cond (.tmp 16) (.seq (.rg 3 false) .ret) .skip)) (.seq (.rg 4 false) (.seq (.rg 5 false) (.seq (.seq (.rg 6 false) (.cond (.tmp 27) (.seq (.rg 7 false) .ret) .skip)) (.seq (.seq (.rg 8 false) (.cond (.tmp 39) (.seq (.rg 9 false) .ret) .skip)) (.seq (.rg 10 false) .ret))))))))
theorem bd3 : Tryd.f3.body = some (sk3.code Tryd.f3) := by kernel_rfl
theorem ep3 {args : List Value} {w : World} {S : Nat → Prop} {G : List (Value × D)} {Rr : Ending → World → Prop} (hl : Nat.ble args.length Tryd.f3.ntmps = true) (hG : AllG w S G) (H : J Tryd.prog Tryd.f3 (retR Tryd.prog Tryd.f3 Rr) Tryd.f3.ntmps [.c sk3] (envOf 0 args) [] [] [([], w)] ⟨newS S [] w, [], G⟩) : Calls Tryd.prog 3 args.toArray w Rr :=
  calls_J Tryd.func3 bd3 rfl hl (Pre.none _ _) hG H
def sk4 : Sk := (.seq (.rg 0 false) (.seq (.rg 1 false) (.seq (.seq (.rg 2 false) (.cond (.tmp 14) (.seq (.rg 3 false) .ret) .skip)) (.seq (.rg 4 false) (.seq (.rg 5 false) .ret)))))
theorem bd4 : Tryd.f4.body = some (sk4.code Tryd.f4) := by kernel_rfl
theorem ep4 {args : List Value} {w : World} {S : Nat → Prop} {G : List (Value × D)} {Rr : Ending → World → Prop} (hl : Nat.ble args.length Tryd.f4.ntmps = true) (hG : AllG w S G) (H : J Tryd.prog Tryd.f4 (retR Tryd.prog Tryd.f4 Rr) Tryd.f4.ntmps [.c sk4] (envOf 0 args) [] [] [([], w)] ⟨newS S [] w, [], G⟩) : Calls Tryd.prog 4 args.toArray w Rr :=
  calls_J Tryd.func4 bd4 rfl hl (Pre.none _ _) hG H
def sk5 : Sk := (.seq (.rg 0 false) (.seq (.seq (.rg 1 false) (.cond (.tmp 8) (.seq (.rg 2 true) .ret) .skip)) (.seq (.seq (.rg 3 false) (.cond (.tmp 15) (.seq (.rg 4 true) .ret) .skip)) (.seq (.rg 5 false) .ret))))
theorem bd5 : Tryd.f5.body = some (sk5.code Tryd.f5) := by kernel_rfl
theorem ep5 {args : List Value} {w : World} {S : Nat → Prop} {G : List (Value × D)} {Rr : Ending → World → Prop} (hl : Nat.ble args.length Tryd.f5.ntmps = true) (hG : AllG w S G) (H : J Tryd.prog Tryd.f5 (retR Tryd.prog Tryd.f5 Rr) Tryd.f5.ntmps [.c sk5] (envOf 0 args) [] [] [([], w)] ⟨newS S [] w, [], G⟩) : Calls Tryd.prog 5 args.toArray w Rr :=
  calls_J Tryd.func5 bd5 rfl hl (Pre.none _ _) hG H
def sk6 : Sk := (.seq (.rg 0 false) (.seq (.seq (.rg 1 false) (.cond (.tmp 13) (.seq (.rg 2 false) .ret) .skip)) (.seq (.seq (.rg 3 false) (.block 0 (.loop (.seq (.seq (.rg 4 false) (.cond (.tmp 17) .skip (.exit 0))) (.seq (.block 1 (.seq (.rg 6 false) (.seq (.rg 7 false) (.seq (.rg 8 false) (.cond (.tmp 42) (.seq (.rg 9 false) .ret) .skip))))) (.rg 5 false)))))) (.seq (.rg 10 false) .ret))))
theorem bd6 : Tryd.f6.body = some (sk6.code Tryd.f6) := by kernel_rfl
theorem ep6 {args : List Value} {w : World} {S : Nat → Prop} {G : List (Value × D)} {Rr : Ending → World → Prop} (hl : Nat.ble args.length Tryd.f6.ntmps = true) (hG : AllG w S G) (H : J Tryd.prog Tryd.f6 (retR Tryd.prog Tryd.f6 Rr) Tryd.f6.ntmps [.c sk6] (envOf 0 args) [] [] [([], w)] ⟨newS S [] w, [], G⟩) : Calls Tryd.prog 6 args.toArray w Rr :=
  calls_J Tryd.func6 bd6 rfl hl (Pre.none _ _) hG H
def sk7 : Sk := (.seq (.rg 0 false) (.seq (.rg 1 false) (.seq (.rg 2 false) .ret)))
theorem bd7 : Tryd.f7.body = some (sk7.code Tryd.f7) := by kernel_rfl
theorem ep7 {args : List Value} {w : World} {S : Nat → Prop} {G : List (Value × D)} {Rr : Ending → World → Prop} (hl : Nat.ble args.length Tryd.f7.ntmps = true) (hG : AllG w S G) (H : J Tryd.prog Tryd.f7 (retR Tryd.prog Tryd.f7 Rr) Tryd.f7.ntmps [.c sk7] (envOf 0 args) [] [] [([], w)] ⟨newS S [] w, [], G⟩) : Calls Tryd.prog 7 args.toArray w Rr :=
  calls_J Tryd.func7 bd7 rfl hl (Pre.none _ _) hG H
def sk8 : Sk := (.seq (.rg 0 false) (.seq (.rg 1 false) .ret))
theorem bd8 : Tryd.f8.body = some (sk8.code Tryd.f8) := by kernel_rfl
theorem ep8 {args : List Value} {w : World} {S : Nat → Prop} {G : List (Value × D)} {Rr : Ending → World → Prop} (hl : Nat.ble args.length Tryd.f8.ntmps = true) (hG : AllG w S G) (H : J Tryd.prog Tryd.f8 (retR Tryd.prog Tryd.f8 Rr) Tryd.f8.ntmps [.c sk8] (envOf 0 args) [] [] [([], w)] ⟨newS S [] w, [], G⟩) : Calls Tryd.prog 8 args.toArray w Rr :=
  calls_J Tryd.func8 bd8 rfl hl (Pre.none _ _) hG H
def sk9 : Sk := (.seq (.rg 0 false) (.seq (.seq (.rg 1 false) (.cond (.tmp 41) (.seq (.rg 2 true) .ret) .skip)) (.seq (.rg 3 false) (.seq (.seq (.rg 4 false) (.cond (.tmp 49) (.seq (.rg 5 false) .ret) .skip)) (.seq (.rg 6 false) (.seq (.seq (.rg 7 false) (.block 0 (.loop (.seq (.rg 8 false) (.seq (.cond (.tmp 59) .skip (.exit 0)) (.seq (.block 1 (.seq (.rg 9 false) (.seq (.rg 10 false) (.seq (.rg 11 false) (.seq (.seq (.rg 12 false) (.block 2 (.loop (.seq (.rg 13 false) (.seq (.cond (.tmp 63) .skip (.exit 2)) (.seq (.block 3 (.seq (.rg 14 false) (.seq (.rg 15 false) (.cond (.tmp 67) (.seq (.rg 16 false) (.seq (.rg 17 false) (.rg 18 false))) .skip)))) (.rg 19 false))))))) (.rg 20 true)))))) (.rg 21 false))))))) (.seq (.rg 22 false) .ret)))))))
theorem bd9 : Tryd.f9.body = some (sk9.code Tryd.f9) := by kernel_rfl
theorem ep9 {args : List Value} {w : World} {S : Nat → Prop} {G : List (Value × D)} {Rr : Ending → World → Prop} (hl : Nat.ble args.length Tryd.f9.ntmps = true) (hG : AllG w S G) (H : J Tryd.prog Tryd.f9 (retR Tryd.prog Tryd.f9 Rr) Tryd.f9.ntmps [.c sk9] (envOf 0 args) [] [] [([], w)] ⟨newS S [] w, [], G⟩) : Calls Tryd.prog 9 args.toArray w Rr :=
  calls_J Tryd.func9 bd9 rfl hl (Pre.none _ _) hG H
def sk10 : Sk := (.seq (.rg 0 false) (.seq (.seq (.rg 1 false) (.seq (.rg 2 false) (.cond (.tmp 27) (.seq (.rg 3 false) .ret) .skip))) (.seq (.seq (.rg 4 false) (.cond (.tmp 34) (.seq (.rg 5 true) .ret) .skip)) (.seq (.rg 6 false) (.seq (.rg 7 true) (.seq (.seq (.rg 8 false) (.block 0 (.loop (.seq (.rg 9 false) (.seq (.cond (.tmp 61) .skip (.exit 0)) (.seq (.block 1 (.seq (.rg 10 false) (.rg 11 false))) (.rg 12 false))))))) (.seq (.seq (.rg 13 false) (.seq (.rg 14 false) (.cond (.tmp 73) (.seq (.rg 15 false) .ret) .skip))) (.seq (.seq (.rg 16 true) (.seq (.rg 17 false) (.cond (.tmp 83) (.seq (.rg 18 false) .ret) .skip))) (.seq (.rg 19 false) (.seq (.rg 20 false) (.seq (.seq (.rg 21 false) (.block 2 (.loop (.seq (.rg 22 false) (.seq (.cond (.tmp 99) .skip (.exit 2)) (.seq (.block 3 (.seq (.rg 23 false) (.seq (.rg 24 false) (.block 4 (.loop (.seq (.rg 25 false) (.seq (.cond (.tmp 105) .skip (.exit 4)) (.seq (.block 5 (.seq (.rg 26 false) (.seq (.rg 27 false) (.seq (.rg 28 false) (.cond (.tmp 116) (.seq (.rg 29 false) (.rg 30 false)) .skip))))) (.rg 31 false))))))))) (.rg 32 false))))))) (.seq (.rg 33 false) .ret))))))))))))
theorem bd10 : Tryd.f10.body = some (sk10.code Tryd.f10) := by kernel_rfl
theorem en10 {args : List Value} {w : World} {S : Nat → Prop} {M : List Nat} {C : List Chunk} {G : List (Value × D)} {Rr : Ending → World → Prop} (hl : Nat.ble args.length Tryd.f10.ntmps = true) (hp : Pre w S M C) (hG : AllG w S G) (H : J Tryd.prog Tryd.f10 (retR Tryd.prog Tryd.f10 Rr) Tryd.f10.ntmps [.c sk10] (envOf 0 args) [] [] [(M, w)] ⟨newS S M w, C, G⟩) : Calls Tryd.prog 10 args.toArray w Rr :=
  calls_J Tryd.func10 bd10 rfl hl hp hG H
def sk11 : Sk := (.seq (.rg 0 false) (.seq (.seq (.rg 1 false) (.cond (.tmp 10) (.seq (.rg 2 false) .ret) .skip)) (.seq (.seq (.rg 3 false) (.block 0 (.loop (.seq (.seq (.rg 4 false) (.cond (.tmp 14) .skip (.exit 0))) (.seq (.block 1 (.seq (.rg 6 true) (.cond (.tmp 25) (.seq (.rg 7 false) .ret) .skip))) (.rg 5 false)))))) (.seq (.rg 8 false) .ret))))
theorem bd11 : Tryd.f11.body = some (sk11.code Tryd.f11) := by kernel_rfl
theorem ep11 {args : List Value} {w : World} {S : Nat → Prop} {G : List (Value × D)} {Rr : Ending → World → Prop} (hl : Nat.ble args.length Tryd.f11.ntmps = true) (hG : AllG w S G) (H : J Tryd.prog Tryd.f11 (retR Tryd.prog Tryd.f11 Rr) Tryd.f11.ntmps [.c sk11] (envOf 0 args) [] [] [([], w)] ⟨newS S [] w, [], G⟩) : Calls Tryd.prog 11 args.toArray w Rr :=
  calls_J Tryd.func11 bd11 rfl hl (Pre.none _ _) hG H
def sk12 : Sk := (.seq (.rg 0 false) (.seq (.rg 1 false) .ret))
theorem bd12 : Tryd.f12.body = some (sk12.code Tryd.f12) := by kernel_rfl
theorem en12 {args : List Value} {w : World} {S : Nat → Prop} {M : List Nat} {C : List Chunk} {G : List (Value × D)} {Rr : Ending → World → Prop} (hl : Nat.ble args.length Tryd.f12.ntmps = true) (hp : Pre w S M C) (hG : AllG w S G) (H : J Tryd.prog Tryd.f12 (retR Tryd.prog Tryd.f12 Rr) Tryd.f12.ntmps [.c sk12] (envOf 0 args) [] [] [(M, w)] ⟨newS S M w, C, G⟩) : Calls Tryd.prog 12 args.toArray w Rr :=
  calls_J Tryd.func12 bd12 rfl hl hp hG H
def sk13 : Sk := (.seq (.rg 0 false) (.seq (.rg 1 false) .ret))
theorem bd13 : Tryd.f13.body = some (sk13.code Tryd.f13) := by kernel_rfl
theorem ep13 {args : List Value} {w : World} {S : Nat → Prop} {G : List (Value × D)} {Rr : Ending → World → Prop} (hl : Nat.ble args.length Tryd.f13.ntmps = true) (hG : AllG w S G) (H : J Tryd.prog Tryd.f13 (retR Tryd.prog Tryd.f13 Rr) Tryd.f13.ntmps [.c sk13] (envOf 0 args) [] [] [([], w)] ⟨newS S [] w, [], G⟩) : Calls Tryd.prog 13 args.toArray w Rr :=
  calls_J Tryd.func13 bd13 rfl hl (Pre.none _ _) hG H
def sk14 : Sk := (.seq (.rg 0 false) (.seq (.rg 1 false) (.seq (.seq (.rg 2 false) (.block 0 (.loop (.seq (.rg 3 false) (.seq (.cond (.tmp 8) .skip (.exit 0)) (.seq (.block 1 (.seq (.rg 4 false) (.seq (.rg 5 false) (.seq (.rg 6 false) (.block 2 (.loop (.seq (.rg 7 false) (.seq (.cond (.tmp 17) .skip (.exit 2)) (.seq (.block 3 (.rg 8 false)) (.rg 9 false)))))))))) (.rg 10 false))))))) (.seq (.rg 11 false) .ret))))
theorem bd14 : Tryd.f14.body = some (sk14.code Tryd.f14) := by kernel_rfl
theorem ep14 {args : List Value} {w : World} {S : Nat → Prop} {G : List (Value × D)} {Rr : Ending → World → Prop} (hl : Nat.ble args.length Tryd.f14.ntmps = true) (hG : AllG w S G) (H : J Tryd.prog Tryd.f14 (retR Tryd.prog Tryd.f14 Rr) Tryd.f14.ntmps [.c sk14] (envOf 0 args) [] [] [([], w)] ⟨newS S [] w, [], G⟩) : Calls Tryd.prog 14 args.toArray w Rr :=
  calls_J Tryd.func14 bd14 rfl hl (Pre.none _ _) hG H
def sk15 : Sk := (.seq (.rg 0 false) (.seq (.seq (.rg 1 false) (.cond (.tmp 8) (.seq (.rg 2 false) .ret) .skip)) (.seq (.rg 3 false) (.seq (.rg 4 false) (.seq (.seq (.rg 5 false) (.cond (.tmp 11) (.rg 6 false) .skip)) (.seq (.seq (.rg 7 false) (.block 0 (.loop (.seq (.rg 8 false) (.seq (.cond (.tmp 31) .skip (.exit 0)) (.seq (.block 1 (.seq (.rg 9 false) (.seq (.rg 10 false) (.cond (.tmp 37) (.seq (.rg 11 false) .ret) .skip)))) (.rg 12 false))))))) (.seq (.rg 13 false) .ret)))))))
theorem bd15 : Tryd.f15.body = some (sk15.code Tryd.f15) := by kernel_rfl
theorem ep15 {args : List Value} {w : World} {S : Nat → Prop} {G : List (Value × D)} {Rr : Ending → World → Prop} (hl : Nat.ble args.length Tryd.f15.ntmps = true) (hG : AllG w S G) (H : J Tryd.prog Tryd.f15 (retR Tryd.prog Tryd.f15 Rr) Tryd.f15.ntmps [.c sk15] (envOf 0 args) [] [] [([], w)] ⟨newS S [] w, [], G⟩) : Calls Tryd.prog 15 args.toArray w Rr :=
  calls_J Tryd.func15 bd15 rfl hl (Pre.none _ _) hG H
def sk16 : Sk := (.seq (.rg 0 false) (.seq (.rg 1 false) (.seq (.seq (.rg 2 false) (.block 0 (.loop (.seq (.seq (.rg 3 false) (.cond (.tmp 10) .skip (.exit 0))) (.seq (.block 1 (.seq (.rg 5 false) (.block 2 (.loop (.seq (.seq (.rg 6 false) (.cond (.tmp 14) .skip (.exit 2))) (.seq (.block 3 (.seq (.rg 8 false) (.seq (.rg 9 false) (.seq (.rg 10 false) (.cond (.tmp 30) (.rg 11 false) .skip))))) (.rg 7 false))))))) (.rg 4 false)))))) (.seq (.rg 12 false) .ret))))
theorem bd16 : Tryd.f16.body = some (sk16.code Tryd.f16) := by kernel_rfl
theorem ep16 {args : List Value} {w : World} {S : Nat → Prop} {G : List (Value × D)} {Rr : Ending → World → Prop} (hl : Nat.ble args.length Tryd.f16.ntmps = true) (hG : AllG w S G) (H : J Tryd.prog Tryd.f16 (retR Tryd.prog Tryd.f16 Rr) Tryd.f16.ntmps [.c sk16] (envOf 0 args) [] [] [([], w)] ⟨newS S [] w, [], G⟩) : Calls Tryd.prog 16 args.toArray w Rr :=
  calls_J Tryd.func16 bd16 rfl hl (Pre.none _ _) hG H
def sk17 : Sk := (.seq (.rg 0 false) (.seq (.seq (.rg 1 false) (.cond (.tmp 9) (.seq (.rg 2 true) .ret) .skip)) (.seq (.rg 3 false) .ret)))
theorem bd17 : Tryd.f17.body = some (sk17.code Tryd.f17) := by kernel_rfl
theorem ep17 {args : List Value} {w : World} {S : Nat → Prop} {G : List (Value × D)} {Rr : Ending → World → Prop} (hl : Nat.ble args.length Tryd.f17.ntmps = true) (hG : AllG w S G) (H : J Tryd.prog Tryd.f17 (retR Tryd.prog Tryd.f17 Rr) Tryd.f17.ntmps [.c sk17] (envOf 0 args) [] [] [([], w)] ⟨newS S [] w, [], G⟩) : Calls Tryd.prog 17 args.toArray w Rr :=
  calls_J Tryd.func17 bd17 rfl hl (Pre.none _ _) hG H
def sk18 : Sk := (.seq (.rg 0 false) (.seq (.rg 1 false) (.seq (.seq (.rg 2 false) (.cond (.tmp 18) (.seq (.rg 3 false) .ret) .skip)) (.seq (.rg 4 false) .ret))))
theorem bd18 : Tryd.f18.body = some (sk18.code Tryd.f18) := by kernel_rfl
theorem ep18 {args : List Value} {w : World} {S : Nat → Prop} {G : List (Value × D)} {Rr : Ending → World → Prop} (hl : Nat.ble args.length Tryd.f18.ntmps = true) (hG : AllG w S G) (H : J Tryd.prog Tryd.f18 (retR Tryd.prog Tryd.f18 Rr) Tryd.f18.ntmps [.c sk18] (envOf 0 args) [] [] [([], w)] ⟨newS S [] w, [], G⟩) : Calls Tryd.prog 18 args.toArray w Rr :=
  calls_J Tryd.func18 bd18 rfl hl (Pre.none _ _) hG H
def sk19 : Sk := (.seq (.rg 0 false) (.seq (.rg 1 false) (.seq (.seq (.rg 2 false) (.cond (.tmp 18) (.seq (.rg 3 false) .ret) .skip)) (.seq (.rg 4 false) .ret))))
theorem bd19 : Tryd.f19.body = some (sk19.code Tryd.f19) := by kernel_rfl
theorem ep19 {args : List Value} {w : World} {S : Nat → Prop} {G : List (Value × D)} {Rr : Ending → World → Prop} (hl : Nat.ble args.length Tryd.f19.ntmps = true) (hG : AllG w S G) (H : J Tryd.prog Tryd.f19 (retR Tryd.prog Tryd.f19 Rr) Tryd.f19.ntmps [.c sk19] (envOf 0 args) [] [] [([], w)] ⟨newS S [] w, [], G⟩) : Calls Tryd.prog 19 args.toArray w Rr :=
  calls_J Tryd.func19 bd19 rfl hl (Pre.none _ _) hG H
def sk20 : Sk := (.seq (.rg 0 false) (.seq (.seq (.rg 1 false) (.seq (.rg 2 false) (.cond (.tmp 11) (.seq (.rg 3 false) .ret) .skip))) (.seq (.seq (.rg 4 false) (.cond (.tmp 19) (.seq (.rg 5 false) .ret) .skip)) (.seq (.seq (.rg 6 false) (.seq (.rg 7 false) (.cond (.tmp 29) (.seq (.rg 8 false) .ret) .skip))) (.seq (.rg 9 false) .ret)))))
theorem bd20 : Tryd.f20.body = some (sk20.code Tryd.f20) := by kernel_rfl
theorem en20 {args : List Value} {w : World} {S : Nat → Prop} {M : List Nat} {C : List Chunk} {G : List (Value × D)} {Rr : Ending → World → Prop} (hl : Nat.ble args.length Tryd.f20.ntmps = true) (hp : Pre w S M C) (hG : AllG w S G) (H : J Tryd.prog Tryd.f20 (retR Tryd.prog Tryd.f20 Rr) Tryd.f20.ntmps [.c sk20] (envOf 0 args) [] [] [(M, w)] ⟨newS S M w, C, G⟩) : Calls Tryd.prog 20 args.toArray w Rr :=
  calls_J Tryd.func20 bd20 rfl hl hp hG H
def sk21 : Sk := (.seq (.rg 0 false) (.seq (.rg 1 false) (.seq (.rg 2 false) (.seq (.seq (.rg 3 false) (.block 0 (.loop (.seq (.rg 4 false) (.seq (.cond (.tmp 16) .skip (.exit 0)) (.seq (.block 1 (.seq (.rg 5 false) (.rg 6 true))) (.rg 7 false))))))) (.seq (.rg 8 false) .ret)))))
theorem bd21 : Tryd.f21.body = some (sk21.code Tryd.f21) := by kernel_rfl
theorem ep21 {args : List Value} {w : World} {S : Nat → Prop} {G : List (Value × D)} {Rr : Ending → World → Prop} (hl : Nat.ble args.length Tryd.f21.ntmps = true) (hG : AllG w S G) (H : J Tryd.prog Tryd.f21 (retR Tryd.prog Tryd.f21 Rr) Tryd.f21.ntmps [.c sk21] (envOf 0 args) [] [] [([], w)] ⟨newS S [] w, [], G⟩) : Calls Tryd.prog 21 args.toArray w Rr :=
  calls_J Tryd.func21 bd21 rfl hl (Pre.none _ _) hG H
def sk22 : Sk := (.seq (.rg 0 false) (.seq (.seq (.rg 1 false) (.seq (.rg 2 false) (.cond (.tmp 11) (.seq (.rg 3 false) .ret) .skip))) (.seq (.seq (.rg 4 false) (.cond (.tmp 38) (.seq (.rg 5 false) .ret) .skip)) (.seq (.seq (.rg 6 false) (.cond (.tmp 43) (.seq (.rg 7 false) .ret) .skip)) (.seq (.seq (.rg 8 false) (.block 0 (.loop (.seq (.rg 9 false) (.seq (.cond (.tmp 49) .skip (.exit 0)) (.seq (.block 1 (.seq (.rg 10 false) (.seq (.rg 11 false) (.seq (.seq (.rg 12 true) (.cond (.tmp 75) (.rg 13 false) .skip)) (.seq (.rg 14 false) (.cond (.tmp 78) (.seq (.rg 15 false) .ret) .skip)))))) (.rg 16 false))))))) (.seq (.rg 17 false) .ret))))))
theorem bd22 : Tryd.f22.body = some (sk22.code Tryd.f22) := by kernel_rfl
theorem ep22 {args : List Value} {w : World} {S : Nat → Prop} {G : List (Value × D)} {Rr : Ending → World → Prop} (hl : Nat.ble args.length Tryd.f22.ntmps = true) (hG : AllG w S G) (H : J Tryd.prog Tryd.f22 (retR Tryd.prog Tryd.f22 Rr) Tryd.f22.ntmps [.c sk22] (envOf 0 args) [] [] [([], w)] ⟨newS S [] w, [], G⟩) : Calls Tryd.prog 22 args.toArray w Rr :=
  calls_J Tryd.func22 bd22 rfl hl (Pre.none _ _) hG H
def sk23 : Sk := (.seq (.rg 0 false) (.seq (.seq (.rg 1 false) (.seq (.rg 2 false) (.cond (.tmp 16) (.seq (.rg 3 false) .ret) .skip))) (.seq (.seq (.rg 4 true) (.cond (.tmp 25) (.seq (.rg 5 false) .ret) .skip)) (.seq (.seq (.rg 6 true) (.seq (.rg 7 false) (.cond (.tmp 37) (.seq (.rg 8 false) .ret) .skip))) (.seq (.seq (.rg 9 false) (.block 0 (.loop (.seq (.rg 10 false) (.seq (.cond (.tmp 43) .skip (.exit 0)) (.seq (.block 1 (.seq (.rg 11 false) (.seq (.rg 12 true) (.cond (.tmp 54) (.seq (.rg 13 false) .ret) .skip)))) (.rg 14 false))))))) (.seq (.rg 15 false) (.seq (.seq (.rg 16 false) (.block 2 (.loop (.seq (.rg 17 false) (.seq (.cond (.tmp 67) .skip (.exit 2)) (.seq (.block 3 (.seq (.rg 18 false) (.seq (.rg 19 true) (.seq (.rg 20 false) (.seq (.rg 21 false) (.rg 22 true)))))) (.rg 23 false))))))) (.seq (.rg 24 false) .ret))))))))
theorem bd23 : Tryd.f23.body = some (sk23.code Tryd.f23) := by kernel_rfl
theorem en23 {args : List Value} {w : World} {S : Nat → Prop} {M : List Nat} {C : List Chunk} {G : List (Value × D)} {Rr : Ending → World → Prop} (hl : Nat.ble args.length Tryd.f23.ntmps = true) (hp : Pre w S M C) (hG : AllG w S G) (H : J Tryd.prog Tryd.f23 (retR Tryd.prog Tryd.f23 Rr) Tryd.f23.ntmps [.c sk23] (envOf 0 args) [] [] [(M, w)] ⟨newS S M w, C, G⟩) : Calls Tryd.prog 23 args.toArray w Rr :=
  calls_J Tryd.func23 bd23 rfl hl hp hG H
def sk24 : Sk := (.seq (.rg 0 false) (.seq (.rg 1 false) (.seq (.rg 2 true) .ret)))
theorem bd24 : Tryd.f24.body = some (sk24.code Tryd.f24) := by kernel_rfl
theorem en24 {args : List Value} {w : World} {S : Nat → Prop} {M : List Nat} {C : List Chunk} {G : List (Value × D)} {Rr : Ending → World → Prop} (hl : Nat.ble args.length Tryd.f24.ntmps = true) (hp : Pre w S M C) (hG : AllG w S G) (H : J Tryd.prog Tryd.f24 (retR Tryd.prog Tryd.f24 Rr) Tryd.f24.ntmps [.c sk24] (envOf 0 args) [] [] [(M, w)] ⟨newS S M w, C, G⟩) : Calls Tryd.prog 24 args.toArray w Rr :=
  calls_J Tryd.func24 bd24 rfl hl hp hG H
def sk25 : Sk := (.seq (.rg 0 false) (.seq (.seq (.rg 1 false) (.seq (.rg 2 false) (.cond (.tmp 10) (.seq (.rg 3 false) .ret) .skip))) (.seq (.seq (.rg 4 true) (.cond (.tmp 20) (.seq (.rg 5 true) .ret) .skip)) (.seq (.seq (.rg 6 true) (.cond (.tmp 33) (.seq (.rg 7 true) .ret) .skip)) (.seq (.rg 8 true) .ret)))))
theorem bd25 : Tryd.f25.body = some (sk25.code Tryd.f25) := by kernel_rfl
theorem en25 {args : List Value} {w : World} {S : Nat → Prop} {M : List Nat} {C : List Chunk} {G : List (Value × D)} {Rr : Ending → World → Prop} (hl : Nat.ble args.length Tryd.f25.ntmps = true) (hp : Pre w S M C) (hG : AllG w S G) (H : J Tryd.prog Tryd.f25 (retR Tryd.prog Tryd.f25 Rr) Tryd.f25.ntmps [.c sk25] (envOf 0 args) [] [] [(M, w)] ⟨newS S M w, C, G⟩) : Calls Tryd.prog 25 args.toArray w Rr :=
  calls_J Tryd.func25 bd25 rfl hl hp hG H
def sk26 : Sk := (.seq (.rg 0 false) (.seq (.rg 1 false) .ret))
theorem bd26 : Tryd.f26.body = some (sk26.code Tryd.f26) := by kernel_rfl
theorem ep26 {args : List Value} {w : World} {S : Nat → Prop} {G : List (Value × D)} {Rr : Ending → World → Prop} (hl : Nat.ble args.length Tryd.f26.ntmps = true) (hG : AllG w S G) (H : J Tryd.prog Tryd.f26 (retR Tryd.prog Tryd.f26 Rr) Tryd.f26.ntmps [.c sk26] (envOf 0 args) [] [] [([], w)] ⟨newS S [] w, [], G⟩) : Calls Tryd.prog 26 args.toArray w Rr :=
  calls_J Tryd.func26 bd26 rfl hl (Pre.none _ _) hG H
def sk27 : Sk := (.seq (.rg 0 false) (.seq (.rg 1 false) .ret))
theorem bd27 : Tryd.f27.body = some (sk27.code Tryd.f27) := by kernel_rfl
theorem ep27 {args : List Value} {w : World} {S : Nat → Prop} {G : List (Value × D)} {Rr : Ending → World → Prop} (hl : Nat.ble args.length Tryd.f27.ntmps = true) (hG : AllG w S G) (H : J Tryd.prog Tryd.f27 (retR Tryd.prog Tryd.f27 Rr) Tryd.f27.ntmps [.c sk27] (envOf 0 args) [] [] [([], w)] ⟨newS S [] w, [], G⟩) : Calls Tryd.prog 27 args.toArray w Rr :=
  calls_J Tryd.func27 bd27 rfl hl (Pre.none _ _) hG H
def sk30 : Sk := (.seq (.rg 0 false) (.seq (.seq (.rg 1 false) (.cond (.tmp 29) (.seq (.rg 2 true) .ret) .skip)) (.seq (.seq (.rg 3 false) (.cond (.tmp 34) (.seq (.rg 4 true) .ret) .skip)) (.seq (.rg 5 false) .ret))))
theorem bd30 : Tryd.f30.body = some (sk30.code Tryd.f30) := by kernel_rfl
theorem ep30 {args : List Value} {w : World} {S : Nat → Prop} {G : List (Value × D)} {Rr : Ending → World → Prop} (hl : Nat.ble args.length Tryd.f30.ntmps = true) (hG : AllG w S G) (H : J Tryd.prog Tryd.f30 (retR Tryd.prog Tryd.f30 Rr) Tryd.f30.ntmps [.c sk30] (envOf 0 args) [] [] [([], w)] ⟨newS S [] w, [], G⟩) : Calls Tryd.prog 30 args.toArray w Rr :=
  calls_J Tryd.func30 bd30 rfl hl (Pre.none _ _) hG H
def sk31 : Sk := (.seq (.rg 0 false) (.seq (.seq (.rg 1 false) (.cond (.tmp 10) (.seq (.rg 2 false) .ret) .skip)) (.seq (.seq (.rg 3 false) (.cond (.tmp 13) (.seq (.rg 4 false) .ret) .skip)) (.seq (.rg 5 false) .ret))))
theorem bd31 : Tryd.f31.body = some (sk31.code Tryd.f31) := by kernel_rfl
theorem ep31 {args : List Value} {w : World} {S : Nat → Prop} {G : List (Value × D)} {Rr : Ending → World → Prop} (hl : Nat.ble args.length Tryd.f31.ntmps = true) (hG : AllG w S G) (H : J Tryd.prog Tryd.f31 (retR Tryd.prog Tryd.f31 Rr) Tryd.f31.ntmps [.c sk31] (envOf 0 args) [] [] [([], w)] ⟨newS S [] w, [], G⟩) : Calls Tryd.prog 31 args.toArray w Rr :=
  calls_J Tryd.func31 bd31 rfl hl (Pre.none _ _) hG H
def sk32 : Sk := (.seq (.rg 0 false) (.seq (.seq (.rg 1 false) (.seq (.rg 2 false) (.cond (.tmp 11) (.seq (.rg 3 false) .ret) .skip))) (.seq (.rg 4 false) .ret)))
theorem bd32 : Tryd.f32.body = some (sk32.code Tryd.f32) := by kernel_rfl
theorem ep32 {args : List Value} {w : World} {S : Nat → Prop} {G : List (Value × D)} {Rr : Ending → World → Prop} (hl : Nat.ble args.length Tryd.f32.ntmps = true) (hG : AllG w S G) (H : J Tryd.prog Tryd.f32 (retR Tryd.prog Tryd.f32 Rr) Tryd.f32.ntmps [.c sk32] (envOf 0 args) [] [] [([], w)] ⟨newS S [] w, [], G⟩) : Calls Tryd.prog 32 args.toArray w Rr :=
  calls_J Tryd.func32 bd32 rfl hl (Pre.none _ _) hG H
def sk33 : Sk := (.seq (.rg 0 false) (.seq (.rg 1 false) (.seq (.seq (.rg 2 false) (.block 0 (.loop (.seq (.rg 3 false) (.seq (.cond (.tmp 13) .skip (.exit 0)) (.seq (.block 1 (.seq (.rg 4 false) (.seq (.rg 5 false) (.seq (.seq (.rg 6 false) (.cond (.tmp 26) (.rg 7 false) .skip)) (.rg 8 false))))) (.rg 9 false))))))) (.seq (.rg 10 false) .ret))))
theorem bd33 : Tryd.f33.body = some (sk33.code Tryd.f33) := by kernel_rfl
theorem en33 {args : List Value} {w : World} {S : Nat → Prop} {M : List Nat} {C : List Chunk} {G : List (Value × D)} {Rr : Ending → World → Prop} (hl : Nat.ble args.length Tryd.f33.ntmps = true) (hp : Pre w S M C) (hG : AllG w S G) (H : J Tryd.prog Tryd.f33 (retR Tryd.prog Tryd.f33 Rr) Tryd.f33.ntmps [.c sk33] (envOf 0 args) [] [] [(M, w)] ⟨newS S M w, C, G⟩) : Calls Tryd.prog 33 args.toArray w Rr :=
  calls_J Tryd.func33 bd33 rfl hl hp hG H
def sk34 : Sk := (.seq (.rg 0 false) (.seq (.seq (.rg 1 false) (.cond (.tmp 4) (.seq (.rg 2 false) .ret) .skip)) (.seq (.rg 3 false) .ret)))
theorem bd34 : Tryd.f34.body = some (sk34.code Tryd.f34) := by kernel_rfl
theorem ep34 {args : List Value} {w : World} {S : Nat → Prop} {G : List (Value × D)} {Rr : Ending → World → Prop} (hl : Nat.ble args.length Tryd.f34.ntmps = true) (hG : AllG w S G) (H : J Tryd.prog Tryd.f34 (retR Tryd.prog Tryd.f34 Rr) Tryd.f34.ntmps [.c sk34] (envOf 0 args) [] [] [([], w)] ⟨newS S [] w, [], G⟩) : Calls Tryd.prog 34 args.toArray w Rr :=
  calls_J Tryd.func34 bd34 rfl hl (Pre.none _ _) hG H
def sk35 : Sk := (.seq (.rg 0 false) (.seq (.seq (.rg 1 false) (.cond (.tmp 4) (.seq (.rg 2 false) .ret) .skip)) (.seq (.rg 3 false) .ret)))
theorem bd35 : Tryd.f35.body = some (sk35.code Tryd.f35) := by kernel_rfl
theorem ep35 {args : List Value} {w : World} {S : Nat → Prop} {G : List (Value × D)} {Rr : Ending → World → Prop} (hl : Nat.ble args.length Tryd.f35.ntmps = true) (hG : AllG w S G) (H : J Tryd.prog Tryd.f35 (retR Tryd.prog Tryd.f35 Rr) Tryd.f35.ntmps [.c sk35] (envOf 0 args) [] [] [([], w)] ⟨newS S [] w, [], G⟩) : Calls Tryd.prog 35 args.toArray w Rr :=
  calls_J Tryd.func35 bd35 rfl hl (Pre.none _ _) hG H
def sk36 : Sk := (.seq (.rg 0 false) (.seq (.seq (.rg 1 false) (.cond (.tmp 4) (.seq (.rg 2 false) .ret) .skip)) (.seq (.rg 3 false) .ret)))
theorem bd36 : Tryd.f36.body = some (sk36.code Tryd.f36) := by kernel_rfl
theorem ep36 {args : List Value} {w : World} {S : Nat → Prop} {G : List (Value × D)} {Rr : Ending → World → Prop} (hl : Nat.ble args.length Tryd.f36.ntmps = true) (hG : AllG w S G) (H : J Tryd.prog Tryd.f36 (retR Tryd.prog Tryd.f36 Rr) Tryd.f36.ntmps [.c sk36] (envOf 0 args) [] [] [([], w)] ⟨newS S [] w, [], G⟩) : Calls Tryd.prog 36 args.toArray w Rr :=
  calls_J Tryd.func36 bd36 rfl hl (Pre.none _ _) hG H
def sk37 : Sk := (.seq (.rg 0 false) (.seq (.block 0 (.seq (.rg 1 false) (.cond (.tmp 5) (.seq (.rg 2 false) .ret) (.seq (.rg 3 false) (.cond (.tmp 23) (.seq (.rg 4 false) .ret) (.seq (.rg 5 false) (.cond (.tmp 29) (.seq (.rg 6 false) .ret) (.seq (.rg 7 false) (.cond (.tmp 44) (.seq (.rg 8 false) .ret) (.seq (.rg 9 false) (.cond (.tmp 49) (.seq (.rg 10 false) .ret) (.seq (.rg 11 false) (.cond (.tmp 71) (.seq (.rg 12 false) .ret) .skip))))))))))))) (.seq (.rg 13 false) .ret)))
theorem bd37 : Tryd.f37.body = some (sk37.code Tryd.f37) := by kernel_rfl
theorem ep37 {args : List Value} {w : World} {S : Nat → Prop} {G : List (Value × D)} {Rr : Ending → World → Prop} (hl : Nat.ble args.length Tryd.f37.ntmps = true) (hG : AllG w S G) (H : J Tryd.prog Tryd.f37 (retR Tryd.prog Tryd.f37 Rr) Tryd.f37.ntmps [.c sk37] (envOf 0 args) [] [] [([], w)] ⟨newS S [] w, [], G⟩) : Calls Tryd.prog 37 args.toArray w Rr :=
  calls_J Tryd.func37 bd37 rfl hl (Pre.none _ _) hG H
def sk38 : Sk := (.seq (.rg 0 false) (.seq (.rg 1 true) .ret))
theorem bd38 : Tryd.f38.body = some (sk38.code Tryd.f38) := by kernel_rfl
theorem ep38 {args : List Value} {w : World} {S : Nat → Prop} {G : List (Value × D)} {Rr : Ending → World → Prop} (hl : Nat.ble args.length Tryd.f38.ntmps = true) (hG : AllG w S G) (H : J Tryd.prog Tryd.f38 (retR Tryd.prog Tryd.f38 Rr) Tryd.f38.ntmps [.c sk38] (envOf 0 args) [] [] [([], w)] ⟨newS S [] w, [], G⟩) : Calls Tryd.prog 38 args.toArray w Rr :=
  calls_J Tryd.func38 bd38 rfl hl (Pre.none _ _) hG H
def sk39 : Sk := (.seq (.rg 0 false) (.seq (.rg 1 false) (.seq (.seq (.rg 2 false) (.cond (.tmp 12) (.seq (.rg 3 false) .ret) .skip)) (.seq (.seq (.rg 4 false) (.block 0 (.loop (.seq (.seq (.rg 5 false) (.cond (.tmp 19) .skip (.exit 0))) (.seq (.block 1 (.seq (.rg 7 false) (.seq (.rg 8 false) (.cond (.tmp 29) (.seq (.rg 9 false) (.rg 10 false)) .skip)))) (.rg 6 false)))))) (.seq (.rg 11 false) (.seq (.rg 12 false) .ret))))))
theorem bd39 : Tryd.f39.body = some (sk39.code Tryd.f39) := by kernel_rfl
theorem en39 {args : List Value} {w : World} {S : Nat → Prop} {M : List Nat} {C : List Chunk} {G : List (Value × D)} {Rr : Ending → World → Prop} (hl : Nat.ble args.length Tryd.f39.ntmps = true) (hp : Pre w S M C) (hG : AllG w S G) (H : J Tryd.prog Tryd.f39 (retR Tryd.prog Tryd.f39 Rr) Tryd.f39.ntmps [.c sk39] (envOf 0 args) [] [] [(M, w)] ⟨newS S M w, C, G⟩) : Calls Tryd.prog 39 args.toArray w Rr :=
  calls_J Tryd.func39 bd39 rfl hl hp hG H
def sk40 : Sk := (.seq (.rg 0 false) (.seq (.rg 1 true) (.seq (.rg 2 false) .ret)))
theorem bd40 : Tryd.f40.body = some (sk40.code Tryd.f40) := by kernel_rfl
theorem en40 {args : List Value} {w : World} {S : Nat → Prop} {M : List Nat} {C : List Chunk} {G : List (Value × D)} {Rr : Ending → World → Prop} (hl : Nat.ble args.length Tryd.f40.ntmps = true) (hp : Pre w S M C) (hG : AllG w S G) (H : J Tryd.prog Tryd.f40 (retR Tryd.prog Tryd.f40 Rr) Tryd.f40.ntmps [.c sk40] (envOf 0 args) [] [] [(M, w)] ⟨newS S M w, C, G⟩) : Calls Tryd.prog 40 args.toArray w Rr :=
  calls_J Tryd.func40 bd40 rfl hl hp hG H
def sk41 : Sk := (.seq (.rg 0 false) (.seq (.rg 1 false) (.seq (.rg 2 false) (.seq (.rg 3 true) (.seq (.rg 4 true) (.seq (.rg 5 false) .ret))))))
theorem bd41 : Tryd.f41.body = some (sk41.code Tryd.f41) := by kernel_rfl
theorem en41 {args : List Value} {w : World} {S : Nat → Prop} {M : List Nat} {C : List Chunk} {G : List (Value × D)} {Rr : Ending → World → Prop} (hl : Nat.ble args.length Tryd.f41.ntmps = true) (hp : Pre w S M C) (hG : AllG w S G) (H : J Tryd.prog Tryd.f41 (retR Tryd.prog Tryd.f41 Rr) Tryd.f41.ntmps [.c sk41] (envOf 0 args) [] [] [(M, w)] ⟨newS S M w, C, G⟩) : Calls Tryd.prog 41 args.toArray w Rr :=
  calls_J Tryd.func41 bd41 rfl hl hp hG H
def sk42 : Sk := (.seq (.rg 0 false) (.seq (.seq (.rg 1 false) (.block 0 (.loop (.seq (.rg 2 false) (.seq (.cond (.tmp 9) .skip (.exit 0)) (.seq (.block 1 (.seq (.rg 3 false) (.seq (.rg 4 false) (.cond (.tmp 16) (.seq (.rg 5 false) .ret) .skip)))) (.rg 6 false))))))) (.seq (.rg 7 false) .ret)))
theorem bd42 : Tryd.f42.body = some (sk42.code Tryd.f42) := by kernel_rfl
theorem ep42 {args : List Value} {w : World} {S : Nat → Prop} {G : List (Value × D)} {Rr : Ending → World → Prop} (hl : Nat.ble args.length Tryd.f42.ntmps = true) (hG : AllG w S G) (H : J Tryd.prog Tryd.f42 (retR Tryd.prog Tryd.f42 Rr) Tryd.f42.ntmps [.c sk42] (envOf 0 args) [] [] [([], w)] ⟨newS S [] w, [], G⟩) : Calls Tryd.prog 42 args.toArray w Rr :=
  calls_J Tryd.func42 bd42 rfl hl (Pre.none _ _) hG H
def sk49 : Sk := (.seq (.rg 0 false) (.seq (.rg 1 false) .ret))
theorem bd49 : Tryd.f49.body = some (sk49.code Tryd.f49) := by kernel_rfl
theorem ep49 {args : List Value} {w : World} {S : Nat → Prop} {G : List (Value × D)} {Rr : Ending → World → Prop} (hl : Nat.ble args.length Tryd.f49.ntmps = true) (hG : AllG w S G) (H : J Tryd.prog Tryd.f49 (retR Tryd.prog Tryd.f49 Rr) Tryd.f49.ntmps [.c sk49] (envOf 0 args) [] [] [([], w)] ⟨newS S [] w, [], G⟩) : Calls Tryd.prog 49 args.toArray w Rr :=
  calls_J Tryd.func49 bd49 rfl hl (Pre.none _ _) hG H
def sk50 : Sk := (.seq (.rg 0 false) (.seq (.rg 1 false) .ret))
theorem bd50 : Tryd.f50.body = some (sk50.code Tryd.f50) := by kernel_rfl
theorem ep50 {args : List Value} {w : World} {S : Nat → Prop} {G : List (Value × D)} {Rr : Ending → World → Prop} (hl : Nat.ble args.length Tryd.f50.ntmps = true) (hG : AllG w S G) (H : J Tryd.prog Tryd.f50 (retR Tryd.prog Tryd.f50 Rr) Tryd.f50.ntmps [.c sk50] (envOf 0 args) [] [] [([], w)] ⟨newS S [] w, [], G⟩) : Calls Tryd.prog 50 args.toArray w Rr :=
  calls_J Tryd.func50 bd50 rfl hl (Pre.none _ _) hG H
def sk51 : Sk := (.seq (.rg 0 false) (.seq (.seq (.rg 1 false) (.block 0 (.loop (.seq (.rg 2 false) (.seq (.cond (.tmp 13) .skip (.exit 0)) (.seq (.block 1 (.seq (.rg 3 false) (.seq (.rg 4 false) (.seq (.rg 5 false) (.cond (.tmp 19) (.seq (.rg 6 false) .ret) .skip))))) (.rg 7 false))))))) (.seq (.seq (.rg 8 false) (.cond (.tmp 26) (.seq (.rg 9 false) .ret) .skip)) (.seq (.rg 10 false) .ret))))
theorem bd51 : Tryd.f51.body = some (sk51.code Tryd.f51) := by kernel_rfl
theorem ep51 {args : List Value} {w : World} {S : Nat → Prop} {G : List (Value × D)} {Rr : Ending → World → Prop} (hl : Nat.ble args.length Tryd.f51.ntmps = true) (hG : AllG w S G) (H : J Tryd.prog Tryd.f51 (retR Tryd.prog Tryd.f51 Rr) Tryd.f51.ntmps [.c sk51] (envOf 0 args) [] [] [([], w)] ⟨newS S [] w, [], G⟩) : Calls Tryd.prog 51 args.toArray w Rr :=
  calls_J Tryd.func51 bd51 rfl hl (Pre.none _ _) hG H
def sk52 : Sk := (.seq (.rg 0 false) (.seq (.seq (.rg 1 false) (.block 0 (.loop (.seq (.rg 2 false) (.seq (.cond (.tmp 10) .skip (.exit 0)) (.seq (.block 1 (.seq (.rg 3 false) (.seq (.rg 4 false) (.cond (.tmp 19) (.seq (.rg 5 false) .ret) .skip)))) (.rg 6 false))))))) (.seq (.rg 7 false) .ret)))
theorem bd52 : Tryd.f52.body = some (sk52.code Tryd.f52) := by kernel_rfl
theorem ep52 {args : List Value} {w : World} {S : Nat → Prop} {G : List (Value × D)} {Rr : Ending → World → Prop} (hl : Nat.ble args.length Tryd.f52.ntmps = true) (hG : AllG w S G) (H : J Tryd.prog Tryd.f52 (retR Tryd.prog Tryd.f52 Rr) Tryd.f52.ntmps [.c sk52] (envOf 0 args) [] [] [([], w)] ⟨newS S [] w, [], G⟩) : Calls Tryd.prog 52 args.toArray w Rr :=
  calls_J Tryd.func52 bd52 rfl hl (Pre.none _ _) hG H
def sk53 : Sk := (.seq (.rg 0 false) (.seq (.seq (.rg 1 false) (.cond (.tmp 9) (.rg 2 false) .skip)) (.seq (.rg 3 false) (.seq (.seq (.rg 4 false) (.block 0 (.loop (.seq (.seq (.rg 5 false) (.cond (.tmp 17) .skip (.exit 0))) (.seq (.block 1 (.seq (.rg 7 false) (.cond (.tmp 27) (.rg 8 false) .skip))) (.rg 6 false)))))) (.seq (.rg 9 false) .ret)))))
theorem bd53 : Tryd.f53.body = some (sk53.code Tryd.f53) := by kernel_rfl
theorem en53 {args : List Value} {w : World} {S : Nat → Prop} {M : List Nat} {C : List Chunk} {G : List (Value × D)} {Rr : Ending → World → Prop} (hl : Nat.ble args.length Tryd.f53.ntmps = true) (hp : Pre w S M C) (hG : AllG w S G) (H : J Tryd.prog Tryd.f53 (retR Tryd.prog Tryd.f53 Rr) Tryd.f53.ntmps [.c sk53] (envOf 0 args) [] [] [(M, w)] ⟨newS S M w, C, G⟩) : Calls Tryd.prog 53 args.toArray w Rr :=
  calls_J Tryd.func53 bd53 rfl hl hp hG H
def sk54 : Sk := (.seq (.rg 0 false) (.seq (.rg 1 false) .ret))
theorem bd54 : Tryd.f54.body = some (sk54.code Tryd.f54) := by kernel_rfl
theorem en54 {args : List Value} {w : World} {S : Nat → Prop} {M : List Nat} {C : List Chunk} {G : List (Value × D)} {Rr : Ending → World → Prop} (hl : Nat.ble args.length Tryd.f54.ntmps = true) (hp : Pre w S M C) (hG : AllG w S G) (H : J Tryd.prog Tryd.f54 (retR Tryd.prog Tryd.f54 Rr) Tryd.f54.ntmps [.c sk54] (envOf 0 args) [] [] [(M, w)] ⟨newS S M w, C, G⟩) : Calls Tryd.prog 54 args.toArray w Rr :=
  calls_J Tryd.func54 bd54 rfl hl hp hG H
def sk55 : Sk := (.seq (.rg 0 false) (.seq (.rg 1 false) .ret))
theorem bd55 : Tryd.f55.body = some (sk55.code Tryd.f55) := by kernel_rfl
theorem en55 {args : List Value} {w : World} {S : Nat → Prop} {M : List Nat} {C : List Chunk} {G : List (Value × D)} {Rr : Ending → World → Prop} (hl : Nat.ble args.length Tryd.f55.ntmps = true) (hp : Pre w S M C) (hG : AllG w S G) (H : J Tryd.prog Tryd.f55 (retR Tryd.prog Tryd.f55 Rr) Tryd.f55.ntmps [.c sk55] (envOf 0 args) [] [] [(M, w)] ⟨newS S M w, C, G⟩) : Calls Tryd.prog 55 args.toArray w Rr :=
  calls_J Tryd.func55 bd55 rfl hl hp hG H
def sk56 : Sk := (.seq (.rg 0 false) (.seq (.seq (.rg 1 false) (.block 0 (.seq (.rg 2 false) (.cond (.tmp 5) (.seq (.rg 3 false) .ret) (.seq (.rg 4 false) (.cond (.tmp 21) (.seq (.rg 5 false) .ret) .skip)))))) (.seq (.rg 6 false) .ret)))
theorem bd56 : Tryd.f56.body = some (sk56.code Tryd.f56) := by kernel_rfl
theorem ep56 {args : List Value} {w : World} {S : Nat → Prop} {G : List (Value × D)} {Rr : Ending → World → Prop} (hl : Nat.ble args.length Tryd.f56.ntmps = true) (hG : AllG w S G) (H : J Tryd.prog Tryd.f56 (retR Tryd.prog Tryd.f56 Rr) Tryd.f56.ntmps [.c sk56] (envOf 0 args) [] [] [([], w)] ⟨newS S [] w, [], G⟩) : Calls Tryd.prog 56 args.toArray w Rr :=
  calls_J Tryd.func56 bd56 rfl hl (Pre.none _ _) hG H
def sk57 : Sk := (.seq (.rg 0 false) (.seq (.rg 1 false) .ret))
theorem bd57 : Tryd.f57.body = some (sk57.code Tryd.f57) := by kernel_rfl
theorem ep57 {args : List Value} {w : World} {S : Nat → Prop} {G : List (Value × D)} {Rr : Ending → World → Prop} (hl : Nat.ble args.length Tryd.f57.ntmps = true) (hG : AllG w S G) (H : J Tryd.prog Tryd.f57 (retR Tryd.prog Tryd.f57 Rr) Tryd.f57.ntmps [.c sk57] (envOf 0 args) [] [] [([], w)] ⟨newS S [] w, [], G⟩) : Calls Tryd.prog 57 args.toArray w Rr :=
  calls_J Tryd.func57 bd57 rfl hl (Pre.none _ _) hG H
def sk58 : Sk := (.seq (.rg 0 false) (.seq (.rg 1 false) .ret))
theorem bd58 : Tryd.f58.body = some (sk58.code Tryd.f58) := by kernel_rfl
theorem ep58 {args : List Value} {w : World} {S : Nat → Prop} {G : List (Value × D)} {Rr : Ending → World → Prop} (hl : Nat.ble args.length Tryd.f58.ntmps = true) (hG : AllG w S G) (H : J Tryd.prog Tryd.f58 (retR Tryd.prog Tryd.f58 Rr) Tryd.f58.ntmps [.c sk58] (envOf 0 args) [] [] [([], w)] ⟨newS S [] w, [], G⟩) : Calls Tryd.prog 58 args.toArray w Rr :=
  calls_J Tryd.func58 bd58 rfl hl (Pre.none _ _) hG H
def sk59 : Sk := (.seq (.rg 0 false) (.seq (.rg 1 false) .ret))
theorem bd59 : Tryd.f59.body = some (sk59.code Tryd.f59) := by kernel_rfl
theorem ep59 {args : List Value} {w : World} {S : Nat → Prop} {G : List (Value × D)} {Rr : Ending → World → Prop} (hl : Nat.ble args.length Tryd.f59.ntmps = true) (hG : AllG w S G) (H : J Tryd.prog Tryd.f59 (retR Tryd.prog Tryd.f59 Rr) Tryd.f59.ntmps [.c sk59] (envOf 0 args) [] [] [([], w)] ⟨newS S [] w, [], G⟩) : Calls Tryd.prog 59 args.toArray w Rr :=
  calls_J Tryd.func59 bd59 rfl hl (Pre.none _ _) hG H
def sk60 : Sk := (.seq (.rg 0 false) (.seq (.seq (.rg 1 false) (.block 0 (.loop (.seq (.rg 2 false) (.seq (.cond (.tmp 9) .skip (.exit 0)) (.seq (.block 1 (.seq (.rg 3 false) (.seq (.rg 4 false) (.cond (.tmp 16) (.seq (.rg 5 false) .ret) .skip)))) (.rg 6 false))))))) (.seq (.rg 7 false) .ret)))
theorem bd60 : Tryd.f60.body = some (sk60.code Tryd.f60) := by kernel_rfl
theorem en60 {args : List Value} {w : World} {S : Nat → Prop} {M : List Nat} {C : List Chunk} {G : List (Value × D)} {Rr : Ending → World → Prop} (hl : Nat.ble args.length Tryd.f60.ntmps = true) (hp : Pre w S M C) (hG : AllG w S G) (H : J Tryd.prog Tryd.f60 (retR Tryd.prog Tryd.f60 Rr) Tryd.f60.ntmps [.c sk60] (envOf 0 args) [] [] [(M, w)] ⟨newS S M w, C, G⟩) : Calls Tryd.prog 60 args.toArray w Rr :=
  calls_J Tryd.func60 bd60 rfl hl hp hG H
def sk61 : Sk := (.seq (.rg 0 false) (.seq (.rg 1 false) (.seq (.rg 2 false) .ret)))
theorem bd61 : Tryd.f61.body = some (sk61.code Tryd.f61) := by kernel_rfl
theorem ep61 {args : List Value} {w : World} {S : Nat → Prop} {G : List (Value × D)} {Rr : Ending → World → Prop} (hl : Nat.ble args.length Tryd.f61.ntmps = true) (hG : AllG w S G) (H : J Tryd.prog Tryd.f61 (retR Tryd.prog Tryd.f61 Rr) Tryd.f61.ntmps [.c sk61] (envOf 0 args) [] [] [([], w)] ⟨newS S [] w, [], G⟩) : Calls Tryd.prog 61 args.toArray w Rr :=
  calls_J Tryd.func61 bd61 rfl hl (Pre.none _ _) hG H
def sk64 : Sk := (.seq (.rg 0 false) (.seq (.seq (.rg 1 false) (.block 0 (.loop (.seq (.rg 2 false) (.seq (.cond (.tmp 9) .skip (.exit 0)) (.seq (.block 1 (.seq (.rg 3 false) (.seq (.rg 4 false) (.cond (.tmp 16) (.seq (.rg 5 false) .ret) .skip)))) (.rg 6 false))))))) (.seq (.rg 7 false) .ret)))
theorem bd64 : Tryd.f64.body = some (sk64.code Tryd.f64) := by kernel_rfl
theorem ep64 {args : List Value} {w : World} {S : Nat → Prop} {G : List (Value × D)} {Rr : Ending → World → Prop} (hl : Nat.ble args.length Tryd.f64.ntmps = true) (hG : AllG w S G) (H : J Tryd.prog Tryd.f64 (retR Tryd.prog Tryd.f64 Rr) Tryd.f64.ntmps [.c sk64] (envOf 0 args) [] [] [([], w)] ⟨newS S [] w, [], G⟩) : Calls Tryd.prog 64 args.toArray w Rr :=
  calls_J Tryd.func64 bd64 rfl hl (Pre.none _ _) hG H
def sk65 : Sk := (.seq (.rg 0 false) (.seq (.seq (.rg 1 false) (.block 0 (.loop (.seq (.rg 2 false) (.seq (.cond (.tmp 9) .skip (.exit 0)) (.seq (.block 1 (.seq (.rg 3 false) (.seq (.rg 4 false) (.cond (.tmp 16) (.seq (.rg 5 false) .ret) .skip)))) (.rg 6 false))))))) (.seq (.rg 7 false) .ret)))
theorem bd65 : Tryd.f65.body = some (sk65.code Tryd.f65) := by kernel_rfl
theorem ep65 {args : List Value} {w : World} {S : Nat → Prop} {G : List (Value × D)} {Rr : Ending → World → Prop} (hl : Nat.ble args.length Tryd.f65.ntmps = true) (hG : AllG w S G) (H : J Tryd.prog Tryd.f65 (retR Tryd.prog Tryd.f65 Rr) Tryd.f65.ntmps [.c sk65] (envOf 0 args) [] [] [([], w)] ⟨newS S [] w, [], G⟩) : Calls Tryd.prog 65 args.toArray w Rr :=
  calls_J Tryd.func65 bd65 rfl hl (Pre.none _ _) hG H
end Go.Proofs.YtehdegekgdlifaaDoor
end
section
namespace Go.Sx
open Go
def tsD (dl : List Nat) (nw E : Env) : List Nat := nw.map (·.1) ++ (E.map (·.1)).filter fun t => !(dl.contains t || (nw.map (·.1)).contains t)
def eE (dl : List Nat) (nw E : Env) : Env := keepE (nw ++ E) (tsD dl nw E)
def eN (dl : List Nat) (nw : (Nat → Nat) → Env) (nu : Nat → Nat) (E : Env) : Env := keepE (nw nu ++ E) (tsD dl (nw fun _ => 0) E)
section
variable {P : Program} {f : Func} [Pan f] {R : Act → World → Prop} {n : Nat} [Dfr n] {k : List Itm} {E : Env} {h r : List (Nat × Obj)} {F : List (List Nat × World)} {Y : Ghost}
theorem Za {id : Nat} {d : Bool} (pl : List Pl) (dl : List Nat) (nw : Env) (H : J P f R n k (eE dl nw E) (h) r F Y) (hok : (regOk f id d (pl.map Pl.key) && okWp h.length []) = true := by kernel_rfl) (hr : ∀ nu, (packed (runReg P n nu f id h.length d pl [] E h r (tsD dl nw E)), trivL (runReg P n nu f id h.length d pl [] E h r (tsD dl nw E))) = (some (eE dl nw E, h, [], []), trivR (runReg P n nu f id h.length d pl [] E h r (tsD dl nw E))) := by intro _; kernel_rfl) (hm : P.follows .mixedOrders = true := by kernel_rfl) : J P f R n (.c (.rg id d) :: k) E h r F Y := J_reg hm pl [] (tsD dl nw E) hok hr (fun _ => trivial) (fun _ => H)
theorem Zp {id : Nat} {d : Bool} (pl : List Pl) (dl : List Nat) (nw : Env) (p : List Prop) (hp : AllP p) (H : J P f R n k (eE dl nw E) (h) r F Y) (hok : (regOk f id d (pl.map Pl.key) && okWp h.length []) = true := by kernel_rfl) (hr : ∀ nu, (packed (runReg P n nu f id h.length d pl [] E h r (tsD dl nw E)), trivL (runReg P n nu f id h.length d pl [] E h r (tsD dl nw E))) = (some (eE dl nw E, h, p, []), trivR (runReg P n nu f id h.length d pl [] E h r (tsD dl nw E))) := by intro _; kernel_rfl) (hm : P.follows .mixedOrders = true := by kernel_rfl) : J P f R n (.c (.rg id d) :: k) E h r F Y := J_reg hm pl [] (tsD dl nw E) hok hr (fun _ => hp) (fun _ => H)
theorem Zm {id : Nat} {d : Bool} (pl : List Pl) (Wp : List (Nat × List Nat)) (dl : List Nat) (nw : (Nat → Nat) → Env) (h1 : (Nat → Nat) → List (Nat × Obj)) (H : ∀ nu, J P f R n k (eN dl nw nu E) (h1 nu) r F Y) (hok : (regOk f id d (pl.map Pl.key) && okWp h.length Wp) = true := by kernel_rfl) (hr : ∀ nu, (packed (runReg P n nu f id h.length d pl Wp E h r (tsD dl (nw fun _ => 0) E)), trivL (runReg P n nu f id h.length d pl Wp E h r (tsD dl (nw fun _ => 0) E))) = (some (eN dl nw nu E, h1 nu, [], []), trivR (runReg P n nu f id h.length d pl Wp E h r (tsD dl (nw fun _ => 0) E))) := by intro _; kernel_rfl) (hm : P.follows .mixedOrders = true := by kernel_rfl) : J P f R n (.c (.rg id d) :: k) E h r F Y := J_reg hm pl Wp (tsD dl (nw fun _ => 0) E) hok hr (fun _ => trivial) H
theorem Zn {id : Nat} {d : Bool} (pl : List Pl) (Wp : List (Nat × List Nat)) (dl : List Nat) (nw : (Nat → Nat) → Env) (h1 : (Nat → Nat) → List (Nat × Obj)) (p : (Nat → Nat) → List Prop) (hp : ∀ nu, AllP (p nu)) (H : ∀ nu, J P f R n k (eN dl nw nu E) (h1 nu) r F Y) (hok : (regOk f id d (pl.map Pl.key) && okWp h.length Wp) = true := by kernel_rfl) (hr : ∀ nu, (packed (runReg P n nu f id h.length d pl Wp E h r (tsD dl (nw fun _ => 0) E)), trivL (runReg P n nu f id h.length d pl Wp E h r (tsD dl (nw fun _ => 0) E))) = (some (eN dl nw nu E, h1 nu, p nu, []), trivR (runReg P n nu f id h.length d pl Wp E h r (tsD dl (nw fun _ => 0) E))) := by intro _; kernel_rfl) (hm : P.follows .mixedOrders = true := by kernel_rfl) : J P f R n (.c (.rg id d) :: k) E h r F Y := J_reg hm pl Wp (tsD dl (nw fun _ => 0) E) hok hr hp H
theorem Ya {id L0 : Nat} {ck : Bool} {Wp : List (Nat × List Nat)} {rest : List (Nat × Bool)} (pl : List Pl) (dl : List Nat) (nw : Env) (H : JR P f R n (rgOf f id) L0 ck rest Wp k (eE dl nw E) (h) r F Y) (hr : ∀ nu, (packed (runReg P n nu f id L0 ck pl Wp E h r (tsD dl nw E)), trivL (runReg P n nu f id L0 ck pl Wp E h r (tsD dl nw E))) = (some (eE dl nw E, h, [], Wp), trivR (runReg P n nu f id L0 ck pl Wp E h r (tsD dl nw E))) := by intro _; kernel_rfl) : JR P f R n (rgOf f id) L0 ck (pl.map Pl.key ++ rest) Wp k E h r F Y := JR_run pl (tsD dl nw E) hr (fun _ => trivial) (fun _ => H)
theorem Yp {id L0 : Nat} {ck : Bool} {Wp : List (Nat × List Nat)} {rest : List (Nat × Bool)} (pl : List Pl) (dl : List Nat) (nw : Env) (p : List Prop) (hp : AllP p) (H : JR P f R n (rgOf f id) L0 ck rest Wp k (eE dl nw E) (h) r F Y) (hr : ∀ nu, (packed (runReg P n nu f id L0 ck pl Wp E h r (tsD dl nw E)), trivL (runReg P n nu f id L0 ck pl Wp E h r (tsD dl nw E))) = (some (eE dl nw E, h, p, Wp), trivR (runReg P n nu f id L0 ck pl Wp E h r (tsD dl nw E))) := by intro _; kernel_rfl) : JR P f R n (rgOf f id) L0 ck (pl.map Pl.key ++ rest) Wp k E h r F Y := JR_run pl (tsD dl nw E) hr (fun _ => hp) (fun _ => H)
theorem Ym {id L0 : Nat} {ck : Bool} {Wp : List (Nat × List Nat)} {rest : List (Nat × Bool)} (pl : List Pl) (dl : List Nat) (nw : (Nat → Nat) → Env) (h1 : (Nat → Nat) → List (Nat × Obj)) (W1 : List (Nat × List Nat)) (H : ∀ nu, JR P f R n (rgOf f id) L0 ck rest W1 k (eN dl nw nu E) (h1 nu) r F Y) (hr : ∀ nu, (packed (runReg P n nu f id L0 ck pl Wp E h r (tsD dl (nw fun _ => 0) E)), trivL (runReg P n nu f id L0 ck pl Wp E h r (tsD dl (nw fun _ => 0) E))) = (some (eN dl nw nu E, h1 nu, [], W1), trivR (runReg P n nu f id L0 ck pl Wp E h r (tsD dl (nw fun _ => 0) E))) := by intro _; kernel_rfl) : JR P f R n (rgOf f id) L0 ck (pl.map Pl.key ++ rest) Wp k E h r F Y := JR_run pl (tsD dl (nw fun _ => 0) E) hr (fun _ => trivial) H
theorem Yn {id L0 : Nat} {ck : Bool} {Wp : List (Nat × List Nat)} {rest : List (Nat × Bool)} (pl : List Pl) (dl : List Nat) (nw : (Nat → Nat) → Env) (h1 : (Nat → Nat) → List (Nat × Obj)) (W1 : List (Nat × List Nat)) (p : (Nat → Nat) → List Prop) (hp : ∀ nu, AllP (p nu)) (H : ∀ nu, JR P f R n (rgOf f id) L0 ck rest W1 k (eN dl nw nu E) (h1 nu) r F Y) (hr : ∀ nu, (packed (runReg P n nu f id L0 ck pl Wp E h r (tsD dl (nw fun _ => 0) E)), trivL (runReg P n nu f id L0 ck pl Wp E h r (tsD dl (nw fun _ => 0) E))) = (some (eN dl nw nu E, h1 nu, p nu, W1), trivR (runReg P n nu f id L0 ck pl Wp E h r (tsD dl (nw fun _ => 0) E))) := by intro _; kernel_rfl) : JR P f R n (rgOf f id) L0 ck (pl.map Pl.key ++ rest) Wp k E h r F Y := JR_run pl (tsD dl (nw fun _ => 0) E) hr hp H
theorem Yc {S0 : Nat → Prop} {C0 : List Chunk} {G0 : List (Value × D)} {id L0 i : Nat} {ck : Bool} {Wp : List (Nat × List Nat)} {rest : List (Nat × Bool)} (fid : FuncId) (args : Array Value) (dst : Option Tmp)
    (C : ∀ w S, AllG w S G0 → Calls P fid args w fun e w' => ∃ v C' G', Ret [] w S w' e v C' G' ∧
      JR P f R n (rgOf f id) L0 ck rest (Wp.filter (·.1 != i)) k (E.put dst (.val v)) h r F ⟨S0, C0 ++ C', G0 ++ G'⟩)
    (he : chkC (callOf P n (rgOf f id) h r E i []) = (some (fid, args, dst), trivC (callOf P n (rgOf f id) h r E i []), 0) := by kernel_rfl) :
    JR P f R n (rgOf f id) L0 ck ((i, false) :: rest) Wp k E h r F ⟨S0, C0, G0⟩ := JR_callp [] fid args dst he C
theorem Yr {n : Nat} {Rr : Ending → World → Prop} (hss : List (List Hn)) (v : Value) (H : ∀ a w, St n E h r F Y a w → Rr (.returned v) w)
    (he : chkV (retV P f E h r hss) = (some v, trivV (retV P f E h r hss), 0) := by kernel_rfl) : J P f (retR P f Rr) n (.c .ret :: k) E h r F Y := J_return hss v he H
theorem Nm {S0 : Nat → Prop} {C0 : List Chunk} {G0 : List (Value × D)} (C' : List Chunk) (H : J P f R n k E h r F ⟨S0, C', G0⟩) (hC : C0 = C' := by kernel_rfl) : J P f R n k E h r F ⟨S0, C0, G0⟩ := by
  subst hC
  exact H
theorem jT {id : Nat} {d : Bool} (plan : List (Nat × Bool)) (Wp : List (Nat × List Nat)) (H : JR P f R n (rgOf f id) h.length d plan Wp k E h r F Y) (hok : regOk f id d plan = true := by kernel_rfl) (hWp : okWp h.length Wp = true := by kernel_rfl) (hm : P.follows .mixedOrders = true := by kernel_rfl) : J P f R n (.c (.rg id d) :: k) E h r F Y := JR_begin hm plan Wp hok hWp H
end
theorem aQ {α : Type _} : (∀ (a : α) (l m : List α), a :: l ++ m = a :: (l ++ m)) ∧ (∀ l : List α, [] ++ l = l) ∧ ∀ l : List α, l ++ [] = l := ⟨fun _ _ _ => List.cons_append, List.nil_append, List.append_nil⟩
def Rds (a b : Nat) : List Pl := (List.range (b - a)).map fun i => .rd (a + i) [] 0 0
end Go.Sx
end
