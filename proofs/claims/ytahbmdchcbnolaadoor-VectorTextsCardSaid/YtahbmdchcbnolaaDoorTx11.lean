/- The engine of our walks, part 11 (with ghosts): rows in sight: read and turned at a letter. -/
import Derived.Test.YtahbmdchcbnolaaDoorTx10
import Derived.Laws.CopyRow
namespace Go.Sx
open Go

theorem setRow_eq {w : World} {g : Nat} {cs cs' : Array Value} {e : TypeId} (hw : w.heap[g]? = some (.cells cs e (0, 0))) : w.setRow g cs' = { w with heap := w.heap.setIfInBounds g (.cells cs' e (0, 0)) } := by
  unfold World.setRow
  congr 1
  apply Array.ext_getElem?
  intro j
  rw [Array.getElem?_modify, Array.getElem?_setIfInBounds]
  by_cases hj : g = j
  · subst hj
    have : g < w.heap.size := (Array.getElem?_eq_some_iff.1 hw).1
    simp only [if_true, hw, Option.map_some, this]
  · simp [hj]
/-- cur with vs from o on. -/
def seg (cur : Array Value) (o : Nat) (vs : List Value) : Array Value := (cur.toList.take o ++ vs ++ cur.toList.drop (o + vs.length)).toArray

def stOf (n : Nat) (ops : Array Oper) (E : Env) (i : Nat) : Option (Value × Value × TypeId × Option Tmp) :=
  match ops[i]? with
  | none => none
  | some o => if dstOk n o.dst then match o.guard with
    | some _ => none
    | none => match o.op with
      | .store t a x => match opsOk E none [a, x] with
        | some [] => some (rho E a, rho E x, t, o.dst)
        | _ => none
      | _ => none
    else none

section rows
variable {P : Program} {f : Func} [Pan f] {R : Act → World → Prop} {n : Nat} [Dfr n] {k : List Itm} {E : Env} {h r : List (Nat × Obj)} {F : List (List Nat × World)} {Y : Ghost}

theorem stOf_sound {ops : Array Oper} {i : Nat} {av xv : Value} {t : TypeId} {dst : Option Tmp} (he : stOf n ops E i = some (av, xv, t, dst))
    {a : Act} {w : World} {fps : List (List Nat)} (s : StF n E h r F Y a w fps) {K : Act → World → Prop}
    (H : ∃ w', (Instr.storeAt t av xv).run P w = .ok () w' ∧ ∀ a', Ag n (E.put dst (.val undef)) a' → K a' w') : wpOp P ops (wpK P f R k) i K a w := by
  unfold stOf at he
  split at he
  · cases he
  rename_i o ho
  split at he
  case isFalse => cases he
  rename_i hd
  split at he
  · cases he
  rename_i hg
  split at he
  case h_2 => cases he
  rename_i t' m x hc
  split at he
  case h_2 => cases he
  rename_i hq
  simp only [Option.some.injEq, Prod.mk.injEq] at he
  obtain ⟨rfl, rfl, rfl, rfl⟩ := he
  have hev := opsOk_sound s.ag (fun c w h => by cases h) _ _ hq trivial
  have e1 : a.eval m = rho E m := hev m (by simp)
  have e2 : a.eval x = rho E x := hev x (by simp)
  obtain ⟨w', hrun, hk⟩ := H
  unfold wpOp
  simp only [ho]
  rw [if_pos (by simp [Region.wanted, hg])]
  refine .inl ?_
  unfold Oper.wp execOp
  simp only [hc, Sem.run_bind, Sem.run_pure, Result.andThen_ok, e1, e2, hrun]
  exact hk _ (s.ag.put hd (.val undef))

/-- '*p = v', p into a row that is known. -/
theorem JR_storerow {id L0 i : Nat} {ck : Bool} {Wp : List (Nat × List Nat)} {rest : List (Nat × Bool)} (p g o t e : Nat) (v : Value) (vs : List Value) (dst : Option Tmp) {cur : Array Value} {size : Nat}
    (he : stOf n (rgOf f id) E i = some (.pointer (some ⟨g, o, none⟩), v, t, dst)) (hok : (!ck || okW L0 (Wp.lookup i) [p]) = true) (hi : (P.info? t).map (·.size) = some size) (hvs : v.cells.size = size) (hv2 : v.cells.toList = vs)
    (hp : h[p]? = some (g, .cells cur e (0, 0))) (hl : o + size ≤ cur.size) (h1 : ∀ u ∈ vs, u.oneCell' = true)
    (A : JR P f R n (rgOf f id) L0 ck rest (Wp.filter (·.1 != i)) k (E.put dst (.val undef)) (h.set p (g, .cells (seg cur o vs) e (0, 0))) r F Y) :
    JR P f R n (rgOf f id) L0 ck ((i, false) :: rest) Wp k E h r F Y := by
  subst hv2
  intro BB Hd fps a w s hH hR hN hW
  simp only [PW]
  have hb : w.heap[g]? = some (.cells cur e (0, 0)) := s.own.own _ (List.mem_of_getElem? hp)
  obtain ⟨inf, hinf, hz⟩ := Option.map_eq_some_iff.1 hi
  have hrun := run_storeCells_at (P := P) g o e v.cells.toList 0 cur w hb (by simpa [hvs] using hl) h1
  rw [setRow_eq hb, Nat.add_zero] at hrun
  refine stOf_sound he s ⟨{ w with heap := w.heap.setIfInBounds g (.cells (seg cur o v.cells.toList) e (0, 0)) }, ?_, fun a' hA => JR_setmap hok hp s hH hR hN hW hA A⟩
  have hsure : (Instr.sureAddr (.pointer (some ⟨g, o, none⟩))).run P w = .ok ⟨g, o, none⟩ w := rfl
  have hst : (storeVar t ⟨g, o, none⟩ v).run P w = .ok () { w with heap := w.heap.setIfInBounds g (.cells (seg cur o v.cells.toList) e (0, 0)) } := by
    have hsz : (sizeOf t).run P w = .ok size w := by simp [sizeOf, typeInfo, hinf, hz, Result.andThen]
    simp only [storeVar, Sem.run_bind, hsz, Result.andThen_ok]
    rw [if_neg (by simp [hvs])]
    simpa [seg] using hrun
  simp only [Instr.storeAt, Sem.run_bind, hsure, Result.andThen_ok, hst]

end rows
theorem seg_len {cur : Array Value} {o : Nat} {vs : List Value} (h : o + vs.length ≤ cur.size) : (seg cur o vs).size = cur.size := by
  simp [seg]
  omega
/-- A row cut shorter. -/
theorem Row.cut {cur : Array Value} {cap n size : Nat} {xs : List Value} (h : Row cur cap n size xs) {i : Nat} (hi : i ≤ n) : Row cur cap i size (xs.take (i * size)) := by
  have hle : i * size ≤ n * size := Nat.mul_le_mul_right size hi
  refine ⟨?_, h.siz, Nat.le_trans hi h.le, h.max, ?_⟩
  · rw [List.length_take, h.len]
    omega
  · rw [← h.take, List.take_take]
    congr 1
    omega
/-- A row whose element i is turned. -/
theorem Row.turn {cur : Array Value} {cap n size : Nat} {xs vs : List Value} (h : Row cur cap n size xs) {i : Nat} (hi : i < n) (hv : vs.length = size) : Row (seg cur (i * size) vs) cap n size (xs.take (i * size) ++ vs ++ xs.drop (i * size + size)) := by
  have h1 : i * size + size ≤ n * size := by
    have := Nat.mul_le_mul_right size (Nat.succ_le_of_lt hi)
    rwa [Nat.succ_mul] at this
  have h2 : n * size ≤ cap * size := Nat.mul_le_mul_right size h.le
  have hs := h.siz
  refine ⟨?_, ?_, h.le, h.max, ?_⟩
  · simp only [List.length_append, List.length_take, List.length_drop, h.len, hv]
    omega
  · rw [seg_len (by omega)]
    exact hs
  · rw [← h.take]
    apply List.ext_getElem?
    intro j
    simp only [seg, List.getElem?_take, List.getElem?_append, List.length_append, List.length_take, List.getElem?_drop, Array.length_toList, hv]
    by_cases hj : j < n * size
    · rw [if_pos hj]
      have e1 : min (i * size) cur.size = i * size := by omega
      have e2 : min (i * size) (min (n * size) cur.size) = i * size := by omega
      rw [e1, e2]
      by_cases hj1 : j < i * size
      · have e3 : j < i * size + size := by omega
        simp [hj1, hj, e3]
      · by_cases hj2 : j < i * size + size
        · simp [hj1, hj2]
        · have hlt : i * size + size + (j - (i * size + size)) < n * size := by omega
          simp [hj2, hlt]
    · rw [if_neg hj]
      have e2 : min (i * size) (min (n * size) cur.size) = i * size := by omega
      rw [e2]
      have hj1 : ¬ j < i * size + size := by omega
      have hj3 : ¬ i * size + size + (j - (i * size + size)) < n * size := by omega
      simp [hj1, hj3]
theorem Row.atx {cur : Array Value} {cap n size : Nat} {xs : List Value} (h : Row cur cap n size xs) {j : Nat} {u : Value} (hu : xs[j]? = some u) : cur[j]? = some u := by
  have hj := (List.getElem?_eq_some_iff.1 hu).1
  rw [h.len] at hj
  rw [h.at hj, hu]
/-- One cell of a row turned. -/
theorem Row.turn1 {cur : Array Value} {cap n size : Nat} {xs : List Value} (h : Row cur cap n size xs) {o : Nat} (ho : o < n * size) (v : Value) : Row (seg cur o [v]) cap n size (xs.set o v) := by
  have h2 : n * size ≤ cap * size := Nat.mul_le_mul_right size h.le
  have hs := h.siz
  refine ⟨by rw [List.length_set, h.len], ?_, h.le, h.max, ?_⟩
  · rw [seg_len (by simp; omega)]
    exact hs
  · rw [← h.take]
    apply List.ext_getElem?
    intro j
    simp only [seg, List.getElem?_take, List.getElem?_append, List.length_append, List.length_take, List.getElem?_drop, Array.length_toList, List.length_cons, List.length_nil, List.getElem?_set]
    have e1 : min o cur.size = o := by omega
    have e2 : min (n * size) cur.size = n * size := by omega
    rw [e1, e2]
    by_cases hj : j < n * size
    · rw [if_pos hj]
      by_cases hj1 : j < o
      · have e3 : j < o + 1 := by omega
        have e4 : ¬ o = j := by omega
        simp [hj1, hj, e3, e4]
      · by_cases hj2 : o = j
        · subst hj2
          simp [ho]
        · have e3 : ¬ j < o + 1 := by omega
          have e5 : o + 1 + (j - (o + 1)) = j := by omega
          simp [hj2, hj, e3, e5]
    · have e3 : ¬ j < o + 1 := by omega
      have e4 : ¬ o = j := by omega
      have e5 : o + 1 + (j - (o + 1)) = j := by omega
      simp [hj, e3, e4, e5]

theorem Row.set1 {cur : Array Value} {cap n size : Nat} {xs : List Value} (h : Row cur cap n size xs) (o : Nat) (v : Value) : Row (cur.setIfInBounds o v) cap n size (xs.set o v) :=
  ⟨by rw [List.length_set, h.len], by rw [Array.size_setIfInBounds, h.siz], h.le, h.max, by rw [Array.toList_setIfInBounds, List.take_set, h.take]⟩
/-- Cells that read as rows (no block of its own). -/
def cRows (xs : List Value) (k : Nat) (rows : List (List D)) : Chunk where
  P w S fp := fp = [] ∧ RowsAt w S xs k rows
  mono := by
    intro w w' S S' fp h _ hS
    exact ⟨h.1, h.2.mono hS⟩
section more0
variable {P : Program} {f : Func} [Pan f] {R : Act → World → Prop} {n : Nat} [Dfr n] {kk : List Itm} {E : Env} {h r : List (Nat × Obj)} {F : List (List Nat × World)} {Y : Ghost}
theorem StF.hide1 {a : Act} {w : World} {fps : List (List Nat)} (s : StF n E h r F Y a w fps) (p : Nat) {b : Nat} {o : Obj} (hp : h[p]? = some (b, o)) : StF n E (h.eraseIdx p) r F ⟨Y.S, Y.C ++ [cObj b o], Y.G⟩ a w (fps ++ [[b]]) := by
  have hm : ∀ x ∈ h.eraseIdx p, x ∈ h := fun x hx => (List.eraseIdx_sublist h p).subset hx
  have hid : ∀ c, c ∈ (h.eraseIdx p).map (·.1) → c ∈ h.map (·.1) := fun c hc => by
    obtain ⟨x, hx, rfl⟩ := List.mem_map.1 hc
    exact List.mem_map.2 ⟨x, hm x hx, rfl⟩
  have hnot : b ∉ (h.eraseIdx p).map (·.1) := fun hc => by
    obtain ⟨x, hx, hxb⟩ := List.mem_map.1 hc
    obtain ⟨j, hj, he⟩ := List.mem_eraseIdx_iff_getElem?.1 hx
    have h1 : (h.map (·.1))[j]? = some b := by simp [he, hxb]
    have h2 : (h.map (·.1))[p]? = some b := by simp [hp]
    exact hj ((List.getElem?_inj (List.getElem?_eq_some_iff.1 h1).1 s.own.nodup).1 (h1.trans h2.symm))
  have hbm : (b, o) ∈ h := List.mem_of_getElem? hp
  have e : (fps ++ [[b]]).flatten = fps.flatten ++ [b] := by simp
  have hS : ∀ c, Sd Y h fps c → Sd Y (h.eraseIdx p) (fps ++ [[b]]) c := fun c hc => ⟨hc.1, fun hx => hc.2.1 (hid c hx), fun hx => by
    rw [e] at hx
    rcases List.mem_append.1 hx with hx | hx
    · exact hc.2.2 hx
    · rw [List.mem_singleton] at hx
      subst hx
      exact hc.2.1 (List.mem_map.2 ⟨_, hbm, rfl⟩)⟩
  have hin : ∀ c, c ∈ (fps ++ [[b]]).flatten → c ∈ fps.flatten ∨ c = b := fun c hc => by
    rw [e] at hc
    simpa using hc
  refine ⟨s.ag, ⟨fun x hx => s.own.own x (hm x hx), ((List.eraseIdx_sublist h p).map _).nodup s.own.nodup, s.own.ro, fun x hx hc => s.own.apart x hx (hid _ hc)⟩, s.fr, fun f hf x hx => s.may f hf x (hm x hx),
    ⟨(s.gh.chs.mono (fun _ _ => rfl) fun c hc _ => ⟨hS c hc, rfl⟩).app ⟨⟨rfl, s.own.own _ hbm⟩, trivial⟩, ?_, fun c hc hx => ?_, fun x hx hc => ?_, fun f hf c hc => ?_, fun c hc => ?_, fun x hx => s.gh.own x (hm x hx), fun c hc => ?_, s.gh.top, fun x hx => (s.gh.g x hx).mono fun c hc _ => ⟨hS c hc, rfl⟩⟩⟩
  · rw [e, List.nodup_append]
    refine ⟨s.gh.nodup, by simp, fun x hx y hy hxy => ?_⟩
    simp at hy
    subst hy hxy
    exact s.gh.disj _ hx (List.mem_map.2 ⟨_, hbm, rfl⟩)
  · rcases hin c hc with h1 | rfl
    · exact s.gh.disj c h1 (hid c hx)
    · exact hnot hx
  · rcases hin _ hc with h1 | h1
    · exact s.gh.apart x hx h1
    · exact s.own.apart x hx (List.mem_map.2 ⟨_, hbm, h1.symm⟩)
  · rcases hin c hc with h1 | rfl
    · exact s.gh.may f hf c h1
    · exact s.may f hf _ hbm
  · rcases hin c hc with h1 | rfl
    · exact s.gh.lt c h1
    · exact s.own.own.lt hbm
  · rcases hin c hc with h1 | rfl
    · exact s.gh.hid c h1
    · exact s.gh.own _ hbm
end more0
section more
variable {P : Program} {f : Func} [Pan f] {R : Act → World → Prop} {n : Nat} [Dfr n] {kk : List Itm} {E : Env} {h r : List (Nat × Obj)} {F : List (List Nat × World)}
def accParts (a : Option Addr) (m c e k : Nat) (rows : List (List D)) (x : Nat × Array Value × List Value) : Chunk := cStar [cPure (a = some ⟨x.1, 0, none⟩ ∧ m = rows.length ∧ 0 < k ∧ Row x.2.1 c rows.length k x.2.2), cObj x.1 (.cells x.2.1 e (0, 0)), cRows x.2.2 k rows]
/-- A row of ours, in sight. -/
theorem J_openacc {S0 : Nat → Prop} {C0 : List Chunk} {G0 : List (Value × D)} (q : Nat) {a : Option Addr} {m c e k : Nat} {rows : List (List D)} (hq : C0[q]? = some (cAcc (.slice a m c) e k rows)) (hne : rows ≠ [])
    (H : ∀ g cur xs, a = some ⟨g, 0, none⟩ → m = rows.length → 0 < k → Row cur c rows.length k xs → J P f R n kk E (h ++ [(g, .cells cur e (0, 0))]) r F ⟨S0, C0.eraseIdx q ++ [cRows xs k rows], G0⟩) : J P f R n kk E h r F ⟨S0, C0, G0⟩ := by
  have hv : (cAcc (.slice a m c) e k rows).eqv (cExi (accParts a m c e k rows)) := by
    intro w S fp ⟨hk, hP⟩
    rcases hP with ⟨h1, _⟩ | ⟨g, cap, cur, xs, h1, rfl, h3, h4, h5⟩
    · exact absurd h1 hne
    · cases h1
      have hch : Chs w S [cPure (some (⟨g, 0, none⟩ : Addr) = some ⟨g, 0, none⟩ ∧ rows.length = rows.length ∧ 0 < k ∧ Row cur c rows.length k xs), cObj g (.cells cur e (0, 0)), cRows xs k rows] [[], [g], []] := ⟨⟨rfl, rfl, rfl, hk, h4⟩, ⟨rfl, h3⟩, ⟨rfl, h5⟩, trivial⟩
      exact ⟨(g, cur, xs), [[], [g], []], by simp, hch⟩
  refine J_stp (stp_conv q hq hv) ?_
  have hql := (List.getElem?_eq_some_iff.1 hq).1
  refine J_stpx (stp_exi (g := accParts a m c e k rows) q (by rw [List.getElem?_set_self hql])) fun x _ => ?_
  obtain ⟨g, cur, xs⟩ := x
  rw [List.set_set]
  refine J_stp (stp_star (cs := [cPure (a = some ⟨g, 0, none⟩ ∧ m = rows.length ∧ 0 < k ∧ Row cur c rows.length k xs), cObj g (.cells cur e (0, 0)), cRows xs k rows]) q (by rw [List.getElem?_set_self hql]; rfl)) ?_
  have e0 : ∀ y : Chunk, (C0.set q y).eraseIdx q = C0.eraseIdx q := fun y => by
    apply List.ext_getElem?
    intro j
    rw [List.getElem?_eraseIdx, List.getElem?_eraseIdx]
    split
    · rw [List.getElem?_set_ne (by omega)]
    · rw [List.getElem?_set_ne (by omega)]
  rw [e0]
  have hl : (C0.eraseIdx q).length = C0.length - 1 := by rw [List.length_eraseIdx, if_pos hql]
  refine J_stpx (stp_pure (p := a = some ⟨g, 0, none⟩ ∧ m = rows.length ∧ 0 < k ∧ Row cur c rows.length k xs) (C0.eraseIdx q).length (by rw [List.getElem?_append_right (Nat.le_refl _), Nat.sub_self]; rfl)) fun _ hp => ?_
  rw [List.eraseIdx_append_of_length_le (Nat.le_refl _)]
  simp only [Nat.sub_self, List.eraseIdx_cons_zero]
  refine J_show (b := g) (o := .cells cur e (0, 0)) (C0.eraseIdx q).length (by rw [List.getElem?_append_right (Nat.le_refl _), Nat.sub_self]; rfl) ?_
  rw [List.eraseIdx_append_of_length_le (Nat.le_refl _)]
  simp only [Nat.sub_self, List.eraseIdx_cons_zero]
  exact H g cur xs hp.1 hp.2.1 hp.2.2.1 hp.2.2.2

/-- What an element's cells are. -/
theorem stp_readrows {S0 : Nat → Prop} {C0 : List Chunk} {G0 : List (Value × D)} (q : Nat) {xs : List Value} {k : Nat} {rows : List (List D)} (hq : C0[q]? = some (cRows xs k rows)) (i : Nat) {row : List D} (hrow : rows[i]? = some row) :
    Stp h r F ⟨S0, C0, G0⟩ (fun ls : List (Option Addr × Nat) => ls.length = sls row ∧ ∀ (j : Nat) u, (inst row ls)[j]? = some u → xs[i * k + j]? = some u) fun ls => ⟨S0, C0, G0 ++ deep row ls⟩ := by
  intro w fps hO H
  obtain ⟨fp, hfp, _, hP⟩ := H.chs.at hq
  have hu : ∀ j d, row[j]? = some d → ∃ u, xs[i * k + j]? = some u ∧ Rep w (Sd ⟨S0, C0, G0⟩ h fps) u d := fun j d hd => hP.rep i j row d hrow hd
  obtain ⟨ls, h1, h2, h3⟩ := inst_ex row (fun j => xs.getD (i * k + j) undef) fun j d hd => by
    obtain ⟨u, hu1, hu2⟩ := hu j d hd
    simpa [List.getD_eq_getElem?_getD, hu1] using hu2
  refine ⟨ls, fps, ⟨h1, fun j u hj => ?_⟩, fun _ hb => hb, H.less (fun _ hb => hb) H.nodup H.chs fun x hx => ?_⟩
  · have hjl : j < row.length := by
      have := (List.getElem?_eq_some_iff.1 hj).1
      rwa [inst_len] at this
    obtain ⟨u', hu1, _⟩ := hu j _ (List.getElem?_eq_getElem hjl)
    have := h2 j u hj
    rw [this]
    simp [List.getD_eq_getElem?_getD, hu1]
  · rcases List.mem_append.1 hx with hx | hx
    · exact H.g x hx
    · exact h3 x hx
theorem RowsAt.set {w : World} {S : Nat → Prop} {xs : List Value} {k : Nat} {rows : List (List D)} (h : RowsAt w S xs k rows) (hl : xs.length = rows.length * k) {i j : Nat} {row : List D} {v : Value} {d : D} (hrow : rows[i]? = some row) (hj : j < k) (hv : Rep w S v d) :
    RowsAt w S (xs.set (i * k + j) v) k (rows.set i (row.set j d)) := by
  have hil := (List.getElem?_eq_some_iff.1 hrow).1
  refine ⟨fun row' hr => ?_, fun i' j' row' d' hi' hj' => ?_⟩
  · rcases List.mem_or_eq_of_mem_set hr with hr | rfl
    · exact h.len row' hr
    · rw [List.length_set]
      exact h.len row (List.mem_of_getElem? hrow)
  · by_cases hii : i = i'
    · subst hii
      rw [List.getElem?_set_self hil] at hi'
      cases hi'
      by_cases hjj : j = j'
      · subst hjj
        have hjl := (List.getElem?_eq_some_iff.1 hj').1
        rw [List.length_set] at hjl
        rw [List.getElem?_set_self hjl] at hj'
        cases hj'
        exact ⟨v, by rw [List.getElem?_set_self (by rw [hl]; exact idx_lt hil hj)], hv⟩
      · rw [List.getElem?_set_ne hjj] at hj'
        obtain ⟨u, h1, h2⟩ := h.rep i j' row d' hrow hj'
        exact ⟨u, by rw [List.getElem?_set_ne (by omega)]; exact h1, h2⟩
    · rw [List.getElem?_set_ne hii] at hi'
      obtain ⟨u, h1, h2⟩ := h.rep i' j' row' d' hi' hj'
      have hjl : j' < k := by
        rw [← h.len row' (List.mem_of_getElem? hi')]
        exact (List.getElem?_eq_some_iff.1 hj').1
      refine ⟨u, ?_, h2⟩
      rw [List.getElem?_set_ne ?_]
      · exact h1
      · intro he
        rcases Nat.lt_or_gt_of_ne hii with h3 | h3
        · have := Nat.mul_le_mul_right k (Nat.succ_le_of_lt h3)
          rw [Nat.succ_mul] at this
          omega
        · have := Nat.mul_le_mul_right k (Nat.succ_le_of_lt h3)
          rw [Nat.succ_mul] at this
          omega
/-- .. turned, as a cell of theirs is. p: the fact's place. -/
theorem stp_setrows {S0 : Nat → Prop} {C0 : List Chunk} {G0 : List (Value × D)} (q p i j : Nat) {xs : List Value} {k : Nat} {rows : List (List D)} {row : List D} {v : Value} {d : D} (hq : C0[q]? = some (cRows xs k rows)) (hl : xs.length = rows.length * k) (hrow : rows[i]? = some row) (hj : j < k) (hp : G0[p]? = some (v, d)) :
    Stp h r F ⟨S0, C0, G0⟩ (fun _ : Unit => True) fun _ => ⟨S0, C0.set q (cRows (xs.set (i * k + j) v) k (rows.set i (row.set j d))), G0⟩ := by
  intro w fps hO H
  obtain ⟨fp, hfp, hnil, hP⟩ := H.chs.at hq
  have hc : (cRows (xs.set (i * k + j) v) k (rows.set i (row.set j d))).P w (Sd ⟨S0, C0, G0⟩ h fps) fp := ⟨hnil, hP.set hl hrow hj (H.g _ (List.mem_of_getElem? hp))⟩
  have hs := H.chs.set hc (i := q)
  have e : fps.set q fp = fps := set_same hfp
  rw [e] at hs
  exact ⟨(), fps, trivial, fun _ hb => hb, H.less (fun _ hb => hb) H.nodup hs H.g⟩
/-- A row's block and its cells' sense together are a row of ours again. -/
theorem stp_closeacc {S0 : Nat → Prop} {C0 : List Chunk} {G0 : List (Value × D)} (q1 q2 : Nat) {g c e k : Nat} {cur : Array Value} {xs : List Value} {rows : List (List D)} (h1 : C0[q1]? = some (cObj g (.cells cur e (0, 0)))) (h2 : C0[q2]? = some (cRows xs k rows)) (hrow : Row cur c rows.length k xs) (hk : 0 < k) :
    Stp h r F ⟨S0, C0, G0⟩ (fun _ : Unit => True) fun _ => ⟨S0, pick C0 (others C0.length [q1, q2]) ++ [cAcc (.slice (some ⟨g, 0, none⟩) rows.length c) e k rows], G0⟩ := by
  intro w fps hO H
  obtain ⟨fp1, hf1, rfl, hb⟩ := H.chs.at h1
  obtain ⟨fp2, hf2, rfl, hR⟩ := H.chs.at h2
  have hlen := H.chs.len
  have hq1 : q1 < C0.length := (List.getElem?_eq_some_iff.1 h1).1
  have hnd : (others C0.length [q1, q2] ++ [q1]).Nodup := by
    rw [List.nodup_append]
    refine ⟨List.Nodup.sublist List.filter_sublist List.nodup_range, by simp, fun x hx y hy hxy => ?_⟩
    simp only [List.mem_singleton] at hy
    subst hy hxy
    simp [others] at hx
  have hE : pick fps (others C0.length [q1, q2]) ++ [[g]] = pick fps (others C0.length [q1, q2] ++ [q1]) := by
    rw [pick_app]
    simp [pick, hf1]
  have hsub : ∀ b ∈ (pick fps (others C0.length [q1, q2]) ++ [[g]]).flatten, b ∈ fps.flatten := fun b hb => by
    rw [hE] at hb
    exact pick_flat_sub hb
  have hS : ∀ b, Sd ⟨S0, C0, G0⟩ h fps b → Sd ⟨S0, C0, G0⟩ h (pick fps (others C0.length [q1, q2]) ++ [[g]]) b := fun b hb => Sd_sub hsub hb
  refine ⟨(), _, trivial, hsub, H.less hsub (by rw [hE]; exact pick_flat_nodup H.nodup hnd) ?_ fun x hx => (H.g x hx).mono fun b hb _ => ⟨hS b hb, rfl⟩⟩
  have hc : (cAcc (.slice (some ⟨g, 0, none⟩) rows.length c) e k rows).P w (Sd ⟨S0, C0, G0⟩ h (pick fps (others C0.length [q1, q2]) ++ [[g]])) [g] := ⟨hk, .inr ⟨g, c, cur, xs, rfl, rfl, hb, hrow, hR.mono fun b hb _ => ⟨hS b hb, rfl⟩⟩⟩
  exact ((H.chs.pick _).mono (fun _ _ => rfl) fun b hb _ => ⟨hS b hb, rfl⟩).app (show Chs w _ [_] [[g]] from ⟨hc, trivial⟩)
theorem accz_eqv (b e k : Nat) (hk : 0 < k) : (cObj b (.cells #[] e (0, 0))).eqv (cAcc (.slice (some ⟨b, 0, none⟩) 0 0) e k []) := fun w S fp h =>
  ⟨hk, .inr ⟨b, 0, #[], [], rfl, h.1, h.2, ⟨by simp, by simp, Nat.le_refl _, Nat.zero_le _, by simp⟩, RowsAt.nil _ _ _ _⟩⟩
/-- An empty array of ours as a row that grows. -/
theorem J_accz {S0 : Nat → Prop} {C0 : List Chunk} {G0 : List (Value × D)} (p k : Nat) {b e : Nat} (hp : h[p]? = some (b, .cells #[] e (0, 0))) (hk : 0 < k)
    (H : J P f R n kk E (h.eraseIdx p) r F ⟨S0, C0 ++ [cAcc (.slice (some ⟨b, 0, none⟩) 0 0) e k []], G0⟩) : J P f R n kk E h r F ⟨S0, C0, G0⟩ := by
  refine J_hide p hp (J_stp (stp_conv C0.length (by simp) (accz_eqv b e k hk)) ?_)
  simpa using H
theorem JR_accz {S0 : Nat → Prop} {C0 : List Chunk} {G0 : List (Value × D)} {ops : Array Oper} {L0 : Nat} {ck : Bool} {plan : List (Nat × Bool)} {Wp : List (Nat × List Nat)} (p k : Nat) {b e : Nat} (hp : h[p]? = some (b, .cells #[] e (0, 0))) (hL : Nat.ble L0 p = true) (hk : 0 < k)
    (H : JR P f R n ops L0 ck plan Wp kk E (h.eraseIdx p) r F ⟨S0, C0 ++ [cAcc (.slice (some ⟨b, 0, none⟩) 0 0) e k []], G0⟩) : JR P f R n ops L0 ck plan Wp kk E h r F ⟨S0, C0, G0⟩ := by
  have H2 : JR P f R n ops L0 ck plan Wp kk E (h.eraseIdx p) r F ⟨S0, C0 ++ [cObj b (.cells #[] e (0, 0))], G0⟩ := by
    refine JR_stp (stp_conv C0.length (by simp) (accz_eqv b e k hk)) ?_
    simpa using H
  intro B Hd fps a w s hH hR2 hN hW
  have hLp := Nat.le_of_ble_eq_true hL
  have hpl := (List.getElem?_eq_some_iff.1 hp).1
  have hsame : ∀ i : Nat, i < L0 → (h.eraseIdx p)[i]? = h[i]? := fun i hi => by rw [List.getElem?_eraseIdx]; simp [show i < p by omega]
  have hids : idsW Hd (h.eraseIdx p) Wp = idsW Hd h Wp := by
    unfold idsW
    refine List.map_congr_left fun y hy => ?_
    congr 2
    have h1 := List.all_eq_true.1 hW y hy
    exact filterMap_same _ _ _ fun q hq => by rw [hsame q (blt_lt (List.all_eq_true.1 h1 q hq))]
  have := H2 B Hd _ a w (s.hide1 p hp) (fun c hc => by
    rw [List.flatten_append] at hc
    rcases List.mem_append.1 hc with hc | hc
    · exact hH c hc
    · simp only [List.flatten_cons, List.flatten_nil, List.append_nil, List.mem_singleton] at hc
      subst hc
      exact .inr (hN p hLp _ hp)) ⟨fun i hi x hx => hR2.old i hi x (by rw [← hsame i hi]; exact hx), hR2.ro, by rw [List.length_eraseIdx]; simp only [hpl, if_true]; have := hR2.len; omega, hR2.size⟩ (fun j hj x hx => by
    rw [List.getElem?_eraseIdx] at hx
    split at hx
    · exact hN j hj x hx
    · exact hN (j + 1) (by omega) x hx) hW
  rwa [hids] at this
theorem JR_acczm {β : Type} (enc : β → List D) {S0 : Nat → Prop} {C0 : List Chunk} {G0 : List (Value × D)} {ops : Array Oper} {L0 : Nat} {ck : Bool} {plan : List (Nat × Bool)} {Wp : List (Nat × List Nat)} (p k : Nat) {b e : Nat} (hp : h[p]? = some (b, .cells #[] e (0, 0))) (hL : Nat.ble L0 p = true) (hk : 0 < k)
    (H : JR P f R n ops L0 ck plan Wp kk E (h.eraseIdx p) r F ⟨S0, C0 ++ [cAcc (.slice (some ⟨b, 0, none⟩) 0 0) e k (([] : List β).map enc)], G0⟩) : JR P f R n ops L0 ck plan Wp kk E h r F ⟨S0, C0, G0⟩ := JR_accz p k hp hL hk H
end more
end Go.Sx
