/- The engine of our walks, part 20 (with ghosts): 'for k, v := range m' over a map that the loop does not write. -/
import Derived.Test.YtahbmdchcbnolaaDoorTx19
import Derived.Laws.IdiomRangeMap
namespace Go.Sx
open Go Go.MapKept

/-! The operations. -/
def rngOf (n : Nat) (ops : Array Oper) (E : Env) (i : Nat) : Option (TypeId × Value × Option Tmp) :=
  match ops[i]? with
  | none => none
  | some o => if dstOk n o.dst then match o.guard with
    | some _ => none
    | none => match o.op with
      | .range t x => match opsOk E none [x] with
        | some [] => some (t, rho E x, o.dst)
        | _ => none
      | _ => none
    else none
def nxtOf (n : Nat) (ops : Array Oper) (E : Env) (i : Nat) : Option (Value × Bool × Option Tmp) :=
  match ops[i]? with
  | none => none
  | some o => if dstOk n o.dst then match o.guard with
    | some _ => none
    | none => match o.op with
      | .next x b => match opsOk E none [x] with
        | some [] => some (rho E x, b, o.dst)
        | _ => none
      | _ => none
    else none
def entOf (n : Nat) (ops : Array Oper) (E : Env) (i : Nat) : Option (Value × Option Tmp) :=
  match ops[i]? with
  | none => none
  | some o => if dstOk n o.dst then match o.guard with
    | some _ => none
    | none => match o.op with
      | .entry x => match opsOk E none [x] with
        | some [] => some (rho E x, o.dst)
        | _ => none
      | _ => none
    else none
section run
variable {P : Program}
theorem run_range_at {w : World} {t k e : TypeId} {mb : Nat} {es : Array MapEntry} {clock : Nat} (ht : P.underlying t = some (.map k e)) (hb : w.heap[mb]? = some (.map es clock)) :
    (Instr.range t (.map (some mb))).run P w = .ok (.pointer (some ⟨w.heap.size, 0, none⟩)) { w with heap := w.heap.push (.mapIter (some mb) clock #[] clock) } := run_range_map w t k e mb es clock ht hb
theorem run_next_at {w : World} (ty : TypeId) {bi bm since c0 clock : Nat} {seen : Array Nat} {es : Array MapEntry} (hi : w.heap[bi]? = some (.mapIter (some bm) since seen c0)) (hb : w.heap[bm]? = some (.map es clock)) (hold : ∀ x ∈ es.toList, x.born < since) (hsc : since ≤ c0) :
    ((leftOf es seen).size = 0 ∧ (Instr.next (.pointer (some ⟨bi, 0, none⟩)) false ty).run P w = .ok (.tuple #[.bool false]) w) ∨
    ∃ e ∈ (leftOf es seen).toList, ∃ m : Bool, (Instr.next (.pointer (some ⟨bi, 0, none⟩)) false ty).run P w = .ok (.tuple #[.bool true, e.key, e.val]) { w with heap := w.heap.setIfInBounds bi (.mapIter (some bm) since (seen.push e.born) clock), drawn := if m then w.drawn + 1 else w.drawn } := by
  simp only [Instr.next, getObj, Sem.run_bind, Sem.run, hi, hb, Result.andThen, next_test_false seen es since c0 hold hsc, Bool.false_eq_true, if_false]
  unfold leftOf
  have hmem : ∀ x ∈ (Array.filter (fun e => !seen.contains e.born) es).toList, x.born < since := fun x hx => hold x (by simp at hx ⊢; exact hx.1)
  generalize Array.filter (fun e => !seen.contains e.born) es = L at hmem ⊢
  have e1 : L.filter (fun x => decide (x.born < since)) = L := Array.filter_eq_self.2 (fun x hx => by simpa using hmem x (by simpa using hx))
  have e2 : L.filter (fun x => decide (x.born ≥ since)) = #[] := by
    rw [Array.filter_eq_empty_iff]
    intro x hx
    have := hmem x (by simpa using hx)
    simp
    omega
  simp only [e1, e2, Array.append_empty]
  by_cases h0 : L.size = 0
  · left
    have : L = #[] := Array.eq_empty_of_size_eq_zero h0
    subst this
    refine ⟨rfl, ?_⟩
    simp [choose, Sem.run, Question.forced]
  · right
    have hne : L.isEmpty = false := by simp [Array.isEmpty, h0]
    simp only [hne, Bool.false_eq_true, if_false, Array.empty_append, Array.size_map]
    have hch : ∃ (j : Nat) (m : Bool), j < L.size ∧ (choose (Question.mapNext L.size)).run P w = .ok j { w with drawn := if m then w.drawn + 1 else w.drawn } := by
      by_cases hf : L.size ≤ 1
      · exact ⟨0, false, by omega, by simp [choose, Sem.run, Question.forced, hf]⟩
      · exact ⟨_, true, Nat.mod_lt _ (by omega), by
          simp only [choose, Sem.run, Question.forced, decide_eq_true_eq, hf, if_false, Question.cut]
          rfl⟩
    obtain ⟨j, m, hj, hrun⟩ := hch
    refine ⟨L[j], by simp, m, ?_⟩
    have hset : ∀ (o' : Obj) (dr : Nat), (setObj bi o').run P { w with drawn := dr } = .ok () { w with heap := w.heap.setIfInBounds bi o', drawn := dr } := fun o' dr => by
      simp only [setObj, Sem.run, hi]
    simp only [hrun, Array.getElem?_map, Array.getElem?_eq_getElem hj, Option.map_some, Sem.run_bind, hset, Result.andThen]
    rfl
theorem run_entry_at {w : World} {bi bm since clock : Nat} {seen : Array Nat} {es : Array MapEntry} {e : MapEntry} (hi : w.heap[bi]? = some (.mapIter (some bm) since (seen.push e.born) clock)) (hb : w.heap[bm]? = some (.map es clock)) (he : e ∈ es.toList) (hn : (es.toList.map (·.born)).Nodup) :
    (Instr.entry (.pointer (some ⟨bi, 0, none⟩))).run P w = .ok (.tuple #[e.key, e.val]) w := by
  have hf : es.find? (·.born == e.born) = some e := by rw [← Array.find?_toList]; exact find_born e es.toList hn he
  simp only [Instr.entry, getObj, Sem.run_bind, Sem.run, hi, hb, Result.andThen, Array.back?_push, bne_self_eq_false, Bool.false_eq_true, if_false, hf]
  rfl
end run
section rules
variable {P : Program} {f : Func} [Pan f] {R : Act → World → Prop} {n : Nat} [Dfr n] {k : List Itm} {E : Env} {h r : List (Nat × Obj)} {F : List (List Nat × World)} {Y : Ghost}
theorem rngOf_sound {ops : Array Oper} {i : Nat} {xv : Value} {t : TypeId} {dst : Option Tmp} (he : rngOf n ops E i = some (t, xv, dst))
    {a : Act} {w : World} {fps : List (List Nat)} (s : StF n E h r F Y a w fps) {K : Act → World → Prop}
    (H : ∃ v' w', (Instr.range t xv).run P w = .ok v' w' ∧ ∀ a', Ag n (E.put dst (.val v')) a' → K a' w') : wpOp P ops (wpK P f R k) i K a w := by
  unfold rngOf at he
  split at he
  · cases he
  rename_i o ho
  split at he
  case isFalse => cases he
  rename_i hd
  split at he
  · cases he
  rename_i hg
  split at he
  case h_2 => cases he
  rename_i t' x hc
  split at he
  case h_2 => cases he
  rename_i hq
  simp only [Option.some.injEq, Prod.mk.injEq] at he
  obtain ⟨rfl, rfl, rfl⟩ := he
  have e1 : a.eval x = rho E x := opsOk_sound s.ag (fun c w h => by cases h) _ _ hq trivial x (by simp)
  obtain ⟨v', w', hrun, hk⟩ := H
  unfold wpOp
  simp only [ho]
  rw [if_pos (by simp [Region.wanted, hg])]
  refine .inl ?_
  unfold Oper.wp execOp
  simp only [hc, Sem.run_bind, Sem.run_pure, Result.andThen_ok, e1, hrun]
  exact hk _ (s.ag.put hd (.val v'))
theorem nxtOf_sound {ops : Array Oper} {i : Nat} {xv : Value} {b : Bool} {dst : Option Tmp} (he : nxtOf n ops E i = some (xv, b, dst))
    {a : Act} {w : World} {fps : List (List Nat)} (s : StF n E h r F Y a w fps) {K : Act → World → Prop}
    (H : ∀ ty, ∃ v' w', (Instr.next xv b ty).run P w = .ok v' w' ∧ ∀ a', Ag n (E.put dst (.val v')) a' → K a' w') : wpOp P ops (wpK P f R k) i K a w := by
  unfold nxtOf at he
  split at he
  · cases he
  rename_i o ho
  split at he
  case isFalse => cases he
  rename_i hd
  split at he
  · cases he
  rename_i hg
  split at he
  case h_2 => cases he
  rename_i x b' hc
  split at he
  case h_2 => cases he
  rename_i hq
  simp only [Option.some.injEq, Prod.mk.injEq] at he
  obtain ⟨rfl, rfl, rfl⟩ := he
  have e1 : a.eval x = rho E x := opsOk_sound s.ag (fun c w h => by cases h) _ _ hq trivial x (by simp)
  obtain ⟨v', w', hrun, hk⟩ := H o.type
  unfold wpOp
  simp only [ho]
  rw [if_pos (by simp [Region.wanted, hg])]
  refine .inl ?_
  unfold Oper.wp execOp
  simp only [hc, Sem.run_bind, Sem.run_pure, Result.andThen_ok, e1, hrun]
  exact hk _ (s.ag.put hd (.val v'))
theorem entOf_sound {ops : Array Oper} {i : Nat} {xv : Value} {dst : Option Tmp} (he : entOf n ops E i = some (xv, dst))
    {a : Act} {w : World} {fps : List (List Nat)} (s : StF n E h r F Y a w fps) {K : Act → World → Prop}
    (H : ∃ v' w', (Instr.entry xv).run P w = .ok v' w' ∧ ∀ a', Ag n (E.put dst (.val v')) a' → K a' w') : wpOp P ops (wpK P f R k) i K a w := by
  unfold entOf at he
  split at he
  · cases he
  rename_i o ho
  split at he
  case isFalse => cases he
  rename_i hd
  split at he
  · cases he
  rename_i hg
  split at he
  case h_2 => cases he
  rename_i x hc
  split at he
  case h_2 => cases he
  rename_i hq
  simp only [Option.some.injEq, Prod.mk.injEq] at he
  obtain ⟨rfl, rfl⟩ := he
  have e1 : a.eval x = rho E x := opsOk_sound s.ag (fun c w h => by cases h) _ _ hq trivial x (by simp)
  obtain ⟨v', w', hrun, hk⟩ := H
  unfold wpOp
  simp only [ho]
  rw [if_pos (by simp [Region.wanted, hg])]
  refine .inl ?_
  unfold Oper.wp execOp
  simp only [hc, Sem.run_bind, Sem.run_pure, Result.andThen_ok, e1, hrun]
  exact hk _ (s.ag.put hd (.val v'))

/-- The appended ones are an accumulator's. -/
theorem src_acc {a : Act} {w : World} {fps : List (List Nat)} (s : StF n E h r F Y a w fps) (p : Nat) {a0 : Option Addr} {m c e size : Nat} {rows : List (List D)} (hp : Y.C[p]? = some (cAcc (.slice a0 m c) e size rows)) : SrcAt w (Sd Y h fps) a0 m size rows := by
  obtain ⟨fp, hfp, _, hP⟩ := s.gh.chs.at hp
  rcases hP with ⟨rfl, h2, _⟩ | ⟨g, cap, cur, xs, h2, _, h3, h4, h5⟩
  · cases h2
    exact ⟨rfl, .inl ⟨rfl, rfl⟩⟩
  · cases h2
    refine ⟨rfl, .inr ⟨_, xs, rfl, h4.len, fun j u hu => ?_, h5⟩⟩
    have hadd : (⟨g, 0, none⟩ : Addr).add j = ⟨g, 0 + j, none⟩ := by unfold Addr.add; split <;> simp_all
    rw [hadd]
    refine cell_of rfl h3 rfl ?_
    rw [Nat.zero_add, h4.at]
    · exact hu
    · rw [← h4.len]
      exact (List.getElem?_eq_some_iff.1 hu).1
/-- 'range m': an iterator of its own. -/
theorem JR_range {id L0 i : Nat} {ck : Bool} {Wp : List (Nat × List Nat)} {rest : List (Nat × Bool)} (hn : Hn) (mb t kt et : Nat) (dst : Option Tmp) {es : Array MapEntry} {clock : Nat}
    (he : rngOf n (rgOf f id) E i = some (t, .map (some mb), dst)) (hok : (!ck || okW L0 (Wp.lookup i) []) = true) (ht : P.underlying t = some (.map kt et)) (hp : hn.get h r = some (mb, .map es clock))
    (A : ∀ bi, JR P f R n (rgOf f id) L0 ck rest (Wp.filter (·.1 != i)) k (E.put dst (.val (.pointer (some ⟨bi, 0, none⟩)))) (h ++ [(bi, .mapIter (some mb) clock #[] clock)]) r F Y) :
    JR P f R n (rgOf f id) L0 ck ((i, false) :: rest) Wp k E h r F Y := by
  intro BB Hd fps a w s hH hR hN hW
  simp only [PW]
  have hb : w.heap[mb]? = some (.map es clock) := s.own.get hp
  refine rngOf_sound he s ⟨_, _, run_range_at ht hb, fun a' hA => ?_⟩
  have d : Did h (h ++ [(w.heap.size, .mapIter (some mb) clock #[] clock)]) [] w { w with heap := w.heap.push (.mapIter (some mb) clock #[] clock) } := did_new _
  have hO := own_new s.own (.mapIter (some mb) clock #[] clock)
  refine ⟨fun hck => okW_sound d (by simpa [hck] using hok) hN, ?_⟩
  rw [filter_idsW, ← idsW_did hR.len d _ (okWp_filter hW)]
  exact A w.heap.size BB Hd fps a' _ (s.go hA hO d.dd) hH (hR.did d) (hN.did hR.size d) (okWp_filter hW)
/-- The iterator's next step: either nothing is left, or some entry that is left comes out. -/
theorem JR_next {id L0 i : Nat} {ck : Bool} {Wp : List (Nat × List Nat)} {rest : List (Nat × Bool)} (p bi : Nat) (hn : Hn) (mb : Nat) (dst : Option Tmp) {es : Array MapEntry} {clock since c0 : Nat} {seen : Array Nat}
    (he : nxtOf n (rgOf f id) E i = some (.pointer (some ⟨bi, 0, none⟩), false, dst)) (hok : (!ck || okW L0 (Wp.lookup i) [p]) = true) (hp : h[p]? = some (bi, .mapIter (some mb) since seen c0)) (hm : hn.get h r = some (mb, .map es clock))
    (hold : ∀ x ∈ es.toList, x.born < since) (hsc : since ≤ c0)
    (A : (leftOf es seen).size = 0 → JR P f R n (rgOf f id) L0 ck rest (Wp.filter (·.1 != i)) k (E.put dst (.val (.tuple #[.bool false]))) h r F Y)
    (B : ∀ e ∈ (leftOf es seen).toList, JR P f R n (rgOf f id) L0 ck rest (Wp.filter (·.1 != i)) k (E.put dst (.val (.tuple #[.bool true, e.key, e.val]))) (h.set p (bi, .mapIter (some mb) since (seen.push e.born) clock)) r F Y) :
    JR P f R n (rgOf f id) L0 ck ((i, false) :: rest) Wp k E h r F Y := by
  intro BB Hd fps a w s hH hR hN hW
  simp only [PW]
  have hb : w.heap[mb]? = some (.map es clock) := s.own.get hm
  have hi : w.heap[bi]? = some (.mapIter (some mb) since seen c0) := s.own.own _ (List.mem_of_getElem? hp)
  refine nxtOf_sound he s fun ty => ?_
  rcases run_next_at (P := P) ty hi hb hold hsc with ⟨h0, hrun⟩ | ⟨e, heL, m, hrun⟩
  · refine ⟨_, _, hrun, fun a' hA => ⟨fun _ b _ _ => rfl, ?_⟩⟩
    have dd := Did.refl h [] w
    rw [filter_idsW]
    exact A h0 BB Hd fps a' w (s.go hA s.own dd.dd) hH hR hN (okWp_filter hW)
  · refine ⟨_, _, hrun, fun a' hA => ?_⟩
    cases m with
    | false => exact JR_setmap hok hp s hH hR hN hW hA (B e heL)
    | true => exact JR_setmap hok hp s.drew hH ⟨hR.old, hR.ro, hR.len, hR.size⟩ hN hW hA (B e heL)
/-- The round's key and value. -/
theorem JR_entry {id L0 i : Nat} {ck : Bool} {Wp : List (Nat × List Nat)} {rest : List (Nat × Bool)} (hi hn : Hn) (bi mb : Nat) (dst : Option Tmp) {es : Array MapEntry} {clock since : Nat} {seen : Array Nat} {e : MapEntry}
    (he : entOf n (rgOf f id) E i = some (.pointer (some ⟨bi, 0, none⟩), dst)) (hp : hi.get h r = some (bi, .mapIter (some mb) since (seen.push e.born) clock)) (hm : hn.get h r = some (mb, .map es clock)) (hmem : e ∈ es.toList) (hnd : (es.toList.map (·.born)).Nodup)
    (A : JR P f R n (rgOf f id) L0 ck rest (Wp.filter (·.1 != i)) k (E.put dst (.val (.tuple #[e.key, e.val]))) h r F Y) :
    JR P f R n (rgOf f id) L0 ck ((i, false) :: rest) Wp k E h r F Y := by
  intro BB Hd fps a w s hH hR hN hW
  simp only [PW]
  refine entOf_sound he s ⟨_, _, run_entry_at (s.own.get hp) (s.own.get hm) hmem hnd, fun a' hA => ⟨fun _ b _ _ => rfl, ?_⟩⟩
  have dd := Did.refl h [] w
  rw [filter_idsW]
  exact A BB Hd fps a' w (s.go hA s.own dd.dd) hH hR hN (okWp_filter hW)
end rules
end Go.Sx
