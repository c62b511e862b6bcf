/- The engine of our walks, part 10: a row turned at a letter: stores of whole elements, clear. -/
import Derived.Test.YtgelnbgjabpdbaaDoorSx9
import Derived.Laws.CopyRow
namespace Go.Sx
open Go

theorem setRow_eq {w : World} {g : Nat} {cs cs' : Array Value} {e : TypeId} (hw : w.heap[g]? = some (.cells cs e (0, 0))) : w.setRow g cs' = { w with heap := w.heap.setIfInBounds g (.cells cs' e (0, 0)) } := by
  unfold World.setRow
  congr 1
  apply Array.ext_getElem?
  intro j
  rw [Array.getElem?_modify, Array.getElem?_setIfInBounds]
  by_cases hj : g = j
  · subst hj
    have : g < w.heap.size := (Array.getElem?_eq_some_iff.1 hw).1
    simp only [if_true, hw, Option.map_some, this]
  · simp [hj]
/-- cur with vs from o on. -/
def seg (cur : Array Value) (o : Nat) (vs : List Value) : Array Value := (cur.toList.take o ++ vs ++ cur.toList.drop (o + vs.length)).toArray

def stOf (n : Nat) (ops : Array Oper) (E : Env) (i : Nat) : Option (Value × Value × TypeId × Option Tmp) :=
  match ops[i]? with
  | none => none
  | some o => if dstOk n o.dst then match o.guard with
    | some _ => none
    | none => match o.op with
      | .store t a x => match opsOk E none [a, x] with
        | some [] => some (rho E a, rho E x, t, o.dst)
        | _ => none
      | _ => none
    else none

def clOf (n : Nat) (ops : Array Oper) (E : Env) (i : Nat) : Option (Value × TypeId × Option Tmp) :=
  match ops[i]? with
  | none => none
  | some o => if dstOk n o.dst then match o.guard with
    | some _ => none
    | none => match o.op with
      | .call c => match c.callee with
        | .builtin .clear => match opsOk E none c.args.toList with
          | some [] => match c.args.toList, c.argTypes.toList with
            | [s], [t] => some (rho E s, t, o.dst)
            | _, _ => none
          | _ => none
        | _ => none
      | _ => none
    else none

section rows
variable {P : Program} {f : Func} {R : Act → World → Prop} {n : Nat} {k : List Itm} {E : Env} {h r : List (Nat × Obj)} {F : List (List Nat × World)}

theorem stOf_sound {ops : Array Oper} {i : Nat} {av xv : Value} {t : TypeId} {dst : Option Tmp} (he : stOf n ops E i = some (av, xv, t, dst))
    {a : Act} {w : World} (s : St n E h r F a w) {K : Act → World → Prop}
    (H : ∃ w', (Instr.storeAt t av xv).run P w = .ok () w' ∧ ∀ a', Ag n (E.put dst (.val undef)) a' → K a' w') : wpOp P ops (wpK P f R k) i K a w := by
  unfold stOf at he
  split at he
  · cases he
  rename_i o ho
  split at he
  case isFalse => cases he
  rename_i hd
  split at he
  · cases he
  rename_i hg
  split at he
  case h_2 => cases he
  rename_i t' m x hc
  split at he
  case h_2 => cases he
  rename_i hq
  simp only [Option.some.injEq, Prod.mk.injEq] at he
  obtain ⟨rfl, rfl, rfl, rfl⟩ := he
  have hev := opsOk_sound s.ag (fun c w h => by cases h) _ _ hq trivial
  have e1 : a.eval m = rho E m := hev m (by simp)
  have e2 : a.eval x = rho E x := hev x (by simp)
  obtain ⟨w', hrun, hk⟩ := H
  unfold wpOp
  simp only [ho]
  rw [if_pos (by simp [Region.wanted, hg])]
  refine .inl ?_
  unfold Oper.wp execOp
  simp only [hc, Sem.run_bind, Sem.run_pure, Result.andThen_ok, e1, e2, hrun]
  exact hk _ (s.ag.put hd (.val undef))

theorem zc_size (z : Array Value) (n : Nat) : (Builtin.zeroCells z n).size = n * z.size := by simp [Builtin.zeroCells]
theorem zc_one {z : Array Value} (hz : ∀ u ∈ z.toList, u.oneCell' = true) (m : Nat) : ∀ u ∈ (Builtin.zeroCells z m).toList, u.oneCell' = true := by
  intro u hu
  unfold Builtin.zeroCells at hu
  simp only [Array.toList_map, List.mem_map] at hu
  obtain ⟨i, hi, rfl⟩ := hu
  have hi2 : i < m * z.size := by simpa using hi
  have hpos : 0 < z.size := Nat.pos_of_ne_zero fun h => by rw [h] at hi2; simp at hi2
  have hlt := Nat.mod_lt i hpos
  rw [getElem!_pos z _ hlt]
  exact hz _ (by simp)
/-- '*p = v', p into a row that is known. -/
theorem JR_storerow {id L0 i : Nat} {ck : Bool} {Wp : List (Nat × List Nat)} {rest : List (Nat × Bool)} (p g o t e : Nat) (v : Value) (vs : List Value) (dst : Option Tmp) {cur : Array Value} {size : Nat}
    (he : stOf n (rgOf f id) E i = some (.pointer (some ⟨g, o, none⟩), v, t, dst)) (hok : (!ck || okW L0 (Wp.lookup i) [p]) = true) (hi : (P.info? t).map (·.size) = some size) (hvs : v.cells.size = size) (hv2 : v.cells.toList = vs)
    (hp : h[p]? = some (g, .cells cur e (0, 0))) (hl : o + size ≤ cur.size) (h1 : ∀ u ∈ vs, u.oneCell' = true)
    (A : JR P f R n (rgOf f id) L0 ck rest (Wp.filter (·.1 != i)) k (E.put dst (.val undef)) (h.set p (g, .cells (seg cur o vs) e (0, 0))) r F) :
    JR P f R n (rgOf f id) L0 ck ((i, false) :: rest) Wp k E h r F := by
  subst hv2
  intro BB a w s hR hN hW
  simp only [PW]
  have hb : w.heap[g]? = some (.cells cur e (0, 0)) := s.own.own _ (List.mem_of_getElem? hp)
  obtain ⟨inf, hinf, hz⟩ := Option.map_eq_some_iff.1 hi
  have hrun := run_storeCells_at (P := P) g o e v.cells.toList 0 cur w hb (by simpa [hvs] using hl) h1
  rw [setRow_eq hb, Nat.add_zero] at hrun
  refine stOf_sound he s ⟨{ w with heap := w.heap.setIfInBounds g (.cells (seg cur o v.cells.toList) e (0, 0)) }, ?_, fun a' hA => JR_setmap hok hp s hR hN hW hA A⟩
  have hsure : (Instr.sureAddr (.pointer (some ⟨g, o, none⟩))).run P w = .ok ⟨g, o, none⟩ w := rfl
  have hst : (storeVar t ⟨g, o, none⟩ v).run P w = .ok () { w with heap := w.heap.setIfInBounds g (.cells (seg cur o v.cells.toList) e (0, 0)) } := by
    have hsz : (sizeOf t).run P w = .ok size w := by simp [sizeOf, typeInfo, hinf, hz, Result.andThen]
    simp only [storeVar, Sem.run_bind, hsz, Result.andThen_ok]
    rw [if_neg (by simp [hvs])]
    simpa [seg] using hrun
  simp only [Instr.storeAt, Sem.run_bind, hsure, Result.andThen_ok, hst]

theorem clOf_sound {ops : Array Oper} {i : Nat} {mv : Value} {t : TypeId} {dst : Option Tmp} (he : clOf n ops E i = some (mv, t, dst))
    {a : Act} {w : World} (s : St n E h r F a w) {K : Act → World → Prop}
    (H : ∀ ty, ∃ v' w', (Builtin.clear_ #[t] ty #[mv]).run P w = .ok v' w' ∧ ∀ a', Ag n (E.put dst (.val v')) a' → K a' w') : wpOp P ops (wpK P f R k) i K a w := by
  unfold clOf at he
  split at he
  · cases he
  rename_i o ho
  split at he
  case isFalse => cases he
  rename_i hd
  split at he
  · cases he
  rename_i hg
  split at he
  case h_2 => cases he
  rename_i c hc
  split at he
  case h_2 => cases he
  rename_i hcal
  split at he
  case h_2 => cases he
  rename_i hq
  split at he
  case h_2 => cases he
  rename_i xs t' hargs htys
  simp only [Option.some.injEq, Prod.mk.injEq] at he
  obtain ⟨rfl, rfl, rfl⟩ := he
  have hev := opsOk_sound s.ag (fun c w h => by cases h) _ _ hq trivial
  have e1 : a.eval xs = rho E xs := hev xs (by rw [hargs]; simp)
  have hca : c.args = #[xs] := by rw [← Array.toArray_toList (xs := c.args), hargs]
  have hct : c.argTypes = #[t'] := by rw [← Array.toArray_toList (xs := c.argTypes), htys]
  obtain ⟨v', w', hrun, hk⟩ := H o.type
  unfold wpOp
  simp only [ho]
  rw [if_pos (by simp [Region.wanted, hg])]
  refine .inl ?_
  unfold Oper.wp execOp
  simp only [hc, resolve, hcal, hca, hct, invoke, builtin, Sem.run_bind, Sem.run_pure, Result.andThen_ok, List.map_toArray, List.map_cons, List.map_nil, e1, hrun]
  exact hk _ (s.ag.put hd (.val v'))

/-- clear of a part of a row. -/
theorem JR_clear {id L0 i : Nat} {ck : Bool} {Wp : List (Nat × List Nat)} {rest : List (Nat × Bool)} (p g o m c t e : Nat) (z : Value) (dst : Option Tmp) {cur : Array Value} {size bytes : Nat}
    (he : clOf n (rgOf f id) E i = some (.slice (some ⟨g, o, none⟩) m c, t, dst)) (hok : (!ck || okW L0 (Wp.lookup i) [p]) = true) (ht : P.underlying t = some (.slice e)) (hi : (P.info? e).map (fun i => (i.zero, i.size, i.bytes)) = some (some z, size, bytes)) (hm : 0 < m)
    (hp : h[p]? = some (g, .cells cur e (0, 0))) (hz : z.cells.size = size) (hl0 : o + m * size ≤ cur.size) (h10 : ∀ u ∈ z.cells.toList, u.oneCell' = true)
    (A0 : ∀ vs : List Value, vs.length = m * size → JR P f R n (rgOf f id) L0 ck rest (Wp.filter (·.1 != i)) k (E.put dst (.val (.tuple #[]))) (h.set p (g, .cells (seg cur o vs) e (0, 0))) r F) :
    JR P f R n (rgOf f id) L0 ck ((i, false) :: rest) Wp k E h r F := by
  have hsz : (Builtin.zeroCells z.cells m).size = m * size := by rw [zc_size, hz]
  have hl : o + (Builtin.zeroCells z.cells m).size ≤ cur.size := by rw [hsz]; exact hl0
  have h1 : ∀ u ∈ (Builtin.zeroCells z.cells m).toList, u.oneCell' = true := zc_one h10 m
  have A := A0 (Builtin.zeroCells z.cells m).toList (by simpa using hsz)
  intro BB a w s hR hN hW
  simp only [PW]
  obtain ⟨inf, h1i, h2i, _⟩ := infoParts hi
  have hb : w.heap[g]? = some (.cells cur e (0, 0)) := s.own.own _ (List.mem_of_getElem? hp)
  have hzero : (zeroValue e).run P w = .ok z w := by simp [zeroValue, typeInfo, h1i, h2i]
  have hrun := run_storeCells_at (P := P) g o e (Builtin.zeroCells z.cells m).toList 0 cur w hb (by simpa using hl) h1
  rw [setRow_eq hb, Nat.add_zero] at hrun
  refine clOf_sound he s fun ty => ⟨.tuple #[], { w with heap := w.heap.setIfInBounds g (.cells (seg cur o (Builtin.zeroCells z.cells m).toList) e (0, 0)) }, ?_, fun a' hA => JR_setmap hok hp s hR hN hW hA A⟩
  obtain ⟨m', rfl⟩ : ∃ m', m = m' + 1 := ⟨m - 1, by omega⟩
  have hrun' : (storeCells ⟨g, o, none⟩ (Builtin.zeroCells z.cells (m' + 1)).toList).run P w = .ok () { w with heap := w.heap.setIfInBounds g (.cells (seg cur o (Builtin.zeroCells z.cells (m' + 1)).toList) e (0, 0)) } := hrun
  simp [Builtin.clear_, run_underlying ht, hzero, hrun', Result.andThen]
/-- clear of nothing. -/
theorem JR_clear0 {id L0 i : Nat} {ck : Bool} {Wp : List (Nat × List Nat)} {rest : List (Nat × Bool)} (a0 : Option Addr) (c t e : Nat) (dst : Option Tmp)
    (he : clOf n (rgOf f id) E i = some (.slice a0 0 c, t, dst)) (ht : P.underlying t = some (.slice e))
    (A : JR P f R n (rgOf f id) L0 ck rest (Wp.filter (·.1 != i)) k (E.put dst (.val (.tuple #[]))) h r F) :
    JR P f R n (rgOf f id) L0 ck ((i, false) :: rest) Wp k E h r F := by
  intro BB a w s hR hN hW
  simp only [PW]
  refine clOf_sound he s fun ty => ⟨.tuple #[], w, ?_, fun a' hA => ⟨fun _ b _ _ => rfl, ?_⟩⟩
  · cases a0 <;> simp [Builtin.clear_, run_underlying ht, Result.andThen]
  · rw [filter_idsW]
    exact A BB a' w (s.go hA s.own (Did.refl h [] w).dd) hR hN (okWp_filter hW)
end rows

theorem seg_len {cur : Array Value} {o : Nat} {vs : List Value} (h : o + vs.length ≤ cur.size) : (seg cur o vs).size = cur.size := by
  simp [seg]
  omega
/-- A row cut shorter. -/
theorem Row.cut {cur : Array Value} {cap n size : Nat} {xs : List Value} (h : Row cur cap n size xs) {i : Nat} (hi : i ≤ n) : Row cur cap i size (xs.take (i * size)) := by
  have hle : i * size ≤ n * size := Nat.mul_le_mul_right size hi
  refine ⟨?_, h.siz, Nat.le_trans hi h.le, h.max, ?_⟩
  · rw [List.length_take, h.len]
    omega
  · rw [← h.take, List.take_take]
    congr 1
    omega
/-- A row whose element i is turned. -/
theorem Row.turn {cur : Array Value} {cap n size : Nat} {xs vs : List Value} (h : Row cur cap n size xs) {i : Nat} (hi : i < n) (hv : vs.length = size) : Row (seg cur (i * size) vs) cap n size (xs.take (i * size) ++ vs ++ xs.drop (i * size + size)) := by
  have h1 : i * size + size ≤ n * size := by
    have := Nat.mul_le_mul_right size (Nat.succ_le_of_lt hi)
    rwa [Nat.succ_mul] at this
  have h2 : n * size ≤ cap * size := Nat.mul_le_mul_right size h.le
  have hs := h.siz
  refine ⟨?_, ?_, h.le, h.max, ?_⟩
  · simp only [List.length_append, List.length_take, List.length_drop, h.len, hv]
    omega
  · rw [seg_len (by omega)]
    exact hs
  · rw [← h.take]
    apply List.ext_getElem?
    intro j
    simp only [seg, List.getElem?_take, List.getElem?_append, List.length_append, List.length_take, List.getElem?_drop, Array.length_toList, hv]
    by_cases hj : j < n * size
    · rw [if_pos hj]
      have e1 : min (i * size) cur.size = i * size := by omega
      have e2 : min (i * size) (min (n * size) cur.size) = i * size := by omega
      rw [e1, e2]
      by_cases hj1 : j < i * size
      · have e3 : j < i * size + size := by omega
        simp [hj1, hj, e3]
      · by_cases hj2 : j < i * size + size
        · simp [hj1, hj2]
        · have hlt : i * size + size + (j - (i * size + size)) < n * size := by omega
          simp [hj2, hlt]
    · rw [if_neg hj]
      have e2 : min (i * size) (min (n * size) cur.size) = i * size := by omega
      rw [e2]
      have hj1 : ¬ j < i * size + size := by omega
      have hj3 : ¬ i * size + size + (j - (i * size + size)) < n * size := by omega
      simp [hj1, hj3]
end Go.Sx
