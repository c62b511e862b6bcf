/- The engine of our walks, part 14 (with ghosts): rows in sight: clear, whole elements turned, rows cut shorter. -/
import Derived.Test.YtpjkiomccpjboaaGreatDoorTx13
namespace Go.Sx
open Go

def clOf (n : Nat) (ops : Array Oper) (E : Env) (i : Nat) : Option (Value × TypeId × Option Tmp) :=
  match ops[i]? with
  | none => none
  | some o => if dstOk n o.dst then match o.guard with
    | some _ => none
    | none => match o.op with
      | .call c => match c.callee with
        | .builtin .clear => match opsOk E none c.args.toList with
          | some [] => match c.args.toList, c.argTypes.toList with
            | [s], [t] => some (rho E s, t, o.dst)
            | _, _ => none
          | _ => none
        | _ => none
      | _ => none
    else none

section rows
variable {P : Program} {f : Func} {R : Act → World → Prop} {n : Nat} {k : List Itm} {E : Env} {h r : List (Nat × Obj)} {F : List (List Nat × World)} {Y : Ghost}
theorem zc_size (z : Array Value) (n : Nat) : (Builtin.zeroCells z n).size = n * z.size := by simp [Builtin.zeroCells]
theorem zc_one {z : Array Value} (hz : ∀ u ∈ z.toList, u.oneCell' = true) (m : Nat) : ∀ u ∈ (Builtin.zeroCells z m).toList, u.oneCell' = true := by
  intro u hu
  unfold Builtin.zeroCells at hu
  simp only [Array.toList_map, List.mem_map] at hu
  obtain ⟨i, hi, rfl⟩ := hu
  have hi2 : i < m * z.size := by simpa using hi
  have hpos : 0 < z.size := Nat.pos_of_ne_zero fun h => by rw [h] at hi2; simp at hi2
  have hlt := Nat.mod_lt i hpos
  rw [getElem!_pos z _ hlt]
  exact hz _ (by simp)
theorem clOf_sound {ops : Array Oper} {i : Nat} {mv : Value} {t : TypeId} {dst : Option Tmp} (he : clOf n ops E i = some (mv, t, dst))
    {a : Act} {w : World} {fps : List (List Nat)} (s : StF n E h r F Y a w fps) {K : Act → World → Prop}
    (H : ∀ ty, ∃ v' w', (Builtin.clear_ #[t] ty #[mv]).run P w = .ok v' w' ∧ ∀ a', Ag n (E.put dst (.val v')) a' → K a' w') : wpOp P ops (wpK P f R k) i K a w := by
  unfold clOf at he
  split at he
  · cases he
  rename_i o ho
  split at he
  case isFalse => cases he
  rename_i hd
  split at he
  · cases he
  rename_i hg
  split at he
  case h_2 => cases he
  rename_i c hc
  split at he
  case h_2 => cases he
  rename_i hcal
  split at he
  case h_2 => cases he
  rename_i hq
  split at he
  case h_2 => cases he
  rename_i xs t' hargs htys
  simp only [Option.some.injEq, Prod.mk.injEq] at he
  obtain ⟨rfl, rfl, rfl⟩ := he
  have hev := opsOk_sound s.ag (fun c w h => by cases h) _ _ hq trivial
  have e1 : a.eval xs = rho E xs := hev xs (by rw [hargs]; simp)
  have hca : c.args = #[xs] := by rw [← Array.toArray_toList (xs := c.args), hargs]
  have hct : c.argTypes = #[t'] := by rw [← Array.toArray_toList (xs := c.argTypes), htys]
  obtain ⟨v', w', hrun, hk⟩ := H o.type
  unfold wpOp
  simp only [ho]
  rw [if_pos (by simp [Region.wanted, hg])]
  refine .inl ?_
  unfold Oper.wp execOp
  simp only [hc, resolve, hcal, hca, hct, invoke, builtin, Sem.run_bind, Sem.run_pure, Result.andThen_ok, List.map_toArray, List.map_cons, List.map_nil, e1, hrun]
  exact hk _ (s.ag.put hd (.val v'))

/-- clear of a part of a row. -/
theorem JR_clear {id L0 i : Nat} {ck : Bool} {Wp : List (Nat × List Nat)} {rest : List (Nat × Bool)} (p g o m c t e : Nat) (z : Value) (dst : Option Tmp) {cur : Array Value} {size bytes : Nat}
    (he : clOf n (rgOf f id) E i = some (.slice (some ⟨g, o, none⟩) m c, t, dst)) (hok : (!ck || okW L0 (Wp.lookup i) [p]) = true) (ht : P.underlying t = some (.slice e)) (hi : (P.info? e).map (fun i => (i.zero, i.size, i.bytes)) = some (some z, size, bytes)) (hm : 0 < m)
    (hp : h[p]? = some (g, .cells cur e (0, 0))) (hz : z.cells.size = size) (hl0 : o + m * size ≤ cur.size) (h10 : ∀ u ∈ z.cells.toList, u.oneCell' = true)
    (A0 : ∀ vs : List Value, vs.length = m * size → JR P f R n (rgOf f id) L0 ck rest (Wp.filter (·.1 != i)) k (E.put dst (.val (.tuple #[]))) (h.set p (g, .cells (seg cur o vs) e (0, 0))) r F Y) :
    JR P f R n (rgOf f id) L0 ck ((i, false) :: rest) Wp k E h r F Y := by
  have hsz : (Builtin.zeroCells z.cells m).size = m * size := by rw [zc_size, hz]
  have hl : o + (Builtin.zeroCells z.cells m).size ≤ cur.size := by rw [hsz]; exact hl0
  have h1 : ∀ u ∈ (Builtin.zeroCells z.cells m).toList, u.oneCell' = true := zc_one h10 m
  have A := A0 (Builtin.zeroCells z.cells m).toList (by simpa using hsz)
  intro BB Hd fps a w s hH hR hN hW
  simp only [PW]
  obtain ⟨inf, h1i, h2i, _⟩ := infoParts hi
  have hb : w.heap[g]? = some (.cells cur e (0, 0)) := s.own.own _ (List.mem_of_getElem? hp)
  have hzero : (zeroValue e).run P w = .ok z w := by simp [zeroValue, typeInfo, h1i, h2i]
  have hrun := run_storeCells_at (P := P) g o e (Builtin.zeroCells z.cells m).toList 0 cur w hb (by simpa using hl) h1
  rw [setRow_eq hb, Nat.add_zero] at hrun
  refine clOf_sound he s fun ty => ⟨.tuple #[], { w with heap := w.heap.setIfInBounds g (.cells (seg cur o (Builtin.zeroCells z.cells m).toList) e (0, 0)) }, ?_, fun a' hA => JR_setmap hok hp s hH hR hN hW hA A⟩
  obtain ⟨m', rfl⟩ : ∃ m', m = m' + 1 := ⟨m - 1, by omega⟩
  have hrun' : (storeCells ⟨g, o, none⟩ (Builtin.zeroCells z.cells (m' + 1)).toList).run P w = .ok () { w with heap := w.heap.setIfInBounds g (.cells (seg cur o (Builtin.zeroCells z.cells (m' + 1)).toList) e (0, 0)) } := hrun
  simp [Builtin.clear_, run_underlying ht, hzero, hrun', Result.andThen]
end rows
/-- A row whose tail was cleared. -/
theorem Row.clr {cur : Array Value} {cap n size : Nat} {xs vs : List Value} (h : Row cur cap n size xs) {i : Nat} (hi : i ≤ n) (hv : vs.length = (n - i) * size) : Row (seg cur (i * size) vs) cap i size (xs.take (i * size)) := by
  have hle : i * size ≤ n * size := Nat.mul_le_mul_right size hi
  have h2 : n * size ≤ cap * size := Nat.mul_le_mul_right size h.le
  have hs := h.siz
  have hsum : i * size + (n - i) * size = n * size := by rw [← Nat.add_mul]; congr 1; omega
  refine ⟨?_, ?_, Nat.le_trans hi h.le, h.max, ?_⟩
  · rw [List.length_take, h.len]
    omega
  · rw [seg_len (by rw [hv]; omega)]
    exact hs
  · have e1 : (seg cur (i * size) vs).toList.take (i * size) = cur.toList.take (i * size) := by
      simp only [seg]
      rw [List.append_assoc, List.take_append_of_le_length (by simp; omega), List.take_take, Nat.min_self]
    rw [e1, ← h.take, List.take_take]
    congr 1
    omega
section steps
variable {h r : List (Nat × Obj)} {F : List (List Nat × World)}
theorem RowsAt.cut {w : World} {S : Nat → Prop} {xs : List Value} {k : Nat} {rows : List (List D)} (h : RowsAt w S xs k rows) (i : Nat) : RowsAt w S (xs.take (i * k)) k (rows.take i) := by
  refine ⟨fun row hr => h.len row (List.mem_of_mem_take hr), fun p j row d hp hj => ?_⟩
  rw [List.getElem?_take] at hp
  split at hp
  · rename_i hpi
    obtain ⟨u, h1, h2⟩ := h.rep p j row d hp hj
    have hjk : j < k := by rw [← h.len row (List.mem_of_getElem? hp)]; exact (List.getElem?_eq_some_iff.1 hj).1
    exact ⟨u, by rw [List.getElem?_take, if_pos (idx_lt hpi hjk)]; exact h1, h2⟩
  · cases hp
/-- Fewer elements. -/
theorem stp_cutrows {S0 : Nat → Prop} {C0 : List Chunk} {G0 : List (Value × D)} (q i : Nat) {xs : List Value} {k : Nat} {rows : List (List D)} (hq : C0[q]? = some (cRows xs k rows)) :
    Stp h r F ⟨S0, C0, G0⟩ (fun _ : Unit => True) fun _ => ⟨S0, C0.set q (cRows (xs.take (i * k)) k (rows.take i)), G0⟩ := by
  intro w fps hO H
  obtain ⟨fp, hfp, hnil, hP⟩ := H.chs.at hq
  have hc : (cRows (xs.take (i * k)) k (rows.take i)).P w (Sd ⟨S0, C0, G0⟩ h fps) fp := ⟨hnil, hP.cut i⟩
  have hs := H.chs.set hc (i := q)
  have e : fps.set q fp = fps := set_same hfp
  rw [e] at hs
  exact ⟨(), fps, trivial, fun _ hb => hb, H.less (fun _ hb => hb) H.nodup hs H.g⟩
theorem RowsAt.put {w : World} {S : Nat → Prop} {xs vs : List Value} {k : Nat} {rows : List (List D)} (h : RowsAt w S xs k rows) (hl : xs.length = rows.length * k) {i : Nat} (hi : i < rows.length) {row : List D} (hv : vs.length = k) (hr : row.length = k) (hrep : ∀ (j : Nat) d, row[j]? = some d → ∃ u, vs[j]? = some u ∧ Rep w S u d) :
    RowsAt w S (xs.take (i * k) ++ vs ++ xs.drop (i * k + k)) k (rows.set i row) := by
  have h1 : i * k + k ≤ rows.length * k := by
    have := Nat.mul_le_mul_right k (Nat.succ_le_of_lt hi)
    rwa [Nat.succ_mul] at this
  refine ⟨fun row' hr' => ?_, fun p j row' d hp hj => ?_⟩
  · rcases List.mem_or_eq_of_mem_set hr' with h2 | rfl
    · exact h.len row' h2
    · exact hr
  · by_cases hpi : i = p
    · subst hpi
      rw [List.getElem?_set_self hi] at hp
      cases hp
      obtain ⟨u, hu, hru⟩ := hrep j d hj
      have hjk : j < k := by rw [← hr]; exact (List.getElem?_eq_some_iff.1 hj).1
      refine ⟨u, ?_, hru⟩
      rw [List.getElem?_append_left (by simp; omega), List.getElem?_append_right (by simp; omega)]
      simp only [List.length_take, hl]
      rw [show i * k + j - min (i * k) (rows.length * k) = j by omega]
      exact hu
    · rw [List.getElem?_set_ne hpi] at hp
      obtain ⟨u, h3, h4⟩ := h.rep p j row' d hp hj
      have hjk : j < k := by rw [← h.len row' (List.mem_of_getElem? hp)]; exact (List.getElem?_eq_some_iff.1 hj).1
      refine ⟨u, ?_, h4⟩
      rcases Nat.lt_or_gt_of_ne hpi with hlt | hgt
      · have h5 := Nat.mul_le_mul_right k (Nat.succ_le_of_lt hlt)
        rw [Nat.succ_mul] at h5
        rw [List.getElem?_append_right (by simp; omega), List.getElem?_drop]
        simp only [List.length_append, List.length_take, hl, hv]
        rw [show i * k + k + (p * k + j - (min (i * k) (rows.length * k) + k)) = p * k + j by omega]
        exact h3
      · have h5 := Nat.mul_le_mul_right k (Nat.succ_le_of_lt hgt)
        rw [Nat.succ_mul] at h5
        rw [List.getElem?_append_left (by simp; omega), List.getElem?_append_left (by simp; omega), List.getElem?_take, if_pos (by omega)]
        exact h3
/-- An element turned whole. -/
theorem stp_putrow {S0 : Nat → Prop} {C0 : List Chunk} {G0 : List (Value × D)} (q i : Nat) {xs vs : List Value} {k : Nat} {rows : List (List D)} {row : List D} (hq : C0[q]? = some (cRows xs k rows)) (hl : xs.length = rows.length * k) (hi : i < rows.length) (hk : row.length = k) (hR : RowG G0 vs row) :
    Stp h r F ⟨S0, C0, G0⟩ (fun _ : Unit => True) fun _ => ⟨S0, C0.set q (cRows (xs.take (i * k) ++ vs ++ xs.drop (i * k + k)) k (rows.set i row)), G0⟩ := by
  intro w fps hO H
  obtain ⟨fp, hfp, hnil, hP⟩ := H.chs.at hq
  have hc : (cRows (xs.take (i * k) ++ vs ++ xs.drop (i * k + k)) k (rows.set i row)).P w (Sd ⟨S0, C0, G0⟩ h fps) fp := ⟨hnil, hP.put hl hi (by rw [hR.len, hk]) hk fun j d hj => hR.at H.g j d hj⟩
  have hs := H.chs.set hc (i := q)
  have e : fps.set q fp = fps := set_same hfp
  rw [e] at hs
  exact ⟨(), fps, trivial, fun _ hb => hb, H.less (fun _ hb => hb) H.nodup hs H.g⟩
end steps
end Go.Sx
