/- The engine of our walks, part 11: rows whose elements are several cells each, as lists of elements. -/
import Derived.Test.YtgelnbgjabpdbaaDoorSx10
namespace Go.Sx
open Go

section flat
variable {α : Type}
/-- The cells of a list's elements, one behind the other. -/
def flat (f : α → List Value) (l : List α) : List Value := (l.map f).flatten
theorem flat_nil (f : α → List Value) : flat f [] = [] := rfl
theorem flat_cons (f : α → List Value) (x : α) (l : List α) : flat f (x :: l) = f x ++ flat f l := rfl
theorem flat_app (f : α → List Value) (l l' : List α) : flat f (l ++ l') = flat f l ++ flat f l' := by simp [flat]
theorem flat_one (f : α → List Value) (x : α) : flat f [x] = f x := by simp [flat]
theorem flat_len {f : α → List Value} {k : Nat} (hf : ∀ x, (f x).length = k) : ∀ l : List α, (flat f l).length = l.length * k
  | [] => by simp [flat]
  | x :: l => by rw [flat_cons, List.length_append, flat_len hf l, hf, List.length_cons, Nat.succ_mul]; omega
theorem flat_at {f : α → List Value} {k : Nat} (hf : ∀ x, (f x).length = k) : ∀ {l : List α} {i : Nat} {x : α}, l[i]? = some x → ∀ (j : Nat) u, (f x)[j]? = some u → (flat f l)[i * k + j]? = some u
  | [], i, x, h, _, _, _ => by simp at h
  | y :: l, 0, x, h, j, u, hu => by
    simp only [List.getElem?_cons_zero, Option.some.injEq] at h
    subst h
    have hj := (List.getElem?_eq_some_iff.1 hu).1
    rw [flat_cons, Nat.zero_mul, Nat.zero_add, List.getElem?_append_left hj]
    exact hu
  | y :: l, i + 1, x, h, j, u, hu => by
    simp only [List.getElem?_cons_succ] at h
    have := flat_at hf h j u hu
    have h1 : (i + 1) * k = i * k + k := Nat.succ_mul i k
    have h2 := hf y
    rw [flat_cons, List.getElem?_append_right (by omega), ← this]
    congr 1
    omega
theorem flat_take {f : α → List Value} {k : Nat} (hf : ∀ x, (f x).length = k) : ∀ (l : List α) (i : Nat), (flat f l).take (i * k) = flat f (l.take i)
  | [], i => by simp [flat]
  | x :: l, 0 => by simp [flat]
  | x :: l, i + 1 => by
    have h1 : (i + 1) * k = k + i * k := by rw [Nat.succ_mul]; omega
    rw [flat_cons, List.take_succ_cons, flat_cons, h1, ← hf x, List.take_length_add_append, hf x, flat_take hf l i]
theorem flat_drop {f : α → List Value} {k : Nat} (hf : ∀ x, (f x).length = k) : ∀ (l : List α) (i : Nat), (flat f l).drop (i * k) = flat f (l.drop i)
  | [], i => by simp [flat]
  | x :: l, 0 => by simp [flat]
  | x :: l, i + 1 => by
    have h1 : (i + 1) * k = k + i * k := by rw [Nat.succ_mul]; omega
    rw [flat_cons, List.drop_succ_cons, h1, ← hf x, List.drop_length_add_append, hf x, flat_drop hf l i]
variable {f : α → List Value} {k : Nat} {cur : Array Value} {cap : Nat} {l : List α}
/-- A cell of element i. -/
theorem Row.cell (hf : ∀ x, (f x).length = k) (h : Row cur cap l.length k (flat f l)) {i : Nat} {x : α} (hx : l[i]? = some x) {j : Nat} {u : Value} (hu : (f x)[j]? = some u) : cur[i * k + j]? = some u := by
  have h1 := flat_at hf hx j u hu
  have h2 := (List.getElem?_eq_some_iff.1 h1).1
  rw [flat_len hf] at h2
  rw [h.at h2, h1]
theorem Row.cellz (hf : ∀ x, (f x).length = k) (h : Row cur cap l.length k (flat f l)) {i : Int} {x : α} (hx : l[i.toNat]? = some x) {j : Nat} {u : Value} (hu : (f x)[j]? = some u) : cur[0 + i.toNat * k + j]? = some u := by
  rw [Nat.zero_add]; exact h.cell hf hx hu
theorem Row.turnx (hf : ∀ x, (f x).length = k) (h : Row cur cap l.length k (flat f l)) {i : Nat} (hi : i < l.length) (x : α) : Row (seg cur (i * k) (f x)) cap l.length k (flat f (l.set i x)) := by
  have h1 := h.turn hi (hf x)
  have e : flat f (l.set i x) = (flat f l).take (i * k) ++ f x ++ (flat f l).drop (i * k + k) := by
    rw [flat_take hf, ← Nat.succ_mul, flat_drop hf, List.set_eq_take_append_cons_drop, if_pos hi, flat_app, flat_cons, List.append_assoc]
  rw [e]
  exact h1
theorem Row.cutx (hf : ∀ x, (f x).length = k) (h : Row cur cap l.length k (flat f l)) {i : Nat} (hi : i ≤ l.length) : Row cur cap (l.take i).length k (flat f (l.take i)) := by
  have h1 := h.cut hi
  rw [flat_take hf] at h1
  rw [List.length_take, Nat.min_eq_left hi]
  exact h1
/-- What lies behind i may be written over. -/
theorem Row.tail {n size : Nat} {xs vs : List Value} (h : Row cur cap n size xs) {o : Nat} (ho : n * size ≤ o) (hv : o + vs.length ≤ cur.size) : Row (seg cur o vs) cap n size xs := by
  refine ⟨h.len, by rw [seg_len hv]; exact h.siz, h.le, h.max, ?_⟩
  rw [← h.take]
  simp only [seg]
  rw [List.append_assoc, List.take_append_of_le_length (by simp; omega), List.take_take, Nat.min_eq_left ho]
end flat

section picks
/-- Elements picked by their positions. -/
def pick {α : Type} (l : List α) (ps : List Nat) : List α := ps.filterMap fun i => l[i]?
theorem pick_mem {α : Type} {l l' : List α} {ps : List Nat} (h : pick l ps = l') : ∀ y ∈ l', y ∈ l := fun y hy => by
  rw [← h] at hy
  obtain ⟨i, _, hi⟩ := List.mem_filterMap.1 hy
  exact List.mem_of_getElem? hi
theorem pick_nodup {α β : Type} {g : α → β} {l : List α} : ∀ {ps : List Nat} {l' : List α}, pick l ps = l' → ps.Nodup → (l.map g).Nodup → (l'.map g).Nodup
  | [], l', h, _, _ => by
    rw [← h]
    simp [pick]
  | i :: ps, l', h, hp, hn => by
    have hp2 := List.nodup_cons.1 hp
    have ih := pick_nodup (g := g) (l := l) (ps := ps) rfl hp2.2 hn
    rw [← h]
    unfold pick
    rw [List.filterMap_cons]
    split
    · exact ih
    · rename_i x hx
      rw [List.map_cons, List.nodup_cons]
      refine ⟨fun hm => ?_, ih⟩
      obtain ⟨y, hy, hxy⟩ := List.mem_map.1 hm
      obtain ⟨j, hj, hjy⟩ := List.mem_filterMap.1 hy
      have h1 : (l.map g)[i]? = some (g x) := by rw [List.getElem?_map, hx]; rfl
      have h2 : (l.map g)[j]? = some (g x) := by rw [List.getElem?_map, hjy, ← hxy]; rfl
      have hl : i < (l.map g).length := (List.getElem?_eq_some_iff.1 h1).1
      have := (List.getElem?_inj hl hn).1 (h1.trans h2.symm)
      subst this
      exact hp2.1 hj
variable {α : Type} {P : Program} {f : Func} {R : Act → World → Prop} {n : Nat} {k : List Itm} {E : Env} {h r : List (Nat × Obj)} {F : List (List Nat × World)}
theorem J_backp {Ex : α → Env} {hx : α → List (Nat × Obj)} {m : α → Nat} {ok : α → World → Prop} {r0 : List (Nat × Obj)} {F0 : List (List Nat × World)} {j : Nat} (x : α) (ts ps : List Nat) (d : Nat) (hok : ∀ a w, St n E h r F a w → ok x w) (hm : m x < j) (hE : keepE E ts = Ex x) (hh : pick h ps = hx x) (hF : F.drop d = F0)
    (hps : ps.Nodup := by decide) (hr : ∀ y ∈ r0, y ∈ r := by simp) : J P f R n (.back (Inv n Ex hx m ok r0 F0) j :: k) E h r F :=
  J_backx x ts hok hm hE (pick_mem hh) (pick_nodup hh hps) hr fun y hy => by rw [← hF] at hy; exact List.mem_of_mem_drop hy
/-- The state, written shorter: slots, blocks, references. -/
theorem J_cut {E' : Env} {h' : List (Nat × Obj)} {F' : List (List Nat × World)} (ts ps : List Nat) (d : Nat) (hE : keepE E ts = E') (hh : pick h ps = h') (hF : F.drop d = F') (H : J P f R n k E' h' [] F') (hps : ps.Nodup := by decide) : J P f R n k E h r F := fun a w s =>
  H a w (s.sub (fun t ev ht => by rw [← hE] at ht; exact keepE_sub E ts t ev ht) (pick_mem hh) (pick_nodup hh hps) (by simp) fun y hy => by rw [← hF] at hy; exact List.mem_of_mem_drop hy)
theorem St.ne {a : Act} {w : World} (s : St n E h r F a w) (i j : Nat) {b c : Nat} {o u : Obj} (hi : h[i]? = some (b, o)) (hj : h[j]? = some (c, u)) (hij : i ≠ j := by decide) : b ≠ c := fun hbc => by
  have h1 : (h.map (·.1))[i]? = some b := by rw [List.getElem?_map, hi]; rfl
  have h2 : (h.map (·.1))[j]? = some b := by rw [List.getElem?_map, hj, hbc]; rfl
  exact hij ((List.getElem?_inj (List.getElem?_eq_some_iff.1 h1).1 s.own.nodup).1 (h1.trans h2.symm))
end picks

/-- Blocks that are only read may be forgotten. -/
theorem J_ro {P : Program} {f : Func} {R : Act → World → Prop} {n : Nat} {k : List Itm} {E : Env} {h r : List (Nat × Obj)} {F : List (List Nat × World)} (r' : List (Nat × Obj)) (hs : ∀ x ∈ r', x ∈ r) (H : J P f R n k E h r' F) : J P f R n k E h r F := fun a w s =>
  H a w (s.sub (fun _ _ h => h) (fun _ h => h) (fun h => h) hs (fun _ h => h))

/-- A message's cells. -/
structure MV where
  src : Int
  dst : Int
  shard : Int
  seq : Int
  time : Int
  beat : Bool
  wv : Value
  place : Int
  ov : Value
abbrev MV.arr (m : MV) : Array Value := #[.int .i64 m.src, .int .i64 m.dst, .int .i64 m.shard, .int .i64 m.seq, .int .i64 m.time, .bool m.beat, m.wv, .int .i64 m.place, m.ov]
abbrev MV.cells (m : MV) : List Value := [.int .i64 m.src, .int .i64 m.dst, .int .i64 m.shard, .int .i64 m.seq, .int .i64 m.time, .bool m.beat, m.wv, .int .i64 m.place, m.ov]
theorem MV.len (m : MV) : m.cells.length = 9 := rfl
def MV.one (m : MV) : Prop := m.wv.oneCell' = true ∧ m.ov.oneCell' = true
theorem MV.ones {m : MV} (h : m.one) : ∀ u ∈ m.cells, u.oneCell' = true := by
  obtain ⟨h1, h2⟩ := h
  intro u hu
  simp only [MV.cells, List.mem_cons, List.not_mem_nil, or_false] at hu
  rcases hu with rfl | rfl | rfl | rfl | rfl | rfl | rfl | rfl | rfl <;> first | rfl | exact h1 | exact h2
end Go.Sx
