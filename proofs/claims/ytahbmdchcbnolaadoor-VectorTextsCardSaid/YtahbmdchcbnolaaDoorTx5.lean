/- The engine of our walks, part 5: ghosts: data that nobody turns, chunks that are owned; the judgement J. -/
import Derived.Test.YtahbmdchcbnolaaDoorTx4
import Derived.Maps.AppendAt
namespace Go.Sx
open Go

/-- cur holds a row of cap places of size cells, whose first n elements are xs. -/
structure Row (cur : Array Value) (cap n size : Nat) (xs : List Value) : Prop where
  len : xs.length = n * size
  siz : cur.size = cap * size
  le : n ≤ cap
  max : cap ≤ maxLen
  take : cur.toList.take (n * size) = xs
theorem Row.at {cur : Array Value} {cap n size : Nat} {xs : List Value} (h : Row cur cap n size xs) {j : Nat} (hj : j < n * size) : cur[j]? = xs[j]? := by
  rw [← h.take, List.getElem?_take, if_pos hj]
  simp
theorem Row.zero (size : Nat) (cur : Array Value) (h : cur.size = 0 := by rfl) : Row cur 0 0 size [] := ⟨by simp, by simpa using h, Nat.le_refl _, Nat.zero_le _, by simp⟩
theorem Row.full {cs : Array Value} {n size : Nat} (hs : cs.size = n * size) (hm : n ≤ maxLen) : Row cs n n size cs.toList :=
  ⟨by simpa using hs, hs, Nat.le_refl _, hm, by rw [List.take_of_length_le]; simp [hs]⟩

/-- A datum: one plain cell; or a slice of elements of k cells each; or a pointer to cells; or a pointer to a block that is known whole. -/
inductive D where
  | v (x : Value)
  | sl (k : Nat) (rows : List (List D))
  | ptr (ds : List D)
  | obj (o : Obj)
  | all (l : List (Value × D))

/-- Value x reads in w as the datum; the blocks that it leads to are of S. -/
inductive Rep (w : World) (S : Nat → Prop) : Value → D → Prop
  | v {x : Value} (h : x.oneCell' = true) : Rep w S x (.v x)
  | nil {a : Option Addr} {c k : Nat} : Rep w S (.slice a 0 c) (.sl k [])
  | sl {b off cap k : Nat} {cs : Array Value} {e : TypeId} {fz : Nat × Nat} {rows : List (List D)} (u : Nat → Nat → Value) (hb : w.heap[b]? = some (.cells cs e fz)) (hS : S b) (hc : rows.length ≤ cap) (hk : 0 < k)
      (hl : ∀ row ∈ rows, row.length = k) (hcell : ∀ (i j : Nat), i < rows.length → j < k → cs[off + (i * k + j)]? = some (u i j))
      (hrep : ∀ (i j : Nat) (row : List D) (d : D), rows[i]? = some row → row[j]? = some d → Rep w S (u i j) d) : Rep w S (.slice (some ⟨b, off, none⟩) rows.length cap) (.sl k rows)
  | ptr {b off : Nat} {cs : Array Value} {e : TypeId} {fz : Nat × Nat} {ds : List D} (u : Nat → Value) (hb : w.heap[b]? = some (.cells cs e fz)) (hS : S b) (hcell : ∀ j : Nat, j < ds.length → cs[off + j]? = some (u j))
      (hrep : ∀ (j : Nat) (d : D), ds[j]? = some d → Rep w S (u j) d) : Rep w S (.pointer (some ⟨b, off, none⟩)) (.ptr ds)
  | obj {a : Addr} {o : Obj} (hb : w.heap[a.block]? = some o) (hS : S a.block) : Rep w S (.pointer (some a)) (.obj o)
  | all {l : List (Value × D)} (h : ∀ y ∈ l, Rep w S y.1 y.2) : Rep w S .nilIface (.all l)

theorem Rep.one {w : World} {S : Nat → Prop} {x : Value} {d : D} (h : Rep w S x d) : x.oneCell' = true := by
  cases h with
  | v h => exact h
  | nil => rfl
  | sl => rfl
  | ptr => rfl
  | obj => rfl
  | all => rfl
theorem Rep.plain {w : World} {S : Nat → Prop} {x y : Value} (h : Rep w S x (.v y)) : x = y := by cases h; rfl

theorem Rep.mono {w w' : World} {S S' : Nat → Prop} {x : Value} {d : D} (h : Rep w S x d) (hS : ∀ b, S b → b < w.heap.size → S' b ∧ w'.heap[b]? = w.heap[b]?) : Rep w' S' x d := by
  induction h with
  | v h => exact .v h
  | nil => exact .nil
  | sl u hb hs hc hk hl hcell _ ih =>
    have hlt := (Array.getElem?_eq_some_iff.1 hb).1
    exact .sl u ((hS _ hs hlt).2.trans hb) (hS _ hs hlt).1 hc hk hl hcell ih
  | ptr u hb hs hcell _ ih =>
    have hlt := (Array.getElem?_eq_some_iff.1 hb).1
    exact .ptr u ((hS _ hs hlt).2.trans hb) (hS _ hs hlt).1 hcell ih
  | obj hb hs =>
    have hlt := (Array.getElem?_eq_some_iff.1 hb).1
    exact .obj ((hS _ hs hlt).2.trans hb) (hS _ hs hlt).1
  | all _ ih => exact .all ih
theorem Rep.part {w : World} {S : Nat → Prop} {x : Value} {l : List (Value × D)} (h : Rep w S x (.all l)) : ∀ y ∈ l, Rep w S y.1 y.2 := by
  cases h with
  | all h => exact h

/-- The form of a slice's value. -/
theorem Rep.form {w : World} {S : Nat → Prop} {x : Value} {k : Nat} {rows : List (List D)} (h : Rep w S x (.sl k rows)) : ∃ a c, x = .slice a rows.length c ∧ rows.length ≤ c + rows.length := by
  cases h with
  | nil => exact ⟨_, _, rfl, by omega⟩
  | sl => exact ⟨_, _, rfl, by omega⟩

/-- A slice that is not empty: its cells. -/
theorem Rep.cells {w : World} {S : Nat → Prop} {x : Value} {k : Nat} {rows : List (List D)} (h : Rep w S x (.sl k rows)) (hne : rows ≠ []) :
    ∃ b off cap cs e fz, x = .slice (some ⟨b, off, none⟩) rows.length cap ∧ w.heap[b]? = some (.cells cs e fz) ∧ S b ∧ rows.length ≤ cap ∧ 0 < k ∧ (∀ row ∈ rows, row.length = k) ∧
      ∃ news : List Value, news.length = rows.length * k ∧ (∀ (j : Nat) u, news[j]? = some u → cs[off + j]? = some u) ∧ (∀ u ∈ news, u.oneCell' = true) ∧
        ∀ (i j : Nat) (row : List D) (d : D), rows[i]? = some row → row[j]? = some d → ∃ u, news[i * k + j]? = some u ∧ Rep w S u d := by
  cases h with
  | nil => exact absurd rfl hne
  | sl u hb hS hc hk hl hcell hrep =>
    rename_i b off cap cs e fz
    refine ⟨b, off, cap, cs, e, fz, rfl, hb, hS, hc, hk, hl, (List.range (rows.length * k)).map (fun q => u (q / k) (q % k)), by simp, ?_, ?_, ?_⟩
    · intro j x hx
      rw [List.getElem?_map] at hx
      obtain ⟨q, hq, rfl⟩ := Option.map_eq_some_iff.1 hx
      have hlt : j < rows.length * k := by simpa using (List.getElem?_eq_some_iff.1 hq).1
      have hqj : q = j := by rw [List.getElem?_range hlt] at hq; exact (Option.some.inj hq).symm
      subst hqj
      have h1 : q / k < rows.length := Nat.div_lt_of_lt_mul (by rw [Nat.mul_comm]; exact hlt)
      have h2 := hcell (q / k) (q % k) h1 (Nat.mod_lt _ hk)
      rwa [Nat.mul_comm, Nat.div_add_mod] at h2
    · intro x hx
      obtain ⟨q, hq, rfl⟩ := List.mem_map.1 hx
      have hlt := List.mem_range.1 hq
      have h1 : q / k < rows.length := Nat.div_lt_of_lt_mul (by rw [Nat.mul_comm]; exact hlt)
      have hrow : (rows[q / k]'h1).length = k := hl _ (List.getElem_mem h1)
      have h2 : q % k < (rows[q / k]'h1).length := by rw [hrow]; exact Nat.mod_lt _ hk
      exact (hrep (q / k) (q % k) _ _ (List.getElem?_eq_getElem h1) (List.getElem?_eq_getElem h2)).one
    · intro i j row d hi hj
      have hil := (List.getElem?_eq_some_iff.1 hi).1
      have hjl : j < k := by
        rw [← hl row (List.mem_of_getElem? hi)]
        exact (List.getElem?_eq_some_iff.1 hj).1
      refine ⟨u i j, ?_, hrep i j row d hi hj⟩
      have hlt : i * k + j < rows.length * k := by
        calc i * k + j < i * k + k := by omega
          _ = (i + 1) * k := by rw [Nat.add_mul, Nat.one_mul]
          _ ≤ rows.length * k := Nat.mul_le_mul_right k hil
      rw [List.getElem?_map, List.getElem?_range hlt]
      have h1 : (i * k + j) / k = i := by
        rw [Nat.mul_comm, Nat.mul_add_div hk, Nat.div_eq_of_lt hjl, Nat.add_zero]
      have h2 : (i * k + j) % k = j := by
        rw [Nat.mul_comm, Nat.mul_add_mod, Nat.mod_eq_of_lt hjl]
      simp [h1, h2]

/-- A row read as a datum. -/
theorem Rep.of_row {w : World} {S : Nat → Prop} {g cap : Nat} {cur : Array Value} {e : TypeId} {fz : Nat × Nat} {k : Nat} {xs : List Value} {rows : List (List D)} (hg : w.heap[g]? = some (.cells cur e fz)) (hS : S g) (hr : Row cur cap rows.length k xs) (hk : 0 < k)
    (hl : ∀ row ∈ rows, row.length = k) (hrep : ∀ (i j : Nat) (row : List D) (d : D), rows[i]? = some row → row[j]? = some d → ∃ u, xs[i * k + j]? = some u ∧ Rep w S u d) : Rep w S (.slice (some ⟨g, 0, none⟩) rows.length cap) (.sl k rows) := by
  refine .sl (fun i j => xs.getD (i * k + j) undef) hg hS hr.le hk hl (fun i j hi hj => ?_) (fun i j row d h1 h2 => ?_)
  · have hlt : i * k + j < rows.length * k := by
      calc i * k + j < i * k + k := by omega
        _ = (i + 1) * k := by rw [Nat.add_mul, Nat.one_mul]
        _ ≤ rows.length * k := Nat.mul_le_mul_right k hi
    rw [Nat.zero_add, hr.at hlt]
    have : i * k + j < xs.length := by rw [hr.len]; exact hlt
    simp [List.getD_eq_getElem?_getD, List.getElem?_eq_getElem this]
  · obtain ⟨u, hu, hru⟩ := hrep i j row d h1 h2
    simpa [List.getD_eq_getElem?_getD, hu] using hru

theorem Rep.fr {w w' : World} {M : List Nat} {S : Nat → Prop} {x : Value} {d : D} (h : Rep w S x d) (hf : Fr M w w') (hS : ∀ b ∈ M, ¬ S b) : Rep w' S x d :=
  h.mono fun b hb hlt => ⟨hb, hf.block b hlt fun hm => hS b hm hb⟩
theorem Rep.wide {w : World} {S S' : Nat → Prop} {x : Value} {d : D} (h : Rep w S x d) (hS : ∀ b, S b → b < w.heap.size → S' b) : Rep w S' x d :=
  h.mono fun b hb hlt => ⟨hS b hb hlt, rfl⟩


/-! Chunks. -/
structure Chunk where
  P : World → (Nat → Prop) → List Nat → Prop
  mono : ∀ {w w' : World} {S S' : Nat → Prop} {fp : List Nat}, P w S fp → (∀ b ∈ fp, w'.heap[b]? = w.heap[b]?) → (∀ b, S b → b < w.heap.size → S' b ∧ w'.heap[b]? = w.heap[b]?) → P w' S' fp

def Chs (w : World) (S : Nat → Prop) : List Chunk → List (List Nat) → Prop
  | [], [] => True
  | c :: cs, fp :: fps => c.P w S fp ∧ Chs w S cs fps
  | _, _ => False
theorem Chs.mono {w w' : World} {S S' : Nat → Prop} : ∀ {cs : List Chunk} {fps : List (List Nat)}, Chs w S cs fps → (∀ b ∈ fps.flatten, w'.heap[b]? = w.heap[b]?) → (∀ b, S b → b < w.heap.size → S' b ∧ w'.heap[b]? = w.heap[b]?) → Chs w' S' cs fps
  | [], [], _, _, _ => trivial
  | c :: cs, fp :: fps, h, hb, hS => ⟨c.mono h.1 (fun b hm => hb b (by simp [hm])) hS, Chs.mono h.2 (fun b hm => hb b (by simp only [List.flatten_cons, List.mem_append]; exact .inr hm)) hS⟩
  | [], _ :: _, h, _, _ => h.elim
  | _ :: _, [], h, _, _ => h.elim
theorem Chs.len {w : World} {S : Nat → Prop} : ∀ {cs : List Chunk} {fps : List (List Nat)}, Chs w S cs fps → cs.length = fps.length
  | [], [], _ => rfl
  | c :: cs, fp :: fps, h => by simp [Chs.len h.2]
  | [], _ :: _, h => h.elim
  | _ :: _, [], h => h.elim
theorem Chs.app {w : World} {S : Nat → Prop} : ∀ {cs : List Chunk} {fps : List (List Nat)} {cs2 : List Chunk} {fps2 : List (List Nat)}, Chs w S cs fps → Chs w S cs2 fps2 → Chs w S (cs ++ cs2) (fps ++ fps2)
  | [], [], _, _, _, h2 => h2
  | _ :: _, _ :: _, _, _, h, h2 => ⟨h.1, Chs.app h.2 h2⟩
  | [], _ :: _, _, _, h, _ => h.elim
  | _ :: _, [], _, _, h, _ => h.elim
theorem Chs.split {w : World} {S : Nat → Prop} : ∀ {cs cs2 : List Chunk} {fps : List (List Nat)}, Chs w S (cs ++ cs2) fps → ∃ f1 f2, fps = f1 ++ f2 ∧ Chs w S cs f1 ∧ Chs w S cs2 f2
  | [], _, fps, h => ⟨[], fps, rfl, trivial, h⟩
  | c :: cs, cs2, fp :: fps, h => by
    obtain ⟨f1, f2, rfl, h1, h2⟩ := Chs.split h.2
    exact ⟨fp :: f1, f2, rfl, ⟨h.1, h1⟩, h2⟩
  | _ :: _, _, [], h => h.elim
/-- The chunk at a place, and the others. -/
theorem Chs.at {w : World} {S : Nat → Prop} : ∀ {cs : List Chunk} {fps : List (List Nat)} {i : Nat} {c : Chunk}, Chs w S cs fps → cs[i]? = some c → ∃ fp, fps[i]? = some fp ∧ c.P w S fp
  | c :: cs, fp :: fps, 0, x, h, hx => by
    simp only [List.getElem?_cons_zero, Option.some.injEq] at hx
    subst hx
    exact ⟨fp, rfl, h.1⟩
  | c :: cs, fp :: fps, i + 1, x, h, hx => by
    simp only [List.getElem?_cons_succ] at hx
    obtain ⟨fp', h1, h2⟩ := Chs.at h.2 hx
    exact ⟨fp', by simpa using h1, h2⟩
  | [], _, _, _, _, hx => by simp at hx
  | _ :: _, [], _, _, h, _ => h.elim
theorem Chs.set {w : World} {S : Nat → Prop} {c : Chunk} {fp : List Nat} (hc : c.P w S fp) : ∀ {cs : List Chunk} {fps : List (List Nat)} {i : Nat}, Chs w S cs fps → Chs w S (cs.set i c) (fps.set i fp)
  | _ :: _, _ :: _, 0, h => ⟨hc, h.2⟩
  | _ :: _, _ :: _, _ + 1, h => ⟨h.1, Chs.set hc h.2⟩
  | [], [], _, _ => trivial
  | [], _ :: _, _, h => h.elim
  | _ :: _, [], _, h => h.elim
theorem Chs.erase {w : World} {S : Nat → Prop} : ∀ {cs : List Chunk} {fps : List (List Nat)} {i : Nat}, Chs w S cs fps → Chs w S (cs.eraseIdx i) (fps.eraseIdx i)
  | _ :: _, _ :: _, 0, h => h.2
  | _ :: _, _ :: _, _ + 1, h => ⟨h.1, Chs.erase h.2⟩
  | [], [], _, _ => trivial
  | [], _ :: _, _, h => h.elim
  | _ :: _, [], _, h => h.elim

structure Ghost where
  S : Nat → Prop
  C : List Chunk
  G : List (Value × D)

/-- Where data may lie that nobody turns. -/
def Sd (Y : Ghost) (h : List (Nat × Obj)) (fps : List (List Nat)) : Nat → Prop := fun b => Y.S b ∧ b ∉ h.map (·.1) ∧ b ∉ fps.flatten

structure GhF (Y : Ghost) (h r : List (Nat × Obj)) (F : List (List Nat × World)) (w : World) (fps : List (List Nat)) : Prop where
  chs : Chs w (Sd Y h fps) Y.C fps
  nodup : fps.flatten.Nodup
  disj : ∀ b ∈ fps.flatten, b ∉ h.map (·.1)
  apart : ∀ x ∈ r, x.1 ∉ fps.flatten
  may : ∀ f ∈ F, ∀ b ∈ fps.flatten, b ∈ f.1 ∨ f.2.heap.size ≤ b
  lt : ∀ b ∈ fps.flatten, b < w.heap.size
  own : ∀ x ∈ h, Y.S x.1
  hid : ∀ b ∈ fps.flatten, Y.S b
  top : ∀ b, w.heap.size ≤ b → Y.S b
  g : ∀ x ∈ Y.G, Rep w (Sd Y h fps) x.1 x.2

theorem Dd.old {h h' : List (Nat × Obj)} {w w' : World} (d : Dd h h' w w') {x : Nat × Obj} (hx : x ∈ h') : x.1 ∈ h.map (·.1) ∨ w.heap.size ≤ x.1 := by
  obtain ⟨i, hi⟩ := List.getElem?_of_mem hx
  rcases Nat.lt_or_ge i h.length with hl | hl
  · have := d.ids i hl
    rw [hi] at this
    cases hh : h[i]? with
    | none => rw [hh] at this; cases this
    | some y =>
      rw [hh] at this
      simp only [Option.map_some, Option.some.injEq] at this
      rw [this]
      exact .inl (List.mem_map.2 ⟨y, List.mem_of_getElem? hh, rfl⟩)
  · exact .inr (d.fresh i hl x hi)

theorem GhF.go {Y : Ghost} {h h' r : List (Nat × Obj)} {F : List (List Nat × World)} {w w' : World} {fps : List (List Nat)} (H : GhF Y h r F w fps) (d : Dd h h' w w') : GhF Y h' r F w' fps := by
  have hS : ∀ b, Sd Y h fps b → b < w.heap.size → Sd Y h' fps b ∧ w'.heap[b]? = w.heap[b]? := fun b hb hlt => by
    refine ⟨⟨hb.1, fun hm => ?_, hb.2.2⟩, d.block b hlt hb.2.1⟩
    obtain ⟨x, hx, rfl⟩ := List.mem_map.1 hm
    rcases d.old hx with h1 | h1
    · exact hb.2.1 h1
    · omega
  refine ⟨H.chs.mono (fun b hb => d.block b (H.lt b hb) (H.disj b hb)) hS, H.nodup, fun b hb hm => ?_, H.apart, H.may, fun b hb => Nat.lt_of_lt_of_le (H.lt b hb) d.size, fun x hx => ?_, H.hid, fun b hb => H.top b (Nat.le_trans d.size hb), fun x hx => (H.g x hx).mono hS⟩
  · obtain ⟨x, hx, rfl⟩ := List.mem_map.1 hm
    rcases d.old hx with h1 | h1
    · exact H.disj _ hb h1
    · have := H.lt _ hb
      omega
  · rcases d.old hx with h1 | h1
    · obtain ⟨y, hy, he⟩ := List.mem_map.1 h1
      rw [← he]
      exact H.own y hy
    · exact H.top _ h1

/-- The state: the frame, the blocks owned, the blocks only read, what earlier worlds hand on, the ghosts. -/
structure StF (n : Nat) [Dfr n] (E : Env) (h r : List (Nat × Obj)) (F : List (List Nat × World)) (Y : Ghost) (a : Act) (w : World) (fps : List (List Nat)) : Prop where
  ag : Ag n E a
  own : Own h r w
  fr : ∀ f ∈ F, Fr f.1 f.2 w
  may : ∀ f ∈ F, ∀ x ∈ h, x.1 ∈ f.1 ∨ f.2.heap.size ≤ x.1
  gh : GhF Y h r F w fps
def St (n : Nat) [Dfr n] (E : Env) (h r : List (Nat × Obj)) (F : List (List Nat × World)) (Y : Ghost) (a : Act) (w : World) : Prop := ∃ fps, StF n E h r F Y a w fps

theorem StF.go {n : Nat} [Dfr n] {E E' : Env} {h h' r : List (Nat × Obj)} {F : List (List Nat × World)} {Y : Ghost} {a a' : Act} {w w' : World} {fps : List (List Nat)} (H : StF n E h r F Y a w fps) (hA : Ag n E' a') (hO : Own h' r w') (d : Dd h h' w w') : StF n E' h' r F Y a' w' fps := by
  refine ⟨hA, hO, fun f hf => ?_, fun f hf x hx => ?_, H.gh.go d⟩
  · have hfr := H.fr f hf
    refine ⟨d.os.trans hfr.os, d.tape.trans hfr.tape, d.output.trans hfr.output, Nat.le_trans hfr.size d.size, fun b hb hn => ?_, Nat.le_trans hfr.drawn d.drawn⟩
    refine (d.block b (Nat.lt_of_lt_of_le hb hfr.size) fun hm => ?_).trans (hfr.block b hb hn)
    obtain ⟨x, hx, rfl⟩ := List.mem_map.1 hm
    rcases H.may f hf x hx with h1 | h1
    · exact hn h1
    · omega
  · rcases d.old hx with h1 | h1
    · obtain ⟨y, hy, he⟩ := List.mem_map.1 h1
      rw [← he]
      exact H.may f hf y hy
    · exact .inr (Nat.le_trans (H.fr f hf).size h1)
theorem StF.st {n : Nat} [Dfr n] {E : Env} {h r : List (Nat × Obj)} {F : List (List Nat × World)} {Y : Ghost} {a : Act} {w : World} {fps : List (List Nat)} (H : StF n E h r F Y a w fps) : St n E h r F Y a w := ⟨fps, H⟩
section stl
variable {n : Nat} [Dfr n] {E : Env} {h r : List (Nat × Obj)} {F : List (List Nat × World)} {Y : Ghost} {a : Act} {w : World} (s : St n E h r F Y a w)
include s
theorem St.ag : Ag n E a := s.choose_spec.ag
theorem St.own : Own h r w := s.choose_spec.own
theorem St.fr : ∀ f ∈ F, Fr f.1 f.2 w := s.choose_spec.fr
theorem St.may : ∀ f ∈ F, ∀ x ∈ h, x.1 ∈ f.1 ∨ f.2.heap.size ≤ x.1 := s.choose_spec.may
theorem St.at (i : Nat) {b : Nat} {o : Obj} (hi : h[i]? = some (b, o)) : w.heap[b]? = some o := s.own.own _ (List.mem_of_getElem? hi)
end stl

def J (P : Program) (f : Func) [Pan f] (R : Act → World → Prop) (n : Nat) [Dfr n] (k : List Itm) (E : Env) (h r : List (Nat × Obj)) (F : List (List Nat × World)) (Y : Ghost) : Prop :=
  ∀ a w, St n E h r F Y a w → wpK P f R k .normal a w

/-- The rest of a region. -/
def JR (P : Program) (f : Func) [Pan f] (R : Act → World → Prop) (n : Nat) [Dfr n] (ops : Array Oper) (L0 : Nat) (ck : Bool) (plan : List (Nat × Bool)) (Wp : List (Nat × List Nat)) (k : List Itm) (E : Env) (h r : List (Nat × Obj)) (F : List (List Nat × World)) (Y : Ghost) : Prop :=
  ∀ B Hd fps a w, StF n E h r F Y a w fps → (∀ b ∈ fps.flatten, b ∈ Hd ∨ B ≤ b) → RI Hd B L0 h r w → New B L0 h → okWp L0 Wp = true → PW P ops (wpK P f R k) B ck plan (idsW Hd h Wp) a w

theorem least_ex {p : Nat → Prop} (h : ∃ m, p m) : ∃ m, p m ∧ ∀ k, p k → m ≤ k := by
  obtain ⟨m, hm⟩ := h
  induction m using Nat.strongRecOn with
  | _ m ih =>
    by_cases hk : ∃ k, k < m ∧ p k
    · obtain ⟨k, hlt, hp⟩ := hk
      exact ih k hlt hp
    · exact ⟨m, hm, fun k hp => Nat.le_of_not_lt fun hlt => hk ⟨k, hlt, hp⟩⟩
noncomputable def least {p : Nat → Prop} (h : ∃ m, p m) : Nat := (least_ex h).choose
theorem least_spec {p : Nat → Prop} (h : ∃ m, p m) : p (least h) := (least_ex h).choose_spec.1
theorem least_le {p : Nat → Prop} (h : ∃ m, p m) {k : Nat} (hk : p k) : least h ≤ k := (least_ex h).choose_spec.2 k hk

section rules
variable {P : Program} {f : Func} [Pan f] {R : Act → World → Prop} {n : Nat} [Dfr n] {k : List Itm} {E E' : Env} {h h' r : List (Nat × Obj)} {F : List (List Nat × World)} {Y : Ghost}

theorem J_seq {x y : Sk} (H : J P f R n (.c x :: .c y :: k) E h r F Y) : J P f R n (.c (.seq x y) :: k) E h r F Y := fun a w hs => by
  have := H a w hs
  simp only [wpK, Sk.code] at this ⊢
  refine wp_seq (wp_mono this fun e a w hq => ?_)
  cases e <;> exact hq
theorem J_skip (H : J P f R n k E h r F Y) : J P f R n (.c .skip :: k) E h r F Y := fun a w hs => wp_skip (H a w hs)
theorem J_block {id : Nat} {b : Sk} (H : J P f R n (.c b :: .eb id :: k) E h r F Y) : J P f R n (.c (.block id b) :: k) E h r F Y := fun a w hs => by
  have := H a w hs
  simp only [wpK, Sk.code] at this ⊢
  refine wp_block (wp_mono this fun e a w hq => ?_)
  cases e <;> exact hq
theorem J_eb {id : Nat} (H : J P f R n k E h r F Y) : J P f R n (.eb id :: k) E h r F Y := fun a w hs => H a w hs
theorem J_exit {id : Nat} {k' : List Itm} (hk : popTo id k = some k') (H : J P f R n k' E h r F Y) : J P f R n (.c (.exit id) :: k) E h r F Y := fun a w hs =>
  wp_exit (wpK_exit k k' a w hk (H a w hs))
theorem J_ret (H : ∀ a w, St n E h r F Y a w → R a w) : J P f R n (.c .ret :: k) E h r F Y := fun a w hs => wp_ret (wpK_ret k a w (H a w hs))
theorem J_nil (H : ∀ a w, St n E h r F Y a w → R a w) : J P f R n [] E h r F Y := fun a w hs => H a w hs
/-- The frame's list, written otherwise (shorter). -/
theorem J_env (hs : ∀ t ev, E'.lookup t = some ev → E.lookup t = some ev) (H : J P f R n k E' h r F Y) : J P f R n k E h r F Y := fun a w s =>
  (fun ⟨fps, hf⟩ => H a w ⟨fps, hf.ag.sub hs, hf.own, hf.fr, hf.may, hf.gh⟩) s
theorem J_keep (ts : List Nat) (H : J P f R n k (keepE E ts) h r F Y) : J P f R n k E h r F Y := J_env (keepE_sub E ts) H

theorem J_cond {c : Operand} {x y : Sk} {t : Bool} (hc : opsOk E none [c] = some []) (hv : rho E c = .bool t) (ht : t = true → J P f R n (.c x :: k) E h r F Y) (hf : t = false → J P f R n (.c y :: k) E h r F Y) :
    J P f R n (.c (.cond c x y) :: k) E h r F Y := fun a w s => by
  have he : a.eval c = .bool t := (opsOk_sound s.ag (fun c w h => by cases h) [c] [] hc trivial c (List.mem_cons_self ..)).trans hv
  simp only [wpK, Sk.code]
  exact wp_cond_split he (fun h => by have := ht h a w s; simpa only [wpK] using this) (fun h => by have := hf h a w s; simpa only [wpK] using this)
theorem J_cond_t {c : Operand} {x y : Sk} (hc : opsOk E none [c] = some []) (hv : rho E c = .bool true) (ht : J P f R n (.c x :: k) E h r F Y) : J P f R n (.c (.cond c x y) :: k) E h r F Y :=
  J_cond hc hv (fun _ => ht) fun h => by cases h
theorem J_cond_f {c : Operand} {x y : Sk} (hc : opsOk E none [c] = some []) (hv : rho E c = .bool false) (ht : J P f R n (.c y :: k) E h r F Y) : J P f R n (.c (.cond c x y) :: k) E h r F Y :=
  J_cond hc hv (fun h => by cases h) fun _ => ht

theorem J_loop {b : Sk} (I : Nat → Act → World → Prop) (h0 : ∀ a w, St n E h r F Y a w → ∃ m, I m a w)
    (round : ∀ m a w, I m a w → wpK P f R (.c b :: .back I m :: k) .normal a w) : J P f R n (.c (.loop b) :: k) E h r F Y := fun a w s => by
  classical
  simp only [wpK, Sk.code]
  refine wp_loop (fun a w => ∃ m, I m a w) (fun a w => if h : ∃ m, I m a w then least h else 0) (h0 a w s) fun a w hI => ?_
  have hr := round (least hI) a w (least_spec hI)
  simp only [wpK] at hr
  refine wp_mono hr fun e a' w' hq => ?_
  cases e with
  | normal =>
    obtain ⟨m', hlt, hI'⟩ := hq
    refine ⟨⟨m', hI'⟩, ?_⟩
    have h1 : ∃ m, I m a' w' := ⟨m', hI'⟩
    simp only [dif_pos hI, dif_pos h1]
    exact Nat.lt_of_le_of_lt (least_le h1 hI') hlt
  | _ => exact hq
end rules
end Go.Sx
