/- The engine of our walks, part 7: deep data that nobody turns. -/
import Derived.Test.YtgelnbgjabpdbaaDoorSx6
namespace Go.Sx
open Go

/-- A datum: one plain cell; or a slice of elements of k cells each. -/
inductive D where
  | v (x : Value)
  | sl (k : Nat) (rows : List (List D))

/-- Value x reads in w as the datum; the blocks that it leads to are of S. -/
inductive Rep (w : World) (S : Nat → Prop) : Value → D → Prop
  | v {x : Value} (h : x.oneCell' = true) : Rep w S x (.v x)
  | nil {a : Option Addr} {c k : Nat} : Rep w S (.slice a 0 c) (.sl k [])
  | sl {b off cap k : Nat} {cs : Array Value} {e : TypeId} {fz : Nat × Nat} {rows : List (List D)} (u : Nat → Nat → Value) (hb : w.heap[b]? = some (.cells cs e fz)) (hS : S b) (hc : rows.length ≤ cap) (hk : 0 < k)
      (hl : ∀ row ∈ rows, row.length = k) (hcell : ∀ (i j : Nat), i < rows.length → j < k → cs[off + (i * k + j)]? = some (u i j))
      (hrep : ∀ (i j : Nat) (row : List D) (d : D), rows[i]? = some row → row[j]? = some d → Rep w S (u i j) d) : Rep w S (.slice (some ⟨b, off, none⟩) rows.length cap) (.sl k rows)

theorem Rep.one {w : World} {S : Nat → Prop} {x : Value} {d : D} (h : Rep w S x d) : x.oneCell' = true := by
  cases h with
  | v h => exact h
  | nil => rfl
  | sl => rfl
theorem Rep.plain {w : World} {S : Nat → Prop} {x y : Value} (h : Rep w S x (.v y)) : x = y := by cases h; rfl

theorem Rep.mono {w w' : World} {S S' : Nat → Prop} {x : Value} {d : D} (h : Rep w S x d) (hS : ∀ b, S b → b < w.heap.size → S' b ∧ w'.heap[b]? = w.heap[b]?) : Rep w' S' x d := by
  induction h with
  | v h => exact .v h
  | nil => exact .nil
  | sl u hb hs hc hk hl hcell _ ih =>
    have hlt := (Array.getElem?_eq_some_iff.1 hb).1
    exact .sl u ((hS _ hs hlt).2.trans hb) (hS _ hs hlt).1 hc hk hl hcell ih

/-- The form of a slice's value. -/
theorem Rep.form {w : World} {S : Nat → Prop} {x : Value} {k : Nat} {rows : List (List D)} (h : Rep w S x (.sl k rows)) : ∃ a c, x = .slice a rows.length c ∧ rows.length ≤ c + rows.length := by
  cases h with
  | nil => exact ⟨_, _, rfl, by omega⟩
  | sl => exact ⟨_, _, rfl, by omega⟩

/-- A slice that is not empty: its cells. -/
theorem Rep.cells {w : World} {S : Nat → Prop} {x : Value} {k : Nat} {rows : List (List D)} (h : Rep w S x (.sl k rows)) (hne : rows ≠ []) :
    ∃ b off cap cs e fz, x = .slice (some ⟨b, off, none⟩) rows.length cap ∧ w.heap[b]? = some (.cells cs e fz) ∧ S b ∧ rows.length ≤ cap ∧ 0 < k ∧ (∀ row ∈ rows, row.length = k) ∧
      ∃ news : List Value, news.length = rows.length * k ∧ (∀ (j : Nat) u, news[j]? = some u → cs[off + j]? = some u) ∧ (∀ u ∈ news, u.oneCell' = true) ∧
        ∀ (i j : Nat) (row : List D) (d : D), rows[i]? = some row → row[j]? = some d → ∃ u, news[i * k + j]? = some u ∧ Rep w S u d := by
  cases h with
  | nil => exact absurd rfl hne
  | sl u hb hS hc hk hl hcell hrep =>
    rename_i b off cap cs e fz
    refine ⟨b, off, cap, cs, e, fz, rfl, hb, hS, hc, hk, hl, (List.range (rows.length * k)).map (fun q => u (q / k) (q % k)), by simp, ?_, ?_, ?_⟩
    · intro j x hx
      rw [List.getElem?_map] at hx
      obtain ⟨q, hq, rfl⟩ := Option.map_eq_some_iff.1 hx
      have hlt : j < rows.length * k := by simpa using (List.getElem?_eq_some_iff.1 hq).1
      have hqj : q = j := by rw [List.getElem?_range hlt] at hq; exact (Option.some.inj hq).symm
      subst hqj
      have h1 : q / k < rows.length := Nat.div_lt_of_lt_mul (by rw [Nat.mul_comm]; exact hlt)
      have h2 := hcell (q / k) (q % k) h1 (Nat.mod_lt _ hk)
      rwa [Nat.mul_comm, Nat.div_add_mod] at h2
    · intro x hx
      obtain ⟨q, hq, rfl⟩ := List.mem_map.1 hx
      have hlt := List.mem_range.1 hq
      have h1 : q / k < rows.length := Nat.div_lt_of_lt_mul (by rw [Nat.mul_comm]; exact hlt)
      have hrow : (rows[q / k]'h1).length = k := hl _ (List.getElem_mem h1)
      have h2 : q % k < (rows[q / k]'h1).length := by rw [hrow]; exact Nat.mod_lt _ hk
      exact (hrep (q / k) (q % k) _ _ (List.getElem?_eq_getElem h1) (List.getElem?_eq_getElem h2)).one
    · intro i j row d hi hj
      have hil := (List.getElem?_eq_some_iff.1 hi).1
      have hjl : j < k := by
        rw [← hl row (List.mem_of_getElem? hi)]
        exact (List.getElem?_eq_some_iff.1 hj).1
      refine ⟨u i j, ?_, hrep i j row d hi hj⟩
      have hlt : i * k + j < rows.length * k := by
        calc i * k + j < i * k + k := by omega
          _ = (i + 1) * k := by rw [Nat.add_mul, Nat.one_mul]
          _ ≤ rows.length * k := Nat.mul_le_mul_right k hil
      rw [List.getElem?_map, List.getElem?_range hlt]
      have h1 : (i * k + j) / k = i := by
        rw [Nat.mul_comm, Nat.mul_add_div hk, Nat.div_eq_of_lt hjl, Nat.add_zero]
      have h2 : (i * k + j) % k = j := by
        rw [Nat.mul_comm, Nat.mul_add_mod, Nat.mod_eq_of_lt hjl]
      simp [h1, h2]

/-- A row read as a datum. -/
theorem Rep.of_row {w : World} {S : Nat → Prop} {g cap : Nat} {cur : Array Value} {e : TypeId} {fz : Nat × Nat} {k : Nat} {xs : List Value} {rows : List (List D)} (hg : w.heap[g]? = some (.cells cur e fz)) (hS : S g) (hr : Row cur cap rows.length k xs) (hk : 0 < k)
    (hl : ∀ row ∈ rows, row.length = k) (hrep : ∀ (i j : Nat) (row : List D) (d : D), rows[i]? = some row → row[j]? = some d → ∃ u, xs[i * k + j]? = some u ∧ Rep w S u d) : Rep w S (.slice (some ⟨g, 0, none⟩) rows.length cap) (.sl k rows) := by
  refine .sl (fun i j => xs.getD (i * k + j) undef) hg hS hr.le hk hl (fun i j hi hj => ?_) (fun i j row d h1 h2 => ?_)
  · have hlt : i * k + j < rows.length * k := by
      calc i * k + j < i * k + k := by omega
        _ = (i + 1) * k := by rw [Nat.add_mul, Nat.one_mul]
        _ ≤ rows.length * k := Nat.mul_le_mul_right k hi
    rw [Nat.zero_add, hr.at hlt]
    have : i * k + j < xs.length := by rw [hr.len]; exact hlt
    simp [List.getD_eq_getElem?_getD, List.getElem?_eq_getElem this]
  · obtain ⟨u, hu, hru⟩ := hrep i j row d h1 h2
    simpa [List.getD_eq_getElem?_getD, hu] using hru

theorem Rep.fr {w w' : World} {M : List Nat} {S : Nat → Prop} {x : Value} {d : D} (h : Rep w S x d) (hf : Fr M w w') (hS : ∀ b ∈ M, ¬ S b) : Rep w' S x d :=
  h.mono fun b hb hlt => ⟨hb, hf.block b hlt fun hm => hS b hm hb⟩
theorem Rep.wide {w : World} {S S' : Nat → Prop} {x : Value} {d : D} (h : Rep w S x d) (hS : ∀ b, S b → b < w.heap.size → S' b) : Rep w S' x d :=
  h.mono fun b hb hlt => ⟨hS b hb hlt, rfl⟩

/-! Lists of numbers; dots, ops, commits, messages. -/
abbrev dI (n : Int) : D := .v (.int .i64 n)
def dInts (l : List Int) : D := .sl 1 (l.map fun t => [dI t])
structure GDot where
  place : Int
  time : Int
  at_ : Int
  deriving DecidableEq
def GDot.ds (d : GDot) : List D := [dI d.place, dI d.time, dI d.at_]
def dDots (l : List GDot) : D := .sl 3 (l.map GDot.ds)
structure GOp where
  at_ : Int
  key : ByteArray
  kind : Int
  text : ByteArray
  n : Int
  remove : Bool
  dots : List GDot
def GOp.ds (o : GOp) : List D := [dI o.at_, .v (.string o.key), dI o.kind, .v (.string o.text), dI o.n, .v (.bool o.remove), dDots o.dots]
def dOps (l : List GOp) : D := .sl 7 (l.map GOp.ds)
structure GCommit where
  when_ : List Int
  place : Int
  ops : List GOp
def GCommit.ds (c : GCommit) : List D := [dInts c.when_, dI c.place, dOps c.ops]
structure GMsg where
  src : Int
  dst : Int
  shard : Int
  seq : Int
  time : Int
  beat : Bool
  c : GCommit
def GMsg.ds (m : GMsg) : List D := [dI m.src, dI m.dst, dI m.shard, dI m.seq, dI m.time, .v (.bool m.beat), dInts m.c.when_, dI m.c.place, dOps m.c.ops]

/-- The cells of a commit, of a message. -/
structure RepC (w : World) (S : Nat → Prop) (c : GCommit) (wv ov : Value) : Prop where
  when_ : Rep w S wv (dInts c.when_)
  ops : Rep w S ov (dOps c.ops)
theorem RepC.mono {w w' : World} {S S' : Nat → Prop} {c : GCommit} {wv ov : Value} (h : RepC w S c wv ov) (hS : ∀ b, S b → b < w.heap.size → S' b ∧ w'.heap[b]? = w.heap[b]?) : RepC w' S' c wv ov := ⟨h.when_.mono hS, h.ops.mono hS⟩
theorem RepC.fr {w w' : World} {M : List Nat} {S : Nat → Prop} {c : GCommit} {wv ov : Value} (h : RepC w S c wv ov) (hf : Fr M w w') (hS : ∀ b ∈ M, ¬ S b) : RepC w' S c wv ov := ⟨h.when_.fr hf hS, h.ops.fr hf hS⟩
def cVals (c : GCommit) (wv ov : Value) : Array Value := #[wv, .int .i64 c.place, ov]
def mVals (m : GMsg) (wv ov : Value) : Array Value := #[.int .i64 m.src, .int .i64 m.dst, .int .i64 m.shard, .int .i64 m.seq, .int .i64 m.time, .bool m.beat, wv, .int .i64 m.c.place, ov]

theorem own_nil {r : List (Nat × Obj)} {w : World} (h : ∀ x ∈ r, w.heap[x.1]? = some x.2) : Own [] r w := ⟨by simp [Hp], by simp, h, by simp⟩

/-- Behind a call that only makes memory. -/
theorem did_pure {n : Nat} {E : Env} {h r : List (Nat × Obj)} {F : List (List Nat × World)} {a : Act} {w w' : World} (s : St n E h r F a w) (hf : Fr [] w w') : Did h h [] w w' ∧ Own h r w' := by
  have hall : ∀ b, b < w.heap.size → w'.heap[b]? = w.heap[b]? := fun b hb => hf.block b hb (by simp)
  refine ⟨⟨hf.os, hf.tape, hf.output, hf.size, fun b hb _ => hall b hb, fun _ _ => rfl, Nat.le_refl _, fun i hi x hx => by rw [List.getElem?_eq_none hi] at hx; cases hx⟩, ?_⟩
  exact ⟨fun x hx => (hall _ (s.own.own.lt hx)).trans (s.own.own x hx), s.own.nodup, fun x hx => (hall _ (s.own.ro.lt hx)).trans (s.own.ro x hx), s.own.apart⟩
/-- Behind a call that hands a new block over. -/
theorem did_new1 {n : Nat} {E : Env} {h r : List (Nat × Obj)} {F : List (List Nat × World)} {a : Act} {w w' : World} (s : St n E h r F a w) (hf : Fr [] w w') {g : Nat} {o : Obj} (hg : w'.heap[g]? = some o) (hge : w.heap.size ≤ g) :
    Did h (h ++ [(g, o)]) [] w w' ∧ Own (h ++ [(g, o)]) r w' := by
  have hall : ∀ b, b < w.heap.size → w'.heap[b]? = w.heap[b]? := fun b hb => hf.block b hb (by simp)
  refine ⟨⟨hf.os, hf.tape, hf.output, hf.size, fun b hb _ => hall b hb, fun i hi => by rw [List.getElem?_append_left hi], by simp, fun i hi x hx => ?_⟩, ?_⟩
  · rw [List.getElem?_append_right hi] at hx
    have := List.mem_of_getElem? hx
    rw [List.mem_singleton] at this
    rw [this]
    exact hge
  · refine ⟨fun x hx => ?_, ?_, fun x hx => (hall _ (s.own.ro.lt hx)).trans (s.own.ro x hx), fun x hx hm => ?_⟩
    · rcases List.mem_append.1 hx with hx | hx
      · exact (hall _ (s.own.own.lt hx)).trans (s.own.own x hx)
      · rw [List.mem_singleton] at hx; rw [hx]; exact hg
    · rw [List.map_append, List.nodup_append]
      refine ⟨s.own.nodup, by simp, fun x hx y hy => ?_⟩
      simp at hy; subst hy
      obtain ⟨u, hu, rfl⟩ := List.mem_map.1 hx
      have := s.own.own.lt hu
      omega
    · rw [List.map_append] at hm
      rcases List.mem_append.1 hm with hm | hm
      · exact s.own.apart x hx hm
      · simp at hm
        have := s.own.ro.lt hx
        omega
/-- The world at hand, as one that hands its blocks on. -/
theorem St.ref {n : Nat} {E : Env} {h r : List (Nat × Obj)} {F : List (List Nat × World)} {a : Act} {w : World} (s : St n E h r F a w) : St n E h r ((h.map (·.1), w) :: F) a w :=
  ⟨s.ag, s.own, fun f hf => by
    rcases List.mem_cons.1 hf with rfl | hf
    · exact Fr.refl _ _
    · exact s.fr f hf, fun f hf x hx => by
    rcases List.mem_cons.1 hf with rfl | hf
    · exact .inl (List.mem_map.2 ⟨x, hx, rfl⟩)
    · exact s.may f hf x hx⟩

/-- What slices.Clone leaves: nothing; or a row of its own, whose cells read as the old ones'. -/
def CloneR (w : World) (S : Nat → Prop) (w' : World) (k e : Nat) (rows : List (List D)) (v' : Value) : Prop :=
  (rows = [] ∧ ∃ a c, v' = .slice a 0 c) ∨
  ∃ g cap cur xs, v' = .slice (some ⟨g, 0, none⟩) rows.length cap ∧ w.heap.size ≤ g ∧ w'.heap[g]? = some (.cells cur e (0, 0)) ∧ Row cur cap rows.length k xs ∧ (∀ u ∈ xs, u.oneCell' = true) ∧
    ∀ (i j : Nat) (row : List D) (d : D), rows[i]? = some row → row[j]? = some d → ∃ u, xs[i * k + j]? = some u ∧ Rep w S u d

/-- Of plain cells the copy reads by itself. -/
theorem CloneR.plain {w w' : World} {S S' : Nat → Prop} {k e : Nat} {rows : List (List D)} {v' : Value} (h : CloneR w S w' k e rows v') (hk : 0 < k) (hl : ∀ row ∈ rows, row.length = k) (hp : ∀ row ∈ rows, ∀ d ∈ row, ∃ x, d = D.v x) (hS : ∀ b, w.heap.size ≤ b → S' b) :
    Rep w' S' v' (.sl k rows) := by
  rcases h with ⟨rfl, a, c, rfl⟩ | ⟨g, cap, cur, xs, rfl, hg, hb, hr, _, hrep⟩
  · exact .nil
  · refine Rep.of_row hb (hS g hg) hr hk hl fun i j row d h1 h2 => ?_
    obtain ⟨u, hu, hru⟩ := hrep i j row d h1 h2
    obtain ⟨x, rfl⟩ := hp row (List.mem_of_getElem? h1) d (List.mem_of_getElem? h2)
    obtain rfl := hru.plain
    exact ⟨u, hu, .v hru.one⟩
end Go.Sx
