/- The engine of our walks, part 2: an operation run over the blocks that are known, by hints. -/
import Derived.Test.YtahbmdchcbnolaaDoorTx1
namespace Go.Sx
open Go

inductive Hn where
  | o (i : Nat) (v : Option Value)
  | r (i : Nat) (v : Option Value)
def Hn.get (h r : List (Nat × Obj)) : Hn → Option (Nat × Obj)
  | .o i _ => h[i]?
  | .r i _ => r[i]?
def Hn.val : Hn → Option Value
  | .o _ v => v
  | .r _ v => v

/-- What a step asks: that two numbers are one, that two Bools are one, that a spot is none; or a statement. -/
inductive Ob where
  | nn (a b : Nat)
  | bb (x y : Bool)
  | ss (x : Option Nat)
  | pp (q : Prop)
def Ob.ok : Ob → Prop
  | .nn a b => a = b
  | .bb x y => x = y
  | .ss x => x = none
  | .pp q => q
def Ob.under (c w : Bool) : Ob → Ob
  | .pp q => .pp (c = w → q)
  | o => o
theorem Ob.under_ok {c w : Bool} (h : c = w) : ∀ o : Ob, (o.under c w).ok → o.ok
  | .nn _ _, h' => h'
  | .bb _ _, h' => h'
  | .ss _, h' => h'
  | .pp _, h' => h' h
/-- All of a list. -/
def All : List Ob → Prop
  | [] => True
  | p :: l => p.ok ∧ All l
theorem All_append {p q : List Ob} (h : All (p ++ q)) : All p ∧ All q := by
  induction p with
  | nil => exact ⟨trivial, h⟩
  | cons x p ih => exact ⟨⟨h.1, (ih h.2).1⟩, (ih h.2).2⟩
theorem All_under {c w : Bool} (h : c = w) : ∀ {p : List Ob}, All (p.map (Ob.under c w)) → All p
  | [], _ => trivial
  | o :: _, h' => ⟨o.under_ok h h'.1, All_under h h'.2⟩
/-- Left sides and right sides, to be compared by the kernel. -/
def obL : List Ob → List Nat × List Bool × List (Option Nat)
  | [] => ([], [], [])
  | .nn a _ :: l => (a :: (obL l).1, (obL l).2)
  | .bb x _ :: l => ((obL l).1, x :: (obL l).2.1, (obL l).2.2)
  | .ss x :: l => ((obL l).1, (obL l).2.1, x :: (obL l).2.2)
  | .pp _ :: l => obL l
def obR : List Ob → List Nat × List Bool × List (Option Nat)
  | [] => ([], [], [])
  | .nn _ b :: l => (b :: (obR l).1, (obR l).2)
  | .bb _ y :: l => ((obR l).1, y :: (obR l).2.1, (obR l).2.2)
  | .ss _ :: l => ((obR l).1, (obR l).2.1, none :: (obR l).2.2)
  | .pp _ :: l => obR l
def obP : List Ob → List Prop
  | [] => []
  | .pp q :: l => q :: obP l
  | _ :: l => obP l
def AllP : List Prop → Prop
  | [] => True
  | p :: l => p ∧ AllP l
theorem All_of : ∀ (l : List Ob), obL l = obR l → AllP (obP l) → All l
  | [], _, _ => trivial
  | .nn a b :: l, h, hp => by
    simp only [obL, obR, Prod.mk.injEq, List.cons.injEq] at h
    exact ⟨h.1.1, All_of l (Prod.ext h.1.2 h.2) hp⟩
  | .bb x y :: l, h, hp => by
    simp only [obL, obR, Prod.mk.injEq, List.cons.injEq] at h
    exact ⟨h.2.1.1, All_of l (Prod.ext h.1 (Prod.ext h.2.1.2 h.2.2)) hp⟩
  | .ss x :: l, h, hp => by
    simp only [obL, obR, Prod.mk.injEq, List.cons.injEq] at h
    exact ⟨h.2.2.1, All_of l (Prod.ext h.1 (Prod.ext h.2.1 h.2.2.2)) hp⟩
  | .pp q :: l, h, hp => ⟨hp.1, All_of l h hp.2⟩

/-- Reading alone. -/
def exr (P : Program) (h r : List (Nat × Obj)) {α : Type} : Sem α → List Hn → Option (α × List Ob)
  | .pure a, _ => some (a, [])
  | .load _ a k, hn :: hs => match hn.get h r with
    | some (b, .cells cs _ _) => match hn.val with
      | none => match a.spot, cs[a.off]? with
        | none, some v => (exr P h r (k v) hs).map fun y => (y.1, .nn a.block b :: y.2)
        | _, _ => none
      | some v => (exr P h r (k v) hs).map fun y => (y.1, .nn a.block b :: .ss a.spot :: .pp (cs[a.off]? = some v) :: y.2)
    | _ => none
  | .shape rr k, hn :: hs => match hn.get h r with
    | some (b, .cells cs e _) => (exr P h r (k (some (e, cs.size))) hs).map fun y => (y.1, .nn rr b :: y.2)
    | _ => none
  | .frozen a k, hn :: hs => match hn.get h r with
    | some (b, .cells _ _ fz) => match fz with
      | (0, 0) => (exr P h r (k false) hs).map fun y => (y.1, .nn a.block b :: y.2)
      | _ => none
    | _ => none
  | .getObj rr k, hn :: hs => match hn.get h r with
    | some (_, .cells ..) => none
    | some (b, o) => (exr P h r (k o) hs).map fun y => (y.1, .nn rr b :: y.2)
    | none => none
  | .program k, hs => exr P h r (k P) hs
  | .mark _ k, hs => exr P h r k hs
  | .choose q k, hs => if q.forced then exr P h r (k 0) hs else none
  | _, _ => none

/-- The blocks that the hints name. -/
def used (h r : List (Nat × Obj)) (hs : List Hn) : List (Nat × Obj) := hs.filterMap (·.get h r)

theorem used_cons {h r : List (Nat × Obj)} {hn : Hn} {hs : List Hn} {x : Nat × Obj} (hg : hn.get h r = some x) : used h r (hn :: hs) = x :: used h r hs := by
  simp [used, hg]

theorem cell_of {w : World} {a : Addr} {b : Nat} {cs : Array Value} {e : TypeId} {fz : Nat × Nat} {v : Value} (hb : a.block = b) (hw : w.heap[b]? = some (.cells cs e fz)) (hs : a.spot = none) (hc : cs[a.off]? = some v) :
    w.cell? a = some v := by
  unfold World.cell?
  rw [hb, hw]
  simp [hs, hc]

theorem exr_sound {P : Program} {h r : List (Nat × Obj)} {α : Type} (s : Sem α) : ∀ (hs : List Hn) (x : α) (p : List Ob), exr P h r s hs = some (x, p) → All p →
    ∀ w, (∀ y ∈ used h r hs, w.heap[y.1]? = some y.2) → s.run P w = .ok x w := by
  induction s with
  | pure a => intro hs x p he _ w _; simp only [exr, Option.some.injEq, Prod.mk.injEq] at he; simp [Sem.run, he.1]
  | load m a k ih =>
    intro hs x p he hp w hw
    cases hs with
    | nil => simp [exr] at he
    | cons hn hs =>
      simp only [exr] at he
      split at he
      · rename_i b cs e fz hg
        rw [used_cons hg] at hw
        have hb := hw _ (List.mem_cons_self ..)
        split at he
        · split at he
          · rename_i v hsp hcs
            obtain ⟨y, hy, hxy⟩ := Option.map_eq_some_iff.1 he
            simp only [Prod.mk.injEq] at hxy
            obtain ⟨rfl, rfl⟩ := hxy
            have hc := cell_of hp.1 hb hsp hcs
            simp only [Sem.run, hc]
            exact ih v hs y.1 y.2 hy hp.2 w fun y hy => hw y (List.mem_cons_of_mem _ hy)
          · cases he
        · rename_i v _
          obtain ⟨y, hy, hxy⟩ := Option.map_eq_some_iff.1 he
          simp only [Prod.mk.injEq] at hxy
          obtain ⟨rfl, rfl⟩ := hxy
          obtain ⟨h1, h2, h3, h4⟩ := hp
          have hc := cell_of h1 hb h2 h3
          simp only [Sem.run, hc]
          exact ih v hs y.1 y.2 hy h4 w fun y hy => hw y (List.mem_cons_of_mem _ hy)
      · cases he
  | shape rr k ih =>
    intro hs x p he hp w hw
    cases hs with
    | nil => simp [exr] at he
    | cons hn hs =>
      simp only [exr] at he
      split at he
      · rename_i b cs e fz hg
        rw [used_cons hg] at hw
        have hb := hw _ (List.mem_cons_self ..)
        obtain ⟨y, hy, hxy⟩ := Option.map_eq_some_iff.1 he
        simp only [Prod.mk.injEq] at hxy
        obtain ⟨rfl, rfl⟩ := hxy
        obtain ⟨h0, hp⟩ := hp; obtain rfl : rr = b := h0
        have hsh : w.shape? rr = some (e, cs.size) := by simp [World.shape?, hb]
        simp only [Sem.run, hsh]
        exact ih _ hs y.1 y.2 hy hp w fun y hy => hw y (List.mem_cons_of_mem _ hy)
      · cases he
  | frozen a k ih =>
    intro hs x p he hp w hw
    cases hs with
    | nil => simp [exr] at he
    | cons hn hs =>
      simp only [exr] at he
      split at he
      · rename_i b cs e fz hg
        rw [used_cons hg] at hw
        have hb := hw _ (List.mem_cons_self ..)
        split at he
        · obtain ⟨y, hy, hxy⟩ := Option.map_eq_some_iff.1 he
          simp only [Prod.mk.injEq] at hxy
          obtain ⟨rfl, rfl⟩ := hxy
          obtain ⟨h1, hp⟩ := hp
          simp only [Ob.ok] at h1
          have hsh : w.frozen? a = false := by simp [World.frozen?, h1, hb]
          simp only [Sem.run, hsh]
          exact ih _ hs y.1 y.2 hy hp w fun y hy => hw y (List.mem_cons_of_mem _ hy)
        · cases he
      · cases he
  | getObj rr k ih =>
    intro hs x p he hp w hw
    cases hs with
    | nil => simp [exr] at he
    | cons hn hs =>
      simp only [exr] at he
      split at he
      · cases he
      · rename_i b o hnot hg
        rw [used_cons hg] at hw
        have hb := hw _ (List.mem_cons_self ..)
        obtain ⟨y, hy, hxy⟩ := Option.map_eq_some_iff.1 he
        simp only [Prod.mk.injEq] at hxy
        obtain ⟨rfl, rfl⟩ := hxy
        obtain ⟨h0, hp⟩ := hp; obtain rfl : rr = b := h0
        have hrun : (Sem.getObj rr k).run P w = (k o).run P w := by
          simp only [Sem.run, hb]
        rw [hrun]
        exact ih _ hs y.1 y.2 hy hp w fun y hy => hw y (List.mem_cons_of_mem _ hy)
      · cases he
  | program k ih => intro hs x p he hp w hw; simp only [exr] at he; simp only [Sem.run]; exact ih P hs x p he hp w hw
  | mark m k ih => intro hs x p he hp w hw; simp only [exr] at he; simp only [Sem.run]; exact ih hs x p he hp w hw
  | choose q k ih =>
    intro hs x p he hp w hw
    simp only [exr] at he
    split at he
    · rename_i hq
      simp only [Sem.run, hq, if_true]
      exact ih 0 hs x p he hp w hw
    · cases he
  | store m a v k ih => intro hs x p he; simp [exr] at he
  | new o k ih => intro hs x p he; simp [exr] at he
  | freeze a n k ih => intro hs x p he; simp [exr] at he
  | setObj rr o k ih => intro hs x p he; simp [exr] at he
  | sys c k ih => intro hs x p he; simp [exr] at he
  | halt hh => intro hs x p he; simp [exr] at he

/-! Writing, too. -/

structure XS where
  h : List (Nat × Obj)
  k : Nat
  wr : List Nat

def ex (P : Program) (nu : Nat → Nat) (r : List (Nat × Obj)) {α : Type} : Sem α → List Hn → XS → Option (α × XS × List Ob)
  | .pure a, _, x => some (a, x, [])
  | .load _ a k, hn :: hs, x => match hn.get x.h r with
    | some (b, .cells cs _ _) => match hn.val with
      | none => match a.spot, cs[a.off]? with
        | none, some v => (ex P nu r (k v) hs x).map fun y => (y.1, y.2.1, .nn a.block b :: y.2.2)
        | _, _ => none
      | some v => (ex P nu r (k v) hs x).map fun y => (y.1, y.2.1, .nn a.block b :: .ss a.spot :: .pp (cs[a.off]? = some v) :: y.2.2)
    | _ => none
  | .store _ a v k, .o i ov :: hs, x => match x.h[i]? with
    | some (b, .cells cs e fz) => match fz with
      | (0, 0) => match ov with
        | none => if Nat.blt a.off cs.size then (ex P nu r k hs { x with h := x.h.set i (b, .cells (cs.setIfInBounds a.off v) e (0, 0)), wr := i :: x.wr }).map fun y => (y.1, y.2.1, .nn a.block b :: .ss a.spot :: .bb v.oneCell' true :: y.2.2) else none
        | some _ => (ex P nu r k hs { x with h := x.h.set i (b, .cells (cs.setIfInBounds a.off v) e (0, 0)), wr := i :: x.wr }).map fun y => (y.1, y.2.1, .nn a.block b :: .ss a.spot :: .pp (v.oneCell' = true) :: .pp (a.off < cs.size) :: y.2.2)
      | _ => none
    | _ => none
  | .new o k, hs, x => ex P nu r (k (nu x.k)) hs { x with h := x.h ++ [(nu x.k, o)], k := x.k + 1 }
  | .shape rr k, hn :: hs, x => match hn.get x.h r with
    | some (b, .cells cs e _) => (ex P nu r (k (some (e, cs.size))) hs x).map fun y => (y.1, y.2.1, .nn rr b :: y.2.2)
    | _ => none
  | .frozen a k, hn :: hs, x => match hn.get x.h r with
    | some (b, .cells _ _ fz) => match fz with
      | (0, 0) => (ex P nu r (k false) hs x).map fun y => (y.1, y.2.1, .nn a.block b :: y.2.2)
      | _ => none
    | _ => none
  | .getObj rr k, hn :: hs, x => match hn.get x.h r with
    | some (_, .cells ..) => none
    | some (b, o) => (ex P nu r (k o) hs x).map fun y => (y.1, y.2.1, .nn rr b :: y.2.2)
    | none => none
  | .setObj rr o k, .o i _ :: hs, x => match x.h[i]? with
    | some (_, .cells ..) => none
    | some (b, _) => (ex P nu r k hs { x with h := x.h.set i (b, o), wr := i :: x.wr }).map fun y => (y.1, y.2.1, .nn rr b :: y.2.2)
    | none => none
  | .program k, hs, x => ex P nu r (k P) hs x
  | .mark _ k, hs, x => ex P nu r k hs x
  | .choose q k, hs, x => if q.forced then ex P nu r (k 0) hs x else none
  | _, _, _ => none

structure Own (h r : List (Nat × Obj)) (w : World) : Prop where
  own : Hp h w
  nodup : (h.map (·.1)).Nodup
  ro : Hp r w
  apart : ∀ x ∈ r, x.1 ∉ h.map (·.1)

theorem Own.get {h r : List (Nat × Obj)} {w : World} (H : Own h r w) {hn : Hn} {x : Nat × Obj} (hg : hn.get h r = some x) : w.heap[x.1]? = some x.2 := by
  cases hn with
  | o i v => exact H.own x (List.mem_of_getElem? hg)
  | r i v => exact H.ro x (List.mem_of_getElem? hg)

/-- What a run may have turned: the blocks at the written positions. -/
structure Did (h h' : List (Nat × Obj)) (wr : List Nat) (w w' : World) : Prop where
  os : w'.os = w.os
  tape : w'.tape = w.tape
  output : w'.output = w.output
  size : w.heap.size ≤ w'.heap.size
  block : ∀ b, b < w.heap.size → (∀ i ∈ wr, ∀ o, h[i]? ≠ some (b, o)) → w'.heap[b]? = w.heap[b]?
  ids : ∀ i : Nat, i < h.length → (h'[i]?).map (·.1) = (h[i]?).map (·.1)
  len : h.length ≤ h'.length
  fresh : ∀ i : Nat, h.length ≤ i → ∀ x, h'[i]? = some x → w.heap.size ≤ x.1
  drawn : w.drawn ≤ w'.drawn

theorem Did.refl (h : List (Nat × Obj)) (wr : List Nat) (w : World) : Did h h wr w w :=
  ⟨rfl, rfl, rfl, Nat.le_refl _, fun _ _ _ => rfl, fun _ _ => rfl, Nat.le_refl _, fun i hi x hx => by
    rw [List.getElem?_eq_none hi] at hx; exact (nomatch hx), Nat.le_refl _⟩

theorem Did.trans {h1 h2 h3 : List (Nat × Obj)} {wr : List Nat} {a b c : World} (d : Did h1 h2 wr a b) (e : Did h2 h3 wr b c) : Did h1 h3 wr a c := by
  refine ⟨e.os.trans d.os, e.tape.trans d.tape, e.output.trans d.output, Nat.le_trans d.size e.size, fun x hx hn => ?_, fun i hi => ?_, Nat.le_trans d.len e.len, fun i hi x hx => ?_, Nat.le_trans d.drawn e.drawn⟩
  · refine (e.block x (Nat.lt_of_lt_of_le hx d.size) fun i hi o ho => ?_).trans (d.block x hx hn)
    rcases Nat.lt_or_ge i h1.length with hl | hl
    · have h := d.ids i hl
      rw [ho] at h
      cases h1i : h1[i]? with
      | none => rw [h1i] at h; cases h
      | some y =>
        rw [h1i] at h
        simp only [Option.map_some, Option.some.injEq] at h
        exact hn i hi y.2 (by rw [h1i, h])
    · have := d.fresh i hl _ ho
      simp only at this
      omega
  · rw [e.ids i (Nat.lt_of_lt_of_le hi d.len), d.ids i hi]
  · rcases Nat.lt_or_ge i h2.length with hl | hl
    · have h := e.ids i hl
      rw [hx] at h
      cases h2i : h2[i]? with
      | none => rw [h2i] at h; cases h
      | some y =>
        rw [h2i] at h
        simp only [Option.map_some, Option.some.injEq] at h
        rw [h]
        exact d.fresh i hi y h2i
    · exact Nat.le_trans d.size (e.fresh i hl x hx)

theorem own_set {h r : List (Nat × Obj)} {w : World} (H : Own h r w) {i b : Nat} {o o' : Obj} (hi : h[i]? = some (b, o)) :
    Own (h.set i (b, o')) r { w with heap := w.heap.setIfInBounds b o' } := by
  have hlen : i < h.length := (List.getElem?_eq_some_iff.1 hi).1
  have hmem : (b, o) ∈ h := List.mem_of_getElem? hi
  have hlt := H.own.lt hmem
  have hids : (h.set i (b, o')).map (·.1) = h.map (·.1) := by
    rw [List.map_set]
    apply List.ext_getElem?
    intro j
    rw [List.getElem?_set]
    by_cases hj : i = j
    · subst hj
      have hgi : h[i] = (b, o) := (List.getElem?_eq_some_iff.1 hi).2
      simp [hlen, hgi]
    · simp [hj]
  refine ⟨fun x hx => ?_, by rw [hids]; exact H.nodup, fun x hx => ?_, by rw [hids]; exact H.apart⟩
  · obtain ⟨j, hj⟩ := List.getElem?_of_mem hx
    rw [List.getElem?_set] at hj
    by_cases hij : i = j
    · subst hij
      simp [hlen] at hj
      subst hj
      simp only at hlt
      simp [hlt]
    · rw [if_neg hij] at hj
      have hne : b ≠ x.1 := by
        intro he
        have h1 : (h.map (·.1))[i]? = some b := by simp [hi]
        have h2 : (h.map (·.1))[j]? = some b := by simp [hj, he]
        have := (List.getElem?_inj (by simpa using hlen) H.nodup).1 (h1.trans h2.symm)
        exact hij this
      have := H.own x (List.mem_of_getElem? hj)
      simp [hne, this]
  · have hne : b ≠ x.1 := by
      intro he
      exact H.apart x hx (by rw [← he]; exact List.mem_map.2 ⟨_, hmem, rfl⟩)
    have := H.ro x hx
    simp [hne, this]

theorem own_new {h r : List (Nat × Obj)} {w : World} (H : Own h r w) (o : Obj) :
    Own (h ++ [(w.heap.size, o)]) r { w with heap := w.heap.push o } := by
  refine ⟨fun x hx => ?_, ?_, fun x hx => ?_, fun x hx hm => ?_⟩
  · rcases List.mem_append.1 hx with hx | hx
    · have := H.own.lt hx
      simp [Array.getElem?_push, Nat.ne_of_lt this, H.own x hx]
    · simp at hx; subst hx; simp
  · rw [List.map_append, List.nodup_append]
    refine ⟨H.nodup, by simp, fun x hx y hy => ?_⟩
    simp at hy; subst hy
    obtain ⟨z, hz, rfl⟩ := List.mem_map.1 hx
    exact Nat.ne_of_lt (H.own.lt hz)
  · have := H.ro.lt hx
    simp [Array.getElem?_push, Nat.ne_of_lt this, H.ro x hx]
  · rw [List.map_append] at hm
    rcases List.mem_append.1 hm with hm | hm
    · exact H.apart x hx hm
    · simp at hm
      have := H.ro.lt hx
      omega

theorem did_set {h : List (Nat × Obj)} {w : World} {i b : Nat} {o o' : Obj} {wr : List Nat} (hi : h[i]? = some (b, o)) (hw : i ∈ wr) :
    Did h (h.set i (b, o')) wr w { w with heap := w.heap.setIfInBounds b o' } := by
  have hlen : i < h.length := (List.getElem?_eq_some_iff.1 hi).1
  refine ⟨rfl, rfl, rfl, by simp, fun x hx hn => ?_, fun j hj => ?_, by simp, fun j hj x hx => ?_, Nat.le_refl _⟩
  · have hne : b ≠ x := fun he => hn i hw o (by rw [hi, he])
    simp [hne]
  · rw [List.getElem?_set]
    by_cases hij : i = j
    · subst hij
      have hgi : h[i] = (b, o) := (List.getElem?_eq_some_iff.1 hi).2
      simp [hlen, hgi]
    · simp [hij]
  · rw [List.getElem?_eq_none (by simpa using hj)] at hx; cases hx

theorem did_new {h : List (Nat × Obj)} {w : World} (o : Obj) {wr : List Nat} : Did h (h ++ [(w.heap.size, o)]) wr w { w with heap := w.heap.push o } := by
  refine ⟨rfl, rfl, rfl, by simp, fun x hx _ => by simp [Array.getElem?_push, Nat.ne_of_lt hx], fun j hj => ?_, by simp, fun j hj x hx => ?_, Nat.le_refl _⟩
  · rw [List.getElem?_append_left hj]
  · rw [List.getElem?_append_right hj] at hx
    have := List.mem_of_getElem? hx
    simp at this
    rw [this]
    exact Nat.le_refl _

theorem setCell_eq {w : World} {a : Addr} {b : Nat} {cs : Array Value} {e : TypeId} {v : Value} (hb : a.block = b) (hw : w.heap[b]? = some (.cells cs e (0, 0))) (hs : a.spot = none) :
    w.setCell a v = { w with heap := w.heap.setIfInBounds b (.cells (cs.setIfInBounds a.off v) e (0, 0)) } := by
  unfold World.setCell
  congr 1
  apply Array.ext_getElem?
  intro j
  rw [Array.getElem?_modify, Array.getElem?_setIfInBounds]
  subst hb
  by_cases hj : a.block = j
  · subst hj
    simp only [if_true, hw, Option.map_some]
    have : a.block < w.heap.size := (Array.getElem?_eq_some_iff.1 hw).1
    simp [this, hs]
  · simp [hj]

/-- The new ids are those that the world gives. -/
def Nu (nu : Nat → Nat) (k : Nat) (w : World) : Prop := ∀ j, nu (k + j) = w.heap.size + j
theorem Nu.now {nu : Nat → Nat} {k : Nat} {w : World} (h : Nu nu k w) : nu k = w.heap.size := h 0
theorem Nu.push {nu : Nat → Nat} {k : Nat} {w : World} (h : Nu nu k w) (o : Obj) : Nu nu (k + 1) { w with heap := w.heap.push o } := fun j => by
  have := h (j + 1)
  simp only [Array.size_push]
  rw [show k + 1 + j = k + (j + 1) by omega, this]
  omega

theorem ex_sound {P : Program} {nu : Nat → Nat} {r : List (Nat × Obj)} {α : Type} (s : Sem α) : ∀ (hs : List Hn) (x : XS) (a : α) (x' : XS) (p : List Ob), ex P nu r s hs x = some (a, x', p) → All p →
    ∀ w, Own x.h r w → Nu nu x.k w → (∀ i ∈ x.wr, i ∈ x'.wr) ∧ ∃ w', s.run P w = .ok a w' ∧ Own x'.h r w' ∧ Nu nu x'.k w' ∧ Did x.h x'.h x'.wr w w' := by
  induction s with
  | pure a =>
    intro hs x a' x' p he hp w hw hn
    simp only [ex, Option.some.injEq, Prod.mk.injEq] at he
    obtain ⟨rfl, rfl, rfl⟩ := he
    exact ⟨fun _ h => h, w, rfl, hw, hn, Did.refl _ _ _⟩
  | load m ad k ih =>
    intro hs x a' x' p he hp w hw hn
    cases hs with
    | nil => simp [ex] at he
    | cons hh hs =>
      simp only [ex] at he
      split at he
      · rename_i b cs e fz hg
        have hb := hw.get hg
        split at he
        · split at he
          · rename_i v hsp hcs
            obtain ⟨y, hy, hxy⟩ := Option.map_eq_some_iff.1 he
            simp only [Prod.mk.injEq] at hxy
            obtain ⟨rfl, rfl, rfl⟩ := hxy
            have hc := cell_of hp.1 hb hsp hcs
            simp only [Sem.run, hc]
            exact ih v hs x y.1 y.2.1 y.2.2 hy hp.2 w hw hn
          · cases he
        · rename_i v _
          obtain ⟨y, hy, hxy⟩ := Option.map_eq_some_iff.1 he
          simp only [Prod.mk.injEq] at hxy
          obtain ⟨rfl, rfl, rfl⟩ := hxy
          obtain ⟨h1, h2, h3, h4⟩ := hp
          have hc := cell_of h1 hb h2 h3
          simp only [Sem.run, hc]
          exact ih v hs x y.1 y.2.1 y.2.2 hy h4 w hw hn
      · cases he
  | store m ad v k ih =>
    intro hs x a' x' p he hp w hw hn
    cases hs with
    | nil => simp [ex] at he
    | cons hh hs =>
      cases hh with
      | r i ov => simp [ex] at he
      | o i ov =>
        simp only [ex] at he
        split at he
        · rename_i b cs e fz hg
          have hb := hw.own (b, .cells cs e fz) (List.mem_of_getElem? hg)
          split at he
          · have key : ad.block = b → ad.spot = none → v.oneCell' = true → ad.off < cs.size →
                ∃ w1, (Sem.store m ad v k).run P w = k.run P w1 ∧ Own (x.h.set i (b, .cells (cs.setIfInBounds ad.off v) e (0, 0))) r w1 ∧ Nu nu x.k w1 ∧
                  ∀ wr : List Nat, i ∈ wr → Did x.h (x.h.set i (b, .cells (cs.setIfInBounds ad.off v) e (0, 0))) wr w w1 := by
              intro h1 h2 h3 h4
              have hc : w.cell? ad = some cs[ad.off] := cell_of h1 hb h2 (Array.getElem?_eq_getElem h4)
              have hf : w.frozen? ad = false := by simp [World.frozen?, h1, hb]
              refine ⟨_, ?_, own_set hw hg (o' := .cells (cs.setIfInBounds ad.off v) e (0, 0)), ?_, fun wr hwr => did_set hg hwr⟩
              · have hst : (Sem.store m ad v k).run P w = k.run P (w.setCell ad v) := by
                  cases v <;> first | (simp only [Sem.run, hc, hf]; rfl) | (simp [Value.oneCell'] at h3)
                rw [hst, setCell_eq h1 hb h2]
              · intro j; simpa using hn j
            split at he
            · split at he
              · rename_i hlt
                obtain ⟨y, hy, hxy⟩ := Option.map_eq_some_iff.1 he
                simp only [Prod.mk.injEq] at hxy
                obtain ⟨rfl, rfl, rfl⟩ := hxy
                obtain ⟨h1, h2, h3, hp⟩ := hp
                obtain ⟨w1, hrun, ho, hn1, hd⟩ := key h1 h2 h3 (Nat.lt_of_succ_le (Nat.le_of_ble_eq_true hlt))
                obtain ⟨hsub, w2, hr2, ho2, hn2, hd2⟩ := ih hs _ y.1 y.2.1 y.2.2 hy hp w1 ho hn1
                exact ⟨fun j hj => hsub j (List.mem_cons_of_mem _ hj), w2, hrun.trans hr2, ho2, hn2, (hd _ (hsub i (List.mem_cons_self ..))).trans hd2⟩
              · cases he
            · obtain ⟨y, hy, hxy⟩ := Option.map_eq_some_iff.1 he
              simp only [Prod.mk.injEq] at hxy
              obtain ⟨rfl, rfl, rfl⟩ := hxy
              obtain ⟨h1, h2, h3, h4, hp⟩ := hp
              obtain ⟨w1, hrun, ho, hn1, hd⟩ := key h1 h2 h3 h4
              obtain ⟨hsub, w2, hr2, ho2, hn2, hd2⟩ := ih hs _ y.1 y.2.1 y.2.2 hy hp w1 ho hn1
              exact ⟨fun j hj => hsub j (List.mem_cons_of_mem _ hj), w2, hrun.trans hr2, ho2, hn2, (hd _ (hsub i (List.mem_cons_self ..))).trans hd2⟩
          · cases he
        · cases he
  | new o k ih =>
    intro hs x a' x' p he hp w hw hn
    simp only [ex] at he
    simp only [Sem.run]
    rw [hn.now] at he
    obtain ⟨hsub, w2, hr2, ho2, hn2, hd2⟩ := ih w.heap.size hs _ a' x' p he hp _ (own_new hw o) (hn.push o)
    exact ⟨hsub, w2, hr2, ho2, hn2, (did_new o).trans hd2⟩
  | shape rr k ih =>
    intro hs x a' x' p he hp w hw hn
    cases hs with
    | nil => simp [ex] at he
    | cons hh hs =>
      simp only [ex] at he
      split at he
      · rename_i b cs e fz hg
        have hb := hw.get hg
        obtain ⟨y, hy, hxy⟩ := Option.map_eq_some_iff.1 he
        simp only [Prod.mk.injEq] at hxy
        obtain ⟨rfl, rfl, rfl⟩ := hxy
        obtain ⟨h0, hp⟩ := hp; obtain rfl : rr = b := h0
        have hsh : w.shape? rr = some (e, cs.size) := by simp [World.shape?, hb]
        simp only [Sem.run, hsh]
        exact ih _ hs x y.1 y.2.1 y.2.2 hy hp w hw hn
      · cases he
  | frozen ad k ih =>
    intro hs x a' x' p he hp w hw hn
    cases hs with
    | nil => simp [ex] at he
    | cons hh hs =>
      simp only [ex] at he
      split at he
      · rename_i b cs e fz hg
        have hb := hw.get hg
        split at he
        · obtain ⟨y, hy, hxy⟩ := Option.map_eq_some_iff.1 he
          simp only [Prod.mk.injEq] at hxy
          obtain ⟨rfl, rfl, rfl⟩ := hxy
          obtain ⟨h1, hp⟩ := hp
          simp only [Ob.ok] at h1
          have hsh : w.frozen? ad = false := by simp [World.frozen?, h1, hb]
          simp only [Sem.run, hsh]
          exact ih _ hs x y.1 y.2.1 y.2.2 hy hp w hw hn
        · cases he
      · cases he
  | getObj rr k ih =>
    intro hs x a' x' p he hp w hw hn
    cases hs with
    | nil => simp [ex] at he
    | cons hh hs =>
      simp only [ex] at he
      split at he
      · cases he
      · rename_i b o hnot hg
        have hb := hw.get hg
        obtain ⟨y, hy, hxy⟩ := Option.map_eq_some_iff.1 he
        simp only [Prod.mk.injEq] at hxy
        obtain ⟨rfl, rfl, rfl⟩ := hxy
        obtain ⟨h0, hp⟩ := hp; obtain rfl : rr = b := h0
        have hrun : (Sem.getObj rr k).run P w = (k o).run P w := by
          simp only [Sem.run, hb]
        rw [hrun]
        exact ih _ hs x y.1 y.2.1 y.2.2 hy hp w hw hn
      · cases he
  | setObj rr o k ih =>
    intro hs x a' x' p he hp w hw hn
    cases hs with
    | nil => simp [ex] at he
    | cons hh hs =>
      cases hh with
      | r i ov => simp [ex] at he
      | o i ov =>
        simp only [ex] at he
        split at he
        · cases he
        · rename_i b o' hnot hg
          have hb := hw.own (b, o') (List.mem_of_getElem? hg)
          obtain ⟨y, hy, hxy⟩ := Option.map_eq_some_iff.1 he
          simp only [Prod.mk.injEq] at hxy
          obtain ⟨rfl, rfl, rfl⟩ := hxy
          obtain ⟨h0, hp⟩ := hp; obtain rfl : rr = b := h0
          have hrun : (Sem.setObj rr o k).run P w = k.run P { w with heap := w.heap.setIfInBounds rr o } := by
            simp only [Sem.run, hb]
          rw [hrun]
          obtain ⟨hsub, w2, hr2, ho2, hn2, hd2⟩ := ih hs _ y.1 y.2.1 y.2.2 hy hp _ (own_set hw hg) (fun j => by simpa using hn j)
          exact ⟨fun j hj => hsub j (List.mem_cons_of_mem _ hj), w2, hr2, ho2, hn2, (did_set hg (hsub i (List.mem_cons_self ..))).trans hd2⟩
        · cases he
  | program k ih => intro hs x a' x' p he hp w hw hn; simp only [ex] at he; simp only [Sem.run]; exact ih P hs x a' x' p he hp w hw hn
  | mark m k ih => intro hs x a' x' p he hp w hw hn; simp only [ex] at he; simp only [Sem.run]; exact ih hs x a' x' p he hp w hw hn
  | choose q k ih =>
    intro hs x a' x' p he hp w hw hn
    simp only [ex] at he
    split at he
    · rename_i hq
      simp only [Sem.run, hq, if_true]
      exact ih 0 hs x a' x' p he hp w hw hn
    · cases he
  | freeze a n k ih => intro hs x a' x' p he; simp [ex] at he
  | sys c k ih => intro hs x a' x' p he; simp [ex] at he
  | halt hh => intro hs x a' x' p he; simp [ex] at he
end Go.Sx
