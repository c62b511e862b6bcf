/- What the values of keys are, as functions on lists. No program is named here. -/
import Derived.Test.YtpjkiomccpjboaaGreatDoorMsgT
namespace Go.Sx
open Go

theorem strEq (a b : ByteArray) : (a.toList == b.toList) = decide (a = b) := by
  rw [ByteArray.toList_eq, ByteArray.toList_eq]
  by_cases h : a = b
  · subst h; simp
  · rw [decide_eq_false h]
    simp only [beq_eq_false_iff_ne, ne_eq]
    intro he
    apply h
    cases a; cases b
    simp only [ByteArray.mk.injEq]
    exact Array.toList_inj.1 he
def wsum (xs : List Int) : Int := xs.foldl (· + ·) 0
def cmpI (x y : Int) : Int := if x < y then -1 else if y < x then 1 else 0
def orL : List Int → Int
  | [] => 0
  | x :: l => if x ≠ 0 then x else orL l
theorem orL_none : ∀ {l : List Int}, (∀ (j : Nat) t, l[j]? = some t → t = 0) → orL l = 0
  | [], _ => rfl
  | x :: l, h => by
    have h0 := h 0 x rfl
    rw [orL, if_neg (by simp [h0])]
    exact orL_none fun j t ht => h (j + 1) t (by simpa using ht)
theorem orL_at : ∀ {l : List Int} {i : Nat} {x : Int}, (∀ j : Nat, j < i → ∀ t, l[j]? = some t → t = 0) → l[i]? = some x → x ≠ 0 → orL l = x
  | [], _, _, _, h, _ => by simp at h
  | y :: l, 0, x, _, h, hx => by
    simp only [List.getElem?_cons_zero, Option.some.injEq] at h
    subst h
    rw [orL, if_pos hx]
  | y :: l, i + 1, x, hz, h, hx => by
    have h0 := hz 0 (by omega) y rfl
    rw [orL, if_neg (by simp [h0])]
    exact orL_at (i := i) (fun j hj t ht => hz (j + 1) (by omega) t (by simpa using ht)) (by simpa using h) hx

/-! Numbers in a row, held against each other. -/
def lexC : List Int → List Int → Int
  | x :: xs, y :: ys => if cmpI x y ≠ 0 then cmpI x y else lexC xs ys
  | _, _ => 0
theorem cmpI_zero {x y : Int} : cmpI x y = 0 ↔ x = y := by
  unfold cmpI
  split
  · omega
  · split <;> omega
theorem cmpI_neg {x y : Int} : cmpI x y < 0 ↔ x < y := by
  unfold cmpI
  split
  · omega
  · split <;> omega
theorem lexC_self : ∀ xs : List Int, lexC xs xs = 0
  | [] => rfl
  | x :: xs => by
    have h : cmpI x x = 0 := cmpI_zero.2 rfl
    simp [lexC, h, lexC_self xs]
theorem lexC_neg {x y : Int} {xs ys : List Int} : lexC (x :: xs) (y :: ys) < 0 ↔ x < y ∨ (x = y ∧ lexC xs ys < 0) := by
  rw [lexC]
  by_cases h : cmpI x y = 0
  · have := cmpI_zero.1 h
    rw [if_neg (by simpa using h)]
    simp [this]
  · have h2 : x ≠ y := fun he => h (cmpI_zero.2 he)
    rw [if_pos h, cmpI_neg]
    simp [h2]
theorem lexC_zero : ∀ {xs ys : List Int}, xs.length = ys.length → lexC xs ys = 0 → xs = ys
  | [], [], _, _ => rfl
  | x :: xs, y :: ys, hl, h => by
    unfold lexC at h
    by_cases h1 : cmpI x y = 0
    · rw [if_neg (by simpa using h1)] at h
      rw [cmpI_zero.1 h1, lexC_zero (by simpa using hl) h]
    · rw [if_pos h1] at h
      exact absurd h h1
theorem lexC_tri : ∀ {xs ys : List Int}, xs.length = ys.length → lexC xs ys < 0 ∨ xs = ys ∨ lexC ys xs < 0
  | [], [], _ => .inr (.inl rfl)
  | x :: xs, y :: ys, hl => by
    rw [lexC_neg, lexC_neg]
    rcases Int.lt_trichotomy x y with h | h | h
    · exact .inl (.inl h)
    · subst h
      rcases lexC_tri (xs := xs) (ys := ys) (by simpa using hl) with h | h | h
      · exact .inl (.inr ⟨rfl, h⟩)
      · subst h; exact .inr (.inl rfl)
      · exact .inr (.inr (.inr ⟨rfl, h⟩))
    · exact .inr (.inr (.inl h))
theorem lexC_trans : ∀ {xs ys zs : List Int}, lexC xs ys < 0 → lexC ys zs < 0 → lexC xs zs < 0
  | x :: xs, y :: ys, z :: zs, h1, h2 => by
    rw [lexC_neg] at h1 h2 ⊢
    rcases h1 with h1 | ⟨rfl, h1⟩ <;> rcases h2 with h2 | ⟨rfl, h2⟩
    · exact .inl (Int.lt_trans h1 h2)
    · exact .inl h1
    · exact .inl h2
    · exact .inr ⟨rfl, lexC_trans h1 h2⟩
  | [], _, _, h1, _ => by simp [lexC] at h1
  | _ :: _, [], _, h1, _ => by simp [lexC] at h1
  | _ :: _, _ :: _, [], _, h2 => by simp [lexC] at h2
theorem lexC_asymm {xs ys : List Int} (h1 : lexC xs ys < 0) (h2 : lexC ys xs < 0) : False := by
  have := lexC_trans h1 h2
  rw [lexC_self] at this
  omega

/-! Ops with their dots and weights. -/
structure DoneT where
  o : OpT
  d : DotT
  w : Int
abbrev eDone (x : DoneT) : List D := [dI x.o.no, .v (.string x.o.key), dI x.o.kind, .v (.string x.o.text), dI x.o.n, .v (.bool x.o.remove), .sl 3 (x.o.dots.map eDot), dI x.d.place, dI x.d.time, dI x.d.no, dI x.w]
def dotOf (c : ComT) (o : OpT) : DotT := ⟨c.place, c.when.getD c.place.toNat 0, o.no⟩
def doneOf (c : ComT) (o : OpT) : DoneT := ⟨o, dotOf c o, wsum c.when⟩
def allDone (l : List ComT) : List DoneT := l.flatMap fun c => c.ops.map (doneOf c)
/-- The first ones of each dot. -/
def firsts : List DotT → List DoneT → List DoneT
  | _, [] => []
  | s, x :: r => if x.d ∈ s then firsts s r else x :: firsts (x.d :: s) r
theorem firsts_congr : ∀ {s s' : List DotT} {l : List DoneT}, (∀ d, d ∈ s ↔ d ∈ s') → firsts s l = firsts s' l
  | _, _, [], _ => rfl
  | s, s', x :: r, h => by
    unfold firsts
    by_cases hx : x.d ∈ s
    · rw [if_pos hx, if_pos ((h _).1 hx), firsts_congr h]
    · rw [if_neg hx, if_neg (fun hc => hx ((h _).2 hc)), firsts_congr (s := x.d :: s) (s' := x.d :: s') fun d => by simp [h d]]
theorem firsts_snoc : ∀ {s : List DotT} {l : List DoneT} {x : DoneT}, firsts s (l ++ [x]) = firsts s l ++ if x.d ∈ s ∨ x.d ∈ l.map (·.d) then [] else [x]
  | s, [], x => by simp [firsts]
  | s, y :: r, x => by
    rw [List.cons_append, firsts, firsts]
    by_cases hy : y.d ∈ s
    · rw [if_pos hy, if_pos hy, firsts_snoc]
      congr 1
      by_cases hx : x.d ∈ s
      · simp [hx]
      · by_cases he : x.d = y.d
        · rw [he] at hx; exact absurd hy hx
        · simp [hx, he]
    · rw [if_neg hy, if_neg hy, firsts_snoc]
      simp [or_assoc, or_left_comm]
theorem firsts_sub {s : List DotT} {l : List DoneT} {x : DoneT} (h : x ∈ firsts s l) : x ∈ l ∧ x.d ∉ s := by
  induction l generalizing s with
  | nil => simp [firsts] at h
  | cons y r ih =>
    unfold firsts at h
    split at h
    · have := ih h
      exact ⟨.tail _ this.1, this.2⟩
    · rename_i hy
      rcases List.mem_cons.1 h with rfl | h
      · exact ⟨.head _, hy⟩
      · have := ih h
        exact ⟨.tail _ this.1, fun hc => this.2 (.tail _ hc)⟩
theorem firsts_nodup {s : List DotT} {l : List DoneT} : ((firsts s l).map (·.d)).Nodup := by
  induction l generalizing s with
  | nil => simp [firsts]
  | cons y r ih =>
    unfold firsts
    split
    · exact ih
    · rw [List.map_cons, List.nodup_cons]
      refine ⟨fun hm => ?_, ih⟩
      obtain ⟨x, hx, he⟩ := List.mem_map.1 hm
      exact (firsts_sub hx).2 (by rw [he]; exact .head _)
theorem firsts_has {s : List DotT} {l : List DoneT} {x : DoneT} (h : x ∈ l) (hs : x.d ∉ s) : ∃ y ∈ firsts s l, y.d = x.d := by
  induction l generalizing s with
  | nil => simp at h
  | cons y r ih =>
    unfold firsts
    rcases List.mem_cons.1 h with rfl | h
    · rw [if_neg hs]
      exact ⟨x, .head _, rfl⟩
    · split
      · exact ih h hs
      · by_cases he : x.d = y.d
        · exact ⟨y, .head _, he.symm⟩
        · obtain ⟨z, hz, hzd⟩ := ih (s := y.d :: s) h (by simp [hs, he])
          exact ⟨z, .tail _ hz, hzd⟩

def doneKey (x : DoneT) : List Int := [x.w, x.d.place, x.d.time, x.d.no]
def doneCmp (a b : DoneT) : Int := orL [cmpI a.w b.w, cmpI a.d.place b.d.place, cmpI a.d.time b.d.time, cmpI a.d.no b.d.no]
theorem doneCmp_eq (a b : DoneT) : doneCmp a b = lexC (doneKey a) (doneKey b) := by
  simp [doneCmp, doneKey, lexC, orL]
def doneLt (a b : DoneT) : Bool := decide (doneCmp a b < 0)
theorem doneLt_iff {a b : DoneT} : doneLt a b = true ↔ lexC (doneKey a) (doneKey b) < 0 := by simp [doneLt, doneCmp_eq]
theorem doneKey_dot {a b : DoneT} (h : doneKey a = doneKey b) : a.d = b.d := by
  simp only [doneKey, List.cons.injEq, and_true] at h
  cases ha : a.d; cases hb : b.d
  simp_all
theorem doneLt_trans {a b c : DoneT} (h1 : doneLt a b = true) (h2 : doneLt b c = true) : doneLt a c = true := by
  rw [doneLt_iff] at *
  exact lexC_trans h1 h2
theorem doneLt_asymm {a b : DoneT} (h1 : doneLt a b = true) (h2 : doneLt b a = true) : False := by
  rw [doneLt_iff] at *
  exact lexC_asymm h1 h2
theorem doneLt_tri (a b : DoneT) : doneLt a b = true ∨ doneKey a = doneKey b ∨ doneLt b a = true := by
  rw [doneLt_iff, doneLt_iff]
  exact lexC_tri rfl
def sortDone (l : List DoneT) : List DoneT := l.mergeSort fun x y => !doneLt y x
def opsRaw (key : ByteArray) (l : List ComT) : List DoneT := (firsts [] (allDone l)).filter fun x => decide (x.o.key = key)
def opsOf (key : ByteArray) (l : List ComT) : List DoneT := sortDone (opsRaw key l)
def kindOf (l : List DoneT) : Int := match l with
  | [] => 0
  | x :: _ => x.o.kind
def kindL (l : List DoneT) : List DoneT := l.filter fun x => decide (x.o.kind = kindOf l)
def ofKey (key : ByteArray) (l : List ComT) : List DoneT := kindL (opsOf key l)
def goneB (l : List DoneT) (t : ByteArray) (d : DotT) : Bool := l.any fun r => r.o.remove && (decide (r.o.text = t) && decide (d ∈ r.o.dots))
def liveL (l : List DoneT) : List DoneT := l.filter fun a => !a.o.remove && !goneB l a.o.text a.d
def textDots (l : List DoneT) (t : ByteArray) : List DotT := ((liveL l).filter fun a => decide (a.o.text = t)).map (·.d)
def bLt (a b : ByteArray) : Bool := decide (a.toList < b.toList)
/-- A text in its place, once. -/
def enterB : List ByteArray → ByteArray → List ByteArray
  | [], s => [s]
  | x :: l, s => if bLt x s then x :: enterB l s else if x = s then x :: l else s :: x :: l
def setOf (l : List ByteArray) : List ByteArray := l.foldl enterB []
structure ValT where
  kind : Int
  text : ByteArray
  n : Int
  set : List ByteArray
def lastText (l : List DoneT) : ByteArray := l.foldl (fun _ x => x.o.text) (ByteArray.mk #[])
def sumN (l : List DoneT) : Int := l.foldl (fun s x => s + x.o.n) 0
def valOf (key : ByteArray) (l : List ComT) : ValT :=
  ⟨kindOf (opsOf key l), if kindOf (opsOf key l) = 1 then lastText (ofKey key l) else ByteArray.mk #[], if kindOf (opsOf key l) = 2 then sumN (ofKey key l) else 0, if kindOf (opsOf key l) = 3 then setOf ((liveL (ofKey key l)).map (·.o.text)) else []⟩
def dotKey (d : DotT) : List Int := [d.place, d.time, d.no]
def dotCmp (a b : DotT) : Int := orL [cmpI a.place b.place, cmpI a.time b.time, cmpI a.no b.no]
theorem dotCmp_eq (a b : DotT) : dotCmp a b = lexC (dotKey a) (dotKey b) := by
  simp [dotCmp, dotKey, lexC, orL]
def dotLt (a b : DotT) : Bool := decide (dotCmp a b < 0)
theorem dotLt_iff {a b : DotT} : dotLt a b = true ↔ lexC (dotKey a) (dotKey b) < 0 := by simp [dotLt, dotCmp_eq]
theorem dotKey_inj {a b : DotT} (h : dotKey a = dotKey b) : a = b := by
  simp only [dotKey, List.cons.injEq, and_true] at h
  cases a; cases b
  simp_all
theorem dotLt_trans {a b c : DotT} (h1 : dotLt a b = true) (h2 : dotLt b c = true) : dotLt a c = true := by
  rw [dotLt_iff] at *
  exact lexC_trans h1 h2
theorem dotLt_asymm {a b : DotT} (h1 : dotLt a b = true) (h2 : dotLt b a = true) : False := by
  rw [dotLt_iff] at *
  exact lexC_asymm h1 h2
theorem dotLt_tri (a b : DotT) : dotLt a b = true ∨ a = b ∨ dotLt b a = true := by
  rw [dotLt_iff, dotLt_iff]
  rcases lexC_tri (xs := dotKey a) (ys := dotKey b) rfl with h | h | h
  · exact .inl h
  · exact .inr (.inl (dotKey_inj h))
  · exact .inr (.inr h)
def sortDots (l : List DotT) : List DotT := l.mergeSort fun x y => !dotLt y x
def dotsOf (key text : ByteArray) (l : List ComT) : List DotT := if kindOf (opsOf key l) = 3 then sortDots (textDots (ofKey key l) text) else []
end Go.Sx
