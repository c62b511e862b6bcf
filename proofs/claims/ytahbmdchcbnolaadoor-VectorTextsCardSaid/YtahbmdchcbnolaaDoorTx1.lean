/- The engine of our walks, part 1: what a world keeps; regions whose order is drawn, walked along one plan. No program is named here. -/
import Derived.OrdersHeld
import Derived.Test.YtahbmdchcbnolaaDoorTx0
import Derived.Tactics
import Derived.WalkKit
import Derived.KernelRfl
namespace Go.Sx
open Go

/-- Blocks of w0 outside M are in w as they were; the streams are as they were. -/
structure Fr (M : List Nat) (w0 w : World) : Prop where
  os : w.os = w0.os
  tape : w.tape = w0.tape
  output : w.output = w0.output
  size : w0.heap.size ≤ w.heap.size
  block : ∀ b, b < w0.heap.size → b ∉ M → w.heap[b]? = w0.heap[b]?
  drawn : w0.drawn ≤ w.drawn

theorem Fr.refl (M : List Nat) (w : World) : Fr M w w := ⟨rfl, rfl, rfl, Nat.le_refl _, fun _ _ _ => rfl, Nat.le_refl _⟩
theorem Fr.trans {M N K : List Nat} {a b c : World} (h : Fr M a b) (k : Fr N b c) (hM : ∀ x ∈ M, x ∈ K) (hN : ∀ x ∈ N, x ∈ K ∨ a.heap.size ≤ x) : Fr K a c :=
  ⟨k.os.trans h.os, k.tape.trans h.tape, k.output.trans h.output, Nat.le_trans h.size k.size, fun x hx hk => by
    have h1 : x ∉ M := fun hm => hk (hM x hm)
    have h2 : x ∉ N := fun hn => by
      rcases hN x hn with h | h
      · exact hk h
      · omega
    exact (k.block x (Nat.lt_of_lt_of_le hx h.size) h2).trans (h.block x hx h1), Nat.le_trans h.drawn k.drawn⟩
theorem Fr.mono {M N : List Nat} {a b : World} (h : Fr M a b) (hM : ∀ x ∈ M, x ∈ N ∨ a.heap.size ≤ x) : Fr N a b :=
  ⟨h.os, h.tape, h.output, h.size, fun x hx hn => h.block x hx fun hm => by
    rcases hM x hm with h | h
    · exact hn h
    · omega, h.drawn⟩
theorem Fr.drew {M : List Nat} {a b : World} (h : Fr M a b) : Fr M a { b with drawn := b.drawn + 1 } := ⟨h.os, h.tape, h.output, h.size, h.block, Nat.le_succ_of_le h.drawn⟩

/-- The listed blocks hold what is listed. -/
def Hp (l : List (Nat × Obj)) (w : World) : Prop := ∀ x ∈ l, w.heap[x.1]? = some x.2
theorem Hp.lt {l : List (Nat × Obj)} {w : World} (h : Hp l w) {x : Nat × Obj} (hx : x ∈ l) : x.1 < w.heap.size := by
  have := h x hx
  rcases Nat.lt_or_ge x.1 w.heap.size with h' | h'
  · exact h'
  · rw [Array.getElem?_eq_none h'] at this; cases this
theorem Hp.fr {l : List (Nat × Obj)} {M : List Nat} {w w' : World} (h : Hp l w) (hf : Fr M w w') (hd : ∀ x ∈ l, x.1 ∉ M) : Hp l w' := fun x hx =>
  (hf.block x.1 (h.lt hx) (hd x hx)).trans (h x hx)

section draw
variable {P : Program} {ops : Array Oper} {Q : Exit → Act → World → Prop} {md : Region.Mode}

/-- What an operation of the region may do to the blocks that are there: no list: nothing; a list M: of the blocks below B it may turn those of M. -/
def BG (B : Nat) (M : Option (List Nat)) (w w' : World) : Prop := ∀ b, b < w.heap.size → (∀ l, M = some l → b < B ∧ b ∉ l) → w'.heap[b]? = w.heap[b]?

def wpAnyG (P : Program) (md : Region.Mode) (ops : Array Oper) (Q : Exit → Act → World → Prop) (B : Nat) (W : Nat → Option (List Nat)) : Nat → Array Bool → Act → World → Prop
  | 0, listed, a, w => Region.ready md ops listed = [] ∧ Q .normal a w
  | fuel + 1, listed, a, w =>
    (Region.ready md ops listed = [] → Q .normal a w) ∧
    ∀ i ∈ Region.ready md ops listed, wpOp P ops Q i (fun a' w' => BG B (W i) w w' ∧ wpAnyG P md ops Q B W fuel (listed.setIfInBounds i true) a' w') a w

theorem wpAny_of_G {B : Nat} {W : Nat → Option (List Nat)} : ∀ (fuel : Nat) (listed : Array Bool) (a : Act) (w : World), wpAnyG P md ops Q B W fuel listed a w → wpAny P md ops Q fuel listed a w
  | 0, _, _, _, h => h
  | fuel + 1, _, _, _, h => ⟨h.1, fun i hi => wpOp_mono (fun a' w' h' => wpAny_of_G fuel _ a' w' h'.2) (h.2 i hi)⟩

theorem Hp.bg {B : Nat} {us : List (Nat × Obj)} {M : Option (List Nat)} {w w' : World} (h : Hp us w) (hg : BG B M w w') (hd : ∀ l, M = some l → ∀ x ∈ us, x.1 < B ∧ x.1 ∉ l) : Hp us w' :=
  fun x hx => (hg x.1 (h.lt hx) fun l hl => hd l hl x hx).trans (h x hx)

/-- Must j stand behind i? (As far as n edges tell.) -/
def later (ops : Array Oper) (i : Nat) : Nat → Nat → Bool
  | 0, _ => false
  | n + 1, j => match ops[j]? with
    | some o => o.after.any fun e => Region.binds .any e && (Nat.beq e.on i || later ops i n e.on)
    | none => false
/-- What is listed stands behind listed ones alone. -/
def Down (md : Region.Mode) (ops : Array Oper) (listed : Array Bool) : Prop := ∀ (j : Nat) (o : Oper), ops[j]? = some o → listed.getD j true = true → ∀ e ∈ o.after, Region.binds md e = true → listed.getD e.on true = true
theorem Down.later {listed : Array Bool} {i : Nat} (hd : Down .any ops listed) (hi : listed.getD i true = false) : ∀ (n j : Nat), later ops i n j = true → (∀ (o : Oper), ops[j]? = some o → ∀ e ∈ o.after, Region.binds .any e = true → listed.getD e.on true = true) → False
  | 0, j, h, _ => by simp [Sx.later] at h
  | n + 1, j, h, ha => by
    unfold Sx.later at h
    split at h
    · rename_i o ho
      obtain ⟨e, he, h2⟩ : ∃ e ∈ o.after, (Region.binds .any e && (Nat.beq e.on i || Sx.later ops i n e.on)) = true := by
        obtain ⟨k, hk, h2⟩ := Array.any_eq_true.1 h
        exact ⟨_, Array.getElem_mem hk, h2⟩
      simp only [Bool.and_eq_true, Bool.or_eq_true] at h2
      have hl := ha o ho e he h2.1
      rcases h2.2 with h3 | h3
      · rw [Nat.eq_of_beq_eq_true h3, hi] at hl
        cases hl
      · exact hd.later hi n e.on h3 fun o' ho' => hd e.on o' ho' hl
    · cases h
theorem Down.list {listed : Array Bool} {i : Nat} (hd : Down md ops listed) (hr : i ∈ Region.ready md ops listed) : Down md ops (listed.setIfInBounds i true) := by
  obtain ⟨hun, oi, hoi, hall⟩ := mem_ready.1 hr
  have key : ∀ k, listed.getD k true = true → (listed.setIfInBounds i true).getD k true = true := fun k hk => by
    by_cases hki : i = k
    · subst hki
      rw [hk] at hun
      cases hun
    · rw [getD_set_ne true hki]; exact hk
  have key2 : ∀ k, listed[k]? ≠ some false → listed.getD k true = true := fun k hk => by
    cases h : listed[k]? with
    | none => simp [Array.getD_eq_getD_getElem?, h]
    | some b => cases b with
      | true => simp [Array.getD_eq_getD_getElem?, h]
      | false => exact absurd h hk
  intro j o ho hl e he hb
  refine key _ ?_
  by_cases hji : i = j
  · subst hji
    rw [hoi] at ho
    cases ho
    refine key2 _ fun h => ?_
    have h2 := hall e he hb
    simp [h] at h2
  · rw [getD_set_ne true hji] at hl
    exact hd j o ho hl e he hb

theorem wpAnyG_first {B : Nat} {W : Nat → Option (List Nat)} {us : List (Nat × Obj)} {i : Nat} {oi : Oper} {v : Value} (hi : ops[i]? = some oi)
    (hsel : ∀ (j : Nat) (o : Oper) cs b, ops[j]? = some o → o.op ≠ .select cs b)
    (hQ : ∀ c a w, Q (.panic c) (a.put oi.dst v) w → Q (.panic c) a w) :
    ∀ (fuel : Nat) (listed : Array Bool) (a : Act) (w : World),
      (∀ j oj, ops[j]? = some oj → j ≠ i → listed.getD j true = false → (∀ e ∈ oj.after, Region.binds .any e = true → e.on ≠ i) → oi.apart ops oj = true ∧ ∀ l, W j = some l → later ops i 3 j = true ∨ ∀ x ∈ us, x.1 < B ∧ x.1 ∉ l) →
      Down .any ops listed → i ∈ Region.ready .any ops listed → YieldsIf P ops (Hp us) oi v a → Hp us w →
      wpAnyG P .any ops Q B W fuel (listed.setIfInBounds i true) (a.put oi.dst v) w → wpAnyG P .any ops Q B W (fuel + 1) listed a w := by
  intro fuel
  induction fuel with
  | zero =>
    intro listed a w _ _ hr hy hS H
    refine ⟨fun h => absurd hr (by rw [h]; simp), fun j hj => ?_⟩
    by_cases hji : j = i
    · subst hji; exact hy.wpOp hi hS ⟨fun _ _ _ => rfl, H⟩
    · have h := ready_mono hj hji
      rw [H.1] at h
      exact absurd h (by simp)
  | succ fuel ih =>
    intro listed a w hfree hdown hr hy hS H
    refine ⟨fun h => absurd hr (by rw [h]; simp), fun j hj => ?_⟩
    by_cases hji : j = i
    · subst hji; exact hy.wpOp hi hS ⟨fun _ _ _ => rfl, H⟩
    · have h1 := H.2 j (ready_mono hj hji)
      obtain ⟨hjun, oj, hoj, hall⟩ := mem_ready.1 hj
      have hnot : ∀ e ∈ oj.after, Region.binds .any e = true → e.on ≠ i := fun e he hb heq => by
        have h2 := hall e he hb
        have h0 := (mem_ready.1 hr).1
        rw [heq] at h2
        rcases Nat.lt_or_ge i listed.size with h' | h'
        · simp [h'] at h0 h2; rw [h0] at h2; cases h2
        · simp [Array.getElem?_eq_none h'] at h2
      obtain ⟨hap, hno⟩ := hfree j oj hoj hji hjun hnot
      have hno : ∀ l, W j = some l → ∀ x ∈ us, x.1 < B ∧ x.1 ∉ l := fun l hl => by
        rcases hno l hl with h4 | h4
        · refine (hdown.later (mem_ready.1 hr).1 3 j h4 fun o' ho' e he hb => ?_).elim
          rw [hoj] at ho'
          cases ho'
          have h5 := hall e he hb
          rcases Nat.lt_or_ge e.on listed.size with h' | h'
          · simp [h'] at h5 ⊢; exact h5
          · simp [Array.getElem?_eq_none h'] at h5
        · exact h4
      have h2 := wpOp_putIf hoj hap (fun cs b => hsel i oi cs b hi) (fun cs b => hsel j oj cs b hoj) hQ hy h1
      have hfree' : ∀ k ok, ops[k]? = some ok → k ≠ i → (listed.setIfInBounds j true).getD k true = false →
          (∀ e ∈ ok.after, Region.binds .any e = true → e.on ≠ i) → oi.apart ops ok = true ∧ ∀ l, W k = some l → later ops i 3 k = true ∨ ∀ x ∈ us, x.1 < B ∧ x.1 ∉ l := fun k ok hk hki hun hno' => by
        refine hfree k ok hk hki ?_ hno'
        by_cases hjk : j = k
        · subst hjk; exact hjun
        · rw [getD_set_ne true hjk] at hun; exact hun
      refine wpOp_mono (fun a' w' h3 => ⟨h3.2.1, ih (listed.setIfInBounds j true) a' w' hfree' (hdown.list hj) (ready_mono hr (Ne.symm hji)) h3.1 (hS.bg h3.2.1 hno) ?_⟩) h2
      rw [Array.setIfInBounds_comm _ _ hji]
      exact h3.2.2

/-- One plan: (number, may it be taken first). W: the blocks that the writing operations still to come may write. -/
def PW (P : Program) (ops : Array Oper) (Q : Exit → Act → World → Prop) (B : Nat) (ck : Bool) : List (Nat × Bool) → List (Nat × List Nat) → Act → World → Prop
  | [], _, a, w => Q .normal a w
  | (i, true) :: rest, W, a, w => ∃ o v, ∃ us : List (Nat × Obj), ops[i]? = some o ∧ YieldsIf P ops (Hp us) o v a ∧ Hp us w ∧ (ck = true → ∀ y ∈ W, later ops i 3 y.1 = true ∨ ∀ x ∈ us, x.1 < B ∧ x.1 ∉ y.2) ∧ PW P ops Q B ck rest W (a.put o.dst v) w
  | (i, false) :: rest, W, a, w => wpOp P ops Q i (fun a' w' => (ck = true → BG B (W.lookup i) w w') ∧ PW P ops Q B ck rest (W.filter (·.1 != i)) a' w') a w

/-- The plan is one that the region's edges let. -/
def planOk (ops : Array Oper) : List (Nat × Bool) → Array Bool → Bool
  | [], listed => (Region.ready .any ops listed).isEmpty
  | (i, true) :: rest, listed => (Region.ready .any ops listed).contains i && Region.free .any ops listed i && planOk ops rest (listed.setIfInBounds i true)
  | (i, false) :: rest, listed => Region.ready .any ops listed == [i] && planOk ops rest (listed.setIfInBounds i true)

theorem lookup_filter_ne (i j : Nat) (h : j ≠ i) : ∀ W : List (Nat × List Nat), (W.filter (·.1 != i)).lookup j = W.lookup j
  | [] => rfl
  | (k, M) :: W => by
    by_cases hk : k = i
    · subst hk
      have : (j == k) = false := by simpa using h
      simp [List.lookup, this, lookup_filter_ne _ j h W]
    · have : (k != i) = true := by simpa using hk
      simp only [List.filter, this, List.lookup]
      rw [lookup_filter_ne i j h W]

theorem mem_of_lookup {j : Nat} {M : List Nat} : ∀ {W : List (Nat × List Nat)}, W.lookup j = some M → (j, M) ∈ W
  | (k, N) :: W, h => by
    by_cases hk : j = k
    · subst hk; simp [List.lookup] at h; simp [h]
    · have : (j == k) = false := by simpa using hk
      simp only [List.lookup, this] at h
      exact List.mem_cons_of_mem _ (mem_of_lookup h)

theorem wpAnyG_of_plan (hs : Region.noSelect ops = true) (hQ : ∀ (i : Nat) (o : Oper), ops[i]? = some o → ∀ c a v w, Q (.panic c) (a.put o.dst v) w → Q (.panic c) a w) {B : Nat} (W0 : Nat → Option (List Nat)) :
    ∀ (plan : List (Nat × Bool)) (W : List (Nat × List Nat)) (listed : Array Bool) (a : Act) (w : World), planOk ops plan listed = true → Down .any ops listed →
      (∀ j, listed.getD j true = false → W.lookup j = W0 j) → PW P ops Q B true plan W a w → wpAnyG P .any ops Q B W0 plan.length listed a w := by
  intro plan
  induction plan with
  | nil =>
    intro W listed a w hp _ _ h
    exact ⟨by simpa [planOk] using hp, h⟩
  | cons x rest ih =>
    obtain ⟨i, b⟩ := x
    intro W listed a w hp hdown hW h
    cases b with
    | true =>
      simp only [planOk, Bool.and_eq_true] at hp
      obtain ⟨⟨hr, hf⟩, hp'⟩ := hp
      obtain ⟨o, v, us, ho, hy, hS, hd, hrest⟩ := h
      refine wpAnyG_first (us := us) ho (Region.noSelect_spec hs) (fun c a w => hQ _ _ ho c a v w) rest.length listed a w ?_ hdown (by simpa using hr) hy hS ?_
      · intro j oj hoj hji hun hno
        refine ⟨Region.free_spec ho hf j oj hoj hji hun hno, fun l hl => ?_⟩
        rw [← hW j hun] at hl
        exact hd rfl _ (mem_of_lookup hl)
      · refine ih W _ _ _ hp' (hdown.list (by simpa using hr)) (fun j hj => ?_) hrest
        refine hW j ?_
        by_cases hij : i = j
        · subst hij
          rcases Nat.lt_or_ge i listed.size with h' | h'
          · simp [h'] at hj
          · simp [h'] at hj
        · rw [getD_set_ne true hij] at hj; exact hj
    | false =>
      simp only [planOk, Bool.and_eq_true, beq_iff_eq] at hp
      obtain ⟨hr, hp'⟩ := hp
      refine ⟨fun h0 => absurd h0 (by rw [hr]; simp), fun j hj => ?_⟩
      have hj' := hj
      rw [hr] at hj
      obtain rfl : j = i := by simpa using hj
      have hun : listed.getD j true = false := (mem_ready.1 (by rw [hr]; exact hj)).1
      refine wpOp_mono (fun a' w' hh => ⟨?_, ih _ _ _ _ hp' (hdown.list hj') (fun k hk => ?_) hh.2⟩) h
      · rw [← hW j hun]; exact hh.1 rfl
      · have hkj : k ≠ j := by
          rintro rfl
          rcases Nat.lt_or_ge k listed.size with h' | h'
          · simp [h'] at hk
          · simp [h'] at hk
        rw [lookup_filter_ne j k hkj]
        rw [getD_set_ne true (Ne.symm hkj)] at hk
        exact hW k hk

theorem wp_region_plan {id : Nat} {a : Act} {w : World} (hm : P.follows .mixedOrders = true) (hs : Region.noSelect ops = true)
    (hQ : ∀ (i : Nat) (o : Oper), ops[i]? = some o → ∀ c a v w, Q (.panic c) (a.put o.dst v) w → Q (.panic c) a w) (plan : List (Nat × Bool)) (W : List (Nat × List Nat)) (hlen : plan.length = ops.size)
    (hp : planOk ops plan (Array.replicate ops.size false) = true) {B : Nat} (h : PW P ops Q B true plan W a { w with drawn := w.drawn + 1 }) : (Code.region id ops true).wp P Q a w := by
  refine wp_region_any hm (wpAny_of_G (B := B) (W := fun j => W.lookup j) _ _ _ _ ?_)
  rw [← hlen]
  rw [← hlen] at hp
  refine wpAnyG_of_plan hs hQ _ plan W _ _ _ hp (fun j o ho hl => ?_) (fun _ _ => rfl) h
  have hlt := (Array.getElem?_eq_some_iff.1 ho).1
  rw [hlen] at hl
  simp [hlt] at hl

theorem wpOps_of_PW {B : Nat} {ck : Bool} : ∀ (plan : List (Nat × Bool)) (W : List (Nat × List Nat)) (a : Act) (w : World), PW P ops Q B ck plan W a w → wpOps P ops Q (plan.map (·.1)) a w
  | [], _, _, _, h => h
  | (i, true) :: rest, W, a, w, h => by
    obtain ⟨o, v, us, ho, hy, hS, hd, hrest⟩ := h
    rw [List.map_cons, wpOps_cons]
    exact hy.wpOp ho hS (wpOps_of_PW rest W _ _ hrest)
  | (i, false) :: rest, W, a, w, h => by
    rw [List.map_cons, wpOps_cons]
    exact wpOp_mono (fun a' w' hh => wpOps_of_PW rest _ _ _ hh.2) h

theorem wp_region_line {id : Nat} {a : Act} {w : World} (plan : List (Nat × Bool)) (W : List (Nat × List Nat)) (hp : plan.map (·.1) = List.range ops.size) {B : Nat} {ck : Bool}
    (h : PW P ops Q B ck plan W a w) : (Code.region id ops false).wp P Q a w :=
  wp_region (by rw [← hp]; exact wpOps_of_PW plan W a w h)

end draw
end Go.Sx
