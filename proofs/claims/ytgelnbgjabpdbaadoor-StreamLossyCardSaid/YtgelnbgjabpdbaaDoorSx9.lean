/- The engine of our walks, part 9: loops by a family of states. -/
import Derived.Test.YtgelnbgjabpdbaaDoorSx8
namespace Go.Sx
open Go

def Inv {α : Type} (n : Nat) (E : α → Env) (h : α → List (Nat × Obj)) (m : α → Nat) (ok : α → World → Prop) (r : List (Nat × Obj)) (F : List (List Nat × World)) : Nat → Act → World → Prop :=
  fun j a w => ∃ x, ok x w ∧ m x = j ∧ St n (E x) (h x) r F a w

section loops
variable {P : Program} {f : Func} {R : Act → World → Prop} {n : Nat} {k : List Itm} {E : Env} {h r : List (Nat × Obj)} {F : List (List Nat × World)} {α : Type} {Ex : α → Env} {hx : α → List (Nat × Obj)} {m : α → Nat} {ok : α → World → Prop}

theorem St.sub {E' : Env} {h' r' : List (Nat × Obj)} {F' : List (List Nat × World)} {a : Act} {w : World} (s : St n E h r F a w) (hE : ∀ t ev, E'.lookup t = some ev → E.lookup t = some ev) (hh : ∀ x ∈ h', x ∈ h) (hn : (h.map (·.1)).Nodup → (h'.map (·.1)).Nodup) (hr : ∀ x ∈ r', x ∈ r) (hF : ∀ x ∈ F', x ∈ F) :
    St n E' h' r' F' a w :=
  ⟨s.ag.sub hE, ⟨fun x hx => s.own.own x (hh x hx), hn s.own.nodup, fun x hx => s.own.ro x (hr x hx), fun x hx hm => s.own.apart x (hr x hx) (by
    obtain ⟨y, hy, he⟩ := List.mem_map.1 hm
    exact List.mem_map.2 ⟨y, hh y hy, he⟩)⟩, fun f hf => s.fr f (hF f hf), fun f hf x hx => s.may f (hF f hf) x (hh x hx)⟩

theorem St.at {a : Act} {w : World} (s : St n E h r F a w) (i : Nat) {b : Nat} {o : Obj} (hi : h[i]? = some (b, o)) : w.heap[b]? = some o := s.own.own _ (List.mem_of_getElem? hi)
theorem St.fresh {a : Act} {w w0 : World} (s : St n E h r F a w) (j i : Nat) {ids : List Nat} {b : Nat} {o : Obj} (hF : F[j]? = some (ids, w0)) (hi : h[i]? = some (b, o)) (hn : b ∉ ids) : w0.heap.size ≤ b :=
  (s.may _ (List.mem_of_getElem? hF) _ (List.mem_of_getElem? hi)).resolve_left hn

/-- Behind a call that turns the blocks at the positions ps (ids M), and hands new ones over. -/
theorem did_gen {a : Act} {w w' : World} {M : List Nat} (s : St n E h r F a w) (hf : Fr M w w') (ps : List Nat) (h2 news : List (Nat × Obj)) (hids : h2.map (·.1) = h.map (·.1)) (hsame : ∀ (i : Nat) x, h2[i]? = some x → i ∈ ps ∨ h[i]? = some x)
    (hM : ∀ m ∈ M, ∃ i ∈ ps, ∃ o, h[i]? = some (m, o)) (hset : ∀ i ∈ ps, ∀ x, h2[i]? = some x → w'.heap[x.1]? = some x.2) (hnew : ∀ x ∈ news, w.heap.size ≤ x.1 ∧ w'.heap[x.1]? = some x.2) (hnd : (news.map (·.1)).Nodup) :
    Did h (h2 ++ news) ps w w' ∧ Own (h2 ++ news) r w' := by
  have hlen : h2.length = h.length := by have := congrArg List.length hids; simpa using this
  have hin : ∀ (i : Nat) x, h[i]? = some x → x.1 ∈ M → i ∈ ps := fun i x hi hm => by
    obtain ⟨j, hj, o, ho⟩ := hM _ hm
    have h1 : (h.map (·.1))[i]? = some x.1 := by simp [hi]
    have h3 : (h.map (·.1))[j]? = some x.1 := by simp [ho]
    rw [(List.getElem?_inj (List.getElem?_eq_some_iff.1 h1).1 s.own.nodup).1 (h1.trans h3.symm)]
    exact hj
  have hro : ∀ x ∈ r, w'.heap[x.1]? = some x.2 := fun x hx => by
    refine (hf.block x.1 (s.own.ro.lt hx) fun hm => ?_).trans (s.own.ro x hx)
    obtain ⟨j, _, o, ho⟩ := hM _ hm
    exact s.own.apart x hx (List.mem_map.2 ⟨_, List.mem_of_getElem? ho, rfl⟩)
  refine ⟨⟨hf.os, hf.tape, hf.output, hf.size, fun b hb hn => hf.block b hb fun hm => ?_, fun i hi => ?_, by simp [hlen], fun i hi x hx => ?_⟩, ⟨fun x hx => ?_, ?_, hro, fun x hx hm => ?_⟩⟩
  · obtain ⟨j, hj, o, ho⟩ := hM _ hm
    exact hn j hj o ho
  · rw [List.getElem?_append_left (by omega), ← List.getElem?_map, ← List.getElem?_map, hids]
  · rw [List.getElem?_append_right (by omega)] at hx
    exact (hnew x (List.mem_of_getElem? hx)).1
  · rcases List.mem_append.1 hx with hx | hx
    · obtain ⟨i, hi⟩ := List.getElem?_of_mem hx
      by_cases hp : i ∈ ps
      · exact hset i hp x hi
      · have hh : h[i]? = some x := (hsame i x hi).resolve_left hp
        exact (hf.block x.1 (s.own.own.lt (List.mem_of_getElem? hh)) fun hm => hp (hin i x hh hm)).trans (s.own.own x (List.mem_of_getElem? hh))
    · exact (hnew x hx).2
  · rw [List.map_append, hids, List.nodup_append]
    refine ⟨s.own.nodup, hnd, fun x hx y hy => ?_⟩
    obtain ⟨u, hu, rfl⟩ := List.mem_map.1 hx
    obtain ⟨v, hv, rfl⟩ := List.mem_map.1 hy
    have h1 := s.own.own.lt hu
    have h2 := (hnew v hv).1
    omega
  · rw [List.map_append, hids] at hm
    rcases List.mem_append.1 hm with hm | hm
    · exact s.own.apart x hx hm
    · obtain ⟨v, hv, he⟩ := List.mem_map.1 hm
      have h1 := s.own.ro.lt hx
      have h2 := (hnew v hv).1
      omega
theorem did_turn1 {a : Act} {w w' : World} {b : Nat} {o o' : Obj} (s : St n E h r F a w) (hf : Fr [b] w w') (p : Nat) (hp : h[p]? = some (b, o)) (hb : w'.heap[b]? = some o') (news : List (Nat × Obj)) (hnew : ∀ x ∈ news, w.heap.size ≤ x.1 ∧ w'.heap[x.1]? = some x.2) (hnd : (news.map (·.1)).Nodup) :
    Did h (h.set p (b, o') ++ news) [p] w w' ∧ Own (h.set p (b, o') ++ news) r w' := by
  refine did_gen s hf [p] _ news (set_ids hp) (fun i x hi => ?_) (fun m hm => ⟨p, by simp, o, by rw [hp]; simp at hm; rw [hm]⟩) (fun i hi x hx => ?_) hnew hnd
  · rw [List.getElem?_set] at hi
    by_cases hpi : p = i
    · exact .inl (by simp [hpi])
    · rw [if_neg hpi] at hi; exact .inr hi
  · simp at hi; subst hi
    rw [List.getElem?_set] at hx
    simp [(List.getElem?_eq_some_iff.1 hp).1] at hx
    rw [← hx]; exact hb
theorem did_turn2 {a : Act} {w w' : World} {b c : Nat} {o o' u u' : Obj} (s : St n E h r F a w) (hf : Fr [b, c] w w') (p q : Nat) (hp : h[p]? = some (b, o)) (hq : h[q]? = some (c, u)) (hpq : p ≠ q) (hb : w'.heap[b]? = some o') (hc : w'.heap[c]? = some u') (news : List (Nat × Obj)) (hnew : ∀ x ∈ news, w.heap.size ≤ x.1 ∧ w'.heap[x.1]? = some x.2) (hnd : (news.map (·.1)).Nodup) :
    Did h ((h.set p (b, o')).set q (c, u') ++ news) [p, q] w w' ∧ Own ((h.set p (b, o')).set q (c, u') ++ news) r w' := by
  have hq' : (h.set p (b, o'))[q]? = some (c, u) := by rw [List.getElem?_set, if_neg hpq]; exact hq
  refine did_gen s hf [p, q] _ news ((set_ids hq').trans (set_ids hp)) (fun i x hi => ?_) (fun m hm => ?_) (fun i hi x hx => ?_) hnew hnd
  · rw [List.getElem?_set] at hi
    by_cases hqi : q = i
    · exact .inl (by simp [hqi])
    · rw [if_neg hqi, List.getElem?_set] at hi
      by_cases hpi : p = i
      · exact .inl (by simp [hpi])
      · rw [if_neg hpi] at hi; exact .inr hi
  · simp at hm
    rcases hm with rfl | rfl
    · exact ⟨p, by simp, o, hp⟩
    · exact ⟨q, by simp, u, hq⟩
  · have hl1 := (List.getElem?_eq_some_iff.1 hp).1
    have hl2 := (List.getElem?_eq_some_iff.1 hq).1
    simp at hi
    by_cases hiq : i = q
    · subst hiq
      rw [List.getElem?_set] at hx
      simp [hl2] at hx
      rw [← hx]; exact hc
    · obtain rfl : i = p := by rcases hi with h | h; exact h; exact absurd h hiq
      rw [List.getElem?_set, if_neg (Ne.symm hiq), List.getElem?_set] at hx
      simp [hl1] at hx
      rw [← hx]; exact hb

theorem did_pure2 {a : Act} {w w' : World} {b c : Nat} {o u : Obj} (s : St n E h r F a w) (hf : Fr [] w w') (hb : w'.heap[b]? = some o) (hc : w'.heap[c]? = some u) (hbn : w.heap.size ≤ b) (hcn : w.heap.size ≤ c) (hne : b ≠ c) :
    Did h (h ++ [(b, o), (c, u)]) [] w w' ∧ Own (h ++ [(b, o), (c, u)]) r w' :=
  did_gen s hf [] h [(b, o), (c, u)] rfl (fun _ _ hi => .inr hi) (by simp) (by simp) (by
    intro x hx
    simp only [List.mem_cons, List.not_mem_nil, or_false] at hx
    rcases hx with rfl | rfl
    · exact ⟨hbn, hb⟩
    · exact ⟨hcn, hc⟩) (by simpa using hne)

/-- A loop that is left in its first round. -/
theorem J_loop1 {b : Sk} (H : ∀ I, J P f R n (.c b :: .back I 0 :: k) E h r F) : J P f R n (.c (.loop b) :: k) E h r F :=
  J_loop (fun j a w => j = 0 ∧ St n E h r F a w) (fun _ _ s => ⟨0, rfl, s⟩) fun j a w ⟨hj, s⟩ => by
    subst hj
    exact H _ a w s

/-- A loop: its states are the family's; at each round's start the world is a reference. -/
theorem J_loopx {b : Sk} (Ex : α → Env) (hx : α → List (Nat × Obj)) (m : α → Nat) (ok : α → World → Prop) (x0 : α) (ts : List Nat) (hok : ∀ a w, St n E h r F a w → ok x0 w) (hE : keepE E ts = Ex x0) (hh : h = hx x0)
    (round : ∀ x w, ok x w → J P f R n (.c b :: .back (Inv n Ex hx m ok r F) (m x) :: k) (Ex x) (hx x) r (((hx x).map (·.1), w) :: F)) : J P f R n (.c (.loop b) :: k) E h r F := by
  refine J_loop (Inv n Ex hx m ok r F) (fun a w s => ⟨m x0, x0, hok a w s, rfl, ?_⟩) fun j a w ⟨x, hox, hj, s⟩ => ?_
  · refine s.sub (fun t ev ht => ?_) (fun y hy => by rw [hh]; exact hy) (fun hn => by rw [← hh]; exact hn) (fun _ h => h) (fun _ h => h)
    rw [← hE] at ht
    exact keepE_sub E ts t ev ht
  · subst hj
    exact round x w hox a w s.ref

theorem J_backx {r0 : List (Nat × Obj)} {F0 : List (List Nat × World)} {j : Nat} (x : α) (ts : List Nat) (hok : ∀ a w, St n E h r F a w → ok x w) (hm : m x < j) (hE : keepE E ts = Ex x) (hh : ∀ y ∈ hx x, y ∈ h) (hn : (h.map (·.1)).Nodup → ((hx x).map (·.1)).Nodup)
    (hr : ∀ y ∈ r0, y ∈ r) (hF : ∀ y ∈ F0, y ∈ F) : J P f R n (.back (Inv n Ex hx m ok r0 F0) j :: k) E h r F := fun a w s => by
  simp only [wpK]
  exact ⟨m x, hm, x, hok a w s, rfl, s.sub (fun t ev ht => by rw [← hE] at ht; exact keepE_sub E ts t ev ht) hh hn hr hF⟩
end loops
end Go.Sx
