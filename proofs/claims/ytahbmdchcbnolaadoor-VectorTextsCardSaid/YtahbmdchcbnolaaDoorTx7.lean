/- The engine of our walks, part 7 (with ghosts): chunks, steps on ghosts, what is read, loops. -/
import Derived.Test.YtahbmdchcbnolaaDoorTx6
namespace Go.Sx
open Go

/-- xs, read k by k, are the rows. -/
structure RowsAt (w : World) (S : Nat → Prop) (xs : List Value) (k : Nat) (rows : List (List D)) : Prop where
  len : ∀ row ∈ rows, row.length = k
  rep : ∀ (i j : Nat) (row : List D) (d : D), rows[i]? = some row → row[j]? = some d → ∃ u, xs[i * k + j]? = some u ∧ Rep w S u d
theorem RowsAt.mono {w w' : World} {S S' : Nat → Prop} {xs : List Value} {k : Nat} {rows : List (List D)} (h : RowsAt w S xs k rows) (hS : ∀ b, S b → b < w.heap.size → S' b ∧ w'.heap[b]? = w.heap[b]?) : RowsAt w' S' xs k rows :=
  ⟨h.len, fun i j row d h1 h2 => by
    obtain ⟨u, h3, h4⟩ := h.rep i j row d h1 h2
    exact ⟨u, h3, h4.mono hS⟩⟩
theorem idx_lt {i j k n : Nat} (hi : i < n) (hj : j < k) : i * k + j < n * k := by
  calc i * k + j < i * k + k := by omega
    _ = (i + 1) * k := by rw [Nat.add_mul, Nat.one_mul]
    _ ≤ n * k := Nat.mul_le_mul_right k hi
theorem RowsAt.app {w : World} {S : Nat → Prop} {xs ys : List Value} {k : Nat} {rows rows2 : List (List D)} (h : RowsAt w S xs k rows) (hl : xs.length = rows.length * k) (h2 : RowsAt w S ys k rows2) : RowsAt w S (xs ++ ys) k (rows ++ rows2) := by
  refine ⟨fun row hr => ?_, fun i j row d hi hj => ?_⟩
  · rcases List.mem_append.1 hr with hr | hr
    · exact h.len row hr
    · exact h2.len row hr
  · have hjr := (List.getElem?_eq_some_iff.1 hj).1
    rcases Nat.lt_or_ge i rows.length with hlt | hge
    · rw [List.getElem?_append_left hlt] at hi
      obtain ⟨u, hu, hr⟩ := h.rep i j row d hi hj
      have hjk : j < k := by rw [← h.len row (List.mem_of_getElem? hi)]; exact hjr
      refine ⟨u, ?_, hr⟩
      rw [List.getElem?_append_left (by rw [hl]; exact idx_lt hlt hjk)]
      exact hu
    · rw [List.getElem?_append_right hge] at hi
      obtain ⟨u, hu, hr⟩ := h2.rep _ j row d hi hj
      refine ⟨u, ?_, hr⟩
      have e : i * k + j = rows.length * k + ((i - rows.length) * k + j) := by
        rw [Nat.sub_mul]
        have := Nat.mul_le_mul_right k hge
        omega
      rw [e, List.getElem?_append_right (by rw [hl]; omega), hl, Nat.add_sub_cancel_left]
      exact hu
theorem RowsAt.nil (w : World) (S : Nat → Prop) (xs : List Value) (k : Nat) : RowsAt w S xs k [] := ⟨by simp, by simp⟩
theorem RowsAt.one {w : World} {S : Nat → Prop} {xs : List Value} {k : Nat} {rows : List (List D)} (h : RowsAt w S xs k rows) (hl : xs.length = rows.length * k) : ∀ u ∈ xs, u.oneCell' = true := by
  intro u hu
  obtain ⟨q, hq⟩ := List.getElem?_of_mem hu
  have hlt : q < rows.length * k := by rw [← hl]; exact (List.getElem?_eq_some_iff.1 hq).1
  have hk : 0 < k := by
    rcases Nat.eq_zero_or_pos k with h0 | h0
    · subst h0; simp at hlt
    · exact h0
  have h1 : q / k < rows.length := Nat.div_lt_of_lt_mul (by rw [Nat.mul_comm]; exact hlt)
  have h2 : q % k < (rows[q / k]'h1).length := by rw [h.len _ (List.getElem_mem h1)]; exact Nat.mod_lt _ hk
  obtain ⟨u', h3, h4⟩ := h.rep (q / k) (q % k) _ _ (List.getElem?_eq_getElem h1) (List.getElem?_eq_getElem h2)
  rw [Nat.mul_comm, Nat.div_add_mod, hq] at h3
  cases h3
  exact h4.one

/-- A block that is owned. -/
def cObj (b : Nat) (o : Obj) : Chunk where
  P w _ fp := fp = [b] ∧ w.heap[b]? = some o
  mono := by
    intro w w' S S' fp h hb _
    exact ⟨h.1, (hb b (by rw [h.1]; simp)).trans h.2⟩
/-- A slice whose array is owned: nil, or a row from its beginning. -/
def cAcc (v : Value) (e k : Nat) (rows : List (List D)) : Chunk where
  P w S fp := 0 < k ∧ ((rows = [] ∧ v = .slice none 0 0 ∧ fp = []) ∨ ∃ g cap cur xs, v = .slice (some ⟨g, 0, none⟩) rows.length cap ∧ fp = [g] ∧ w.heap[g]? = some (.cells cur e (0, 0)) ∧ Row cur cap rows.length k xs ∧ RowsAt w S xs k rows)
  mono := fun ⟨hk, h⟩ hb hS => ⟨hk, by
    rcases h with h | ⟨g, cap, cur, xs, h1, h2, h3, h4, h5⟩
    · exact .inl h
    · exact .inr ⟨g, cap, cur, xs, h1, h2, (hb _ (by rw [h2]; simp)).trans h3, h4, h5.mono hS⟩⟩
def cPure (p : Prop) : Chunk where
  P _ _ fp := fp = [] ∧ p
  mono := fun h _ _ => h
def cRep (v : Value) (d : D) : Chunk where
  P w S fp := fp = [] ∧ Rep w S v d
  mono := by
    intro w w' S S' fp h _ hS
    exact ⟨h.1, h.2.mono hS⟩
def cStar (cs : List Chunk) : Chunk where
  P w S fp := ∃ fps : List (List Nat), fp = fps.flatten ∧ Chs w S cs fps
  mono := by
    intro w w' S S' fp h hb hS
    obtain ⟨fps, h1, h2⟩ := h
    exact ⟨fps, h1, h2.mono (fun b hm => hb b (by rw [h1]; exact hm)) hS⟩
def cExi {α : Type} (f : α → Chunk) : Chunk where
  P w S fp := ∃ x, (f x).P w S fp
  mono := fun ⟨x, h⟩ hb hS => ⟨x, (f x).mono h hb hS⟩
/-- Two ways of saying one thing. -/
def Chunk.eqv (c c' : Chunk) : Prop := ∀ w S fp, c.P w S fp → c'.P w S fp

/-! Steps on ghosts. -/
theorem set_same {α : Type} {l : List α} {i : Nat} {x : α} (h : l[i]? = some x) : l.set i x = l := by
  obtain ⟨hi, he⟩ := List.getElem?_eq_some_iff.1 h
  subst he
  exact List.set_getElem_self hi
def Stp {α : Type} (h r : List (Nat × Obj)) (F : List (List Nat × World)) (Y : Ghost) (p : α → Prop) (Y' : α → Ghost) : Prop :=
  ∀ w fps, Own h r w → GhF Y h r F w fps → ∃ x fps', p x ∧ (∀ b ∈ fps'.flatten, b ∈ fps.flatten) ∧ GhF (Y' x) h r F w fps'

section steps
variable {P : Program} {f : Func} [Pan f] {R : Act → World → Prop} {n : Nat} [Dfr n] {kk : List Itm} {E : Env} {h r : List (Nat × Obj)} {F : List (List Nat × World)} {Y Y2 : Ghost} {α : Type} {p : α → Prop} {Y' : α → Ghost}
theorem J_stpx (hs : Stp h r F Y p Y') (H : ∀ x, p x → J P f R n kk E h r F (Y' x)) : J P f R n kk E h r F Y := fun a w ⟨fps, s⟩ => by
  obtain ⟨x, fps', hp, _, hg⟩ := hs w fps s.own s.gh
  exact H x hp a w ⟨fps', s.ag, s.own, s.fr, s.may, hg⟩
theorem JR_stpx {ops : Array Oper} {L0 : Nat} {ck : Bool} {plan : List (Nat × Bool)} {Wp : List (Nat × List Nat)} (hs : Stp h r F Y p Y') (H : ∀ x, p x → JR P f R n ops L0 ck plan Wp kk E h r F (Y' x)) : JR P f R n ops L0 ck plan Wp kk E h r F Y := fun B Hd fps a w s hH hR hN hW => by
  obtain ⟨x, fps', hp, hsub, hg⟩ := hs w fps s.own s.gh
  exact H x hp B Hd fps' a w ⟨s.ag, s.own, s.fr, s.may, hg⟩ (fun b hb => hH b (hsub b hb)) hR hN hW
theorem J_stp (hs : Stp h r F Y (fun _ : Unit => True) fun _ => Y2) (H : J P f R n kk E h r F Y2) : J P f R n kk E h r F Y := J_stpx hs fun _ _ => H
theorem JR_stp {ops : Array Oper} {L0 : Nat} {ck : Bool} {plan : List (Nat × Bool)} {Wp : List (Nat × List Nat)} (hs : Stp h r F Y (fun _ : Unit => True) fun _ => Y2) (H : JR P f R n ops L0 ck plan Wp kk E h r F Y2) : JR P f R n ops L0 ck plan Wp kk E h r F Y := JR_stpx hs fun _ _ => H
theorem St.stp {a : Act} {w : World} (s : St n E h r F Y a w) (hs : Stp h r F Y (fun _ : Unit => True) fun _ => Y2) : St n E h r F Y2 a w := by
  obtain ⟨fps, s⟩ := s
  obtain ⟨x, fps', hp, _, hg⟩ := hs w fps s.own s.gh
  exact ⟨fps', s.ag, s.own, s.fr, s.may, hg⟩

theorem mem_erase_flat {fps : List (List Nat)} {i b : Nat} (h : b ∈ (fps.eraseIdx i).flatten) : ∃ j x, j ≠ i ∧ fps[j]? = some x ∧ b ∈ x := by
  obtain ⟨x, hx, hb⟩ := List.mem_flatten.1 h
  obtain ⟨j, hj, he⟩ := List.mem_eraseIdx_iff_getElem?.1 hx
  exact ⟨j, x, hj, he, hb⟩
theorem erase_flat_sub {fps : List (List Nat)} {i b : Nat} (h : b ∈ (fps.eraseIdx i).flatten) : b ∈ fps.flatten := by
  obtain ⟨j, x, _, h1, h2⟩ := mem_erase_flat h
  exact List.mem_flatten.2 ⟨x, List.mem_of_getElem? h1, h2⟩
theorem nodup_sublist_flat {fps fps' : List (List Nat)} (h : fps.flatten.Nodup) (hs : fps'.Sublist fps) : fps'.flatten.Nodup := by
  induction hs with
  | slnil => exact h
  | cons x _ ih => exact ih (List.nodup_append.1 (by simpa using h)).2.1
  | cons_cons x hs ih =>
    rw [List.flatten_cons, List.nodup_append] at h ⊢
    refine ⟨h.1, ih h.2.1, fun a ha b hb => h.2.2 a ha b ?_⟩
    obtain ⟨y, hy, hby⟩ := List.mem_flatten.1 hb
    exact List.mem_flatten.2 ⟨y, hs.subset hy, hby⟩

/-- Fewer, or otherwise owned blocks: nothing else turns. -/
theorem GhF.less {w : World} {fps fps' : List (List Nat)} {C' : List Chunk} {G' : List (Value × D)} (H : GhF Y h r F w fps) (hsub : ∀ b ∈ fps'.flatten, b ∈ fps.flatten) (hnd : fps'.flatten.Nodup)
    (hC : Chs w (Sd Y h fps') C' fps') (hG : ∀ x ∈ G', Rep w (Sd Y h fps') x.1 x.2) : GhF ⟨Y.S, C', G'⟩ h r F w fps' :=
  ⟨hC, hnd, fun b hb => H.disj b (hsub b hb), fun x hx hm => H.apart x hx (hsub _ hm), fun f hf b hb => H.may f hf b (hsub b hb), fun b hb => H.lt b (hsub b hb), H.own, fun b hb => H.hid b (hsub b hb), H.top, hG⟩
theorem Sd_sub {fps fps' : List (List Nat)} (hsub : ∀ b ∈ fps'.flatten, b ∈ fps.flatten) {b : Nat} (h' : Sd Y h fps b) : Sd Y h fps' b := ⟨h'.1, h'.2.1, fun hm => h'.2.2 (hsub b hm)⟩

/-- What was owned is shared from now on. -/
theorem stp_freeze0 (i : Nat) {v : Value} {e k : Nat} {rows : List (List D)} (hi : Y.C[i]? = some (cAcc v e k rows)) : Stp h r F Y (fun _ : Unit => True) fun _ => ⟨Y.S, Y.C.eraseIdx i, Y.G ++ [(v, .sl k rows)]⟩ := by
  intro w fps hO H
  obtain ⟨fp, hfp, hk, hP⟩ := H.chs.at hi
  have hS : ∀ b, Sd Y h fps b → Sd Y h (fps.eraseIdx i) b := fun b hb => Sd_sub (fun b hb => erase_flat_sub hb) hb
  refine ⟨(), fps.eraseIdx i, trivial, fun b hb => erase_flat_sub hb, H.less (fun b hb => erase_flat_sub hb) (nodup_sublist_flat H.nodup (List.eraseIdx_sublist _ _)) (H.chs.erase.mono (fun _ _ => rfl) fun b hb _ => ⟨hS b hb, rfl⟩) fun x hx => ?_⟩
  rcases List.mem_append.1 hx with hx | hx
  · exact (H.g x hx).mono fun b hb _ => ⟨hS b hb, rfl⟩
  · rw [List.mem_singleton] at hx
    subst hx
    rcases hP with ⟨rfl, rfl, _⟩ | ⟨g, cap, cur, xs, rfl, rfl, hg, hrow, hR⟩
    · exact .nil
    · refine Rep.of_row hg ?_ hrow hk hR.len fun i j row d h1 h2 => ?_
      · have hm : g ∈ fps.flatten := List.mem_flatten.2 ⟨[g], List.mem_of_getElem? hfp, by simp⟩
        refine ⟨H.hid g hm, H.disj g hm, fun hm2 => ?_⟩
        obtain ⟨j, x, hj, hx, hgx⟩ := mem_erase_flat hm2
        exact hj (flat_at H.nodup hx hfp hgx (by simp))
      · obtain ⟨u, hu, hr⟩ := hR.rep i j row d h1 h2
        exact ⟨u, hu, hr.mono fun b hb _ => ⟨hS b hb, rfl⟩⟩
theorem stp_freeze {S0 : Nat → Prop} {C0 : List Chunk} {G0 : List (Value × D)} (i : Nat) {v : Value} {e k : Nat} {rows : List (List D)} (hi : C0[i]? = some (cAcc v e k rows)) : Stp h r F ⟨S0, C0, G0⟩ (fun _ : Unit => True) fun _ => ⟨S0, C0.eraseIdx i, G0 ++ [(v, .sl k rows)]⟩ := stp_freeze0 (Y := ⟨S0, C0, G0⟩) i hi
/-- Chunks and facts dropped, or in another order. -/
theorem stp_pick0 (cs gs : List Nat) {C' : List Chunk} {G' : List (Value × D)} (hC : pick Y.C cs = C') (hG : pick Y.G gs = G') (hcs : cs.Nodup := by decide) : Stp h r F Y (fun _ : Unit => True) fun _ => ⟨Y.S, C', G'⟩ := by
  intro w fps hO H
  subst hC hG
  have hS : ∀ b, Sd Y h fps b → Sd Y h (pick fps cs) b := fun b hb => Sd_sub (fun b hb => pick_flat_sub hb) hb
  exact ⟨(), pick fps cs, trivial, fun b hb => pick_flat_sub hb, H.less (fun b hb => pick_flat_sub hb) (pick_flat_nodup H.nodup hcs) ((H.chs.pick cs).mono (fun _ _ => rfl) fun b hb _ => ⟨hS b hb, rfl⟩) fun x hx => (H.g x (pick_mem rfl x hx)).mono fun b hb _ => ⟨hS b hb, rfl⟩⟩
theorem stp_pick {S0 : Nat → Prop} {C0 : List Chunk} {G0 : List (Value × D)} (cs gs : List Nat) {C' : List Chunk} {G' : List (Value × D)} (hC : pick C0 cs = C') (hG : pick G0 gs = G') (hcs : cs.Nodup := by decide) : Stp h r F ⟨S0, C0, G0⟩ (fun _ : Unit => True) fun _ => ⟨S0, C', G'⟩ := stp_pick0 (Y := ⟨S0, C0, G0⟩) cs gs hC hG hcs
/-- A chunk that owns no block. -/
theorem stp_add0 (c : Chunk) (hc : ∀ w S, c.P w S []) : Stp h r F Y (fun _ : Unit => True) fun _ => ⟨Y.S, Y.C ++ [c], Y.G⟩ := by
  intro w fps hO H
  have e : (fps ++ [[]]).flatten = fps.flatten := by simp
  refine ⟨(), fps ++ [[]], trivial, fun b hb => by rwa [e] at hb, H.less (fun b hb => by rwa [e] at hb) (by rw [e]; exact H.nodup) ?_ fun x hx => (H.g x hx).mono fun b hb _ => ⟨Sd_sub (fun b hb => by rwa [e] at hb) hb, rfl⟩⟩
  exact (H.chs.app (show Chs w (Sd Y h fps) [c] [[]] from ⟨hc w _, trivial⟩)).mono (fun _ _ => rfl) fun b hb _ => ⟨Sd_sub (fun b hb => by rwa [e] at hb) hb, rfl⟩
theorem stp_add {S0 : Nat → Prop} {C0 : List Chunk} {G0 : List (Value × D)} (c : Chunk) (hc : ∀ w S, c.P w S []) : Stp h r F ⟨S0, C0, G0⟩ (fun _ : Unit => True) fun _ => ⟨S0, C0 ++ [c], G0⟩ := stp_add0 (Y := ⟨S0, C0, G0⟩) c hc
theorem stp_acc0 (e k : Nat) (hk : 0 < k := by decide) : Stp h r F Y (fun _ : Unit => True) fun _ => ⟨Y.S, Y.C ++ [cAcc (.slice none 0 0) e k []], Y.G⟩ := stp_add _ fun _ _ => ⟨hk, .inl ⟨rfl, rfl, rfl⟩⟩
theorem stp_acc {S0 : Nat → Prop} {C0 : List Chunk} {G0 : List (Value × D)} (e k : Nat) (hk : 0 < k := by decide) : Stp h r F ⟨S0, C0, G0⟩ (fun _ : Unit => True) fun _ => ⟨S0, C0 ++ [cAcc (.slice none 0 0) e k []], G0⟩ := stp_acc0 (Y := ⟨S0, C0, G0⟩) e k hk
theorem stp_accm0 {β : Type} (enc : β → List D) (e k : Nat) (hk : 0 < k := by decide) : Stp h r F Y (fun _ : Unit => True) fun _ => ⟨Y.S, Y.C ++ [cAcc (.slice none 0 0) e k (([] : List β).map enc)], Y.G⟩ := stp_acc e k hk
theorem stp_accm {S0 : Nat → Prop} {C0 : List Chunk} {G0 : List (Value × D)} {β : Type} (enc : β → List D) (e k : Nat) (hk : 0 < k := by decide) : Stp h r F ⟨S0, C0, G0⟩ (fun _ : Unit => True) fun _ => ⟨S0, C0 ++ [cAcc (.slice none 0 0) e k (([] : List β).map enc)], G0⟩ := stp_accm0 (Y := ⟨S0, C0, G0⟩) enc e k hk
/-- A fact more. -/
theorem stp_fact0 {v : Value} {d : D} (hf : ∀ w S, (∀ x ∈ Y.G, Rep w S x.1 x.2) → Rep w S v d) : Stp h r F Y (fun _ : Unit => True) fun _ => ⟨Y.S, Y.C, Y.G ++ [(v, d)]⟩ := by
  intro w fps hO H
  refine ⟨(), fps, trivial, fun _ hb => hb, H.less (fun _ hb => hb) H.nodup H.chs fun x hx => ?_⟩
  rcases List.mem_append.1 hx with hx | hx
  · exact H.g x hx
  · rw [List.mem_singleton] at hx
    subst hx
    exact hf w _ H.g
theorem stp_fact {S0 : Nat → Prop} {C0 : List Chunk} {G0 : List (Value × D)} {v : Value} {d : D} (hf : ∀ w S, (∀ x ∈ G0, Rep w S x.1 x.2) → Rep w S v d) : Stp h r F ⟨S0, C0, G0⟩ (fun _ : Unit => True) fun _ => ⟨S0, C0, G0 ++ [(v, d)]⟩ := stp_fact0 (Y := ⟨S0, C0, G0⟩) hf
/-- Parts of a bundle of facts. -/
theorem stp_all {S0 : Nat → Prop} {C0 : List Chunk} {G0 : List (Value × D)} (p : Nat) (qs : List Nat) {v : Value} {l l' : List (Value × D)} (hp : G0[p]? = some (v, .all l)) (hl : pick l qs = l') : Stp h r F ⟨S0, C0, G0⟩ (fun _ : Unit => True) fun _ => ⟨S0, C0, G0 ++ l'⟩ := by
  intro w fps hO H
  refine ⟨(), fps, trivial, fun _ hb => hb, H.less (fun _ hb => hb) H.nodup H.chs fun x hx => ?_⟩
  rcases List.mem_append.1 hx with hx | hx
  · exact H.g x hx
  · exact (H.g _ (List.mem_of_getElem? hp)).part x (pick_mem hl x hx)
/-- What a chunk says besides. -/
theorem stp_know {p : Prop} (hp : ∀ w fps, GhF Y h r F w fps → p) : Stp h r F Y (fun _ : Unit => p) fun _ => Y := fun w fps _ H => ⟨(), fps, hp w fps H, fun _ hb => hb, H⟩
/-- The chunk at a place, said otherwise. -/
theorem stp_conv0 (i : Nat) {c c' : Chunk} (hi : Y.C[i]? = some c) (hc : c.eqv c') : Stp h r F Y (fun _ : Unit => True) fun _ => ⟨Y.S, Y.C.set i c', Y.G⟩ := by
  intro w fps hO H
  obtain ⟨fp, hfp, hP⟩ := H.chs.at hi
  have hs := H.chs.set (hc _ _ _ hP) (i := i)
  have e : fps.set i fp = fps := set_same hfp
  rw [e] at hs
  exact ⟨(), fps, trivial, fun _ hb => hb, H.less (fun _ hb => hb) H.nodup hs H.g⟩
theorem stp_conv {S0 : Nat → Prop} {C0 : List Chunk} {G0 : List (Value × D)} (i : Nat) {c c' : Chunk} (hi : C0[i]? = some c) (hc : c.eqv c') : Stp h r F ⟨S0, C0, G0⟩ (fun _ : Unit => True) fun _ => ⟨S0, C0.set i c', G0⟩ := stp_conv0 (Y := ⟨S0, C0, G0⟩) i hi hc
theorem stp_exi0 (i : Nat) {β : Type} {g : β → Chunk} (hi : Y.C[i]? = some (cExi g)) : Stp h r F Y (fun _ : β => True) fun x => ⟨Y.S, Y.C.set i (g x), Y.G⟩ := by
  intro w fps hO H
  obtain ⟨fp, hfp, x, hP⟩ := H.chs.at hi
  have hs := H.chs.set hP (i := i)
  have e : fps.set i fp = fps := set_same hfp
  rw [e] at hs
  exact ⟨x, fps, trivial, fun _ hb => hb, H.less (fun _ hb => hb) H.nodup hs H.g⟩
theorem stp_exi {S0 : Nat → Prop} {C0 : List Chunk} {G0 : List (Value × D)} (i : Nat) {β : Type} {g : β → Chunk} (hi : C0[i]? = some (cExi g)) : Stp h r F ⟨S0, C0, G0⟩ (fun _ : β => True) fun x => ⟨S0, C0.set i (g x), G0⟩ := stp_exi0 (Y := ⟨S0, C0, G0⟩) i hi
theorem stp_pure0 (i : Nat) {p : Prop} (hi : Y.C[i]? = some (cPure p)) : Stp h r F Y (fun _ : Unit => p) fun _ => ⟨Y.S, Y.C.eraseIdx i, Y.G⟩ := by
  intro w fps hO H
  obtain ⟨fp, hfp, _, hp⟩ := H.chs.at hi
  exact ⟨(), fps.eraseIdx i, hp, fun b hb => erase_flat_sub hb, H.less (fun b hb => erase_flat_sub hb) (nodup_sublist_flat H.nodup (List.eraseIdx_sublist _ _)) (H.chs.erase.mono (fun _ _ => rfl) fun b hb _ => ⟨Sd_sub (fun b hb => erase_flat_sub hb) hb, rfl⟩) fun x hx => (H.g x hx).mono fun b hb _ => ⟨Sd_sub (fun b hb => erase_flat_sub hb) hb, rfl⟩⟩
theorem stp_pure {S0 : Nat → Prop} {C0 : List Chunk} {G0 : List (Value × D)} (i : Nat) {p : Prop} (hi : C0[i]? = some (cPure p)) : Stp h r F ⟨S0, C0, G0⟩ (fun _ : Unit => p) fun _ => ⟨S0, C0.eraseIdx i, G0⟩ := stp_pure0 (Y := ⟨S0, C0, G0⟩) i hi
theorem stp_rep0 (i : Nat) {v : Value} {d : D} (hi : Y.C[i]? = some (cRep v d)) : Stp h r F Y (fun _ : Unit => True) fun _ => ⟨Y.S, Y.C.eraseIdx i, Y.G ++ [(v, d)]⟩ := by
  intro w fps hO H
  obtain ⟨fp, hfp, _, hp⟩ := H.chs.at hi
  refine ⟨(), fps.eraseIdx i, trivial, fun b hb => erase_flat_sub hb, H.less (fun b hb => erase_flat_sub hb) (nodup_sublist_flat H.nodup (List.eraseIdx_sublist _ _)) (H.chs.erase.mono (fun _ _ => rfl) fun b hb _ => ⟨Sd_sub (fun b hb => erase_flat_sub hb) hb, rfl⟩) fun x hx => ?_⟩
  rcases List.mem_append.1 hx with hx | hx
  · exact (H.g x hx).mono fun b hb _ => ⟨Sd_sub (fun b hb => erase_flat_sub hb) hb, rfl⟩
  · rw [List.mem_singleton] at hx
    subst hx
    exact hp.mono fun b hb _ => ⟨Sd_sub (fun b hb => erase_flat_sub hb) hb, rfl⟩
theorem stp_rep {S0 : Nat → Prop} {C0 : List Chunk} {G0 : List (Value × D)} (i : Nat) {v : Value} {d : D} (hi : C0[i]? = some (cRep v d)) : Stp h r F ⟨S0, C0, G0⟩ (fun _ : Unit => True) fun _ => ⟨S0, C0.eraseIdx i, G0 ++ [(v, d)]⟩ := stp_rep0 (Y := ⟨S0, C0, G0⟩) i hi
/-- The parts of a chunk, behind the others. -/
theorem stp_star0 (i : Nat) {cs : List Chunk} (hi : Y.C[i]? = some (cStar cs)) : Stp h r F Y (fun _ : Unit => True) fun _ => ⟨Y.S, Y.C.eraseIdx i ++ cs, Y.G⟩ := by
  intro w fps hO H
  obtain ⟨fp, hfp, fps2, rfl, hP⟩ := H.chs.at hi
  have hmem : ∀ b, b ∈ fps2.flatten → b ∈ fps.flatten := fun b hb => List.mem_flatten.2 ⟨_, List.mem_of_getElem? hfp, hb⟩
  have hsub : ∀ b, b ∈ (fps.eraseIdx i ++ fps2).flatten → b ∈ fps.flatten := fun b hb => by
    rw [List.flatten_append] at hb
    rcases List.mem_append.1 hb with hb | hb
    · exact erase_flat_sub hb
    · exact hmem b hb
  have hS : ∀ b, Sd Y h fps b → Sd Y h (fps.eraseIdx i ++ fps2) b := fun b hb => Sd_sub hsub hb
  have hnd : fps2.flatten.Nodup := by
    obtain ⟨l1, l2, rfl⟩ := List.append_of_mem (List.mem_of_getElem? hfp)
    have := H.nodup
    rw [List.flatten_append, List.flatten_cons] at this
    exact (List.nodup_append.1 (List.nodup_append.1 this).2.1).1
  refine ⟨(), fps.eraseIdx i ++ fps2, trivial, hsub, H.less hsub ?_ ((H.chs.erase.app hP).mono (fun _ _ => rfl) fun b hb _ => ⟨hS b hb, rfl⟩) fun x hx => (H.g x hx).mono fun b hb _ => ⟨hS b hb, rfl⟩⟩
  rw [List.flatten_append, List.nodup_append]
  refine ⟨nodup_sublist_flat H.nodup (List.eraseIdx_sublist _ _), hnd, fun a ha b hb hab => ?_⟩
  subst hab
  obtain ⟨j, x, hj, hx, hax⟩ := mem_erase_flat ha
  exact hj (flat_at H.nodup hx hfp hax hb)

theorem stp_star {S0 : Nat → Prop} {C0 : List Chunk} {G0 : List (Value × D)} (i : Nat) {cs : List Chunk} (hi : C0[i]? = some (cStar cs)) : Stp h r F ⟨S0, C0, G0⟩ (fun _ : Unit => True) fun _ => ⟨S0, C0.eraseIdx i ++ cs, G0⟩ := stp_star0 (Y := ⟨S0, C0, G0⟩) i hi
/-- A row that is longer than its slice says: the slice is cut. -/
theorem acc_len {a : Option Addr} {m c e k : Nat} {rows : List (List D)} {w : World} {S : Nat → Prop} {fp : List Nat} (hP : (cAcc (.slice a m c) e k rows).P w S fp) : m = rows.length := by
  rcases hP.2 with ⟨rfl, h1, _⟩ | ⟨g, cap, cur, xs, h1, _⟩
  · cases h1; rfl
  · cases h1; rfl
theorem Rep.slen {w : World} {S : Nat → Prop} {a : Option Addr} {m c k : Nat} {rows : List (List D)} (h : Rep w S (.slice a m c) (.sl k rows)) : m = rows.length := by
  cases h <;> rfl
theorem stp_acclen0 (i : Nat) {a : Option Addr} {m c e k : Nat} {rows : List (List D)} (hi : Y.C[i]? = some (cAcc (.slice a m c) e k rows)) : Stp h r F Y (fun _ : Unit => m = rows.length) fun _ => Y :=
  stp_know fun w fps H => by
    obtain ⟨fp, _, hP⟩ := H.chs.at hi
    exact acc_len hP
theorem stp_acclen {S0 : Nat → Prop} {C0 : List Chunk} {G0 : List (Value × D)} (i : Nat) {a : Option Addr} {m c e k : Nat} {rows : List (List D)} (hi : C0[i]? = some (cAcc (.slice a m c) e k rows)) : Stp h r F ⟨S0, C0, G0⟩ (fun _ : Unit => m = rows.length) fun _ => ⟨S0, C0, G0⟩ := stp_acclen0 (Y := ⟨S0, C0, G0⟩) i hi
theorem stp_replen0 (i : Nat) {a : Option Addr} {m c k : Nat} {rows : List (List D)} (hi : Y.G[i]? = some (.slice a m c, .sl k rows)) : Stp h r F Y (fun _ : Unit => m = rows.length) fun _ => Y :=
  stp_know fun _ _ H => (H.g _ (List.mem_of_getElem? hi)).slen
theorem stp_replen {S0 : Nat → Prop} {C0 : List Chunk} {G0 : List (Value × D)} (i : Nat) {a : Option Addr} {m c k : Nat} {rows : List (List D)} (hi : G0[i]? = some (.slice a m c, .sl k rows)) : Stp h r F ⟨S0, C0, G0⟩ (fun _ : Unit => m = rows.length) fun _ => ⟨S0, C0, G0⟩ := stp_replen0 (Y := ⟨S0, C0, G0⟩) i hi
end steps

/-! What is read: the cells of a row of data. -/
def inst : List D → List (Option Addr × Nat) → List Value
  | [], _ => []
  | .v x :: ds, ls => x :: inst ds ls
  | .sl _ rows :: ds, l :: ls => .slice l.1 rows.length l.2 :: inst ds ls
  | .sl _ rows :: ds, [] => .slice none rows.length 0 :: inst ds []
  | .ptr _ :: ds, l :: ls => .pointer l.1 :: inst ds ls
  | .ptr _ :: ds, [] => .pointer none :: inst ds []
  | .obj _ :: ds, l :: ls => .pointer l.1 :: inst ds ls
  | .obj _ :: ds, [] => .pointer none :: inst ds []
  | .all _ :: ds, ls => .nilIface :: inst ds ls
def deep : List D → List (Option Addr × Nat) → List (Value × D)
  | [], _ => []
  | .v _ :: ds, ls => deep ds ls
  | .sl k rows :: ds, l :: ls => (.slice l.1 rows.length l.2, .sl k rows) :: deep ds ls
  | .sl _ _ :: ds, [] => deep ds []
  | .ptr d :: ds, l :: ls => (.pointer l.1, .ptr d) :: deep ds ls
  | .ptr _ :: ds, [] => deep ds []
  | .obj o :: ds, l :: ls => (.pointer l.1, .obj o) :: deep ds ls
  | .obj _ :: ds, [] => deep ds []
  | .all _ :: ds, ls => deep ds ls
def sls : List D → Nat
  | [] => 0
  | .v _ :: ds => sls ds
  | .sl _ _ :: ds => sls ds + 1
  | .ptr _ :: ds => sls ds + 1
  | .obj _ :: ds => sls ds + 1
  | .all _ :: ds => sls ds
theorem inst_ex {w : World} {S : Nat → Prop} : ∀ (ds : List D) (u : Nat → Value), (∀ j d, ds[j]? = some d → Rep w S (u j) d) → ∃ ls, ls.length = sls ds ∧ (∀ (j : Nat) x, (inst ds ls)[j]? = some x → x = u j) ∧ ∀ y ∈ deep ds ls, Rep w S y.1 y.2
  | [], u, _ => ⟨[], rfl, by simp [inst], by simp [deep]⟩
  | .v y :: ds, u, h => by
    obtain ⟨ls, h1, h2, h3⟩ := inst_ex ds (fun j => u (j + 1)) fun j d hd => h (j + 1) d (by simpa using hd)
    refine ⟨ls, h1, fun j x hx => ?_, h3⟩
    cases j with
    | zero =>
      simp only [inst, List.getElem?_cons_zero, Option.some.injEq] at hx
      rw [← hx]
      exact (h 0 _ rfl).plain.symm
    | succ j => exact h2 j x (by simpa [inst] using hx)
  | .all l :: ds, u, h => by
    obtain ⟨ls, h1, h2, h3⟩ := inst_ex ds (fun j => u (j + 1)) fun j d hd => h (j + 1) d (by simpa using hd)
    refine ⟨ls, h1, fun j x hx => ?_, h3⟩
    cases j with
    | zero =>
      simp only [inst, List.getElem?_cons_zero, Option.some.injEq] at hx
      have h0 := h 0 _ rfl
      rw [← hx]
      generalize u 0 = y at h0
      cases h0
      rfl
    | succ j => exact h2 j x (by simpa [inst] using hx)
  | .sl k rows :: ds, u, h => by
    obtain ⟨ls, h1, h2, h3⟩ := inst_ex ds (fun j => u (j + 1)) fun j d hd => h (j + 1) d (by simpa using hd)
    have h0 := h 0 _ rfl
    obtain ⟨a, c, hu, _⟩ := h0.form
    refine ⟨(a, c) :: ls, by simp [sls, h1], fun j x hx => ?_, fun y hy => ?_⟩
    · cases j with
      | zero =>
        simp only [inst, List.getElem?_cons_zero, Option.some.injEq] at hx
        rw [← hx, hu]
      | succ j => exact h2 j x (by simpa [inst] using hx)
    · simp only [deep, List.mem_cons] at hy
      rcases hy with rfl | hy
      · rw [← hu]; exact h0
      · exact h3 y hy
  | .ptr dd :: ds, u, h => by
    obtain ⟨ls, h1, h2, h3⟩ := inst_ex ds (fun j => u (j + 1)) fun j d hd => h (j + 1) d (by simpa using hd)
    have h0 := h 0 _ rfl
    obtain ⟨a, hu⟩ : ∃ a, u 0 = .pointer a := by
      generalize u 0 = x at h0
      cases h0
      exact ⟨_, rfl⟩
    refine ⟨(a, 0) :: ls, by simp [sls, h1], fun j x hx => ?_, fun y hy => ?_⟩
    · cases j with
      | zero =>
        simp only [inst, List.getElem?_cons_zero, Option.some.injEq] at hx
        rw [← hx, hu]
      | succ j => exact h2 j x (by simpa [inst] using hx)
    · simp only [deep, List.mem_cons] at hy
      rcases hy with rfl | hy
      · rw [← hu]; exact h0
      · exact h3 y hy
  | .obj dd :: ds, u, h => by
    obtain ⟨ls, h1, h2, h3⟩ := inst_ex ds (fun j => u (j + 1)) fun j d hd => h (j + 1) d (by simpa using hd)
    have h0 := h 0 _ rfl
    obtain ⟨a, hu⟩ : ∃ a, u 0 = .pointer a := by
      generalize u 0 = x at h0
      cases h0
      exact ⟨_, rfl⟩
    refine ⟨(a, 0) :: ls, by simp [sls, h1], fun j x hx => ?_, fun y hy => ?_⟩
    · cases j with
      | zero =>
        simp only [inst, List.getElem?_cons_zero, Option.some.injEq] at hx
        rw [← hx, hu]
      | succ j => exact h2 j x (by simpa [inst] using hx)
    · simp only [deep, List.mem_cons] at hy
      rcases hy with rfl | hy
      · rw [← hu]; exact h0
      · exact h3 y hy

theorem inst_len : ∀ (ds : List D) (ls : List (Option Addr × Nat)), (inst ds ls).length = ds.length
  | [], ls => by simp [inst]
  | .v _ :: ds, ls => by simp [inst, inst_len ds]
  | .sl _ _ :: ds, [] => by simp [inst, inst_len ds]
  | .sl _ _ :: ds, _ :: _ => by simp [inst, inst_len ds]
  | .ptr _ :: ds, [] => by simp [inst, inst_len ds]
  | .ptr _ :: ds, _ :: _ => by simp [inst, inst_len ds]
  | .obj _ :: ds, [] => by simp [inst, inst_len ds]
  | .obj _ :: ds, _ :: _ => by simp [inst, inst_len ds]
  | .all _ :: ds, ls => by simp [inst, inst_len ds]

section reads
variable {P : Program} {f : Func} [Pan f] {R : Act → World → Prop} {n : Nat} [Dfr n] {kk : List Itm} {E : Env} {h r : List (Nat × Obj)} {F : List (List Nat × World)} {Y : Ghost}

/-- The cells of the element at i. p: the fact's place. -/
theorem J_readl0 (p : Nat) {a : Option Addr} {m c k : Nat} {rows : List (List D)} (hG : Y.G[p]? = some (.slice a m c, .sl k rows)) (i : Nat) {row : List D} (hrow : rows[i]? = some row)
    (H : ∀ b off cs e fz ls, a = some ⟨b, off, none⟩ → ls.length = sls row → (∀ (j : Nat) u, (inst row ls)[j]? = some u → cs[off + i * k + j]? = some u) → J P f R n kk E h (r ++ [(b, .cells cs e fz)]) F ⟨Y.S, Y.C, Y.G ++ deep row ls⟩) : J P f R n kk E h r F Y := by
  intro a0 w ⟨fps, s⟩
  have hR := s.gh.g _ (List.mem_of_getElem? hG)
  have hlt := (List.getElem?_eq_some_iff.1 hrow).1
  cases hR with
  | nil => simp at hlt
  | sl u hb hS hc hk hl hcell hrep =>
    rename_i b off cs e fz
    obtain ⟨ls, h1, h2, h3⟩ := inst_ex row (u i) fun j d hd => hrep i j row d hrow hd
    refine H b off cs e fz ls rfl h1 (fun j x hx => ?_) a0 w ⟨fps, s.ag, ⟨s.own.own, s.own.nodup, fun x hx => ?_, fun x hx => ?_⟩, s.fr, s.may, ⟨s.gh.chs, s.gh.nodup, s.gh.disj, fun x hx => ?_, s.gh.may, s.gh.lt, s.gh.own, s.gh.hid, s.gh.top, fun x hx => ?_⟩⟩
    · have hj : j < row.length := by
        have h4 := (List.getElem?_eq_some_iff.1 hx).1
        rw [inst_len] at h4
        exact h4
      rw [h2 j x hx, Nat.add_assoc]
      exact hcell i j hlt (by rw [← hl row (List.mem_of_getElem? hrow)]; exact hj)
    · rcases List.mem_append.1 hx with hx | hx
      · exact s.own.ro x hx
      · rw [List.mem_singleton] at hx; subst hx; exact hb
    · rcases List.mem_append.1 hx with hx | hx
      · exact s.own.apart x hx
      · rw [List.mem_singleton] at hx; subst hx; exact hS.2.1
    · rcases List.mem_append.1 hx with hx | hx
      · exact s.gh.apart x hx
      · rw [List.mem_singleton] at hx; subst hx; exact hS.2.2
    · rcases List.mem_append.1 hx with hx | hx
      · exact s.gh.g x hx
      · exact h3 x hx
theorem J_readl {S0 : Nat → Prop} {C0 : List Chunk} {G0 : List (Value × D)} (p : Nat) {a : Option Addr} {m c k : Nat} {rows : List (List D)} (hG : G0[p]? = some (.slice a m c, .sl k rows)) (i : Nat) {row : List D} (hrow : rows[i]? = some row)
    (H : ∀ b off cs e fz ls, a = some ⟨b, off, none⟩ → ls.length = sls row → (∀ (j : Nat) u, (inst row ls)[j]? = some u → cs[off + i * k + j]? = some u) → J P f R n kk E h (r ++ [(b, .cells cs e fz)]) F ⟨S0, C0, G0 ++ deep row ls⟩) : J P f R n kk E h r F ⟨S0, C0, G0⟩ := J_readl0 (Y := ⟨S0, C0, G0⟩) p hG i hrow H
theorem J_read00 (p : Nat) {a : Option Addr} {m c k : Nat} {rows : List (List D)} (hG : Y.G[p]? = some (.slice a m c, .sl k rows)) (i : Nat) {row : List D} (hrow : rows[i]? = some row) (hs : sls row = 0)
    (H : ∀ b off cs e fz, a = some ⟨b, off, none⟩ → (∀ (j : Nat) u, (inst row [])[j]? = some u → cs[off + i * k + j]? = some u) → J P f R n kk E h (r ++ [(b, .cells cs e fz)]) F ⟨Y.S, Y.C, Y.G ++ deep row []⟩) : J P f R n kk E h r F Y :=
  J_readl p hG i hrow fun b off cs e fz ls h1 h2 h3 => by
    rw [hs] at h2
    match ls, h2, h3 with
    | [], _, h3 => exact H b off cs e fz h1 h3
theorem J_read0 {S0 : Nat → Prop} {C0 : List Chunk} {G0 : List (Value × D)} (p : Nat) {a : Option Addr} {m c k : Nat} {rows : List (List D)} (hG : G0[p]? = some (.slice a m c, .sl k rows)) (i : Nat) {row : List D} (hrow : rows[i]? = some row) (hs : sls row = 0)
    (H : ∀ b off cs e fz, a = some ⟨b, off, none⟩ → (∀ (j : Nat) u, (inst row [])[j]? = some u → cs[off + i * k + j]? = some u) → J P f R n kk E h (r ++ [(b, .cells cs e fz)]) F ⟨S0, C0, G0 ++ deep row []⟩) : J P f R n kk E h r F ⟨S0, C0, G0⟩ := J_read00 (Y := ⟨S0, C0, G0⟩) p hG i hrow hs H
theorem J_read10 (p : Nat) {a : Option Addr} {m c k : Nat} {rows : List (List D)} (hG : Y.G[p]? = some (.slice a m c, .sl k rows)) (i : Nat) {row : List D} (hrow : rows[i]? = some row) (hs : sls row = 1)
    (H : ∀ b off cs e fz a1 c1, a = some ⟨b, off, none⟩ → (∀ (j : Nat) u, (inst row [(a1, c1)])[j]? = some u → cs[off + i * k + j]? = some u) → J P f R n kk E h (r ++ [(b, .cells cs e fz)]) F ⟨Y.S, Y.C, Y.G ++ deep row [(a1, c1)]⟩) : J P f R n kk E h r F Y :=
  J_readl p hG i hrow fun b off cs e fz ls h1 h2 h3 => by
    rw [hs] at h2
    match ls, h2, h3 with
    | [(a1, c1)], _, h3 => exact H b off cs e fz a1 c1 h1 h3
theorem J_read1 {S0 : Nat → Prop} {C0 : List Chunk} {G0 : List (Value × D)} (p : Nat) {a : Option Addr} {m c k : Nat} {rows : List (List D)} (hG : G0[p]? = some (.slice a m c, .sl k rows)) (i : Nat) {row : List D} (hrow : rows[i]? = some row) (hs : sls row = 1)
    (H : ∀ b off cs e fz a1 c1, a = some ⟨b, off, none⟩ → (∀ (j : Nat) u, (inst row [(a1, c1)])[j]? = some u → cs[off + i * k + j]? = some u) → J P f R n kk E h (r ++ [(b, .cells cs e fz)]) F ⟨S0, C0, G0 ++ deep row [(a1, c1)]⟩) : J P f R n kk E h r F ⟨S0, C0, G0⟩ := J_read10 (Y := ⟨S0, C0, G0⟩) p hG i hrow hs H
theorem J_read20 (p : Nat) {a : Option Addr} {m c k : Nat} {rows : List (List D)} (hG : Y.G[p]? = some (.slice a m c, .sl k rows)) (i : Nat) {row : List D} (hrow : rows[i]? = some row) (hs : sls row = 2)
    (H : ∀ b off cs e fz a1 c1 a2 c2, a = some ⟨b, off, none⟩ → (∀ (j : Nat) u, (inst row [(a1, c1), (a2, c2)])[j]? = some u → cs[off + i * k + j]? = some u) → J P f R n kk E h (r ++ [(b, .cells cs e fz)]) F ⟨Y.S, Y.C, Y.G ++ deep row [(a1, c1), (a2, c2)]⟩) : J P f R n kk E h r F Y :=
  J_readl p hG i hrow fun b off cs e fz ls h1 h2 h3 => by
    rw [hs] at h2
    match ls, h2, h3 with
    | [(a1, c1), (a2, c2)], _, h3 => exact H b off cs e fz a1 c1 a2 c2 h1 h3
theorem J_read2 {S0 : Nat → Prop} {C0 : List Chunk} {G0 : List (Value × D)} (p : Nat) {a : Option Addr} {m c k : Nat} {rows : List (List D)} (hG : G0[p]? = some (.slice a m c, .sl k rows)) (i : Nat) {row : List D} (hrow : rows[i]? = some row) (hs : sls row = 2)
    (H : ∀ b off cs e fz a1 c1 a2 c2, a = some ⟨b, off, none⟩ → (∀ (j : Nat) u, (inst row [(a1, c1), (a2, c2)])[j]? = some u → cs[off + i * k + j]? = some u) → J P f R n kk E h (r ++ [(b, .cells cs e fz)]) F ⟨S0, C0, G0 ++ deep row [(a1, c1), (a2, c2)]⟩) : J P f R n kk E h r F ⟨S0, C0, G0⟩ := J_read20 (Y := ⟨S0, C0, G0⟩) p hG i hrow hs H
/-- The cells that a pointer leads to. -/
theorem J_ptrl0 (p : Nat) {x : Option Addr} {ds : List D} (hG : Y.G[p]? = some (.pointer x, .ptr ds))
    (H : ∀ b off cs e fz ls, x = some ⟨b, off, none⟩ → ls.length = sls ds → (∀ (j : Nat) u, (inst ds ls)[j]? = some u → cs[off + j]? = some u) → J P f R n kk E h (r ++ [(b, .cells cs e fz)]) F ⟨Y.S, Y.C, Y.G ++ deep ds ls⟩) : J P f R n kk E h r F Y := by
  intro a0 w ⟨fps, s⟩
  have hR := s.gh.g _ (List.mem_of_getElem? hG)
  cases hR with
  | ptr u hb hS hcell hrep =>
    rename_i b off cs e fz
    obtain ⟨ls, h1, h2, h3⟩ := inst_ex ds u hrep
    refine H b off cs e fz ls rfl h1 (fun j x hx => ?_) a0 w ⟨fps, s.ag, ⟨s.own.own, s.own.nodup, fun x hx => ?_, fun x hx => ?_⟩, s.fr, s.may, ⟨s.gh.chs, s.gh.nodup, s.gh.disj, fun x hx => ?_, s.gh.may, s.gh.lt, s.gh.own, s.gh.hid, s.gh.top, fun x hx => ?_⟩⟩
    · have hj := (List.getElem?_eq_some_iff.1 hx).1
      rw [inst_len] at hj
      rw [h2 j x hx]
      exact hcell j hj
    · rcases List.mem_append.1 hx with hx | hx
      · exact s.own.ro x hx
      · rw [List.mem_singleton] at hx; subst hx; exact hb
    · rcases List.mem_append.1 hx with hx | hx
      · exact s.own.apart x hx
      · rw [List.mem_singleton] at hx; subst hx; exact hS.2.1
    · rcases List.mem_append.1 hx with hx | hx
      · exact s.gh.apart x hx
      · rw [List.mem_singleton] at hx; subst hx; exact hS.2.2
    · rcases List.mem_append.1 hx with hx | hx
      · exact s.gh.g x hx
      · exact h3 x hx
theorem J_ptrl {S0 : Nat → Prop} {C0 : List Chunk} {G0 : List (Value × D)} (p : Nat) {x : Option Addr} {ds : List D} (hG : G0[p]? = some (.pointer x, .ptr ds))
    (H : ∀ b off cs e fz ls, x = some ⟨b, off, none⟩ → ls.length = sls ds → (∀ (j : Nat) u, (inst ds ls)[j]? = some u → cs[off + j]? = some u) → J P f R n kk E h (r ++ [(b, .cells cs e fz)]) F ⟨S0, C0, G0 ++ deep ds ls⟩) : J P f R n kk E h r F ⟨S0, C0, G0⟩ := J_ptrl0 (Y := ⟨S0, C0, G0⟩) p hG H
/-- A package's variable, of one plain cell. -/
theorem J_glob0 (p : Nat) {b : Nat} {v : Value} (hG : Y.G[p]? = some (.pointer (some ⟨b, 0, none⟩), .ptr [.v v]))
    (H : ∀ cs e fz, cs[0]? = some v → J P f R n kk E h (r ++ [(b, .cells cs e fz)]) F Y) : J P f R n kk E h r F Y :=
  J_ptrl p hG fun b' off cs e fz ls h1 h2 h3 => by
    cases h1
    have : Y.G ++ deep [D.v v] ls = Y.G := by simp [deep]
    rw [this]
    exact H cs e fz (by have := h3 0 v rfl; simpa using this)
theorem J_glob {S0 : Nat → Prop} {C0 : List Chunk} {G0 : List (Value × D)} (p : Nat) {b : Nat} {v : Value} (hG : G0[p]? = some (.pointer (some ⟨b, 0, none⟩), .ptr [.v v]))
    (H : ∀ cs e fz, cs[0]? = some v → J P f R n kk E h (r ++ [(b, .cells cs e fz)]) F ⟨S0, C0, G0⟩) : J P f R n kk E h r F ⟨S0, C0, G0⟩ := J_glob0 (Y := ⟨S0, C0, G0⟩) p hG H
/-- Blocks that are only read may be forgotten. -/
theorem J_ro (r' : List (Nat × Obj)) (hs : ∀ x ∈ r', x ∈ r) (H : J P f R n kk E h r' F Y) : J P f R n kk E h r F Y := fun a w ⟨fps, s⟩ =>
  H a w ⟨fps, s.ag, ⟨s.own.own, s.own.nodup, fun x hx => s.own.ro x (hs x hx), fun x hx => s.own.apart x (hs x hx)⟩, s.fr, s.may, ⟨s.gh.chs, s.gh.nodup, s.gh.disj, fun x hx => s.gh.apart x (hs x hx), s.gh.may, s.gh.lt, s.gh.own, s.gh.hid, s.gh.top, s.gh.g⟩⟩
/-- .. of a block that is known already (at place q). -/
theorem J_againl0 (p : Nat) {b off : Nat} {m c k : Nat} {rows : List (List D)} (hG : Y.G[p]? = some (.slice (some ⟨b, off, none⟩) m c, .sl k rows)) (q : Nat) {cs : Array Value} {e : TypeId} {fz : Nat × Nat} (hq : r[q]? = some (b, .cells cs e fz)) (i : Nat) {row : List D} (hrow : rows[i]? = some row)
    (H : ∀ ls, ls.length = sls row → (∀ (j : Nat) u, (inst row ls)[j]? = some u → cs[off + i * k + j]? = some u) → J P f R n kk E h r F ⟨Y.S, Y.C, Y.G ++ deep row ls⟩) : J P f R n kk E h r F Y := by
  intro a0 w ⟨fps, s⟩
  have hb1 := s.own.ro _ (List.mem_of_getElem? hq)
  refine J_readl p hG i hrow (fun b2 off2 cs2 e2 fz2 ls ha hls hc => ?_) a0 w ⟨fps, s⟩
  cases ha
  intro a1 w1 s1
  have h1 := s1.own.ro (b, .cells cs e fz) (List.mem_append_left _ (List.mem_of_getElem? hq))
  have h2 := s1.own.ro (b, .cells cs2 e2 fz2) (List.mem_append_right _ (by simp))
  rw [h1] at h2
  cases h2
  exact J_ro r (fun x hx => List.mem_append_left _ hx) (H ls hls hc) a1 w1 s1
theorem J_againl {S0 : Nat → Prop} {C0 : List Chunk} {G0 : List (Value × D)} (p : Nat) {b off : Nat} {m c k : Nat} {rows : List (List D)} (hG : G0[p]? = some (.slice (some ⟨b, off, none⟩) m c, .sl k rows)) (q : Nat) {cs : Array Value} {e : TypeId} {fz : Nat × Nat} (hq : r[q]? = some (b, .cells cs e fz)) (i : Nat) {row : List D} (hrow : rows[i]? = some row)
    (H : ∀ ls, ls.length = sls row → (∀ (j : Nat) u, (inst row ls)[j]? = some u → cs[off + i * k + j]? = some u) → J P f R n kk E h r F ⟨S0, C0, G0 ++ deep row ls⟩) : J P f R n kk E h r F ⟨S0, C0, G0⟩ := J_againl0 (Y := ⟨S0, C0, G0⟩) p hG q hq i hrow H
theorem J_again00 (p : Nat) {b off : Nat} {m c k : Nat} {rows : List (List D)} (hG : Y.G[p]? = some (.slice (some ⟨b, off, none⟩) m c, .sl k rows)) (q : Nat) {cs : Array Value} {e : TypeId} {fz : Nat × Nat} (hq : r[q]? = some (b, .cells cs e fz)) (i : Nat) {row : List D} (hrow : rows[i]? = some row) (hs : sls row = 0)
    (H : (∀ (j : Nat) u, (inst row [])[j]? = some u → cs[off + i * k + j]? = some u) → J P f R n kk E h r F ⟨Y.S, Y.C, Y.G ++ deep row []⟩) : J P f R n kk E h r F Y :=
  J_againl p hG q hq i hrow fun ls h2 h3 => by
    rw [hs] at h2
    match ls, h2, h3 with
    | [], _, h3 => exact H h3
theorem J_again0 {S0 : Nat → Prop} {C0 : List Chunk} {G0 : List (Value × D)} (p : Nat) {b off : Nat} {m c k : Nat} {rows : List (List D)} (hG : G0[p]? = some (.slice (some ⟨b, off, none⟩) m c, .sl k rows)) (q : Nat) {cs : Array Value} {e : TypeId} {fz : Nat × Nat} (hq : r[q]? = some (b, .cells cs e fz)) (i : Nat) {row : List D} (hrow : rows[i]? = some row) (hs : sls row = 0)
    (H : (∀ (j : Nat) u, (inst row [])[j]? = some u → cs[off + i * k + j]? = some u) → J P f R n kk E h r F ⟨S0, C0, G0 ++ deep row []⟩) : J P f R n kk E h r F ⟨S0, C0, G0⟩ := J_again00 (Y := ⟨S0, C0, G0⟩) p hG q hq i hrow hs H
theorem J_again10 (p : Nat) {b off : Nat} {m c k : Nat} {rows : List (List D)} (hG : Y.G[p]? = some (.slice (some ⟨b, off, none⟩) m c, .sl k rows)) (q : Nat) {cs : Array Value} {e : TypeId} {fz : Nat × Nat} (hq : r[q]? = some (b, .cells cs e fz)) (i : Nat) {row : List D} (hrow : rows[i]? = some row) (hs : sls row = 1)
    (H : ∀ a1 c1, (∀ (j : Nat) u, (inst row [(a1, c1)])[j]? = some u → cs[off + i * k + j]? = some u) → J P f R n kk E h r F ⟨Y.S, Y.C, Y.G ++ deep row [(a1, c1)]⟩) : J P f R n kk E h r F Y :=
  J_againl p hG q hq i hrow fun ls h2 h3 => by
    rw [hs] at h2
    match ls, h2, h3 with
    | [(a1, c1)], _, h3 => exact H a1 c1 h3
theorem J_again1 {S0 : Nat → Prop} {C0 : List Chunk} {G0 : List (Value × D)} (p : Nat) {b off : Nat} {m c k : Nat} {rows : List (List D)} (hG : G0[p]? = some (.slice (some ⟨b, off, none⟩) m c, .sl k rows)) (q : Nat) {cs : Array Value} {e : TypeId} {fz : Nat × Nat} (hq : r[q]? = some (b, .cells cs e fz)) (i : Nat) {row : List D} (hrow : rows[i]? = some row) (hs : sls row = 1)
    (H : ∀ a1 c1, (∀ (j : Nat) u, (inst row [(a1, c1)])[j]? = some u → cs[off + i * k + j]? = some u) → J P f R n kk E h r F ⟨S0, C0, G0 ++ deep row [(a1, c1)]⟩) : J P f R n kk E h r F ⟨S0, C0, G0⟩ := J_again10 (Y := ⟨S0, C0, G0⟩) p hG q hq i hrow hs H
theorem J_again20 (p : Nat) {b off : Nat} {m c k : Nat} {rows : List (List D)} (hG : Y.G[p]? = some (.slice (some ⟨b, off, none⟩) m c, .sl k rows)) (q : Nat) {cs : Array Value} {e : TypeId} {fz : Nat × Nat} (hq : r[q]? = some (b, .cells cs e fz)) (i : Nat) {row : List D} (hrow : rows[i]? = some row) (hs : sls row = 2)
    (H : ∀ a1 c1 a2 c2, (∀ (j : Nat) u, (inst row [(a1, c1), (a2, c2)])[j]? = some u → cs[off + i * k + j]? = some u) → J P f R n kk E h r F ⟨Y.S, Y.C, Y.G ++ deep row [(a1, c1), (a2, c2)]⟩) : J P f R n kk E h r F Y :=
  J_againl p hG q hq i hrow fun ls h2 h3 => by
    rw [hs] at h2
    match ls, h2, h3 with
    | [(a1, c1), (a2, c2)], _, h3 => exact H a1 c1 a2 c2 h3
theorem J_again2 {S0 : Nat → Prop} {C0 : List Chunk} {G0 : List (Value × D)} (p : Nat) {b off : Nat} {m c k : Nat} {rows : List (List D)} (hG : G0[p]? = some (.slice (some ⟨b, off, none⟩) m c, .sl k rows)) (q : Nat) {cs : Array Value} {e : TypeId} {fz : Nat × Nat} (hq : r[q]? = some (b, .cells cs e fz)) (i : Nat) {row : List D} (hrow : rows[i]? = some row) (hs : sls row = 2)
    (H : ∀ a1 c1 a2 c2, (∀ (j : Nat) u, (inst row [(a1, c1), (a2, c2)])[j]? = some u → cs[off + i * k + j]? = some u) → J P f R n kk E h r F ⟨S0, C0, G0 ++ deep row [(a1, c1), (a2, c2)]⟩) : J P f R n kk E h r F ⟨S0, C0, G0⟩ := J_again20 (Y := ⟨S0, C0, G0⟩) p hG q hq i hrow hs H
/-- Owned blocks forgotten, or in another order. -/
theorem StF.hpick {a : Act} {w : World} {fps : List (List Nat)} (s : StF n E h r F Y a w fps) (ps : List Nat) {h' : List (Nat × Obj)} (hh : pick h ps = h') (hps : ps.Nodup) : StF n E h' r F Y a w fps := by
  subst hh
  have hm : ∀ x ∈ pick h ps, x ∈ h := fun x hx => pick_mem rfl x hx
  have hid : ∀ b, b ∈ (pick h ps).map (·.1) → b ∈ h.map (·.1) := fun b hb => by
    obtain ⟨x, hx, rfl⟩ := List.mem_map.1 hb
    exact List.mem_map.2 ⟨x, hm x hx, rfl⟩
  have hS : ∀ b, Sd Y h fps b → Sd Y (pick h ps) fps b := fun b hb => ⟨hb.1, fun hx => hb.2.1 (hid b hx), hb.2.2⟩
  exact ⟨s.ag, ⟨fun x hx => s.own.own x (hm x hx), pick_nodup rfl hps s.own.nodup, s.own.ro, fun x hx hb => s.own.apart x hx (hid _ hb)⟩, s.fr, fun f hf x hx => s.may f hf x (hm x hx),
    ⟨s.gh.chs.mono (fun _ _ => rfl) fun b hb _ => ⟨hS b hb, rfl⟩, s.gh.nodup, fun b hb hx => s.gh.disj b hb (hid b hx), s.gh.apart, s.gh.may, s.gh.lt, fun x hx => s.gh.own x (hm x hx), s.gh.hid, s.gh.top, fun x hx => (s.gh.g x hx).mono fun b hb _ => ⟨hS b hb, rfl⟩⟩⟩
/-- An owned block as a chunk. -/
theorem StF.hide {a : Act} {w : World} {fps : List (List Nat)} (s : StF n E h r F Y a w fps) (p : Nat) {b : Nat} {o : Obj} (hp : h[p]? = some (b, o)) : ∃ fps', StF n E (h.eraseIdx p) r F ⟨Y.S, Y.C ++ [cObj b o], Y.G⟩ a w fps' := by
  have hm : ∀ x ∈ h.eraseIdx p, x ∈ h := fun x hx => (List.eraseIdx_sublist h p).subset hx
  have hid : ∀ c, c ∈ (h.eraseIdx p).map (·.1) → c ∈ h.map (·.1) := fun c hc => by
    obtain ⟨x, hx, rfl⟩ := List.mem_map.1 hc
    exact List.mem_map.2 ⟨x, hm x hx, rfl⟩
  have hnot : b ∉ (h.eraseIdx p).map (·.1) := fun hc => by
    obtain ⟨x, hx, hxb⟩ := List.mem_map.1 hc
    obtain ⟨j, hj, he⟩ := List.mem_eraseIdx_iff_getElem?.1 hx
    have h1 : (h.map (·.1))[j]? = some b := by simp [he, hxb]
    have h2 : (h.map (·.1))[p]? = some b := by simp [hp]
    exact hj ((List.getElem?_inj (List.getElem?_eq_some_iff.1 h1).1 s.own.nodup).1 (h1.trans h2.symm))
  have hbm : (b, o) ∈ h := List.mem_of_getElem? hp
  have e : (fps ++ [[b]]).flatten = fps.flatten ++ [b] := by simp
  have hS : ∀ c, Sd Y h fps c → Sd Y (h.eraseIdx p) (fps ++ [[b]]) c := fun c hc => ⟨hc.1, fun hx => hc.2.1 (hid c hx), fun hx => by
    rw [e] at hx
    rcases List.mem_append.1 hx with hx | hx
    · exact hc.2.2 hx
    · rw [List.mem_singleton] at hx
      subst hx
      exact hc.2.1 (List.mem_map.2 ⟨_, hbm, rfl⟩)⟩
  have hin : ∀ c, c ∈ (fps ++ [[b]]).flatten → c ∈ fps.flatten ∨ c = b := fun c hc => by
    rw [e] at hc
    simpa using hc
  refine ⟨fps ++ [[b]], s.ag, ⟨fun x hx => s.own.own x (hm x hx), ((List.eraseIdx_sublist h p).map _).nodup s.own.nodup, s.own.ro, fun x hx hc => s.own.apart x hx (hid _ hc)⟩, s.fr, fun f hf x hx => s.may f hf x (hm x hx),
    ⟨(s.gh.chs.mono (fun _ _ => rfl) fun c hc _ => ⟨hS c hc, rfl⟩).app ⟨⟨rfl, s.own.own _ hbm⟩, trivial⟩, ?_, fun c hc hx => ?_, fun x hx hc => ?_, fun f hf c hc => ?_, fun c hc => ?_, fun x hx => s.gh.own x (hm x hx), fun c hc => ?_, s.gh.top, fun x hx => (s.gh.g x hx).mono fun c hc _ => ⟨hS c hc, rfl⟩⟩⟩
  · rw [e, List.nodup_append]
    refine ⟨s.gh.nodup, by simp, fun x hx y hy hxy => ?_⟩
    simp at hy
    subst hy hxy
    exact s.gh.disj _ hx (List.mem_map.2 ⟨_, hbm, rfl⟩)
  · rcases hin c hc with h1 | rfl
    · exact s.gh.disj c h1 (hid c hx)
    · exact hnot hx
  · rcases hin _ hc with h1 | h1
    · exact s.gh.apart x hx h1
    · exact s.own.apart x hx (List.mem_map.2 ⟨_, hbm, h1.symm⟩)
  · rcases hin c hc with h1 | rfl
    · exact s.gh.may f hf c h1
    · exact s.may f hf _ hbm
  · rcases hin c hc with h1 | rfl
    · exact s.gh.lt c h1
    · exact s.own.own.lt hbm
  · rcases hin c hc with h1 | rfl
    · exact s.gh.hid c h1
    · exact s.gh.own _ hbm
theorem J_hide0 (p : Nat) {b : Nat} {o : Obj} (hp : h[p]? = some (b, o)) (H : J P f R n kk E (h.eraseIdx p) r F ⟨Y.S, Y.C ++ [cObj b o], Y.G⟩) : J P f R n kk E h r F Y := fun a w ⟨_, s⟩ => by
  obtain ⟨fps', s'⟩ := s.hide p hp
  exact H a w ⟨fps', s'⟩
theorem J_hide {S0 : Nat → Prop} {C0 : List Chunk} {G0 : List (Value × D)} (p : Nat) {b : Nat} {o : Obj} (hp : h[p]? = some (b, o)) (H : J P f R n kk E (h.eraseIdx p) r F ⟨S0, C0 ++ [cObj b o], G0⟩) : J P f R n kk E h r F ⟨S0, C0, G0⟩ := J_hide0 (Y := ⟨S0, C0, G0⟩) p hp H
theorem St.hide {a : Act} {w : World} (s : St n E h r F Y a w) (p : Nat) {b : Nat} {o : Obj} (hp : h[p]? = some (b, o)) : St n E (h.eraseIdx p) r F ⟨Y.S, Y.C ++ [cObj b o], Y.G⟩ a w := by
  obtain ⟨_, s⟩ := s
  exact s.hide p hp
/-- A chunk's block, in sight. -/
theorem J_show0 (i : Nat) {b : Nat} {o : Obj} (hi : Y.C[i]? = some (cObj b o)) (H : J P f R n kk E (h ++ [(b, o)]) r F ⟨Y.S, Y.C.eraseIdx i, Y.G⟩) : J P f R n kk E h r F Y := fun a w ⟨fps, s⟩ => by
  obtain ⟨fp, hfp, rfl, hb⟩ := s.gh.chs.at hi
  have hm : b ∈ fps.flatten := List.mem_flatten.2 ⟨_, List.mem_of_getElem? hfp, by simp⟩
  have hnb : b ∉ (fps.eraseIdx i).flatten := fun hc => by
    obtain ⟨j, x, hj, hx, hbx⟩ := mem_erase_flat hc
    exact hj (flat_at s.gh.nodup hx hfp hbx (by simp))
  have hids : (h ++ [(b, o)]).map (·.1) = h.map (·.1) ++ [b] := by simp
  have hS : ∀ c, Sd Y h fps c → Sd Y (h ++ [(b, o)]) (fps.eraseIdx i) c := fun c hc => ⟨hc.1, fun hx => by
    rw [hids] at hx
    rcases List.mem_append.1 hx with hx | hx
    · exact hc.2.1 hx
    · rw [List.mem_singleton] at hx
      subst hx
      exact hc.2.2 hm, fun hx => hc.2.2 (erase_flat_sub hx)⟩
  have hin : ∀ x ∈ h ++ [(b, o)], x ∈ h ∨ x = (b, o) := fun x hx => by simpa using hx
  refine H a w ⟨fps.eraseIdx i, s.ag, ⟨fun x hx => ?_, ?_, s.own.ro, fun x hx hc => ?_⟩, s.fr, fun f hf x hx => ?_,
    ⟨s.gh.chs.erase.mono (fun _ _ => rfl) fun c hc _ => ⟨hS c hc, rfl⟩, nodup_sublist_flat s.gh.nodup (List.eraseIdx_sublist _ _), fun c hc hx => ?_, fun x hx hc => s.gh.apart x hx (erase_flat_sub hc), fun f hf c hc => s.gh.may f hf c (erase_flat_sub hc), fun c hc => s.gh.lt c (erase_flat_sub hc), fun x hx => ?_, fun c hc => s.gh.hid c (erase_flat_sub hc), s.gh.top, fun x hx => (s.gh.g x hx).mono fun c hc _ => ⟨hS c hc, rfl⟩⟩⟩
  · rcases hin x hx with h1 | rfl
    · exact s.own.own x h1
    · exact hb
  · rw [hids, List.nodup_append]
    refine ⟨s.own.nodup, by simp, fun x hx y hy hxy => ?_⟩
    simp at hy
    subst hy hxy
    exact s.gh.disj _ hm hx
  · rw [hids] at hc
    rcases List.mem_append.1 hc with hc | hc
    · exact s.own.apart x hx hc
    · rw [List.mem_singleton] at hc
      exact s.gh.apart x hx (by rw [hc]; exact hm)
  · rcases hin x hx with h1 | rfl
    · exact s.may f hf x h1
    · exact s.gh.may f hf _ hm
  · rw [hids] at hx
    rcases List.mem_append.1 hx with hx | hx
    · exact s.gh.disj c (erase_flat_sub hc) hx
    · rw [List.mem_singleton] at hx
      subst hx
      exact hnb hc
  · rcases hin x hx with h1 | rfl
    · exact s.gh.own x h1
    · exact s.gh.hid _ hm
theorem J_show {S0 : Nat → Prop} {C0 : List Chunk} {G0 : List (Value × D)} (i : Nat) {b : Nat} {o : Obj} (hi : C0[i]? = some (cObj b o)) (H : J P f R n kk E (h ++ [(b, o)]) r F ⟨S0, C0.eraseIdx i, G0⟩) : J P f R n kk E h r F ⟨S0, C0, G0⟩ := J_show0 (Y := ⟨S0, C0, G0⟩) i hi H
end reads

/-! Loops. -/
def Inv {α : Type} (n : Nat) [Dfr n] (E : α → Env) (h : α → List (Nat × Obj)) (S : Nat → Prop) (C : α → List Chunk) (G : α → List (Value × D)) (m : α → Nat) (ok : α → Prop) (r : List (Nat × Obj)) (F : List (List Nat × World)) : Nat → Act → World → Prop :=
  fun j a w => ∃ x, ok x ∧ m x = j ∧ St n (E x) (h x) r F ⟨S, C x, G x⟩ a w
section loops
variable {P : Program} {f : Func} [Pan f] {R : Act → World → Prop} {n : Nat} [Dfr n] {kk : List Itm} {E : Env} {h r : List (Nat × Obj)} {F : List (List Nat × World)} {Y : Ghost} {α : Type}
theorem St.cut {a : Act} {w : World} (s : St n E h r F Y a w) (ts ps cs gs : List Nat) {E' : Env} {h' r' : List (Nat × Obj)} {C' : List Chunk} {G' : List (Value × D)} (hE : keepE E ts = E') (hh : pick h ps = h') (hC : pick Y.C cs = C') (hG : pick Y.G gs = G') (hr : ∀ x ∈ r', x ∈ r) (hps : ps.Nodup) (hcs : cs.Nodup) :
    St n E' h' r' F ⟨Y.S, C', G'⟩ a w := by
  have s1 := s.stp (stp_pick cs gs hC hG hcs)
  obtain ⟨fps, s⟩ := s1
  have s := s.hpick ps hh hps
  subst hE
  exact ⟨fps, s.ag.sub (keepE_sub E ts), ⟨s.own.own, s.own.nodup, fun x hx => s.own.ro x (hr x hx), fun x hx => s.own.apart x (hr x hx)⟩, s.fr, s.may, ⟨s.gh.chs, s.gh.nodup, s.gh.disj, fun x hx => s.gh.apart x (hr x hx), s.gh.may, s.gh.lt, s.gh.own, s.gh.hid, s.gh.top, s.gh.g⟩⟩
/-- The state, written shorter: slots, blocks, chunks, facts. -/
theorem J_cut0 (ts ps cs gs : List Nat) {E' : Env} {h' : List (Nat × Obj)} {C' : List Chunk} {G' : List (Value × D)} (hE : keepE E ts = E') (hh : pick h ps = h') (hC : pick Y.C cs = C') (hG : pick Y.G gs = G') (H : J P f R n kk E' h' [] F ⟨Y.S, C', G'⟩) (hps : ps.Nodup := by decide) (hcs : cs.Nodup := by decide) : J P f R n kk E h r F Y := fun a w s =>
  H a w (s.cut ts ps cs gs hE hh hC hG (by simp) hps hcs)
theorem J_cut {S0 : Nat → Prop} {C0 : List Chunk} {G0 : List (Value × D)} (ts ps cs gs : List Nat) {E' : Env} {h' : List (Nat × Obj)} {C' : List Chunk} {G' : List (Value × D)} (hE : keepE E ts = E') (hh : pick h ps = h') (hC : pick C0 cs = C') (hG : pick G0 gs = G') (H : J P f R n kk E' h' [] F ⟨S0, C', G'⟩) (hps : ps.Nodup := by decide) (hcs : cs.Nodup := by decide) : J P f R n kk E h r F ⟨S0, C0, G0⟩ := J_cut0 (Y := ⟨S0, C0, G0⟩) ts ps cs gs hE hh hC hG H hps hcs
/-- A loop that is left in its first round. -/
theorem J_loop1 {b : Sk} (H : ∀ I, J P f R n (.c b :: .back I 0 :: kk) E h r F Y) : J P f R n (.c (.loop b) :: kk) E h r F Y :=
  J_loop (fun j a w => j = 0 ∧ St n E h r F Y a w) (fun _ _ s => ⟨0, rfl, s⟩) fun j a w ⟨hj, s⟩ => by
    subst hj
    exact H _ a w s
/-- A loop: its states are the family's. -/
theorem J_loopx0 {b : Sk} (Ex : α → Env) (hx : α → List (Nat × Obj)) (Cx : α → List Chunk) (Gx : α → List (Value × D)) (m : α → Nat) (ok : α → Prop) (x0 : α) (ts ps cs gs : List Nat) (hok : ok x0) (hE : keepE E ts = Ex x0) (hh : pick h ps = hx x0) (hC : pick Y.C cs = Cx x0) (hG : pick Y.G gs = Gx x0)
    (round : ∀ x, ok x → J P f R n (.c b :: .back (Inv n Ex hx Y.S Cx Gx m ok r F) (m x) :: kk) (Ex x) (hx x) r F ⟨Y.S, Cx x, Gx x⟩) (hps : ps.Nodup := by decide) (hcs : cs.Nodup := by decide) : J P f R n (.c (.loop b) :: kk) E h r F Y :=
  J_loop (Inv n Ex hx Y.S Cx Gx m ok r F) (fun a w s => ⟨m x0, x0, hok, rfl, s.cut ts ps cs gs hE hh hC hG (fun _ hx => hx) hps hcs⟩) fun j a w ⟨x, hox, hj, s⟩ => by
    subst hj
    exact round x hox a w s
theorem J_loopx {S0 : Nat → Prop} {C0 : List Chunk} {G0 : List (Value × D)} {b : Sk} (Ex : α → Env) (hx : α → List (Nat × Obj)) (Cx : α → List Chunk) (Gx : α → List (Value × D)) (m : α → Nat) (ok : α → Prop) (x0 : α) (ts ps cs gs : List Nat) (hok : ok x0) (hE : keepE E ts = Ex x0) (hh : pick h ps = hx x0) (hC : pick C0 cs = Cx x0) (hG : pick G0 gs = Gx x0)
    (round : ∀ x, ok x → J P f R n (.c b :: .back (Inv n Ex hx S0 Cx Gx m ok r F) (m x) :: kk) (Ex x) (hx x) r F ⟨S0, Cx x, Gx x⟩) (hps : ps.Nodup := by decide) (hcs : cs.Nodup := by decide) : J P f R n (.c (.loop b) :: kk) E h r F ⟨S0, C0, G0⟩ := J_loopx0 (Y := ⟨S0, C0, G0⟩) Ex hx Cx Gx m ok x0 ts ps cs gs hok hE hh hC hG round hps hcs
theorem J_backx {Ex : α → Env} {hx : α → List (Nat × Obj)} {Cx : α → List Chunk} {Gx : α → List (Value × D)} {m : α → Nat} {ok : α → Prop} {S : Nat → Prop} {r0 : List (Nat × Obj)} {j : Nat} (x : α) (ts ps cs gs : List Nat) (hok : ok x) (hm : m x < j) (hE : keepE E ts = Ex x) (hh : pick h ps = hx x) (hC : pick Y.C cs = Cx x) (hG : pick Y.G gs = Gx x) (hS : Y.S = S := by rfl)
    (hr : ∀ y ∈ r0, y ∈ r := by simp) (hps : ps.Nodup := by decide) (hcs : cs.Nodup := by decide) : J P f R n (.back (Inv n Ex hx S Cx Gx m ok r0 F) j :: kk) E h r F Y := fun a w s => by
  subst hS
  simp only [wpK]
  exact ⟨m x, hm, x, hok, rfl, s.cut ts ps cs gs hE hh hC hG hr hps hcs⟩
end loops
end Go.Sx
