/- Part 3 of the texts of a claim: Tx7 Tx8 Tx10. -/
import Derived.Maps.AppendAt
import Derived.MapKept
import Derived.Test.YtehdegekgdlifaaDoorTa2
section
namespace Go.Sx
open Go
structure RowsAt (w : World) (S : Nat → Prop) (xs : List Value) (k : Nat) (rows : List (List D)) : Prop where
  len : ∀ row ∈ rows, row.length = k
  rep : ∀ (i j : Nat) (row : List D) (d : D), rows[i]? = some row → row[j]? = some d → ∃ u, xs[i * k + j]? = some u ∧ Rep w S u d
theorem RowsAt.mono {w w' : World} {S S' : Nat → Prop} {xs : List Value} {k : Nat} {rows : List (List D)} (h : RowsAt w S xs k rows) (hS : ∀ b, S b → b < w.heap.size → S' b ∧ w'.heap[b]? = w.heap[b]?) : RowsAt w' S' xs k rows :=
  ⟨h.len, fun i j row d h1 h2 => by
    obtain ⟨u, h3, h4⟩ := h.rep i j row d h1 h2
    exact ⟨u, h3, h4.mono hS⟩⟩
theorem idx_lt {i j k n : Nat} (hi : i < n) (hj : j < k) : i * k + j < n * k := by
  calc i * k + j < i * k + k := by omega
    _ = (i + 1) * k := by rw [Nat.add_mul, Nat.one_mul]
    _ ≤ n * k := Nat.mul_le_mul_right k hi
theorem RowsAt.app {w : World} {S : Nat → Prop} {xs ys : List Value} {k : Nat} {rows rows2 : List (List D)} (h : RowsAt w S xs k rows) (hl : xs.length = rows.length * k) (h2 : RowsAt w S ys k rows2) : RowsAt w S (xs ++ ys) k (rows ++ rows2) := by
  refine ⟨fun row hr => ?_, fun i j row d hi hj => ?_⟩
  · rcases List.mem_append.1 hr with hr | hr
    · exact h.len row hr
    · exact h2.len row hr
  · have hjr := (List.getElem?_eq_some_iff.1 hj).1
    rcases Nat.lt_or_ge i rows.length with hlt | hge
    · rw [List.getElem?_append_left hlt] at hi
      obtain ⟨u, hu, hr⟩ := h.rep i j row d hi hj
      have hjk : j < k := by rw [← h.len row (List.mem_of_getElem? hi)]; exact hjr
      refine ⟨u, ?_, hr⟩
      rw [List.getElem?_append_left (by rw [hl]; exact idx_lt hlt hjk)]
      exact hu
    · rw [List.getElem?_append_right hge] at hi
      obtain ⟨u, hu, hr⟩ := h2.rep _ j row d hi hj
      refine ⟨u, ?_, hr⟩
      have e : i * k + j = rows.length * k + ((i - rows.length) * k + j) := by
        rw [Nat.sub_mul]
        have := Nat.mul_le_mul_right k hge
        omega
      rw [e, List.getElem?_append_right (by rw [hl]; omega), hl, Nat.add_sub_cancel_left]
      exact hu
theorem RowsAt.nil (w : World) (S : Nat → Prop) (xs : List Value) (k : Nat) : RowsAt w S xs k [] := ⟨by simp, by simp⟩
theorem RowsAt.one {w : World} {S : Nat → Prop} {xs : List Value} {k : Nat} {rows : List (List D)} (h : RowsAt w S xs k rows) (hl : xs.length = rows.length * k) : ∀ u ∈ xs, u.oneCell' = true := by
  intro u hu
  obtain ⟨q, hq⟩ := List.getElem?_of_mem hu
  have hlt : q < rows.length * k := by rw [← hl]; exact (List.getElem?_eq_some_iff.1 hq).1
  have hk : 0 < k := by
    rcases Nat.eq_zero_or_pos k with h0 | h0
    · subst h0; simp at hlt
    · exact h0
  have h1 : q / k < rows.length := Nat.div_lt_of_lt_mul (by rw [Nat.mul_comm]; exact hlt)
  have h2 : q % k < (rows[q / k]'h1).length := by rw [h.len _ (List.getElem_mem h1)]; exact Nat.mod_lt _ hk
  obtain ⟨u', h3, h4⟩ := h.rep (q / k) (q % k) _ _ (List.getElem?_eq_getElem h1) (List.getElem?_eq_getElem h2)
  rw [Nat.mul_comm, Nat.div_add_mod, hq] at h3
  cases h3
  exact h4.one
def cObj (b : Nat) (o : Obj) : Chunk where
  P w _ fp := fp = [b] ∧ w.heap[b]? = some o
  mono := by
    intro w w' S S' fp h hb _
    exact ⟨h.1, (hb b (by rw [h.1]; simp)).trans h.2⟩
def cAcc (v : Value) (e k : Nat) (rows : List (List D)) : Chunk where
  P w S fp := 0 < k ∧ ((rows = [] ∧ v = .slice none 0 0 ∧ fp = []) ∨ ∃ g cap cur xs, v = .slice (some ⟨g, 0, none⟩) rows.length cap ∧ fp = [g] ∧ w.heap[g]? = some (.cells cur e (0, 0)) ∧ Row cur cap rows.length k xs ∧ RowsAt w S xs k rows)
  mono := fun ⟨hk, h⟩ hb hS => ⟨hk, by
    rcases h with h | ⟨g, cap, cur, xs, h1, h2, h3, h4, h5⟩
    · exact .inl h
    · exact .inr ⟨g, cap, cur, xs, h1, h2, (hb _ (by rw [h2]; simp)).trans h3, h4, h5.mono hS⟩⟩
def cPure (p : Prop) : Chunk where
  P _ _ fp := fp = [] ∧ p
  mono := fun h _ _ => h
def cStar (cs : List Chunk) : Chunk where
  P w S fp := ∃ fps : List (List Nat), fp = fps.flatten ∧ Chs w S cs fps
  mono := by
    intro w w' S S' fp h hb hS
    obtain ⟨fps, h1, h2⟩ := h
    exact ⟨fps, h1, h2.mono (fun b hm => hb b (by rw [h1]; exact hm)) hS⟩
def cExi {α : Type} (f : α → Chunk) : Chunk where
  P w S fp := ∃ x, (f x).P w S fp
  mono := fun ⟨x, h⟩ hb hS => ⟨x, (f x).mono h hb hS⟩
def Chunk.eqv (c c' : Chunk) : Prop := ∀ w S fp, c.P w S fp → c'.P w S fp
theorem set_same {α : Type} {l : List α} {i : Nat} {x : α} (h : l[i]? = some x) : l.set i x = l := by
  obtain ⟨hi, he⟩ := List.getElem?_eq_some_iff.1 h
  subst he
  exact List.set_getElem_self hi
def Stp {α : Type} (h r : List (Nat × Obj)) (F : List (List Nat × World)) (Y : Ghost) (p : α → Prop) (Y' : α → Ghost) : Prop :=
  ∀ w fps, Own h r w → GhF Y h r F w fps → ∃ x fps', p x ∧ (∀ b ∈ fps'.flatten, b ∈ fps.flatten) ∧ GhF (Y' x) h r F w fps'
section steps
variable {P : Program} {f : Func} [Pan f] {R : Act → World → Prop} {n : Nat} [Dfr n] {kk : List Itm} {E : Env} {h r : List (Nat × Obj)} {F : List (List Nat × World)} {Y Y2 : Ghost} {α : Type} {p : α → Prop} {Y' : α → Ghost}
theorem J_stpx (hs : Stp h r F Y p Y') (H : ∀ x, p x → J P f R n kk E h r F (Y' x)) : J P f R n kk E h r F Y := fun a w ⟨fps, s⟩ => by
  obtain ⟨x, fps', hp, _, hg⟩ := hs w fps s.own s.gh
  exact H x hp a w ⟨fps', s.ag, s.own, s.fr, s.may, hg⟩
theorem JR_stpx {ops : Array Oper} {L0 : Nat} {ck : Bool} {plan : List (Nat × Bool)} {Wp : List (Nat × List Nat)} (hs : Stp h r F Y p Y') (H : ∀ x, p x → JR P f R n ops L0 ck plan Wp kk E h r F (Y' x)) : JR P f R n ops L0 ck plan Wp kk E h r F Y := fun B Hd fps a w s hH hR hN hW => by
  obtain ⟨x, fps', hp, hsub, hg⟩ := hs w fps s.own s.gh
  exact H x hp B Hd fps' a w ⟨s.ag, s.own, s.fr, s.may, hg⟩ (fun b hb => hH b (hsub b hb)) hR hN hW
theorem J_stp (hs : Stp h r F Y (fun _ : Unit => True) fun _ => Y2) (H : J P f R n kk E h r F Y2) : J P f R n kk E h r F Y := J_stpx hs fun _ _ => H
theorem JR_stp {ops : Array Oper} {L0 : Nat} {ck : Bool} {plan : List (Nat × Bool)} {Wp : List (Nat × List Nat)} (hs : Stp h r F Y (fun _ : Unit => True) fun _ => Y2) (H : JR P f R n ops L0 ck plan Wp kk E h r F Y2) : JR P f R n ops L0 ck plan Wp kk E h r F Y := JR_stpx hs fun _ _ => H
theorem St.stp {a : Act} {w : World} (s : St n E h r F Y a w) (hs : Stp h r F Y (fun _ : Unit => True) fun _ => Y2) : St n E h r F Y2 a w := by
  obtain ⟨fps, s⟩ := s
  obtain ⟨x, fps', hp, _, hg⟩ := hs w fps s.own s.gh
  exact ⟨fps', s.ag, s.own, s.fr, s.may, hg⟩
theorem mem_erase_flat {fps : List (List Nat)} {i b : Nat} (h : b ∈ (fps.eraseIdx i).flatten) : ∃ j x, j ≠ i ∧ fps[j]? = some x ∧ b ∈ x := by
  obtain ⟨x, hx, hb⟩ := List.mem_flatten.1 h
  obtain ⟨j, hj, he⟩ := List.mem_eraseIdx_iff_getElem?.1 hx
  exact ⟨j, x, hj, he, hb⟩
theorem erase_flat_sub {fps : List (List Nat)} {i b : Nat} (h : b ∈ (fps.eraseIdx i).flatten) : b ∈ fps.flatten := by
  obtain ⟨j, x, _, h1, h2⟩ := mem_erase_flat h
  exact List.mem_flatten.2 ⟨x, List.mem_of_getElem? h1, h2⟩
theorem nodup_sublist_flat {fps fps' : List (List Nat)} (h : fps.flatten.Nodup) (hs : fps'.Sublist fps) : fps'.flatten.Nodup := by
  induction hs with
  | slnil => exact h
  | cons x _ ih => exact ih (List.nodup_append.1 (by simpa using h)).2.1
  | cons_cons x hs ih =>
    rw [List.flatten_cons, List.nodup_append] at h ⊢
    refine ⟨h.1, ih h.2.1, fun a ha b hb => h.2.2 a ha b ?_⟩
    obtain ⟨y, hy, hby⟩ := List.mem_flatten.1 hb
    exact List.mem_flatten.2 ⟨y, hs.subset hy, hby⟩
theorem GhF.less {w : World} {fps fps' : List (List Nat)} {C' : List Chunk} {G' : List (Value × D)} (H : GhF Y h r F w fps) (hsub : ∀ b ∈ fps'.flatten, b ∈ fps.flatten) (hnd : fps'.flatten.Nodup)
    (hC : Chs w (Sd Y h fps') C' fps') (hG : ∀ x ∈ G', Rep w (Sd Y h fps') x.1 x.2) : GhF ⟨Y.S, C', G'⟩ h r F w fps' :=
  ⟨hC, hnd, fun b hb => H.disj b (hsub b hb), fun x hx hm => H.apart x hx (hsub _ hm), fun f hf b hb => H.may f hf b (hsub b hb), fun b hb => H.lt b (hsub b hb), H.own, fun b hb => H.hid b (hsub b hb), H.top, hG⟩
theorem Sd_sub {fps fps' : List (List Nat)} (hsub : ∀ b ∈ fps'.flatten, b ∈ fps.flatten) {b : Nat} (h' : Sd Y h fps b) : Sd Y h fps' b := ⟨h'.1, h'.2.1, fun hm => h'.2.2 (hsub b hm)⟩
theorem stp_freeze0 (i : Nat) {v : Value} {e k : Nat} {rows : List (List D)} (hi : Y.C[i]? = some (cAcc v e k rows)) : Stp h r F Y (fun _ : Unit => True) fun _ => ⟨Y.S, Y.C.eraseIdx i, Y.G ++ [(v, .sl k rows)]⟩ := by
  intro w fps hO H
  obtain ⟨fp, hfp, hk, hP⟩ := H.chs.at hi
  have hS : ∀ b, Sd Y h fps b → Sd Y h (fps.eraseIdx i) b := fun b hb => Sd_sub (fun b hb => erase_flat_sub hb) hb
  refine ⟨(), fps.eraseIdx i, trivial, fun b hb => erase_flat_sub hb, H.less (fun b hb => erase_flat_sub hb) (nodup_sublist_flat H.nodup (List.eraseIdx_sublist _ _)) (H.chs.erase.mono (fun _ _ => rfl) fun b hb _ => ⟨hS b hb, rfl⟩) fun x hx => ?_⟩
  rcases List.mem_append.1 hx with hx | hx
  · exact (H.g x hx).mono fun b hb _ => ⟨hS b hb, rfl⟩
  · rw [List.mem_singleton] at hx
    subst hx
    rcases hP with ⟨rfl, rfl, _⟩ | ⟨g, cap, cur, xs, rfl, rfl, hg, hrow, hR⟩
    · exact .nil
    · refine Rep.of_row hg ?_ hrow hk hR.len fun i j row d h1 h2 => ?_
      · have hm : g ∈ fps.flatten := List.mem_flatten.2 ⟨[g], List.mem_of_getElem? hfp, by simp⟩
        refine ⟨H.hid g hm, H.disj g hm, fun hm2 => ?_⟩
        obtain ⟨j, x, hj, hx, hgx⟩ := mem_erase_flat hm2
        exact hj (flat_at H.nodup hx hfp hgx (by simp))
      · obtain ⟨u, hu, hr⟩ := hR.rep i j row d h1 h2
        exact ⟨u, hu, hr.mono fun b hb _ => ⟨hS b hb, rfl⟩⟩
theorem stp_freeze {S0 : Nat → Prop} {C0 : List Chunk} {G0 : List (Value × D)} (i : Nat) {v : Value} {e k : Nat} {rows : List (List D)} (hi : C0[i]? = some (cAcc v e k rows)) : Stp h r F ⟨S0, C0, G0⟩ (fun _ : Unit => True) fun _ => ⟨S0, C0.eraseIdx i, G0 ++ [(v, .sl k rows)]⟩ := stp_freeze0 (Y := ⟨S0, C0, G0⟩) i hi
theorem stp_pick0 (cs gs : List Nat) {C' : List Chunk} {G' : List (Value × D)} (hC : pick Y.C cs = C') (hG : pick Y.G gs = G') (hcs : cs.Nodup := by decide) : Stp h r F Y (fun _ : Unit => True) fun _ => ⟨Y.S, C', G'⟩ := by
  intro w fps hO H
  subst hC hG
  have hS : ∀ b, Sd Y h fps b → Sd Y h (pick fps cs) b := fun b hb => Sd_sub (fun b hb => pick_flat_sub hb) hb
  exact ⟨(), pick fps cs, trivial, fun b hb => pick_flat_sub hb, H.less (fun b hb => pick_flat_sub hb) (pick_flat_nodup H.nodup hcs) ((H.chs.pick cs).mono (fun _ _ => rfl) fun b hb _ => ⟨hS b hb, rfl⟩) fun x hx => (H.g x (pick_mem rfl x hx)).mono fun b hb _ => ⟨hS b hb, rfl⟩⟩
theorem stp_pick {S0 : Nat → Prop} {C0 : List Chunk} {G0 : List (Value × D)} (cs gs : List Nat) {C' : List Chunk} {G' : List (Value × D)} (hC : pick C0 cs = C') (hG : pick G0 gs = G') (hcs : cs.Nodup := by decide) : Stp h r F ⟨S0, C0, G0⟩ (fun _ : Unit => True) fun _ => ⟨S0, C', G'⟩ := stp_pick0 (Y := ⟨S0, C0, G0⟩) cs gs hC hG hcs
theorem stp_add0 (c : Chunk) (hc : ∀ w S, c.P w S []) : Stp h r F Y (fun _ : Unit => True) fun _ => ⟨Y.S, Y.C ++ [c], Y.G⟩ := by
  intro w fps hO H
  have e : (fps ++ [[]]).flatten = fps.flatten := by simp
  refine ⟨(), fps ++ [[]], trivial, fun b hb => by rwa [e] at hb, H.less (fun b hb => by rwa [e] at hb) (by rw [e]; exact H.nodup) ?_ fun x hx => (H.g x hx).mono fun b hb _ => ⟨Sd_sub (fun b hb => by rwa [e] at hb) hb, rfl⟩⟩
  exact (H.chs.app (show Chs w (Sd Y h fps) [c] [[]] from ⟨hc w _, trivial⟩)).mono (fun _ _ => rfl) fun b hb _ => ⟨Sd_sub (fun b hb => by rwa [e] at hb) hb, rfl⟩
theorem stp_add {S0 : Nat → Prop} {C0 : List Chunk} {G0 : List (Value × D)} (c : Chunk) (hc : ∀ w S, c.P w S []) : Stp h r F ⟨S0, C0, G0⟩ (fun _ : Unit => True) fun _ => ⟨S0, C0 ++ [c], G0⟩ := stp_add0 (Y := ⟨S0, C0, G0⟩) c hc
theorem stp_acc0 (e k : Nat) (hk : 0 < k := by decide) : Stp h r F Y (fun _ : Unit => True) fun _ => ⟨Y.S, Y.C ++ [cAcc (.slice none 0 0) e k []], Y.G⟩ := stp_add _ fun _ _ => ⟨hk, .inl ⟨rfl, rfl, rfl⟩⟩
theorem stp_acc {S0 : Nat → Prop} {C0 : List Chunk} {G0 : List (Value × D)} (e k : Nat) (hk : 0 < k := by decide) : Stp h r F ⟨S0, C0, G0⟩ (fun _ : Unit => True) fun _ => ⟨S0, C0 ++ [cAcc (.slice none 0 0) e k []], G0⟩ := stp_acc0 (Y := ⟨S0, C0, G0⟩) e k hk
theorem stp_accm0 {β : Type} (enc : β → List D) (e k : Nat) (hk : 0 < k := by decide) : Stp h r F Y (fun _ : Unit => True) fun _ => ⟨Y.S, Y.C ++ [cAcc (.slice none 0 0) e k (([] : List β).map enc)], Y.G⟩ := stp_acc e k hk
theorem stp_accm {S0 : Nat → Prop} {C0 : List Chunk} {G0 : List (Value × D)} {β : Type} (enc : β → List D) (e k : Nat) (hk : 0 < k := by decide) : Stp h r F ⟨S0, C0, G0⟩ (fun _ : Unit => True) fun _ => ⟨S0, C0 ++ [cAcc (.slice none 0 0) e k (([] : List β).map enc)], G0⟩ := stp_accm0 (Y := ⟨S0, C0, G0⟩) enc e k hk
theorem stp_fact0 {v : Value} {d : D} (hf : ∀ w S, (∀ x ∈ Y.G, Rep w S x.1 x.2) → Rep w S v d) : Stp h r F Y (fun _ : Unit => True) fun _ => ⟨Y.S, Y.C, Y.G ++ [(v, d)]⟩ := by
  intro w fps hO H
  refine ⟨(), fps, trivial, fun _ hb => hb, H.less (fun _ hb => hb) H.nodup H.chs fun x hx => ?_⟩
  rcases List.mem_append.1 hx with hx | hx
  · exact H.g x hx
  · rw [List.mem_singleton] at hx
    subst hx
    exact hf w _ H.g
theorem stp_fact {S0 : Nat → Prop} {C0 : List Chunk} {G0 : List (Value × D)} {v : Value} {d : D} (hf : ∀ w S, (∀ x ∈ G0, Rep w S x.1 x.2) → Rep w S v d) : Stp h r F ⟨S0, C0, G0⟩ (fun _ : Unit => True) fun _ => ⟨S0, C0, G0 ++ [(v, d)]⟩ := stp_fact0 (Y := ⟨S0, C0, G0⟩) hf
theorem stp_all {S0 : Nat → Prop} {C0 : List Chunk} {G0 : List (Value × D)} (p : Nat) (qs : List Nat) {v : Value} {l l' : List (Value × D)} (hp : G0[p]? = some (v, .all l)) (hl : pick l qs = l') : Stp h r F ⟨S0, C0, G0⟩ (fun _ : Unit => True) fun _ => ⟨S0, C0, G0 ++ l'⟩ := by
  intro w fps hO H
  refine ⟨(), fps, trivial, fun _ hb => hb, H.less (fun _ hb => hb) H.nodup H.chs fun x hx => ?_⟩
  rcases List.mem_append.1 hx with hx | hx
  · exact H.g x hx
  · exact (H.g _ (List.mem_of_getElem? hp)).part x (pick_mem hl x hx)
theorem stp_know {p : Prop} (hp : ∀ w fps, GhF Y h r F w fps → p) : Stp h r F Y (fun _ : Unit => p) fun _ => Y := fun w fps _ H => ⟨(), fps, hp w fps H, fun _ hb => hb, H⟩
theorem stp_conv0 (i : Nat) {c c' : Chunk} (hi : Y.C[i]? = some c) (hc : c.eqv c') : Stp h r F Y (fun _ : Unit => True) fun _ => ⟨Y.S, Y.C.set i c', Y.G⟩ := by
  intro w fps hO H
  obtain ⟨fp, hfp, hP⟩ := H.chs.at hi
  have hs := H.chs.set (hc _ _ _ hP) (i := i)
  have e : fps.set i fp = fps := set_same hfp
  rw [e] at hs
  exact ⟨(), fps, trivial, fun _ hb => hb, H.less (fun _ hb => hb) H.nodup hs H.g⟩
theorem stp_conv {S0 : Nat → Prop} {C0 : List Chunk} {G0 : List (Value × D)} (i : Nat) {c c' : Chunk} (hi : C0[i]? = some c) (hc : c.eqv c') : Stp h r F ⟨S0, C0, G0⟩ (fun _ : Unit => True) fun _ => ⟨S0, C0.set i c', G0⟩ := stp_conv0 (Y := ⟨S0, C0, G0⟩) i hi hc
theorem stp_exi0 (i : Nat) {β : Type} {g : β → Chunk} (hi : Y.C[i]? = some (cExi g)) : Stp h r F Y (fun _ : β => True) fun x => ⟨Y.S, Y.C.set i (g x), Y.G⟩ := by
  intro w fps hO H
  obtain ⟨fp, hfp, x, hP⟩ := H.chs.at hi
  have hs := H.chs.set hP (i := i)
  have e : fps.set i fp = fps := set_same hfp
  rw [e] at hs
  exact ⟨x, fps, trivial, fun _ hb => hb, H.less (fun _ hb => hb) H.nodup hs H.g⟩
theorem stp_exi {S0 : Nat → Prop} {C0 : List Chunk} {G0 : List (Value × D)} (i : Nat) {β : Type} {g : β → Chunk} (hi : C0[i]? = some (cExi g)) : Stp h r F ⟨S0, C0, G0⟩ (fun _ : β => True) fun x => ⟨S0, C0.set i (g x), G0⟩ := stp_exi0 (Y := ⟨S0, C0, G0⟩) i hi
theorem stp_pure0 (i : Nat) {p : Prop} (hi : Y.C[i]? = some (cPure p)) : Stp h r F Y (fun _ : Unit => p) fun _ => ⟨Y.S, Y.C.eraseIdx i, Y.G⟩ := by
  intro w fps hO H
  obtain ⟨fp, hfp, _, hp⟩ := H.chs.at hi
  exact ⟨(), fps.eraseIdx i, hp, fun b hb => erase_flat_sub hb, H.less (fun b hb => erase_flat_sub hb) (nodup_sublist_flat H.nodup (List.eraseIdx_sublist _ _)) (H.chs.erase.mono (fun _ _ => rfl) fun b hb _ => ⟨Sd_sub (fun b hb => erase_flat_sub hb) hb, rfl⟩) fun x hx => (H.g x hx).mono fun b hb _ => ⟨Sd_sub (fun b hb => erase_flat_sub hb) hb, rfl⟩⟩
theorem stp_pure {S0 : Nat → Prop} {C0 : List Chunk} {G0 : List (Value × D)} (i : Nat) {p : Prop} (hi : C0[i]? = some (cPure p)) : Stp h r F ⟨S0, C0, G0⟩ (fun _ : Unit => p) fun _ => ⟨S0, C0.eraseIdx i, G0⟩ := stp_pure0 (Y := ⟨S0, C0, G0⟩) i hi
theorem stp_star0 (i : Nat) {cs : List Chunk} (hi : Y.C[i]? = some (cStar cs)) : Stp h r F Y (fun _ : Unit => True) fun _ => ⟨Y.S, Y.C.eraseIdx i ++ cs, Y.G⟩ := by
  intro w fps hO H
  obtain ⟨fp, hfp, fps2, rfl, hP⟩ := H.chs.at hi
  have hmem : ∀ b, b ∈ fps2.flatten → b ∈ fps.flatten := fun b hb => List.mem_flatten.2 ⟨_, List.mem_of_getElem? hfp, hb⟩
  have hsub : ∀ b, b ∈ (fps.eraseIdx i ++ fps2).flatten → b ∈ fps.flatten := fun b hb => by
    rw [List.flatten_append] at hb
    rcases List.mem_append.1 hb with hb | hb
    · exact erase_flat_sub hb
    · exact hmem b hb
  have hS : ∀ b, Sd Y h fps b → Sd Y h (fps.eraseIdx i ++ fps2) b := fun b hb => Sd_sub hsub hb
  have hnd : fps2.flatten.Nodup := by
    obtain ⟨l1, l2, rfl⟩ := List.append_of_mem (List.mem_of_getElem? hfp)
    have := H.nodup
    rw [List.flatten_append, List.flatten_cons] at this
    exact (List.nodup_append.1 (List.nodup_append.1 this).2.1).1
  refine ⟨(), fps.eraseIdx i ++ fps2, trivial, hsub, H.less hsub ?_ ((H.chs.erase.app hP).mono (fun _ _ => rfl) fun b hb _ => ⟨hS b hb, rfl⟩) fun x hx => (H.g x hx).mono fun b hb _ => ⟨hS b hb, rfl⟩⟩
  rw [List.flatten_append, List.nodup_append]
  refine ⟨nodup_sublist_flat H.nodup (List.eraseIdx_sublist _ _), hnd, fun a ha b hb hab => ?_⟩
  subst hab
  obtain ⟨j, x, hj, hx, hax⟩ := mem_erase_flat ha
  exact hj (flat_at H.nodup hx hfp hax hb)
theorem stp_star {S0 : Nat → Prop} {C0 : List Chunk} {G0 : List (Value × D)} (i : Nat) {cs : List Chunk} (hi : C0[i]? = some (cStar cs)) : Stp h r F ⟨S0, C0, G0⟩ (fun _ : Unit => True) fun _ => ⟨S0, C0.eraseIdx i ++ cs, G0⟩ := stp_star0 (Y := ⟨S0, C0, G0⟩) i hi
theorem acc_len {a : Option Addr} {m c e k : Nat} {rows : List (List D)} {w : World} {S : Nat → Prop} {fp : List Nat} (hP : (cAcc (.slice a m c) e k rows).P w S fp) : m = rows.length := by
  rcases hP.2 with ⟨rfl, h1, _⟩ | ⟨g, cap, cur, xs, h1, _⟩
  · cases h1; rfl
  · cases h1; rfl
theorem Rep.slen {w : World} {S : Nat → Prop} {a : Option Addr} {m c k : Nat} {rows : List (List D)} (h : Rep w S (.slice a m c) (.sl k rows)) : m = rows.length := by
  cases h <;> rfl
theorem stp_acclen0 (i : Nat) {a : Option Addr} {m c e k : Nat} {rows : List (List D)} (hi : Y.C[i]? = some (cAcc (.slice a m c) e k rows)) : Stp h r F Y (fun _ : Unit => m = rows.length) fun _ => Y :=
  stp_know fun w fps H => by
    obtain ⟨fp, _, hP⟩ := H.chs.at hi
    exact acc_len hP
theorem stp_acclen {S0 : Nat → Prop} {C0 : List Chunk} {G0 : List (Value × D)} (i : Nat) {a : Option Addr} {m c e k : Nat} {rows : List (List D)} (hi : C0[i]? = some (cAcc (.slice a m c) e k rows)) : Stp h r F ⟨S0, C0, G0⟩ (fun _ : Unit => m = rows.length) fun _ => ⟨S0, C0, G0⟩ := stp_acclen0 (Y := ⟨S0, C0, G0⟩) i hi
theorem stp_replen0 (i : Nat) {a : Option Addr} {m c k : Nat} {rows : List (List D)} (hi : Y.G[i]? = some (.slice a m c, .sl k rows)) : Stp h r F Y (fun _ : Unit => m = rows.length) fun _ => Y :=
  stp_know fun w fps H => (H.g _ (List.mem_of_getElem? hi)).slen
theorem stp_replen {S0 : Nat → Prop} {C0 : List Chunk} {G0 : List (Value × D)} (i : Nat) {a : Option Addr} {m c k : Nat} {rows : List (List D)} (hi : G0[i]? = some (.slice a m c, .sl k rows)) : Stp h r F ⟨S0, C0, G0⟩ (fun _ : Unit => m = rows.length) fun _ => ⟨S0, C0, G0⟩ := stp_replen0 (Y := ⟨S0, C0, G0⟩) i hi
end steps
def inst : List D → List (Option Addr × Nat) → List Value
  | [], _ => []
  | .v x :: ds, ls => x :: inst ds ls
  | .sl _ rows :: ds, l :: ls => .slice l.1 rows.length l.2 :: inst ds ls
  | .sl _ rows :: ds, [] => .slice none rows.length 0 :: inst ds []
  | .ptr _ :: ds, l :: ls => .pointer l.1 :: inst ds ls
  | .ptr _ :: ds, [] => .pointer none :: inst ds []
  | .obj _ :: ds, l :: ls => .pointer l.1 :: inst ds ls
  | .obj _ :: ds, [] => .pointer none :: inst ds []
  | .all _ :: ds, ls => .nilIface :: inst ds ls
def deep : List D → List (Option Addr × Nat) → List (Value × D)
  | [], _ => []
  | .v _ :: ds, ls => deep ds ls
  | .sl k rows :: ds, l :: ls => (.slice l.1 rows.length l.2, .sl k rows) :: deep ds ls
  | .sl _ _ :: ds, [] => deep ds []
  | .ptr d :: ds, l :: ls => (.pointer l.1, .ptr d) :: deep ds ls
  | .ptr _ :: ds, [] => deep ds []
  | .obj o :: ds, l :: ls => (.pointer l.1, .obj o) :: deep ds ls
  | .obj _ :: ds, [] => deep ds []
  | .all _ :: ds, ls => deep ds ls
def sls : List D → Nat
  | [] => 0
  | .v _ :: ds => sls ds
  | .sl _ _ :: ds => sls ds + 1
  | .ptr _ :: ds => sls ds + 1
  | .obj _ :: ds => sls ds + 1
  | .all _ :: ds => sls ds
theorem inst_ex {w : World} {S : Nat → Prop} : ∀ (ds : List D) (u : Nat → Value), (∀ j d, ds[j]? = some d → Rep w S (u j) d) → ∃ ls, ls.length = sls ds ∧ (∀ (j : Nat) x, (inst ds ls)[j]? = some x → x = u j) ∧ ∀ y ∈ deep ds ls, Rep w S y.1 y.2
  | [], u, _ => ⟨[], rfl, by simp [inst], by simp [deep]⟩
  | .v y :: ds, u, h => by
    obtain ⟨ls, h1, h2, h3⟩ := inst_ex ds (fun j => u (j + 1)) fun j d hd => h (j + 1) d (by simpa using hd)
    refine ⟨ls, h1, fun j x hx => ?_, h3⟩
    cases j with
    | zero =>
      simp only [inst, List.getElem?_cons_zero, Option.some.injEq] at hx
      rw [← hx]
      exact (h 0 _ rfl).plain.symm
    | succ j => exact h2 j x (by simpa [inst] using hx)
  | .all l :: ds, u, h => by
    obtain ⟨ls, h1, h2, h3⟩ := inst_ex ds (fun j => u (j + 1)) fun j d hd => h (j + 1) d (by simpa using hd)
    refine ⟨ls, h1, fun j x hx => ?_, h3⟩
    cases j with
    | zero =>
      simp only [inst, List.getElem?_cons_zero, Option.some.injEq] at hx
      have h0 := h 0 _ rfl
      rw [← hx]
      generalize u 0 = y at h0
      cases h0
      rfl
    | succ j => exact h2 j x (by simpa [inst] using hx)
  | .sl k rows :: ds, u, h => by
    obtain ⟨ls, h1, h2, h3⟩ := inst_ex ds (fun j => u (j + 1)) fun j d hd => h (j + 1) d (by simpa using hd)
    have h0 := h 0 _ rfl
    obtain ⟨a, c, hu, _⟩ := h0.form
    refine ⟨(a, c) :: ls, by simp [sls, h1], fun j x hx => ?_, fun y hy => ?_⟩
    · cases j with
      | zero =>
        simp only [inst, List.getElem?_cons_zero, Option.some.injEq] at hx
        rw [← hx, hu]
      | succ j => exact h2 j x (by simpa [inst] using hx)
    · simp only [deep, List.mem_cons] at hy
      rcases hy with rfl | hy
      · rw [← hu]; exact h0
      · exact h3 y hy
  | .ptr dd :: ds, u, h => by
    obtain ⟨ls, h1, h2, h3⟩ := inst_ex ds (fun j => u (j + 1)) fun j d hd => h (j + 1) d (by simpa using hd)
    have h0 := h 0 _ rfl
    obtain ⟨a, hu⟩ : ∃ a, u 0 = .pointer a := by
      generalize u 0 = x at h0
      cases h0
      exact ⟨_, rfl⟩
    refine ⟨(a, 0) :: ls, by simp [sls, h1], fun j x hx => ?_, fun y hy => ?_⟩
    · cases j with
      | zero =>
        simp only [inst, List.getElem?_cons_zero, Option.some.injEq] at hx
        rw [← hx, hu]
      | succ j => exact h2 j x (by simpa [inst] using hx)
    · simp only [deep, List.mem_cons] at hy
      rcases hy with rfl | hy
      · rw [← hu]; exact h0
      · exact h3 y hy
  | .obj dd :: ds, u, h => by
    obtain ⟨ls, h1, h2, h3⟩ := inst_ex ds (fun j => u (j + 1)) fun j d hd => h (j + 1) d (by simpa using hd)
    have h0 := h 0 _ rfl
    obtain ⟨a, hu⟩ : ∃ a, u 0 = .pointer a := by
      generalize u 0 = x at h0
      cases h0
      exact ⟨_, rfl⟩
    refine ⟨(a, 0) :: ls, by simp [sls, h1], fun j x hx => ?_, fun y hy => ?_⟩
    · cases j with
      | zero =>
        simp only [inst, List.getElem?_cons_zero, Option.some.injEq] at hx
        rw [← hx, hu]
      | succ j => exact h2 j x (by simpa [inst] using hx)
    · simp only [deep, List.mem_cons] at hy
      rcases hy with rfl | hy
      · rw [← hu]; exact h0
      · exact h3 y hy
theorem inst_len : ∀ (ds : List D) (ls : List (Option Addr × Nat)), (inst ds ls).length = ds.length
  | [], ls => by simp [inst]
  | .v _ :: ds, ls => by simp [inst, inst_len ds]
  | .sl _ _ :: ds, [] => by simp [inst, inst_len ds]
  | .sl _ _ :: ds, _ :: _ => by simp [inst, inst_len ds]
  | .ptr _ :: ds, [] => by simp [inst, inst_len ds]
  | .ptr _ :: ds, _ :: _ => by simp [inst, inst_len ds]
  | .obj _ :: ds, [] => by simp [inst, inst_len ds]
  | .obj _ :: ds, _ :: _ => by simp [inst, inst_len ds]
  | .all _ :: ds, ls => by simp [inst, inst_len ds]
section reads
variable {P : Program} {f : Func} [Pan f] {R : Act → World → Prop} {n : Nat} [Dfr n] {kk : List Itm} {E : Env} {h r : List (Nat × Obj)} {F : List (List Nat × World)} {Y : Ghost}
theorem J_readl0 (p : Nat) {a : Option Addr} {m c k : Nat} {rows : List (List D)} (hG : Y.G[p]? = some (.slice a m c, .sl k rows)) (i : Nat) {row : List D} (hrow : rows[i]? = some row)
    (H : ∀ b off cs e fz ls, a = some ⟨b, off, none⟩ → ls.length = sls row → (∀ (j : Nat) u, (inst row ls)[j]? = some u → cs[off + i * k + j]? = some u) → J P f R n kk E h (r ++ [(b, .cells cs e fz)]) F ⟨Y.S, Y.C, Y.G ++ deep row ls⟩) : J P f R n kk E h r F Y := by
  intro a0 w ⟨fps, s⟩
  have hR := s.gh.g _ (List.mem_of_getElem? hG)
  have hlt := (List.getElem?_eq_some_iff.1 hrow).1
  cases hR with
  | nil => simp at hlt
  | sl u hb hS hc hk hl hcell hrep =>
    rename_i b off cs e fz
    obtain ⟨ls, h1, h2, h3⟩ := inst_ex row (u i) fun j d hd => hrep i j row d hrow hd
    refine H b off cs e fz ls rfl h1 (fun j x hx => ?_) a0 w ⟨fps, s.ag, ⟨s.own.own, s.own.nodup, fun x hx => ?_, fun x hx => ?_⟩, s.fr, s.may, ⟨s.gh.chs, s.gh.nodup, s.gh.disj, fun x hx => ?_, s.gh.may, s.gh.lt, s.gh.own, s.gh.hid, s.gh.top, fun x hx => ?_⟩⟩
    · have hj : j < row.length := by
        have h4 := (List.getElem?_eq_some_iff.1 hx).1
        rw [inst_len] at h4
        exact h4
      rw [h2 j x hx, Nat.add_assoc]
      exact hcell i j hlt (by rw [← hl row (List.mem_of_getElem? hrow)]; exact hj)
    · rcases List.mem_append.1 hx with hx | hx
      · exact s.own.ro x hx
      · rw [List.mem_singleton] at hx; subst hx; exact hb
    · rcases List.mem_append.1 hx with hx | hx
      · exact s.own.apart x hx
      · rw [List.mem_singleton] at hx; subst hx; exact hS.2.1
    · rcases List.mem_append.1 hx with hx | hx
      · exact s.gh.apart x hx
      · rw [List.mem_singleton] at hx; subst hx; exact hS.2.2
    · rcases List.mem_append.1 hx with hx | hx
      · exact s.gh.g x hx
      · exact h3 x hx
theorem J_readl {S0 : Nat → Prop} {C0 : List Chunk} {G0 : List (Value × D)} (p : Nat) {a : Option Addr} {m c k : Nat} {rows : List (List D)} (hG : G0[p]? = some (.slice a m c, .sl k rows)) (i : Nat) {row : List D} (hrow : rows[i]? = some row)
    (H : ∀ b off cs e fz ls, a = some ⟨b, off, none⟩ → ls.length = sls row → (∀ (j : Nat) u, (inst row ls)[j]? = some u → cs[off + i * k + j]? = some u) → J P f R n kk E h (r ++ [(b, .cells cs e fz)]) F ⟨S0, C0, G0 ++ deep row ls⟩) : J P f R n kk E h r F ⟨S0, C0, G0⟩ := J_readl0 (Y := ⟨S0, C0, G0⟩) p hG i hrow H
theorem J_read00 (p : Nat) {a : Option Addr} {m c k : Nat} {rows : List (List D)} (hG : Y.G[p]? = some (.slice a m c, .sl k rows)) (i : Nat) {row : List D} (hrow : rows[i]? = some row) (hs : sls row = 0)
    (H : ∀ b off cs e fz, a = some ⟨b, off, none⟩ → (∀ (j : Nat) u, (inst row [])[j]? = some u → cs[off + i * k + j]? = some u) → J P f R n kk E h (r ++ [(b, .cells cs e fz)]) F ⟨Y.S, Y.C, Y.G ++ deep row []⟩) : J P f R n kk E h r F Y :=
  J_readl p hG i hrow fun b off cs e fz ls h1 h2 h3 => by
    rw [hs] at h2
    match ls, h2, h3 with
    | [], _, h3 => exact H b off cs e fz h1 h3
theorem J_read0 {S0 : Nat → Prop} {C0 : List Chunk} {G0 : List (Value × D)} (p : Nat) {a : Option Addr} {m c k : Nat} {rows : List (List D)} (hG : G0[p]? = some (.slice a m c, .sl k rows)) (i : Nat) {row : List D} (hrow : rows[i]? = some row) (hs : sls row = 0)
    (H : ∀ b off cs e fz, a = some ⟨b, off, none⟩ → (∀ (j : Nat) u, (inst row [])[j]? = some u → cs[off + i * k + j]? = some u) → J P f R n kk E h (r ++ [(b, .cells cs e fz)]) F ⟨S0, C0, G0 ++ deep row []⟩) : J P f R n kk E h r F ⟨S0, C0, G0⟩ := J_read00 (Y := ⟨S0, C0, G0⟩) p hG i hrow hs H
theorem J_read10 (p : Nat) {a : Option Addr} {m c k : Nat} {rows : List (List D)} (hG : Y.G[p]? = some (.slice a m c, .sl k rows)) (i : Nat) {row : List D} (hrow : rows[i]? = some row) (hs : sls row = 1)
    (H : ∀ b off cs e fz a1 c1, a = some ⟨b, off, none⟩ → (∀ (j : Nat) u, (inst row [(a1, c1)])[j]? = some u → cs[off + i * k + j]? = some u) → J P f R n kk E h (r ++ [(b, .cells cs e fz)]) F ⟨Y.S, Y.C, Y.G ++ deep row [(a1, c1)]⟩) : J P f R n kk E h r F Y :=
  J_readl p hG i hrow fun b off cs e fz ls h1 h2 h3 => by
    rw [hs] at h2
    match ls, h2, h3 with
    | [(a1, c1)], _, h3 => exact H b off cs e fz a1 c1 h1 h3
theorem J_read1 {S0 : Nat → Prop} {C0 : List Chunk} {G0 : List (Value × D)} (p : Nat) {a : Option Addr} {m c k : Nat} {rows : List (List D)} (hG : G0[p]? = some (.slice a m c, .sl k rows)) (i : Nat) {row : List D} (hrow : rows[i]? = some row) (hs : sls row = 1)
    (H : ∀ b off cs e fz a1 c1, a = some ⟨b, off, none⟩ → (∀ (j : Nat) u, (inst row [(a1, c1)])[j]? = some u → cs[off + i * k + j]? = some u) → J P f R n kk E h (r ++ [(b, .cells cs e fz)]) F ⟨S0, C0, G0 ++ deep row [(a1, c1)]⟩) : J P f R n kk E h r F ⟨S0, C0, G0⟩ := J_read10 (Y := ⟨S0, C0, G0⟩) p hG i hrow hs H
theorem J_read20 (p : Nat) {a : Option Addr} {m c k : Nat} {rows : List (List D)} (hG : Y.G[p]? = some (.slice a m c, .sl k rows)) (i : Nat) {row : List D} (hrow : rows[i]? = some row) (hs : sls row = 2)
    (H : ∀ b off cs e fz a1 c1 a2 c2, a = some ⟨b, off, none⟩ → (∀ (j : Nat) u, (inst row [(a1, c1), (a2, c2)])[j]? = some u → cs[off + i * k + j]? = some u) → J P f R n kk E h (r ++ [(b, .cells cs e fz)]) F ⟨Y.S, Y.C, Y.G ++ deep row [(a1, c1), (a2, c2)]⟩) : J P f R n kk E h r F Y :=
  J_readl p hG i hrow fun b off cs e fz ls h1 h2 h3 => by
    rw [hs] at h2
    match ls, h2, h3 with
    | [(a1, c1), (a2, c2)], _, h3 => exact H b off cs e fz a1 c1 a2 c2 h1 h3
theorem J_read2 {S0 : Nat → Prop} {C0 : List Chunk} {G0 : List (Value × D)} (p : Nat) {a : Option Addr} {m c k : Nat} {rows : List (List D)} (hG : G0[p]? = some (.slice a m c, .sl k rows)) (i : Nat) {row : List D} (hrow : rows[i]? = some row) (hs : sls row = 2)
    (H : ∀ b off cs e fz a1 c1 a2 c2, a = some ⟨b, off, none⟩ → (∀ (j : Nat) u, (inst row [(a1, c1), (a2, c2)])[j]? = some u → cs[off + i * k + j]? = some u) → J P f R n kk E h (r ++ [(b, .cells cs e fz)]) F ⟨S0, C0, G0 ++ deep row [(a1, c1), (a2, c2)]⟩) : J P f R n kk E h r F ⟨S0, C0, G0⟩ := J_read20 (Y := ⟨S0, C0, G0⟩) p hG i hrow hs H
theorem J_ptrl0 (p : Nat) {x : Option Addr} {ds : List D} (hG : Y.G[p]? = some (.pointer x, .ptr ds))
    (H : ∀ b off cs e fz ls, x = some ⟨b, off, none⟩ → ls.length = sls ds → (∀ (j : Nat) u, (inst ds ls)[j]? = some u → cs[off + j]? = some u) → J P f R n kk E h (r ++ [(b, .cells cs e fz)]) F ⟨Y.S, Y.C, Y.G ++ deep ds ls⟩) : J P f R n kk E h r F Y := by
  intro a0 w ⟨fps, s⟩
  have hR := s.gh.g _ (List.mem_of_getElem? hG)
  cases hR with
  | ptr u hb hS hcell hrep =>
    rename_i b off cs e fz
    obtain ⟨ls, h1, h2, h3⟩ := inst_ex ds u hrep
    refine H b off cs e fz ls rfl h1 (fun j x hx => ?_) a0 w ⟨fps, s.ag, ⟨s.own.own, s.own.nodup, fun x hx => ?_, fun x hx => ?_⟩, s.fr, s.may, ⟨s.gh.chs, s.gh.nodup, s.gh.disj, fun x hx => ?_, s.gh.may, s.gh.lt, s.gh.own, s.gh.hid, s.gh.top, fun x hx => ?_⟩⟩
    · have hj := (List.getElem?_eq_some_iff.1 hx).1
      rw [inst_len] at hj
      rw [h2 j x hx]
      exact hcell j hj
    · rcases List.mem_append.1 hx with hx | hx
      · exact s.own.ro x hx
      · rw [List.mem_singleton] at hx; subst hx; exact hb
    · rcases List.mem_append.1 hx with hx | hx
      · exact s.own.apart x hx
      · rw [List.mem_singleton] at hx; subst hx; exact hS.2.1
    · rcases List.mem_append.1 hx with hx | hx
      · exact s.gh.apart x hx
      · rw [List.mem_singleton] at hx; subst hx; exact hS.2.2
    · rcases List.mem_append.1 hx with hx | hx
      · exact s.gh.g x hx
      · exact h3 x hx
theorem J_ptrl {S0 : Nat → Prop} {C0 : List Chunk} {G0 : List (Value × D)} (p : Nat) {x : Option Addr} {ds : List D} (hG : G0[p]? = some (.pointer x, .ptr ds))
    (H : ∀ b off cs e fz ls, x = some ⟨b, off, none⟩ → ls.length = sls ds → (∀ (j : Nat) u, (inst ds ls)[j]? = some u → cs[off + j]? = some u) → J P f R n kk E h (r ++ [(b, .cells cs e fz)]) F ⟨S0, C0, G0 ++ deep ds ls⟩) : J P f R n kk E h r F ⟨S0, C0, G0⟩ := J_ptrl0 (Y := ⟨S0, C0, G0⟩) p hG H
theorem J_glob0 (p : Nat) {b : Nat} {v : Value} (hG : Y.G[p]? = some (.pointer (some ⟨b, 0, none⟩), .ptr [.v v]))
    (H : ∀ cs e fz, cs[0]? = some v → J P f R n kk E h (r ++ [(b, .cells cs e fz)]) F Y) : J P f R n kk E h r F Y :=
  J_ptrl p hG fun b' off cs e fz ls h1 h2 h3 => by
    cases h1
    have : Y.G ++ deep [D.v v] ls = Y.G := by simp [deep]
    rw [this]
    exact H cs e fz (by have := h3 0 v rfl; simpa using this)
theorem J_glob {S0 : Nat → Prop} {C0 : List Chunk} {G0 : List (Value × D)} (p : Nat) {b : Nat} {v : Value} (hG : G0[p]? = some (.pointer (some ⟨b, 0, none⟩), .ptr [.v v]))
    (H : ∀ cs e fz, cs[0]? = some v → J P f R n kk E h (r ++ [(b, .cells cs e fz)]) F ⟨S0, C0, G0⟩) : J P f R n kk E h r F ⟨S0, C0, G0⟩ := J_glob0 (Y := ⟨S0, C0, G0⟩) p hG H
theorem J_ro (r' : List (Nat × Obj)) (hs : ∀ x ∈ r', x ∈ r) (H : J P f R n kk E h r' F Y) : J P f R n kk E h r F Y := fun a w ⟨fps, s⟩ =>
  H a w ⟨fps, s.ag, ⟨s.own.own, s.own.nodup, fun x hx => s.own.ro x (hs x hx), fun x hx => s.own.apart x (hs x hx)⟩, s.fr, s.may, ⟨s.gh.chs, s.gh.nodup, s.gh.disj, fun x hx => s.gh.apart x (hs x hx), s.gh.may, s.gh.lt, s.gh.own, s.gh.hid, s.gh.top, s.gh.g⟩⟩
theorem J_againl0 (p : Nat) {b off : Nat} {m c k : Nat} {rows : List (List D)} (hG : Y.G[p]? = some (.slice (some ⟨b, off, none⟩) m c, .sl k rows)) (q : Nat) {cs : Array Value} {e : TypeId} {fz : Nat × Nat} (hq : r[q]? = some (b, .cells cs e fz)) (i : Nat) {row : List D} (hrow : rows[i]? = some row)
    (H : ∀ ls, ls.length = sls row → (∀ (j : Nat) u, (inst row ls)[j]? = some u → cs[off + i * k + j]? = some u) → J P f R n kk E h r F ⟨Y.S, Y.C, Y.G ++ deep row ls⟩) : J P f R n kk E h r F Y := by
  intro a0 w ⟨fps, s⟩
  have hb1 := s.own.ro _ (List.mem_of_getElem? hq)
  refine J_readl p hG i hrow (fun b2 off2 cs2 e2 fz2 ls ha hls hc => ?_) a0 w ⟨fps, s⟩
  cases ha
  intro a1 w1 s1
  have h1 := s1.own.ro (b, .cells cs e fz) (List.mem_append_left _ (List.mem_of_getElem? hq))
  have h2 := s1.own.ro (b, .cells cs2 e2 fz2) (List.mem_append_right _ (by simp))
  rw [h1] at h2
  cases h2
  exact J_ro r (fun x hx => List.mem_append_left _ hx) (H ls hls hc) a1 w1 s1
theorem J_againl {S0 : Nat → Prop} {C0 : List Chunk} {G0 : List (Value × D)} (p : Nat) {b off : Nat} {m c k : Nat} {rows : List (List D)} (hG : G0[p]? = some (.slice (some ⟨b, off, none⟩) m c, .sl k rows)) (q : Nat) {cs : Array Value} {e : TypeId} {fz : Nat × Nat} (hq : r[q]? = some (b, .cells cs e fz)) (i : Nat) {row : List D} (hrow : rows[i]? = some row)
    (H : ∀ ls, ls.length = sls row → (∀ (j : Nat) u, (inst row ls)[j]? = some u → cs[off + i * k + j]? = some u) → J P f R n kk E h r F ⟨S0, C0, G0 ++ deep row ls⟩) : J P f R n kk E h r F ⟨S0, C0, G0⟩ := J_againl0 (Y := ⟨S0, C0, G0⟩) p hG q hq i hrow H
theorem J_again00 (p : Nat) {b off : Nat} {m c k : Nat} {rows : List (List D)} (hG : Y.G[p]? = some (.slice (some ⟨b, off, none⟩) m c, .sl k rows)) (q : Nat) {cs : Array Value} {e : TypeId} {fz : Nat × Nat} (hq : r[q]? = some (b, .cells cs e fz)) (i : Nat) {row : List D} (hrow : rows[i]? = some row) (hs : sls row = 0)
    (H : (∀ (j : Nat) u, (inst row [])[j]? = some u → cs[off + i * k + j]? = some u) → J P f R n kk E h r F ⟨Y.S, Y.C, Y.G ++ deep row []⟩) : J P f R n kk E h r F Y :=
  J_againl p hG q hq i hrow fun ls h2 h3 => by
    rw [hs] at h2
    match ls, h2, h3 with
    | [], _, h3 => exact H h3
theorem J_again0 {S0 : Nat → Prop} {C0 : List Chunk} {G0 : List (Value × D)} (p : Nat) {b off : Nat} {m c k : Nat} {rows : List (List D)} (hG : G0[p]? = some (.slice (some ⟨b, off, none⟩) m c, .sl k rows)) (q : Nat) {cs : Array Value} {e : TypeId} {fz : Nat × Nat} (hq : r[q]? = some (b, .cells cs e fz)) (i : Nat) {row : List D} (hrow : rows[i]? = some row) (hs : sls row = 0)
    (H : (∀ (j : Nat) u, (inst row [])[j]? = some u → cs[off + i * k + j]? = some u) → J P f R n kk E h r F ⟨S0, C0, G0 ++ deep row []⟩) : J P f R n kk E h r F ⟨S0, C0, G0⟩ := J_again00 (Y := ⟨S0, C0, G0⟩) p hG q hq i hrow hs H
theorem J_again10 (p : Nat) {b off : Nat} {m c k : Nat} {rows : List (List D)} (hG : Y.G[p]? = some (.slice (some ⟨b, off, none⟩) m c, .sl k rows)) (q : Nat) {cs : Array Value} {e : TypeId} {fz : Nat × Nat} (hq : r[q]? = some (b, .cells cs e fz)) (i : Nat) {row : List D} (hrow : rows[i]? = some row) (hs : sls row = 1)
    (H : ∀ a1 c1, (∀ (j : Nat) u, (inst row [(a1, c1)])[j]? = some u → cs[off + i * k + j]? = some u) → J P f R n kk E h r F ⟨Y.S, Y.C, Y.G ++ deep row [(a1, c1)]⟩) : J P f R n kk E h r F Y :=
  J_againl p hG q hq i hrow fun ls h2 h3 => by
    rw [hs] at h2
    match ls, h2, h3 with
    | [(a1, c1)], _, h3 => exact H a1 c1 h3
theorem J_again1 {S0 : Nat → Prop} {C0 : List Chunk} {G0 : List (Value × D)} (p : Nat) {b off : Nat} {m c k : Nat} {rows : List (List D)} (hG : G0[p]? = some (.slice (some ⟨b, off, none⟩) m c, .sl k rows)) (q : Nat) {cs : Array Value} {e : TypeId} {fz : Nat × Nat} (hq : r[q]? = some (b, .cells cs e fz)) (i : Nat) {row : List D} (hrow : rows[i]? = some row) (hs : sls row = 1)
    (H : ∀ a1 c1, (∀ (j : Nat) u, (inst row [(a1, c1)])[j]? = some u → cs[off + i * k + j]? = some u) → J P f R n kk E h r F ⟨S0, C0, G0 ++ deep row [(a1, c1)]⟩) : J P f R n kk E h r F ⟨S0, C0, G0⟩ := J_again10 (Y := ⟨S0, C0, G0⟩) p hG q hq i hrow hs H
theorem StF.hpick {a : Act} {w : World} {fps : List (List Nat)} (s : StF n E h r F Y a w fps) (ps : List Nat) {h' : List (Nat × Obj)} (hh : pick h ps = h') (hps : ps.Nodup) : StF n E h' r F Y a w fps := by
  subst hh
  have hm : ∀ x ∈ pick h ps, x ∈ h := fun x hx => pick_mem rfl x hx
  have hid : ∀ b, b ∈ (pick h ps).map (·.1) → b ∈ h.map (·.1) := fun b hb => by
    obtain ⟨x, hx, rfl⟩ := List.mem_map.1 hb
    exact List.mem_map.2 ⟨x, hm x hx, rfl⟩
  have hS : ∀ b, Sd Y h fps b → Sd Y (pick h ps) fps b := fun b hb => ⟨hb.1, fun hx => hb.2.1 (hid b hx), hb.2.2⟩
  exact ⟨s.ag, ⟨fun x hx => s.own.own x (hm x hx), pick_nodup rfl hps s.own.nodup, s.own.ro, fun x hx hb => s.own.apart x hx (hid _ hb)⟩, s.fr, fun f hf x hx => s.may f hf x (hm x hx),
    ⟨s.gh.chs.mono (fun _ _ => rfl) fun b hb _ => ⟨hS b hb, rfl⟩, s.gh.nodup, fun b hb hx => s.gh.disj b hb (hid b hx), s.gh.apart, s.gh.may, s.gh.lt, fun x hx => s.gh.own x (hm x hx), s.gh.hid, s.gh.top, fun x hx => (s.gh.g x hx).mono fun b hb _ => ⟨hS b hb, rfl⟩⟩⟩
theorem StF.hide {a : Act} {w : World} {fps : List (List Nat)} (s : StF n E h r F Y a w fps) (p : Nat) {b : Nat} {o : Obj} (hp : h[p]? = some (b, o)) : ∃ fps', StF n E (h.eraseIdx p) r F ⟨Y.S, Y.C ++ [cObj b o], Y.G⟩ a w fps' := by
  have hm : ∀ x ∈ h.eraseIdx p, x ∈ h := fun x hx => (List.eraseIdx_sublist h p).subset hx
  have hid : ∀ c, c ∈ (h.eraseIdx p).map (·.1) → c ∈ h.map (·.1) := fun c hc => by
    obtain ⟨x, hx, rfl⟩ := List.mem_map.1 hc
    exact List.mem_map.2 ⟨x, hm x hx, rfl⟩
  have hnot : b ∉ (h.eraseIdx p).map (·.1) := fun hc => by
    obtain ⟨x, hx, hxb⟩ := List.mem_map.1 hc
    obtain ⟨j, hj, he⟩ := List.mem_eraseIdx_iff_getElem?.1 hx
    have h1 : (h.map (·.1))[j]? = some b := by simp [he, hxb]
    have h2 : (h.map (·.1))[p]? = some b := by simp [hp]
    exact hj ((List.getElem?_inj (List.getElem?_eq_some_iff.1 h1).1 s.own.nodup).1 (h1.trans h2.symm))
  have hbm : (b, o) ∈ h := List.mem_of_getElem? hp
  have e : (fps ++ [[b]]).flatten = fps.flatten ++ [b] := by simp
  have hS : ∀ c, Sd Y h fps c → Sd Y (h.eraseIdx p) (fps ++ [[b]]) c := fun c hc => ⟨hc.1, fun hx => hc.2.1 (hid c hx), fun hx => by
    rw [e] at hx
    rcases List.mem_append.1 hx with hx | hx
    · exact hc.2.2 hx
    · rw [List.mem_singleton] at hx
      subst hx
      exact hc.2.1 (List.mem_map.2 ⟨_, hbm, rfl⟩)⟩
  have hin : ∀ c, c ∈ (fps ++ [[b]]).flatten → c ∈ fps.flatten ∨ c = b := fun c hc => by
    rw [e] at hc
    simpa using hc
  refine ⟨fps ++ [[b]], s.ag, ⟨fun x hx => s.own.own x (hm x hx), ((List.eraseIdx_sublist h p).map _).nodup s.own.nodup, s.own.ro, fun x hx hc => s.own.apart x hx (hid _ hc)⟩, s.fr, fun f hf x hx => s.may f hf x (hm x hx),
    ⟨(s.gh.chs.mono (fun _ _ => rfl) fun c hc _ => ⟨hS c hc, rfl⟩).app ⟨⟨rfl, s.own.own _ hbm⟩, trivial⟩, ?_, fun c hc hx => ?_, fun x hx hc => ?_, fun f hf c hc => ?_, fun c hc => ?_, fun x hx => s.gh.own x (hm x hx), fun c hc => ?_, s.gh.top, fun x hx => (s.gh.g x hx).mono fun c hc _ => ⟨hS c hc, rfl⟩⟩⟩
  · rw [e, List.nodup_append]
    refine ⟨s.gh.nodup, by simp, fun x hx y hy hxy => ?_⟩
    simp at hy
    subst hy hxy
    exact s.gh.disj _ hx (List.mem_map.2 ⟨_, hbm, rfl⟩)
  · rcases hin c hc with h1 | rfl
    · exact s.gh.disj c h1 (hid c hx)
    · exact hnot hx
  · rcases hin _ hc with h1 | h1
    · exact s.gh.apart x hx h1
    · exact s.own.apart x hx (List.mem_map.2 ⟨_, hbm, h1.symm⟩)
  · rcases hin c hc with h1 | rfl
    · exact s.gh.may f hf c h1
    · exact s.may f hf _ hbm
  · rcases hin c hc with h1 | rfl
    · exact s.gh.lt c h1
    · exact s.own.own.lt hbm
  · rcases hin c hc with h1 | rfl
    · exact s.gh.hid c h1
    · exact s.gh.own _ hbm
theorem J_hide0 (p : Nat) {b : Nat} {o : Obj} (hp : h[p]? = some (b, o)) (H : J P f R n kk E (h.eraseIdx p) r F ⟨Y.S, Y.C ++ [cObj b o], Y.G⟩) : J P f R n kk E h r F Y := fun a w ⟨_, s⟩ => by
  obtain ⟨fps', s'⟩ := s.hide p hp
  exact H a w ⟨fps', s'⟩
theorem J_hide {S0 : Nat → Prop} {C0 : List Chunk} {G0 : List (Value × D)} (p : Nat) {b : Nat} {o : Obj} (hp : h[p]? = some (b, o)) (H : J P f R n kk E (h.eraseIdx p) r F ⟨S0, C0 ++ [cObj b o], G0⟩) : J P f R n kk E h r F ⟨S0, C0, G0⟩ := J_hide0 (Y := ⟨S0, C0, G0⟩) p hp H
theorem St.hide {a : Act} {w : World} (s : St n E h r F Y a w) (p : Nat) {b : Nat} {o : Obj} (hp : h[p]? = some (b, o)) : St n E (h.eraseIdx p) r F ⟨Y.S, Y.C ++ [cObj b o], Y.G⟩ a w := by
  obtain ⟨_, s⟩ := s
  exact s.hide p hp
theorem J_show0 (i : Nat) {b : Nat} {o : Obj} (hi : Y.C[i]? = some (cObj b o)) (H : J P f R n kk E (h ++ [(b, o)]) r F ⟨Y.S, Y.C.eraseIdx i, Y.G⟩) : J P f R n kk E h r F Y := fun a w ⟨fps, s⟩ => by
  obtain ⟨fp, hfp, rfl, hb⟩ := s.gh.chs.at hi
  have hm : b ∈ fps.flatten := List.mem_flatten.2 ⟨_, List.mem_of_getElem? hfp, by simp⟩
  have hnb : b ∉ (fps.eraseIdx i).flatten := fun hc => by
    obtain ⟨j, x, hj, hx, hbx⟩ := mem_erase_flat hc
    exact hj (flat_at s.gh.nodup hx hfp hbx (by simp))
  have hids : (h ++ [(b, o)]).map (·.1) = h.map (·.1) ++ [b] := by simp
  have hS : ∀ c, Sd Y h fps c → Sd Y (h ++ [(b, o)]) (fps.eraseIdx i) c := fun c hc => ⟨hc.1, fun hx => by
    rw [hids] at hx
    rcases List.mem_append.1 hx with hx | hx
    · exact hc.2.1 hx
    · rw [List.mem_singleton] at hx
      subst hx
      exact hc.2.2 hm, fun hx => hc.2.2 (erase_flat_sub hx)⟩
  have hin : ∀ x ∈ h ++ [(b, o)], x ∈ h ∨ x = (b, o) := fun x hx => by simpa using hx
  refine H a w ⟨fps.eraseIdx i, s.ag, ⟨fun x hx => ?_, ?_, s.own.ro, fun x hx hc => ?_⟩, s.fr, fun f hf x hx => ?_,
    ⟨s.gh.chs.erase.mono (fun _ _ => rfl) fun c hc _ => ⟨hS c hc, rfl⟩, nodup_sublist_flat s.gh.nodup (List.eraseIdx_sublist _ _), fun c hc hx => ?_, fun x hx hc => s.gh.apart x hx (erase_flat_sub hc), fun f hf c hc => s.gh.may f hf c (erase_flat_sub hc), fun c hc => s.gh.lt c (erase_flat_sub hc), fun x hx => ?_, fun c hc => s.gh.hid c (erase_flat_sub hc), s.gh.top, fun x hx => (s.gh.g x hx).mono fun c hc _ => ⟨hS c hc, rfl⟩⟩⟩
  · rcases hin x hx with h1 | rfl
    · exact s.own.own x h1
    · exact hb
  · rw [hids, List.nodup_append]
    refine ⟨s.own.nodup, by simp, fun x hx y hy hxy => ?_⟩
    simp at hy
    subst hy hxy
    exact s.gh.disj _ hm hx
  · rw [hids] at hc
    rcases List.mem_append.1 hc with hc | hc
    · exact s.own.apart x hx hc
    · rw [List.mem_singleton] at hc
      exact s.gh.apart x hx (by rw [hc]; exact hm)
  · rcases hin x hx with h1 | rfl
    · exact s.may f hf x h1
    · exact s.gh.may f hf _ hm
  · rw [hids] at hx
    rcases List.mem_append.1 hx with hx | hx
    · exact s.gh.disj c (erase_flat_sub hc) hx
    · rw [List.mem_singleton] at hx
      subst hx
      exact hnb hc
  · rcases hin x hx with h1 | rfl
    · exact s.gh.own x h1
    · exact s.gh.hid _ hm
theorem J_show {S0 : Nat → Prop} {C0 : List Chunk} {G0 : List (Value × D)} (i : Nat) {b : Nat} {o : Obj} (hi : C0[i]? = some (cObj b o)) (H : J P f R n kk E (h ++ [(b, o)]) r F ⟨S0, C0.eraseIdx i, G0⟩) : J P f R n kk E h r F ⟨S0, C0, G0⟩ := J_show0 (Y := ⟨S0, C0, G0⟩) i hi H
end reads
def Inv {α : Type} (n : Nat) [Dfr n] (E : α → Env) (h : α → List (Nat × Obj)) (S : Nat → Prop) (C : α → List Chunk) (G : α → List (Value × D)) (m : α → Nat) (ok : α → Prop) (r : List (Nat × Obj)) (F : List (List Nat × World)) : Nat → Act → World → Prop :=
  fun j a w => ∃ x, ok x ∧ m x = j ∧ St n (E x) (h x) r F ⟨S, C x, G x⟩ a w
section loops
variable {P : Program} {f : Func} [Pan f] {R : Act → World → Prop} {n : Nat} [Dfr n] {kk : List Itm} {E : Env} {h r : List (Nat × Obj)} {F : List (List Nat × World)} {Y : Ghost} {α : Type}
theorem St.cut {a : Act} {w : World} (s : St n E h r F Y a w) (ts ps cs gs : List Nat) {E' : Env} {h' r' : List (Nat × Obj)} {C' : List Chunk} {G' : List (Value × D)} (hE : keepE E ts = E') (hh : pick h ps = h') (hC : pick Y.C cs = C') (hG : pick Y.G gs = G') (hr : ∀ x ∈ r', x ∈ r) (hps : ps.Nodup) (hcs : cs.Nodup) :
    St n E' h' r' F ⟨Y.S, C', G'⟩ a w := by
  have s1 := s.stp (stp_pick cs gs hC hG hcs)
  obtain ⟨fps, s⟩ := s1
  have s := s.hpick ps hh hps
  subst hE
  exact ⟨fps, s.ag.sub (keepE_sub E ts), ⟨s.own.own, s.own.nodup, fun x hx => s.own.ro x (hr x hx), fun x hx => s.own.apart x (hr x hx)⟩, s.fr, s.may, ⟨s.gh.chs, s.gh.nodup, s.gh.disj, fun x hx => s.gh.apart x (hr x hx), s.gh.may, s.gh.lt, s.gh.own, s.gh.hid, s.gh.top, s.gh.g⟩⟩
theorem J_loopx0 {b : Sk} (Ex : α → Env) (hx : α → List (Nat × Obj)) (Cx : α → List Chunk) (Gx : α → List (Value × D)) (m : α → Nat) (ok : α → Prop) (x0 : α) (ts ps cs gs : List Nat) (hok : ok x0) (hE : keepE E ts = Ex x0) (hh : pick h ps = hx x0) (hC : pick Y.C cs = Cx x0) (hG : pick Y.G gs = Gx x0)
    (round : ∀ x, ok x → J P f R n (.c b :: .back (Inv n Ex hx Y.S Cx Gx m ok r F) (m x) :: kk) (Ex x) (hx x) r F ⟨Y.S, Cx x, Gx x⟩) (hps : ps.Nodup := by decide) (hcs : cs.Nodup := by decide) : J P f R n (.c (.loop b) :: kk) E h r F Y :=
  J_loop (Inv n Ex hx Y.S Cx Gx m ok r F) (fun a w s => ⟨m x0, x0, hok, rfl, s.cut ts ps cs gs hE hh hC hG (fun _ hx => hx) hps hcs⟩) fun j a w ⟨x, hox, hj, s⟩ => by
    subst hj
    exact round x hox a w s
theorem J_loopx {S0 : Nat → Prop} {C0 : List Chunk} {G0 : List (Value × D)} {b : Sk} (Ex : α → Env) (hx : α → List (Nat × Obj)) (Cx : α → List Chunk) (Gx : α → List (Value × D)) (m : α → Nat) (ok : α → Prop) (x0 : α) (ts ps cs gs : List Nat) (hok : ok x0) (hE : keepE E ts = Ex x0) (hh : pick h ps = hx x0) (hC : pick C0 cs = Cx x0) (hG : pick G0 gs = Gx x0)
    (round : ∀ x, ok x → J P f R n (.c b :: .back (Inv n Ex hx S0 Cx Gx m ok r F) (m x) :: kk) (Ex x) (hx x) r F ⟨S0, Cx x, Gx x⟩) (hps : ps.Nodup := by decide) (hcs : cs.Nodup := by decide) : J P f R n (.c (.loop b) :: kk) E h r F ⟨S0, C0, G0⟩ := J_loopx0 (Y := ⟨S0, C0, G0⟩) Ex hx Cx Gx m ok x0 ts ps cs gs hok hE hh hC hG round hps hcs
theorem J_backx {Ex : α → Env} {hx : α → List (Nat × Obj)} {Cx : α → List Chunk} {Gx : α → List (Value × D)} {m : α → Nat} {ok : α → Prop} {S : Nat → Prop} {r0 : List (Nat × Obj)} {j : Nat} (x : α) (ts ps cs gs : List Nat) (hok : ok x) (hm : m x < j) (hE : keepE E ts = Ex x) (hh : pick h ps = hx x) (hC : pick Y.C cs = Cx x) (hG : pick Y.G gs = Gx x) (hS : Y.S = S := by rfl)
    (hr : ∀ y ∈ r0, y ∈ r := by simp) (hps : ps.Nodup := by decide) (hcs : cs.Nodup := by decide) : J P f R n (.back (Inv n Ex hx S Cx Gx m ok r0 F) j :: kk) E h r F Y := fun a w s => by
  subst hS
  simp only [wpK]
  exact ⟨m x, hm, x, hok, rfl, s.cut ts ps cs gs hE hh hC hG hr hps hcs⟩
end loops
end Go.Sx
end
section
namespace Go.Sx
open Go
def appOf (n : Nat) (ops : Array Oper) (E : Env) (i : Nat) : Option (Value × Value × TypeId × Option Tmp) :=
  match ops[i]? with
  | none => none
  | some o => if dstOk n o.dst then match o.guard with
    | some _ => none
    | none => match o.op with
      | .call c => match c.callee with
        | .builtin .append => match opsOk E none c.args.toList with
          | some [] => match c.args.toList, c.argTypes.toList with
            | [s, x], [t, u] => if Nat.beq t u then some (rho E s, rho E x, t, o.dst) else none
            | _, _ => none
          | _ => none
        | _ => none
      | _ => none
    else none
theorem appOf_sound {P : Program} {f : Func} [Pan f] {R : Act → World → Prop} {n : Nat} [Dfr n] {ops : Array Oper} {i : Nat} {E : Env} {h r : List (Nat × Obj)} {F : List (List Nat × World)} {Y : Ghost} {sv xv : Value} {t : TypeId} {dst : Option Tmp} (he : appOf n ops E i = some (sv, xv, t, dst))
    {a : Act} {w : World} (s : St n E h r F Y a w) {K : Act → World → Prop} {k : List Itm}
    (H : ∀ ty, ∃ v' w', (Builtin.append_ #[t, t] ty #[sv, xv]).run P w = .ok v' w' ∧ ∀ a', Ag n (E.put dst (.val v')) a' → K a' w') : wpOp P ops (wpK P f R k) i K a w := by
  unfold appOf at he
  split at he
  · cases he
  rename_i o ho
  split at he
  case isFalse => cases he
  rename_i hd
  split at he
  · cases he
  rename_i hg
  split at he
  case h_2 => cases he
  rename_i c hc
  split at he
  case h_2 => cases he
  rename_i hcal
  split at he
  case h_2 => cases he
  rename_i hq
  split at he
  case h_2 => cases he
  rename_i xs x t' u hargs htys
  split at he
  case isFalse => cases he
  rename_i htu
  simp only [Option.some.injEq, Prod.mk.injEq] at he
  obtain ⟨rfl, rfl, rfl, rfl⟩ := he
  obtain rfl := Nat.eq_of_beq_eq_true htu
  have hev := opsOk_sound s.ag (fun c w h => by cases h) _ _ hq trivial
  have e1 : a.eval xs = rho E xs := hev xs (by rw [hargs]; simp)
  have e2 : a.eval x = rho E x := hev x (by rw [hargs]; simp)
  have hca : c.args = #[xs, x] := by rw [← Array.toArray_toList (xs := c.args), hargs]
  have hct : c.argTypes = #[t', t'] := by rw [← Array.toArray_toList (xs := c.argTypes), htys]
  obtain ⟨v', w', hrun, hk⟩ := H o.type
  unfold wpOp
  simp only [ho]
  rw [if_pos (by simp [Region.wanted, hg])]
  refine .inl ?_
  unfold Oper.wp execOp
  simp only [hc, resolve, hcal, hca, hct, invoke, builtin, Sem.run_bind, Sem.run_pure, Result.andThen_ok, List.map_toArray, List.map_cons, List.map_nil, e1, e2, hrun]
  exact hk _ (s.ag.put hd (.val v'))
section app
variable {P : Program} {f : Func} [Pan f] {R : Act → World → Prop} {n : Nat} [Dfr n] {k : List Itm} {E : Env} {h r : List (Nat × Obj)} {F : List (List Nat × World)} {Y : Ghost}
theorem infoParts {P : Program} {e : TypeId} {z : Value} {size bytes : Nat} (h : (P.info? e).map (fun i => (i.zero, i.size, i.bytes)) = some (some z, size, bytes)) : ∃ inf, P.info? e = some inf ∧ inf.zero = some z ∧ inf.size = size ∧ inf.bytes = bytes := by
  obtain ⟨inf, hi, hx⟩ := Option.map_eq_some_iff.1 h
  simp only [Prod.mk.injEq] at hx
  exact ⟨inf, hi, hx.1, hx.2.1, hx.2.2⟩
end app
def SrcAt (w : World) (S : Nat → Prop) (ax : Option Addr) (m size : Nat) (news : List (List D)) : Prop :=
  news.length = m ∧ ((ax = none ∧ m = 0) ∨ ∃ ad us, ax = some ad ∧ us.length = m * size ∧ (∀ (j : Nat) u, us[j]? = some u → w.cell? (ad.add j) = some u) ∧ RowsAt w S us size news)
def RowG (G : List (Value × D)) : List Value → List D → Prop
  | [], [] => True
  | u :: us, d :: ds => ((d = .v u ∧ u.oneCell' = true) ∨ (u, d) ∈ G ∨ ∃ a c k, u = .slice a 0 c ∧ d = .sl k []) ∧ RowG G us ds
  | _, _ => False
theorem RowG.len {G : List (Value × D)} : ∀ {us : List Value} {ds : List D}, RowG G us ds → us.length = ds.length
  | [], [], _ => rfl
  | _ :: _, _ :: _, h => by simp [RowG.len h.2]
  | [], _ :: _, h => h.elim
  | _ :: _, [], h => h.elim
theorem RowG.at {G : List (Value × D)} {w : World} {S : Nat → Prop} (hG : ∀ x ∈ G, Rep w S x.1 x.2) : ∀ {us : List Value} {ds : List D}, RowG G us ds → ∀ (j : Nat) (d : D), ds[j]? = some d → ∃ u, us[j]? = some u ∧ Rep w S u d
  | [], [], _, j, d, hd => by simp at hd
  | u :: us, d0 :: ds, h, 0, d, hd => by
    simp only [List.getElem?_cons_zero, Option.some.injEq] at hd
    subst hd
    refine ⟨u, rfl, ?_⟩
    rcases h.1 with ⟨rfl, h1⟩ | h1 | ⟨a, c, k, rfl, rfl⟩
    · exact .v h1
    · exact hG _ h1
    · exact .nil
  | u :: us, d0 :: ds, h, j + 1, d, hd => by
    obtain ⟨u', h1, h2⟩ := RowG.at hG h.2 j d (by simpa using hd)
    exact ⟨u', by simpa using h1, h2⟩
  | [], _ :: _, h, _, _, _ => h.elim
  | _ :: _, [], h, _, _, _ => h.elim
section appc
variable {P : Program} {f : Func} [Pan f] {R : Act → World → Prop} {n : Nat} [Dfr n] {k : List Itm} {E : Env} {h r : List (Nat × Obj)} {F : List (List Nat × World)} {Y : Ghost}
theorem src_one {a : Act} {w : World} {fps : List (List Nat)} (s : StF n E h r F Y a w fps) (p : Nat) {b : Nat} {cs : Array Value} {ty : TypeId} {fz : Nat × Nat} {size : Nat} {row : List D} (hp : h[p]? = some (b, .cells cs ty fz)) (hsz : row.length = size) (hR : RowG Y.G cs.toList row) :
    SrcAt w (Sd Y h fps) (some ⟨b, 0, none⟩) 1 size [row] := by
  have hb := s.own.own _ (List.mem_of_getElem? hp)
  refine ⟨rfl, .inr ⟨_, cs.toList, rfl, by rw [hR.len, hsz, Nat.one_mul], fun j u hu => ?_, by simp [hsz], fun i j row' d hi hj => ?_⟩⟩
  · have hadd : (⟨b, 0, none⟩ : Addr).add j = ⟨b, 0 + j, none⟩ := by unfold Addr.add; split <;> simp_all
    rw [hadd]
    exact cell_of rfl hb rfl (by simpa using hu)
  · cases i with
    | succ i => simp at hi
    | zero =>
      simp only [List.getElem?_cons_zero, Option.some.injEq] at hi
      subst hi
      rw [Nat.zero_mul, Nat.zero_add]
      exact hR.at s.gh.g j d hj
theorem src_rep {w : World} {S : Nat → Prop} {a : Option Addr} {m c size : Nat} {rows : List (List D)} (h : Rep w S (.slice a m c) (.sl size rows)) (hsz : 0 < size) : SrcAt w S a m size rows := by
  cases h with
  | nil => cases a with
    | none => exact ⟨rfl, .inl ⟨rfl, rfl⟩⟩
    | some ad => exact ⟨rfl, .inr ⟨ad, [], rfl, by simp, by simp, RowsAt.nil _ _ _ _⟩⟩
  | sl u hb hS hc hk hl hcell hrep =>
    rename_i b off cs e fz
    refine ⟨rfl, .inr ⟨_, (List.range (rows.length * size)).map (fun q => u (q / size) (q % size)), rfl, by simp, fun j x hx => ?_, hl, fun i j row d hi hj => ?_⟩⟩
    · rw [List.getElem?_map] at hx
      obtain ⟨q, hq, rfl⟩ := Option.map_eq_some_iff.1 hx
      have hlt : j < rows.length * size := by simpa using (List.getElem?_eq_some_iff.1 hq).1
      have hqj : q = j := by rw [List.getElem?_range hlt] at hq; exact (Option.some.inj hq).symm
      subst hqj
      have h1 : q / size < rows.length := Nat.div_lt_of_lt_mul (by rw [Nat.mul_comm]; exact hlt)
      have h2 := hcell (q / size) (q % size) h1 (Nat.mod_lt _ hk)
      rw [Nat.mul_comm, Nat.div_add_mod] at h2
      have hadd : (⟨b, off, none⟩ : Addr).add q = ⟨b, off + q, none⟩ := by unfold Addr.add; split <;> simp_all
      rw [hadd]
      exact cell_of rfl hb rfl h2
    · have hil := (List.getElem?_eq_some_iff.1 hi).1
      have hjl : j < size := by
        rw [← hl row (List.mem_of_getElem? hi)]
        exact (List.getElem?_eq_some_iff.1 hj).1
      refine ⟨u i j, ?_, hrep i j row d hi hj⟩
      rw [List.getElem?_map, List.getElem?_range (idx_lt hil hjl)]
      have h1 : (i * size + j) / size = i := by
        rw [Nat.mul_comm, Nat.mul_add_div hk, Nat.div_eq_of_lt hjl, Nat.add_zero]
      have h2 : (i * size + j) % size = j := by
        rw [Nat.mul_comm, Nat.mul_add_mod, Nat.mod_eq_of_lt hjl]
      simp [h1, h2]
theorem src_fact {a : Act} {w : World} {fps : List (List Nat)} (s : StF n E h r F Y a w fps) (p : Nat) {a0 : Option Addr} {m c size : Nat} {rows : List (List D)} (hp : Y.G[p]? = some (.slice a0 m c, .sl size rows)) (hsz : 0 < size) : SrcAt w (Sd Y h fps) a0 m size rows :=
  src_rep (s.gh.g _ (List.mem_of_getElem? hp)) hsz
theorem JR_appc0 {id L0 i : Nat} {ck : Bool} {Wp : List (Nat × List Nat)} {rest : List (Nat × Bool)} (q t e size bytes : Nat) (z : Value) {a0 ax : Option Addr} {len cap0 m c : Nat} {rows : List (List D)} {dst : Option Tmp} (news : List (List D))
    (he : appOf n (rgOf f id) E i = some (.slice a0 len cap0, .slice ax m c, t, dst)) (hok : (!ck || (Wp.lookup i).isSome) = true)
    (ht : P.underlying t = some (.slice e)) (hi : (P.info? e).map (fun i => (i.zero, i.size, i.bytes)) = some (some z, size, bytes)) (hzs : z.cells.size = size) (hs0 : 0 < size)
    (hc : Y.C[q]? = some (cAcc (.slice a0 len cap0) e size rows)) (hsrc : ∀ a w fps, StF n E h r F Y a w fps → SrcAt w (Sd Y h fps) ax m size news)
    (hmax : len + m ≤ maxLen) (hby : (len + m) * bytes ≤ 140737488355328)
    (A : ∀ a' cap', JR P f R n (rgOf f id) L0 ck rest (Wp.filter (·.1 != i)) k (E.put dst (.val (.slice a' (len + m) cap'))) h r F ⟨Y.S, restC Y.C [q] ++ [cAcc (.slice a' (len + m) cap') e size (rows ++ news)], Y.G ++ []⟩) :
    JR P f R n (rgOf f id) L0 ck ((i, false) :: rest) Wp k E h r F Y := by
  obtain ⟨inf, h1i, h2i, rfl, rfl⟩ := infoParts hi
  intro B Hd fps a w s hH hR hN hW
  simp only [PW]
  obtain ⟨fp, hfp, _, hP⟩ := s.gh.chs.at hc
  have hlen := acc_len (show (cAcc (.slice a0 len cap0) e inf.size rows).P w (Sd Y h fps) fp from ⟨hs0, hP⟩)
  have hpk : pick fps [q] = [fp] := by simp [pick, hfp]
  have hM : (pick fps [q]).flatten = fp := by rw [hpk]; simp
  refine appOf_sound he s.st fun ty => ?_
  obtain ⟨hnm, hsr⟩ := hsrc a w fps s
  have key : ∃ a' cap' w', (Builtin.append_ #[t, t] ty #[.slice a0 len cap0, .slice ax m c]).run P w = .ok (.slice a' (len + m) cap') w' ∧ Ret (pick fps [q]).flatten w (Sd Y h fps) w' (.returned (.slice a' (len + m) cap')) (.slice a' (len + m) cap') [cAcc (.slice a' (len + m) cap') e inf.size (rows ++ news)] [] := by
    rw [hM]
    rcases hsr with ⟨rfl, rfl⟩ | ⟨ad, us, rfl, hul, hus, hRus⟩
    · have hnews : news = [] := List.eq_nil_of_length_eq_zero hnm
      subst hnews
      have hle : len ≤ cap0 := by
        rcases hP with ⟨_, h2, _⟩ | ⟨g, cap, cur, xs, h2, _, _, h3, _⟩
        · cases h2; exact Nat.le_refl _
        · cases h2; exact h3.le
      refine ⟨a0, cap0, w, ?_, rfl, Fr.refl _ _, [fp], ?_, ?_, fun b hb => ⟨.inl (by simpa using hb), s.gh.lt b (List.mem_flatten.2 ⟨fp, List.mem_of_getElem? hfp, by simpa using hb⟩)⟩, by simp⟩
      · cases a0 <;> simp [Builtin.append_, run_underlying ht, sizeOf, typeInfo, h1i, Builtin.lenOf, Builtin.firstCells, hle, storeCells]
      · refine ⟨?_, trivial⟩
        rw [List.append_nil, Nat.add_zero]
        refine (cAcc _ _ _ _).mono (w := w) (S := Sd Y h fps) ⟨hs0, hP⟩ (fun _ _ => rfl) fun b hb _ => ⟨⟨.inl hb, fun hm => hb.2.2 ?_⟩, rfl⟩
        exact List.mem_flatten.2 ⟨fp, List.mem_of_getElem? hfp, by simpa using hm⟩
      · have := nodup_sublist_flat s.gh.nodup (List.singleton_sublist.2 (List.mem_of_getElem? hfp))
        exact this
    · have hown : ∃ xs, w.ownsRow 0 e inf.size (.slice a0 len cap0) len xs ∧ RowsAt w (Sd Y h fps) xs inf.size rows ∧ xs.length = rows.length * inf.size ∧ (∀ b, (Value.slice a0 len cap0).ownBlock = some b → b ∈ fp) := by
        rcases hP with ⟨rfl, h2, rfl⟩ | ⟨g, cap, cur, xs, h2, rfl, h3, h4, h5⟩
        · cases h2
          exact ⟨[], World.ownsRow_nil w 0 e inf.size, RowsAt.nil _ _ _ _, by simp, by simp [Value.ownBlock]⟩
        · cases h2
          exact ⟨xs, ⟨h4.len, .inr ⟨g, cap0, cur, rfl, Nat.zero_le _, h3, h4.le, h4.max, h4.siz, h4.take⟩⟩, h5, h4.len, by simp [Value.ownBlock]⟩
      obtain ⟨xs, hown, hRx, hxl, hob⟩ := hown
      obtain ⟨v', w', hrun, hown', hgr, hnil, hat⟩ := run_append_own_at (P := P) w 0 t ty e inf z inf.size inf.bytes ht h1i h2i rfl rfl hzs hs0 _ len xs hown ad m c us hul hus (hRus.one (by rw [hul, hnm])) hmax hby (Nat.zero_le _)
      have hfr : Fr fp w w' := ⟨hgr.os, hgr.tape, hgr.output, hgr.size, fun b hb hn => hgr.block b hb fun he => hn (hob b he.symm), Sem.run_drawn hrun⟩
      have hnot : ∀ b, Sd Y h fps b → b ∉ fp := fun b hb hm => hb.2.2 (List.mem_flatten.2 ⟨fp, List.mem_of_getElem? hfp, hm⟩)
      have hRall : ∀ g', (g' ∈ fp ∨ w.heap.size ≤ g') → RowsAt w' (retS (Sd Y h fps) fp w [[g']]) (xs ++ us) inf.size (rows ++ news) := fun g' hg' =>
        (hRx.app hxl hRus).mono fun b hb hlt => ⟨⟨.inl hb, fun hm => by
          simp only [List.flatten_cons, List.flatten_nil, List.append_nil, List.mem_singleton] at hm
          subst hm
          rcases hg' with h1 | h1
          · exact hnot _ hb h1
          · omega⟩, hfr.block b hlt (hnot b hb)⟩
      rcases hown'.2 with ⟨rfl, h0⟩ | ⟨g', cap', cur', rfl, _, hg', hle, hmx, hsz, htk⟩
      · have hm0 : m = 0 := by omega
        have hl0 : len = 0 := by omega
        have hnews : news = [] := List.eq_nil_of_length_eq_zero (by omega)
        have hrows : rows = [] := List.eq_nil_of_length_eq_zero (by omega)
        subst hm0 hl0 hnews hrows
        have h2 := hnil.1 rfl
        exact ⟨none, 0, w', hrun, rfl, hfr, [[]], ⟨⟨hs0, .inl ⟨rfl, rfl, rfl⟩⟩, trivial⟩, by simp, by simp, by simp⟩
      · have hg'' : g' ∈ fp ∨ w.heap.size ≤ g' := by
          simp only [Value.ownBlock] at hat
          rcases hat with h1 | h1
          · exact .inl (hob g' (by simp only [Value.ownBlock]; exact h1.symm))
          · simp only [Option.some.injEq] at h1
            exact .inr (by omega)
        have hlt : g' < w'.heap.size := (Array.getElem?_eq_some_iff.1 hg').1
        refine ⟨_, cap', w', hrun, rfl, hfr, [[g']], ⟨⟨hs0, .inr ⟨g', cap', cur', xs ++ us, ?_, rfl, hg', ?_, hRall g' hg''⟩⟩, trivial⟩, by simp, fun b hb => ?_, by simp⟩
        · rw [List.length_append, hnm, hlen]
        · rw [List.length_append, hnm, ← hlen]
          exact ⟨hown'.1, hsz, hle, hmx, htk⟩
        · simp only [List.flatten_cons, List.flatten_nil, List.append_nil, List.mem_singleton] at hb
          subst hb
          exact ⟨hg'', hlt⟩
  obtain ⟨a', cap', w', hrun, hRet⟩ := key
  have hf := hRet.fr
  refine ⟨_, w', hrun, fun a2 hA => ⟨fun hck b hb hl => hf.block b hb fun hm => ?_, ?_⟩⟩
  · have hm2 := pick_flat_sub hm
    cases hWl : Wp.lookup i with
    | none =>
      rw [hWl, hck] at hok
      simp at hok
    | some ps =>
      rw [lookup_idsW, hWl] at hl
      obtain ⟨h1, h2⟩ := hl _ rfl
      rcases hH b hm2 with h3 | h3
      · exact h2 (List.mem_append_right _ h3)
      · omega
  · rw [filter_idsW]
    obtain ⟨fps', h3, s'⟩ := s.called (cs := [q]) hA hRet
    refine A a' cap' B Hd _ a2 w' s' (fun b hb => ?_) ⟨hR.old, hR.ro, hR.len, Nat.le_trans hR.size hf.size⟩ hN (okWp_filter hW)
    rw [List.flatten_append] at hb
    rcases List.mem_append.1 hb with hb | hb
    · exact hH b (pick_flat_sub hb)
    · rcases h3 b hb with h1 | h1
      · exact hH b (pick_flat_sub h1)
      · exact .inr (Nat.le_trans hR.size h1)
theorem JR_appc {S0 : Nat → Prop} {C0 : List Chunk} {G0 : List (Value × D)} {id L0 i : Nat} {ck : Bool} {Wp : List (Nat × List Nat)} {rest : List (Nat × Bool)} (q t e size bytes : Nat) (z : Value) {a0 ax : Option Addr} {len cap0 m c : Nat} {rows : List (List D)} {dst : Option Tmp} (news : List (List D))
    (he : appOf n (rgOf f id) E i = some (.slice a0 len cap0, .slice ax m c, t, dst)) (hok : (!ck || (Wp.lookup i).isSome) = true)
    (ht : P.underlying t = some (.slice e)) (hi : (P.info? e).map (fun i => (i.zero, i.size, i.bytes)) = some (some z, size, bytes)) (hzs : z.cells.size = size) (hs0 : 0 < size)
    (hc : C0[q]? = some (cAcc (.slice a0 len cap0) e size rows)) (hsrc : ∀ a w fps, StF n E h r F ⟨S0, C0, G0⟩ a w fps → SrcAt w (Sd ⟨S0, C0, G0⟩ h fps) ax m size news)
    (hmax : len + m ≤ maxLen) (hby : (len + m) * bytes ≤ 140737488355328)
    (A : ∀ a' cap', JR P f R n (rgOf f id) L0 ck rest (Wp.filter (·.1 != i)) k (E.put dst (.val (.slice a' (len + m) cap'))) h r F ⟨S0, restC C0 [q] ++ [cAcc (.slice a' (len + m) cap') e size (rows ++ news)], G0 ++ []⟩) :
    JR P f R n (rgOf f id) L0 ck ((i, false) :: rest) Wp k E h r F ⟨S0, C0, G0⟩ := JR_appc0 (Y := ⟨S0, C0, G0⟩) q t e size bytes z news he hok ht hi hzs hs0 hc hsrc hmax hby A
theorem JR_appm0 {α : Type} {id L0 i : Nat} {ck : Bool} {Wp : List (Nat × List Nat)} {rest : List (Nat × Bool)} (q t e size bytes : Nat) (z : Value) {a0 ax : Option Addr} {len cap0 m c : Nat} {enc : α → List D} {l : List α} {dst : Option Tmp} (xs : List α)
    (he : appOf n (rgOf f id) E i = some (.slice a0 len cap0, .slice ax m c, t, dst)) (hok : (!ck || (Wp.lookup i).isSome) = true)
    (ht : P.underlying t = some (.slice e)) (hi : (P.info? e).map (fun i => (i.zero, i.size, i.bytes)) = some (some z, size, bytes)) (hzs : z.cells.size = size) (hs0 : 0 < size)
    (hc : Y.C[q]? = some (cAcc (.slice a0 len cap0) e size (l.map enc))) (hsrc : ∀ a w fps, StF n E h r F Y a w fps → SrcAt w (Sd Y h fps) ax m size (xs.map enc))
    (hmax : len + m ≤ maxLen) (hby : (len + m) * bytes ≤ 140737488355328)
    (A : ∀ a' cap', JR P f R n (rgOf f id) L0 ck rest (Wp.filter (·.1 != i)) k (E.put dst (.val (.slice a' (len + m) cap'))) h r F ⟨Y.S, restC Y.C [q] ++ [cAcc (.slice a' (len + m) cap') e size ((l ++ xs).map enc)], Y.G ++ []⟩) :
    JR P f R n (rgOf f id) L0 ck ((i, false) :: rest) Wp k E h r F Y := by
  refine JR_appc q t e size bytes z (xs.map enc) he hok ht hi hzs hs0 hc hsrc hmax hby fun a' cap' => ?_
  have := A a' cap'
  rwa [List.map_append] at this
theorem JR_appm {S0 : Nat → Prop} {C0 : List Chunk} {G0 : List (Value × D)} {α : Type} {id L0 i : Nat} {ck : Bool} {Wp : List (Nat × List Nat)} {rest : List (Nat × Bool)} (q t e size bytes : Nat) (z : Value) {a0 ax : Option Addr} {len cap0 m c : Nat} {enc : α → List D} {l : List α} {dst : Option Tmp} (xs : List α)
    (he : appOf n (rgOf f id) E i = some (.slice a0 len cap0, .slice ax m c, t, dst)) (hok : (!ck || (Wp.lookup i).isSome) = true)
    (ht : P.underlying t = some (.slice e)) (hi : (P.info? e).map (fun i => (i.zero, i.size, i.bytes)) = some (some z, size, bytes)) (hzs : z.cells.size = size) (hs0 : 0 < size)
    (hc : C0[q]? = some (cAcc (.slice a0 len cap0) e size (l.map enc))) (hsrc : ∀ a w fps, StF n E h r F ⟨S0, C0, G0⟩ a w fps → SrcAt w (Sd ⟨S0, C0, G0⟩ h fps) ax m size (xs.map enc))
    (hmax : len + m ≤ maxLen) (hby : (len + m) * bytes ≤ 140737488355328)
    (A : ∀ a' cap', JR P f R n (rgOf f id) L0 ck rest (Wp.filter (·.1 != i)) k (E.put dst (.val (.slice a' (len + m) cap'))) h r F ⟨S0, restC C0 [q] ++ [cAcc (.slice a' (len + m) cap') e size ((l ++ xs).map enc)], G0 ++ []⟩) :
    JR P f R n (rgOf f id) L0 ck ((i, false) :: rest) Wp k E h r F ⟨S0, C0, G0⟩ := JR_appm0 (Y := ⟨S0, C0, G0⟩) q t e size bytes z xs he hok ht hi hzs hs0 hc hsrc hmax hby A
theorem flatten_at {α : Type} {k : Nat} : ∀ {rows : List (List α)}, (∀ row ∈ rows, row.length = k) → ∀ {i j : Nat} {row : List α} {d : α}, rows[i]? = some row → row[j]? = some d → rows.flatten[i * k + j]? = some d
  | [], _, i, j, row, d, hi, _ => by simp at hi
  | r :: rows, hl, 0, j, row, d, hi, hj => by
    simp only [List.getElem?_cons_zero, Option.some.injEq] at hi
    subst hi
    have hjl := (List.getElem?_eq_some_iff.1 hj).1
    rw [Nat.zero_mul, Nat.zero_add, List.flatten_cons, List.getElem?_append_left hjl]
    exact hj
  | r :: rows, hl, i + 1, j, row, d, hi, hj => by
    have hr := hl r (List.mem_cons_self ..)
    have ih := flatten_at (fun x hx => hl x (List.mem_cons_of_mem _ hx)) (by simpa using hi) hj
    have h1 : (i + 1) * k = k + i * k := by rw [Nat.succ_mul]; omega
    rw [List.flatten_cons, List.getElem?_append_right (by rw [hr, h1]; omega), hr, h1]
    have h2 : k + i * k + j - k = i * k + j := by omega
    rw [h2]
    exact ih
theorem StF.data {a : Act} {w : World} {fps : List (List Nat)} (s : StF n E h r F Y a w fps) (p : Nat) {b : Nat} {cs : Array Value} {e : TypeId} {fz : Nat × Nat} {size cap : Nat} {rows : List (List D)} (hp : h[p]? = some (b, .cells cs e fz)) (hk : 0 < size) (hl : ∀ row ∈ rows, row.length = size) (hcap : rows.length ≤ cap)
    (hR : RowG Y.G cs.toList rows.flatten) : StF n E (h.eraseIdx p) r F ⟨Y.S, Y.C, Y.G ++ [(.slice (some ⟨b, 0, none⟩) rows.length cap, .sl size rows)]⟩ a w fps := by
  have hm : ∀ x ∈ h.eraseIdx p, x ∈ h := fun x hx => (List.eraseIdx_sublist h p).subset hx
  have hid : ∀ c, c ∈ (h.eraseIdx p).map (·.1) → c ∈ h.map (·.1) := fun c hc => by
    obtain ⟨x, hx, rfl⟩ := List.mem_map.1 hc
    exact List.mem_map.2 ⟨x, hm x hx, rfl⟩
  have hnot : b ∉ (h.eraseIdx p).map (·.1) := fun hc => by
    obtain ⟨x, hx, hxb⟩ := List.mem_map.1 hc
    obtain ⟨j, hj, he⟩ := List.mem_eraseIdx_iff_getElem?.1 hx
    have h1 : (h.map (·.1))[j]? = some b := by simp [he, hxb]
    have h2 : (h.map (·.1))[p]? = some b := by simp [hp]
    exact hj ((List.getElem?_inj (List.getElem?_eq_some_iff.1 h1).1 s.own.nodup).1 (h1.trans h2.symm))
  have hbm : (b, Obj.cells cs e fz) ∈ h := List.mem_of_getElem? hp
  have hbf : b ∉ fps.flatten := fun hx => s.gh.disj b hx (List.mem_map.2 ⟨_, hbm, rfl⟩)
  have hS : ∀ c, Sd Y h fps c → Sd Y (h.eraseIdx p) fps c := fun c hc => ⟨hc.1, fun hx => hc.2.1 (hid c hx), hc.2.2⟩
  refine ⟨s.ag, ⟨fun x hx => s.own.own x (hm x hx), ((List.eraseIdx_sublist h p).map _).nodup s.own.nodup, s.own.ro, fun x hx hc => s.own.apart x hx (hid _ hc)⟩, s.fr, fun f hf x hx => s.may f hf x (hm x hx),
    ⟨s.gh.chs.mono (fun _ _ => rfl) fun c hc _ => ⟨hS c hc, rfl⟩, s.gh.nodup, fun c hc hx => s.gh.disj c hc (hid c hx), s.gh.apart, s.gh.may, s.gh.lt, fun x hx => s.gh.own x (hm x hx), s.gh.hid, s.gh.top, fun x hx => ?_⟩⟩
  rcases List.mem_append.1 hx with hx | hx
  · exact (s.gh.g x hx).mono fun c hc _ => ⟨hS c hc, rfl⟩
  · rw [List.mem_singleton] at hx
    subst hx
    refine .sl (fun i j => cs.toList.getD (i * size + j) undef) (s.own.own _ hbm) ⟨s.gh.own _ hbm, hnot, hbf⟩ hcap hk hl (fun i j hi hj => ?_) fun i j row d hi hj => ?_
    · have hjr : j < (rows[i]'hi).length := by rw [hl _ (List.getElem_mem hi)]; exact hj
      have h1 := flatten_at hl (List.getElem?_eq_getElem hi) (List.getElem?_eq_getElem hjr)
      obtain ⟨u, hu, _⟩ := hR.at s.gh.g _ _ h1
      rw [Nat.zero_add, List.getD_eq_getElem?_getD, hu]
      simpa using hu
    · obtain ⟨u, hu, hr⟩ := hR.at s.gh.g _ _ (flatten_at hl hi hj)
      simp only [List.getD_eq_getElem?_getD, hu, Option.getD_some]
      exact hr.mono fun c hc _ => ⟨hS c hc, rfl⟩
theorem J_data0 {α : Type} (p : Nat) (enc : α → List D) (l : List α) (cap : Nat) {b : Nat} {cs : Array Value} {e : TypeId} {fz : Nat × Nat} {size : Nat} (hp : h[p]? = some (b, .cells cs e fz)) (hk : 0 < size) (hen : ∀ x ∈ l, (enc x).length = size) (hcap : l.length ≤ cap) (hR : RowG Y.G cs.toList (l.map enc).flatten)
    (H : J P f R n k E (h.eraseIdx p) r F ⟨Y.S, Y.C, Y.G ++ [(.slice (some ⟨b, 0, none⟩) (l.map enc).length cap, .sl size (l.map enc))]⟩) : J P f R n k E h r F Y := fun a w ⟨fps, s⟩ =>
  H a w ⟨fps, s.data p hp hk (by intro row hrow; obtain ⟨x, hx, rfl⟩ := List.mem_map.1 hrow; exact hen x hx) (by rw [List.length_map]; exact hcap) hR⟩
theorem J_data {S0 : Nat → Prop} {C0 : List Chunk} {G0 : List (Value × D)} {α : Type} (p : Nat) (enc : α → List D) (l : List α) (cap : Nat) {b : Nat} {cs : Array Value} {e : TypeId} {fz : Nat × Nat} {size : Nat} (hp : h[p]? = some (b, .cells cs e fz)) (hk : 0 < size) (hen : ∀ x ∈ l, (enc x).length = size) (hcap : l.length ≤ cap) (hR : RowG G0 cs.toList (l.map enc).flatten)
    (H : J P f R n k E (h.eraseIdx p) r F ⟨S0, C0, G0 ++ [(.slice (some ⟨b, 0, none⟩) (l.map enc).length cap, .sl size (l.map enc))]⟩) : J P f R n k E h r F ⟨S0, C0, G0⟩ := J_data0 (Y := ⟨S0, C0, G0⟩) p enc l cap hp hk hen hcap hR H
theorem JR_data0 {α : Type} {ops : Array Oper} {L0 : Nat} {ck : Bool} {plan : List (Nat × Bool)} {Wp : List (Nat × List Nat)} (p : Nat) (enc : α → List D) (l : List α) (cap : Nat) {b : Nat} {cs : Array Value} {e : TypeId} {fz : Nat × Nat} {size : Nat} (hp : h[p]? = some (b, .cells cs e fz)) (hL : Nat.ble L0 p = true) (hk : 0 < size) (hen : ∀ x ∈ l, (enc x).length = size) (hcap : l.length ≤ cap) (hR : RowG Y.G cs.toList (l.map enc).flatten)
    (H : JR P f R n ops L0 ck plan Wp k E (h.eraseIdx p) r F ⟨Y.S, Y.C, Y.G ++ [(.slice (some ⟨b, 0, none⟩) (l.map enc).length cap, .sl size (l.map enc))]⟩) : JR P f R n ops L0 ck plan Wp k E h r F Y := fun B Hd fps a w s hH hR2 hN hW => by
  have hLp := Nat.le_of_ble_eq_true hL
  have hpl := (List.getElem?_eq_some_iff.1 hp).1
  have hsame : ∀ i : Nat, i < L0 → (h.eraseIdx p)[i]? = h[i]? := fun i hi => by rw [List.getElem?_eraseIdx]; simp [show i < p by omega]
  have s' := s.data (cap := cap) p hp hk (rows := l.map enc) (by intro row hrow; obtain ⟨x, hx, rfl⟩ := List.mem_map.1 hrow; exact hen x hx) (by rw [List.length_map]; exact hcap) hR
  have hids : idsW Hd (h.eraseIdx p) Wp = idsW Hd h Wp := by
    unfold idsW
    refine List.map_congr_left fun y hy => ?_
    congr 2
    have h1 := List.all_eq_true.1 hW y hy
    exact filterMap_same _ _ _ fun q hq => by rw [hsame q (blt_lt (List.all_eq_true.1 h1 q hq))]
  have := H B Hd fps a w s' hH ⟨fun i hi x hx => hR2.old i hi x (by rw [← hsame i hi]; exact hx), hR2.ro, by rw [List.length_eraseIdx]; simp only [hpl, if_true]; have := hR2.len; omega, hR2.size⟩ (fun j hj x hx => by
    rw [List.getElem?_eraseIdx] at hx
    split at hx
    · exact hN j hj x hx
    · exact hN (j + 1) (by omega) x hx) hW
  rwa [hids] at this
theorem JR_data {S0 : Nat → Prop} {C0 : List Chunk} {G0 : List (Value × D)} {α : Type} {ops : Array Oper} {L0 : Nat} {ck : Bool} {plan : List (Nat × Bool)} {Wp : List (Nat × List Nat)} (p : Nat) (enc : α → List D) (l : List α) (cap : Nat) {b : Nat} {cs : Array Value} {e : TypeId} {fz : Nat × Nat} {size : Nat} (hp : h[p]? = some (b, .cells cs e fz)) (hL : Nat.ble L0 p = true) (hk : 0 < size) (hen : ∀ x ∈ l, (enc x).length = size) (hcap : l.length ≤ cap) (hR : RowG G0 cs.toList (l.map enc).flatten)
    (H : JR P f R n ops L0 ck plan Wp k E (h.eraseIdx p) r F ⟨S0, C0, G0 ++ [(.slice (some ⟨b, 0, none⟩) (l.map enc).length cap, .sl size (l.map enc))]⟩) : JR P f R n ops L0 ck plan Wp k E h r F ⟨S0, C0, G0⟩ := JR_data0 (Y := ⟨S0, C0, G0⟩) p enc l cap hp hL hk hen hcap hR H
theorem StF.share {a : Act} {w : World} {fps : List (List Nat)} (s : StF n E h r F Y a w fps) (p : Nat) {b : Nat} {o : Obj} (hp : h[p]? = some (b, o)) : StF n E (h.eraseIdx p) r F ⟨Y.S, Y.C, Y.G ++ [(.pointer (some ⟨b, 0, none⟩), .obj o)]⟩ a w fps := by
  have hm : ∀ x ∈ h.eraseIdx p, x ∈ h := fun x hx => (List.eraseIdx_sublist h p).subset hx
  have hid : ∀ c, c ∈ (h.eraseIdx p).map (·.1) → c ∈ h.map (·.1) := fun c hc => by
    obtain ⟨x, hx, rfl⟩ := List.mem_map.1 hc
    exact List.mem_map.2 ⟨x, hm x hx, rfl⟩
  have hnot : b ∉ (h.eraseIdx p).map (·.1) := fun hc => by
    obtain ⟨x, hx, hxb⟩ := List.mem_map.1 hc
    obtain ⟨j, hj, he⟩ := List.mem_eraseIdx_iff_getElem?.1 hx
    have h1 : (h.map (·.1))[j]? = some b := by simp [he, hxb]
    have h2 : (h.map (·.1))[p]? = some b := by simp [hp]
    exact hj ((List.getElem?_inj (List.getElem?_eq_some_iff.1 h1).1 s.own.nodup).1 (h1.trans h2.symm))
  have hbm : (b, o) ∈ h := List.mem_of_getElem? hp
  have hbf : b ∉ fps.flatten := fun hx => s.gh.disj b hx (List.mem_map.2 ⟨_, hbm, rfl⟩)
  have hS : ∀ c, Sd Y h fps c → Sd Y (h.eraseIdx p) fps c := fun c hc => ⟨hc.1, fun hx => hc.2.1 (hid c hx), hc.2.2⟩
  refine ⟨s.ag, ⟨fun x hx => s.own.own x (hm x hx), ((List.eraseIdx_sublist h p).map _).nodup s.own.nodup, s.own.ro, fun x hx hc => s.own.apart x hx (hid _ hc)⟩, s.fr, fun f hf x hx => s.may f hf x (hm x hx),
    ⟨s.gh.chs.mono (fun _ _ => rfl) fun c hc _ => ⟨hS c hc, rfl⟩, s.gh.nodup, fun c hc hx => s.gh.disj c hc (hid c hx), s.gh.apart, s.gh.may, s.gh.lt, fun x hx => s.gh.own x (hm x hx), s.gh.hid, s.gh.top, fun x hx => ?_⟩⟩
  rcases List.mem_append.1 hx with hx | hx
  · exact (s.gh.g x hx).mono fun c hc _ => ⟨hS c hc, rfl⟩
  · rw [List.mem_singleton] at hx
    subst hx
    exact .obj (s.own.own _ hbm) ⟨s.gh.own _ hbm, hnot, hbf⟩
theorem St.share {a : Act} {w : World} (s : St n E h r F Y a w) (p : Nat) {b : Nat} {o : Obj} (hp : h[p]? = some (b, o)) : St n E (h.eraseIdx p) r F ⟨Y.S, Y.C, Y.G ++ [(.pointer (some ⟨b, 0, none⟩), .obj o)]⟩ a w := by
  obtain ⟨fps, s⟩ := s
  exact ⟨fps, s.share p hp⟩
theorem J_share {S0 : Nat → Prop} {C0 : List Chunk} {G0 : List (Value × D)} (p : Nat) {b : Nat} {o : Obj} (hp : h[p]? = some (b, o)) (H : J P f R n k E (h.eraseIdx p) r F ⟨S0, C0, G0 ++ [(.pointer (some ⟨b, 0, none⟩), .obj o)]⟩) : J P f R n k E h r F ⟨S0, C0, G0⟩ := fun a w ⟨fps, s⟩ =>
  H a w ⟨fps, s.share p hp⟩
theorem rd0 {cs : Array Value} {x : Nat} {v : Value} (h : cs[x + 0]? = some v) : cs[x]? = some v := h
theorem map_at {α β : Type} {g : α → β} {l : List α} {i : Nat} {x : α} (h : l[i]? = some x) : (l.map g)[i]? = some (g x) := by rw [List.getElem?_map, h]; rfl
end appc
end Go.Sx
end
section
namespace Go.Sx
open Go Go.MapKept
structure MapOf (d : TypeDesc) (es : Array MapEntry) (f : Value → Option Value) : Prop where
  key : ∀ x ∈ es.toList, IsKey d x.key
  nodup : (es.toList.map (·.key)).Nodup
  val : ∀ x ∈ es.toList, f x.key = some x.val
  has : ∀ k v, f k = some v → ∃ x ∈ es.toList, x.key = k
open Classical in
noncomputable def fput (f : Value → Option Value) (key val : Value) : Value → Option Value := fun k => if k = key then some val else f k
open Classical in
noncomputable def fdel (f : Value → Option Value) (key : Value) : Value → Option Value := fun k => if k = key then none else f k
theorem MapOf.empty (d : TypeDesc) : MapOf d #[] (fun _ => none) := ⟨by simp, by simp, by simp, by simp⟩
theorem MapOf.congr {d : TypeDesc} {es : Array MapEntry} {f g : Value → Option Value} (h : MapOf d es f) (hfg : ∀ k, f k = g k) : MapOf d es g := by
  obtain rfl : f = g := funext hfg
  exact h
theorem MapOf.look {d : TypeDesc} {es : Array MapEntry} {f : Value → Option Value} (h : MapOf d es f) {k : Value} (hk : IsKey d k) :
    (Instr.findNow d k es.toList 0 = some none ∧ f k = none ∧ ∀ x ∈ es.toList, x.key ≠ k) ∨ ∃ j e, Instr.findNow d k es.toList 0 = some (some (j, e.val)) ∧ es.toList[j]? = some e ∧ e.key = k ∧ f k = some e.val := by
  rcases findNow_spec hk es.toList 0 h.key with ⟨h1, h2⟩ | ⟨j, e, h1, h2, h3⟩
  · refine .inl ⟨h1, ?_, h2⟩
    cases hf : f k with
    | none => rfl
    | some v =>
      obtain ⟨x, hx, hxk⟩ := h.has k v hf
      exact absurd hxk (h2 x hx)
  · rw [Nat.zero_add] at h1
    refine .inr ⟨j, e, h1, h2, h3, ?_⟩
    rw [← h3]
    exact h.val e (List.mem_of_getElem? h2)
theorem MapOf.other {d : TypeDesc} {es : Array MapEntry} {f : Value → Option Value} (h : MapOf d es f) {j i : Nat} {e x : MapEntry} (hj : es.toList[j]? = some e) (hi : es.toList[i]? = some x) (hne : i ≠ j) : x.key ≠ e.key := by
  intro he
  have h1 : (es.toList.map (·.key))[i]? = some x.key := by rw [List.getElem?_map, hi]; rfl
  have h2 : (es.toList.map (·.key))[j]? = some x.key := by rw [List.getElem?_map, hj, he]; rfl
  exact hne ((List.getElem?_inj (List.getElem?_eq_some_iff.1 h1).1 h.nodup).1 (h1.trans h2.symm))
theorem MapOf.push {d : TypeDesc} {es : Array MapEntry} {f : Value → Option Value} (h : MapOf d es f) {k v : Value} {born : Nat} (hk : IsKey d k) (hn : ∀ x ∈ es.toList, x.key ≠ k) : MapOf d (es.push ⟨k, v, born⟩) (fput f k v) := by
  refine ⟨fun x hx => ?_, ?_, fun x hx => ?_, fun q u hq => ?_⟩
  · simp only [Array.toList_push, List.mem_append, List.mem_singleton] at hx
    rcases hx with hx | rfl
    · exact h.key x hx
    · exact hk
  · simp only [Array.toList_push, List.map_append, List.map_cons, List.map_nil]
    refine List.nodup_append.2 ⟨h.nodup, by simp, fun a ha b hb => ?_⟩
    simp only [List.mem_singleton] at hb
    subst hb
    obtain ⟨x, hx, rfl⟩ := List.mem_map.1 ha
    exact hn x hx
  · simp only [Array.toList_push, List.mem_append, List.mem_singleton] at hx
    rcases hx with hx | rfl
    · simp [fput, hn x hx, h.val x hx]
    · simp [fput]
  · by_cases hqk : q = k
    · exact ⟨⟨k, v, born⟩, by simp, hqk.symm⟩
    · simp only [fput, if_neg hqk] at hq
      obtain ⟨x, hx, hxk⟩ := h.has q u hq
      exact ⟨x, by simp [hx], hxk⟩
theorem MapOf.turn {d : TypeDesc} {es : Array MapEntry} {f : Value → Option Value} (h : MapOf d es f) {k v : Value} {j : Nat} {e : MapEntry} (hj : es.toList[j]? = some e) (he : e.key = k) : MapOf d (es.modify j fun x => { x with key := k, val := v }) (fput f k v) := by
  subst he
  have hj' : es[j]? = some e := by simpa using hj
  have hkeys : (es.modify j fun x => { x with key := e.key, val := v }).toList.map (·.key) = es.toList.map (·.key) := modify_keys j _ (fun x hx => by rw [hj'] at hx; cases hx; rfl)
  have who : ∀ x ∈ (es.modify j fun x => { x with key := e.key, val := v }).toList, (x.key = e.key ∧ x.val = v) ∨ (x ∈ es.toList ∧ x.key ≠ e.key) := fun x hx => by
    obtain ⟨i, hi⟩ := List.getElem?_of_mem hx
    rw [Array.getElem?_toList, Array.getElem?_modify] at hi
    by_cases hij : j = i
    · subst hij
      rw [if_pos rfl, hj'] at hi
      simp only [Option.map_some, Option.some.injEq] at hi
      rw [← hi]
      exact .inl ⟨rfl, rfl⟩
    · rw [if_neg hij] at hi
      exact .inr ⟨Array.mem_toList_iff.2 (Array.mem_of_getElem? hi), h.other hj (by simpa using hi) (Ne.symm hij)⟩
  refine ⟨isKey_modify h.key j _ (fun x hx => by rw [hj'] at hx; cases hx; rfl), by rw [hkeys]; exact h.nodup, fun x hx => ?_, fun q u hq => ?_⟩
  · rcases who x hx with ⟨h1, h2⟩ | ⟨h1, h2⟩
    · simp [fput, h1, h2]
    · simp [fput, h2, h.val x h1]
  · have hmem : q ∈ es.toList.map (·.key) := by
      by_cases hqk : q = e.key
      · rw [hqk]; exact List.mem_map.2 ⟨e, List.mem_of_getElem? hj, rfl⟩
      · simp only [fput, if_neg hqk] at hq
        obtain ⟨x, hx, hxk⟩ := h.has q u hq
        exact List.mem_map.2 ⟨x, hx, hxk⟩
    rw [← hkeys] at hmem
    obtain ⟨x, hx, hxk⟩ := List.mem_map.1 hmem
    exact ⟨x, hx, hxk⟩
theorem MapOf.drop {d : TypeDesc} {es : Array MapEntry} {f : Value → Option Value} (h : MapOf d es f) {k : Value} {j : Nat} {e : MapEntry} (hj : es.toList[j]? = some e) (he : e.key = k) : MapOf d (es.eraseIdxIfInBounds j) (fdel f k) := by
  subst he
  have hlt : j < es.size := by simpa using (List.getElem?_eq_some_iff.1 hj).1
  have hl : (es.eraseIdxIfInBounds j).toList = es.toList.eraseIdx j := by
    unfold Array.eraseIdxIfInBounds
    rw [dif_pos hlt]
    simp
  have hsub := List.eraseIdx_sublist es.toList j
  refine ⟨fun x hx => ?_, ?_, fun x hx => ?_, fun q u hq => ?_⟩
  · rw [hl] at hx
    exact h.key x (hsub.subset hx)
  · rw [hl]
    exact (hsub.map _).nodup h.nodup
  · rw [hl] at hx
    obtain ⟨i, hne, hi⟩ := List.mem_eraseIdx_iff_getElem?.1 hx
    simp [fdel, h.other hj hi hne, h.val x (hsub.subset hx)]
  · by_cases hqk : q = e.key
    · simp [fdel, hqk] at hq
    · simp only [fdel, if_neg hqk] at hq
      obtain ⟨x, hx, hxk⟩ := h.has q u hq
      obtain ⟨i, hi⟩ := List.getElem?_of_mem hx
      refine ⟨x, ?_, hxk⟩
      rw [hl]
      refine List.mem_eraseIdx_iff_getElem?.2 ⟨i, fun hij => hqk ?_, hi⟩
      subst hij
      rw [hj] at hi
      cases hi
      exact hxk.symm
def lookOf (n : Nat) (ops : Array Oper) (E : Env) (i : Nat) : Option (Value × Value × TypeId × Bool × Option Tmp) :=
  match ops[i]? with
  | none => none
  | some o => if dstOk n o.dst then match o.guard with
    | some _ => none
    | none => match o.op with
      | .lookup t m x c => match opsOk E none [m, x] with
        | some [] => some (rho E m, rho E x, t, c, o.dst)
        | _ => none
      | _ => none
    else none
def putOf (n : Nat) (ops : Array Oper) (E : Env) (i : Nat) : Option (Value × Value × Value × TypeId × Option Tmp) :=
  match ops[i]? with
  | none => none
  | some o => if dstOk n o.dst then match o.guard with
    | some _ => none
    | none => match o.op with
      | .mapUpdate t m x v => match opsOk E none [m, x, v] with
        | some [] => some (rho E m, rho E x, rho E v, t, o.dst)
        | _ => none
      | _ => none
    else none
section maps
variable {P : Program} {f : Func} [Pan f] {R : Act → World → Prop} {n : Nat} [Dfr n] {k : List Itm} {E : Env} {h r : List (Nat × Obj)} {F : List (List Nat × World)} {Y : Ghost}
theorem putOf_sound {ops : Array Oper} {i : Nat} {mv xv vv : Value} {t : TypeId} {dst : Option Tmp} (he : putOf n ops E i = some (mv, xv, vv, t, dst))
    {a : Act} {w : World} {fps : List (List Nat)} (s : StF n E h r F Y a w fps) {K : Act → World → Prop}
    (H : ∃ w', (Instr.mapUpdate t mv xv vv).run P w = .ok () w' ∧ ∀ a', Ag n (E.put dst (.val undef)) a' → K a' w') : wpOp P ops (wpK P f R k) i K a w := by
  unfold putOf at he
  split at he
  · cases he
  rename_i o ho
  split at he
  case isFalse => cases he
  rename_i hd
  split at he
  · cases he
  rename_i hg
  split at he
  case h_2 => cases he
  rename_i t' m x v hc
  split at he
  case h_2 => cases he
  rename_i hq
  simp only [Option.some.injEq, Prod.mk.injEq] at he
  obtain ⟨rfl, rfl, rfl, rfl, rfl⟩ := he
  have hev := opsOk_sound s.ag (fun c w h => by cases h) _ _ hq trivial
  have e1 : a.eval m = rho E m := hev m (by simp)
  have e2 : a.eval x = rho E x := hev x (by simp)
  have e3 : a.eval v = rho E v := hev v (by simp)
  obtain ⟨w', hrun, hk⟩ := H
  unfold wpOp
  simp only [ho]
  rw [if_pos (by simp [Region.wanted, hg])]
  refine .inl ?_
  unfold Oper.wp execOp
  simp only [hc, Sem.run_bind, Sem.run_pure, Result.andThen_ok, e1, e2, e3, hrun]
  exact hk _ (s.ag.put hd (.val undef))
def lkV (c : Bool) (v : Value) (ok : Bool) : Value := match c with
  | true => .tuple #[v, .bool ok]
  | false => v
theorem JR_setmap {id L0 i p b : Nat} {ck : Bool} {Wp : List (Nat × List Nat)} {rest : List (Nat × Bool)} {dst : Option Tmp} {v : Value} {o o' : Obj} (hok : (!ck || okW L0 (Wp.lookup i) [p]) = true) (hp : h[p]? = some (b, o))
    {BB : Nat} {Hd : List Nat} {a a' : Act} {w : World} {fps : List (List Nat)} (s : StF n E h r F Y a w fps) (hH : ∀ b ∈ fps.flatten, b ∈ Hd ∨ BB ≤ b) (hR : RI Hd BB L0 h r w) (hN : New BB L0 h) (hW : okWp L0 Wp = true) (hA : Ag n (E.put dst (.val v)) a')
    (H : JR P f R n (rgOf f id) L0 ck rest (Wp.filter (·.1 != i)) k (E.put dst (.val v)) (h.set p (b, o')) r F Y) :
    (ck = true → BG BB ((idsW Hd h Wp).lookup i) w { w with heap := w.heap.setIfInBounds b o' }) ∧ PW P (rgOf f id) (wpK P f R k) BB ck rest ((idsW Hd h Wp).filter (·.1 != i)) a' { w with heap := w.heap.setIfInBounds b o' } := by
  have d : Did h (h.set p (b, o')) [p] w { w with heap := w.heap.setIfInBounds b o' } := did_set hp (List.mem_singleton.2 rfl)
  have hO := own_set (o' := o') s.own hp
  refine ⟨fun hck => okW_sound d (by simpa [hck] using hok) hN, ?_⟩
  rw [filter_idsW, ← idsW_did hR.len d _ (okWp_filter hW)]
  exact H BB Hd fps a' _ (s.go hA hO d.dd) hH (hR.did d) (hN.did hR.size d) (okWp_filter hW)
end maps
end Go.Sx
end
