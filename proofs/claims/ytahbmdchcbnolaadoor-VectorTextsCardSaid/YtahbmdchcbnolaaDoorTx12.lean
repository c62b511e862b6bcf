/- The engine of our walks, part 12 (with ghosts): maps whose elements are structs, as chunks. -/
import Derived.Test.YtahbmdchcbnolaaDoorTx11
namespace Go.Sx
open Go Go.MapKept

open Classical in
noncomputable def kput {α : Type} (K : Value → Option α) (key : Value) (row : α) : Value → Option α := fun x => if x = key then some row else K x
open Classical in
noncomputable def kdel {α : Type} (K : Value → Option α) (key : Value) : Value → Option α := fun x => if x = key then none else K x
/-- What a map's elements read as. -/
def KeptP (w : World) (S : Nat → Prop) (g : Value → Option Value) (K : Value → Option (List D)) : Prop :=
  (∀ key, K key = none → g key = none) ∧ ∀ key row, K key = some row → ∃ us : List Value, g key = some (.agg us.toArray) ∧ us.length = row.length ∧ ∀ (j : Nat) d, row[j]? = some d → ∃ u, us[j]? = some u ∧ Rep w S u d
theorem KeptP.mono {w w' : World} {S S' : Nat → Prop} {g : Value → Option Value} {K : Value → Option (List D)} (h : KeptP w S g K) (hS : ∀ b, S b → b < w.heap.size → S' b ∧ w'.heap[b]? = w.heap[b]?) : KeptP w' S' g K :=
  ⟨h.1, fun key row hr => by
    obtain ⟨us, h1, h2, h3⟩ := h.2 key row hr
    exact ⟨us, h1, h2, fun j d hd => by
      obtain ⟨u, h4, h5⟩ := h3 j d hd
      exact ⟨u, h4, h5.mono hS⟩⟩⟩
def cKept (g : Value → Option Value) (K : Value → Option (List D)) : Chunk where
  P w S fp := fp = [] ∧ KeptP w S g K
  mono := by
    intro w w' S S' fp h _ hS
    exact ⟨h.1, h.2.mono hS⟩
/-- A map that is owned. -/
def cMap (b : Nat) (d : TypeDesc) (K : Value → Option (List D)) : Chunk where
  P w S fp := fp = [b] ∧ ∃ es clock g, w.heap[b]? = some (.map es clock) ∧ MapOf d es g ∧ KeptP w S g K
  mono := by
    intro w w' S S' fp ⟨h, es, clock, g, h1, h2, h3⟩ hb hS
    exact ⟨h, es, clock, g, (hb _ (by rw [h]; simp)).trans h1, h2, h3.mono hS⟩
theorem map0_eqv (mb clock : Nat) (d : TypeDesc) : (cObj mb (.map #[] clock)).eqv (cMap mb d fun _ => none) := fun _ _ _ h =>
  ⟨h.1, #[], clock, fun _ => none, h.2, MapOf.empty d, fun _ _ => rfl, fun _ _ hk => by cases hk⟩
section more
variable {P : Program} {f : Func} [Pan f] {R : Act → World → Prop} {n : Nat} [Dfr n] {kk : List Itm} {E : Env} {h r : List (Nat × Obj)} {F : List (List Nat × World)}
def mapParts (b : Nat) (d : TypeDesc) (K : Value → Option (List D)) (x : Array MapEntry × Nat × (Value → Option Value)) : Chunk := cStar [cPure (MapOf d x.1 x.2.2), cObj b (.map x.1 x.2.1), cKept x.2.2 K]
/-- A map of ours, in sight. -/
theorem J_openmap {S0 : Nat → Prop} {C0 : List Chunk} {G0 : List (Value × D)} (q : Nat) {b : Nat} {d : TypeDesc} {K : Value → Option (List D)} (hq : C0[q]? = some (cMap b d K))
    (H : ∀ es clock g, MapOf d es g → J P f R n kk E (h ++ [(b, .map es clock)]) r F ⟨S0, C0.eraseIdx q ++ [cKept g K], G0⟩) : J P f R n kk E h r F ⟨S0, C0, G0⟩ := by
  have hv : (cMap b d K).eqv (cExi (mapParts b d K)) := by
    intro w S fp ⟨hfp, es, clock, g, h1, h2, h3⟩
    subst hfp
    have hch : Chs w S [cPure (MapOf d es g), cObj b (.map es clock), cKept g K] [[], [b], []] := ⟨⟨rfl, h2⟩, ⟨rfl, h1⟩, ⟨rfl, h3⟩, trivial⟩
    exact ⟨(es, clock, g), [[], [b], []], by simp, hch⟩
  refine J_stp (stp_conv q hq hv) ?_
  have hql := (List.getElem?_eq_some_iff.1 hq).1
  refine J_stpx (stp_exi (g := mapParts b d K) q (by rw [List.getElem?_set_self hql])) fun x _ => ?_
  obtain ⟨es, clock, g⟩ := x
  rw [List.set_set]
  refine J_stp (stp_star (cs := [cPure (MapOf d es g), cObj b (.map es clock), cKept g K]) q (by rw [List.getElem?_set_self hql]; rfl)) ?_
  have e0 : ∀ y : Chunk, (C0.set q y).eraseIdx q = C0.eraseIdx q := fun y => by
    apply List.ext_getElem?
    intro j
    rw [List.getElem?_eraseIdx, List.getElem?_eraseIdx]
    split
    · rw [List.getElem?_set_ne (by omega)]
    · rw [List.getElem?_set_ne (by omega)]
  rw [e0]
  refine J_stpx (stp_pure (p := MapOf d es g) (C0.eraseIdx q).length (by rw [List.getElem?_append_right (Nat.le_refl _), Nat.sub_self]; rfl)) fun _ hp => ?_
  rw [List.eraseIdx_append_of_length_le (Nat.le_refl _)]
  simp only [Nat.sub_self, List.eraseIdx_cons_zero]
  refine J_show (b := b) (o := .map es clock) (C0.eraseIdx q).length (by rw [List.getElem?_append_right (Nat.le_refl _), Nat.sub_self]; rfl) ?_
  rw [List.eraseIdx_append_of_length_le (Nat.le_refl _)]
  simp only [Nat.sub_self, List.eraseIdx_cons_zero]
  exact H es clock g hp

/-- An element's cells. -/
theorem stp_readkept {S0 : Nat → Prop} {C0 : List Chunk} {G0 : List (Value × D)} (q : Nat) {g : Value → Option Value} {K : Value → Option (List D)} (hq : C0[q]? = some (cKept g K)) (key : Value) {row : List D} (hrow : K key = some row) :
    Stp h r F ⟨S0, C0, G0⟩ (fun ls : List (Option Addr × Nat) => ls.length = sls row ∧ g key = some (.agg (inst row ls).toArray)) fun ls => ⟨S0, C0, G0 ++ deep row ls⟩ := by
  intro w fps hO H
  obtain ⟨fp, hfp, _, hP⟩ := H.chs.at hq
  obtain ⟨us, h1, h2, h3⟩ := hP.2 key row hrow
  obtain ⟨ls, h4, h5, h6⟩ := inst_ex row (fun j => us.getD j undef) fun j d hd => by
    obtain ⟨u, hu1, hu2⟩ := h3 j d hd
    simpa [List.getD_eq_getElem?_getD, hu1] using hu2
  have e : inst row ls = us := by
    apply List.ext_getElem?
    intro j
    by_cases hj : j < us.length
    · have hj2 : j < (inst row ls).length := by rw [inst_len, ← h2]; exact hj
      have := h5 j _ (List.getElem?_eq_getElem hj2)
      rw [List.getElem?_eq_getElem hj2, this]
      simp [List.getD_eq_getElem?_getD, List.getElem?_eq_getElem hj]
    · rw [List.getElem?_eq_none (by rw [inst_len, ← h2]; omega), List.getElem?_eq_none (by omega)]
  refine ⟨ls, fps, ⟨h4, by rw [e]; exact h1⟩, fun _ hb => hb, H.less (fun _ hb => hb) H.nodup H.chs fun x hx => ?_⟩
  rcases List.mem_append.1 hx with hx | hx
  · exact H.g x hx
  · exact h6 x hx
/-- 'm[k] = v'. -/
theorem stp_putkept {S0 : Nat → Prop} {C0 : List Chunk} {G0 : List (Value × D)} (q : Nat) {g : Value → Option Value} {K : Value → Option (List D)} (hq : C0[q]? = some (cKept g K)) (key : Value) {us : List Value} {row : List D} (hR : RowG G0 us row) :
    Stp h r F ⟨S0, C0, G0⟩ (fun _ : Unit => True) fun _ => ⟨S0, C0.set q (cKept (fput g key (.agg us.toArray)) (kput K key row)), G0⟩ := by
  intro w fps hO H
  obtain ⟨fp, hfp, hnil, hP⟩ := H.chs.at hq
  have hc : (cKept (fput g key (.agg us.toArray)) (kput K key row)).P w (Sd ⟨S0, C0, G0⟩ h fps) fp := by
    refine ⟨hnil, fun x hx => ?_, fun x row' hx => ?_⟩
    · unfold kput at hx
      split at hx
      · cases hx
      · rename_i hne
        rw [fput, if_neg hne]
        exact hP.1 x hx
    · unfold kput at hx
      split at hx
      · rename_i he
        cases hx
        exact ⟨us, by rw [fput, if_pos he], hR.len, fun j d hd => hR.at H.g j d hd⟩
      · rename_i hne
        rw [fput, if_neg hne]
        exact hP.2 x row' hx
  have hs := H.chs.set hc (i := q)
  have e : fps.set q fp = fps := set_same hfp
  rw [e] at hs
  exact ⟨(), fps, trivial, fun _ hb => hb, H.less (fun _ hb => hb) H.nodup hs H.g⟩
/-- 'delete(m, k)'. -/
theorem stp_delkept {S0 : Nat → Prop} {C0 : List Chunk} {G0 : List (Value × D)} (q : Nat) {g : Value → Option Value} {K : Value → Option (List D)} (hq : C0[q]? = some (cKept g K)) (key : Value) :
    Stp h r F ⟨S0, C0, G0⟩ (fun _ : Unit => True) fun _ => ⟨S0, C0.set q (cKept (fdel g key) (kdel K key)), G0⟩ := by
  intro w fps hO H
  obtain ⟨fp, hfp, hnil, hP⟩ := H.chs.at hq
  have hc : (cKept (fdel g key) (kdel K key)).P w (Sd ⟨S0, C0, G0⟩ h fps) fp := by
    refine ⟨hnil, fun x hx => ?_, fun x row' hx => ?_⟩
    · unfold kdel at hx
      split at hx
      · rename_i he
        rw [fdel, if_pos he]
      · rename_i hne
        rw [fdel, if_neg hne]
        exact hP.1 x hx
    · unfold kdel at hx
      split at hx
      · cases hx
      · rename_i hne
        rw [fdel, if_neg hne]
        exact hP.2 x row' hx
  have hs := H.chs.set hc (i := q)
  have e : fps.set q fp = fps := set_same hfp
  rw [e] at hs
  exact ⟨(), fps, trivial, fun _ hb => hb, H.less (fun _ hb => hb) H.nodup hs H.g⟩
/-- A map's block and its elements' sense together are a map of ours again. -/
theorem stp_closemap {S0 : Nat → Prop} {C0 : List Chunk} {G0 : List (Value × D)} (q1 q2 : Nat) {mb clock : Nat} {d : TypeDesc} {es : Array MapEntry} {g : Value → Option Value} {K : Value → Option (List D)} (h1 : C0[q1]? = some (cObj mb (.map es clock))) (h2 : C0[q2]? = some (cKept g K)) (hm : MapOf d es g) :
    Stp h r F ⟨S0, C0, G0⟩ (fun _ : Unit => True) fun _ => ⟨S0, pick C0 (others C0.length [q1, q2]) ++ [cMap mb d K], G0⟩ := by
  intro w fps hO H
  obtain ⟨fp1, hf1, rfl, hb⟩ := H.chs.at h1
  obtain ⟨fp2, hf2, rfl, hR⟩ := H.chs.at h2
  have hlen := H.chs.len
  have hq1 : q1 < C0.length := (List.getElem?_eq_some_iff.1 h1).1
  have hnd : (others C0.length [q1, q2] ++ [q1]).Nodup := by
    rw [List.nodup_append]
    refine ⟨List.Nodup.sublist List.filter_sublist List.nodup_range, by simp, fun x hx y hy hxy => ?_⟩
    simp only [List.mem_singleton] at hy
    subst hy hxy
    simp [others] at hx
  have hE : pick fps (others C0.length [q1, q2]) ++ [[mb]] = pick fps (others C0.length [q1, q2] ++ [q1]) := by
    rw [pick_app]
    simp [pick, hf1]
  have hsub : ∀ b ∈ (pick fps (others C0.length [q1, q2]) ++ [[mb]]).flatten, b ∈ fps.flatten := fun b hb => by
    rw [hE] at hb
    exact pick_flat_sub hb
  have hS : ∀ b, Sd ⟨S0, C0, G0⟩ h fps b → Sd ⟨S0, C0, G0⟩ h (pick fps (others C0.length [q1, q2]) ++ [[mb]]) b := fun b hb => Sd_sub hsub hb
  refine ⟨(), _, trivial, hsub, H.less hsub (by rw [hE]; exact pick_flat_nodup H.nodup hnd) ?_ fun x hx => (H.g x hx).mono fun b hb _ => ⟨hS b hb, rfl⟩⟩
  have hc : (cMap mb d K).P w (Sd ⟨S0, C0, G0⟩ h (pick fps (others C0.length [q1, q2]) ++ [[mb]])) [mb] := ⟨rfl, es, clock, g, hb, hm, hR.mono fun b hb _ => ⟨hS b hb, rfl⟩⟩
  exact ((H.chs.pick _).mono (fun _ _ => rfl) fun b hb _ => ⟨hS b hb, rfl⟩).app (show Chs w _ [_] [[mb]] from ⟨hc, trivial⟩)
end more
end Go.Sx
