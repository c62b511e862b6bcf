/- The engine of our walks, part 16 (with ghosts): many chunks together, one taken out and put back; maps of ours whose sense is known whole. -/
import Derived.Test.YtahbmdchcbnolaaDoorTx15
namespace Go.Sx
open Go

theorem flat_out {l : List (List Nat)} {i : Nat} {x : List Nat} (h : l[i]? = some x) : l.flatten.Perm (x ++ (l.eraseIdx i).flatten) := by
  induction l generalizing i with
  | nil => simp at h
  | cons y l ih =>
    cases i with
    | zero =>
      simp only [List.getElem?_cons_zero, Option.some.injEq] at h
      subst h
      simp
    | succ i =>
      simp only [List.getElem?_cons_succ] at h
      simp only [List.flatten_cons, List.eraseIdx_cons_succ]
      refine ((ih h).append_left y).trans ?_
      rw [← List.append_assoc, ← List.append_assoc]
      exact List.perm_append_comm.append_right _
theorem Chs.insert {w : World} {S : Nat → Prop} {c : Chunk} {fp : List Nat} (hc : c.P w S fp) : ∀ {cs : List Chunk} {i : Nat} {fps : List (List Nat)}, cs[i]? = some c → Chs w S (cs.eraseIdx i) fps → ∃ fps', Chs w S cs fps' ∧ fps'.flatten.Perm (fp ++ fps.flatten)
  | [], _, _, h, _ => by simp at h
  | d :: cs, 0, fps, h, hr => by
    simp only [List.getElem?_cons_zero, Option.some.injEq] at h
    subst h
    exact ⟨fp :: fps, ⟨hc, hr⟩, by simp⟩
  | d :: cs, i + 1, fps, h, hr => by
    simp only [List.getElem?_cons_succ] at h
    simp only [List.eraseIdx_cons_succ] at hr
    match fps, hr with
    | f :: fps, hr =>
      obtain ⟨fps', h1, h2⟩ := Chs.insert hc h hr.2
      refine ⟨f :: fps', ⟨hr.1, h1⟩, ?_⟩
      simp only [List.flatten_cons]
      refine (h2.append_left f).trans ?_
      rw [← List.append_assoc, ← List.append_assoc]
      exact List.perm_append_comm.append_right _

/-- A map of ours: its sense. -/
def cMapG (b : Nat) (ok : Value → Prop) (g : Value → Option Value) : Chunk where
  P w _ fp := fp = [b] ∧ ∃ es clock, w.heap[b]? = some (.map es clock) ∧ MapG ok es g
  mono := by
    intro w w' S S' fp ⟨h, es, clock, h1, h2⟩ hb _
    exact ⟨h, es, clock, (hb _ (by rw [h]; simp)).trans h1, h2⟩
theorem mapg_eqv {b clock : Nat} {ok : Value → Prop} {es : Array MapEntry} {g : Value → Option Value} (hm : MapG ok es g) : (cObj b (.map es clock)).eqv (cMapG b ok g) := fun _ _ _ h => ⟨h.1, es, clock, h.2, hm⟩
theorem mapg_sense {b : Nat} {ok : Value → Prop} {g g' : Value → Option Value} (hg : ∀ k, g k = g' k) : (cMapG b ok g).eqv (cMapG b ok g') := by
  obtain rfl : g = g' := funext hg
  exact fun _ _ _ h => h
section more
variable {P : Program} {f : Func} [Pan f] {R : Act → World → Prop} {n : Nat} [Dfr n] {kk : List Itm} {E : Env} {h r : List (Nat × Obj)} {F : List (List Nat × World)}
def mapgParts (b : Nat) (ok : Value → Prop) (g : Value → Option Value) (x : Array MapEntry × Nat) : Chunk := cStar [cPure (MapG ok x.1 g), cObj b (.map x.1 x.2)]
/-- A map of ours, in sight. -/
theorem J_openmapg {S0 : Nat → Prop} {C0 : List Chunk} {G0 : List (Value × D)} (q : Nat) {b : Nat} {ok : Value → Prop} {g : Value → Option Value} (hq : C0[q]? = some (cMapG b ok g))
    (H : ∀ es clock, MapG ok es g → J P f R n kk E (h ++ [(b, .map es clock)]) r F ⟨S0, C0.eraseIdx q, G0⟩) : J P f R n kk E h r F ⟨S0, C0, G0⟩ := by
  have hv : (cMapG b ok g).eqv (cExi (mapgParts b ok g)) := by
    intro w S fp ⟨hfp, es, clock, h1, h2⟩
    subst hfp
    have hch : Chs w S [cPure (MapG ok es g), cObj b (.map es clock)] [[], [b]] := ⟨⟨rfl, h2⟩, ⟨rfl, h1⟩, trivial⟩
    exact ⟨(es, clock), [[], [b]], by simp, hch⟩
  refine J_stp (stp_conv q hq hv) ?_
  have hql := (List.getElem?_eq_some_iff.1 hq).1
  refine J_stpx (stp_exi (g := mapgParts b ok g) q (by rw [List.getElem?_set_self hql])) fun x _ => ?_
  obtain ⟨es, clock⟩ := x
  rw [List.set_set]
  refine J_stp (stp_star (cs := [cPure (MapG ok es g), cObj b (.map es clock)]) q (by rw [List.getElem?_set_self hql]; rfl)) ?_
  have e0 : ∀ y : Chunk, (C0.set q y).eraseIdx q = C0.eraseIdx q := fun y => by
    apply List.ext_getElem?
    intro j
    rw [List.getElem?_eraseIdx, List.getElem?_eraseIdx]
    split
    · rw [List.getElem?_set_ne (by omega)]
    · rw [List.getElem?_set_ne (by omega)]
  rw [e0]
  refine J_stpx (stp_pure (p := MapG ok es g) (C0.eraseIdx q).length (by rw [List.getElem?_append_right (Nat.le_refl _), Nat.sub_self]; rfl)) fun _ hp => ?_
  rw [List.eraseIdx_append_of_length_le (Nat.le_refl _)]
  simp only [Nat.sub_self, List.eraseIdx_cons_zero]
  refine J_show (b := b) (o := .map es clock) (C0.eraseIdx q).length (by rw [List.getElem?_append_right (Nat.le_refl _), Nat.sub_self]; rfl) ?_
  rw [List.eraseIdx_append_of_length_le (Nat.le_refl _)]
  simp only [Nat.sub_self, List.eraseIdx_cons_zero, List.append_nil]
  exact H es clock hp

/-- One out of many. -/
theorem stp_take {S0 : Nat → Prop} {C0 : List Chunk} {G0 : List (Value × D)} (q i : Nat) {cs : List Chunk} {c : Chunk} (hq : C0[q]? = some (cStar cs)) (hi : cs[i]? = some c) :
    Stp h r F ⟨S0, C0, G0⟩ (fun _ : Unit => True) fun _ => ⟨S0, C0.eraseIdx q ++ [c, cStar (cs.eraseIdx i)], G0⟩ := by
  intro w fps hO H
  obtain ⟨fp, hfp, fpsI, rfl, hP⟩ := H.chs.at hq
  obtain ⟨fpi, hfi, hc⟩ := hP.at hi
  have hp : (fps.eraseIdx q ++ [fpi, (fpsI.eraseIdx i).flatten]).flatten.Perm fps.flatten := by
    rw [List.flatten_append]
    simp only [List.flatten_cons, List.flatten_nil, List.append_nil]
    exact ((flat_out hfi).symm.append_left _).trans (List.perm_append_comm.trans (flat_out hfp).symm)
  have hsub : ∀ b ∈ (fps.eraseIdx q ++ [fpi, (fpsI.eraseIdx i).flatten]).flatten, b ∈ fps.flatten := fun b hb => hp.mem_iff.1 hb
  have hS : ∀ b, Sd ⟨S0, C0, G0⟩ h fps b → Sd ⟨S0, C0, G0⟩ h (fps.eraseIdx q ++ [fpi, (fpsI.eraseIdx i).flatten]) b := fun b hb => Sd_sub hsub hb
  have hch : Chs w (Sd ⟨S0, C0, G0⟩ h fps) [c, cStar (cs.eraseIdx i)] [fpi, (fpsI.eraseIdx i).flatten] := ⟨hc, ⟨_, rfl, hP.erase⟩, trivial⟩
  exact ⟨(), _, trivial, hsub, H.less hsub (hp.nodup_iff.2 H.nodup) ((H.chs.erase.app hch).mono (fun _ _ => rfl) fun b hb _ => ⟨hS b hb, rfl⟩) fun x hx => (H.g x hx).mono fun b hb _ => ⟨hS b hb, rfl⟩⟩
/-- One put to many. -/
theorem stp_join {S0 : Nat → Prop} {C0 : List Chunk} {G0 : List (Value × D)} (q1 q2 i : Nat) {cs cs' : List Chunk} {c : Chunk} (h1 : C0[q1]? = some c) (h2 : C0[q2]? = some (cStar cs)) (hne : q1 ≠ q2) (hi : cs'[i]? = some c) (he : cs'.eraseIdx i = cs) :
    Stp h r F ⟨S0, C0, G0⟩ (fun _ : Unit => True) fun _ => ⟨S0, restC C0 [q1, q2] ++ [cStar cs'], G0⟩ := by
  subst he
  intro w fps hO H
  obtain ⟨fp1, hf1, hc⟩ := H.chs.at h1
  obtain ⟨fp2, hf2, fpsI, rfl, hP⟩ := H.chs.at h2
  obtain ⟨fps', hch, hpm⟩ := Chs.insert hc hi hP
  have hlen := H.chs.len
  have hp2 : pick fps [q1, q2] = [fp1, fpsI.flatten] := by simp [pick, hf1, hf2]
  have hnd2 : (others C0.length [q1, q2] ++ [q1, q2]).Nodup := by
    rw [List.nodup_append]
    refine ⟨List.Nodup.sublist List.filter_sublist List.nodup_range, by simp [hne], fun x hx y hy hxy => ?_⟩
    subst hxy
    simp [others] at hx
    simp at hy
    omega
  have hE : (pick fps (others C0.length [q1, q2]) ++ [fps'.flatten]).flatten.Perm (pick fps (others C0.length [q1, q2] ++ [q1, q2])).flatten := by
    rw [pick_app, hp2, List.flatten_append, List.flatten_append]
    simp only [List.flatten_cons, List.flatten_nil, List.append_nil]
    exact hpm.append_left _
  have hsub : ∀ b ∈ (pick fps (others C0.length [q1, q2]) ++ [fps'.flatten]).flatten, b ∈ fps.flatten := fun b hb => pick_flat_sub (hE.mem_iff.1 hb)
  have hS : ∀ b, Sd ⟨S0, C0, G0⟩ h fps b → Sd ⟨S0, C0, G0⟩ h (pick fps (others C0.length [q1, q2]) ++ [fps'.flatten]) b := fun b hb => Sd_sub hsub hb
  have hj : Chs w (Sd ⟨S0, C0, G0⟩ h fps) [cStar cs'] [fps'.flatten] := ⟨⟨_, rfl, hch⟩, trivial⟩
  exact ⟨(), _, trivial, hsub, H.less hsub (hE.nodup_iff.2 (pick_flat_nodup H.nodup hnd2)) (((H.chs.pick _).app hj).mono (fun _ _ => rfl) fun b hb _ => ⟨hS b hb, rfl⟩) fun x hx => (H.g x hx).mono fun b hb _ => ⟨hS b hb, rfl⟩⟩
theorem star_nil (w : World) (S : Nat → Prop) : (cStar []).P w S [] := ⟨[], rfl, trivial⟩
end more
/-- Chunks and facts, written out. -/
theorem J_norm {P : Program} {f : Func} [Pan f] {R : Act → World → Prop} {n : Nat} [Dfr n] {kk : List Itm} {E : Env} {h r : List (Nat × Obj)} {F : List (List Nat × World)} {S0 : Nat → Prop} {C0 C' : List Chunk} {G0 G' : List (Value × D)} (hC : C0 = C') (hG : G0 = G') (H : J P f R n kk E h r F ⟨S0, C', G'⟩) : J P f R n kk E h r F ⟨S0, C0, G0⟩ := by
  subst hC hG
  exact H
theorem map_out {α β : Type} {ks : List α} (hn : ks.Nodup) {i : Nat} {k : α} (hk : ks[i]? = some k) {Q Q' : α → β} (hQ : ∀ x, x ≠ k → Q' x = Q x) : (ks.map Q').eraseIdx i = (ks.map Q).eraseIdx i := by
  apply List.ext_getElem?
  intro j
  rw [List.getElem?_eraseIdx, List.getElem?_eraseIdx]
  have key : ∀ j : Nat, j ≠ i → (ks.map Q')[j]? = (ks.map Q)[j]? := fun j hj => by
    rw [List.getElem?_map, List.getElem?_map]
    cases hx : ks[j]? with
    | none => rfl
    | some x =>
      have : x ≠ k := fun he => by
        subst he
        exact hj ((List.getElem?_inj (List.getElem?_eq_some_iff.1 hx).1 hn).1 (hx.trans hk.symm))
      simp [hQ x this]
  split
  · exact key j (by omega)
  · exact key (j + 1) (by omega)
end Go.Sx
