/- The engine of our walks, part 22 (with ghosts): a row's element with three slices; a call that takes the block in sight. -/
import Derived.Test.YtahbmdchcbnolaaDoorTx21
namespace Go.Sx
open Go
section reads
variable {P : Program} {f : Func} {R : Act → World → Prop} {n : Nat} {kk : List Itm} {E : Env} {h r : List (Nat × Obj)} {F : List (List Nat × World)}
theorem J_read3 {S0 : Nat → Prop} {C0 : List Chunk} {G0 : List (Value × D)} (p : Nat) {a : Option Addr} {m c k : Nat} {rows : List (List D)} (hG : G0[p]? = some (.slice a m c, .sl k rows)) (i : Nat) {row : List D} (hrow : rows[i]? = some row) (hs : sls row = 3)
    (H : ∀ b off cs e fz a1 c1 a2 c2 a3 c3, a = some ⟨b, off, none⟩ → (∀ (j : Nat) u, (inst row [(a1, c1), (a2, c2), (a3, c3)])[j]? = some u → cs[off + i * k + j]? = some u) → J P f R n kk E h (r ++ [(b, .cells cs e fz)]) F ⟨S0, C0, G0 ++ deep row [(a1, c1), (a2, c2), (a3, c3)]⟩) : J P f R n kk E h r F ⟨S0, C0, G0⟩ :=
  J_readl p hG i hrow fun b off cs e fz ls h1 h2 h3 => by
    rw [hs] at h2
    match ls, h2, h3 with
    | [(a1, c1), (a2, c2), (a3, c3)], _, h3 => exact H b off cs e fz a1 c1 a2 c2 a3 c3 h1 h3
/-- A chunk's block, in sight. -/
theorem StF.show {Y : Ghost} {a : Act} {w : World} {fps : List (List Nat)} (s : StF n E h r F Y a w fps) (i : Nat) {b : Nat} {o : Obj} (hi : Y.C[i]? = some (cObj b o)) : StF n E (h ++ [(b, o)]) r F ⟨Y.S, Y.C.eraseIdx i, Y.G⟩ a w (fps.eraseIdx i) := by
  obtain ⟨fp, hfp, rfl, hb⟩ := s.gh.chs.at hi
  have hm : b ∈ fps.flatten := List.mem_flatten.2 ⟨_, List.mem_of_getElem? hfp, by simp⟩
  have hnb : b ∉ (fps.eraseIdx i).flatten := fun hc => by
    obtain ⟨j, x, hj, hx, hbx⟩ := mem_erase_flat hc
    exact hj (flat_at s.gh.nodup hx hfp hbx (by simp))
  have hids : (h ++ [(b, o)]).map (·.1) = h.map (·.1) ++ [b] := by simp
  have hS : ∀ c, Sd Y h fps c → Sd Y (h ++ [(b, o)]) (fps.eraseIdx i) c := fun c hc => ⟨hc.1, fun hx => by
    rw [hids] at hx
    rcases List.mem_append.1 hx with hx | hx
    · exact hc.2.1 hx
    · rw [List.mem_singleton] at hx
      subst hx
      exact hc.2.2 hm, fun hx => hc.2.2 (erase_flat_sub hx)⟩
  have hin : ∀ x ∈ h ++ [(b, o)], x ∈ h ∨ x = (b, o) := fun x hx => by simpa using hx
  refine ⟨s.ag, ⟨fun x hx => ?_, ?_, s.own.ro, fun x hx hc => ?_⟩, s.fr, fun f hf x hx => ?_,
    ⟨s.gh.chs.erase.mono (fun _ _ => rfl) fun c hc _ => ⟨hS c hc, rfl⟩, nodup_sublist_flat s.gh.nodup (List.eraseIdx_sublist _ _), fun c hc hx => ?_, fun x hx hc => s.gh.apart x hx (erase_flat_sub hc), fun f hf c hc => s.gh.may f hf c (erase_flat_sub hc), fun c hc => s.gh.lt c (erase_flat_sub hc), fun x hx => ?_, fun c hc => s.gh.hid c (erase_flat_sub hc), s.gh.top, fun x hx => (s.gh.g x hx).mono fun c hc _ => ⟨hS c hc, rfl⟩⟩⟩
  · rcases hin x hx with h1 | rfl
    · exact s.own.own x h1
    · exact hb
  · rw [hids, List.nodup_append]
    refine ⟨s.own.nodup, by simp, fun x hx y hy hxy => ?_⟩
    simp at hy
    subst hy hxy
    exact s.gh.disj _ hm hx
  · rw [hids] at hc
    rcases List.mem_append.1 hc with hc | hc
    · exact s.own.apart x hx hc
    · rw [List.mem_singleton] at hc
      exact s.gh.apart x hx (by rw [hc]; exact hm)
  · rcases hin x hx with h1 | rfl
    · exact s.may f hf x h1
    · exact s.gh.may f hf _ hm
  · rw [hids] at hx
    rcases List.mem_append.1 hx with hx | hx
    · exact s.gh.disj c (erase_flat_sub hc) hx
    · rw [List.mem_singleton] at hx
      subst hx
      exact hnb hc
  · rcases hin x hx with h1 | rfl
    · exact s.gh.own x h1
    · exact s.gh.hid _ hm
theorem others_last (m q : Nat) (_ : q < m) : others (m + 1) [m, q] = others m [q] := by
  unfold others
  rw [List.range_succ, List.filter_append]
  have h1 : ([m] : List Nat).filter (fun i => !([m, q] : List Nat).contains i) = [] := by simp
  rw [h1, List.append_nil]
  refine List.filter_congr fun x hx => ?_
  have hxm : x < m := List.mem_range.1 hx
  have : x ≠ m := by omega
  simp [this]
theorem pick_appl {α : Type} {l : List α} (x : α) {is : List Nat} (h : ∀ i ∈ is, i < l.length) : pick (l ++ [x]) is = pick l is := by
  unfold pick
  induction is with
  | nil => rfl
  | cons j r ih =>
    rw [List.filterMap_cons, List.filterMap_cons, List.getElem?_append_left (h j (List.mem_cons_self ..)), ih fun i hi => h i (List.mem_cons_of_mem _ hi)]
/-- A call that takes the only block in sight, and the chunk at q. -/
theorem JR_callh {S0 : Nat → Prop} {C0 : List Chunk} {G0 : List (Value × D)} {id L0 i : Nat} {ck : Bool} {Wp : List (Nat × List Nat)} {rest : List (Nat × Bool)} (hs : List Hn) (q : Nat) (fid : FuncId) (args : Array Value) (dst : Option Tmp) {b : Nat} {o : Obj} {c : Chunk}
    (he : chkC (callOf P n (rgOf f id) [(b, o)] r E i hs) = (some (fid, args, dst), trivC (callOf P n (rgOf f id) [(b, o)] r E i hs), 0)) (hok : ∃ ps, Wp.lookup i = some ps ∧ 0 ∈ ps) (hq : C0[q]? = some c)
    (C : ∀ w S M, Pre w S M [cObj b o, c] → AllG w S G0 → Calls P fid args w fun e w' => ∃ v C' G', Ret M w S w' e v (cObj b o :: C') G' ∧
      JR P f R n (rgOf f id) L0 ck rest (Wp.filter (·.1 != i)) kk (E.put dst (.val v)) [(b, o)] r F ⟨S0, restC C0 [q] ++ C', G0 ++ G'⟩) :
    JR P f R n (rgOf f id) L0 ck ((i, false) :: rest) Wp kk E [(b, o)] r F ⟨S0, C0, G0⟩ := by
  obtain ⟨p, he, hp⟩ := chkC_sound he
  intro B Hd fps a w s hH hR hN hW
  simp only [PW]
  have s1 : StF n E [] r F ⟨S0, C0 ++ [cObj b o], G0⟩ a w (fps ++ [[b]]) := s.hide1 0 rfl
  have hql : q < C0.length := (List.getElem?_eq_some_iff.1 hq).1
  have hlen : fps.length = C0.length := s.gh.chs.len.symm
  have hpre := Pre.of s1 (cs := [C0.length, q]) (by simp; omega)
  have e1 : pick (C0 ++ [cObj b o]) [C0.length, q] = [cObj b o, c] := by
    simp [pick, List.getElem?_append_left hql, hq]
  rw [show pick (Ghost.mk S0 (C0 ++ [cObj b o]) G0).C [C0.length, q] = [cObj b o, c] from e1] at hpre
  have hM : ∀ x, x ∈ (pick (fps ++ [[b]]) [C0.length, q]).flatten → x = b ∨ x ∈ fps.flatten := fun x hx => by
    have := pick_flat_sub hx
    simp at this
    rcases this with h1 | h1
    · obtain ⟨l, h2, h3⟩ := h1
      exact .inr (List.mem_flatten.2 ⟨l, h2, h3⟩)
    · exact .inl h1
  refine callOf_sound he hp s ((C w _ _ hpre s1.gh.g).mono fun e w' hh => ?_)
  obtain ⟨v, C', G', hRet, H⟩ := hh
  have hf := hRet.fr
  refine ⟨v, hRet.ret, fun E' hE a' hA => ⟨fun hck x hx hl => ?_, ?_⟩⟩
  · refine hf.block x hx fun hm => ?_
    obtain ⟨ps, hWl, h0⟩ := hok
    rw [lookup_idsW, hWl] at hl
    obtain ⟨h1, h2⟩ := hl _ rfl
    rcases hM x hm with rfl | h3
    · exact h2 (List.mem_append_left _ (List.mem_filterMap.2 ⟨0, h0, rfl⟩))
    · rcases hH x h3 with h4 | h4
      · exact h2 (List.mem_append_right _ h4)
      · omega
  · subst hE
    rw [filter_idsW]
    obtain ⟨fps', h3, s'⟩ := s1.called (cs := [C0.length, q]) hA hRet
    have e2 : pick (C0 ++ [cObj b o]) (others (C0 ++ [cObj b o]).length [C0.length, q]) = restC C0 [q] := by
      rw [List.length_append, List.length_singleton, others_last _ _ hql, pick_appl]
      · rfl
      · intro j hj
        exact List.mem_range.1 (List.mem_filter.1 hj).1
    rw [show pick (Ghost.mk S0 (C0 ++ [cObj b o]) G0).C (others (Ghost.mk S0 (C0 ++ [cObj b o]) G0).C.length [C0.length, q]) = restC C0 [q] from e2] at s'
    have hi : (restC C0 [q] ++ cObj b o :: C')[(restC C0 [q]).length]? = some (cObj b o) := by simp
    have s2 := s'.show _ hi
    have e3 : (restC C0 [q] ++ cObj b o :: C').eraseIdx (restC C0 [q]).length = restC C0 [q] ++ C' := by
      rw [List.eraseIdx_append_of_length_le (Nat.le_refl _)]
      simp
    rw [show (Ghost.mk S0 (restC C0 [q] ++ cObj b o :: C') (G0 ++ G')).C.eraseIdx (restC C0 [q]).length = restC C0 [q] ++ C' from e3] at s2
    refine H B Hd _ a' w' s2 (fun x hx => ?_) ⟨hR.old, hR.ro, hR.len, Nat.le_trans hR.size hf.size⟩ hN (okWp_filter hW)
    have hxb : x ≠ b := fun he => s2.gh.disj x hx (by simp [he])
    have hx2 := erase_flat_sub hx
    rw [List.flatten_append] at hx2
    have fin : x = b ∨ x ∈ fps.flatten → x ∈ Hd ∨ B ≤ x := fun h => h.elim (fun h => absurd h hxb) (hH x)
    rcases List.mem_append.1 hx2 with h4 | h4
    · have := pick_flat_sub h4
      rw [List.flatten_append] at this
      rcases List.mem_append.1 this with h5 | h5
      · exact hH x h5
      · exact absurd (by simpa using h5) hxb
    · rcases h3 x h4 with h5 | h5
      · exact fin (hM x h5)
      · exact .inr (Nat.le_trans hR.size h5)
end reads
end Go.Sx
