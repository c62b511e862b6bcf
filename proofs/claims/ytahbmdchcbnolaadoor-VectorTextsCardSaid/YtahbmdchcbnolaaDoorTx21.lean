/- The engine of our walks, part 21 (with ghosts): a region whose order is drawn, where two operations that write are ready at once, and behind the first of them (a call) again two. -/
import Derived.Test.YtahbmdchcbnolaaDoorTx20
namespace Go.Sx
open Go
section fork3
variable {P : Program} {ops : Array Oper} {Q : Exit → Act → World → Prop}
def planR (ops : Array Oper) : List (Nat × Bool) → Array Bool → Option (Array Bool)
  | [], listed => some listed
  | (i, true) :: rest, listed => if ((Region.ready .any ops listed).contains i && Region.free .any ops listed i) = true then planR ops rest (listed.setIfInBounds i true) else none
  | (_, false) :: _, _ => none
def plan3 (ops : Array Oper) (rs : List (Nat × Bool)) (i : Nat) (q1 q2 : List (Nat × Bool)) (j : Nat) (q3 : List (Nat × Bool)) (listed : Array Bool) : Bool := match planR ops rs listed with
  | some l => Region.ready .any ops l == [i, j] && planF ops 0 q1 q2 (l.setIfInBounds i true) && planOk ops q3 (l.setIfInBounds j true)
  | none => false
/-- One operation, then either of two orders. -/
def Both (P : Program) (ops : Array Oper) (Q : Exit → Act → World → Prop) (B i : Nat) (q1 q2 : List (Nat × Bool)) (W : List (Nat × List Nat)) (a : Act) (w : World) : Prop :=
  wpOp P ops Q i (fun a' w' => BG B (W.lookup i) w w' ∧ PW P ops Q B true q1 (W.filter (·.1 != i)) a' w' ∧ PW P ops Q B true q2 (W.filter (·.1 != i)) a' w') a w
theorem wpAnyG_of_fork3 (hs : Region.noSelect ops = true) (hQ : ∀ (i : Nat) (o : Oper), ops[i]? = some o → ∀ c a v w, Q (.panic c) (a.put o.dst v) w → Q (.panic c) a w) {B : Nat} (W0 : Nat → Option (List Nat)) {i j : Nat} {q1 q2 q3 : List (Nat × Bool)} (hl2 : q2.length = q1.length) (hl3 : q3.length = q1.length) (W : List (Nat × List Nat)) :
    ∀ (rs : List (Nat × Bool)) (listed : Array Bool) (a : Act) (w : World), plan3 ops rs i q1 q2 j q3 listed = true → Down .any ops listed → (∀ j, listed.getD j true = false → W.lookup j = W0 j) →
      PW P ops (fun _ a w => Both P ops Q B i q1 q2 W a w ∧ PW P ops Q B true ((j, false) :: q3) W a w) B true rs W a w → wpAnyG P .any ops Q B W0 (rs.length + (q1.length + 1)) listed a w
  | [], listed, a, w, hp, hdown, hW, h => by
    simp only [plan3, planR, Bool.and_eq_true, beq_iff_eq] at hp
    obtain ⟨⟨hr, hF⟩, hp3⟩ := hp
    obtain ⟨h1, h2⟩ := h
    have hi : i ∈ Region.ready .any ops listed := by rw [hr]; simp
    have hj : j ∈ Region.ready .any ops listed := by rw [hr]; simp
    rw [List.length_nil, Nat.zero_add]
    refine ⟨fun h0 => absurd h0 (by rw [hr]; simp), fun k hk => ?_⟩
    rw [hr] at hk
    rcases List.mem_cons.1 hk with rfl | hk
    · have hun : listed.getD k true = false := (mem_ready.1 hi).1
      refine wpOp_mono (fun a' w' hh => ⟨?_, ?_⟩) h1
      · rw [← hW k hun]
        exact hh.1
      · refine wpAnyG_of_fork hs hQ W0 0 q1 q2 _ _ _ _ hF hl2 (hdown.list hi) (fun l hl => ?_) hh.2.1 hh.2.2
        obtain ⟨hkl, hl2⟩ := unlisted_after hl
        rw [lookup_filter_ne k l (Ne.symm hkl)]
        exact hW l hl2
    · obtain rfl := List.mem_singleton.1 hk
      have := step_write hs hQ W0 hj hp3 hdown hW h2
      rw [hl3] at this
      exact this
  | (r, true) :: rs, listed, a, w, hp, hdown, hW, h => by
    have hp' : ((Region.ready .any ops listed).contains r && Region.free .any ops listed r) = true ∧ plan3 ops rs i q1 q2 j q3 (listed.setIfInBounds r true) = true := by
      simp only [plan3, planR] at hp ⊢
      split at hp
      · rename_i l hl
        split at hl
        · rename_i hc
          exact ⟨hc, by rw [hl]; exact hp⟩
        · cases hl
      · cases hp
    obtain ⟨hc, hp'⟩ := hp'
    rw [Bool.and_eq_true] at hc
    obtain ⟨hr, hf⟩ := hc
    obtain ⟨o, v, us, ho, hy, hS, hd, hrest⟩ := h
    rw [List.length_cons, Nat.add_right_comm]
    refine wpAnyG_first (us := us) ho (Region.noSelect_spec hs) (fun c a w => hQ _ _ ho c a v w) (rs.length + (q1.length + 1)) listed a w ?_ hdown (by simpa using hr) hy hS ?_
    · intro k ok hok hki hun hno
      refine ⟨Region.free_spec ho hf k ok hok hki hun hno, fun l hl => ?_⟩
      rw [← hW k hun] at hl
      exact hd rfl _ (mem_of_lookup hl)
    · exact wpAnyG_of_fork3 hs hQ W0 hl2 hl3 W rs _ _ _ hp' (hdown.list (by simpa using hr)) (fun k hk => hW k (unlisted_after hk).2) hrest
  | (_, false) :: _, _, _, _, hp, _, _, _ => by simp [plan3, planR] at hp
def fork3Ok (ops : Array Oper) (rs : List (Nat × Bool)) (i : Nat) (q1 q2 : List (Nat × Bool)) (j : Nat) (q3 : List (Nat × Bool)) : Bool :=
  Region.noSelect ops && Nat.beq (rs.length + (q1.length + 1)) ops.size && Nat.beq q2.length q1.length && Nat.beq q3.length q1.length && plan3 ops rs i q1 q2 j q3 (Array.replicate ops.size false)
theorem wp_region_fork3 {id : Nat} {a : Act} {w : World} (hm : P.follows .mixedOrders = true) (hQ : ∀ (i : Nat) (o : Oper), ops[i]? = some o → ∀ c a v w, Q (.panic c) (a.put o.dst v) w → Q (.panic c) a w) {rs : List (Nat × Bool)} {i j : Nat} {q1 q2 q3 : List (Nat × Bool)} (W : List (Nat × List Nat)) (hok : fork3Ok ops rs i q1 q2 j q3 = true) {B : Nat}
    (h : PW P ops (fun _ a w => Both P ops Q B i q1 q2 W a w ∧ PW P ops Q B true ((j, false) :: q3) W a w) B true rs W a { w with drawn := w.drawn + 1 }) : (Code.region id ops true).wp P Q a w := by
  simp only [fork3Ok, Bool.and_eq_true] at hok
  obtain ⟨⟨⟨⟨hs, hl1⟩, hl2⟩, hl3⟩, hp⟩ := hok
  have hlen := Nat.eq_of_beq_eq_true hl1
  refine wp_region_any hm (wpAny_of_G (B := B) (W := fun j => W.lookup j) _ _ _ _ ?_)
  rw [← hlen]
  rw [← hlen] at hp
  refine wpAnyG_of_fork3 hs hQ _ (Nat.eq_of_beq_eq_true hl2) (Nat.eq_of_beq_eq_true hl3) W rs _ _ _ hp (fun j o ho hl => ?_) (fun _ _ => rfl) h
  have hlt := (Array.getElem?_eq_some_iff.1 ho).1
  rw [hlen] at hl
  simp [hlt] at hl
end fork3
section rule
variable {P : Program} {f : Func} {R : Act → World → Prop} {n : Nat} {k : List Itm} {E : Env} {h r : List (Nat × Obj)} {F : List (List Nat × World)} {Y : Ghost}
/-- The rest of a region: one operation, then either of two orders. -/
def JR2 (P : Program) (f : Func) (R : Act → World → Prop) (n : Nat) (ops : Array Oper) (L0 : Nat) (i : Nat) (q1 q2 : List (Nat × Bool)) (Wp : List (Nat × List Nat)) (k : List Itm) (E : Env) (h r : List (Nat × Obj)) (F : List (List Nat × World)) (Y : Ghost) : Prop :=
  ∀ B Hd fps a w, StF n E h r F Y a w fps → (∀ b ∈ fps.flatten, b ∈ Hd ∨ B ≤ b) → RI Hd B L0 h r w → New B L0 h → okWp L0 Wp = true → Both P ops (wpK P f R k) B i q1 q2 (idsW Hd h Wp) a w
theorem J_fork3 (hm : P.follows .mixedOrders = true) {id : Nat} (pl : List Pl) (i j : Nat) (q1 q2 q3 : List (Nat × Bool)) (Wp : List (Nat × List Nat)) (keep : List Nat) {E1 : (Nat → Nat) → Env} {p1 : (Nat → Nat) → List Prop} (hok : fork3Ok (rgOf f id) (pl.map Pl.key) i q1 q2 j q3 = true) (hWp : okWp h.length Wp = true)
    (hr : ∀ nu, (packed (runReg P n nu f id h.length true pl Wp E h r keep), trivL (runReg P n nu f id h.length true pl Wp E h r keep)) = (some (E1 nu, h, p1 nu, Wp), trivR (runReg P n nu f id h.length true pl Wp E h r keep))) (hp : ∀ nu, AllP (p1 nu))
    (H1 : ∀ nu, JR2 P f R n (rgOf f id) h.length i q1 q2 Wp k (E1 nu) h r F Y) (H3 : ∀ nu, JR P f R n (rgOf f id) h.length true ((j, false) :: q3) Wp k (E1 nu) h r F Y) : J P f R n (.c (.rg id true) :: k) E h r F Y := fun a w ⟨fps, s0⟩ => by
  have s := s0.drew
  have hH : ∀ b ∈ fps.flatten, b ∈ fps.flatten ∨ w.heap.size ≤ b := fun b hb => .inl hb
  have hR : RI fps.flatten w.heap.size h.length h r { w with drawn := w.drawn + 1 } := ⟨fun i _ x hx => ⟨s0.own.own.lt (List.mem_of_getElem? hx), fun hm => s0.gh.disj _ hm (List.mem_map.2 ⟨x, List.mem_of_getElem? hx, rfl⟩)⟩, fun x hx => ⟨s0.own.ro.lt hx, s0.gh.apart x hx⟩, Nat.le_refl _, Nat.le_refl _⟩
  have hN : New w.heap.size h.length h := fun j hj x hx => by rw [List.getElem?_eq_none hj] at hx; cases hx
  simp only [wpK, Sk.code]
  refine wp_region_fork3 (B := w.heap.size) (rs := pl.map Pl.key) hm (fun i o ho c a v w hq => absurd hq (wpK_panic _ _ _ _)) (idsW fps.flatten h Wp) hok ?_
  obtain ⟨h2, h3⟩ := Prod.mk.inj (hr (fun j => w.heap.size + j))
  unfold runReg at h2 h3
  split at h2
  · rename_i E' x' W' p hrun
    rw [hrun] at h3
    simp only [packed, Option.some.injEq, Prod.mk.injEq] at h2
    obtain ⟨e1, e2, e3, e4⟩ := h2
    have key := run_PW (Q := fun _ a w' => Both P (rgOf f id) (wpK P f R k) w.heap.size i q1 q2 (idsW fps.flatten h Wp) a w' ∧ PW P (rgOf f id) (wpK P f R k) w.heap.size true ((j, false) :: q3) (idsW fps.flatten h Wp) a w') (rest := []) pl Wp E ⟨h, 0, []⟩ E' x' W' p hrun (All_of p h3 (by rw [e3]; exact hp _)) hWp a { w with drawn := w.drawn + 1 } s.ag s.own (fun j => by simp) hR hN fun a' w' hA hO _ hR' hN' hd hW' => ?_
    · rw [List.append_nil] at key
      exact key
    · rw [e2] at hO hR' hN' hd
      have hA' : Ag n (E1 fun j => w.heap.size + j) a' := hA.sub (by rw [← e1]; exact keepE_sub E' keep)
      have s' := s.go hA' hO hd
      exact ⟨H1 _ w.heap.size fps.flatten fps a' w' s' hH hR' hN' hWp, H3 _ w.heap.size fps.flatten fps a' w' s' hH hR' hN' hWp⟩
  · cases h2
/-- A call that takes no chunk, then either of two orders. -/
theorem JR2_callp {S0 : Nat → Prop} {C0 : List Chunk} {G0 : List (Value × D)} {id L0 i : Nat} {q1 q2 : List (Nat × Bool)} {Wp : List (Nat × List Nat)} (hs : List Hn) (fid : FuncId) (args : Array Value) (dst : Option Tmp)
    (he : chkC (callOf P n (rgOf f id) h r E i hs) = (some (fid, args, dst), trivC (callOf P n (rgOf f id) h r E i hs), 0))
    (C : ∀ w S, AllG w S G0 → Calls P fid args w fun e w' => ∃ v C' G', Ret [] w S w' e v C' G' ∧
      JR P f R n (rgOf f id) L0 true q1 (Wp.filter (·.1 != i)) k (E.put dst (.val v)) h r F ⟨S0, C0 ++ C', G0 ++ G'⟩ ∧ JR P f R n (rgOf f id) L0 true q2 (Wp.filter (·.1 != i)) k (E.put dst (.val v)) h r F ⟨S0, C0 ++ C', G0 ++ G'⟩) :
    JR2 P f R n (rgOf f id) L0 i q1 q2 Wp k E h r F ⟨S0, C0, G0⟩ := by
  obtain ⟨p, he, hp⟩ := chkC_sound he
  intro B Hd fps a w s hH hR hN hW
  refine callOf_sound he hp s ((C w (Sd ⟨S0, C0, G0⟩ h fps) s.gh.g).mono fun e w' hh => ?_)
  obtain ⟨v, C', G', hRet, H1, H2⟩ := hh
  have hf := hRet.fr
  refine ⟨v, hRet.ret, fun E' hE a' hA => ⟨fun b hb hl => hf.block b hb (by simp), ?_⟩⟩
  subst hE
  rw [filter_idsW]
  have hRet' : Ret (pick fps []).flatten w (Sd ⟨S0, C0, G0⟩ h fps) w' e v C' G' := hRet
  obtain ⟨fps', h3, s'⟩ := s.called (cs := []) hA hRet'
  have hpk : pick C0 (others C0.length []) = C0 := by
    have h1 : others C0.length [] = List.range C0.length := by simp [others]
    rw [h1, pick_all]
  rw [show (pick (Ghost.mk S0 C0 G0).C (others (Ghost.mk S0 C0 G0).C.length [])) = C0 from hpk] at s'
  have hH' : ∀ b ∈ (pick fps (others fps.length []) ++ fps').flatten, b ∈ Hd ∨ B ≤ b := fun b hb => by
    rw [List.flatten_append] at hb
    rcases List.mem_append.1 hb with hb | hb
    · exact hH b (pick_flat_sub hb)
    · rcases h3 b hb with h1 | h1
      · exact hH b (pick_flat_sub h1)
      · exact .inr (Nat.le_trans hR.size h1)
  exact ⟨H1 B Hd _ a' w' s' hH' ⟨hR.old, hR.ro, hR.len, Nat.le_trans hR.size hf.size⟩ hN (okWp_filter hW), H2 B Hd _ a' w' s' hH' ⟨hR.old, hR.ro, hR.len, Nat.le_trans hR.size hf.size⟩ hN (okWp_filter hW)⟩
end rule
end Go.Sx
