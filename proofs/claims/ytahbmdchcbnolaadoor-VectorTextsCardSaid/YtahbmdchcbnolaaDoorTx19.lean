/- The engine of our walks, part 19 (with ghosts): a region whose order is drawn, where two operations that write are ready at once: both orders are walked. -/
import Derived.Test.YtahbmdchcbnolaaDoorTx18
namespace Go.Sx
open Go
section fork
variable {P : Program} {ops : Array Oper} {Q : Exit → Act → World → Prop}

theorem yields_det {us us' : List (Nat × Obj)} {o : Oper} {v v' : Value} {a : Act} {w : World} (h : YieldsIf P ops (Hp us) o v a) (h' : YieldsIf P ops (Hp us') o v' a) (hw : Hp us w) (hw' : Hp us' w) : v = v' := by
  rcases h with ⟨h1, h2⟩ | ⟨h1, h2⟩ <;> rcases h' with ⟨h3, h4⟩ | ⟨h3, h4⟩
  · have := (h2 w hw).symm.trans (h4 w hw')
    simpa using this
  · rw [h1] at h3; cases h3
  · rw [h1] at h3; cases h3
  · rw [h2, h4]
/-- Two plans that part after m reading operations. -/
def planF (ops : Array Oper) : Nat → List (Nat × Bool) → List (Nat × Bool) → Array Bool → Bool
  | 0, (i, false) :: r1, (j, false) :: r2, listed => Region.ready .any ops listed == [i, j] && planOk ops r1 (listed.setIfInBounds i true) && planOk ops r2 (listed.setIfInBounds j true)
  | m + 1, (i, true) :: r1, (j, true) :: r2, listed => Nat.beq i j && (Region.ready .any ops listed).contains i && Region.free .any ops listed i && planF ops m r1 r2 (listed.setIfInBounds i true)
  | _, _, _, _ => false
theorem unlisted_after {listed : Array Bool} {i k : Nat} (hk : (listed.setIfInBounds i true).getD k true = false) : i ≠ k ∧ listed.getD k true = false := by
  have hik : i ≠ k := by
    rintro rfl
    rcases Nat.lt_or_ge i listed.size with h' | h'
    · simp [h'] at hk
    · simp [h'] at hk
  rw [getD_set_ne true hik] at hk
  exact ⟨hik, hk⟩
theorem step_write (hs : Region.noSelect ops = true) (hQ : ∀ (i : Nat) (o : Oper), ops[i]? = some o → ∀ c a v w, Q (.panic c) (a.put o.dst v) w → Q (.panic c) a w) {B : Nat} (W0 : Nat → Option (List Nat)) {i : Nat} {rest : List (Nat × Bool)} {W : List (Nat × List Nat)} {listed : Array Bool} {a : Act} {w : World}
    (hr : i ∈ Region.ready .any ops listed) (hp : planOk ops rest (listed.setIfInBounds i true) = true) (hdown : Down .any ops listed) (hW : ∀ j, listed.getD j true = false → W.lookup j = W0 j) (h : PW P ops Q B true ((i, false) :: rest) W a w) :
    wpOp P ops Q i (fun a' w' => BG B (W0 i) w w' ∧ wpAnyG P .any ops Q B W0 rest.length (listed.setIfInBounds i true) a' w') a w := by
  have hun : listed.getD i true = false := (mem_ready.1 hr).1
  refine wpOp_mono (fun a' w' hh => ⟨?_, wpAnyG_of_plan hs hQ W0 rest (W.filter (·.1 != i)) _ _ _ hp (hdown.list hr) (fun k hk => ?_) hh.2⟩) h
  · rw [← hW i hun]; exact hh.1 rfl
  · obtain ⟨hik, hk2⟩ := unlisted_after hk
    rw [lookup_filter_ne i k (Ne.symm hik)]
    exact hW k hk2
theorem wpAnyG_of_fork (hs : Region.noSelect ops = true) (hQ : ∀ (i : Nat) (o : Oper), ops[i]? = some o → ∀ c a v w, Q (.panic c) (a.put o.dst v) w → Q (.panic c) a w) {B : Nat} (W0 : Nat → Option (List Nat)) :
    ∀ (m : Nat) (q1 q2 : List (Nat × Bool)) (W : List (Nat × List Nat)) (listed : Array Bool) (a : Act) (w : World), planF ops m q1 q2 listed = true → q2.length = q1.length → Down .any ops listed →
      (∀ j, listed.getD j true = false → W.lookup j = W0 j) → PW P ops Q B true q1 W a w → PW P ops Q B true q2 W a w → wpAnyG P .any ops Q B W0 q1.length listed a w
  | 0, (i, false) :: r1, (j, false) :: r2, W, listed, a, w, hp, hl, hdown, hW, h1, h2 => by
    simp only [planF, Bool.and_eq_true, beq_iff_eq] at hp
    obtain ⟨⟨hr, hp1⟩, hp2⟩ := hp
    have hi : i ∈ Region.ready .any ops listed := by rw [hr]; simp
    have hj : j ∈ Region.ready .any ops listed := by rw [hr]; simp
    have hl2 : r2.length = r1.length := by simpa using hl
    refine ⟨fun h0 => absurd h0 (by rw [hr]; simp), fun k hk => ?_⟩
    rw [hr] at hk
    rcases List.mem_cons.1 hk with rfl | hk
    · exact step_write hs hQ W0 hi hp1 hdown hW h1
    · obtain rfl := List.mem_singleton.1 hk
      have := step_write hs hQ W0 hj hp2 hdown hW h2
      rw [hl2] at this
      exact this
  | m + 1, (i, true) :: r1, (j, true) :: r2, W, listed, a, w, hp, hl, hdown, hW, h1, h2 => by
    simp only [planF, Bool.and_eq_true] at hp
    obtain ⟨⟨⟨hij, hr⟩, hf⟩, hp'⟩ := hp
    obtain rfl := Nat.eq_of_beq_eq_true hij
    obtain ⟨o, v, us, ho, hy, hS, hd, hrest⟩ := h1
    obtain ⟨o', v', us', ho', hy', hS', _, hrest'⟩ := h2
    rw [ho] at ho'
    cases ho'
    obtain rfl := yields_det hy hy' hS hS'
    refine wpAnyG_first (us := us) ho (Region.noSelect_spec hs) (fun c a w => hQ _ _ ho c a v w) r1.length listed a w ?_ hdown (by simpa using hr) hy hS ?_
    · intro k ok hok hki hun hno
      refine ⟨Region.free_spec ho hf k ok hok hki hun hno, fun l hl => ?_⟩
      rw [← hW k hun] at hl
      exact hd rfl _ (mem_of_lookup hl)
    · exact wpAnyG_of_fork hs hQ W0 m r1 r2 W _ _ _ hp' (by simpa using hl) (hdown.list (by simpa using hr)) (fun k hk => hW k (unlisted_after hk).2) hrest hrest'
  | 0, [], _, _, _, _, _, hp, _, _, _, _, _ => by simp [planF] at hp
  | 0, (_, true) :: _, _, _, _, _, _, hp, _, _, _, _, _ => by simp [planF] at hp
  | 0, (_, false) :: _, [], _, _, _, _, hp, _, _, _, _, _ => by simp [planF] at hp
  | 0, (_, false) :: _, (_, true) :: _, _, _, _, _, hp, _, _, _, _, _ => by simp [planF] at hp
  | _ + 1, [], _, _, _, _, _, hp, _, _, _, _, _ => by simp [planF] at hp
  | _ + 1, (_, false) :: _, _, _, _, _, _, hp, _, _, _, _, _ => by simp [planF] at hp
  | _ + 1, (_, true) :: _, [], _, _, _, _, hp, _, _, _, _, _ => by simp [planF] at hp
  | _ + 1, (_, true) :: _, (_, false) :: _, _, _, _, _, hp, _, _, _, _, _ => by simp [planF] at hp
def forkOk (ops : Array Oper) (m : Nat) (q1 q2 : List (Nat × Bool)) : Bool :=
  Region.noSelect ops && Nat.beq q1.length ops.size && Nat.beq q2.length q1.length && planF ops m q1 q2 (Array.replicate ops.size false)
theorem wp_region_fork {id : Nat} {a : Act} {w : World} (hm : P.follows .mixedOrders = true) (hQ : ∀ (i : Nat) (o : Oper), ops[i]? = some o → ∀ c a v w, Q (.panic c) (a.put o.dst v) w → Q (.panic c) a w) (m : Nat) (q1 q2 : List (Nat × Bool)) (W : List (Nat × List Nat)) (hok : forkOk ops m q1 q2 = true) {B : Nat}
    (h1 : PW P ops Q B true q1 W a { w with drawn := w.drawn + 1 }) (h2 : PW P ops Q B true q2 W a { w with drawn := w.drawn + 1 }) : (Code.region id ops true).wp P Q a w := by
  simp only [forkOk, Bool.and_eq_true] at hok
  obtain ⟨⟨⟨hs, hl1⟩, hl2⟩, hp⟩ := hok
  have hlen := Nat.eq_of_beq_eq_true hl1
  refine wp_region_any hm (wpAny_of_G (B := B) (W := fun j => W.lookup j) _ _ _ _ ?_)
  rw [← hlen]
  rw [← hlen] at hp
  refine wpAnyG_of_fork hs hQ _ m q1 q2 W _ _ _ hp (Nat.eq_of_beq_eq_true hl2) (fun j o ho hl => ?_) (fun _ _ => rfl) h1 h2
  have hlt := (Array.getElem?_eq_some_iff.1 ho).1
  rw [hlen] at hl
  simp [hlt] at hl
end fork
section rule
variable {P : Program} {f : Func} {R : Act → World → Prop} {n : Nat} {k : List Itm} {E : Env} {h r : List (Nat × Obj)} {F : List (List Nat × World)} {Y : Ghost}
theorem J_fork (hm : P.follows .mixedOrders = true) {id : Nat} (m : Nat) (q1 q2 : List (Nat × Bool)) (Wp : List (Nat × List Nat)) (hok : forkOk (rgOf f id) m q1 q2 = true) (hWp : okWp h.length Wp = true)
    (H1 : JR P f R n (rgOf f id) h.length true q1 Wp k E h r F Y) (H2 : JR P f R n (rgOf f id) h.length true q2 Wp k E h r F Y) : J P f R n (.c (.rg id true) :: k) E h r F Y := fun a w ⟨fps, s⟩ => by
  have key : ∀ {q} (H : JR P f R n (rgOf f id) h.length true q Wp k E h r F Y) w, StF n E h r F Y a w fps → PW P (rgOf f id) (wpK P f R k) w.heap.size true q (idsW fps.flatten h Wp) a w := fun H w s =>
    H w.heap.size fps.flatten fps a w s (fun b hb => .inl hb) ⟨fun i _ x hx => ⟨s.own.own.lt (List.mem_of_getElem? hx), fun hm => s.gh.disj _ hm (List.mem_map.2 ⟨x, List.mem_of_getElem? hx, rfl⟩)⟩, fun x hx => ⟨s.own.ro.lt hx, s.gh.apart x hx⟩, Nat.le_refl _, Nat.le_refl _⟩
      (fun j hj x hx => by rw [List.getElem?_eq_none hj] at hx; cases hx) hWp
  simp only [wpK, Sk.code]
  exact wp_region_fork hm (fun i o ho c a v w hq => absurd hq (wpK_panic _ _ _ _)) m q1 q2 _ hok (key H1 _ s.drew) (key H2 _ s.drew)
end rule
end Go.Sx
