/- The engine of our walks, part 6 (with ghosts): regions, calls, the entry, the results. -/
import Derived.Test.YtahbmdchcbnolaaDoorTx5
namespace Go.Sx
open Go

/-- Elements picked by their positions. -/
def pick {α : Type} (l : List α) (ps : List Nat) : List α := ps.filterMap fun i => l[i]?
theorem pick_mem {α : Type} {l l' : List α} {ps : List Nat} (h : pick l ps = l') : ∀ y ∈ l', y ∈ l := fun y hy => by
  rw [← h] at hy
  obtain ⟨i, _, hi⟩ := List.mem_filterMap.1 hy
  exact List.mem_of_getElem? hi
theorem pick_nodup {α β : Type} {g : α → β} {l : List α} : ∀ {ps : List Nat} {l' : List α}, pick l ps = l' → ps.Nodup → (l.map g).Nodup → (l'.map g).Nodup
  | [], l', h, _, _ => by
    rw [← h]
    simp [pick]
  | i :: ps, l', h, hp, hn => by
    have hp2 := List.nodup_cons.1 hp
    have ih := pick_nodup (g := g) (l := l) (ps := ps) rfl hp2.2 hn
    rw [← h]
    unfold pick
    rw [List.filterMap_cons]
    split
    · exact ih
    · rename_i x hx
      rw [List.map_cons, List.nodup_cons]
      refine ⟨fun hm => ?_, ih⟩
      obtain ⟨y, hy, hxy⟩ := List.mem_map.1 hm
      obtain ⟨j, hj, hjy⟩ := List.mem_filterMap.1 hy
      have h1 : (l.map g)[i]? = some (g x) := by rw [List.getElem?_map, hx]; rfl
      have h2 : (l.map g)[j]? = some (g x) := by rw [List.getElem?_map, hjy, ← hxy]; rfl
      have hl : i < (l.map g).length := (List.getElem?_eq_some_iff.1 h1).1
      have := (List.getElem?_inj hl hn).1 (h1.trans h2.symm)
      subst this
      exact hp2.1 hj
theorem own_nil {r : List (Nat × Obj)} {w : World} (h : ∀ x ∈ r, w.heap[x.1]? = some x.2) : Own [] r w := ⟨by simp [Hp], by simp, h, by simp⟩
/-- May the plan be taken? -/
def pinOk (f : Func) (id : Nat) : Bool := (pins f).isEmpty || (rgOf f id).all fun o => pinFree f o.dst
theorem pinOk_spec {f : Func} {id : Nat} (h : pinOk f id = true) {i : Nat} {o : Oper} (ho : (rgOf f id)[i]? = some o) : pinFree f o.dst = true := by
  rcases Bool.or_eq_true_iff.1 h with h | h
  · unfold pinFree
    split
    · rw [List.isEmpty_iff.1 h]; rfl
    · rfl
  · obtain ⟨hi, rfl⟩ := Array.getElem?_eq_some_iff.1 ho
    exact Array.all_eq_true.1 h i hi
def regOk (f : Func) (id : Nat) (d : Bool) (plan : List (Nat × Bool)) : Bool :=
  if d then Region.noSelect (rgOf f id) && Nat.beq plan.length (rgOf f id).size && planOk (rgOf f id) plan (Array.replicate (rgOf f id).size false) && pinOk f id else plan.map (·.1) == List.range (rgOf f id).size

def runReg (P : Program) (n : Nat) (nu : Nat → Nat) (f : Func) (id L0 : Nat) (ck : Bool) (pl : List Pl) (Wp : List (Nat × List Nat)) (E : Env) (h r : List (Nat × Obj)) (keep : List Nat) : Option (Env × List (Nat × Obj) × List Ob × List (Nat × List Nat)) :=
  match run P n nu (rgOf f id) r L0 ck pl Wp E ⟨h, 0, []⟩ with
  | some (E', x', W', p) => some (keepE E' keep, x'.h, p, W')
  | none => none

section rules
variable {P : Program} {f : Func} [Pan f] {R : Act → World → Prop} {n : Nat} [Dfr n] {k : List Itm} {E E' : Env} {h h' r : List (Nat × Obj)} {F : List (List Nat × World)} {Y : Ghost}

theorem Rep.drew {w : World} {S : Nat → Prop} {x : Value} {d : D} (h : Rep w S x d) : Rep { w with drawn := w.drawn + 1 } S x d := h.mono fun _ hb _ => ⟨hb, rfl⟩
theorem StF.drew {a : Act} {w : World} {fps : List (List Nat)} (s : StF n E h r F Y a w fps) : StF n E h r F Y a { w with drawn := w.drawn + 1 } fps :=
  ⟨s.ag, ⟨s.own.own, s.own.nodup, s.own.ro, s.own.apart⟩, fun f hf => (s.fr f hf).drew, s.may,
    ⟨s.gh.chs.mono (fun _ _ => rfl) (fun _ hb _ => ⟨hb, rfl⟩), s.gh.nodup, s.gh.disj, s.gh.apart, s.gh.may, s.gh.lt, s.gh.own, s.gh.hid, s.gh.top, fun x hx => (s.gh.g x hx).drew⟩⟩

theorem JR_begin (hm : P.follows .mixedOrders = true) {id : Nat} {d : Bool} (plan : List (Nat × Bool)) (Wp : List (Nat × List Nat)) (hok : regOk f id d plan = true) (hWp : okWp h.length Wp = true)
    (H : JR P f R n (rgOf f id) h.length d plan Wp k E h r F Y) : J P f R n (.c (.rg id d) :: k) E h r F Y := fun a w ⟨fps, s⟩ => by
  have key : ∀ w, StF n E h r F Y a w fps → PW P (rgOf f id) (wpK P f R k) w.heap.size d plan (idsW fps.flatten h Wp) a w := fun w s =>
    H w.heap.size fps.flatten fps a w s (fun b hb => .inl hb) ⟨fun i _ x hx => ⟨s.own.own.lt (List.mem_of_getElem? hx), fun hm => s.gh.disj _ hm (List.mem_map.2 ⟨x, List.mem_of_getElem? hx, rfl⟩)⟩, fun x hx => ⟨s.own.ro.lt hx, s.gh.apart x hx⟩, Nat.le_refl _, Nat.le_refl _⟩
      (fun j hj x hx => by rw [List.getElem?_eq_none hj] at hx; cases hx) hWp
  simp only [wpK, Sk.code]
  cases d with
  | true =>
    simp only [regOk, if_true, Bool.and_eq_true] at hok
    obtain ⟨⟨⟨h1, h2⟩, h3⟩, h4⟩ := hok
    exact wp_region_plan hm h1 (fun i o ho c a v w hq => wpK_pput (pinOk_spec h4 ho) hq) plan _ (Nat.eq_of_beq_eq_true h2) h3 (key _ s.drew)
  | false =>
    simp only [regOk, Bool.false_eq_true, if_false, beq_iff_eq] at hok
    exact wp_region_line plan _ hok (key w s)

theorem JR_end {ops : Array Oper} {L0 : Nat} {ck : Bool} {Wp : List (Nat × List Nat)} (H : J P f R n k E h r F Y) : JR P f R n ops L0 ck [] Wp k E h r F Y := fun _ _ fps a w s _ _ _ _ => H a w ⟨fps, s⟩

def trivL (x : Option (Env × List (Nat × Obj) × List Ob × List (Nat × List Nat))) : List Nat × List Bool × List (Option Nat) := match x with
  | some y => obL y.2.2.1
  | none => ([], [], [])
def trivR (x : Option (Env × List (Nat × Obj) × List Ob × List (Nat × List Nat))) : List Nat × List Bool × List (Option Nat) := match x with
  | some y => obR y.2.2.1
  | none => ([], [], [])
def packed (x : Option (Env × List (Nat × Obj) × List Ob × List (Nat × List Nat))) : Option (Env × List (Nat × Obj) × List Prop × List (Nat × List Nat)) := match x with
  | some y => some (y.1, y.2.1, obP y.2.2.1, y.2.2.2)
  | none => none

/-- A stretch of a region, run over what is known. -/
theorem JR_run {id L0 : Nat} {ck : Bool} {Wp : List (Nat × List Nat)} {rest : List (Nat × Bool)} (pl : List Pl) (keep : List Nat) {E1 : (Nat → Nat) → Env} {h1 : (Nat → Nat) → List (Nat × Obj)} {p1 : (Nat → Nat) → List Prop} {W1 : List (Nat × List Nat)}
    (hr : ∀ nu, (packed (runReg P n nu f id L0 ck pl Wp E h r keep), trivL (runReg P n nu f id L0 ck pl Wp E h r keep)) = (some (E1 nu, h1 nu, p1 nu, W1), trivR (runReg P n nu f id L0 ck pl Wp E h r keep))) (hp : ∀ nu, AllP (p1 nu))
    (H : ∀ nu, JR P f R n (rgOf f id) L0 ck rest W1 k (E1 nu) (h1 nu) r F Y) : JR P f R n (rgOf f id) L0 ck (pl.map Pl.key ++ rest) Wp k E h r F Y := by
  intro B Hd fps a w s hH hR hN hW
  obtain ⟨h2, h3⟩ := Prod.mk.inj (hr (fun j => w.heap.size + j))
  unfold runReg at h2 h3
  split at h2
  · rename_i E' x' W' p hrun
    rw [hrun] at h3
    simp only [packed, Option.some.injEq, Prod.mk.injEq] at h2
    obtain ⟨e1, e2, e3, e4⟩ := h2
    refine run_PW pl Wp E ⟨h, 0, []⟩ E' x' W' p hrun (All_of p h3 (by rw [e3]; exact hp _)) hW a w s.ag s.own (fun j => by simp) hR hN fun a' w' hA hO _ hR' hN' hd hW' => ?_
    rw [e4] at hW' ⊢
    rw [e2] at hO hR' hN' hd ⊢
    exact H _ B Hd fps a' w' (s.go (hA.sub (by rw [← e1]; exact keepE_sub E' keep)) hO hd) hH hR' hN' hW'
  · cases h2

/-- A whole region, run over what is known. -/
theorem J_reg (hm : P.follows .mixedOrders = true) {id : Nat} {d : Bool} (pl : List Pl) (Wp : List (Nat × List Nat)) (keep : List Nat) {E1 : (Nat → Nat) → Env} {h1 : (Nat → Nat) → List (Nat × Obj)} {p1 : (Nat → Nat) → List Prop} {W1 : List (Nat × List Nat)}
    (hok : (regOk f id d (pl.map Pl.key) && okWp h.length Wp) = true)
    (hr : ∀ nu, (packed (runReg P n nu f id h.length d pl Wp E h r keep), trivL (runReg P n nu f id h.length d pl Wp E h r keep)) = (some (E1 nu, h1 nu, p1 nu, W1), trivR (runReg P n nu f id h.length d pl Wp E h r keep))) (hp : ∀ nu, AllP (p1 nu))
    (H : ∀ nu, J P f R n k (E1 nu) (h1 nu) r F Y) : J P f R n (.c (.rg id d) :: k) E h r F Y := by
  obtain ⟨ho1, ho2⟩ := (Bool.and_eq_true _ _ ▸ hok : _ ∧ _)
  refine JR_begin hm (pl.map Pl.key) Wp ho1 ho2 ?_
  have := JR_run (rest := []) pl keep hr hp fun nu => JR_end (H nu)
  rwa [List.append_nil] at this

/-- What a call's operation asks: the function, its arguments, where the answer goes. -/
def callOf (P : Program) (n : Nat) (ops : Array Oper) (h r : List (Nat × Obj)) (E : Env) (i : Nat) (hs : List Hn) : Option (FuncId × Array Value × Option Tmp × List Ob) :=
  match ops[i]? with
  | none => none
  | some o => if dstOk n o.dst && !isSel o.op then match (match o.guard with
      | none => some (none, [])
      | some (j, want) => (guardOf E ops j).map fun c => (some (c, want), [.bb c want])) with
    | none => none
    | some (cd, g) => match opsOk E cd o.op.operands.toList with
      | none => none
      | some q => match exr P h r (execOp (rho E) o) hs with
        | some (.enter fid args, p) => some (fid, args, o.dst, g ++ (q ++ p))
        | _ => none
    else none

theorem callOf_sound {ops : Array Oper} {i : Nat} {hs : List Hn} {fid : FuncId} {args : Array Value} {dst : Option Tmp} {p : List Ob} (he : callOf P n ops h r E i hs = some (fid, args, dst, p)) (hp : All p)
    {a : Act} {w : World} {fps : List (List Nat)} (s : StF n E h r F Y a w fps) {K : Act → World → Prop} {Q : Exit → Act → World → Prop}
    (C : Calls P fid args w fun e w' => ∃ v, e = .returned v ∧ ∀ E', E' = E.put dst (.val v) → ∀ a', Ag n E' a' → K a' w') : wpOp P ops Q i K a w := by
  unfold callOf at he
  split at he
  · cases he
  rename_i o ho
  split at he
  case isFalse => cases he
  rename_i hd
  simp only [Bool.and_eq_true, Bool.not_eq_true'] at hd
  split at he
  · cases he
  rename_i cd g hg
  split at he
  · cases he
  rename_i q hq
  split at he
  case h_2 => cases he
  rename_i fid' args' p' hx
  simp only [Option.some.injEq, Prod.mk.injEq] at he
  obtain ⟨rfl, rfl, rfl, rfl⟩ := he
  obtain ⟨hg1, hp⟩ := All_append hp
  obtain ⟨hq1, hp1⟩ := All_append hp
  have hwant : Region.wanted o (yielded ops a.tmps) = true ∧ ∀ c wn, cd = some (c, wn) → c = wn := by
    cases hgd : o.guard with
    | none =>
      rw [hgd] at hg
      simp only [Option.some.injEq, Prod.mk.injEq] at hg
      refine ⟨by simp [Region.wanted, hgd], fun c wn h => ?_⟩
      rw [← hg.1] at h
      cases h
    | some y =>
      obtain ⟨j, want⟩ := y
      rw [hgd] at hg
      obtain ⟨c, hc, hcg⟩ := Option.map_eq_some_iff.1 hg
      simp only [Prod.mk.injEq] at hcg
      obtain ⟨rfl, rfl⟩ := hcg
      have hy := guardOf_sound s.ag hc
      have hcw : c = want := hg1.1
      refine ⟨by simp [Region.wanted, hgd, hy, hcw], fun c' wn h => ?_⟩
      injection h with h
      injection h with h1 h2
      rw [← h1, ← h2]
      exact hcw
  unfold wpOp
  simp only [ho]
  rw [if_pos hwant.1]
  refine .inl ?_
  unfold Oper.wp
  have hcongr : execOp a.eval o = execOp (rho E) o := execOp_congr o (fun cs b hc => by have := hd.2; rw [hc] at this; cases this) (fun x hx => opsOk_sound s.ag hwant.2 _ _ hq hq1 x (by simpa using hx))
  rw [hcongr, exr_sound _ hs _ _ hx hp1 w fun y hy => by
    obtain ⟨hn, _, hg⟩ := List.mem_filterMap.1 hy
    exact s.own.get hg]
  rw [Oper.upon_enter]
  refine C.mono fun e w' hh => ?_
  obtain ⟨v, rfl, hk⟩ := hh
  exact hk _ rfl _ (s.ag.put hd.1 (.val v))

def chkC (x : Option (FuncId × Array Value × Option Tmp × List Ob)) : Option (FuncId × Array Value × Option Tmp) × (List Nat × List Bool × List (Option Nat)) × Nat := match x with
  | some y => (some (y.1, y.2.1, y.2.2.1), obL y.2.2.2, (obP y.2.2.2).length)
  | none => (none, ([], [], []), 0)
def trivC (x : Option (FuncId × Array Value × Option Tmp × List Ob)) : List Nat × List Bool × List (Option Nat) := match x with
  | some y => obR y.2.2.2
  | none => ([], [], [])
theorem chkC_sound {x : Option (FuncId × Array Value × Option Tmp × List Ob)} {fid : FuncId} {args : Array Value} {dst : Option Tmp} (h : chkC x = (some (fid, args, dst), trivC x, 0)) : ∃ p, x = some (fid, args, dst, p) ∧ All p := by
  cases x with
  | none => simp [chkC] at h
  | some y =>
    obtain ⟨a, b, c, p⟩ := y
    simp only [chkC, trivC, Prod.mk.injEq, Option.some.injEq] at h
    obtain ⟨⟨rfl, rfl, rfl⟩, h2, h3⟩ := h
    refine ⟨p, rfl, All_of p h2 ?_⟩
    rw [List.eq_nil_of_length_eq_zero h3]
    trivial


/-! Calls: what goes in, what comes out. -/
def newS (S : Nat → Prop) (M : List Nat) (w : World) : Nat → Prop := fun b => S b ∨ b ∈ M ∨ w.heap.size ≤ b
def retS (S : Nat → Prop) (M : List Nat) (w : World) (fps : List (List Nat)) : Nat → Prop := fun b => newS S M w b ∧ b ∉ fps.flatten
def Pre (w : World) (S : Nat → Prop) (M : List Nat) (C : List Chunk) : Prop :=
  ∃ fps, Chs w S C fps ∧ M = fps.flatten ∧ M.Nodup ∧ ∀ b ∈ M, b < w.heap.size ∧ ¬ S b
theorem Pre.none (w : World) (S : Nat → Prop) : Pre w S [] [] := ⟨[], trivial, rfl, by simp, by simp⟩
def AllG (w : World) (S : Nat → Prop) (G : List (Value × D)) : Prop := ∀ x ∈ G, Rep w S x.1 x.2
theorem AllG.at {w : World} {S : Nat → Prop} {G : List (Value × D)} (h : AllG w S G) (p : Nat) {v : Value} {d : D} (hp : G[p]? = some (v, d)) : Rep w S v d := h _ (List.mem_of_getElem? hp)
theorem AllG.nil (w : World) (S : Nat → Prop) : AllG w S [] := fun _ h => by cases h
theorem AllG.cons {w : World} {S : Nat → Prop} {G : List (Value × D)} {v : Value} {d : D} (h : Rep w S v d) (hG : AllG w S G) : AllG w S ((v, d) :: G) := fun x hx => by
  rcases List.mem_cons.1 hx with rfl | hx
  · exact h
  · exact hG x hx
structure Ret (M : List Nat) (w : World) (S : Nat → Prop) (w' : World) (e : Ending) (v : Value) (C : List Chunk) (G : List (Value × D)) : Prop where
  ret : e = .returned v
  fr : Fr M w w'
  gh : ∃ fps, Chs w' (retS S M w fps) C fps ∧ fps.flatten.Nodup ∧ (∀ b ∈ fps.flatten, (b ∈ M ∨ w.heap.size ≤ b) ∧ b < w'.heap.size) ∧ ∀ x ∈ G, Rep w' (retS S M w fps) x.1 x.2

/-- The other positions. -/
def others (n : Nat) (cs : List Nat) : List Nat := (List.range n).filter fun i => !cs.contains i
/-- What is left. -/
def restC (C : List Chunk) (cs : List Nat) : List Chunk := pick C (others C.length cs)
theorem pick_cons {α : Type} (l : List α) (i : Nat) (ps : List Nat) : pick l (i :: ps) = (l[i]?).toList ++ pick l ps := by
  unfold pick
  rw [List.filterMap_cons]
  cases l[i]? <;> rfl
theorem pick_app {α : Type} (l : List α) (ps qs : List Nat) : pick l (ps ++ qs) = pick l ps ++ pick l qs := by simp [pick]
theorem Chs.pick {w : World} {S : Nat → Prop} {cs : List Chunk} {fps : List (List Nat)} (h : Chs w S cs fps) : ∀ ps : List Nat, Chs w S (pick cs ps) (pick fps ps)
  | [] => trivial
  | i :: ps => by
    have ih := Chs.pick h ps
    rw [pick_cons, pick_cons]
    cases hc : cs[i]? with
    | none =>
      have : fps[i]? = none := by
        rw [List.getElem?_eq_none_iff] at hc ⊢
        rw [← h.len]; exact hc
      rw [this]
      exact ih
    | some c =>
      obtain ⟨fp, h1, h2⟩ := h.at hc
      rw [h1]
      exact ⟨h2, ih⟩
theorem flat_at {fps : List (List Nat)} (h : fps.flatten.Nodup) : ∀ {i j : Nat} {x y : List Nat} {b : Nat}, fps[i]? = some x → fps[j]? = some y → b ∈ x → b ∈ y → i = j := by
  induction fps with
  | nil => intro i j x y b hi; simp at hi
  | cons fp fps ih =>
    rw [List.flatten_cons, List.nodup_append] at h
    obtain ⟨h1, h2, h3⟩ := h
    intro i j x y b hi hj hx hy
    have hin : ∀ {k : Nat} {z : List Nat}, fps[k]? = some z → b ∈ z → b ∈ fps.flatten := fun hk hz => List.mem_flatten.2 ⟨_, List.mem_of_getElem? hk, hz⟩
    cases i with
    | zero =>
      cases j with
      | zero => rfl
      | succ j =>
        simp only [List.getElem?_cons_zero, Option.some.injEq, List.getElem?_cons_succ] at hi hj
        subst hi
        exact absurd rfl (h3 b hx b (hin hj hy))
    | succ i =>
      cases j with
      | zero =>
        simp only [List.getElem?_cons_zero, Option.some.injEq, List.getElem?_cons_succ] at hi hj
        subst hj
        exact absurd rfl (h3 b hy b (hin hi hx))
      | succ j =>
        simp only [List.getElem?_cons_succ] at hi hj
        rw [ih h2 hi hj hx hy]
theorem mem_pick_flat {fps : List (List Nat)} {ps : List Nat} {b : Nat} (h : b ∈ (pick fps ps).flatten) : ∃ i ∈ ps, ∃ x, fps[i]? = some x ∧ b ∈ x := by
  obtain ⟨x, hx, hb⟩ := List.mem_flatten.1 h
  obtain ⟨i, hi, he⟩ := List.mem_filterMap.1 hx
  exact ⟨i, hi, x, he, hb⟩
theorem pick_flat_sub {fps : List (List Nat)} {ps : List Nat} {b : Nat} (h : b ∈ (pick fps ps).flatten) : b ∈ fps.flatten := by
  obtain ⟨i, _, x, hx, hb⟩ := mem_pick_flat h
  exact List.mem_flatten.2 ⟨x, List.mem_of_getElem? hx, hb⟩
theorem pick_flat_nodup {fps : List (List Nat)} (h : fps.flatten.Nodup) : ∀ {ps : List Nat}, ps.Nodup → (pick fps ps).flatten.Nodup
  | [], _ => by simp [pick]
  | i :: ps, hp => by
    have hp := List.nodup_cons.1 hp
    rw [pick_cons, List.flatten_append, List.nodup_append]
    refine ⟨?_, pick_flat_nodup h hp.2, fun b hb c hc hbc => ?_⟩
    · cases hi : fps[i]? with
      | none => simp
      | some x =>
        have hx := List.mem_of_getElem? hi
        obtain ⟨l1, l2, rfl⟩ := List.append_of_mem hx
        rw [List.flatten_append, List.flatten_cons] at h
        have := (List.nodup_append.1 (List.nodup_append.1 h).2.1).1
        simpa using this
    · subst hbc
      cases hi : fps[i]? with
      | none => rw [hi] at hb; simp at hb
      | some x =>
        rw [hi] at hb
        simp at hb
        obtain ⟨j, hj, y, hy, hby⟩ := mem_pick_flat hc
        have := flat_at h hi hy hb hby
        subst this
        exact hp.1 hj
theorem others_not {n : Nat} [Dfr n] {cs : List Nat} {i : Nat} (h : i ∈ others n cs) : i ∉ cs := by
  unfold others at h
  have := (List.mem_filter.1 h).2
  simpa using this
theorem others_nodup (n : Nat) (cs : List Nat) : (others n cs).Nodup := List.nodup_range.filter _

theorem retS_all {Y : Ghost} {h r : List (Nat × Obj)} {F : List (List Nat × World)} {w w' : World} {fps fps' : List (List Nat)} {cs : List Nat} (H : GhF Y h r F w fps) (hO : Own h r w)
    (_ : ∀ b ∈ fps'.flatten, (b ∈ (pick fps cs).flatten ∨ w.heap.size ≤ b) ∧ b < w'.heap.size) : ∀ b, retS (Sd Y h fps) (pick fps cs).flatten w fps' b → Sd Y h (pick fps (others fps.length cs) ++ fps') b := by
  intro b hb
  have hh : b ∉ h.map (·.1) ∧ b ∉ (pick fps (others fps.length cs)).flatten ∧ Y.S b := by
    rcases hb.1 with h1 | h1 | h1
    · exact ⟨h1.2.1, fun hm => h1.2.2 (pick_flat_sub hm), h1.1⟩
    · refine ⟨H.disj b (pick_flat_sub h1), fun hm => ?_, H.hid b (pick_flat_sub h1)⟩
      obtain ⟨i, hi, x, hx, hbx⟩ := mem_pick_flat h1
      obtain ⟨j, hj, y, hy, hby⟩ := mem_pick_flat hm
      have := flat_at H.nodup hx hy hbx hby
      subst this
      exact others_not hj hi
    · refine ⟨fun hm => ?_, fun hm => ?_, H.top b h1⟩
      · obtain ⟨x, hx, rfl⟩ := List.mem_map.1 hm
        have := hO.own.lt hx
        omega
      · have := H.lt b (pick_flat_sub hm)
        omega
  refine ⟨hh.2.2, hh.1, fun hm => ?_⟩
  rw [List.flatten_append] at hm
  rcases List.mem_append.1 hm with hm | hm
  · exact hh.2.1 hm
  · exact hb.2 hm


theorem Pre.of {a : Act} {w : World} {fps : List (List Nat)} (s : StF n E h r F Y a w fps) {cs : List Nat} (hcs : cs.Nodup) : Pre w (Sd Y h fps) (pick fps cs).flatten (pick Y.C cs) :=
  ⟨pick fps cs, s.gh.chs.pick cs, rfl, pick_flat_nodup s.gh.nodup hcs, fun b hb => ⟨s.gh.lt b (pick_flat_sub hb), fun hS => hS.2.2 (pick_flat_sub hb)⟩⟩

/-- Behind a call that took the chunks at the places cs. -/
theorem StF.called {a a' : Act} {w w' : World} {fps : List (List Nat)} {cs : List Nat} {e : Ending} {v : Value} {C' : List Chunk} {G' : List (Value × D)} (s : StF n E h r F Y a w fps)
    (hA : Ag n E' a') (hR : Ret (pick fps cs).flatten w (Sd Y h fps) w' e v C' G') :
    ∃ fps', (∀ b ∈ fps'.flatten, b ∈ (pick fps cs).flatten ∨ w.heap.size ≤ b) ∧ StF n E' h r F ⟨Y.S, pick Y.C (others Y.C.length cs) ++ C', Y.G ++ G'⟩ a' w' (pick fps (others fps.length cs) ++ fps') := by
  obtain ⟨_, hf, fps', hC, hn, h3, hG⟩ := hR
  have H := s.gh
  have hS := retS_all (cs := cs) (fps' := fps') (w' := w') H s.own h3
  have hnew : ∀ b, b ∈ fps'.flatten → b < w.heap.size → b ∈ (pick fps cs).flatten := fun b hb hlt => by
    rcases (h3 b hb).1 with h | h
    · exact h
    · omega
  have hM : ∀ b, b ∉ fps.flatten → b ∉ (pick fps cs).flatten := fun b hb hm => hb (pick_flat_sub hm)
  have hOld : ∀ b, Sd Y h fps b → b < w.heap.size → Sd Y h (pick fps (others fps.length cs) ++ fps') b ∧ w'.heap[b]? = w.heap[b]? := fun b hb hlt =>
    ⟨hS b ⟨.inl hb, fun hm => hb.2.2 (pick_flat_sub (hnew b hm hlt))⟩, hf.block b hlt (hM b hb.2.2)⟩
  have hrest : ∀ b ∈ (pick fps (others fps.length cs)).flatten, b ∉ (pick fps cs).flatten := fun b hb hm => by
    obtain ⟨i, hi, x, hx, hbx⟩ := mem_pick_flat hm
    obtain ⟨j, hj, y, hy, hby⟩ := mem_pick_flat hb
    have := flat_at H.nodup hx hy hbx hby
    subst this
    exact others_not hj hi
  have hall : ∀ b ∈ (pick fps (others fps.length cs) ++ fps').flatten, b ∈ fps.flatten ∨ w.heap.size ≤ b := fun b hb => by
    rw [List.flatten_append] at hb
    rcases List.mem_append.1 hb with hb | hb
    · exact .inl (pick_flat_sub hb)
    · exact (h3 b hb).1.imp pick_flat_sub id
  refine ⟨fps', fun b hb => (h3 b hb).1, hA, ⟨fun x hx => ?_, s.own.nodup, fun x hx => ?_, s.own.apart⟩, fun f hf' => ?_, s.may, ?_⟩
  · refine (hf.block _ (s.own.own.lt hx) fun hm => ?_).trans (s.own.own x hx)
    exact H.disj _ (pick_flat_sub hm) (List.mem_map.2 ⟨x, hx, rfl⟩)
  · exact (hf.block _ (s.own.ro.lt hx) fun hm => H.apart x hx (pick_flat_sub hm)).trans (s.own.ro x hx)
  · refine (s.fr f hf').trans (K := f.1) hf (fun x hx => hx) fun x hx => ?_
    rcases H.may f hf' x (pick_flat_sub hx) with h1 | h1
    · exact .inl h1
    · exact .inr h1
  · refine ⟨?_, ?_, fun b hb hm => ?_, fun x hx hm => ?_, fun f hf' b hb => ?_, fun b hb => ?_, H.own, fun b hb => ?_, fun b hb => H.top b (Nat.le_trans hf.size hb), fun x hx => ?_⟩
    · refine Chs.app ?_ ?_
      · have hl : Y.C.length = fps.length := H.chs.len
        rw [hl]
        exact (H.chs.pick _).mono (fun b hb => hf.block b (H.lt b (pick_flat_sub hb)) (hrest b hb)) hOld
      · exact hC.mono (fun _ _ => rfl) fun b hb _ => ⟨hS b hb, rfl⟩
    · rw [List.flatten_append, List.nodup_append]
      refine ⟨pick_flat_nodup H.nodup (others_nodup _ _), hn, fun x hx y hy hxy => ?_⟩
      subst hxy
      exact hrest x hx (hnew x hy (H.lt x (pick_flat_sub hx)))
    · rcases hall b hb with h1 | h1
      · exact H.disj b h1 hm
      · obtain ⟨x, hx, rfl⟩ := List.mem_map.1 hm
        have := s.own.own.lt hx
        omega
    · rcases hall _ hm with h1 | h1
      · exact H.apart x hx h1
      · have := s.own.ro.lt hx
        omega
    · rcases hall b hb with h1 | h1
      · exact H.may f hf' b h1
      · exact .inr (Nat.le_trans (s.fr f hf').size h1)
    · rw [List.flatten_append] at hb
      rcases List.mem_append.1 hb with hb | hb
      · exact Nat.lt_of_lt_of_le (H.lt b (pick_flat_sub hb)) hf.size
      · exact (h3 b hb).2
    · rcases hall b hb with h1 | h1
      · exact H.hid b h1
      · exact H.top b h1
    · rcases List.mem_append.1 hx with hx | hx
      · exact (H.g x hx).mono hOld
      · exact (hG x hx).mono fun b hb _ => ⟨hS b hb, rfl⟩

/-- A call. cs: the places of the chunks that go in. -/
theorem JR_call0 {id L0 i : Nat} {ck : Bool} {Wp : List (Nat × List Nat)} {rest : List (Nat × Bool)} (hs : List Hn) (cs : List Nat) (fid : FuncId) (args : Array Value) (dst : Option Tmp)
    (he : chkC (callOf P n (rgOf f id) h r E i hs) = (some (fid, args, dst), trivC (callOf P n (rgOf f id) h r E i hs), 0)) (hok : (!ck || (Wp.lookup i).isSome || cs.isEmpty) = true) (hcs : cs.Nodup)
    (C : ∀ w S M, Pre w S M (pick Y.C cs) → AllG w S Y.G → (cs = [] → M = []) → Calls P fid args w fun e w' => ∃ v C' G', Ret M w S w' e v C' G' ∧
      JR P f R n (rgOf f id) L0 ck rest (Wp.filter (·.1 != i)) k (E.put dst (.val v)) h r F ⟨Y.S, restC Y.C cs ++ C', Y.G ++ G'⟩) :
    JR P f R n (rgOf f id) L0 ck ((i, false) :: rest) Wp k E h r F Y := by
  obtain ⟨p, he, hp⟩ := chkC_sound he
  intro B Hd fps a w s hH hR hN hW
  simp only [PW]
  refine callOf_sound he hp s ((C w (Sd Y h fps) (pick fps cs).flatten (Pre.of s hcs) s.gh.g (fun h => by rw [h]; simp [pick])).mono fun e w' hh => ?_)
  obtain ⟨v, C', G', hRet, H⟩ := hh
  have hf := hRet.fr
  refine ⟨v, hRet.ret, fun E' hE a' hA => ⟨fun hck b hb hl => ?_, ?_⟩⟩
  · refine hf.block b hb fun hm => ?_
    have hm2 := pick_flat_sub hm
    cases hWl : Wp.lookup i with
    | none =>
      rw [hWl, hck] at hok
      simp at hok
      subst hok
      simp [pick] at hm
    | some ps =>
      rw [lookup_idsW, hWl] at hl
      obtain ⟨h1, h2⟩ := hl _ rfl
      rcases hH b hm2 with h3 | h3
      · exact h2 (List.mem_append_right _ h3)
      · omega
  · subst hE
    rw [filter_idsW]
    obtain ⟨fps', h3, s'⟩ := s.called (cs := cs) hA hRet
    refine H B Hd _ a' w' s' (fun b hb => ?_) ⟨hR.old, hR.ro, hR.len, Nat.le_trans hR.size hf.size⟩ hN (okWp_filter hW)
    rw [List.flatten_append] at hb
    rcases List.mem_append.1 hb with hb | hb
    · exact hH b (pick_flat_sub hb)
    · rcases h3 b hb with h1 | h1
      · exact hH b (pick_flat_sub h1)
      · exact .inr (Nat.le_trans hR.size h1)
theorem JR_call {S0 : Nat → Prop} {C0 : List Chunk} {G0 : List (Value × D)} {id L0 i : Nat} {ck : Bool} {Wp : List (Nat × List Nat)} {rest : List (Nat × Bool)} (hs : List Hn) (cs : List Nat) (fid : FuncId) (args : Array Value) (dst : Option Tmp)
    (he : chkC (callOf P n (rgOf f id) h r E i hs) = (some (fid, args, dst), trivC (callOf P n (rgOf f id) h r E i hs), 0)) (hok : (!ck || (Wp.lookup i).isSome || cs.isEmpty) = true) (hcs : cs.Nodup)
    (C : ∀ w S M, Pre w S M (pick C0 cs) → AllG w S G0 → (cs = [] → M = []) → Calls P fid args w fun e w' => ∃ v C' G', Ret M w S w' e v C' G' ∧
      JR P f R n (rgOf f id) L0 ck rest (Wp.filter (·.1 != i)) k (E.put dst (.val v)) h r F ⟨S0, restC C0 cs ++ C', G0 ++ G'⟩) :
    JR P f R n (rgOf f id) L0 ck ((i, false) :: rest) Wp k E h r F ⟨S0, C0, G0⟩ := JR_call0 (Y := ⟨S0, C0, G0⟩) hs cs fid args dst he hok hcs C
theorem pick_all {α : Type} : ∀ l : List α, pick l (List.range l.length) = l
  | [] => rfl
  | x :: l => by
    have ih := pick_all l
    rw [List.length_cons, List.range_succ_eq_map, pick_cons]
    unfold pick at ih ⊢
    rw [List.filterMap_map]
    have h2 : ((fun i => (x :: l)[i]?) ∘ Nat.succ) = fun i => l[i]? := by
      funext i
      simp
    rw [h2, ih]
    simp

/-- A call that takes no chunk. -/
theorem JR_callp0 {id L0 i : Nat} {ck : Bool} {Wp : List (Nat × List Nat)} {rest : List (Nat × Bool)} (hs : List Hn) (fid : FuncId) (args : Array Value) (dst : Option Tmp)
    (he : chkC (callOf P n (rgOf f id) h r E i hs) = (some (fid, args, dst), trivC (callOf P n (rgOf f id) h r E i hs), 0))
    (C : ∀ w S, AllG w S Y.G → Calls P fid args w fun e w' => ∃ v C' G', Ret [] w S w' e v C' G' ∧
      JR P f R n (rgOf f id) L0 ck rest (Wp.filter (·.1 != i)) k (E.put dst (.val v)) h r F ⟨Y.S, Y.C ++ C', Y.G ++ G'⟩) :
    JR P f R n (rgOf f id) L0 ck ((i, false) :: rest) Wp k E h r F Y := by
  refine JR_call hs [] fid args dst he (by simp) (by simp) fun w S M _ hG hM => ?_
  obtain rfl := hM rfl
  refine (C w S hG).mono fun e w' ⟨v, C', G', hR, H⟩ => ⟨v, C', G', hR, ?_⟩
  have : pick Y.C (others Y.C.length []) = Y.C := by
    have h1 : others Y.C.length [] = List.range Y.C.length := by simp [others]
    rw [h1, pick_all]
  unfold restC
  rw [this]
  exact H

theorem JR_callp {S0 : Nat → Prop} {C0 : List Chunk} {G0 : List (Value × D)} {id L0 i : Nat} {ck : Bool} {Wp : List (Nat × List Nat)} {rest : List (Nat × Bool)} (hs : List Hn) (fid : FuncId) (args : Array Value) (dst : Option Tmp)
    (he : chkC (callOf P n (rgOf f id) h r E i hs) = (some (fid, args, dst), trivC (callOf P n (rgOf f id) h r E i hs), 0))
    (C : ∀ w S, AllG w S G0 → Calls P fid args w fun e w' => ∃ v C' G', Ret [] w S w' e v C' G' ∧
      JR P f R n (rgOf f id) L0 ck rest (Wp.filter (·.1 != i)) k (E.put dst (.val v)) h r F ⟨S0, C0 ++ C', G0 ++ G'⟩) :
    JR P f R n (rgOf f id) L0 ck ((i, false) :: rest) Wp k E h r F ⟨S0, C0, G0⟩ := JR_callp0 (Y := ⟨S0, C0, G0⟩) hs fid args dst he C
/-! The entry. -/
def envOf : Nat → List Value → Env
  | _, [] => []
  | i, v :: vs => (i, .val v) :: envOf (i + 1) vs
theorem envOf_look : ∀ (vs : List Value) (i t : Nat) (ev : EV), (envOf i vs).lookup t = some ev → ∃ j v, t = i + j ∧ vs[j]? = some v ∧ ev = .val v
  | [], i, t, ev, h => by simp [envOf] at h
  | v :: vs, i, t, ev, h => by
    simp only [envOf] at h
    by_cases ht : t = i
    · subst ht
      rw [lookup_cons_self] at h
      exact ⟨0, v, rfl, rfl, (Option.some.inj h).symm⟩
    · rw [lookup_cons_ne _ _ ht] at h
      obtain ⟨j, u, h1, h2, h3⟩ := envOf_look vs (i + 1) t ev h
      exact ⟨j + 1, u, by omega, by simpa using h2, h3⟩

/-- What the call's end is to show. -/
def retR (P : Program) (fn : Func) (Rr : Ending → World → Prop) (a : Act) (w : World) : Prop := a.defers = [] ∧ ∃ v, (results fn a.tmps).run P w = .ok v w ∧ Rr (.returned v) w


theorem calls_JX {n : Nat} {fid : FuncId} {fn : Func} {sk : Sk} {args : List Value} {w : World} {S : Nat → Prop} {M : List Nat} {C : List Chunk} {G : List (Value × D)} {Rr : Ending → World → Prop} (hf : P.funcs[fid]? = some fn) (hb : fn.body = some (sk.code fn)) (hn : fn.ntmps = n) (hle : Nat.ble args.length n = true)
    (hpre : Pre w S M C) (hG : AllG w S G) (pn : Pan fn) (hpn : ∀ c a w, pn.pan c a w → a.defers = [] ∧ Rr (.panicked c) w) (H : J P fn (retR P fn Rr) n [.c sk] (envOf 0 args) [] [] [(M, w)] ⟨newS S M w, C, G⟩) : Calls P fid args.toArray w Rr := by
  subst hn
  have hle := Nat.le_of_ble_eq_true hle
  obtain ⟨fps, hC, rfl, hnd, hM⟩ := hpre
  have hS : ∀ b, S b → Sd ⟨newS S fps.flatten w, C, G⟩ [] fps b := fun b hb => ⟨.inl hb, by simp, fun hm => (hM b hm).2 hb⟩
  refine calls_of_wp hf hb ?_
  have hA : Ag fn.ntmps (envOf 0 args) { tmps := args.toArray ++ Array.replicate (fn.ntmps - args.toArray.size) undef, defers := [] } := by
    refine ⟨rfl, by simp; omega, fun t ev he => ?_⟩
    obtain ⟨j, v, h1, h2, h3⟩ := envOf_look args 0 t ev he
    obtain rfl : t = j := by omega
    subst h3
    have hj : t < args.length := (List.getElem?_eq_some_iff.1 h2).1
    simp [Array.getElem?_append, hj, EV.now]
    simpa [List.getElem?_eq_getElem hj] using h2
  have := H _ w ⟨fps, hA, own_nil (by simp), by simp [Fr.refl], by simp, ⟨hC.mono (fun _ _ => rfl) fun b hb _ => ⟨hS b hb, rfl⟩, hnd, by simp, by simp, by simp only [List.mem_singleton]; rintro f rfl b hb; exact .inl hb, fun b hb => (hM b hb).1, by simp, fun b hb => .inr (.inl hb), fun b hb => .inr (.inr hb), fun x hx => (hG x hx).mono fun b hb _ => ⟨hS b hb, rfl⟩⟩⟩
  simp only [wpK] at this
  refine wp_mono this fun e a w' hq => ?_
  cases e with
  | normal => exact hq
  | ret => exact hq
  | exit id => exact absurd hq (by simp [wpK])
  | goto l => exact absurd hq (by simp [wpK])
  | panic c => exact hpn c a w' hq
  | outgrown => exact absurd hq (by simp [wpK])

theorem calls_J {n : Nat} {fid : FuncId} {fn : Func} {sk : Sk} {args : List Value} {w : World} {S : Nat → Prop} {M : List Nat} {C : List Chunk} {G : List (Value × D)} {Rr : Ending → World → Prop} (hf : P.funcs[fid]? = some fn) (hb : fn.body = some (sk.code fn)) (hn : fn.ntmps = n) (hle : Nat.ble args.length n = true)
    (hpre : Pre w S M C) (hG : AllG w S G) (H : J P fn (retR P fn Rr) n [.c sk] (envOf 0 args) [] [] [(M, w)] ⟨newS S M w, C, G⟩) : Calls P fid args.toArray w Rr :=
  calls_JX hf hb hn hle hpre hG inferInstance (fun _ _ _ h => (show False from h).elim) H
/-- A call that may end in a panic. -/
theorem calls_JP {n : Nat} {fid : FuncId} {fn : Func} {sk : Sk} {args : List Value} {w : World} {S : Nat → Prop} {M : List Nat} {C : List Chunk} {G : List (Value × D)} {Rr : Ending → World → Prop} (hf : P.funcs[fid]? = some fn) (hb : fn.body = some (sk.code fn)) (hn : fn.ntmps = n) (hle : Nat.ble args.length n = true)
    (hpre : Pre w S M C) (hG : AllG w S G) (H : ∀ pn : Pan fn, (∀ c a w, a.defers = [] → Rr (.panicked c) w → pn.pan c a w) → J P fn (retR P fn Rr) n [.c sk] (envOf 0 args) [] [] [(M, w)] ⟨newS S M w, C, G⟩) : Calls P fid args.toArray w Rr :=
  calls_JX hf hb hn hle hpre hG ⟨fun c a w => a.defers = [] ∧ Rr (.panicked c) w, fun c a d v w _ h => ⟨by cases d <;> exact h.1, h.2⟩⟩ (fun _ _ _ h => h) (H ⟨fun c a w => a.defers = [] ∧ Rr (.panicked c) w, fun c a d v w _ h => ⟨by cases d <;> exact h.1, h.2⟩⟩ fun c a w h1 h2 => ⟨h1, h2⟩)

/-- What goes back to the caller: the chunks at the places cs, the facts at the places gs. -/
theorem St.ret {F : List (List Nat × World)} {C C' : List Chunk} {G G' : List (Value × D)} {S : Nat → Prop} {M : List Nat} {w0 : World} {a : Act} {w : World} {v : Value} (s : St n E h r F ⟨newS S M w0, C, G⟩ a w) (hF : (M, w0) ∈ F) (cs gs : List Nat)
    (hC : pick C cs = C') (hG : pick G gs = G') (hcs : cs.Nodup := by decide) : Ret M w0 S w (.returned v) v C' G' := by
  obtain ⟨fps, s⟩ := s
  subst hC hG
  have hS : ∀ b, Sd ⟨newS S M w0, C, G⟩ h fps b → retS S M w0 (pick fps cs) b := fun b hb => ⟨hb.1, fun hm => hb.2.2 (pick_flat_sub hm)⟩
  refine ⟨rfl, s.fr _ hF, pick fps cs, (s.gh.chs.pick cs).mono (fun _ _ => rfl) fun b hb _ => ⟨hS b hb, rfl⟩, pick_flat_nodup s.gh.nodup hcs, fun b hb => ⟨?_, s.gh.lt b (pick_flat_sub hb)⟩, fun x hx => ?_⟩
  · exact s.gh.may _ hF b (pick_flat_sub hb)
  · exact (s.gh.g x (pick_mem rfl x hx)).mono fun b hb _ => ⟨hS b hb, rfl⟩
/-! The results. -/
def rvS (E : Env) : ResultVar → Sem Value
  | .tmp t => pure (rho E (.tmp t))
  | .cell a t => do loadVar t (← asAddr (rho E (.tmp a)))
def rvOk (E : Env) : ResultVar → Bool
  | .tmp t => match E.lookup t with
    | some (.val _) => true
    | _ => false
  | .cell t _ => match E.lookup t with
    | some (.val _) => true
    | _ => false
def retL (P : Program) (E : Env) (h r : List (Nat × Obj)) : List ResultVar → List (List Hn) → Option (List Value × List Ob)
  | [], _ => some ([], [])
  | rv :: rvs, hs :: hss => if rvOk E rv then match exr P h r (rvS E rv) hs with
    | some (v, p) => match retL P E h r rvs hss with
      | some (vs, q) => some (v :: vs, p ++ q)
      | none => none
    | none => none
    else none
  | _ :: _, [] => none
def retV (P : Program) (fn : Func) (E : Env) (h r : List (Nat × Obj)) (hss : List (List Hn)) : Option (Value × List Ob) :=
  match retL P E h r fn.results.toList hss with
  | some ([v], p) => some (v, p)
  | some (vs, p) => some (.tuple vs.toArray, p)
  | none => none

theorem retL_sound {a : Act} {w : World} (s : St n E h r F Y a w) : ∀ (rvs : List ResultVar) (hss : List (List Hn)) (vs : List Value) (p : List Ob), retL P E h r rvs hss = some (vs, p) → All p →
    (rvs.mapM (fun
      | .tmp t => pure (a.tmps.getD t undef)
      | .cell ad t => do loadVar t (← asAddr (a.tmps.getD ad undef)) : ResultVar → Sem Value)).run P w = .ok vs w
  | [], _, vs, p, he, _ => by
    simp only [retL, Option.some.injEq, Prod.mk.injEq] at he
    rw [← he.1]
    simp
  | rv :: rvs, [], vs, p, he, _ => by simp [retL] at he
  | rv :: rvs, hs :: hss, vs, p, he, hp => by
    simp only [retL] at he
    split at he
    case isFalse => cases he
    rename_i hok
    split at he
    case h_2 => cases he
    rename_i v p1 h1
    split at he
    case h_2 => cases he
    rename_i vs' q h2
    simp only [Option.some.injEq, Prod.mk.injEq] at he
    obtain ⟨rfl, rfl⟩ := he
    obtain ⟨hp1, hp2⟩ := All_append hp
    have ih := retL_sound s rvs hss vs' q h2 hp2
    have hv := exr_sound _ hs _ _ h1 hp1 w fun y hy => by
      obtain ⟨hn, _, hg⟩ := List.mem_filterMap.1 hy
      exact s.own.get hg
    have hsame : ∀ t : Nat, (match E.lookup t with | some (.val _) => true | _ => false) = true → a.tmps.getD t undef = rho E (.tmp t) := by
      intro t ht
      split at ht
      · rename_i u hu
        have := s.ag.look t _ hu
        simp [rho, hu, EV.raw, Array.getD_eq_getD_getElem?, this, EV.now]
      · cases ht
    rw [List.mapM_cons, Sem.run_bind]
    cases rv with
    | tmp t =>
      have e1 := hsame t hok
      simp only [rvS] at hv
      simp only [e1, hv, Result.andThen_ok, Sem.run_bind, ih, Sem.run_pure]
    | cell ad t =>
      have e1 := hsame ad hok
      simp only [rvS] at hv
      simp only [e1, hv, Result.andThen_ok, Sem.run_bind, ih, Sem.run_pure]

omit [Pan f] in
theorem retV_sound {n : Nat} {Rr : Ending → World → Prop} {hss : List (List Hn)} {v : Value} {p : List Ob} (he : retV P f E h r hss = some (v, p)) (hp : All p) {a : Act} {w : World} (s : St n E h r F Y a w) (hR : Rr (.returned v) w) : retR P f Rr a w := by
  refine ⟨s.ag.defers, v, ?_, hR⟩
  unfold retV at he
  have key : ∀ vs q, retL P E h r f.results.toList hss = some (vs, q) → All q → (if hh : vs.toArray.size = 1 then vs.toArray[0] else Value.tuple vs.toArray) = v → (results f a.tmps).run P w = .ok v w := fun vs q h1 h2 h3 => by
    have := retL_sound s f.results.toList hss vs q h1 h2
    unfold results
    rw [Array.mapM_eq_mapM_toList]
    rw [Sem.run_bind, ← bind_pure_comp, Sem.run_bind]
    refine Eq.trans (congrArg (fun x : Result (List Value) => (x.andThen fun a w' => Sem.run P (pure a.toArray) w').andThen fun a w' => Sem.run P (pure (if h : a.size = 1 then a[0] else Value.tuple a)) w') this) ?_
    simp only [Result.andThen_ok, Sem.run_pure]
    rw [h3]
  split at he
  · rename_i u q h1
    simp only [Option.some.injEq, Prod.mk.injEq] at he
    obtain ⟨rfl, rfl⟩ := he
    exact key [u] q h1 hp (by simp)
  · rename_i vs q hne h1
    simp only [Option.some.injEq, Prod.mk.injEq] at he
    obtain ⟨rfl, rfl⟩ := he
    refine key vs q h1 hp ?_
    rw [dif_neg]
    intro hl
    obtain ⟨u, hu⟩ := List.length_eq_one_iff.1 (show vs.length = 1 by simpa using hl)
    exact hne u hu
  · cases he

def chkV (x : Option (Value × List Ob)) : Option Value × (List Nat × List Bool × List (Option Nat)) × Nat := match x with
  | some y => (some y.1, obL y.2, (obP y.2).length)
  | none => (none, ([], [], []), 0)
def trivV (x : Option (Value × List Ob)) : List Nat × List Bool × List (Option Nat) := match x with
  | some y => obR y.2
  | none => ([], [], [])
theorem chkV_sound {x : Option (Value × List Ob)} {v : Value} (h : chkV x = (some v, trivV x, 0)) : ∃ p, x = some (v, p) ∧ All p := by
  cases x with
  | none => simp [chkV] at h
  | some y =>
    obtain ⟨a, p⟩ := y
    simp only [chkV, trivV, Prod.mk.injEq, Option.some.injEq] at h
    obtain ⟨rfl, h2, h3⟩ := h
    refine ⟨p, rfl, All_of p h2 ?_⟩
    rw [List.eq_nil_of_length_eq_zero h3]
    trivial

theorem J_return {n : Nat} {Rr : Ending → World → Prop} (hss : List (List Hn)) (v : Value) (he : chkV (retV P f E h r hss) = (some v, trivV (retV P f E h r hss), 0)) (H : ∀ a w, St n E h r F Y a w → Rr (.returned v) w) :
    J P f (retR P f Rr) n (.c .ret :: k) E h r F Y := by
  obtain ⟨p, he, hp⟩ := chkV_sound he
  exact J_ret fun a w s => retV_sound he hp s (H a w s)
theorem J_fall {n : Nat} {Rr : Ending → World → Prop} (hss : List (List Hn)) (v : Value) (he : chkV (retV P f E h r hss) = (some v, trivV (retV P f E h r hss), 0)) (H : ∀ a w, St n E h r F Y a w → Rr (.returned v) w) :
    J P f (retR P f Rr) n [] E h r F Y := by
  obtain ⟨p, he, hp⟩ := chkV_sound he
  exact J_nil fun a w s => retV_sound he hp s (H a w s)

/-- A test that the facts decide. -/
theorem J_condT {c : Operand} {x y : Sk} (t : Bool) (hc : opsOk E none [c] = some []) (hv : rho E c = .bool t) (h0 : t = true) (ht : J P f R n (.c x :: k) E h r F Y) : J P f R n (.c (.cond c x y) :: k) E h r F Y :=
  J_cond hc hv (fun _ => ht) fun h => by rw [h0] at h; cases h
theorem J_condF {c : Operand} {x y : Sk} (t : Bool) (hc : opsOk E none [c] = some []) (hv : rho E c = .bool t) (h0 : t = false) (ht : J P f R n (.c y :: k) E h r F Y) : J P f R n (.c (.cond c x y) :: k) E h r F Y :=
  J_cond hc hv (fun h => by rw [h0] at h; cases h) fun _ => ht

theorem wrap_i64 {x : Int} (h1 : -9223372036854775808 ≤ x) (h2 : x ≤ 9223372036854775807) : IntKind.i64.wrap x = x := by
  rw [IntKind.wrap_i64]
  omega
end rules
end Go.Sx
