/- The engine of our walks, part 5: regions, calls, the entry, the results. -/
import Derived.Test.YtgelnbgjabpdbaaDoorSx4
namespace Go.Sx
open Go

/-- May the plan be taken? -/
def regOk (ops : Array Oper) (d : Bool) (plan : List (Nat × Bool)) : Bool :=
  if d then Region.noSelect ops && Nat.beq plan.length ops.size && planOk ops plan (Array.replicate ops.size false) else plan.map (·.1) == List.range ops.size

def runReg (P : Program) (n : Nat) (nu : Nat → Nat) (f : Func) (id L0 : Nat) (ck : Bool) (pl : List Pl) (Wp : List (Nat × List Nat)) (E : Env) (h r : List (Nat × Obj)) (keep : List Nat) : Option (Env × List (Nat × Obj) × List Ob × List (Nat × List Nat)) :=
  match run P n nu (rgOf f id) r L0 ck pl Wp E ⟨h, 0, []⟩ with
  | some (E', x', W', p) => some (keepE E' keep, x'.h, p, W')
  | none => none

section rules
variable {P : Program} {f : Func} {R : Act → World → Prop} {n : Nat} {k : List Itm} {E E' : Env} {h h' r : List (Nat × Obj)} {F : List (List Nat × World)}

theorem St.drew {a : Act} {w : World} (s : St n E h r F a w) : St n E h r F a { w with drawn := w.drawn + 1 } :=
  ⟨s.ag, ⟨s.own.own, s.own.nodup, s.own.ro, s.own.apart⟩, fun f hf => (s.fr f hf).drew, s.may⟩

theorem JR_begin (hm : P.follows .mixedOrders = true) {id : Nat} {d : Bool} (plan : List (Nat × Bool)) (Wp : List (Nat × List Nat)) (hok : regOk (rgOf f id) d plan = true) (hWp : okWp h.length Wp = true)
    (H : JR P f R n (rgOf f id) h.length d plan Wp k E h r F) : J P f R n (.c (.rg id d) :: k) E h r F := fun a w s => by
  have key : ∀ w, St n E h r F a w → PW P (rgOf f id) (wpK P f R k) w.heap.size d plan (idsW h Wp) a w := fun w s =>
    H w.heap.size a w s ⟨fun i _ x hx => s.own.own.lt (List.mem_of_getElem? hx), fun x hx => s.own.ro.lt hx, Nat.le_refl _, Nat.le_refl _⟩
      (fun j hj x hx => by rw [List.getElem?_eq_none hj] at hx; cases hx) hWp
  simp only [wpK, Sk.code]
  cases d with
  | true =>
    simp only [regOk, if_true, Bool.and_eq_true] at hok
    obtain ⟨⟨h1, h2⟩, h3⟩ := hok
    exact wp_region_plan hm h1 (fun c a d v w hq => absurd hq (wpK_panic _ _ _ _)) plan _ (Nat.eq_of_beq_eq_true h2) h3 (key _ s.drew)
  | false =>
    simp only [regOk, Bool.false_eq_true, if_false, beq_iff_eq] at hok
    exact wp_region_line plan _ hok (key w s)

theorem JR_end {ops : Array Oper} {L0 : Nat} {ck : Bool} {Wp : List (Nat × List Nat)} (H : J P f R n k E h r F) : JR P f R n ops L0 ck [] Wp k E h r F := fun _ a w s _ _ _ => H a w s

def trivL (x : Option (Env × List (Nat × Obj) × List Ob × List (Nat × List Nat))) : List Nat × List Bool × List (Option Nat) := match x with
  | some y => obL y.2.2.1
  | none => ([], [], [])
def trivR (x : Option (Env × List (Nat × Obj) × List Ob × List (Nat × List Nat))) : List Nat × List Bool × List (Option Nat) := match x with
  | some y => obR y.2.2.1
  | none => ([], [], [])
def packed (x : Option (Env × List (Nat × Obj) × List Ob × List (Nat × List Nat))) : Option (Env × List (Nat × Obj) × List Prop × List (Nat × List Nat)) := match x with
  | some y => some (y.1, y.2.1, obP y.2.2.1, y.2.2.2)
  | none => none

/-- A stretch of a region, run over what is known. -/
theorem JR_run {id L0 : Nat} {ck : Bool} {Wp : List (Nat × List Nat)} {rest : List (Nat × Bool)} (pl : List Pl) (keep : List Nat) {E1 : (Nat → Nat) → Env} {h1 : (Nat → Nat) → List (Nat × Obj)} {p1 : (Nat → Nat) → List Prop} {W1 : List (Nat × List Nat)}
    (hr : ∀ nu, (packed (runReg P n nu f id L0 ck pl Wp E h r keep), trivL (runReg P n nu f id L0 ck pl Wp E h r keep)) = (some (E1 nu, h1 nu, p1 nu, W1), trivR (runReg P n nu f id L0 ck pl Wp E h r keep))) (hp : ∀ nu, AllP (p1 nu))
    (H : ∀ nu, JR P f R n (rgOf f id) L0 ck rest W1 k (E1 nu) (h1 nu) r F) : JR P f R n (rgOf f id) L0 ck (pl.map Pl.key ++ rest) Wp k E h r F := by
  intro B a w s hR hN hW
  obtain ⟨h2, h3⟩ := Prod.mk.inj (hr (fun j => w.heap.size + j))
  unfold runReg at h2 h3
  split at h2
  · rename_i E' x' W' p hrun
    rw [hrun] at h3
    simp only [packed, Option.some.injEq, Prod.mk.injEq] at h2
    obtain ⟨e1, e2, e3, e4⟩ := h2
    refine run_PW pl Wp E ⟨h, 0, []⟩ E' x' W' p hrun (All_of p h3 (by rw [e3]; exact hp _)) hW a w s.ag s.own (fun j => by simp) hR hN fun a' w' hA hO _ hR' hN' hd hW' => ?_
    rw [e4] at hW' ⊢
    rw [e2] at hO hR' hN' hd ⊢
    exact H _ B a' w' (s.go (hA.sub (by rw [← e1]; exact keepE_sub E' keep)) hO hd) hR' hN' hW'
  · cases h2

/-- A whole region, run over what is known. -/
theorem J_reg (hm : P.follows .mixedOrders = true) {id : Nat} {d : Bool} (pl : List Pl) (Wp : List (Nat × List Nat)) (keep : List Nat) {E1 : (Nat → Nat) → Env} {h1 : (Nat → Nat) → List (Nat × Obj)} {p1 : (Nat → Nat) → List Prop} {W1 : List (Nat × List Nat)}
    (hok : (regOk (rgOf f id) d (pl.map Pl.key) && okWp h.length Wp) = true)
    (hr : ∀ nu, (packed (runReg P n nu f id h.length d pl Wp E h r keep), trivL (runReg P n nu f id h.length d pl Wp E h r keep)) = (some (E1 nu, h1 nu, p1 nu, W1), trivR (runReg P n nu f id h.length d pl Wp E h r keep))) (hp : ∀ nu, AllP (p1 nu))
    (H : ∀ nu, J P f R n k (E1 nu) (h1 nu) r F) : J P f R n (.c (.rg id d) :: k) E h r F := by
  obtain ⟨ho1, ho2⟩ := (Bool.and_eq_true _ _ ▸ hok : _ ∧ _)
  refine JR_begin hm (pl.map Pl.key) Wp ho1 ho2 ?_
  have := JR_run (rest := []) pl keep hr hp fun nu => JR_end (H nu)
  rwa [List.append_nil] at this

/-- What a call's operation asks: the function, its arguments, where the answer goes. -/
def callOf (P : Program) (n : Nat) (ops : Array Oper) (h r : List (Nat × Obj)) (E : Env) (i : Nat) (hs : List Hn) : Option (FuncId × Array Value × Option Tmp × List Ob) :=
  match ops[i]? with
  | none => none
  | some o => if dstOk n o.dst && !isSel o.op then match (match o.guard with
      | none => some (none, [])
      | some (j, want) => (guardOf E ops j).map fun c => (some (c, want), [.bb c want])) with
    | none => none
    | some (cd, g) => match opsOk E cd o.op.operands.toList with
      | none => none
      | some q => match exr P h r (execOp (rho E) o) hs with
        | some (.enter fid args, p) => some (fid, args, o.dst, g ++ (q ++ p))
        | _ => none
    else none

theorem callOf_sound {ops : Array Oper} {i : Nat} {hs : List Hn} {fid : FuncId} {args : Array Value} {dst : Option Tmp} {p : List Ob} (he : callOf P n ops h r E i hs = some (fid, args, dst, p)) (hp : All p)
    {a : Act} {w : World} (s : St n E h r F a w) {K : Act → World → Prop} {Q : Exit → Act → World → Prop}
    (C : Calls P fid args w fun e w' => ∃ v, e = .returned v ∧ ∀ E', E' = E.put dst (.val v) → ∀ a', Ag n E' a' → K a' w') : wpOp P ops Q i K a w := by
  unfold callOf at he
  split at he
  · cases he
  rename_i o ho
  split at he
  case isFalse => cases he
  rename_i hd
  simp only [Bool.and_eq_true, Bool.not_eq_true'] at hd
  split at he
  · cases he
  rename_i cd g hg
  split at he
  · cases he
  rename_i q hq
  split at he
  case h_2 => cases he
  rename_i fid' args' p' hx
  simp only [Option.some.injEq, Prod.mk.injEq] at he
  obtain ⟨rfl, rfl, rfl, rfl⟩ := he
  obtain ⟨hg1, hp⟩ := All_append hp
  obtain ⟨hq1, hp1⟩ := All_append hp
  have hwant : Region.wanted o (yielded ops a.tmps) = true ∧ ∀ c wn, cd = some (c, wn) → c = wn := by
    cases hgd : o.guard with
    | none =>
      rw [hgd] at hg
      simp only [Option.some.injEq, Prod.mk.injEq] at hg
      refine ⟨by simp [Region.wanted, hgd], fun c wn h => ?_⟩
      rw [← hg.1] at h
      cases h
    | some y =>
      obtain ⟨j, want⟩ := y
      rw [hgd] at hg
      obtain ⟨c, hc, hcg⟩ := Option.map_eq_some_iff.1 hg
      simp only [Prod.mk.injEq] at hcg
      obtain ⟨rfl, rfl⟩ := hcg
      have hy := guardOf_sound s.ag hc
      have hcw : c = want := hg1.1
      refine ⟨by simp [Region.wanted, hgd, hy, hcw], fun c' wn h => ?_⟩
      injection h with h
      injection h with h1 h2
      rw [← h1, ← h2]
      exact hcw
  unfold wpOp
  simp only [ho]
  rw [if_pos hwant.1]
  refine .inl ?_
  unfold Oper.wp
  have hcongr : execOp a.eval o = execOp (rho E) o := execOp_congr o (fun cs b hc => by have := hd.2; rw [hc] at this; cases this) (fun x hx => opsOk_sound s.ag hwant.2 _ _ hq hq1 x (by simpa using hx))
  rw [hcongr, exr_sound _ hs _ _ hx hp1 w fun y hy => by
    obtain ⟨hn, _, hg⟩ := List.mem_filterMap.1 hy
    exact s.own.get hg]
  rw [Oper.upon_enter]
  refine C.mono fun e w' hh => ?_
  obtain ⟨v, rfl, hk⟩ := hh
  exact hk _ rfl _ (s.ag.put hd.1 (.val v))

def chkC (x : Option (FuncId × Array Value × Option Tmp × List Ob)) : Option (FuncId × Array Value × Option Tmp) × (List Nat × List Bool × List (Option Nat)) × Nat := match x with
  | some y => (some (y.1, y.2.1, y.2.2.1), obL y.2.2.2, (obP y.2.2.2).length)
  | none => (none, ([], [], []), 0)
def trivC (x : Option (FuncId × Array Value × Option Tmp × List Ob)) : List Nat × List Bool × List (Option Nat) := match x with
  | some y => obR y.2.2.2
  | none => ([], [], [])
theorem chkC_sound {x : Option (FuncId × Array Value × Option Tmp × List Ob)} {fid : FuncId} {args : Array Value} {dst : Option Tmp} (h : chkC x = (some (fid, args, dst), trivC x, 0)) : ∃ p, x = some (fid, args, dst, p) ∧ All p := by
  cases x with
  | none => simp [chkC] at h
  | some y =>
    obtain ⟨a, b, c, p⟩ := y
    simp only [chkC, trivC, Prod.mk.injEq, Option.some.injEq] at h
    obtain ⟨⟨rfl, rfl, rfl⟩, h2, h3⟩ := h
    refine ⟨p, rfl, All_of p h2 ?_⟩
    rw [List.eq_nil_of_length_eq_zero h3]
    trivial

/-- A call: what the contract leaves (h', the answer), said of whatever world it ends in. ps: the positions that it may turn. -/
theorem JR_call {id L0 i : Nat} {ck : Bool} {Wp : List (Nat × List Nat)} {rest : List (Nat × Bool)} (hs : List Hn) (ps : List Nat) (fid : FuncId) (args : Array Value) (dst : Option Tmp)
    (he : chkC (callOf P n (rgOf f id) h r E i hs) = (some (fid, args, dst), trivC (callOf P n (rgOf f id) h r E i hs), 0)) (hok : (!ck || okW L0 (Wp.lookup i) ps) = true)
    (C : ∀ a w, St n E h r F a w → Calls P fid args w fun e w' => ∃ v h', e = .returned v ∧ Did h h' ps w w' ∧ Own h' r w' ∧
      JR P f R n (rgOf f id) L0 ck rest (Wp.filter (·.1 != i)) k (E.put dst (.val v)) h' r ((h'.map (·.1), w') :: F)) :
    JR P f R n (rgOf f id) L0 ck ((i, false) :: rest) Wp k E h r F := by
  obtain ⟨p, he, hp⟩ := chkC_sound he
  intro B a w s hR hN hW
  simp only [PW]
  refine callOf_sound he hp s ((C a w s).mono fun e w' hh => ?_)
  obtain ⟨v, h', rfl, hd, hO, H⟩ := hh
  refine ⟨v, rfl, fun E' hE a' hA => ⟨fun hck => okW_sound hd (by simpa [hck] using hok) hN, ?_⟩⟩
  subst hE
  rw [filter_idsW, ← idsW_did hR.len hd _ (okWp_filter hW)]
  have s' := s.go hA hO hd.dd
  refine H B a' w' ⟨s'.ag, s'.own, fun f hf => ?_, fun f hf x hx => ?_⟩ (hR.did hd) (hN.did hR.size hd) (okWp_filter hW)
  · rcases List.mem_cons.1 hf with rfl | hf
    · exact Fr.refl _ _
    · exact s'.fr f hf
  · rcases List.mem_cons.1 hf with rfl | hf
    · exact .inl (List.mem_map.2 ⟨x, hx, rfl⟩)
    · exact s'.may f hf x hx

/-! The entry. -/
def envOf : Nat → List Value → Env
  | _, [] => []
  | i, v :: vs => (i, .val v) :: envOf (i + 1) vs
theorem envOf_look : ∀ (vs : List Value) (i t : Nat) (ev : EV), (envOf i vs).lookup t = some ev → ∃ j v, t = i + j ∧ vs[j]? = some v ∧ ev = .val v
  | [], i, t, ev, h => by simp [envOf] at h
  | v :: vs, i, t, ev, h => by
    simp only [envOf] at h
    by_cases ht : t = i
    · subst ht
      rw [lookup_cons_self] at h
      exact ⟨0, v, rfl, rfl, (Option.some.inj h).symm⟩
    · rw [lookup_cons_ne _ _ ht] at h
      obtain ⟨j, u, h1, h2, h3⟩ := envOf_look vs (i + 1) t ev h
      exact ⟨j + 1, u, by omega, by simpa using h2, h3⟩

/-- What the call's end is to show. -/
def retR (P : Program) (fn : Func) (Rr : Ending → World → Prop) (a : Act) (w : World) : Prop := a.defers = [] ∧ ∃ v, (results fn a.tmps).run P w = .ok v w ∧ Rr (.returned v) w

theorem calls_J {fid : FuncId} {fn : Func} {sk : Sk} {args : List Value} {w : World} {Rr : Ending → World → Prop} (hf : P.funcs[fid]? = some fn) (hb : fn.body = some (sk.code fn)) (hn : fn.ntmps = n) (hle : Nat.ble args.length n = true)
    (s : Own h r w) (hF : ∀ f ∈ F, Fr f.1 f.2 w) (hM : ∀ f ∈ F, ∀ x ∈ h, x.1 ∈ f.1 ∨ f.2.heap.size ≤ x.1)
    (H : J P fn (retR P fn Rr) n [.c sk] (envOf 0 args) h r F) : Calls P fid args.toArray w Rr := by
  subst hn
  have hle := Nat.le_of_ble_eq_true hle
  refine calls_of_wp hf hb ?_
  have hA : Ag fn.ntmps (envOf 0 args) { tmps := args.toArray ++ Array.replicate (fn.ntmps - args.toArray.size) undef, defers := [] } := by
    refine ⟨rfl, by simp; omega, fun t ev he => ?_⟩
    obtain ⟨j, v, h1, h2, h3⟩ := envOf_look args 0 t ev he
    obtain rfl : t = j := by omega
    subst h3
    have hj : t < args.length := (List.getElem?_eq_some_iff.1 h2).1
    simp [Array.getElem?_append, hj, EV.now]
    simpa [List.getElem?_eq_getElem hj] using h2
  have := H _ w ⟨hA, s, hF, hM⟩
  simp only [wpK] at this
  refine wp_mono this fun e a w' hq => ?_
  cases e with
  | normal => exact hq
  | ret => exact hq
  | exit id => exact absurd hq (by simp [wpK])
  | goto l => exact absurd hq (by simp [wpK])
  | panic c => exact absurd hq (by simp [wpK])
  | outgrown => exact absurd hq (by simp [wpK])

/-! The results. -/
def rvS (E : Env) : ResultVar → Sem Value
  | .tmp t => pure (rho E (.tmp t))
  | .cell a t => do loadVar t (← asAddr (rho E (.tmp a)))
def rvOk (E : Env) : ResultVar → Bool
  | .tmp t => match E.lookup t with
    | some (.val _) => true
    | _ => false
  | .cell t _ => match E.lookup t with
    | some (.val _) => true
    | _ => false
def retL (P : Program) (E : Env) (h r : List (Nat × Obj)) : List ResultVar → List (List Hn) → Option (List Value × List Ob)
  | [], _ => some ([], [])
  | rv :: rvs, hs :: hss => if rvOk E rv then match exr P h r (rvS E rv) hs with
    | some (v, p) => match retL P E h r rvs hss with
      | some (vs, q) => some (v :: vs, p ++ q)
      | none => none
    | none => none
    else none
  | _ :: _, [] => none
def retV (P : Program) (fn : Func) (E : Env) (h r : List (Nat × Obj)) (hss : List (List Hn)) : Option (Value × List Ob) :=
  match retL P E h r fn.results.toList hss with
  | some ([v], p) => some (v, p)
  | some (vs, p) => some (.tuple vs.toArray, p)
  | none => none

theorem retL_sound {a : Act} {w : World} (s : St n E h r F a w) : ∀ (rvs : List ResultVar) (hss : List (List Hn)) (vs : List Value) (p : List Ob), retL P E h r rvs hss = some (vs, p) → All p →
    (rvs.mapM (fun
      | .tmp t => pure (a.tmps.getD t undef)
      | .cell ad t => do loadVar t (← asAddr (a.tmps.getD ad undef)) : ResultVar → Sem Value)).run P w = .ok vs w
  | [], _, vs, p, he, _ => by
    simp only [retL, Option.some.injEq, Prod.mk.injEq] at he
    rw [← he.1]
    simp
  | rv :: rvs, [], vs, p, he, _ => by simp [retL] at he
  | rv :: rvs, hs :: hss, vs, p, he, hp => by
    simp only [retL] at he
    split at he
    case isFalse => cases he
    rename_i hok
    split at he
    case h_2 => cases he
    rename_i v p1 h1
    split at he
    case h_2 => cases he
    rename_i vs' q h2
    simp only [Option.some.injEq, Prod.mk.injEq] at he
    obtain ⟨rfl, rfl⟩ := he
    obtain ⟨hp1, hp2⟩ := All_append hp
    have ih := retL_sound s rvs hss vs' q h2 hp2
    have hv := exr_sound _ hs _ _ h1 hp1 w fun y hy => by
      obtain ⟨hn, _, hg⟩ := List.mem_filterMap.1 hy
      exact s.own.get hg
    have hsame : ∀ t : Nat, (match E.lookup t with | some (.val _) => true | _ => false) = true → a.tmps.getD t undef = rho E (.tmp t) := by
      intro t ht
      split at ht
      · rename_i u hu
        have := s.ag.look t _ hu
        simp [rho, hu, EV.raw, Array.getD_eq_getD_getElem?, this, EV.now]
      · cases ht
    rw [List.mapM_cons, Sem.run_bind]
    cases rv with
    | tmp t =>
      have e1 := hsame t hok
      simp only [rvS] at hv
      simp only [e1, hv, Result.andThen_ok, Sem.run_bind, ih, Sem.run_pure]
    | cell ad t =>
      have e1 := hsame ad hok
      simp only [rvS] at hv
      simp only [e1, hv, Result.andThen_ok, Sem.run_bind, ih, Sem.run_pure]

theorem retV_sound {Rr : Ending → World → Prop} {hss : List (List Hn)} {v : Value} {p : List Ob} (he : retV P f E h r hss = some (v, p)) (hp : All p) {a : Act} {w : World} (s : St n E h r F a w) (hR : Rr (.returned v) w) : retR P f Rr a w := by
  refine ⟨s.ag.defers, v, ?_, hR⟩
  unfold retV at he
  have key : ∀ vs q, retL P E h r f.results.toList hss = some (vs, q) → All q → (if hh : vs.toArray.size = 1 then vs.toArray[0] else Value.tuple vs.toArray) = v → (results f a.tmps).run P w = .ok v w := fun vs q h1 h2 h3 => by
    have := retL_sound s f.results.toList hss vs q h1 h2
    unfold results
    rw [Array.mapM_eq_mapM_toList]
    rw [Sem.run_bind, ← bind_pure_comp, Sem.run_bind]
    refine Eq.trans (congrArg (fun x : Result (List Value) => (x.andThen fun a w' => Sem.run P (pure a.toArray) w').andThen fun a w' => Sem.run P (pure (if h : a.size = 1 then a[0] else Value.tuple a)) w') this) ?_
    simp only [Result.andThen_ok, Sem.run_pure]
    rw [h3]
  split at he
  · rename_i u q h1
    simp only [Option.some.injEq, Prod.mk.injEq] at he
    obtain ⟨rfl, rfl⟩ := he
    exact key [u] q h1 hp (by simp)
  · rename_i vs q hne h1
    simp only [Option.some.injEq, Prod.mk.injEq] at he
    obtain ⟨rfl, rfl⟩ := he
    refine key vs q h1 hp ?_
    rw [dif_neg]
    intro hl
    obtain ⟨u, hu⟩ := List.length_eq_one_iff.1 (show vs.length = 1 by simpa using hl)
    exact hne u hu
  · cases he

def chkV (x : Option (Value × List Ob)) : Option Value × (List Nat × List Bool × List (Option Nat)) × Nat := match x with
  | some y => (some y.1, obL y.2, (obP y.2).length)
  | none => (none, ([], [], []), 0)
def trivV (x : Option (Value × List Ob)) : List Nat × List Bool × List (Option Nat) := match x with
  | some y => obR y.2
  | none => ([], [], [])
theorem chkV_sound {x : Option (Value × List Ob)} {v : Value} (h : chkV x = (some v, trivV x, 0)) : ∃ p, x = some (v, p) ∧ All p := by
  cases x with
  | none => simp [chkV] at h
  | some y =>
    obtain ⟨a, p⟩ := y
    simp only [chkV, trivV, Prod.mk.injEq, Option.some.injEq] at h
    obtain ⟨rfl, h2, h3⟩ := h
    refine ⟨p, rfl, All_of p h2 ?_⟩
    rw [List.eq_nil_of_length_eq_zero h3]
    trivial

theorem J_return {Rr : Ending → World → Prop} (hss : List (List Hn)) (v : Value) (he : chkV (retV P f E h r hss) = (some v, trivV (retV P f E h r hss), 0)) (H : ∀ a w, St n E h r F a w → Rr (.returned v) w) :
    J P f (retR P f Rr) n (.c .ret :: k) E h r F := by
  obtain ⟨p, he, hp⟩ := chkV_sound he
  exact J_ret fun a w s => retV_sound he hp s (H a w s)
theorem J_fall {Rr : Ending → World → Prop} (hss : List (List Hn)) (v : Value) (he : chkV (retV P f E h r hss) = (some v, trivV (retV P f E h r hss), 0)) (H : ∀ a w, St n E h r F a w → Rr (.returned v) w) :
    J P f (retR P f Rr) n [] E h r F := by
  obtain ⟨p, he, hp⟩ := chkV_sound he
  exact J_nil fun a w s => retV_sound he hp s (H a w s)

/-- A test that the facts decide. -/
theorem J_condT {c : Operand} {x y : Sk} (t : Bool) (hc : opsOk E none [c] = some []) (hv : rho E c = .bool t) (h0 : t = true) (ht : J P f R n (.c x :: k) E h r F) : J P f R n (.c (.cond c x y) :: k) E h r F :=
  J_cond hc hv (fun _ => ht) fun h => by rw [h0] at h; cases h
theorem J_condF {c : Operand} {x y : Sk} (t : Bool) (hc : opsOk E none [c] = some []) (hv : rho E c = .bool t) (h0 : t = false) (ht : J P f R n (.c y :: k) E h r F) : J P f R n (.c (.cond c x y) :: k) E h r F :=
  J_cond hc hv (fun h => by rw [h0] at h; cases h) fun _ => ht

/-- Drop what earlier worlds hand on. -/
theorem J_refs {F' : List (List Nat × World)} (hs : ∀ x ∈ F', x ∈ F) (H : J P f R n k E h r F') : J P f R n k E h r F := fun a w s =>
  H a w ⟨s.ag, s.own, fun f hf => s.fr f (hs f hf), fun f hf => s.may f (hs f hf)⟩
/-- Blocks dropped, or in another order. -/
theorem J_perm (hs : ∀ x ∈ h', x ∈ h) (hd : (h.map (·.1)).Nodup → (h'.map (·.1)).Nodup) (H : J P f R n k E h' r F) : J P f R n k E h r F := fun a w s =>
  H a w ⟨s.ag, ⟨fun x hx => s.own.own x (hs x hx), hd s.own.nodup, s.own.ro, fun x hx hm => s.own.apart x hx (by
    obtain ⟨y, hy, he⟩ := List.mem_map.1 hm
    exact List.mem_map.2 ⟨y, hs y hy, he⟩)⟩, s.fr, fun f hf x hx => s.may f hf x (hs x hx)⟩
/-- A block of an earlier world, that nobody may turn, is known. -/
theorem J_open {M : List Nat} {w1 : World} {b : Nat} {o : Obj} (hF : (M, w1) ∈ F) (hb : w1.heap[b]? = some o) (hM : b ∉ M) (H : J P f R n k E h (r ++ [(b, o)]) F) : J P f R n k E h r F := fun a w s => by
  have hlt : b < w1.heap.size := by
    rcases Nat.lt_or_ge b w1.heap.size with h' | h'
    · exact h'
    · rw [Array.getElem?_eq_none h'] at hb; cases hb
  have hfr := s.fr _ hF
  have hw : w.heap[b]? = some o := (hfr.block b hlt hM).trans hb
  refine H a w ⟨s.ag, ⟨s.own.own, s.own.nodup, fun x hx => ?_, fun x hx => ?_⟩, s.fr, s.may⟩
  · rcases List.mem_append.1 hx with hx | hx
    · exact s.own.ro x hx
    · rw [List.mem_singleton] at hx; subst hx; exact hw
  · rcases List.mem_append.1 hx with hx | hx
    · exact s.own.apart x hx
    · rw [List.mem_singleton] at hx
      subst hx
      intro hm
      obtain ⟨y, hy, he⟩ := List.mem_map.1 hm
      rcases s.may _ hF y hy with h1 | h1
      · rw [he] at h1; exact hM h1
      · rw [he] at h1
        simp only at h1
        omega
/-- Facts on the world at hand, that earlier worlds give. -/
theorem J_fact {p : Prop} (hp : ∀ a w, St n E h r F a w → p) (H : p → J P f R n k E h r F) : J P f R n k E h r F := fun a w s => H (hp a w s) a w s

theorem wrap_i64 {x : Int} (h1 : -9223372036854775808 ≤ x) (h2 : x ≤ 9223372036854775807) : IntKind.i64.wrap x = x := by
  rw [IntKind.wrap_i64]
  omega
end rules

end Go.Sx
