/- The engine of our walks, part 17 (with ghosts): look-ups under a guard. (Made by mkx17.py out of part 13.) -/
import Derived.Test.YtahbmdchcbnolaaDoorTx16
namespace Go.Sx
open Go Go.MapKept

/-- What a look-up asks, under its guard. -/
def lkOf (n : Nat) (ops : Array Oper) (E : Env) (i : Nat) : Option (TypeId × Value × Value × Bool × Option Tmp × List Ob) :=
  match ops[i]? with
  | none => none
  | some o => if dstOk n o.dst && !isSel o.op then match (match o.guard with
      | none => some (none, [])
      | some (j, want) => (guardOf E ops j).map fun c => (some (c, want), [.bb c want])) with
    | none => none
    | some (cd, g) => match opsOk E cd o.op.operands.toList with
      | none => none
      | some q => match o.op with
        | .lookup t m x c => some (t, rho E m, rho E x, c, o.dst, g ++ q)
        | _ => none
    else none
def chkLk (x : Option (TypeId × Value × Value × Bool × Option Tmp × List Ob)) : Option (TypeId × Value × Value × Bool × Option Tmp) × (List Nat × List Bool × List (Option Nat)) × Nat := match x with
  | some y => (some (y.1, y.2.1, y.2.2.1, y.2.2.2.1, y.2.2.2.2.1), obL y.2.2.2.2.2, (obP y.2.2.2.2.2).length)
  | none => (none, ([], [], []), 0)
def trivLk (x : Option (TypeId × Value × Value × Bool × Option Tmp × List Ob)) : List Nat × List Bool × List (Option Nat) := match x with
  | some y => obR y.2.2.2.2.2
  | none => ([], [], [])
theorem chkLk_sound {x : Option (TypeId × Value × Value × Bool × Option Tmp × List Ob)} {src : TypeId} {dt v : Value} {cc : Bool} {dst : Option Tmp} (h : chkLk x = (some (src, dt, v, cc, dst), trivLk x, 0)) : ∃ p, x = some (src, dt, v, cc, dst, p) ∧ All p := by
  cases x with
  | none => simp [chkLk] at h
  | some y =>
    obtain ⟨a, b, c, d, e, p⟩ := y
    simp only [chkLk, trivLk, Prod.mk.injEq, Option.some.injEq] at h
    obtain ⟨⟨rfl, rfl, rfl, rfl, rfl⟩, h2, h3⟩ := h
    refine ⟨p, rfl, All_of p h2 ?_⟩
    rw [List.eq_nil_of_length_eq_zero h3]
    trivial
section
variable {P : Program} {f : Func} [Pan f] {R : Act → World → Prop} {n : Nat} [Dfr n] {k : List Itm} {E : Env} {h r : List (Nat × Obj)} {F : List (List Nat × World)} {Y : Ghost}
theorem lkOf_sound {ops : Array Oper} {i : Nat} {src : TypeId} {dt xv : Value} {cc : Bool} {dst : Option Tmp} {p : List Ob} (he : lkOf n ops E i = some (src, dt, xv, cc, dst, p)) (hp : All p)
    {a : Act} {w : World} {fps : List (List Nat)} (s : StF n E h r F Y a w fps) {K : Act → World → Prop} {Q : Exit → Act → World → Prop}
    (H : ∃ v' w', (Instr.lookup src dt xv cc).run P w = .ok v' w' ∧ ∀ a', Ag n (E.put dst (.val v')) a' → K a' w') : wpOp P ops Q i K a w := by
  unfold lkOf at he
  split at he
  · cases he
  rename_i o ho
  split at he
  case isFalse => cases he
  rename_i hd
  simp only [Bool.and_eq_true, Bool.not_eq_true'] at hd
  split at he
  · cases he
  rename_i cd g hg
  split at he
  · cases he
  rename_i q hq
  split at he
  case h_2 => cases he
  rename_i src' dt' x cc' hc
  simp only [Option.some.injEq, Prod.mk.injEq] at he
  obtain ⟨rfl, rfl, rfl, rfl, rfl, rfl⟩ := he
  obtain ⟨hg1, hq1⟩ := All_append hp
  have hwant : Region.wanted o (yielded ops a.tmps) = true ∧ ∀ c wn, cd = some (c, wn) → c = wn := by
    cases hgd : o.guard with
    | none =>
      rw [hgd] at hg
      simp only [Option.some.injEq, Prod.mk.injEq] at hg
      refine ⟨by simp [Region.wanted, hgd], fun c wn h => ?_⟩
      rw [← hg.1] at h
      cases h
    | some y =>
      obtain ⟨j, want⟩ := y
      rw [hgd] at hg
      obtain ⟨c, hc, hcg⟩ := Option.map_eq_some_iff.1 hg
      simp only [Prod.mk.injEq] at hcg
      obtain ⟨rfl, rfl⟩ := hcg
      have hy := guardOf_sound s.ag hc
      have hcw : c = want := hg1.1
      refine ⟨by simp [Region.wanted, hgd, hy, hcw], fun c' wn h => ?_⟩
      injection h with h
      injection h with h1 h2
      rw [← h1, ← h2]
      exact hcw
  unfold wpOp
  simp only [ho]
  rw [if_pos hwant.1]
  refine .inl ?_
  obtain ⟨v', w', hrun, hk⟩ := H
  unfold Oper.wp
  have hcongr : execOp a.eval o = execOp (rho E) o := execOp_congr o (fun cs b hc => by have := hd.2; rw [hc] at this; cases this) (fun x hx => opsOk_sound s.ag hwant.2 _ _ hq hq1 x (by simpa using hx))
  rw [hcongr]
  unfold execOp
  simp only [hc, Sem.run_bind, hrun, Result.andThen_ok, Sem.run_pure]
  exact hk _ (s.ag.put hd.1 (.val v'))

theorem lkOf_yields {ops : Array Oper} {i : Nat} {src : TypeId} {dt xv : Value} {cc : Bool} {dst : Option Tmp} {p : List Ob} (he : lkOf n ops E i = some (src, dt, xv, cc, dst, p)) (hp : All p) {a : Act} (hA : Ag n E a) :
    ∃ o, ops[i]? = some o ∧ Region.wanted o (yielded ops a.tmps) = true ∧ dstOk n o.dst = true ∧ o.dst = dst ∧ ∀ w v w', (Instr.lookup src dt xv cc).run P w = .ok v w' → (execOp a.eval o).run P w = .ok (.value v) w' := by
  unfold lkOf at he
  split at he
  · cases he
  rename_i o ho
  split at he
  case isFalse => cases he
  rename_i hd
  simp only [Bool.and_eq_true, Bool.not_eq_true'] at hd
  split at he
  · cases he
  rename_i cd g hg
  split at he
  · cases he
  rename_i q hq
  split at he
  case h_2 => cases he
  rename_i src' dt' x cc' hc
  simp only [Option.some.injEq, Prod.mk.injEq] at he
  obtain ⟨rfl, rfl, rfl, rfl, rfl, rfl⟩ := he
  obtain ⟨hg1, hq1⟩ := All_append hp
  have hwant : Region.wanted o (yielded ops a.tmps) = true ∧ ∀ c wn, cd = some (c, wn) → c = wn := by
    cases hgd : o.guard with
    | none =>
      rw [hgd] at hg
      simp only [Option.some.injEq, Prod.mk.injEq] at hg
      refine ⟨by simp [Region.wanted, hgd], fun c wn h => ?_⟩
      rw [← hg.1] at h
      cases h
    | some y =>
      obtain ⟨j, want⟩ := y
      rw [hgd] at hg
      obtain ⟨c, hc, hcg⟩ := Option.map_eq_some_iff.1 hg
      simp only [Prod.mk.injEq] at hcg
      obtain ⟨rfl, rfl⟩ := hcg
      have hy := guardOf_sound hA hc
      have hcw : c = want := hg1.1
      refine ⟨by simp [Region.wanted, hgd, hy, hcw], fun c' wn h => ?_⟩
      injection h with h
      injection h with h1 h2
      rw [← h1, ← h2]
      exact hcw
  refine ⟨o, ho, hwant.1, hd.1, rfl, fun w v w' hrun => ?_⟩
  have hcongr : execOp a.eval o = execOp (rho E) o := execOp_congr o (fun cs b hc => by have := hd.2; rw [hc] at this; cases this) (fun x hx => opsOk_sound hA hwant.2 _ _ hq hq1 x (by simpa using hx))
  rw [hcongr]
  unfold execOp
  simp only [hc, Sem.run_bind, hrun, Result.andThen_ok, Sem.run_pure]
theorem JRg_lookq {id L0 i : Nat} {ck : Bool} {Wp : List (Nat × List Nat)} {rest : List (Nat × Bool)} (hn : Hn) (b t kt et : Nat) (ok : Value → Prop) (key z : Value) (c : Bool) (dst : Option Tmp) {es : Array MapEntry} {clock : Nat} {g : Value → Option Value}
    (he : chkLk (lkOf n (rgOf f id) E i) = (some (t, .map (some b), key, c, dst), trivLk (lkOf n (rgOf f id) E i), 0)) (hok : (!ck || okR L0 (Wp.filter fun y => !later (rgOf f id) i 3 y.1) [hn]) = true) (ht : P.underlying t = some (.map kt et)) (hK : KeyOk P kt ok) (hk : ok key) (hi : (P.info? et).map (·.zero) = some (some z))
    (hp : hn.get h r = some (b, .map es clock)) (hm : MapG ok es g)
    (A : g key = none → JR P f R n (rgOf f id) L0 ck rest Wp k (E.put dst (.val (lkV c z false))) h r F Y)
    (B : ∀ v, g key = some v → JR P f R n (rgOf f id) L0 ck rest Wp k (E.put dst (.val (lkV c v true))) h r F Y) :
    JR P f R n (rgOf f id) L0 ck ((i, true) :: rest) Wp k E h r F Y := by
  obtain ⟨p, he, hpp⟩ := chkLk_sound he
  intro BB Hd fps a w s hH hR hN hW
  simp only [PW]
  obtain ⟨inf, hinf, hz⟩ := Option.map_eq_some_iff.1 hi
  have hzero : ∀ w, (zeroValue et).run P w = .ok z w := fun w => by simp [zeroValue, typeInfo, hinf, hz]
  have hus : used h r [hn] = [(b, .map es clock)] := by simp [used, hp]
  have hHp : Hp (used h r [hn]) w := fun y hy => by
    obtain ⟨hn', _, hg⟩ := List.mem_filterMap.1 hy
    exact s.own.get hg
  obtain ⟨o, ho, hw, hdst, hde, hrun⟩ := lkOf_yields (P := P) he hpp s.ag
  subst hde
  have fin : ∀ v, (∀ w, Hp (used h r [hn]) w → (Instr.lookup t (.map (some b)) key c).run P w = .ok v w) → JR P f R n (rgOf f id) L0 ck rest Wp k (E.put o.dst (.val v)) h r F Y →
      ∃ o' v' us, (rgOf f id)[i]? = some o' ∧ YieldsIf P (rgOf f id) (Hp us) o' v' a ∧ Hp us w ∧ (ck = true → ∀ y ∈ idsW Hd h Wp, later (rgOf f id) i 3 y.1 = true ∨ ∀ x ∈ us, x.1 < BB ∧ x.1 ∉ y.2) ∧ PW P (rgOf f id) (wpK P f R k) BB ck rest (idsW Hd h Wp) (a.put o'.dst v') w := fun v hv H => by
    refine ⟨o, v, used h r [hn], ho, .inl ⟨hw, fun w hw => hrun _ _ _ (hv w hw)⟩, hHp, fun hck y hy => okR_later (fun j => later (rgOf f id) i 3 j) s.own hR (by simpa [hck] using hok) y hy, ?_⟩
    exact H BB Hd fps _ w ⟨s.ag.put hdst (.val v), s.own, s.fr, s.may, s.gh⟩ hH hR hN hW
  have hbw : ∀ w, Hp (used h r [hn]) w → w.heap[b]? = some (.map es clock) := fun w hw => hw (b, .map es clock) (by rw [hus]; simp)
  rcases hm.look hK hk with ⟨h1, h2, _⟩ | ⟨j, e, h1, _, _, h2⟩
  · refine fin (lkV c z false) (fun w hw => ?_) (A h2)
    cases c <;> simp [Instr.lookup, run_underlying ht, MapKept.run_getObj_map (hbw w hw), hK.chk _ _ hk, h1, hzero, Result.andThen, lkV]
  · refine fin (lkV c e.val true) (fun w hw => ?_) (B _ h2)
    cases c <;> simp [Instr.lookup, run_underlying ht, MapKept.run_getObj_map (hbw w hw), hK.chk _ _ hk, h1, Result.andThen, lkV]
theorem JRg_lookqn {id L0 i : Nat} {ck : Bool} {Wp : List (Nat × List Nat)} {rest : List (Nat × Bool)} (t kt et : Nat) (ok : Value → Prop) (key z : Value) (c : Bool) (dst : Option Tmp)
    (he : chkLk (lkOf n (rgOf f id) E i) = (some (t, .map none, key, c, dst), trivLk (lkOf n (rgOf f id) E i), 0)) (ht : P.underlying t = some (.map kt et)) (hK : KeyOk P kt ok) (hk : ok key) (hi : (P.info? et).map (·.zero) = some (some z))
    (A : JR P f R n (rgOf f id) L0 ck rest Wp k (E.put dst (.val (lkV c z false))) h r F Y) :
    JR P f R n (rgOf f id) L0 ck ((i, true) :: rest) Wp k E h r F Y := by
  obtain ⟨p, he, hpp⟩ := chkLk_sound he
  intro BB Hd fps a w s hH hR hN hW
  simp only [PW]
  obtain ⟨inf, hinf, hz⟩ := Option.map_eq_some_iff.1 hi
  have hzero : ∀ w, (zeroValue et).run P w = .ok z w := fun w => by simp [zeroValue, typeInfo, hinf, hz]
  obtain ⟨o, ho, hw, hdst, hde, hrun⟩ := lkOf_yields (P := P) he hpp s.ag
  subst hde
  have h1 : ∀ w, (Instr.findKey kt key []).run P w = .ok none w := fun w => by
    rcases hK.find key [] hk (by simp) with ⟨h1, _⟩ | ⟨j, e, _, h2, _⟩
    · exact h1 w
    · simp at h2
  refine ⟨o, lkV c z false, [], ho, .inl ⟨hw, fun w _ => hrun _ _ _ ?_⟩, (fun y hy => nomatch hy), (fun _ y _ => .inr fun x hx => nomatch hx), A BB Hd fps _ w ⟨s.ag.put hdst (.val _), s.own, s.fr, s.may, s.gh⟩ hH hR hN hW⟩
  cases c <;> simp [Instr.lookup, run_underlying ht, hK.chk _ _ hk, h1, hzero, Result.andThen, lkV]
end
end Go.Sx
