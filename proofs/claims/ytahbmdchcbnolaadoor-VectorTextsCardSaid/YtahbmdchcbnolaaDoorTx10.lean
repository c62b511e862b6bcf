/- The engine of our walks, part 10 (with ghosts): maps. -/
import Derived.Test.YtahbmdchcbnolaaDoorTx8
import Derived.MapKept
namespace Go.Sx
open Go Go.MapKept

/-- The entries es are the function f's. -/
structure MapOf (d : TypeDesc) (es : Array MapEntry) (f : Value → Option Value) : Prop where
  key : ∀ x ∈ es.toList, IsKey d x.key
  nodup : (es.toList.map (·.key)).Nodup
  val : ∀ x ∈ es.toList, f x.key = some x.val
  has : ∀ k v, f k = some v → ∃ x ∈ es.toList, x.key = k
open Classical in
noncomputable def fput (f : Value → Option Value) (key val : Value) : Value → Option Value := fun k => if k = key then some val else f k
open Classical in
noncomputable def fdel (f : Value → Option Value) (key : Value) : Value → Option Value := fun k => if k = key then none else f k

theorem MapOf.empty (d : TypeDesc) : MapOf d #[] (fun _ => none) := ⟨by simp, by simp, by simp, by simp⟩
theorem MapOf.congr {d : TypeDesc} {es : Array MapEntry} {f g : Value → Option Value} (h : MapOf d es f) (hfg : ∀ k, f k = g k) : MapOf d es g := by
  obtain rfl : f = g := funext hfg
  exact h
theorem MapOf.look {d : TypeDesc} {es : Array MapEntry} {f : Value → Option Value} (h : MapOf d es f) {k : Value} (hk : IsKey d k) :
    (Instr.findNow d k es.toList 0 = some none ∧ f k = none ∧ ∀ x ∈ es.toList, x.key ≠ k) ∨ ∃ j e, Instr.findNow d k es.toList 0 = some (some (j, e.val)) ∧ es.toList[j]? = some e ∧ e.key = k ∧ f k = some e.val := by
  rcases findNow_spec hk es.toList 0 h.key with ⟨h1, h2⟩ | ⟨j, e, h1, h2, h3⟩
  · refine .inl ⟨h1, ?_, h2⟩
    cases hf : f k with
    | none => rfl
    | some v =>
      obtain ⟨x, hx, hxk⟩ := h.has k v hf
      exact absurd hxk (h2 x hx)
  · rw [Nat.zero_add] at h1
    refine .inr ⟨j, e, h1, h2, h3, ?_⟩
    rw [← h3]
    exact h.val e (List.mem_of_getElem? h2)

theorem MapOf.other {d : TypeDesc} {es : Array MapEntry} {f : Value → Option Value} (h : MapOf d es f) {j i : Nat} {e x : MapEntry} (hj : es.toList[j]? = some e) (hi : es.toList[i]? = some x) (hne : i ≠ j) : x.key ≠ e.key := by
  intro he
  have h1 : (es.toList.map (·.key))[i]? = some x.key := by rw [List.getElem?_map, hi]; rfl
  have h2 : (es.toList.map (·.key))[j]? = some x.key := by rw [List.getElem?_map, hj, he]; rfl
  exact hne ((List.getElem?_inj (List.getElem?_eq_some_iff.1 h1).1 h.nodup).1 (h1.trans h2.symm))

theorem MapOf.push {d : TypeDesc} {es : Array MapEntry} {f : Value → Option Value} (h : MapOf d es f) {k v : Value} {born : Nat} (hk : IsKey d k) (hn : ∀ x ∈ es.toList, x.key ≠ k) : MapOf d (es.push ⟨k, v, born⟩) (fput f k v) := by
  refine ⟨fun x hx => ?_, ?_, fun x hx => ?_, fun q u hq => ?_⟩
  · simp only [Array.toList_push, List.mem_append, List.mem_singleton] at hx
    rcases hx with hx | rfl
    · exact h.key x hx
    · exact hk
  · simp only [Array.toList_push, List.map_append, List.map_cons, List.map_nil]
    refine List.nodup_append.2 ⟨h.nodup, by simp, fun a ha b hb => ?_⟩
    simp only [List.mem_singleton] at hb
    subst hb
    obtain ⟨x, hx, rfl⟩ := List.mem_map.1 ha
    exact hn x hx
  · simp only [Array.toList_push, List.mem_append, List.mem_singleton] at hx
    rcases hx with hx | rfl
    · simp [fput, hn x hx, h.val x hx]
    · simp [fput]
  · by_cases hqk : q = k
    · exact ⟨⟨k, v, born⟩, by simp, hqk.symm⟩
    · simp only [fput, if_neg hqk] at hq
      obtain ⟨x, hx, hxk⟩ := h.has q u hq
      exact ⟨x, by simp [hx], hxk⟩

theorem MapOf.turn {d : TypeDesc} {es : Array MapEntry} {f : Value → Option Value} (h : MapOf d es f) {k v : Value} {j : Nat} {e : MapEntry} (hj : es.toList[j]? = some e) (he : e.key = k) : MapOf d (es.modify j fun x => { x with key := k, val := v }) (fput f k v) := by
  subst he
  have hj' : es[j]? = some e := by simpa using hj
  have hkeys : (es.modify j fun x => { x with key := e.key, val := v }).toList.map (·.key) = es.toList.map (·.key) := modify_keys j _ (fun x hx => by rw [hj'] at hx; cases hx; rfl)
  have who : ∀ x ∈ (es.modify j fun x => { x with key := e.key, val := v }).toList, (x.key = e.key ∧ x.val = v) ∨ (x ∈ es.toList ∧ x.key ≠ e.key) := fun x hx => by
    obtain ⟨i, hi⟩ := List.getElem?_of_mem hx
    rw [Array.getElem?_toList, Array.getElem?_modify] at hi
    by_cases hij : j = i
    · subst hij
      rw [if_pos rfl, hj'] at hi
      simp only [Option.map_some, Option.some.injEq] at hi
      rw [← hi]
      exact .inl ⟨rfl, rfl⟩
    · rw [if_neg hij] at hi
      exact .inr ⟨Array.mem_toList_iff.2 (Array.mem_of_getElem? hi), h.other hj (by simpa using hi) (Ne.symm hij)⟩
  refine ⟨isKey_modify h.key j _ (fun x hx => by rw [hj'] at hx; cases hx; rfl), by rw [hkeys]; exact h.nodup, fun x hx => ?_, fun q u hq => ?_⟩
  · rcases who x hx with ⟨h1, h2⟩ | ⟨h1, h2⟩
    · simp [fput, h1, h2]
    · simp [fput, h2, h.val x h1]
  · have hmem : q ∈ es.toList.map (·.key) := by
      by_cases hqk : q = e.key
      · rw [hqk]; exact List.mem_map.2 ⟨e, List.mem_of_getElem? hj, rfl⟩
      · simp only [fput, if_neg hqk] at hq
        obtain ⟨x, hx, hxk⟩ := h.has q u hq
        exact List.mem_map.2 ⟨x, hx, hxk⟩
    rw [← hkeys] at hmem
    obtain ⟨x, hx, hxk⟩ := List.mem_map.1 hmem
    exact ⟨x, hx, hxk⟩

theorem MapOf.drop {d : TypeDesc} {es : Array MapEntry} {f : Value → Option Value} (h : MapOf d es f) {k : Value} {j : Nat} {e : MapEntry} (hj : es.toList[j]? = some e) (he : e.key = k) : MapOf d (es.eraseIdxIfInBounds j) (fdel f k) := by
  subst he
  have hlt : j < es.size := by simpa using (List.getElem?_eq_some_iff.1 hj).1
  have hl : (es.eraseIdxIfInBounds j).toList = es.toList.eraseIdx j := by
    unfold Array.eraseIdxIfInBounds
    rw [dif_pos hlt]
    simp
  have hsub := List.eraseIdx_sublist es.toList j
  refine ⟨fun x hx => ?_, ?_, fun x hx => ?_, fun q u hq => ?_⟩
  · rw [hl] at hx
    exact h.key x (hsub.subset hx)
  · rw [hl]
    exact (hsub.map _).nodup h.nodup
  · rw [hl] at hx
    obtain ⟨i, hne, hi⟩ := List.mem_eraseIdx_iff_getElem?.1 hx
    simp [fdel, h.other hj hi hne, h.val x (hsub.subset hx)]
  · by_cases hqk : q = e.key
    · simp [fdel, hqk] at hq
    · simp only [fdel, if_neg hqk] at hq
      obtain ⟨x, hx, hxk⟩ := h.has q u hq
      obtain ⟨i, hi⟩ := List.getElem?_of_mem hx
      refine ⟨x, ?_, hxk⟩
      rw [hl]
      refine List.mem_eraseIdx_iff_getElem?.2 ⟨i, fun hij => hqk ?_, hi⟩
      subst hij
      rw [hj] at hi
      cases hi
      exact hxk.symm

theorem MapOf.drop_none {d : TypeDesc} {es : Array MapEntry} {f : Value → Option Value} (h : MapOf d es f) {k : Value} (hf : f k = none) : MapOf d es (fdel f k) := h.congr fun q => by
  by_cases hq : q = k
  · simp [fdel, hq, hf]
  · simp [fdel, hq]

/-! The operations. -/
def lookOf (n : Nat) (ops : Array Oper) (E : Env) (i : Nat) : Option (Value × Value × TypeId × Bool × Option Tmp) :=
  match ops[i]? with
  | none => none
  | some o => if dstOk n o.dst then match o.guard with
    | some _ => none
    | none => match o.op with
      | .lookup t m x c => match opsOk E none [m, x] with
        | some [] => some (rho E m, rho E x, t, c, o.dst)
        | _ => none
      | _ => none
    else none
def putOf (n : Nat) (ops : Array Oper) (E : Env) (i : Nat) : Option (Value × Value × Value × TypeId × Option Tmp) :=
  match ops[i]? with
  | none => none
  | some o => if dstOk n o.dst then match o.guard with
    | some _ => none
    | none => match o.op with
      | .mapUpdate t m x v => match opsOk E none [m, x, v] with
        | some [] => some (rho E m, rho E x, rho E v, t, o.dst)
        | _ => none
      | _ => none
    else none
def delOf (n : Nat) (ops : Array Oper) (E : Env) (i : Nat) : Option (Value × Value × TypeId × Option Tmp) :=
  match ops[i]? with
  | none => none
  | some o => if dstOk n o.dst then match o.guard with
    | some _ => none
    | none => match o.op with
      | .call c => match c.callee with
        | .builtin .delete => match opsOk E none c.args.toList with
          | some [] => match c.args.toList, c.argTypes.toList with
            | [s, x], [t, _] => some (rho E s, rho E x, t, o.dst)
            | _, _ => none
          | _ => none
        | _ => none
      | _ => none
    else none

section maps
variable {P : Program} {f : Func} [Pan f] {R : Act → World → Prop} {n : Nat} [Dfr n] {k : List Itm} {E : Env} {h r : List (Nat × Obj)} {F : List (List Nat × World)} {Y : Ghost}

theorem lookOf_sound {ops : Array Oper} {i : Nat} {mv xv : Value} {t : TypeId} {c : Bool} {dst : Option Tmp} (he : lookOf n ops E i = some (mv, xv, t, c, dst))
    {a : Act} {w : World} {fps : List (List Nat)} (s : StF n E h r F Y a w fps) {K : Act → World → Prop}
    (H : ∃ v' w', (Instr.lookup t mv xv c).run P w = .ok v' w' ∧ ∀ a', Ag n (E.put dst (.val v')) a' → K a' w') : wpOp P ops (wpK P f R k) i K a w := by
  unfold lookOf at he
  split at he
  · cases he
  rename_i o ho
  split at he
  case isFalse => cases he
  rename_i hd
  split at he
  · cases he
  rename_i hg
  split at he
  case h_2 => cases he
  rename_i t' m x c' hc
  split at he
  case h_2 => cases he
  rename_i hq
  simp only [Option.some.injEq, Prod.mk.injEq] at he
  obtain ⟨rfl, rfl, rfl, rfl, rfl⟩ := he
  have hev := opsOk_sound s.ag (fun c w h => by cases h) _ _ hq trivial
  have e1 : a.eval m = rho E m := hev m (by simp)
  have e2 : a.eval x = rho E x := hev x (by simp)
  obtain ⟨v', w', hrun, hk⟩ := H
  unfold wpOp
  simp only [ho]
  rw [if_pos (by simp [Region.wanted, hg])]
  refine .inl ?_
  unfold Oper.wp execOp
  simp only [hc, Sem.run_bind, Sem.run_pure, Result.andThen_ok, e1, e2, hrun]
  exact hk _ (s.ag.put hd (.val v'))

theorem putOf_sound {ops : Array Oper} {i : Nat} {mv xv vv : Value} {t : TypeId} {dst : Option Tmp} (he : putOf n ops E i = some (mv, xv, vv, t, dst))
    {a : Act} {w : World} {fps : List (List Nat)} (s : StF n E h r F Y a w fps) {K : Act → World → Prop}
    (H : ∃ w', (Instr.mapUpdate t mv xv vv).run P w = .ok () w' ∧ ∀ a', Ag n (E.put dst (.val undef)) a' → K a' w') : wpOp P ops (wpK P f R k) i K a w := by
  unfold putOf at he
  split at he
  · cases he
  rename_i o ho
  split at he
  case isFalse => cases he
  rename_i hd
  split at he
  · cases he
  rename_i hg
  split at he
  case h_2 => cases he
  rename_i t' m x v hc
  split at he
  case h_2 => cases he
  rename_i hq
  simp only [Option.some.injEq, Prod.mk.injEq] at he
  obtain ⟨rfl, rfl, rfl, rfl, rfl⟩ := he
  have hev := opsOk_sound s.ag (fun c w h => by cases h) _ _ hq trivial
  have e1 : a.eval m = rho E m := hev m (by simp)
  have e2 : a.eval x = rho E x := hev x (by simp)
  have e3 : a.eval v = rho E v := hev v (by simp)
  obtain ⟨w', hrun, hk⟩ := H
  unfold wpOp
  simp only [ho]
  rw [if_pos (by simp [Region.wanted, hg])]
  refine .inl ?_
  unfold Oper.wp execOp
  simp only [hc, Sem.run_bind, Sem.run_pure, Result.andThen_ok, e1, e2, e3, hrun]
  exact hk _ (s.ag.put hd (.val undef))

theorem delOf_sound {ops : Array Oper} {i : Nat} {mv xv : Value} {t : TypeId} {dst : Option Tmp} (he : delOf n ops E i = some (mv, xv, t, dst))
    {a : Act} {w : World} {fps : List (List Nat)} (s : StF n E h r F Y a w fps) {K : Act → World → Prop}
    (H : ∀ u ty, ∃ v' w', (Builtin.delete_ #[t, u] ty #[mv, xv]).run P w = .ok v' w' ∧ ∀ a', Ag n (E.put dst (.val v')) a' → K a' w') : wpOp P ops (wpK P f R k) i K a w := by
  unfold delOf at he
  split at he
  · cases he
  rename_i o ho
  split at he
  case isFalse => cases he
  rename_i hd
  split at he
  · cases he
  rename_i hg
  split at he
  case h_2 => cases he
  rename_i c hc
  split at he
  case h_2 => cases he
  rename_i hcal
  split at he
  case h_2 => cases he
  rename_i hq
  split at he
  case h_2 => cases he
  rename_i xs x t' u hargs htys
  simp only [Option.some.injEq, Prod.mk.injEq] at he
  obtain ⟨rfl, rfl, rfl, rfl⟩ := he
  have hev := opsOk_sound s.ag (fun c w h => by cases h) _ _ hq trivial
  have e1 : a.eval xs = rho E xs := hev xs (by rw [hargs]; simp)
  have e2 : a.eval x = rho E x := hev x (by rw [hargs]; simp)
  have hca : c.args = #[xs, x] := by rw [← Array.toArray_toList (xs := c.args), hargs]
  have hct : c.argTypes = #[t', u] := by rw [← Array.toArray_toList (xs := c.argTypes), htys]
  obtain ⟨v', w', hrun, hk⟩ := H u o.type
  unfold wpOp
  simp only [ho]
  rw [if_pos (by simp [Region.wanted, hg])]
  refine .inl ?_
  unfold Oper.wp execOp
  simp only [hc, resolve, hcal, hca, hct, invoke, builtin, Sem.run_bind, Sem.run_pure, Result.andThen_ok, List.map_toArray, List.map_cons, List.map_nil, e1, e2, hrun]
  exact hk _ (s.ag.put hd (.val v'))

def lkV (c : Bool) (v : Value) (ok : Bool) : Value := match c with
  | true => .tuple #[v, .bool ok]
  | false => v

/-- 'm[k]', 'v, ok := m[k]'. -/
theorem JR_look {id L0 i : Nat} {ck : Bool} {Wp : List (Nat × List Nat)} {rest : List (Nat × Bool)} (hn : Hn) (b t kt et : Nat) (d : TypeDesc) (key z : Value) (c : Bool) (dst : Option Tmp) {es : Array MapEntry} {clock : Nat} {g : Value → Option Value}
    (he : lookOf n (rgOf f id) E i = some (.map (some b), key, t, c, dst)) (ht : P.underlying t = some (.map kt et)) (hd : P.underlying kt = some d) (hk : IsKey d key) (hi : (P.info? et).map (·.zero) = some (some z))
    (hp : hn.get h r = some (b, .map es clock)) (hm : MapOf d es g)
    (A : g key = none → JR P f R n (rgOf f id) L0 ck rest (Wp.filter (·.1 != i)) k (E.put dst (.val (lkV c z false))) h r F Y)
    (B : ∀ v, g key = some v → JR P f R n (rgOf f id) L0 ck rest (Wp.filter (·.1 != i)) k (E.put dst (.val (lkV c v true))) h r F Y) :
    JR P f R n (rgOf f id) L0 ck ((i, false) :: rest) Wp k E h r F Y := by
  intro BB Hd fps a w s hH hR hN hW
  simp only [PW]
  have hb : w.heap[b]? = some (.map es clock) := s.own.get hp
  obtain ⟨inf, hinf, hz⟩ := Option.map_eq_some_iff.1 hi
  have hzero : (zeroValue et).run P w = .ok z w := by simp [zeroValue, typeInfo, hinf, hz]
  refine lookOf_sound he s ?_
  rcases hm.look hk with ⟨h1, h2, _⟩ | ⟨j, e, h1, _, _, h2⟩
  · refine ⟨lkV c z false, w, ?_, fun a' hA => ⟨fun _ b _ _ => rfl, ?_⟩⟩
    · cases c <;> simp [Instr.lookup, run_underlying ht, MapKept.run_getObj_map hb, MapKept.run_checkKey hd hk, MapKept.run_findKey hd h1, hzero, Result.andThen, lkV]
    · have dd := Did.refl h [] w
      rw [filter_idsW]
      exact A h2 BB Hd fps a' w (s.go hA s.own dd.dd) hH hR hN (okWp_filter hW)
  · refine ⟨lkV c e.val true, w, ?_, fun a' hA => ⟨fun _ b _ _ => rfl, ?_⟩⟩
    · cases c <;> simp [Instr.lookup, run_underlying ht, MapKept.run_getObj_map hb, MapKept.run_checkKey hd hk, MapKept.run_findKey hd h1, Result.andThen, lkV]
    · have dd := Did.refl h [] w
      rw [filter_idsW]
      exact B _ h2 BB Hd fps a' w (s.go hA s.own dd.dd) hH hR hN (okWp_filter hW)

/-- .. taken ahead. -/
theorem JR_lookr {id L0 i : Nat} {ck : Bool} {Wp : List (Nat × List Nat)} {rest : List (Nat × Bool)} (hn : Hn) (b t kt et : Nat) (d : TypeDesc) (key z : Value) (c : Bool) (dst : Option Tmp) {es : Array MapEntry} {clock : Nat} {g : Value → Option Value}
    (he : lookOf n (rgOf f id) E i = some (.map (some b), key, t, c, dst)) (hok : (!ck || okR L0 (Wp.filter fun y => !later (rgOf f id) i 3 y.1) [hn]) = true) (ht : P.underlying t = some (.map kt et)) (hd : P.underlying kt = some d) (hk : IsKey d key) (hi : (P.info? et).map (·.zero) = some (some z))
    (hp : hn.get h r = some (b, .map es clock)) (hm : MapOf d es g)
    (A : g key = none → JR P f R n (rgOf f id) L0 ck rest Wp k (E.put dst (.val (lkV c z false))) h r F Y)
    (B : ∀ v, g key = some v → JR P f R n (rgOf f id) L0 ck rest Wp k (E.put dst (.val (lkV c v true))) h r F Y) :
    JR P f R n (rgOf f id) L0 ck ((i, true) :: rest) Wp k E h r F Y := by
  intro BB Hd fps a w s hH hR hN hW
  simp only [PW]
  obtain ⟨inf, hinf, hz⟩ := Option.map_eq_some_iff.1 hi
  have hzero : ∀ w, (zeroValue et).run P w = .ok z w := fun w => by simp [zeroValue, typeInfo, hinf, hz]
  have hus : used h r [hn] = [(b, .map es clock)] := by simp [used, hp]
  have hHp : Hp (used h r [hn]) w := fun y hy => by
    obtain ⟨hn', _, hg⟩ := List.mem_filterMap.1 hy
    exact s.own.get hg
  unfold lookOf at he
  split at he
  · cases he
  rename_i o ho
  split at he
  case isFalse => cases he
  rename_i hdst
  split at he
  · cases he
  rename_i hg
  split at he
  case h_2 => cases he
  rename_i t' m x c' hc
  split at he
  case h_2 => cases he
  rename_i hq
  simp only [Option.some.injEq, Prod.mk.injEq] at he
  obtain ⟨e1, e2, rfl, rfl, rfl⟩ := he
  have hev := opsOk_sound s.ag (fun c w h => by cases h) _ _ hq trivial
  have e1 : a.eval m = .map (some b) := (hev m (by simp)).trans e1
  have e2 : a.eval x = key := (hev x (by simp)).trans e2
  have fin : ∀ v, (∀ w, Hp (used h r [hn]) w → (Instr.lookup t' (.map (some b)) key c').run P w = .ok v w) → JR P f R n (rgOf f id) L0 ck rest Wp k (E.put o.dst (.val v)) h r F Y →
      ∃ o' v' us, (rgOf f id)[i]? = some o' ∧ YieldsIf P (rgOf f id) (Hp us) o' v' a ∧ Hp us w ∧ (ck = true → ∀ y ∈ idsW Hd h Wp, later (rgOf f id) i 3 y.1 = true ∨ ∀ x ∈ us, x.1 < BB ∧ x.1 ∉ y.2) ∧ PW P (rgOf f id) (wpK P f R k) BB ck rest (idsW Hd h Wp) (a.put o'.dst v') w := fun v hv H => by
    refine ⟨o, v, used h r [hn], ho, .inl ⟨by simp [Region.wanted, hg], fun w hw => ?_⟩, hHp, fun hck y hy => okR_later (fun j => later (rgOf f id) i 3 j) s.own hR (by simpa [hck] using hok) y hy, ?_⟩
    · unfold execOp
      simp only [hc, Sem.run_bind, Sem.run_pure, Result.andThen_ok, e1, e2, hv w hw]
    · exact H BB Hd fps _ w ⟨s.ag.put hdst (.val v), s.own, s.fr, s.may, s.gh⟩ hH hR hN hW
  have hbw : ∀ w, Hp (used h r [hn]) w → w.heap[b]? = some (.map es clock) := fun w hw => hw (b, .map es clock) (by rw [hus]; simp)
  rcases hm.look hk with ⟨h1, h2, _⟩ | ⟨j, e, h1, _, _, h2⟩
  · refine fin (lkV c' z false) (fun w hw => ?_) (A h2)
    cases c' <;> simp [Instr.lookup, run_underlying ht, MapKept.run_getObj_map (hbw w hw), MapKept.run_checkKey hd hk, MapKept.run_findKey hd h1, hzero, Result.andThen, lkV]
  · refine fin (lkV c' e.val true) (fun w hw => ?_) (B _ h2)
    cases c' <;> simp [Instr.lookup, run_underlying ht, MapKept.run_getObj_map (hbw w hw), MapKept.run_checkKey hd hk, MapKept.run_findKey hd h1, Result.andThen, lkV]

theorem JR_setmap {id L0 i p b : Nat} {ck : Bool} {Wp : List (Nat × List Nat)} {rest : List (Nat × Bool)} {dst : Option Tmp} {v : Value} {o o' : Obj} (hok : (!ck || okW L0 (Wp.lookup i) [p]) = true) (hp : h[p]? = some (b, o))
    {BB : Nat} {Hd : List Nat} {a a' : Act} {w : World} {fps : List (List Nat)} (s : StF n E h r F Y a w fps) (hH : ∀ b ∈ fps.flatten, b ∈ Hd ∨ BB ≤ b) (hR : RI Hd BB L0 h r w) (hN : New BB L0 h) (hW : okWp L0 Wp = true) (hA : Ag n (E.put dst (.val v)) a')
    (H : JR P f R n (rgOf f id) L0 ck rest (Wp.filter (·.1 != i)) k (E.put dst (.val v)) (h.set p (b, o')) r F Y) :
    (ck = true → BG BB ((idsW Hd h Wp).lookup i) w { w with heap := w.heap.setIfInBounds b o' }) ∧ PW P (rgOf f id) (wpK P f R k) BB ck rest ((idsW Hd h Wp).filter (·.1 != i)) a' { w with heap := w.heap.setIfInBounds b o' } := by
  have d : Did h (h.set p (b, o')) [p] w { w with heap := w.heap.setIfInBounds b o' } := did_set hp (List.mem_singleton.2 rfl)
  have hO := own_set (o' := o') s.own hp
  refine ⟨fun hck => okW_sound d (by simpa [hck] using hok) hN, ?_⟩
  rw [filter_idsW, ← idsW_did hR.len d _ (okWp_filter hW)]
  exact H BB Hd fps a' _ (s.go hA hO d.dd) hH (hR.did d) (hN.did hR.size d) (okWp_filter hW)

/-- 'm[k] = v'. -/
theorem JR_put {id L0 i : Nat} {ck : Bool} {Wp : List (Nat × List Nat)} {rest : List (Nat × Bool)} (p b t kt et : Nat) (d : TypeDesc) (key val : Value) (dst : Option Tmp) {es : Array MapEntry} {clock : Nat} {g : Value → Option Value}
    (he : putOf n (rgOf f id) E i = some (.map (some b), key, val, t, dst)) (hok : (!ck || okW L0 (Wp.lookup i) [p]) = true) (ht : P.underlying t = some (.map kt et)) (hd : P.underlying kt = some d) (hk : IsKey d key)
    (hp : h[p]? = some (b, .map es clock)) (hm : MapOf d es g)
    (A : ∀ es' clock', MapOf d es' (fput g key val) → es'.size ≤ es.size + 1 → JR P f R n (rgOf f id) L0 ck rest (Wp.filter (·.1 != i)) k (E.put dst (.val undef)) (h.set p (b, .map es' clock')) r F Y) :
    JR P f R n (rgOf f id) L0 ck ((i, false) :: rest) Wp k E h r F Y := by
  intro BB Hd fps a w s hH hR hN hW
  simp only [PW]
  have hb : w.heap[b]? = some (.map es clock) := s.own.own _ (List.mem_of_getElem? hp)
  refine putOf_sound he s ?_
  rcases hm.look hk with ⟨h1, _, h2⟩ | ⟨j, e, h1, h2, h3, _⟩
  · refine ⟨{ w with heap := w.heap.setIfInBounds b (.map (es.push ⟨key, val, clock⟩) (clock + 1)) }, ?_, fun a' hA => JR_setmap hok hp s hH hR hN hW hA (A _ _ (hm.push hk h2) (by simp))⟩
    simp [Instr.mapUpdate, run_underlying ht, MapKept.run_getObj_map hb, MapKept.run_checkKey hd hk, MapKept.run_findKey hd h1, MapKept.run_setObj_map _ hb, Result.andThen]
  · have hj : es[j]? = some e := by simpa using h2
    refine ⟨{ w with heap := w.heap.setIfInBounds b (.map (es.modify j fun x => { x with key := key, val := val }) clock) }, ?_, fun a' hA => JR_setmap hok hp s hH hR hN hW hA (A _ _ (hm.turn h2 h3) (by simp))⟩
    simp [Instr.mapUpdate, run_underlying ht, MapKept.run_getObj_map hb, MapKept.run_checkKey hd hk, MapKept.run_findKey hd h1, hj, h3, run_keyThatStays hk, MapKept.run_setObj_map _ hb, Result.andThen]

/-- 'delete(m, k)'. -/
theorem JR_del {id L0 i : Nat} {ck : Bool} {Wp : List (Nat × List Nat)} {rest : List (Nat × Bool)} (p b t kt et : Nat) (d : TypeDesc) (key : Value) (dst : Option Tmp) {es : Array MapEntry} {clock : Nat} {g : Value → Option Value}
    (he : delOf n (rgOf f id) E i = some (.map (some b), key, t, dst)) (hok : (!ck || okW L0 (Wp.lookup i) [p]) = true) (ht : P.underlying t = some (.map kt et)) (hd : P.underlying kt = some d) (hk : IsKey d key)
    (hp : h[p]? = some (b, .map es clock)) (hm : MapOf d es g)
    (A : ∀ es', MapOf d es' (fdel g key) → es'.size ≤ es.size → JR P f R n (rgOf f id) L0 ck rest (Wp.filter (·.1 != i)) k (E.put dst (.val (.tuple #[]))) (h.set p (b, .map es' clock)) r F Y) :
    JR P f R n (rgOf f id) L0 ck ((i, false) :: rest) Wp k E h r F Y := by
  intro BB Hd fps a w s hH hR hN hW
  simp only [PW]
  have hb : w.heap[b]? = some (.map es clock) := s.own.own _ (List.mem_of_getElem? hp)
  refine delOf_sound he s fun u ty => ?_
  rcases hm.look hk with ⟨h1, h2, _⟩ | ⟨j, e, h1, h2, h3, _⟩
  · refine ⟨.tuple #[], { w with heap := w.heap.setIfInBounds b (.map es clock) }, ?_, fun a' hA => JR_setmap hok hp s hH hR hN hW hA (A _ (hm.drop_none h2) (Nat.le_refl _))⟩
    simp [Builtin.delete_, run_underlying ht, MapKept.run_getObj_map hb, MapKept.run_checkKey hd hk, MapKept.run_findKey hd h1, MapKept.run_setObj_map _ hb, Result.andThen]
  · refine ⟨.tuple #[], { w with heap := w.heap.setIfInBounds b (.map (es.eraseIdxIfInBounds j) clock) }, ?_, fun a' hA => JR_setmap hok hp s hH hR hN hW hA (A _ (hm.drop h2 h3) ?_)⟩
    · simp [Builtin.delete_, run_underlying ht, MapKept.run_getObj_map hb, MapKept.run_checkKey hd hk, MapKept.run_findKey hd h1, MapKept.run_setObj_map _ hb, Result.andThen]
    · unfold Array.eraseIdxIfInBounds
      split <;> simp
end maps
end Go.Sx
