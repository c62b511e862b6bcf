/- The engine of our walks, part 15 (with ghosts): maps whose keys are of any kind; a nil map read. (Made by mkx15.py out of part 10.) -/
import Derived.Test.YtahbmdchcbnolaaDoorTx12
namespace Go.Sx
open Go Go.MapKept

/-- What keys of a type must be like, and how they are looked for. -/
structure KeyOk (P : Program) (kt : TypeId) (ok : Value → Prop) : Prop where
  chk : ∀ (b : Bool) (k : Value), ok k → ∀ w, (Instr.checkKey b 10000 kt k).run P w = .ok () w
  find : ∀ (k : Value) (es : List MapEntry), ok k → (∀ x ∈ es, ok x.key) → ((∀ w, (Instr.findKey kt k es).run P w = .ok none w) ∧ ∀ x ∈ es, x.key ≠ k) ∨ ∃ j e, (∀ w, (Instr.findKey kt k es).run P w = .ok (some (j, e.val)) w) ∧ es[j]? = some e ∧ e.key = k
  stays : ∀ k, ok k → ∀ w, (Instr.keyThatStays k k).run P w = .ok k w
theorem KeyOk.plain {P : Program} {kt : TypeId} {d : TypeDesc} (hd : P.underlying kt = some d) : KeyOk P kt (IsKey d) where
  chk b k hk w := run_checkKey hd hk b 9999
  find k es hk hes := by
    rcases findNow_spec hk es 0 hes with ⟨h1, h2⟩ | ⟨j, e, h1, h2, h3⟩
    · exact .inl ⟨fun w => run_findKey hd h1, h2⟩
    · rw [Nat.zero_add] at h1
      exact .inr ⟨j, e, fun w => run_findKey hd h1, h2, h3⟩
  stays k hk w := run_keyThatStays hk
theorem findAsking_spec {P : Program} {kt : TypeId} {ok : Value → Prop} (heq : ∀ x y, ok x → ok y → ∃ b : Bool, (∀ w, (Op.equal kt x y).run P w = .ok b w) ∧ (b = true ↔ x = y)) {k : Value} (hk : ok k) : ∀ (l : List MapEntry) (i : Nat), (∀ x ∈ l, ok x.key) →
    ((∀ w, (Instr.findAsking kt k l i).run P w = .ok none w) ∧ ∀ x ∈ l, x.key ≠ k) ∨ ∃ j e, (∀ w, (Instr.findAsking kt k l i).run P w = .ok (some (i + j, e.val)) w) ∧ l[j]? = some e ∧ e.key = k
  | [], _, _ => .inl ⟨fun _ => rfl, by simp⟩
  | e :: es, i, h => by
    obtain ⟨b, hb, hiff⟩ := heq k e.key hk (h e (.head _))
    cases b with
    | true =>
      refine .inr ⟨0, e, fun w => ?_, rfl, (hiff.1 rfl).symm⟩
      simp [Instr.findAsking, hb, Result.andThen]
    | false =>
      have hne : e.key ≠ k := fun he => by
        have := hiff.2 he.symm
        cases this
      rcases findAsking_spec heq hk es (i + 1) fun x hx => h x (.tail _ hx) with ⟨h1, h2⟩ | ⟨j, e', h1, h2, h3⟩
      · refine .inl ⟨fun w => ?_, fun x hx => ?_⟩
        · simp [Instr.findAsking, hb, Result.andThen, h1]
        · rcases List.mem_cons.1 hx with rfl | hx
          · exact hne
          · exact h2 x hx
      · refine .inr ⟨j + 1, e', fun w => ?_, by simpa using h2, h3⟩
        simp [Instr.findAsking, hb, Result.andThen, h1]
        omega
theorem KeyOk.asking {P : Program} {kt : TypeId} {ok : Value → Prop} {d : TypeDesc} (hd : P.underlying kt = some d) (hn : ∀ x y, ok x → ok y → Instr.sameNow d x y = none)
    (chk : ∀ (b : Bool) (k : Value), ok k → ∀ w, (Instr.checkKey b 10000 kt k).run P w = .ok () w) (heq : ∀ x y, ok x → ok y → ∃ b : Bool, (∀ w, (Op.equal kt x y).run P w = .ok b w) ∧ (b = true ↔ x = y))
    (stays : ∀ k, ok k → Instr.sameBits 10000 k k = true) : KeyOk P kt ok where
  chk := chk
  find k es hk hes := by
    cases es with
    | nil => exact .inl ⟨fun w => by simp [Instr.findKey, run_underlying hd, Result.andThen, Instr.findNow], by simp⟩
    | cons e es =>
      have h0 : Instr.findNow d k (e :: es) 0 = none := by simp [Instr.findNow, hn k e.key hk (hes e (.head _))]
      rcases findAsking_spec heq hk (e :: es) 0 hes with ⟨h1, h2⟩ | ⟨j, e', h1, h2, h3⟩
      · exact .inl ⟨fun w => by simp [Instr.findKey, run_underlying hd, Result.andThen, h0, h1], h2⟩
      · rw [Nat.zero_add] at h1
        exact .inr ⟨j, e', fun w => by simp [Instr.findKey, run_underlying hd, Result.andThen, h0, h1], h2, h3⟩
  stays k hk w := by simp [Instr.keyThatStays, stays k hk]
theorem key_modify {ok : Value → Prop} {es : Array MapEntry} (h : ∀ x ∈ es.toList, ok x.key) (i : Nat) (f : MapEntry → MapEntry) (hk : ∀ e, es[i]? = some e → (f e).key = e.key) : ∀ x ∈ (es.modify i f).toList, ok x.key := by
  intro x hx
  have : x.key ∈ (es.modify i f).toList.map (·.key) := List.mem_map.2 ⟨x, hx, rfl⟩
  rw [modify_keys i f hk] at this
  obtain ⟨y, hy, e⟩ := List.mem_map.1 this
  rw [← e]; exact h y hy

/-- The entries es are the function f's. -/
structure MapG (ok : Value → Prop) (es : Array MapEntry) (f : Value → Option Value) : Prop where
  key : ∀ x ∈ es.toList, ok x.key
  nodup : (es.toList.map (·.key)).Nodup
  val : ∀ x ∈ es.toList, f x.key = some x.val
  has : ∀ k v, f k = some v → ∃ x ∈ es.toList, x.key = k
theorem MapG.empty (ok : Value → Prop) : MapG ok #[] (fun _ => none) := ⟨by simp, by simp, by simp, by simp⟩
theorem MapG.congr {ok : Value → Prop} {es : Array MapEntry} {f g : Value → Option Value} (h : MapG ok es f) (hfg : ∀ k, f k = g k) : MapG ok es g := by
  obtain rfl : f = g := funext hfg
  exact h
theorem MapG.look {P : Program} {kt : TypeId} {ok : Value → Prop} (hK : KeyOk P kt ok) {es : Array MapEntry} {f : Value → Option Value} (h : MapG ok es f) {k : Value} (hk : ok k) :
    ((∀ w, (Instr.findKey kt k es.toList).run P w = .ok none w) ∧ f k = none ∧ ∀ x ∈ es.toList, x.key ≠ k) ∨ ∃ j e, (∀ w, (Instr.findKey kt k es.toList).run P w = .ok (some (j, e.val)) w) ∧ es.toList[j]? = some e ∧ e.key = k ∧ f k = some e.val := by
  rcases hK.find k es.toList hk h.key with ⟨h1, h2⟩ | ⟨j, e, h1, h2, h3⟩
  · refine .inl ⟨h1, ?_, h2⟩
    cases hf : f k with
    | none => rfl
    | some v =>
      obtain ⟨x, hx, hxk⟩ := h.has k v hf
      exact absurd hxk (h2 x hx)
  · refine .inr ⟨j, e, h1, h2, h3, ?_⟩
    rw [← h3]
    exact h.val e (List.mem_of_getElem? h2)

theorem MapG.other {ok : Value → Prop} {es : Array MapEntry} {f : Value → Option Value} (h : MapG ok es f) {j i : Nat} {e x : MapEntry} (hj : es.toList[j]? = some e) (hi : es.toList[i]? = some x) (hne : i ≠ j) : x.key ≠ e.key := by
  intro he
  have h1 : (es.toList.map (·.key))[i]? = some x.key := by rw [List.getElem?_map, hi]; rfl
  have h2 : (es.toList.map (·.key))[j]? = some x.key := by rw [List.getElem?_map, hj, he]; rfl
  exact hne ((List.getElem?_inj (List.getElem?_eq_some_iff.1 h1).1 h.nodup).1 (h1.trans h2.symm))

theorem MapG.push {ok : Value → Prop} {es : Array MapEntry} {f : Value → Option Value} (h : MapG ok es f) {k v : Value} {born : Nat} (hk : ok k) (hn : ∀ x ∈ es.toList, x.key ≠ k) : MapG ok (es.push ⟨k, v, born⟩) (fput f k v) := by
  refine ⟨fun x hx => ?_, ?_, fun x hx => ?_, fun q u hq => ?_⟩
  · simp only [Array.toList_push, List.mem_append, List.mem_singleton] at hx
    rcases hx with hx | rfl
    · exact h.key x hx
    · exact hk
  · simp only [Array.toList_push, List.map_append, List.map_cons, List.map_nil]
    refine List.nodup_append.2 ⟨h.nodup, by simp, fun a ha b hb => ?_⟩
    simp only [List.mem_singleton] at hb
    subst hb
    obtain ⟨x, hx, rfl⟩ := List.mem_map.1 ha
    exact hn x hx
  · simp only [Array.toList_push, List.mem_append, List.mem_singleton] at hx
    rcases hx with hx | rfl
    · simp [fput, hn x hx, h.val x hx]
    · simp [fput]
  · by_cases hqk : q = k
    · exact ⟨⟨k, v, born⟩, by simp, hqk.symm⟩
    · simp only [fput, if_neg hqk] at hq
      obtain ⟨x, hx, hxk⟩ := h.has q u hq
      exact ⟨x, by simp [hx], hxk⟩

theorem MapG.turn {ok : Value → Prop} {es : Array MapEntry} {f : Value → Option Value} (h : MapG ok es f) {k v : Value} {j : Nat} {e : MapEntry} (hj : es.toList[j]? = some e) (he : e.key = k) : MapG ok (es.modify j fun x => { x with key := k, val := v }) (fput f k v) := by
  subst he
  have hj' : es[j]? = some e := by simpa using hj
  have hkeys : (es.modify j fun x => { x with key := e.key, val := v }).toList.map (·.key) = es.toList.map (·.key) := modify_keys j _ (fun x hx => by rw [hj'] at hx; cases hx; rfl)
  have who : ∀ x ∈ (es.modify j fun x => { x with key := e.key, val := v }).toList, (x.key = e.key ∧ x.val = v) ∨ (x ∈ es.toList ∧ x.key ≠ e.key) := fun x hx => by
    obtain ⟨i, hi⟩ := List.getElem?_of_mem hx
    rw [Array.getElem?_toList, Array.getElem?_modify] at hi
    by_cases hij : j = i
    · subst hij
      rw [if_pos rfl, hj'] at hi
      simp only [Option.map_some, Option.some.injEq] at hi
      rw [← hi]
      exact .inl ⟨rfl, rfl⟩
    · rw [if_neg hij] at hi
      exact .inr ⟨Array.mem_toList_iff.2 (Array.mem_of_getElem? hi), h.other hj (by simpa using hi) (Ne.symm hij)⟩
  refine ⟨key_modify h.key j _ (fun x hx => by rw [hj'] at hx; cases hx; rfl), by rw [hkeys]; exact h.nodup, fun x hx => ?_, fun q u hq => ?_⟩
  · rcases who x hx with ⟨h1, h2⟩ | ⟨h1, h2⟩
    · simp [fput, h1, h2]
    · simp [fput, h2, h.val x h1]
  · have hmem : q ∈ es.toList.map (·.key) := by
      by_cases hqk : q = e.key
      · rw [hqk]; exact List.mem_map.2 ⟨e, List.mem_of_getElem? hj, rfl⟩
      · simp only [fput, if_neg hqk] at hq
        obtain ⟨x, hx, hxk⟩ := h.has q u hq
        exact List.mem_map.2 ⟨x, hx, hxk⟩
    rw [← hkeys] at hmem
    obtain ⟨x, hx, hxk⟩ := List.mem_map.1 hmem
    exact ⟨x, hx, hxk⟩

theorem MapG.drop {ok : Value → Prop} {es : Array MapEntry} {f : Value → Option Value} (h : MapG ok es f) {k : Value} {j : Nat} {e : MapEntry} (hj : es.toList[j]? = some e) (he : e.key = k) : MapG ok (es.eraseIdxIfInBounds j) (fdel f k) := by
  subst he
  have hlt : j < es.size := by simpa using (List.getElem?_eq_some_iff.1 hj).1
  have hl : (es.eraseIdxIfInBounds j).toList = es.toList.eraseIdx j := by
    unfold Array.eraseIdxIfInBounds
    rw [dif_pos hlt]
    simp
  have hsub := List.eraseIdx_sublist es.toList j
  refine ⟨fun x hx => ?_, ?_, fun x hx => ?_, fun q u hq => ?_⟩
  · rw [hl] at hx
    exact h.key x (hsub.subset hx)
  · rw [hl]
    exact (hsub.map _).nodup h.nodup
  · rw [hl] at hx
    obtain ⟨i, hne, hi⟩ := List.mem_eraseIdx_iff_getElem?.1 hx
    simp [fdel, h.other hj hi hne, h.val x (hsub.subset hx)]
  · by_cases hqk : q = e.key
    · simp [fdel, hqk] at hq
    · simp only [fdel, if_neg hqk] at hq
      obtain ⟨x, hx, hxk⟩ := h.has q u hq
      obtain ⟨i, hi⟩ := List.getElem?_of_mem hx
      refine ⟨x, ?_, hxk⟩
      rw [hl]
      refine List.mem_eraseIdx_iff_getElem?.2 ⟨i, fun hij => hqk ?_, hi⟩
      subst hij
      rw [hj] at hi
      cases hi
      exact hxk.symm

theorem MapG.drop_none {ok : Value → Prop} {es : Array MapEntry} {f : Value → Option Value} (h : MapG ok es f) {k : Value} (hf : f k = none) : MapG ok es (fdel f k) := h.congr fun q => by
  by_cases hq : q = k
  · simp [fdel, hq, hf]
  · simp [fdel, hq]


section maps
variable {P : Program} {f : Func} [Pan f] {R : Act → World → Prop} {n : Nat} [Dfr n] {k : List Itm} {E : Env} {h r : List (Nat × Obj)} {F : List (List Nat × World)} {Y : Ghost}

/-- A nil map read. -/
theorem JRg_looknil {id L0 i : Nat} {ck : Bool} {Wp : List (Nat × List Nat)} {rest : List (Nat × Bool)} (t kt et : Nat) (ok : Value → Prop) (key z : Value) (c : Bool) (dst : Option Tmp)
    (he : lookOf n (rgOf f id) E i = some (.map none, key, t, c, dst)) (ht : P.underlying t = some (.map kt et)) (hK : KeyOk P kt ok) (hk : ok key) (hi : (P.info? et).map (·.zero) = some (some z))
    (A : JR P f R n (rgOf f id) L0 ck rest (Wp.filter (·.1 != i)) k (E.put dst (.val (lkV c z false))) h r F Y) :
    JR P f R n (rgOf f id) L0 ck ((i, false) :: rest) Wp k E h r F Y := by
  intro BB Hd fps a w s hH hR hN hW
  simp only [PW]
  obtain ⟨inf, hinf, hz⟩ := Option.map_eq_some_iff.1 hi
  have hzero : (zeroValue et).run P w = .ok z w := by simp [zeroValue, typeInfo, hinf, hz]
  refine lookOf_sound he s ⟨lkV c z false, w, ?_, fun a' hA => ⟨fun _ b _ _ => rfl, ?_⟩⟩
  · have h1 : (Instr.findKey kt key []).run P w = .ok none w := by
      rcases hK.find key [] hk (by simp) with ⟨h1, _⟩ | ⟨j, e, _, h2, _⟩
      · exact h1 w
      · simp at h2
    cases c <;> simp [Instr.lookup, run_underlying ht, hK.chk _ _ hk, h1, hzero, Result.andThen, lkV]
  · have dd := Did.refl h [] w
    rw [filter_idsW]
    exact A BB Hd fps a' w (s.go hA s.own dd.dd) hH hR hN (okWp_filter hW)

/-- 'm[k]', 'v, ok := m[k]'. -/
theorem JRg_look {id L0 i : Nat} {ck : Bool} {Wp : List (Nat × List Nat)} {rest : List (Nat × Bool)} (hn : Hn) (b t kt et : Nat) (ok : Value → Prop) (key z : Value) (c : Bool) (dst : Option Tmp) {es : Array MapEntry} {clock : Nat} {g : Value → Option Value}
    (he : lookOf n (rgOf f id) E i = some (.map (some b), key, t, c, dst)) (ht : P.underlying t = some (.map kt et)) (hK : KeyOk P kt ok) (hk : ok key) (hi : (P.info? et).map (·.zero) = some (some z))
    (hp : hn.get h r = some (b, .map es clock)) (hm : MapG ok es g)
    (A : g key = none → JR P f R n (rgOf f id) L0 ck rest (Wp.filter (·.1 != i)) k (E.put dst (.val (lkV c z false))) h r F Y)
    (B : ∀ v, g key = some v → JR P f R n (rgOf f id) L0 ck rest (Wp.filter (·.1 != i)) k (E.put dst (.val (lkV c v true))) h r F Y) :
    JR P f R n (rgOf f id) L0 ck ((i, false) :: rest) Wp k E h r F Y := by
  intro BB Hd fps a w s hH hR hN hW
  simp only [PW]
  have hb : w.heap[b]? = some (.map es clock) := s.own.get hp
  obtain ⟨inf, hinf, hz⟩ := Option.map_eq_some_iff.1 hi
  have hzero : (zeroValue et).run P w = .ok z w := by simp [zeroValue, typeInfo, hinf, hz]
  refine lookOf_sound he s ?_
  rcases hm.look hK hk with ⟨h1, h2, _⟩ | ⟨j, e, h1, _, _, h2⟩
  · refine ⟨lkV c z false, w, ?_, fun a' hA => ⟨fun _ b _ _ => rfl, ?_⟩⟩
    · cases c <;> simp [Instr.lookup, run_underlying ht, MapKept.run_getObj_map hb, hK.chk _ _ hk, h1, hzero, Result.andThen, lkV]
    · have dd := Did.refl h [] w
      rw [filter_idsW]
      exact A h2 BB Hd fps a' w (s.go hA s.own dd.dd) hH hR hN (okWp_filter hW)
  · refine ⟨lkV c e.val true, w, ?_, fun a' hA => ⟨fun _ b _ _ => rfl, ?_⟩⟩
    · cases c <;> simp [Instr.lookup, run_underlying ht, MapKept.run_getObj_map hb, hK.chk _ _ hk, h1, Result.andThen, lkV]
    · have dd := Did.refl h [] w
      rw [filter_idsW]
      exact B _ h2 BB Hd fps a' w (s.go hA s.own dd.dd) hH hR hN (okWp_filter hW)

/-- .. taken ahead. -/
theorem JRg_lookr {id L0 i : Nat} {ck : Bool} {Wp : List (Nat × List Nat)} {rest : List (Nat × Bool)} (hn : Hn) (b t kt et : Nat) (ok : Value → Prop) (key z : Value) (c : Bool) (dst : Option Tmp) {es : Array MapEntry} {clock : Nat} {g : Value → Option Value}
    (he : lookOf n (rgOf f id) E i = some (.map (some b), key, t, c, dst)) (hok : (!ck || okR L0 (Wp.filter fun y => !later (rgOf f id) i 3 y.1) [hn]) = true) (ht : P.underlying t = some (.map kt et)) (hK : KeyOk P kt ok) (hk : ok key) (hi : (P.info? et).map (·.zero) = some (some z))
    (hp : hn.get h r = some (b, .map es clock)) (hm : MapG ok es g)
    (A : g key = none → JR P f R n (rgOf f id) L0 ck rest Wp k (E.put dst (.val (lkV c z false))) h r F Y)
    (B : ∀ v, g key = some v → JR P f R n (rgOf f id) L0 ck rest Wp k (E.put dst (.val (lkV c v true))) h r F Y) :
    JR P f R n (rgOf f id) L0 ck ((i, true) :: rest) Wp k E h r F Y := by
  intro BB Hd fps a w s hH hR hN hW
  simp only [PW]
  obtain ⟨inf, hinf, hz⟩ := Option.map_eq_some_iff.1 hi
  have hzero : ∀ w, (zeroValue et).run P w = .ok z w := fun w => by simp [zeroValue, typeInfo, hinf, hz]
  have hus : used h r [hn] = [(b, .map es clock)] := by simp [used, hp]
  have hHp : Hp (used h r [hn]) w := fun y hy => by
    obtain ⟨hn', _, hg⟩ := List.mem_filterMap.1 hy
    exact s.own.get hg
  unfold lookOf at he
  split at he
  · cases he
  rename_i o ho
  split at he
  case isFalse => cases he
  rename_i hdst
  split at he
  · cases he
  rename_i hg
  split at he
  case h_2 => cases he
  rename_i t' m x c' hc
  split at he
  case h_2 => cases he
  rename_i hq
  simp only [Option.some.injEq, Prod.mk.injEq] at he
  obtain ⟨e1, e2, rfl, rfl, rfl⟩ := he
  have hev := opsOk_sound s.ag (fun c w h => by cases h) _ _ hq trivial
  have e1 : a.eval m = .map (some b) := (hev m (by simp)).trans e1
  have e2 : a.eval x = key := (hev x (by simp)).trans e2
  have fin : ∀ v, (∀ w, Hp (used h r [hn]) w → (Instr.lookup t' (.map (some b)) key c').run P w = .ok v w) → JR P f R n (rgOf f id) L0 ck rest Wp k (E.put o.dst (.val v)) h r F Y →
      ∃ o' v' us, (rgOf f id)[i]? = some o' ∧ YieldsIf P (rgOf f id) (Hp us) o' v' a ∧ Hp us w ∧ (ck = true → ∀ y ∈ idsW Hd h Wp, later (rgOf f id) i 3 y.1 = true ∨ ∀ x ∈ us, x.1 < BB ∧ x.1 ∉ y.2) ∧ PW P (rgOf f id) (wpK P f R k) BB ck rest (idsW Hd h Wp) (a.put o'.dst v') w := fun v hv H => by
    refine ⟨o, v, used h r [hn], ho, .inl ⟨by simp [Region.wanted, hg], fun w hw => ?_⟩, hHp, fun hck y hy => okR_later (fun j => later (rgOf f id) i 3 j) s.own hR (by simpa [hck] using hok) y hy, ?_⟩
    · unfold execOp
      simp only [hc, Sem.run_bind, Sem.run_pure, Result.andThen_ok, e1, e2, hv w hw]
    · exact H BB Hd fps _ w ⟨s.ag.put hdst (.val v), s.own, s.fr, s.may, s.gh⟩ hH hR hN hW
  have hbw : ∀ w, Hp (used h r [hn]) w → w.heap[b]? = some (.map es clock) := fun w hw => hw (b, .map es clock) (by rw [hus]; simp)
  rcases hm.look hK hk with ⟨h1, h2, _⟩ | ⟨j, e, h1, _, _, h2⟩
  · refine fin (lkV c' z false) (fun w hw => ?_) (A h2)
    cases c' <;> simp [Instr.lookup, run_underlying ht, MapKept.run_getObj_map (hbw w hw), hK.chk _ _ hk, h1, hzero, Result.andThen, lkV]
  · refine fin (lkV c' e.val true) (fun w hw => ?_) (B _ h2)
    cases c' <;> simp [Instr.lookup, run_underlying ht, MapKept.run_getObj_map (hbw w hw), hK.chk _ _ hk, h1, Result.andThen, lkV]

/-- 'm[k] = v'. -/
theorem JRg_put {id L0 i : Nat} {ck : Bool} {Wp : List (Nat × List Nat)} {rest : List (Nat × Bool)} (p b t kt et : Nat) (ok : Value → Prop) (key val : Value) (dst : Option Tmp) {es : Array MapEntry} {clock : Nat} {g : Value → Option Value}
    (he : putOf n (rgOf f id) E i = some (.map (some b), key, val, t, dst)) (hok : (!ck || okW L0 (Wp.lookup i) [p]) = true) (ht : P.underlying t = some (.map kt et)) (hK : KeyOk P kt ok) (hk : ok key)
    (hp : h[p]? = some (b, .map es clock)) (hm : MapG ok es g)
    (A : ∀ es' clock', MapG ok es' (fput g key val) → es'.size ≤ es.size + 1 → JR P f R n (rgOf f id) L0 ck rest (Wp.filter (·.1 != i)) k (E.put dst (.val undef)) (h.set p (b, .map es' clock')) r F Y) :
    JR P f R n (rgOf f id) L0 ck ((i, false) :: rest) Wp k E h r F Y := by
  intro BB Hd fps a w s hH hR hN hW
  simp only [PW]
  have hb : w.heap[b]? = some (.map es clock) := s.own.own _ (List.mem_of_getElem? hp)
  refine putOf_sound he s ?_
  rcases hm.look hK hk with ⟨h1, _, h2⟩ | ⟨j, e, h1, h2, h3, _⟩
  · refine ⟨{ w with heap := w.heap.setIfInBounds b (.map (es.push ⟨key, val, clock⟩) (clock + 1)) }, ?_, fun a' hA => JR_setmap hok hp s hH hR hN hW hA (A _ _ (hm.push hk h2) (by simp))⟩
    simp [Instr.mapUpdate, run_underlying ht, MapKept.run_getObj_map hb, hK.chk _ _ hk, h1, MapKept.run_setObj_map _ hb, Result.andThen]
  · have hj : es[j]? = some e := by simpa using h2
    refine ⟨{ w with heap := w.heap.setIfInBounds b (.map (es.modify j fun x => { x with key := key, val := val }) clock) }, ?_, fun a' hA => JR_setmap hok hp s hH hR hN hW hA (A _ _ (hm.turn h2 h3) (by simp))⟩
    simp [Instr.mapUpdate, run_underlying ht, MapKept.run_getObj_map hb, hK.chk _ _ hk, h1, hj, h3, hK.stays _ hk, MapKept.run_setObj_map _ hb, Result.andThen]

/-- 'delete(m, k)'. -/
theorem JRg_del {id L0 i : Nat} {ck : Bool} {Wp : List (Nat × List Nat)} {rest : List (Nat × Bool)} (p b t kt et : Nat) (ok : Value → Prop) (key : Value) (dst : Option Tmp) {es : Array MapEntry} {clock : Nat} {g : Value → Option Value}
    (he : delOf n (rgOf f id) E i = some (.map (some b), key, t, dst)) (hok : (!ck || okW L0 (Wp.lookup i) [p]) = true) (ht : P.underlying t = some (.map kt et)) (hK : KeyOk P kt ok) (hk : ok key)
    (hp : h[p]? = some (b, .map es clock)) (hm : MapG ok es g)
    (A : ∀ es', MapG ok es' (fdel g key) → es'.size ≤ es.size → JR P f R n (rgOf f id) L0 ck rest (Wp.filter (·.1 != i)) k (E.put dst (.val (.tuple #[]))) (h.set p (b, .map es' clock)) r F Y) :
    JR P f R n (rgOf f id) L0 ck ((i, false) :: rest) Wp k E h r F Y := by
  intro BB Hd fps a w s hH hR hN hW
  simp only [PW]
  have hb : w.heap[b]? = some (.map es clock) := s.own.own _ (List.mem_of_getElem? hp)
  refine delOf_sound he s fun u ty => ?_
  rcases hm.look hK hk with ⟨h1, h2, _⟩ | ⟨j, e, h1, h2, h3, _⟩
  · refine ⟨.tuple #[], { w with heap := w.heap.setIfInBounds b (.map es clock) }, ?_, fun a' hA => JR_setmap hok hp s hH hR hN hW hA (A _ (hm.drop_none h2) (Nat.le_refl _))⟩
    simp [Builtin.delete_, run_underlying ht, MapKept.run_getObj_map hb, hK.chk _ _ hk, h1, MapKept.run_setObj_map _ hb, Result.andThen]
  · refine ⟨.tuple #[], { w with heap := w.heap.setIfInBounds b (.map (es.eraseIdxIfInBounds j) clock) }, ?_, fun a' hA => JR_setmap hok hp s hH hR hN hW hA (A _ (hm.drop h2 h3) ?_)⟩
    · simp [Builtin.delete_, run_underlying ht, MapKept.run_getObj_map hb, hK.chk _ _ hk, h1, MapKept.run_setObj_map _ hb, Result.andThen]
    · unfold Array.eraseIdxIfInBounds
      split <;> simp
end maps
end Go.Sx
