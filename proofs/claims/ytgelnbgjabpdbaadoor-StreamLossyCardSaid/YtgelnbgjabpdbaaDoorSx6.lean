/- The engine of our walks, part 6: rows that grow (append); deep data that nobody turns. -/
import Derived.Test.YtgelnbgjabpdbaaDoorSx5
import Derived.Maps.AppendAt
namespace Go.Sx
open Go

/-- cur holds a row of cap places of size cells, whose first n elements are xs. -/
structure Row (cur : Array Value) (cap n size : Nat) (xs : List Value) : Prop where
  len : xs.length = n * size
  siz : cur.size = cap * size
  le : n ≤ cap
  max : cap ≤ maxLen
  take : cur.toList.take (n * size) = xs
theorem Row.at {cur : Array Value} {cap n size : Nat} {xs : List Value} (h : Row cur cap n size xs) {j : Nat} (hj : j < n * size) : cur[j]? = xs[j]? := by
  rw [← h.take, List.getElem?_take, if_pos hj]
  simp
theorem Row.zero (size : Nat) (cur : Array Value) (h : cur.size = 0 := by rfl) : Row cur 0 0 size [] := ⟨by simp, by simpa using h, Nat.le_refl _, Nat.zero_le _, by simp⟩
theorem Row.full {cs : Array Value} {n size : Nat} (hs : cs.size = n * size) (hm : n ≤ maxLen) : Row cs n n size cs.toList :=
  ⟨by simpa using hs, hs, Nat.le_refl _, hm, by rw [List.take_of_length_le]; simp [hs]⟩

def appOf (n : Nat) (ops : Array Oper) (E : Env) (i : Nat) : Option (Value × Value × TypeId × Option Tmp) :=
  match ops[i]? with
  | none => none
  | some o => if dstOk n o.dst then match o.guard with
    | some _ => none
    | none => match o.op with
      | .call c => match c.callee with
        | .builtin .append => match opsOk E none c.args.toList with
          | some [] => match c.args.toList, c.argTypes.toList with
            | [s, x], [t, u] => if Nat.beq t u then some (rho E s, rho E x, t, o.dst) else none
            | _, _ => none
          | _ => none
        | _ => none
      | _ => none
    else none

theorem appOf_sound {P : Program} {f : Func} {R : Act → World → Prop} {n : Nat} {ops : Array Oper} {i : Nat} {E : Env} {h r : List (Nat × Obj)} {F : List (List Nat × World)} {sv xv : Value} {t : TypeId} {dst : Option Tmp} (he : appOf n ops E i = some (sv, xv, t, dst))
    {a : Act} {w : World} (s : St n E h r F a w) {K : Act → World → Prop} {k : List Itm}
    (H : ∀ ty, ∃ v' w', (Builtin.append_ #[t, t] ty #[sv, xv]).run P w = .ok v' w' ∧ ∀ a', Ag n (E.put dst (.val v')) a' → K a' w') : wpOp P ops (wpK P f R k) i K a w := by
  unfold appOf at he
  split at he
  · cases he
  rename_i o ho
  split at he
  case isFalse => cases he
  rename_i hd
  split at he
  · cases he
  rename_i hg
  split at he
  case h_2 => cases he
  rename_i c hc
  split at he
  case h_2 => cases he
  rename_i hcal
  split at he
  case h_2 => cases he
  rename_i hq
  split at he
  case h_2 => cases he
  rename_i xs x t' u hargs htys
  split at he
  case isFalse => cases he
  rename_i htu
  simp only [Option.some.injEq, Prod.mk.injEq] at he
  obtain ⟨rfl, rfl, rfl, rfl⟩ := he
  obtain rfl := Nat.eq_of_beq_eq_true htu
  have hev := opsOk_sound s.ag (fun c w h => by cases h) _ _ hq trivial
  have e1 : a.eval xs = rho E xs := hev xs (by rw [hargs]; simp)
  have e2 : a.eval x = rho E x := hev x (by rw [hargs]; simp)
  have hca : c.args = #[xs, x] := by rw [← Array.toArray_toList (xs := c.args), hargs]
  have hct : c.argTypes = #[t', t'] := by rw [← Array.toArray_toList (xs := c.argTypes), htys]
  obtain ⟨v', w', hrun, hk⟩ := H o.type
  unfold wpOp
  simp only [ho]
  rw [if_pos (by simp [Region.wanted, hg])]
  refine .inl ?_
  unfold Oper.wp execOp
  simp only [hc, resolve, hcal, hca, hct, invoke, builtin, Sem.run_bind, Sem.run_pure, Result.andThen_ok, List.map_toArray, List.map_cons, List.map_nil, e1, e2, hrun]
  exact hk _ (s.ag.put hd (.val v'))

theorem own_fr {h h' r : List (Nat × Obj)} {w w' : World} (H : Own h r w) (hblk : ∀ x ∈ r, w'.heap[x.1]? = w.heap[x.1]?) (ho : Hp h' w') (hn : (h'.map (·.1)).Nodup) (hap : ∀ x ∈ r, x.1 ∉ h'.map (·.1)) : Own h' r w' :=
  ⟨ho, hn, fun x hx => (hblk x hx).trans (H.ro x hx), hap⟩

theorem set_ids {h : List (Nat × Obj)} {p g : Nat} {o o' : Obj} (hp : h[p]? = some (g, o)) : (h.set p (g, o')).map (·.1) = h.map (·.1) := by
  have hlen : p < h.length := (List.getElem?_eq_some_iff.1 hp).1
  have hgi : h[p] = (g, o) := (List.getElem?_eq_some_iff.1 hp).2
  rw [List.map_set]
  apply List.ext_getElem?
  intro j
  rw [List.getElem?_set]
  by_cases hj : p = j
  · subst hj; simp [hlen, hgi]
  · simp [hj]

section app
variable {P : Program} {f : Func} {R : Act → World → Prop} {n : Nat} {k : List Itm} {E : Env} {h r : List (Nat × Obj)} {F : List (List Nat × World)}

/-- What is appended: its cells lie in a block that is known. -/
theorem src_blk {hn : Hn} {b off : Nat} {cs : Array Value} {ty : TypeId} {fz : Nat × Nat} {news : List Value} (hg : hn.get h r = some (b, .cells cs ty fz)) (hc : ∀ (j : Nat) u, news[j]? = some u → cs[off + j]? = some u) :
    ∀ w, Own h r w → ∀ (j : Nat) u, news[j]? = some u → w.cell? ((⟨b, off, none⟩ : Addr).add j) = some u := by
  intro w hO j u hu
  have hadd : (⟨b, off, none⟩ : Addr).add j = ⟨b, off + j, none⟩ := by unfold Addr.add; split <;> simp_all
  rw [hadd]
  exact cell_of rfl (hO.get hg) rfl (hc j u hu)

/-- append onto a row that is known (at position p). -/
theorem JR_append {id L0 i : Nat} {ck : Bool} {Wp : List (Nat × List Nat)} {rest : List (Nat × Bool)} (p g len cap : Nat) {cur : Array Value} {xs news : List Value} {ax : Addr} {m c : Nat} {t e : TypeId} {inf : TypeInfo} {z : Value} {dst : Option Tmp}
    (he : appOf n (rgOf f id) E i = some (.slice (some ⟨g, 0, none⟩) len cap, .slice (some ax) m c, t, dst)) (hok : (!ck || okW L0 (Wp.lookup i) [p]) = true)
    (ht : P.underlying t = some (.slice e)) (hi : P.info? e = some inf) (hz : inf.zero = some z) (hzs : z.cells.size = inf.size) (hs0 : 0 < inf.size)
    (hp : h[p]? = some (g, .cells cur e (0, 0))) (hrow : Row cur cap len inf.size xs) (hnl : news.length = m * inf.size) (hm : 0 < m)
    (hsrc : ∀ w, Own h r w → ∀ (j : Nat) u, news[j]? = some u → w.cell? (ax.add j) = some u) (h1 : ∀ u ∈ news, u.oneCell' = true)
    (hmax : len + m ≤ maxLen) (hby : (len + m) * inf.bytes ≤ 140737488355328)
    (A : ∀ cap' cur', Row cur' cap' (len + m) inf.size (xs ++ news) → JR P f R n (rgOf f id) L0 ck rest (Wp.filter (·.1 != i)) k (E.put dst (.val (.slice (some ⟨g, 0, none⟩) (len + m) cap'))) (h.set p (g, .cells cur' e (0, 0))) r F)
    (B : ∀ g' cap' cur' o', Row cur' cap' (len + m) inf.size (xs ++ news) → JR P f R n (rgOf f id) L0 ck rest (Wp.filter (·.1 != i)) k (E.put dst (.val (.slice (some ⟨g', 0, none⟩) (len + m) cap'))) (h.set p (g, o') ++ [(g', .cells cur' e (0, 0))]) r F) :
    JR P f R n (rgOf f id) L0 ck ((i, false) :: rest) Wp k E h r F := by
  intro BB a w s hR hN hW
  simp only [PW]
  have hplen : p < h.length := (List.getElem?_eq_some_iff.1 hp).1
  have hmem : (g, Obj.cells cur e (0, 0)) ∈ h := List.mem_of_getElem? hp
  have hg : w.heap[g]? = some (.cells cur e (0, 0)) := s.own.own _ hmem
  have hglt : g < w.heap.size := s.own.own.lt hmem
  have hown : w.ownsRow 0 e inf.size (.slice (some ⟨g, 0, none⟩) len cap) len xs :=
    ⟨hrow.len, .inr ⟨g, cap, cur, rfl, Nat.zero_le _, hg, hrow.le, hrow.max, hrow.siz, hrow.take⟩⟩
  refine appOf_sound he s fun ty => ?_
  obtain ⟨v', w', hrun, hown', hgr, _, hat⟩ := run_append_own_at (P := P) w 0 t ty e inf z inf.size inf.bytes ht hi hz rfl rfl hzs hs0 _ len xs hown ax m c news hnl (hsrc w s.own) h1 hmax hby (Nat.zero_le _)
  refine ⟨v', w', hrun, fun a' hA => ?_⟩
  have hother : ∀ x ∈ h, x.1 ≠ g → w'.heap[x.1]? = some x.2 := fun x hx hne =>
    (hgr.block x.1 (s.own.own.lt hx) (by simp [Value.ownBlock, hne])).trans (s.own.own x hx)
  have hro : ∀ x ∈ r, w'.heap[x.1]? = w.heap[x.1]? := fun x hx => hgr.block x.1 (s.own.ro.lt hx) (by
    have : x.1 ≠ g := fun e => s.own.apart x hx (by rw [e]; exact List.mem_map.2 ⟨_, hmem, rfl⟩)
    simp [Value.ownBlock, this])
  have hidx : ∀ (j : Nat) x, h[j]? = some x → x.1 = g → j = p := fun j x hj hx => by
    have h2 : (h.map (·.1))[j]? = some g := by simp [hj, hx]
    have h3 : (h.map (·.1))[p]? = some g := by simp [hp]
    exact (List.getElem?_inj (List.getElem?_eq_some_iff.1 h2).1 s.own.nodup).1 (h2.trans h3.symm)
  rcases hown'.2 with ⟨_, h0⟩ | ⟨g', cap', cur', rfl, _, hg', hle, hmx, hsz, htk⟩
  · omega
  have hrow' : Row cur' cap' (len + m) inf.size (xs ++ news) := ⟨hown'.1, hsz, hle, hmx, htk⟩
  have hset : ∀ o', w'.heap[g]? = some o' → Hp (h.set p (g, o')) w' := fun o' ho' x hx => by
    obtain ⟨j, hj⟩ := List.getElem?_of_mem hx
    rw [List.getElem?_set] at hj
    by_cases hpj : p = j
    · subst hpj
      simp [hplen] at hj
      subst hj
      exact ho'
    · rw [if_neg hpj] at hj
      exact hother x (List.mem_of_getElem? hj) fun e => hpj (hidx j x hj e).symm
  have hdid : ∀ o', Did h (h.set p (g, o')) [p] w w' := fun o' => by
    refine ⟨hgr.os, hgr.tape, hgr.output, hgr.size, fun b hb hn => hgr.block b hb ?_, fun j hj => ?_, by simp, fun j hj x hx => ?_⟩
    · intro e
      simp only [Value.ownBlock, Option.some.injEq] at e
      exact hn p (List.mem_singleton.2 rfl) _ (by rw [hp, e])
    · rw [← List.getElem?_map, ← List.getElem?_map, set_ids hp]
    · rw [List.getElem?_eq_none (by simpa using hj)] at hx; cases hx
  simp only [Value.ownBlock, Option.some.injEq] at hat
  by_cases hgg : g' = g
  · subst hgg
    have hO' : Own (h.set p (g', .cells cur' e (0, 0))) r w' := own_fr s.own hro (hset _ hg') (by rw [set_ids hp]; exact s.own.nodup) (by rw [set_ids hp]; exact s.own.apart)
    have d := hdid (.cells cur' e (0, 0))
    refine ⟨fun hck => okW_sound d (by simpa [hck] using hok) hN, ?_⟩
    rw [filter_idsW, ← idsW_did hR.len d _ (okWp_filter hW)]
    exact A cap' cur' hrow' BB a' w' (s.go hA hO' d.dd) (hR.did d) (hN.did hR.size d) (okWp_filter hW)
  · have hg'' : g' = w.heap.size := by
      rcases hat with h | h
      · exact absurd h hgg
      · exact h
    obtain ⟨o', ho'⟩ : ∃ o', w'.heap[g]? = some o' := ⟨_, Array.getElem?_eq_getElem (Nat.lt_of_lt_of_le hglt hgr.size)⟩
    have hO' : Own (h.set p (g, o') ++ [(g', .cells cur' e (0, 0))]) r w' := by
      refine own_fr s.own hro (fun x hx => ?_) ?_ (fun x hx hm => ?_)
      · rcases List.mem_append.1 hx with hx | hx
        · exact hset o' ho' x hx
        · rw [List.mem_singleton] at hx; subst hx; exact hg'
      · rw [List.map_append, set_ids hp, List.nodup_append]
        refine ⟨s.own.nodup, by simp, fun x hx y hy => ?_⟩
        simp at hy; subst hy
        obtain ⟨u, hu, rfl⟩ := List.mem_map.1 hx
        have := s.own.own.lt hu
        omega
      · rw [List.map_append, set_ids hp] at hm
        rcases List.mem_append.1 hm with hm | hm
        · exact s.own.apart x hx hm
        · simp at hm
          have := s.own.ro.lt hx
          omega
    have d0 := hdid o'
    have d : Did h (h.set p (g, o') ++ [(g', .cells cur' e (0, 0))]) [p] w w' := by
      refine ⟨d0.os, d0.tape, d0.output, d0.size, d0.block, fun j hj => ?_, by simp, fun j hj x hx => ?_⟩
      · rw [List.getElem?_append_left (by simpa using hj)]
        exact d0.ids j hj
      · rw [List.getElem?_append_right (by simpa using hj)] at hx
        have := List.mem_of_getElem? hx
        simp at this
        rw [this, hg'']
        exact Nat.le_refl _
    refine ⟨fun hck => okW_sound d (by simpa [hck] using hok) hN, ?_⟩
    rw [filter_idsW, ← idsW_did hR.len d _ (okWp_filter hW)]
    exact B g' cap' cur' o' hrow' BB a' w' (s.go hA hO' d.dd) (hR.did d) (hN.did hR.size d) (okWp_filter hW)

/-- append onto a nil slice. -/
theorem JR_append_nil {id L0 i : Nat} {ck : Bool} {Wp : List (Nat × List Nat)} {rest : List (Nat × Bool)} {news : List Value} {ax : Addr} {m c : Nat} {t e : TypeId} {inf : TypeInfo} {z : Value} {dst : Option Tmp}
    (he : appOf n (rgOf f id) E i = some (.slice none 0 0, .slice (some ax) m c, t, dst)) (hok : (!ck || okW L0 (Wp.lookup i) []) = true)
    (ht : P.underlying t = some (.slice e)) (hi : P.info? e = some inf) (hz : inf.zero = some z) (hzs : z.cells.size = inf.size) (hs0 : 0 < inf.size)
    (hnl : news.length = m * inf.size) (hm : 0 < m)
    (hsrc : ∀ w, Own h r w → ∀ (j : Nat) u, news[j]? = some u → w.cell? (ax.add j) = some u) (h1 : ∀ u ∈ news, u.oneCell' = true)
    (hmax : m ≤ maxLen) (hby : m * inf.bytes ≤ 140737488355328)
    (B : ∀ g' cap' cur', Row cur' cap' m inf.size news → JR P f R n (rgOf f id) L0 ck rest (Wp.filter (·.1 != i)) k (E.put dst (.val (.slice (some ⟨g', 0, none⟩) m cap'))) (h ++ [(g', .cells cur' e (0, 0))]) r F) :
    JR P f R n (rgOf f id) L0 ck ((i, false) :: rest) Wp k E h r F := by
  intro BB a w s hR hN hW
  simp only [PW]
  have hown : w.ownsRow 0 e inf.size (.slice none 0 0) 0 [] := World.ownsRow_nil w 0 e inf.size
  refine appOf_sound he s fun ty => ?_
  obtain ⟨v', w', hrun, hown', hgr, _, hat⟩ := run_append_own_at (P := P) w 0 t ty e inf z inf.size inf.bytes ht hi hz rfl rfl hzs hs0 _ 0 [] hown ax m c news hnl (hsrc w s.own) h1 (by omega) (by simpa using hby) (Nat.zero_le _)
  refine ⟨v', w', hrun, fun a' hA => ?_⟩
  rcases hown'.2 with ⟨_, h0⟩ | ⟨g', cap', cur', rfl, _, hg', hle, hmx, hsz, htk⟩
  · omega
  have hg'' : g' = w.heap.size := by
    rcases hat with h | h <;> simp [Value.ownBlock] at h
    exact h
  simp only [Nat.zero_add, List.nil_append] at hle htk hown' hA ⊢
  have hrow' : Row cur' cap' m inf.size news := ⟨hown'.1, hsz, hle, hmx, htk⟩
  have hall : ∀ b, b < w.heap.size → w'.heap[b]? = w.heap[b]? := fun b hb => hgr.block b hb (by simp [Value.ownBlock])
  have hO' : Own (h ++ [(g', .cells cur' e (0, 0))]) r w' := by
    refine own_fr s.own (fun x hx => hall _ (s.own.ro.lt hx)) (fun x hx => ?_) ?_ (fun x hx hm => ?_)
    · rcases List.mem_append.1 hx with hx | hx
      · exact (hall _ (s.own.own.lt hx)).trans (s.own.own x hx)
      · rw [List.mem_singleton] at hx; subst hx; exact hg'
    · rw [List.map_append, List.nodup_append]
      refine ⟨s.own.nodup, by simp, fun x hx y hy => ?_⟩
      simp at hy; subst hy
      obtain ⟨u, hu, rfl⟩ := List.mem_map.1 hx
      have := s.own.own.lt hu
      omega
    · rw [List.map_append] at hm
      rcases List.mem_append.1 hm with hm | hm
      · exact s.own.apart x hx hm
      · simp at hm
        have := s.own.ro.lt hx
        omega
  have d : Did h (h ++ [(g', .cells cur' e (0, 0))]) [] w w' := by
    refine ⟨hgr.os, hgr.tape, hgr.output, hgr.size, fun b hb _ => hall b hb, fun j hj => ?_, by simp, fun j hj x hx => ?_⟩
    · rw [List.getElem?_append_left hj]
    · rw [List.getElem?_append_right hj] at hx
      have := List.mem_of_getElem? hx
      simp at this
      rw [this, hg'']
      exact Nat.le_refl _
  refine ⟨fun hck => okW_sound d (by simpa [hck] using hok) hN, ?_⟩
  rw [filter_idsW, ← idsW_did hR.len d _ (okWp_filter hW)]
  exact B g' cap' cur' hrow' BB a' w' (s.go hA hO' d.dd) (hR.did d) (hN.did hR.size d) (okWp_filter hW)

theorem infoParts {P : Program} {e : TypeId} {z : Value} {size bytes : Nat} (h : (P.info? e).map (fun i => (i.zero, i.size, i.bytes)) = some (some z, size, bytes)) : ∃ inf, P.info? e = some inf ∧ inf.zero = some z ∧ inf.size = size ∧ inf.bytes = bytes := by
  obtain ⟨inf, hi, hx⟩ := Option.map_eq_some_iff.1 h
  simp only [Prod.mk.injEq] at hx
  exact ⟨inf, hi, hx.1, hx.2.1, hx.2.2⟩

/-- append onto a row that is known (at position p); the type's numbers by the kernel. -/
theorem JR_app {id L0 i : Nat} {ck : Bool} {Wp : List (Nat × List Nat)} {rest : List (Nat × Bool)} (p g len cap : Nat) (t e size bytes : Nat) (z : Value) {cur : Array Value} {xs news : List Value} {ax : Addr} {m c : Nat} {dst : Option Tmp}
    (he : appOf n (rgOf f id) E i = some (.slice (some ⟨g, 0, none⟩) len cap, .slice (some ax) m c, t, dst)) (hok : (!ck || okW L0 (Wp.lookup i) [p]) = true)
    (ht : P.underlying t = some (.slice e)) (hi : (P.info? e).map (fun i => (i.zero, i.size, i.bytes)) = some (some z, size, bytes)) (hzs : z.cells.size = size) (hs0 : 0 < size)
    (hp : h[p]? = some (g, .cells cur e (0, 0))) (hrow : Row cur cap len size xs) (hnl : news.length = m * size) (hm : 0 < m)
    (hsrc : ∀ w, Own h r w → ∀ (j : Nat) u, news[j]? = some u → w.cell? (ax.add j) = some u) (h1 : ∀ u ∈ news, u.oneCell' = true)
    (hmax : len + m ≤ maxLen) (hby : (len + m) * bytes ≤ 140737488355328)
    (A : ∀ cap' cur', Row cur' cap' (len + m) size (xs ++ news) → JR P f R n (rgOf f id) L0 ck rest (Wp.filter (·.1 != i)) k (E.put dst (.val (.slice (some ⟨g, 0, none⟩) (len + m) cap'))) (h.set p (g, .cells cur' e (0, 0))) r F)
    (B : ∀ g' cap' cur' o', Row cur' cap' (len + m) size (xs ++ news) → JR P f R n (rgOf f id) L0 ck rest (Wp.filter (·.1 != i)) k (E.put dst (.val (.slice (some ⟨g', 0, none⟩) (len + m) cap'))) (h.set p (g, o') ++ [(g', .cells cur' e (0, 0))]) r F) :
    JR P f R n (rgOf f id) L0 ck ((i, false) :: rest) Wp k E h r F := by
  obtain ⟨inf, h1i, h2i, rfl, rfl⟩ := infoParts hi
  exact JR_append p g len cap he hok ht h1i h2i hzs hs0 hp hrow hnl hm hsrc h1 hmax hby A B

theorem JR_appnil {id L0 i : Nat} {ck : Bool} {Wp : List (Nat × List Nat)} {rest : List (Nat × Bool)} (t e size bytes : Nat) (z : Value) {news : List Value} {ax : Addr} {m c : Nat} {dst : Option Tmp}
    (he : appOf n (rgOf f id) E i = some (.slice none 0 0, .slice (some ax) m c, t, dst)) (hok : (!ck || okW L0 (Wp.lookup i) []) = true)
    (ht : P.underlying t = some (.slice e)) (hi : (P.info? e).map (fun i => (i.zero, i.size, i.bytes)) = some (some z, size, bytes)) (hzs : z.cells.size = size) (hs0 : 0 < size)
    (hnl : news.length = m * size) (hm : 0 < m)
    (hsrc : ∀ w, Own h r w → ∀ (j : Nat) u, news[j]? = some u → w.cell? (ax.add j) = some u) (h1 : ∀ u ∈ news, u.oneCell' = true)
    (hmax : m ≤ maxLen) (hby : m * bytes ≤ 140737488355328)
    (B : ∀ g' cap' cur', Row cur' cap' m size news → JR P f R n (rgOf f id) L0 ck rest (Wp.filter (·.1 != i)) k (E.put dst (.val (.slice (some ⟨g', 0, none⟩) m cap'))) (h ++ [(g', .cells cur' e (0, 0))]) r F) :
    JR P f R n (rgOf f id) L0 ck ((i, false) :: rest) Wp k E h r F := by
  obtain ⟨inf, h1i, h2i, rfl, rfl⟩ := infoParts hi
  exact JR_append_nil he hok ht h1i h2i hzs hs0 hnl hm hsrc h1 hmax hby B

/-- append of nothing. -/
theorem JR_appz {id L0 i : Nat} {ck : Bool} {Wp : List (Nat × List Nat)} {rest : List (Nat × Bool)} (t e size bytes : Nat) (z : Value) {bs ax : Option Addr} {len cap c : Nat} {dst : Option Tmp}
    (he : appOf n (rgOf f id) E i = some (.slice bs len cap, .slice ax 0 c, t, dst)) (ht : P.underlying t = some (.slice e)) (hi : (P.info? e).map (fun i => (i.zero, i.size, i.bytes)) = some (some z, size, bytes)) (hle : len ≤ cap)
    (A : JR P f R n (rgOf f id) L0 ck rest (Wp.filter (·.1 != i)) k (E.put dst (.val (.slice bs len cap))) h r F) :
    JR P f R n (rgOf f id) L0 ck ((i, false) :: rest) Wp k E h r F := by
  obtain ⟨inf, h1i, _, h3i, _⟩ := infoParts hi
  intro BB a w s hR hN hW
  simp only [PW]
  refine appOf_sound he s fun ty => ?_
  refine ⟨.slice bs len cap, w, ?_, fun a' hA => ?_⟩
  · cases ax with
    | none => cases bs <;> simp [Builtin.append_, run_underlying ht, sizeOf, typeInfo, h1i, Builtin.lenOf, Builtin.firstCells, hle, storeCells]
    | some ad => cases bs <;> simp [Builtin.append_, run_underlying ht, sizeOf, typeInfo, h1i, Builtin.lenOf, Builtin.firstCells, hle, storeCells, loadCells, loadCellsFrom]
  · have d := Did.refl h [] w
    refine ⟨fun _ b _ _ => rfl, ?_⟩
    rw [filter_idsW]
    exact A BB a' w (s.go hA s.own d.dd) hR hN (okWp_filter hW)
end app
end Go.Sx
