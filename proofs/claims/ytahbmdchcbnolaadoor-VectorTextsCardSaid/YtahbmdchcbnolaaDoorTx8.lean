/- The engine of our walks, part 8 (with ghosts): append. -/
import Derived.Test.YtahbmdchcbnolaaDoorTx7
import Derived.Maps.AppendAt
namespace Go.Sx
open Go

def appOf (n : Nat) (ops : Array Oper) (E : Env) (i : Nat) : Option (Value × Value × TypeId × Option Tmp) :=
  match ops[i]? with
  | none => none
  | some o => if dstOk n o.dst then match o.guard with
    | some _ => none
    | none => match o.op with
      | .call c => match c.callee with
        | .builtin .append => match opsOk E none c.args.toList with
          | some [] => match c.args.toList, c.argTypes.toList with
            | [s, x], [t, u] => if Nat.beq t u then some (rho E s, rho E x, t, o.dst) else none
            | _, _ => none
          | _ => none
        | _ => none
      | _ => none
    else none

theorem appOf_sound {P : Program} {f : Func} [Pan f] {R : Act → World → Prop} {n : Nat} [Dfr n] {ops : Array Oper} {i : Nat} {E : Env} {h r : List (Nat × Obj)} {F : List (List Nat × World)} {Y : Ghost} {sv xv : Value} {t : TypeId} {dst : Option Tmp} (he : appOf n ops E i = some (sv, xv, t, dst))
    {a : Act} {w : World} (s : St n E h r F Y a w) {K : Act → World → Prop} {k : List Itm}
    (H : ∀ ty, ∃ v' w', (Builtin.append_ #[t, t] ty #[sv, xv]).run P w = .ok v' w' ∧ ∀ a', Ag n (E.put dst (.val v')) a' → K a' w') : wpOp P ops (wpK P f R k) i K a w := by
  unfold appOf at he
  split at he
  · cases he
  rename_i o ho
  split at he
  case isFalse => cases he
  rename_i hd
  split at he
  · cases he
  rename_i hg
  split at he
  case h_2 => cases he
  rename_i c hc
  split at he
  case h_2 => cases he
  rename_i hcal
  split at he
  case h_2 => cases he
  rename_i hq
  split at he
  case h_2 => cases he
  rename_i xs x t' u hargs htys
  split at he
  case isFalse => cases he
  rename_i htu
  simp only [Option.some.injEq, Prod.mk.injEq] at he
  obtain ⟨rfl, rfl, rfl, rfl⟩ := he
  obtain rfl := Nat.eq_of_beq_eq_true htu
  have hev := opsOk_sound s.ag (fun c w h => by cases h) _ _ hq trivial
  have e1 : a.eval xs = rho E xs := hev xs (by rw [hargs]; simp)
  have e2 : a.eval x = rho E x := hev x (by rw [hargs]; simp)
  have hca : c.args = #[xs, x] := by rw [← Array.toArray_toList (xs := c.args), hargs]
  have hct : c.argTypes = #[t', t'] := by rw [← Array.toArray_toList (xs := c.argTypes), htys]
  obtain ⟨v', w', hrun, hk⟩ := H o.type
  unfold wpOp
  simp only [ho]
  rw [if_pos (by simp [Region.wanted, hg])]
  refine .inl ?_
  unfold Oper.wp execOp
  simp only [hc, resolve, hcal, hca, hct, invoke, builtin, Sem.run_bind, Sem.run_pure, Result.andThen_ok, List.map_toArray, List.map_cons, List.map_nil, e1, e2, hrun]
  exact hk _ (s.ag.put hd (.val v'))

theorem own_fr {h h' r : List (Nat × Obj)} {w w' : World} (H : Own h r w) (hblk : ∀ x ∈ r, w'.heap[x.1]? = w.heap[x.1]?) (ho : Hp h' w') (hn : (h'.map (·.1)).Nodup) (hap : ∀ x ∈ r, x.1 ∉ h'.map (·.1)) : Own h' r w' :=
  ⟨ho, hn, fun x hx => (hblk x hx).trans (H.ro x hx), hap⟩

theorem set_ids {h : List (Nat × Obj)} {p g : Nat} {o o' : Obj} (hp : h[p]? = some (g, o)) : (h.set p (g, o')).map (·.1) = h.map (·.1) := by
  have hlen : p < h.length := (List.getElem?_eq_some_iff.1 hp).1
  have hgi : h[p] = (g, o) := (List.getElem?_eq_some_iff.1 hp).2
  rw [List.map_set]
  apply List.ext_getElem?
  intro j
  rw [List.getElem?_set]
  by_cases hj : p = j
  · subst hj; simp [hlen, hgi]
  · simp [hj]

section app
variable {P : Program} {f : Func} [Pan f] {R : Act → World → Prop} {n : Nat} [Dfr n] {k : List Itm} {E : Env} {h r : List (Nat × Obj)} {F : List (List Nat × World)} {Y : Ghost}

/-- What is appended: its cells lie in a block that is known. -/
theorem src_blk {hn : Hn} {b off : Nat} {cs : Array Value} {ty : TypeId} {fz : Nat × Nat} {news : List Value} (hg : hn.get h r = some (b, .cells cs ty fz)) (hc : ∀ (j : Nat) u, news[j]? = some u → cs[off + j]? = some u) :
    ∀ w, Own h r w → ∀ (j : Nat) u, news[j]? = some u → w.cell? ((⟨b, off, none⟩ : Addr).add j) = some u := by
  intro w hO j u hu
  have hadd : (⟨b, off, none⟩ : Addr).add j = ⟨b, off + j, none⟩ := by unfold Addr.add; split <;> simp_all
  rw [hadd]
  exact cell_of rfl (hO.get hg) rfl (hc j u hu)

/-- append onto a row that is known (at position p). -/
theorem JR_append {id L0 i : Nat} {ck : Bool} {Wp : List (Nat × List Nat)} {rest : List (Nat × Bool)} (p g len cap : Nat) {cur : Array Value} {xs news : List Value} {ax : Addr} {m c : Nat} {t e : TypeId} {inf : TypeInfo} {z : Value} {dst : Option Tmp}
    (he : appOf n (rgOf f id) E i = some (.slice (some ⟨g, 0, none⟩) len cap, .slice (some ax) m c, t, dst)) (hok : (!ck || okW L0 (Wp.lookup i) [p]) = true)
    (ht : P.underlying t = some (.slice e)) (hi : P.info? e = some inf) (hz : inf.zero = some z) (hzs : z.cells.size = inf.size) (hs0 : 0 < inf.size)
    (hp : h[p]? = some (g, .cells cur e (0, 0))) (hrow : Row cur cap len inf.size xs) (hnl : news.length = m * inf.size) (hm : 0 < m)
    (hsrc : ∀ w, Own h r w → ∀ (j : Nat) u, news[j]? = some u → w.cell? (ax.add j) = some u) (h1 : ∀ u ∈ news, u.oneCell' = true)
    (hmax : len + m ≤ maxLen) (hby : (len + m) * inf.bytes ≤ 140737488355328)
    (A : ∀ cap' cur', Row cur' cap' (len + m) inf.size (xs ++ news) → JR P f R n (rgOf f id) L0 ck rest (Wp.filter (·.1 != i)) k (E.put dst (.val (.slice (some ⟨g, 0, none⟩) (len + m) cap'))) (h.set p (g, .cells cur' e (0, 0))) r F Y)
    (B : ∀ g' cap' cur' o', Row cur' cap' (len + m) inf.size (xs ++ news) → JR P f R n (rgOf f id) L0 ck rest (Wp.filter (·.1 != i)) k (E.put dst (.val (.slice (some ⟨g', 0, none⟩) (len + m) cap'))) (h.set p (g, o') ++ [(g', .cells cur' e (0, 0))]) r F Y) :
    JR P f R n (rgOf f id) L0 ck ((i, false) :: rest) Wp k E h r F Y := by
  intro BB Hd fps a w s hH hR hN hW
  simp only [PW]
  have hplen : p < h.length := (List.getElem?_eq_some_iff.1 hp).1
  have hmem : (g, Obj.cells cur e (0, 0)) ∈ h := List.mem_of_getElem? hp
  have hg : w.heap[g]? = some (.cells cur e (0, 0)) := s.own.own _ hmem
  have hglt : g < w.heap.size := s.own.own.lt hmem
  have hown : w.ownsRow 0 e inf.size (.slice (some ⟨g, 0, none⟩) len cap) len xs :=
    ⟨hrow.len, .inr ⟨g, cap, cur, rfl, Nat.zero_le _, hg, hrow.le, hrow.max, hrow.siz, hrow.take⟩⟩
  refine appOf_sound he s.st fun ty => ?_
  obtain ⟨v', w', hrun, hown', hgr, _, hat⟩ := run_append_own_at (P := P) w 0 t ty e inf z inf.size inf.bytes ht hi hz rfl rfl hzs hs0 _ len xs hown ax m c news hnl (hsrc w s.own) h1 hmax hby (Nat.zero_le _)
  refine ⟨v', w', hrun, fun a' hA => ?_⟩
  have hother : ∀ x ∈ h, x.1 ≠ g → w'.heap[x.1]? = some x.2 := fun x hx hne =>
    (hgr.block x.1 (s.own.own.lt hx) (by simp [Value.ownBlock, hne])).trans (s.own.own x hx)
  have hro : ∀ x ∈ r, w'.heap[x.1]? = w.heap[x.1]? := fun x hx => hgr.block x.1 (s.own.ro.lt hx) (by
    have : x.1 ≠ g := fun e => s.own.apart x hx (by rw [e]; exact List.mem_map.2 ⟨_, hmem, rfl⟩)
    simp [Value.ownBlock, this])
  have hidx : ∀ (j : Nat) x, h[j]? = some x → x.1 = g → j = p := fun j x hj hx => by
    have h2 : (h.map (·.1))[j]? = some g := by simp [hj, hx]
    have h3 : (h.map (·.1))[p]? = some g := by simp [hp]
    exact (List.getElem?_inj (List.getElem?_eq_some_iff.1 h2).1 s.own.nodup).1 (h2.trans h3.symm)
  rcases hown'.2 with ⟨_, h0⟩ | ⟨g', cap', cur', rfl, _, hg', hle, hmx, hsz, htk⟩
  · omega
  have hrow' : Row cur' cap' (len + m) inf.size (xs ++ news) := ⟨hown'.1, hsz, hle, hmx, htk⟩
  have hset : ∀ o', w'.heap[g]? = some o' → Hp (h.set p (g, o')) w' := fun o' ho' x hx => by
    obtain ⟨j, hj⟩ := List.getElem?_of_mem hx
    rw [List.getElem?_set] at hj
    by_cases hpj : p = j
    · subst hpj
      simp [hplen] at hj
      subst hj
      exact ho'
    · rw [if_neg hpj] at hj
      exact hother x (List.mem_of_getElem? hj) fun e => hpj (hidx j x hj e).symm
  have hdid : ∀ o', Did h (h.set p (g, o')) [p] w w' := fun o' => by
    refine ⟨hgr.os, hgr.tape, hgr.output, hgr.size, fun b hb hn => hgr.block b hb ?_, fun j hj => ?_, by simp, fun j hj x hx => ?_, Sem.run_drawn hrun⟩
    · intro e
      simp only [Value.ownBlock, Option.some.injEq] at e
      exact hn p (List.mem_singleton.2 rfl) _ (by rw [hp, e])
    · rw [← List.getElem?_map, ← List.getElem?_map, set_ids hp]
    · rw [List.getElem?_eq_none (by simpa using hj)] at hx; cases hx
  simp only [Value.ownBlock, Option.some.injEq] at hat
  by_cases hgg : g' = g
  · subst hgg
    have hO' : Own (h.set p (g', .cells cur' e (0, 0))) r w' := own_fr s.own hro (hset _ hg') (by rw [set_ids hp]; exact s.own.nodup) (by rw [set_ids hp]; exact s.own.apart)
    have d := hdid (.cells cur' e (0, 0))
    refine ⟨fun hck => okW_sound d (by simpa [hck] using hok) hN, ?_⟩
    rw [filter_idsW, ← idsW_did hR.len d _ (okWp_filter hW)]
    exact A cap' cur' hrow' BB Hd fps a' w' (s.go hA hO' d.dd) hH (hR.did d) (hN.did hR.size d) (okWp_filter hW)
  · have hg'' : g' = w.heap.size := by
      rcases hat with h | h
      · exact absurd h hgg
      · exact h
    obtain ⟨o', ho'⟩ : ∃ o', w'.heap[g]? = some o' := ⟨_, Array.getElem?_eq_getElem (Nat.lt_of_lt_of_le hglt hgr.size)⟩
    have hO' : Own (h.set p (g, o') ++ [(g', .cells cur' e (0, 0))]) r w' := by
      refine own_fr s.own hro (fun x hx => ?_) ?_ (fun x hx hm => ?_)
      · rcases List.mem_append.1 hx with hx | hx
        · exact hset o' ho' x hx
        · rw [List.mem_singleton] at hx; subst hx; exact hg'
      · rw [List.map_append, set_ids hp, List.nodup_append]
        refine ⟨s.own.nodup, by simp, fun x hx y hy => ?_⟩
        simp at hy; subst hy
        obtain ⟨u, hu, rfl⟩ := List.mem_map.1 hx
        have := s.own.own.lt hu
        omega
      · rw [List.map_append, set_ids hp] at hm
        rcases List.mem_append.1 hm with hm | hm
        · exact s.own.apart x hx hm
        · simp at hm
          have := s.own.ro.lt hx
          omega
    have d0 := hdid o'
    have d : Did h (h.set p (g, o') ++ [(g', .cells cur' e (0, 0))]) [p] w w' := by
      refine ⟨d0.os, d0.tape, d0.output, d0.size, d0.block, fun j hj => ?_, by simp, fun j hj x hx => ?_, d0.drawn⟩
      · rw [List.getElem?_append_left (by simpa using hj)]
        exact d0.ids j hj
      · rw [List.getElem?_append_right (by simpa using hj)] at hx
        have := List.mem_of_getElem? hx
        simp at this
        rw [this, hg'']
        exact Nat.le_refl _
    refine ⟨fun hck => okW_sound d (by simpa [hck] using hok) hN, ?_⟩
    rw [filter_idsW, ← idsW_did hR.len d _ (okWp_filter hW)]
    exact B g' cap' cur' o' hrow' BB Hd fps a' w' (s.go hA hO' d.dd) hH (hR.did d) (hN.did hR.size d) (okWp_filter hW)

/-- append onto a nil slice. -/
theorem JR_append_nil {id L0 i : Nat} {ck : Bool} {Wp : List (Nat × List Nat)} {rest : List (Nat × Bool)} {news : List Value} {ax : Addr} {m c : Nat} {t e : TypeId} {inf : TypeInfo} {z : Value} {dst : Option Tmp}
    (he : appOf n (rgOf f id) E i = some (.slice none 0 0, .slice (some ax) m c, t, dst)) (hok : (!ck || okW L0 (Wp.lookup i) []) = true)
    (ht : P.underlying t = some (.slice e)) (hi : P.info? e = some inf) (hz : inf.zero = some z) (hzs : z.cells.size = inf.size) (hs0 : 0 < inf.size)
    (hnl : news.length = m * inf.size) (hm : 0 < m)
    (hsrc : ∀ w, Own h r w → ∀ (j : Nat) u, news[j]? = some u → w.cell? (ax.add j) = some u) (h1 : ∀ u ∈ news, u.oneCell' = true)
    (hmax : m ≤ maxLen) (hby : m * inf.bytes ≤ 140737488355328)
    (B : ∀ g' cap' cur', Row cur' cap' m inf.size news → JR P f R n (rgOf f id) L0 ck rest (Wp.filter (·.1 != i)) k (E.put dst (.val (.slice (some ⟨g', 0, none⟩) m cap'))) (h ++ [(g', .cells cur' e (0, 0))]) r F Y) :
    JR P f R n (rgOf f id) L0 ck ((i, false) :: rest) Wp k E h r F Y := by
  intro BB Hd fps a w s hH hR hN hW
  simp only [PW]
  have hown : w.ownsRow 0 e inf.size (.slice none 0 0) 0 [] := World.ownsRow_nil w 0 e inf.size
  refine appOf_sound he s.st fun ty => ?_
  obtain ⟨v', w', hrun, hown', hgr, _, hat⟩ := run_append_own_at (P := P) w 0 t ty e inf z inf.size inf.bytes ht hi hz rfl rfl hzs hs0 _ 0 [] hown ax m c news hnl (hsrc w s.own) h1 (by omega) (by simpa using hby) (Nat.zero_le _)
  refine ⟨v', w', hrun, fun a' hA => ?_⟩
  rcases hown'.2 with ⟨_, h0⟩ | ⟨g', cap', cur', rfl, _, hg', hle, hmx, hsz, htk⟩
  · omega
  have hg'' : g' = w.heap.size := by
    rcases hat with h | h <;> simp [Value.ownBlock] at h
    exact h
  simp only [Nat.zero_add, List.nil_append] at hle htk hown' hA ⊢
  have hrow' : Row cur' cap' m inf.size news := ⟨hown'.1, hsz, hle, hmx, htk⟩
  have hall : ∀ b, b < w.heap.size → w'.heap[b]? = w.heap[b]? := fun b hb => hgr.block b hb (by simp [Value.ownBlock])
  have hO' : Own (h ++ [(g', .cells cur' e (0, 0))]) r w' := by
    refine own_fr s.own (fun x hx => hall _ (s.own.ro.lt hx)) (fun x hx => ?_) ?_ (fun x hx hm => ?_)
    · rcases List.mem_append.1 hx with hx | hx
      · exact (hall _ (s.own.own.lt hx)).trans (s.own.own x hx)
      · rw [List.mem_singleton] at hx; subst hx; exact hg'
    · rw [List.map_append, List.nodup_append]
      refine ⟨s.own.nodup, by simp, fun x hx y hy => ?_⟩
      simp at hy; subst hy
      obtain ⟨u, hu, rfl⟩ := List.mem_map.1 hx
      have := s.own.own.lt hu
      omega
    · rw [List.map_append] at hm
      rcases List.mem_append.1 hm with hm | hm
      · exact s.own.apart x hx hm
      · simp at hm
        have := s.own.ro.lt hx
        omega
  have d : Did h (h ++ [(g', .cells cur' e (0, 0))]) [] w w' := by
    refine ⟨hgr.os, hgr.tape, hgr.output, hgr.size, fun b hb _ => hall b hb, fun j hj => ?_, by simp, fun j hj x hx => ?_, Sem.run_drawn hrun⟩
    · rw [List.getElem?_append_left hj]
    · rw [List.getElem?_append_right hj] at hx
      have := List.mem_of_getElem? hx
      simp at this
      rw [this, hg'']
      exact Nat.le_refl _
  refine ⟨fun hck => okW_sound d (by simpa [hck] using hok) hN, ?_⟩
  rw [filter_idsW, ← idsW_did hR.len d _ (okWp_filter hW)]
  exact B g' cap' cur' hrow' BB Hd fps a' w' (s.go hA hO' d.dd) hH (hR.did d) (hN.did hR.size d) (okWp_filter hW)

theorem infoParts {P : Program} {e : TypeId} {z : Value} {size bytes : Nat} (h : (P.info? e).map (fun i => (i.zero, i.size, i.bytes)) = some (some z, size, bytes)) : ∃ inf, P.info? e = some inf ∧ inf.zero = some z ∧ inf.size = size ∧ inf.bytes = bytes := by
  obtain ⟨inf, hi, hx⟩ := Option.map_eq_some_iff.1 h
  simp only [Prod.mk.injEq] at hx
  exact ⟨inf, hi, hx.1, hx.2.1, hx.2.2⟩

/-- append onto a row that is known (at position p); the type's numbers by the kernel. -/
theorem JR_app {id L0 i : Nat} {ck : Bool} {Wp : List (Nat × List Nat)} {rest : List (Nat × Bool)} (p g len cap : Nat) (t e size bytes : Nat) (z : Value) {cur : Array Value} {xs news : List Value} {ax : Addr} {m c : Nat} {dst : Option Tmp}
    (he : appOf n (rgOf f id) E i = some (.slice (some ⟨g, 0, none⟩) len cap, .slice (some ax) m c, t, dst)) (hok : (!ck || okW L0 (Wp.lookup i) [p]) = true)
    (ht : P.underlying t = some (.slice e)) (hi : (P.info? e).map (fun i => (i.zero, i.size, i.bytes)) = some (some z, size, bytes)) (hzs : z.cells.size = size) (hs0 : 0 < size)
    (hp : h[p]? = some (g, .cells cur e (0, 0))) (hrow : Row cur cap len size xs) (hnl : news.length = m * size) (hm : 0 < m)
    (hsrc : ∀ w, Own h r w → ∀ (j : Nat) u, news[j]? = some u → w.cell? (ax.add j) = some u) (h1 : ∀ u ∈ news, u.oneCell' = true)
    (hmax : len + m ≤ maxLen) (hby : (len + m) * bytes ≤ 140737488355328)
    (A : ∀ cap' cur', Row cur' cap' (len + m) size (xs ++ news) → JR P f R n (rgOf f id) L0 ck rest (Wp.filter (·.1 != i)) k (E.put dst (.val (.slice (some ⟨g, 0, none⟩) (len + m) cap'))) (h.set p (g, .cells cur' e (0, 0))) r F Y)
    (B : ∀ g' cap' cur' o', Row cur' cap' (len + m) size (xs ++ news) → JR P f R n (rgOf f id) L0 ck rest (Wp.filter (·.1 != i)) k (E.put dst (.val (.slice (some ⟨g', 0, none⟩) (len + m) cap'))) (h.set p (g, o') ++ [(g', .cells cur' e (0, 0))]) r F Y) :
    JR P f R n (rgOf f id) L0 ck ((i, false) :: rest) Wp k E h r F Y := by
  obtain ⟨inf, h1i, h2i, rfl, rfl⟩ := infoParts hi
  exact JR_append p g len cap he hok ht h1i h2i hzs hs0 hp hrow hnl hm hsrc h1 hmax hby A B

theorem JR_appnil {id L0 i : Nat} {ck : Bool} {Wp : List (Nat × List Nat)} {rest : List (Nat × Bool)} (t e size bytes : Nat) (z : Value) {news : List Value} {ax : Addr} {m c : Nat} {dst : Option Tmp}
    (he : appOf n (rgOf f id) E i = some (.slice none 0 0, .slice (some ax) m c, t, dst)) (hok : (!ck || okW L0 (Wp.lookup i) []) = true)
    (ht : P.underlying t = some (.slice e)) (hi : (P.info? e).map (fun i => (i.zero, i.size, i.bytes)) = some (some z, size, bytes)) (hzs : z.cells.size = size) (hs0 : 0 < size)
    (hnl : news.length = m * size) (hm : 0 < m)
    (hsrc : ∀ w, Own h r w → ∀ (j : Nat) u, news[j]? = some u → w.cell? (ax.add j) = some u) (h1 : ∀ u ∈ news, u.oneCell' = true)
    (hmax : m ≤ maxLen) (hby : m * bytes ≤ 140737488355328)
    (B : ∀ g' cap' cur', Row cur' cap' m size news → JR P f R n (rgOf f id) L0 ck rest (Wp.filter (·.1 != i)) k (E.put dst (.val (.slice (some ⟨g', 0, none⟩) m cap'))) (h ++ [(g', .cells cur' e (0, 0))]) r F Y) :
    JR P f R n (rgOf f id) L0 ck ((i, false) :: rest) Wp k E h r F Y := by
  obtain ⟨inf, h1i, h2i, rfl, rfl⟩ := infoParts hi
  exact JR_append_nil he hok ht h1i h2i hzs hs0 hnl hm hsrc h1 hmax hby B

/-- append of nothing. -/
theorem JR_appz {id L0 i : Nat} {ck : Bool} {Wp : List (Nat × List Nat)} {rest : List (Nat × Bool)} (t e size bytes : Nat) (z : Value) {bs ax : Option Addr} {len cap c : Nat} {dst : Option Tmp}
    (he : appOf n (rgOf f id) E i = some (.slice bs len cap, .slice ax 0 c, t, dst)) (ht : P.underlying t = some (.slice e)) (hi : (P.info? e).map (fun i => (i.zero, i.size, i.bytes)) = some (some z, size, bytes)) (hle : len ≤ cap)
    (A : JR P f R n (rgOf f id) L0 ck rest (Wp.filter (·.1 != i)) k (E.put dst (.val (.slice bs len cap))) h r F Y) :
    JR P f R n (rgOf f id) L0 ck ((i, false) :: rest) Wp k E h r F Y := by
  obtain ⟨inf, h1i, _, h3i, _⟩ := infoParts hi
  intro BB Hd fps a w s hH hR hN hW
  simp only [PW]
  refine appOf_sound he s.st fun ty => ?_
  refine ⟨.slice bs len cap, w, ?_, fun a' hA => ?_⟩
  · cases ax with
    | none => cases bs <;> simp [Builtin.append_, run_underlying ht, sizeOf, typeInfo, h1i, Builtin.lenOf, Builtin.firstCells, hle, storeCells]
    | some ad => cases bs <;> simp [Builtin.append_, run_underlying ht, sizeOf, typeInfo, h1i, Builtin.lenOf, Builtin.firstCells, hle, storeCells, loadCells, loadCellsFrom]
  · have d := Did.refl h [] w
    refine ⟨fun _ b _ _ => rfl, ?_⟩
    rw [filter_idsW]
    exact A BB Hd fps a' w (s.go hA s.own d.dd) hH hR hN (okWp_filter hW)
end app

/-! append onto a chunk. -/
def SrcAt (w : World) (S : Nat → Prop) (ax : Option Addr) (m size : Nat) (news : List (List D)) : Prop :=
  news.length = m ∧ ((ax = none ∧ m = 0) ∨ ∃ ad us, ax = some ad ∧ us.length = m * size ∧ (∀ (j : Nat) u, us[j]? = some u → w.cell? (ad.add j) = some u) ∧ RowsAt w S us size news)
/-- Cells that read as data, by the facts. -/
def RowG (G : List (Value × D)) : List Value → List D → Prop
  | [], [] => True
  | u :: us, d :: ds => ((d = .v u ∧ u.oneCell' = true) ∨ (u, d) ∈ G ∨ ∃ a c k, u = .slice a 0 c ∧ d = .sl k []) ∧ RowG G us ds
  | _, _ => False
theorem RowG.len {G : List (Value × D)} : ∀ {us : List Value} {ds : List D}, RowG G us ds → us.length = ds.length
  | [], [], _ => rfl
  | _ :: _, _ :: _, h => by simp [RowG.len h.2]
  | [], _ :: _, h => h.elim
  | _ :: _, [], h => h.elim
theorem RowG.at {G : List (Value × D)} {w : World} {S : Nat → Prop} (hG : ∀ x ∈ G, Rep w S x.1 x.2) : ∀ {us : List Value} {ds : List D}, RowG G us ds → ∀ (j : Nat) (d : D), ds[j]? = some d → ∃ u, us[j]? = some u ∧ Rep w S u d
  | [], [], _, j, d, hd => by simp at hd
  | u :: us, d0 :: ds, h, 0, d, hd => by
    simp only [List.getElem?_cons_zero, Option.some.injEq] at hd
    subst hd
    refine ⟨u, rfl, ?_⟩
    rcases h.1 with ⟨rfl, h1⟩ | h1 | ⟨a, c, k, rfl, rfl⟩
    · exact .v h1
    · exact hG _ h1
    · exact .nil
  | u :: us, d0 :: ds, h, j + 1, d, hd => by
    obtain ⟨u', h1, h2⟩ := RowG.at hG h.2 j d (by simpa using hd)
    exact ⟨u', by simpa using h1, h2⟩
  | [], _ :: _, h, _, _, _ => h.elim
  | _ :: _, [], h, _, _, _ => h.elim
section appc
variable {P : Program} {f : Func} [Pan f] {R : Act → World → Prop} {n : Nat} [Dfr n] {k : List Itm} {E : Env} {h r : List (Nat × Obj)} {F : List (List Nat × World)} {Y : Ghost}
/-- The appended one is a block of ours (one element). -/
theorem src_one {a : Act} {w : World} {fps : List (List Nat)} (s : StF n E h r F Y a w fps) (p : Nat) {b : Nat} {cs : Array Value} {ty : TypeId} {fz : Nat × Nat} {size : Nat} {row : List D} (hp : h[p]? = some (b, .cells cs ty fz)) (hsz : row.length = size) (hR : RowG Y.G cs.toList row) :
    SrcAt w (Sd Y h fps) (some ⟨b, 0, none⟩) 1 size [row] := by
  have hb := s.own.own _ (List.mem_of_getElem? hp)
  refine ⟨rfl, .inr ⟨_, cs.toList, rfl, by rw [hR.len, hsz, Nat.one_mul], fun j u hu => ?_, by simp [hsz], fun i j row' d hi hj => ?_⟩⟩
  · have hadd : (⟨b, 0, none⟩ : Addr).add j = ⟨b, 0 + j, none⟩ := by unfold Addr.add; split <;> simp_all
    rw [hadd]
    exact cell_of rfl hb rfl (by simpa using hu)
  · cases i with
    | succ i => simp at hi
    | zero =>
      simp only [List.getElem?_cons_zero, Option.some.injEq] at hi
      subst hi
      rw [Nat.zero_mul, Nat.zero_add]
      exact hR.at s.gh.g j d hj
/-- The appended ones are data. -/
theorem src_rep {w : World} {S : Nat → Prop} {a : Option Addr} {m c size : Nat} {rows : List (List D)} (h : Rep w S (.slice a m c) (.sl size rows)) (_ : 0 < size) : SrcAt w S a m size rows := by
  cases h with
  | nil => cases a with
    | none => exact ⟨rfl, .inl ⟨rfl, rfl⟩⟩
    | some ad => exact ⟨rfl, .inr ⟨ad, [], rfl, by simp, by simp, RowsAt.nil _ _ _ _⟩⟩
  | sl u hb hS hc hk hl hcell hrep =>
    rename_i b off cs e fz
    refine ⟨rfl, .inr ⟨_, (List.range (rows.length * size)).map (fun q => u (q / size) (q % size)), rfl, by simp, fun j x hx => ?_, hl, fun i j row d hi hj => ?_⟩⟩
    · rw [List.getElem?_map] at hx
      obtain ⟨q, hq, rfl⟩ := Option.map_eq_some_iff.1 hx
      have hlt : j < rows.length * size := by simpa using (List.getElem?_eq_some_iff.1 hq).1
      have hqj : q = j := by rw [List.getElem?_range hlt] at hq; exact (Option.some.inj hq).symm
      subst hqj
      have h1 : q / size < rows.length := Nat.div_lt_of_lt_mul (by rw [Nat.mul_comm]; exact hlt)
      have h2 := hcell (q / size) (q % size) h1 (Nat.mod_lt _ hk)
      rw [Nat.mul_comm, Nat.div_add_mod] at h2
      have hadd : (⟨b, off, none⟩ : Addr).add q = ⟨b, off + q, none⟩ := by unfold Addr.add; split <;> simp_all
      rw [hadd]
      exact cell_of rfl hb rfl h2
    · have hil := (List.getElem?_eq_some_iff.1 hi).1
      have hjl : j < size := by
        rw [← hl row (List.mem_of_getElem? hi)]
        exact (List.getElem?_eq_some_iff.1 hj).1
      refine ⟨u i j, ?_, hrep i j row d hi hj⟩
      rw [List.getElem?_map, List.getElem?_range (idx_lt hil hjl)]
      have h1 : (i * size + j) / size = i := by
        rw [Nat.mul_comm, Nat.mul_add_div hk, Nat.div_eq_of_lt hjl, Nat.add_zero]
      have h2 : (i * size + j) % size = j := by
        rw [Nat.mul_comm, Nat.mul_add_mod, Nat.mod_eq_of_lt hjl]
      simp [h1, h2]
theorem src_fact {a : Act} {w : World} {fps : List (List Nat)} (s : StF n E h r F Y a w fps) (p : Nat) {a0 : Option Addr} {m c size : Nat} {rows : List (List D)} (hp : Y.G[p]? = some (.slice a0 m c, .sl size rows)) (hsz : 0 < size) : SrcAt w (Sd Y h fps) a0 m size rows :=
  src_rep (s.gh.g _ (List.mem_of_getElem? hp)) hsz

/-- append onto the chunk at q; it comes behind the others then. -/
theorem JR_appc0 {id L0 i : Nat} {ck : Bool} {Wp : List (Nat × List Nat)} {rest : List (Nat × Bool)} (q t e size bytes : Nat) (z : Value) {a0 ax : Option Addr} {len cap0 m c : Nat} {rows : List (List D)} {dst : Option Tmp} (news : List (List D))
    (he : appOf n (rgOf f id) E i = some (.slice a0 len cap0, .slice ax m c, t, dst)) (hok : (!ck || (Wp.lookup i).isSome) = true)
    (ht : P.underlying t = some (.slice e)) (hi : (P.info? e).map (fun i => (i.zero, i.size, i.bytes)) = some (some z, size, bytes)) (hzs : z.cells.size = size) (hs0 : 0 < size)
    (hc : Y.C[q]? = some (cAcc (.slice a0 len cap0) e size rows)) (hsrc : ∀ a w fps, StF n E h r F Y a w fps → SrcAt w (Sd Y h fps) ax m size news)
    (hmax : len + m ≤ maxLen) (hby : (len + m) * bytes ≤ 140737488355328)
    (A : ∀ a' cap', JR P f R n (rgOf f id) L0 ck rest (Wp.filter (·.1 != i)) k (E.put dst (.val (.slice a' (len + m) cap'))) h r F ⟨Y.S, restC Y.C [q] ++ [cAcc (.slice a' (len + m) cap') e size (rows ++ news)], Y.G ++ []⟩) :
    JR P f R n (rgOf f id) L0 ck ((i, false) :: rest) Wp k E h r F Y := by
  obtain ⟨inf, h1i, h2i, rfl, rfl⟩ := infoParts hi
  intro B Hd fps a w s hH hR hN hW
  simp only [PW]
  obtain ⟨fp, hfp, _, hP⟩ := s.gh.chs.at hc
  have hlen := acc_len (show (cAcc (.slice a0 len cap0) e inf.size rows).P w (Sd Y h fps) fp from ⟨hs0, hP⟩)
  have hpk : pick fps [q] = [fp] := by simp [pick, hfp]
  have hM : (pick fps [q]).flatten = fp := by rw [hpk]; simp
  refine appOf_sound he s.st fun ty => ?_
  obtain ⟨hnm, hsr⟩ := hsrc a w fps s
  -- what the call leaves
  have key : ∃ a' cap' w', (Builtin.append_ #[t, t] ty #[.slice a0 len cap0, .slice ax m c]).run P w = .ok (.slice a' (len + m) cap') w' ∧ Ret (pick fps [q]).flatten w (Sd Y h fps) w' (.returned (.slice a' (len + m) cap')) (.slice a' (len + m) cap') [cAcc (.slice a' (len + m) cap') e inf.size (rows ++ news)] [] := by
    rw [hM]
    rcases hsr with ⟨rfl, rfl⟩ | ⟨ad, us, rfl, hul, hus, hRus⟩
    · have hnews : news = [] := List.eq_nil_of_length_eq_zero hnm
      subst hnews
      have hle : len ≤ cap0 := by
        rcases hP with ⟨_, h2, _⟩ | ⟨g, cap, cur, xs, h2, _, _, h3, _⟩
        · cases h2; exact Nat.le_refl _
        · cases h2; exact h3.le
      refine ⟨a0, cap0, w, ?_, rfl, Fr.refl _ _, [fp], ?_, ?_, fun b hb => ⟨.inl (by simpa using hb), s.gh.lt b (List.mem_flatten.2 ⟨fp, List.mem_of_getElem? hfp, by simpa using hb⟩)⟩, by simp⟩
      · cases a0 <;> simp [Builtin.append_, run_underlying ht, sizeOf, typeInfo, h1i, Builtin.lenOf, Builtin.firstCells, hle, storeCells]
      · refine ⟨?_, trivial⟩
        rw [List.append_nil, Nat.add_zero]
        refine (cAcc _ _ _ _).mono (w := w) (S := Sd Y h fps) ⟨hs0, hP⟩ (fun _ _ => rfl) fun b hb _ => ⟨⟨.inl hb, fun hm => hb.2.2 ?_⟩, rfl⟩
        exact List.mem_flatten.2 ⟨fp, List.mem_of_getElem? hfp, by simpa using hm⟩
      · have := nodup_sublist_flat s.gh.nodup (List.singleton_sublist.2 (List.mem_of_getElem? hfp))
        exact this
    · have hown : ∃ xs, w.ownsRow 0 e inf.size (.slice a0 len cap0) len xs ∧ RowsAt w (Sd Y h fps) xs inf.size rows ∧ xs.length = rows.length * inf.size ∧ (∀ b, (Value.slice a0 len cap0).ownBlock = some b → b ∈ fp) := by
        rcases hP with ⟨rfl, h2, rfl⟩ | ⟨g, cap, cur, xs, h2, rfl, h3, h4, h5⟩
        · cases h2
          exact ⟨[], World.ownsRow_nil w 0 e inf.size, RowsAt.nil _ _ _ _, by simp, by simp [Value.ownBlock]⟩
        · cases h2
          exact ⟨xs, ⟨h4.len, .inr ⟨g, cap0, cur, rfl, Nat.zero_le _, h3, h4.le, h4.max, h4.siz, h4.take⟩⟩, h5, h4.len, by simp [Value.ownBlock]⟩
      obtain ⟨xs, hown, hRx, hxl, hob⟩ := hown
      obtain ⟨v', w', hrun, hown', hgr, hnil, hat⟩ := run_append_own_at (P := P) w 0 t ty e inf z inf.size inf.bytes ht h1i h2i rfl rfl hzs hs0 _ len xs hown ad m c us hul hus (hRus.one (by rw [hul, hnm])) hmax hby (Nat.zero_le _)
      have hfr : Fr fp w w' := ⟨hgr.os, hgr.tape, hgr.output, hgr.size, fun b hb hn => hgr.block b hb fun he => hn (hob b he.symm), Sem.run_drawn hrun⟩
      have hnot : ∀ b, Sd Y h fps b → b ∉ fp := fun b hb hm => hb.2.2 (List.mem_flatten.2 ⟨fp, List.mem_of_getElem? hfp, hm⟩)
      have hRall : ∀ g', (g' ∈ fp ∨ w.heap.size ≤ g') → RowsAt w' (retS (Sd Y h fps) fp w [[g']]) (xs ++ us) inf.size (rows ++ news) := fun g' hg' =>
        (hRx.app hxl hRus).mono fun b hb hlt => ⟨⟨.inl hb, fun hm => by
          simp only [List.flatten_cons, List.flatten_nil, List.append_nil, List.mem_singleton] at hm
          subst hm
          rcases hg' with h1 | h1
          · exact hnot _ hb h1
          · omega⟩, hfr.block b hlt (hnot b hb)⟩
      rcases hown'.2 with ⟨rfl, h0⟩ | ⟨g', cap', cur', rfl, _, hg', hle, hmx, hsz, htk⟩
      · have hm0 : m = 0 := by omega
        have hl0 : len = 0 := by omega
        have hnews : news = [] := List.eq_nil_of_length_eq_zero (by omega)
        have hrows : rows = [] := List.eq_nil_of_length_eq_zero (by omega)
        subst hm0 hl0 hnews hrows
        have h2 := hnil.1 rfl
        exact ⟨none, 0, w', hrun, rfl, hfr, [[]], ⟨⟨hs0, .inl ⟨rfl, rfl, rfl⟩⟩, trivial⟩, by simp, by simp, by simp⟩
      · have hg'' : g' ∈ fp ∨ w.heap.size ≤ g' := by
          simp only [Value.ownBlock] at hat
          rcases hat with h1 | h1
          · exact .inl (hob g' (by simp only [Value.ownBlock]; exact h1.symm))
          · simp only [Option.some.injEq] at h1
            exact .inr (by omega)
        have hlt : g' < w'.heap.size := (Array.getElem?_eq_some_iff.1 hg').1
        refine ⟨_, cap', w', hrun, rfl, hfr, [[g']], ⟨⟨hs0, .inr ⟨g', cap', cur', xs ++ us, ?_, rfl, hg', ?_, hRall g' hg''⟩⟩, trivial⟩, by simp, fun b hb => ?_, by simp⟩
        · rw [List.length_append, hnm, hlen]
        · rw [List.length_append, hnm, ← hlen]
          exact ⟨hown'.1, hsz, hle, hmx, htk⟩
        · simp only [List.flatten_cons, List.flatten_nil, List.append_nil, List.mem_singleton] at hb
          subst hb
          exact ⟨hg'', hlt⟩
  obtain ⟨a', cap', w', hrun, hRet⟩ := key
  have hf := hRet.fr
  refine ⟨_, w', hrun, fun a2 hA => ⟨fun hck b hb hl => hf.block b hb fun hm => ?_, ?_⟩⟩
  · have hm2 := pick_flat_sub hm
    cases hWl : Wp.lookup i with
    | none =>
      rw [hWl, hck] at hok
      simp at hok
    | some ps =>
      rw [lookup_idsW, hWl] at hl
      obtain ⟨h1, h2⟩ := hl _ rfl
      rcases hH b hm2 with h3 | h3
      · exact h2 (List.mem_append_right _ h3)
      · omega
  · rw [filter_idsW]
    obtain ⟨fps', h3, s'⟩ := s.called (cs := [q]) hA hRet
    refine A a' cap' B Hd _ a2 w' s' (fun b hb => ?_) ⟨hR.old, hR.ro, hR.len, Nat.le_trans hR.size hf.size⟩ hN (okWp_filter hW)
    rw [List.flatten_append] at hb
    rcases List.mem_append.1 hb with hb | hb
    · exact hH b (pick_flat_sub hb)
    · rcases h3 b hb with h1 | h1
      · exact hH b (pick_flat_sub h1)
      · exact .inr (Nat.le_trans hR.size h1)

theorem JR_appc {S0 : Nat → Prop} {C0 : List Chunk} {G0 : List (Value × D)} {id L0 i : Nat} {ck : Bool} {Wp : List (Nat × List Nat)} {rest : List (Nat × Bool)} (q t e size bytes : Nat) (z : Value) {a0 ax : Option Addr} {len cap0 m c : Nat} {rows : List (List D)} {dst : Option Tmp} (news : List (List D))
    (he : appOf n (rgOf f id) E i = some (.slice a0 len cap0, .slice ax m c, t, dst)) (hok : (!ck || (Wp.lookup i).isSome) = true)
    (ht : P.underlying t = some (.slice e)) (hi : (P.info? e).map (fun i => (i.zero, i.size, i.bytes)) = some (some z, size, bytes)) (hzs : z.cells.size = size) (hs0 : 0 < size)
    (hc : C0[q]? = some (cAcc (.slice a0 len cap0) e size rows)) (hsrc : ∀ a w fps, StF n E h r F ⟨S0, C0, G0⟩ a w fps → SrcAt w (Sd ⟨S0, C0, G0⟩ h fps) ax m size news)
    (hmax : len + m ≤ maxLen) (hby : (len + m) * bytes ≤ 140737488355328)
    (A : ∀ a' cap', JR P f R n (rgOf f id) L0 ck rest (Wp.filter (·.1 != i)) k (E.put dst (.val (.slice a' (len + m) cap'))) h r F ⟨S0, restC C0 [q] ++ [cAcc (.slice a' (len + m) cap') e size (rows ++ news)], G0 ++ []⟩) :
    JR P f R n (rgOf f id) L0 ck ((i, false) :: rest) Wp k E h r F ⟨S0, C0, G0⟩ := JR_appc0 (Y := ⟨S0, C0, G0⟩) q t e size bytes z news he hok ht hi hzs hs0 hc hsrc hmax hby A
/-- .. with elements of a type. -/
theorem JR_appm0 {α : Type} {id L0 i : Nat} {ck : Bool} {Wp : List (Nat × List Nat)} {rest : List (Nat × Bool)} (q t e size bytes : Nat) (z : Value) {a0 ax : Option Addr} {len cap0 m c : Nat} {enc : α → List D} {l : List α} {dst : Option Tmp} (xs : List α)
    (he : appOf n (rgOf f id) E i = some (.slice a0 len cap0, .slice ax m c, t, dst)) (hok : (!ck || (Wp.lookup i).isSome) = true)
    (ht : P.underlying t = some (.slice e)) (hi : (P.info? e).map (fun i => (i.zero, i.size, i.bytes)) = some (some z, size, bytes)) (hzs : z.cells.size = size) (hs0 : 0 < size)
    (hc : Y.C[q]? = some (cAcc (.slice a0 len cap0) e size (l.map enc))) (hsrc : ∀ a w fps, StF n E h r F Y a w fps → SrcAt w (Sd Y h fps) ax m size (xs.map enc))
    (hmax : len + m ≤ maxLen) (hby : (len + m) * bytes ≤ 140737488355328)
    (A : ∀ a' cap', JR P f R n (rgOf f id) L0 ck rest (Wp.filter (·.1 != i)) k (E.put dst (.val (.slice a' (len + m) cap'))) h r F ⟨Y.S, restC Y.C [q] ++ [cAcc (.slice a' (len + m) cap') e size ((l ++ xs).map enc)], Y.G ++ []⟩) :
    JR P f R n (rgOf f id) L0 ck ((i, false) :: rest) Wp k E h r F Y := by
  refine JR_appc q t e size bytes z (xs.map enc) he hok ht hi hzs hs0 hc hsrc hmax hby fun a' cap' => ?_
  have := A a' cap'
  rwa [List.map_append] at this
theorem JR_appm {S0 : Nat → Prop} {C0 : List Chunk} {G0 : List (Value × D)} {α : Type} {id L0 i : Nat} {ck : Bool} {Wp : List (Nat × List Nat)} {rest : List (Nat × Bool)} (q t e size bytes : Nat) (z : Value) {a0 ax : Option Addr} {len cap0 m c : Nat} {enc : α → List D} {l : List α} {dst : Option Tmp} (xs : List α)
    (he : appOf n (rgOf f id) E i = some (.slice a0 len cap0, .slice ax m c, t, dst)) (hok : (!ck || (Wp.lookup i).isSome) = true)
    (ht : P.underlying t = some (.slice e)) (hi : (P.info? e).map (fun i => (i.zero, i.size, i.bytes)) = some (some z, size, bytes)) (hzs : z.cells.size = size) (hs0 : 0 < size)
    (hc : C0[q]? = some (cAcc (.slice a0 len cap0) e size (l.map enc))) (hsrc : ∀ a w fps, StF n E h r F ⟨S0, C0, G0⟩ a w fps → SrcAt w (Sd ⟨S0, C0, G0⟩ h fps) ax m size (xs.map enc))
    (hmax : len + m ≤ maxLen) (hby : (len + m) * bytes ≤ 140737488355328)
    (A : ∀ a' cap', JR P f R n (rgOf f id) L0 ck rest (Wp.filter (·.1 != i)) k (E.put dst (.val (.slice a' (len + m) cap'))) h r F ⟨S0, restC C0 [q] ++ [cAcc (.slice a' (len + m) cap') e size ((l ++ xs).map enc)], G0 ++ []⟩) :
    JR P f R n (rgOf f id) L0 ck ((i, false) :: rest) Wp k E h r F ⟨S0, C0, G0⟩ := JR_appm0 (Y := ⟨S0, C0, G0⟩) q t e size bytes z xs he hok ht hi hzs hs0 hc hsrc hmax hby A
theorem flatten_at {α : Type} {k : Nat} : ∀ {rows : List (List α)}, (∀ row ∈ rows, row.length = k) → ∀ {i j : Nat} {row : List α} {d : α}, rows[i]? = some row → row[j]? = some d → rows.flatten[i * k + j]? = some d
  | [], _, i, j, row, d, hi, _ => by simp at hi
  | r :: rows, hl, 0, j, row, d, hi, hj => by
    simp only [List.getElem?_cons_zero, Option.some.injEq] at hi
    subst hi
    have hjl := (List.getElem?_eq_some_iff.1 hj).1
    rw [Nat.zero_mul, Nat.zero_add, List.flatten_cons, List.getElem?_append_left hjl]
    exact hj
  | r :: rows, hl, i + 1, j, row, d, hi, hj => by
    have hr := hl r (List.mem_cons_self ..)
    have ih := flatten_at (fun x hx => hl x (List.mem_cons_of_mem _ hx)) (by simpa using hi) hj
    have h1 : (i + 1) * k = k + i * k := by rw [Nat.succ_mul]; omega
    rw [List.flatten_cons, List.getElem?_append_right (by rw [hr, h1]; omega), hr, h1]
    have h2 : k + i * k + j - k = i * k + j := by omega
    rw [h2]
    exact ih
/-- A block of ours, shared from now on: the data that its cells are. -/
theorem StF.data {a : Act} {w : World} {fps : List (List Nat)} (s : StF n E h r F Y a w fps) (p : Nat) {b : Nat} {cs : Array Value} {e : TypeId} {fz : Nat × Nat} {size cap : Nat} {rows : List (List D)} (hp : h[p]? = some (b, .cells cs e fz)) (hk : 0 < size) (hl : ∀ row ∈ rows, row.length = size) (hcap : rows.length ≤ cap)
    (hR : RowG Y.G cs.toList rows.flatten) : StF n E (h.eraseIdx p) r F ⟨Y.S, Y.C, Y.G ++ [(.slice (some ⟨b, 0, none⟩) rows.length cap, .sl size rows)]⟩ a w fps := by
  have hm : ∀ x ∈ h.eraseIdx p, x ∈ h := fun x hx => (List.eraseIdx_sublist h p).subset hx
  have hid : ∀ c, c ∈ (h.eraseIdx p).map (·.1) → c ∈ h.map (·.1) := fun c hc => by
    obtain ⟨x, hx, rfl⟩ := List.mem_map.1 hc
    exact List.mem_map.2 ⟨x, hm x hx, rfl⟩
  have hnot : b ∉ (h.eraseIdx p).map (·.1) := fun hc => by
    obtain ⟨x, hx, hxb⟩ := List.mem_map.1 hc
    obtain ⟨j, hj, he⟩ := List.mem_eraseIdx_iff_getElem?.1 hx
    have h1 : (h.map (·.1))[j]? = some b := by simp [he, hxb]
    have h2 : (h.map (·.1))[p]? = some b := by simp [hp]
    exact hj ((List.getElem?_inj (List.getElem?_eq_some_iff.1 h1).1 s.own.nodup).1 (h1.trans h2.symm))
  have hbm : (b, Obj.cells cs e fz) ∈ h := List.mem_of_getElem? hp
  have hbf : b ∉ fps.flatten := fun hx => s.gh.disj b hx (List.mem_map.2 ⟨_, hbm, rfl⟩)
  have hS : ∀ c, Sd Y h fps c → Sd Y (h.eraseIdx p) fps c := fun c hc => ⟨hc.1, fun hx => hc.2.1 (hid c hx), hc.2.2⟩
  refine ⟨s.ag, ⟨fun x hx => s.own.own x (hm x hx), ((List.eraseIdx_sublist h p).map _).nodup s.own.nodup, s.own.ro, fun x hx hc => s.own.apart x hx (hid _ hc)⟩, s.fr, fun f hf x hx => s.may f hf x (hm x hx),
    ⟨s.gh.chs.mono (fun _ _ => rfl) fun c hc _ => ⟨hS c hc, rfl⟩, s.gh.nodup, fun c hc hx => s.gh.disj c hc (hid c hx), s.gh.apart, s.gh.may, s.gh.lt, fun x hx => s.gh.own x (hm x hx), s.gh.hid, s.gh.top, fun x hx => ?_⟩⟩
  rcases List.mem_append.1 hx with hx | hx
  · exact (s.gh.g x hx).mono fun c hc _ => ⟨hS c hc, rfl⟩
  · rw [List.mem_singleton] at hx
    subst hx
    refine .sl (fun i j => cs.toList.getD (i * size + j) undef) (s.own.own _ hbm) ⟨s.gh.own _ hbm, hnot, hbf⟩ hcap hk hl (fun i j hi hj => ?_) fun i j row d hi hj => ?_
    · have hjr : j < (rows[i]'hi).length := by rw [hl _ (List.getElem_mem hi)]; exact hj
      have h1 := flatten_at hl (List.getElem?_eq_getElem hi) (List.getElem?_eq_getElem hjr)
      obtain ⟨u, hu, _⟩ := hR.at s.gh.g _ _ h1
      rw [Nat.zero_add, List.getD_eq_getElem?_getD, hu]
      simpa using hu
    · obtain ⟨u, hu, hr⟩ := hR.at s.gh.g _ _ (flatten_at hl hi hj)
      simp only [List.getD_eq_getElem?_getD, hu, Option.getD_some]
      exact hr.mono fun c hc _ => ⟨hS c hc, rfl⟩
theorem J_data0 {α : Type} (p : Nat) (enc : α → List D) (l : List α) (cap : Nat) {b : Nat} {cs : Array Value} {e : TypeId} {fz : Nat × Nat} {size : Nat} (hp : h[p]? = some (b, .cells cs e fz)) (hk : 0 < size) (hen : ∀ x ∈ l, (enc x).length = size) (hcap : l.length ≤ cap) (hR : RowG Y.G cs.toList (l.map enc).flatten)
    (H : J P f R n k E (h.eraseIdx p) r F ⟨Y.S, Y.C, Y.G ++ [(.slice (some ⟨b, 0, none⟩) (l.map enc).length cap, .sl size (l.map enc))]⟩) : J P f R n k E h r F Y := fun a w ⟨fps, s⟩ =>
  H a w ⟨fps, s.data p hp hk (by intro row hrow; obtain ⟨x, hx, rfl⟩ := List.mem_map.1 hrow; exact hen x hx) (by rw [List.length_map]; exact hcap) hR⟩
theorem J_data {S0 : Nat → Prop} {C0 : List Chunk} {G0 : List (Value × D)} {α : Type} (p : Nat) (enc : α → List D) (l : List α) (cap : Nat) {b : Nat} {cs : Array Value} {e : TypeId} {fz : Nat × Nat} {size : Nat} (hp : h[p]? = some (b, .cells cs e fz)) (hk : 0 < size) (hen : ∀ x ∈ l, (enc x).length = size) (hcap : l.length ≤ cap) (hR : RowG G0 cs.toList (l.map enc).flatten)
    (H : J P f R n k E (h.eraseIdx p) r F ⟨S0, C0, G0 ++ [(.slice (some ⟨b, 0, none⟩) (l.map enc).length cap, .sl size (l.map enc))]⟩) : J P f R n k E h r F ⟨S0, C0, G0⟩ := J_data0 (Y := ⟨S0, C0, G0⟩) p enc l cap hp hk hen hcap hR H
theorem JR_data0 {α : Type} {ops : Array Oper} {L0 : Nat} {ck : Bool} {plan : List (Nat × Bool)} {Wp : List (Nat × List Nat)} (p : Nat) (enc : α → List D) (l : List α) (cap : Nat) {b : Nat} {cs : Array Value} {e : TypeId} {fz : Nat × Nat} {size : Nat} (hp : h[p]? = some (b, .cells cs e fz)) (hL : Nat.ble L0 p = true) (hk : 0 < size) (hen : ∀ x ∈ l, (enc x).length = size) (hcap : l.length ≤ cap) (hR : RowG Y.G cs.toList (l.map enc).flatten)
    (H : JR P f R n ops L0 ck plan Wp k E (h.eraseIdx p) r F ⟨Y.S, Y.C, Y.G ++ [(.slice (some ⟨b, 0, none⟩) (l.map enc).length cap, .sl size (l.map enc))]⟩) : JR P f R n ops L0 ck plan Wp k E h r F Y := fun B Hd fps a w s hH hR2 hN hW => by
  have hLp := Nat.le_of_ble_eq_true hL
  have hpl := (List.getElem?_eq_some_iff.1 hp).1
  have hsame : ∀ i : Nat, i < L0 → (h.eraseIdx p)[i]? = h[i]? := fun i hi => by rw [List.getElem?_eraseIdx]; simp [show i < p by omega]
  have s' := s.data (cap := cap) p hp hk (rows := l.map enc) (by intro row hrow; obtain ⟨x, hx, rfl⟩ := List.mem_map.1 hrow; exact hen x hx) (by rw [List.length_map]; exact hcap) hR
  have hids : idsW Hd (h.eraseIdx p) Wp = idsW Hd h Wp := by
    unfold idsW
    refine List.map_congr_left fun y hy => ?_
    congr 2
    have h1 := List.all_eq_true.1 hW y hy
    exact filterMap_same _ _ _ fun q hq => by rw [hsame q (blt_lt (List.all_eq_true.1 h1 q hq))]
  have := H B Hd fps a w s' hH ⟨fun i hi x hx => hR2.old i hi x (by rw [← hsame i hi]; exact hx), hR2.ro, by rw [List.length_eraseIdx]; simp only [hpl, if_true]; have := hR2.len; omega, hR2.size⟩ (fun j hj x hx => by
    rw [List.getElem?_eraseIdx] at hx
    split at hx
    · exact hN j hj x hx
    · exact hN (j + 1) (by omega) x hx) hW
  rwa [hids] at this
theorem JR_data {S0 : Nat → Prop} {C0 : List Chunk} {G0 : List (Value × D)} {α : Type} {ops : Array Oper} {L0 : Nat} {ck : Bool} {plan : List (Nat × Bool)} {Wp : List (Nat × List Nat)} (p : Nat) (enc : α → List D) (l : List α) (cap : Nat) {b : Nat} {cs : Array Value} {e : TypeId} {fz : Nat × Nat} {size : Nat} (hp : h[p]? = some (b, .cells cs e fz)) (hL : Nat.ble L0 p = true) (hk : 0 < size) (hen : ∀ x ∈ l, (enc x).length = size) (hcap : l.length ≤ cap) (hR : RowG G0 cs.toList (l.map enc).flatten)
    (H : JR P f R n ops L0 ck plan Wp k E (h.eraseIdx p) r F ⟨S0, C0, G0 ++ [(.slice (some ⟨b, 0, none⟩) (l.map enc).length cap, .sl size (l.map enc))]⟩) : JR P f R n ops L0 ck plan Wp k E h r F ⟨S0, C0, G0⟩ := JR_data0 (Y := ⟨S0, C0, G0⟩) p enc l cap hp hL hk hen hcap hR H
/-- A block of ours, shared from now on, known whole. -/
theorem StF.share {a : Act} {w : World} {fps : List (List Nat)} (s : StF n E h r F Y a w fps) (p : Nat) {b : Nat} {o : Obj} (hp : h[p]? = some (b, o)) : StF n E (h.eraseIdx p) r F ⟨Y.S, Y.C, Y.G ++ [(.pointer (some ⟨b, 0, none⟩), .obj o)]⟩ a w fps := by
  have hm : ∀ x ∈ h.eraseIdx p, x ∈ h := fun x hx => (List.eraseIdx_sublist h p).subset hx
  have hid : ∀ c, c ∈ (h.eraseIdx p).map (·.1) → c ∈ h.map (·.1) := fun c hc => by
    obtain ⟨x, hx, rfl⟩ := List.mem_map.1 hc
    exact List.mem_map.2 ⟨x, hm x hx, rfl⟩
  have hnot : b ∉ (h.eraseIdx p).map (·.1) := fun hc => by
    obtain ⟨x, hx, hxb⟩ := List.mem_map.1 hc
    obtain ⟨j, hj, he⟩ := List.mem_eraseIdx_iff_getElem?.1 hx
    have h1 : (h.map (·.1))[j]? = some b := by simp [he, hxb]
    have h2 : (h.map (·.1))[p]? = some b := by simp [hp]
    exact hj ((List.getElem?_inj (List.getElem?_eq_some_iff.1 h1).1 s.own.nodup).1 (h1.trans h2.symm))
  have hbm : (b, o) ∈ h := List.mem_of_getElem? hp
  have hbf : b ∉ fps.flatten := fun hx => s.gh.disj b hx (List.mem_map.2 ⟨_, hbm, rfl⟩)
  have hS : ∀ c, Sd Y h fps c → Sd Y (h.eraseIdx p) fps c := fun c hc => ⟨hc.1, fun hx => hc.2.1 (hid c hx), hc.2.2⟩
  refine ⟨s.ag, ⟨fun x hx => s.own.own x (hm x hx), ((List.eraseIdx_sublist h p).map _).nodup s.own.nodup, s.own.ro, fun x hx hc => s.own.apart x hx (hid _ hc)⟩, s.fr, fun f hf x hx => s.may f hf x (hm x hx),
    ⟨s.gh.chs.mono (fun _ _ => rfl) fun c hc _ => ⟨hS c hc, rfl⟩, s.gh.nodup, fun c hc hx => s.gh.disj c hc (hid c hx), s.gh.apart, s.gh.may, s.gh.lt, fun x hx => s.gh.own x (hm x hx), s.gh.hid, s.gh.top, fun x hx => ?_⟩⟩
  rcases List.mem_append.1 hx with hx | hx
  · exact (s.gh.g x hx).mono fun c hc _ => ⟨hS c hc, rfl⟩
  · rw [List.mem_singleton] at hx
    subst hx
    exact .obj (s.own.own _ hbm) ⟨s.gh.own _ hbm, hnot, hbf⟩
theorem St.share {a : Act} {w : World} (s : St n E h r F Y a w) (p : Nat) {b : Nat} {o : Obj} (hp : h[p]? = some (b, o)) : St n E (h.eraseIdx p) r F ⟨Y.S, Y.C, Y.G ++ [(.pointer (some ⟨b, 0, none⟩), .obj o)]⟩ a w := by
  obtain ⟨fps, s⟩ := s
  exact ⟨fps, s.share p hp⟩
theorem J_share {S0 : Nat → Prop} {C0 : List Chunk} {G0 : List (Value × D)} (p : Nat) {b : Nat} {o : Obj} (hp : h[p]? = some (b, o)) (H : J P f R n k E (h.eraseIdx p) r F ⟨S0, C0, G0 ++ [(.pointer (some ⟨b, 0, none⟩), .obj o)]⟩) : J P f R n k E h r F ⟨S0, C0, G0⟩ := fun a w ⟨fps, s⟩ =>
  H a w ⟨fps, s.share p hp⟩
theorem JR_share {S0 : Nat → Prop} {C0 : List Chunk} {G0 : List (Value × D)} {ops : Array Oper} {L0 : Nat} {ck : Bool} {plan : List (Nat × Bool)} {Wp : List (Nat × List Nat)} (p : Nat) {b : Nat} {o : Obj} (hp : h[p]? = some (b, o)) (hL : Nat.ble L0 p = true)
    (H : JR P f R n ops L0 ck plan Wp k E (h.eraseIdx p) r F ⟨S0, C0, G0 ++ [(.pointer (some ⟨b, 0, none⟩), .obj o)]⟩) : JR P f R n ops L0 ck plan Wp k E h r F ⟨S0, C0, G0⟩ := fun B Hd fps a w s hH hR2 hN hW => by
  have hLp := Nat.le_of_ble_eq_true hL
  have hpl := (List.getElem?_eq_some_iff.1 hp).1
  have hsame : ∀ i : Nat, i < L0 → (h.eraseIdx p)[i]? = h[i]? := fun i hi => by rw [List.getElem?_eraseIdx]; simp [show i < p by omega]
  have s' := s.share p hp
  have hids : idsW Hd (h.eraseIdx p) Wp = idsW Hd h Wp := by
    unfold idsW
    refine List.map_congr_left fun y hy => ?_
    congr 2
    have h1 := List.all_eq_true.1 hW y hy
    exact filterMap_same _ _ _ fun q hq => by rw [hsame q (blt_lt (List.all_eq_true.1 h1 q hq))]
  have := H B Hd fps a w s' hH ⟨fun i hi x hx => hR2.old i hi x (by rw [← hsame i hi]; exact hx), hR2.ro, by rw [List.length_eraseIdx]; simp only [hpl, if_true]; have := hR2.len; omega, hR2.size⟩ (fun j hj x hx => by
    rw [List.getElem?_eraseIdx] at hx
    split at hx
    · exact hN j hj x hx
    · exact hN (j + 1) (by omega) x hx) hW
  rwa [hids] at this
theorem rd0 {cs : Array Value} {x : Nat} {v : Value} (h : cs[x + 0]? = some v) : cs[x]? = some v := h
theorem map_at {α β : Type} {g : α → β} {l : List α} {i : Nat} {x : α} (h : l[i]? = some x) : (l.map g)[i]? = some (g x) := by rw [List.getElem?_map, h]; rfl
end appc
end Go.Sx
