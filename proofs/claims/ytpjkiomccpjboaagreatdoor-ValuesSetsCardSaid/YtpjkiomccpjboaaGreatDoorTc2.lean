/- Part 2 of the texts of a claim: Tx8 Tx10 Tx11 Tx12 Tx13 Tx14 Dat MsgT Tk Clone EqDot Tx15 Tx16 Tk2 Name Vec1 Vec2 Vec3 Errs Code. -/
import Derived.Maps.AppendAt
import Derived.MapKept
import Derived.Laws.CopyRow
import Derived.Lib.ConvBytes
import Derived.Below
import Derived.Test.YtpjkiomccpjboaaGreatDoorProg
import Derived.WalkKit
import Derived.LaidEql
import Derived.Stop.Asserts
import Derived.RowKitTokens
import Derived.Test.YtpjkiomccpjboaaGreatDoorTc1
section
namespace Go.Sx
open Go
def appOf (n : Nat) (ops : Array Oper) (E : Env) (i : Nat) : Option (Value × Value × TypeId × Option Tmp) :=
  match ops[i]? with
  | none => none
  | some o => if dstOk n o.dst then match o.guard with
    | some _ => none
    | none => match o.op with
      | .call c => match c.callee with
        | .builtin .append => match opsOk E none c.args.toList with
          | some [] => match c.args.toList, c.argTypes.toList with
            | [s, x], [t, u] => if Nat.beq t u then some (rho E s, rho E x, t, o.dst) else none
            | _, _ => none
          | _ => none
        | _ => none
      | _ => none
    else none
theorem appOf_sound {P : Program} {f : Func} {R : Act → World → Prop} {n : Nat} {ops : Array Oper} {i : Nat} {E : Env} {h r : List (Nat × Obj)} {F : List (List Nat × World)} {Y : Ghost} {sv xv : Value} {t : TypeId} {dst : Option Tmp} (he : appOf n ops E i = some (sv, xv, t, dst))
    {a : Act} {w : World} (s : St n E h r F Y a w) {K : Act → World → Prop} {k : List Itm}
    (H : ∀ ty, ∃ v' w', (Builtin.append_ #[t, t] ty #[sv, xv]).run P w = .ok v' w' ∧ ∀ a', Ag n (E.put dst (.val v')) a' → K a' w') : wpOp P ops (wpK P f R k) i K a w := by
  unfold appOf at he
  split at he
  · cases he
  rename_i o ho
  split at he
  case isFalse => cases he
  rename_i hd
  split at he
  · cases he
  rename_i hg
  split at he
  case h_2 => cases he
  rename_i c hc
  split at he
  case h_2 => cases he
  rename_i hcal
  split at he
  case h_2 => cases he
  rename_i hq
  split at he
  case h_2 => cases he
  rename_i xs x t' u hargs htys
  split at he
  case isFalse => cases he
  rename_i htu
  simp only [Option.some.injEq, Prod.mk.injEq] at he
  obtain ⟨rfl, rfl, rfl, rfl⟩ := he
  obtain rfl := Nat.eq_of_beq_eq_true htu
  have hev := opsOk_sound s.ag (fun c w h => by cases h) _ _ hq trivial
  have e1 : a.eval xs = rho E xs := hev xs (by rw [hargs]; simp)
  have e2 : a.eval x = rho E x := hev x (by rw [hargs]; simp)
  have hca : c.args = #[xs, x] := by rw [← Array.toArray_toList (xs := c.args), hargs]
  have hct : c.argTypes = #[t', t'] := by rw [← Array.toArray_toList (xs := c.argTypes), htys]
  obtain ⟨v', w', hrun, hk⟩ := H o.type
  unfold wpOp
  simp only [ho]
  rw [if_pos (by simp [Region.wanted, hg])]
  refine .inl ?_
  unfold Oper.wp execOp
  simp only [hc, resolve, hcal, hca, hct, invoke, builtin, Sem.run_bind, Sem.run_pure, Result.andThen_ok, List.map_toArray, List.map_cons, List.map_nil, e1, e2, hrun]
  exact hk _ (s.ag.put hd (.val v'))
section app
variable {P : Program} {f : Func} {R : Act → World → Prop} {n : Nat} {k : List Itm} {E : Env} {h r : List (Nat × Obj)} {F : List (List Nat × World)} {Y : Ghost}
theorem infoParts {P : Program} {e : TypeId} {z : Value} {size bytes : Nat} (h : (P.info? e).map (fun i => (i.zero, i.size, i.bytes)) = some (some z, size, bytes)) : ∃ inf, P.info? e = some inf ∧ inf.zero = some z ∧ inf.size = size ∧ inf.bytes = bytes := by
  obtain ⟨inf, hi, hx⟩ := Option.map_eq_some_iff.1 h
  simp only [Prod.mk.injEq] at hx
  exact ⟨inf, hi, hx.1, hx.2.1, hx.2.2⟩
end app
def SrcAt (w : World) (S : Nat → Prop) (ax : Option Addr) (m size : Nat) (news : List (List D)) : Prop :=
  news.length = m ∧ ((ax = none ∧ m = 0) ∨ ∃ ad us, ax = some ad ∧ us.length = m * size ∧ (∀ (j : Nat) u, us[j]? = some u → w.cell? (ad.add j) = some u) ∧ RowsAt w S us size news)
def RowG (G : List (Value × D)) : List Value → List D → Prop
  | [], [] => True
  | u :: us, d :: ds => ((d = .v u ∧ u.oneCell' = true) ∨ (u, d) ∈ G ∨ ∃ a c k, u = .slice a 0 c ∧ d = .sl k []) ∧ RowG G us ds
  | _, _ => False
theorem RowG.len {G : List (Value × D)} : ∀ {us : List Value} {ds : List D}, RowG G us ds → us.length = ds.length
  | [], [], _ => rfl
  | _ :: _, _ :: _, h => by simp [RowG.len h.2]
  | [], _ :: _, h => h.elim
  | _ :: _, [], h => h.elim
theorem RowG.at {G : List (Value × D)} {w : World} {S : Nat → Prop} (hG : ∀ x ∈ G, Rep w S x.1 x.2) : ∀ {us : List Value} {ds : List D}, RowG G us ds → ∀ (j : Nat) (d : D), ds[j]? = some d → ∃ u, us[j]? = some u ∧ Rep w S u d
  | [], [], _, j, d, hd => by simp at hd
  | u :: us, d0 :: ds, h, 0, d, hd => by
    simp only [List.getElem?_cons_zero, Option.some.injEq] at hd
    subst hd
    refine ⟨u, rfl, ?_⟩
    rcases h.1 with ⟨rfl, h1⟩ | h1 | ⟨a, c, k, rfl, rfl⟩
    · exact .v h1
    · exact hG _ h1
    · exact .nil
  | u :: us, d0 :: ds, h, j + 1, d, hd => by
    obtain ⟨u', h1, h2⟩ := RowG.at hG h.2 j d (by simpa using hd)
    exact ⟨u', by simpa using h1, h2⟩
  | [], _ :: _, h, _, _, _ => h.elim
  | _ :: _, [], h, _, _, _ => h.elim
section appc
variable {P : Program} {f : Func} {R : Act → World → Prop} {n : Nat} {k : List Itm} {E : Env} {h r : List (Nat × Obj)} {F : List (List Nat × World)} {Y : Ghost}
theorem src_one {a : Act} {w : World} {fps : List (List Nat)} (s : StF n E h r F Y a w fps) (p : Nat) {b : Nat} {cs : Array Value} {ty : TypeId} {fz : Nat × Nat} {size : Nat} {row : List D} (hp : h[p]? = some (b, .cells cs ty fz)) (hsz : row.length = size) (hR : RowG Y.G cs.toList row) :
    SrcAt w (Sd Y h fps) (some ⟨b, 0, none⟩) 1 size [row] := by
  have hb := s.own.own _ (List.mem_of_getElem? hp)
  refine ⟨rfl, .inr ⟨_, cs.toList, rfl, by rw [hR.len, hsz, Nat.one_mul], fun j u hu => ?_, by simp [hsz], fun i j row' d hi hj => ?_⟩⟩
  · have hadd : (⟨b, 0, none⟩ : Addr).add j = ⟨b, 0 + j, none⟩ := by unfold Addr.add; split <;> simp_all
    rw [hadd]
    exact cell_of rfl hb rfl (by simpa using hu)
  · cases i with
    | succ i => simp at hi
    | zero =>
      simp only [List.getElem?_cons_zero, Option.some.injEq] at hi
      subst hi
      rw [Nat.zero_mul, Nat.zero_add]
      exact hR.at s.gh.g j d hj
theorem src_rep {w : World} {S : Nat → Prop} {a : Option Addr} {m c size : Nat} {rows : List (List D)} (h : Rep w S (.slice a m c) (.sl size rows)) (hsz : 0 < size) : SrcAt w S a m size rows := by
  cases h with
  | nil => cases a with
    | none => exact ⟨rfl, .inl ⟨rfl, rfl⟩⟩
    | some ad => exact ⟨rfl, .inr ⟨ad, [], rfl, by simp, by simp, RowsAt.nil _ _ _ _⟩⟩
  | sl u hb hS hc hk hl hcell hrep =>
    rename_i b off cs e fz
    refine ⟨rfl, .inr ⟨_, (List.range (rows.length * size)).map (fun q => u (q / size) (q % size)), rfl, by simp, fun j x hx => ?_, hl, fun i j row d hi hj => ?_⟩⟩
    · rw [List.getElem?_map] at hx
      obtain ⟨q, hq, rfl⟩ := Option.map_eq_some_iff.1 hx
      have hlt : j < rows.length * size := by simpa using (List.getElem?_eq_some_iff.1 hq).1
      have hqj : q = j := by rw [List.getElem?_range hlt] at hq; exact (Option.some.inj hq).symm
      subst hqj
      have h1 : q / size < rows.length := Nat.div_lt_of_lt_mul (by rw [Nat.mul_comm]; exact hlt)
      have h2 := hcell (q / size) (q % size) h1 (Nat.mod_lt _ hk)
      rw [Nat.mul_comm, Nat.div_add_mod] at h2
      have hadd : (⟨b, off, none⟩ : Addr).add q = ⟨b, off + q, none⟩ := by unfold Addr.add; split <;> simp_all
      rw [hadd]
      exact cell_of rfl hb rfl h2
    · have hil := (List.getElem?_eq_some_iff.1 hi).1
      have hjl : j < size := by
        rw [← hl row (List.mem_of_getElem? hi)]
        exact (List.getElem?_eq_some_iff.1 hj).1
      refine ⟨u i j, ?_, hrep i j row d hi hj⟩
      rw [List.getElem?_map, List.getElem?_range (idx_lt hil hjl)]
      have h1 : (i * size + j) / size = i := by
        rw [Nat.mul_comm, Nat.mul_add_div hk, Nat.div_eq_of_lt hjl, Nat.add_zero]
      have h2 : (i * size + j) % size = j := by
        rw [Nat.mul_comm, Nat.mul_add_mod, Nat.mod_eq_of_lt hjl]
      simp [h1, h2]
theorem src_fact {a : Act} {w : World} {fps : List (List Nat)} (s : StF n E h r F Y a w fps) (p : Nat) {a0 : Option Addr} {m c size : Nat} {rows : List (List D)} (hp : Y.G[p]? = some (.slice a0 m c, .sl size rows)) (hsz : 0 < size) : SrcAt w (Sd Y h fps) a0 m size rows :=
  src_rep (s.gh.g _ (List.mem_of_getElem? hp)) hsz
theorem JR_appc0 {id L0 i : Nat} {ck : Bool} {Wp : List (Nat × List Nat)} {rest : List (Nat × Bool)} (q t e size bytes : Nat) (z : Value) {a0 ax : Option Addr} {len cap0 m c : Nat} {rows : List (List D)} {dst : Option Tmp} (news : List (List D))
    (he : appOf n (rgOf f id) E i = some (.slice a0 len cap0, .slice ax m c, t, dst)) (hok : (!ck || (Wp.lookup i).isSome) = true)
    (ht : P.underlying t = some (.slice e)) (hi : (P.info? e).map (fun i => (i.zero, i.size, i.bytes)) = some (some z, size, bytes)) (hzs : z.cells.size = size) (hs0 : 0 < size)
    (hc : Y.C[q]? = some (cAcc (.slice a0 len cap0) e size rows)) (hsrc : ∀ a w fps, StF n E h r F Y a w fps → SrcAt w (Sd Y h fps) ax m size news)
    (hmax : len + m ≤ maxLen) (hby : (len + m) * bytes ≤ 140737488355328)
    (A : ∀ a' cap', JR P f R n (rgOf f id) L0 ck rest (Wp.filter (·.1 != i)) k (E.put dst (.val (.slice a' (len + m) cap'))) h r F ⟨Y.S, restC Y.C [q] ++ [cAcc (.slice a' (len + m) cap') e size (rows ++ news)], Y.G ++ []⟩) :
    JR P f R n (rgOf f id) L0 ck ((i, false) :: rest) Wp k E h r F Y := by
  obtain ⟨inf, h1i, h2i, rfl, rfl⟩ := infoParts hi
  intro B Hd fps a w s hH hR hN hW
  simp only [PW]
  obtain ⟨fp, hfp, _, hP⟩ := s.gh.chs.at hc
  have hlen := acc_len (show (cAcc (.slice a0 len cap0) e inf.size rows).P w (Sd Y h fps) fp from ⟨hs0, hP⟩)
  have hpk : pick fps [q] = [fp] := by simp [pick, hfp]
  have hM : (pick fps [q]).flatten = fp := by rw [hpk]; simp
  refine appOf_sound he s.st fun ty => ?_
  obtain ⟨hnm, hsr⟩ := hsrc a w fps s
  have key : ∃ a' cap' w', (Builtin.append_ #[t, t] ty #[.slice a0 len cap0, .slice ax m c]).run P w = .ok (.slice a' (len + m) cap') w' ∧ Ret (pick fps [q]).flatten w (Sd Y h fps) w' (.returned (.slice a' (len + m) cap')) (.slice a' (len + m) cap') [cAcc (.slice a' (len + m) cap') e inf.size (rows ++ news)] [] := by
    rw [hM]
    rcases hsr with ⟨rfl, rfl⟩ | ⟨ad, us, rfl, hul, hus, hRus⟩
    · have hnews : news = [] := List.eq_nil_of_length_eq_zero hnm
      subst hnews
      have hle : len ≤ cap0 := by
        rcases hP with ⟨_, h2, _⟩ | ⟨g, cap, cur, xs, h2, _, _, h3, _⟩
        · cases h2; exact Nat.le_refl _
        · cases h2; exact h3.le
      refine ⟨a0, cap0, w, ?_, rfl, Fr.refl _ _, [fp], ?_, ?_, fun b hb => ⟨.inl (by simpa using hb), s.gh.lt b (List.mem_flatten.2 ⟨fp, List.mem_of_getElem? hfp, by simpa using hb⟩)⟩, by simp⟩
      · cases a0 <;> simp [Builtin.append_, run_underlying ht, sizeOf, typeInfo, h1i, Builtin.lenOf, Builtin.firstCells, hle, storeCells]
      · refine ⟨?_, trivial⟩
        rw [List.append_nil, Nat.add_zero]
        refine (cAcc _ _ _ _).mono (w := w) (S := Sd Y h fps) ⟨hs0, hP⟩ (fun _ _ => rfl) fun b hb _ => ⟨⟨.inl hb, fun hm => hb.2.2 ?_⟩, rfl⟩
        exact List.mem_flatten.2 ⟨fp, List.mem_of_getElem? hfp, by simpa using hm⟩
      · have := nodup_sublist_flat s.gh.nodup (List.singleton_sublist.2 (List.mem_of_getElem? hfp))
        exact this
    · have hown : ∃ xs, w.ownsRow 0 e inf.size (.slice a0 len cap0) len xs ∧ RowsAt w (Sd Y h fps) xs inf.size rows ∧ xs.length = rows.length * inf.size ∧ (∀ b, (Value.slice a0 len cap0).ownBlock = some b → b ∈ fp) := by
        rcases hP with ⟨rfl, h2, rfl⟩ | ⟨g, cap, cur, xs, h2, rfl, h3, h4, h5⟩
        · cases h2
          exact ⟨[], World.ownsRow_nil w 0 e inf.size, RowsAt.nil _ _ _ _, by simp, by simp [Value.ownBlock]⟩
        · cases h2
          exact ⟨xs, ⟨h4.len, .inr ⟨g, cap0, cur, rfl, Nat.zero_le _, h3, h4.le, h4.max, h4.siz, h4.take⟩⟩, h5, h4.len, by simp [Value.ownBlock]⟩
      obtain ⟨xs, hown, hRx, hxl, hob⟩ := hown
      obtain ⟨v', w', hrun, hown', hgr, hnil, hat⟩ := run_append_own_at (P := P) w 0 t ty e inf z inf.size inf.bytes ht h1i h2i rfl rfl hzs hs0 _ len xs hown ad m c us hul hus (hRus.one (by rw [hul, hnm])) hmax hby (Nat.zero_le _)
      have hfr : Fr fp w w' := ⟨hgr.os, hgr.tape, hgr.output, hgr.size, fun b hb hn => hgr.block b hb fun he => hn (hob b he.symm), Sem.run_drawn hrun⟩
      have hnot : ∀ b, Sd Y h fps b → b ∉ fp := fun b hb hm => hb.2.2 (List.mem_flatten.2 ⟨fp, List.mem_of_getElem? hfp, hm⟩)
      have hRall : ∀ g', (g' ∈ fp ∨ w.heap.size ≤ g') → RowsAt w' (retS (Sd Y h fps) fp w [[g']]) (xs ++ us) inf.size (rows ++ news) := fun g' hg' =>
        (hRx.app hxl hRus).mono fun b hb hlt => ⟨⟨.inl hb, fun hm => by
          simp only [List.flatten_cons, List.flatten_nil, List.append_nil, List.mem_singleton] at hm
          subst hm
          rcases hg' with h1 | h1
          · exact hnot _ hb h1
          · omega⟩, hfr.block b hlt (hnot b hb)⟩
      rcases hown'.2 with ⟨rfl, h0⟩ | ⟨g', cap', cur', rfl, _, hg', hle, hmx, hsz, htk⟩
      · have hm0 : m = 0 := by omega
        have hl0 : len = 0 := by omega
        have hnews : news = [] := List.eq_nil_of_length_eq_zero (by omega)
        have hrows : rows = [] := List.eq_nil_of_length_eq_zero (by omega)
        subst hm0 hl0 hnews hrows
        have h2 := hnil.1 rfl
        exact ⟨none, 0, w', hrun, rfl, hfr, [[]], ⟨⟨hs0, .inl ⟨rfl, rfl, rfl⟩⟩, trivial⟩, by simp, by simp, by simp⟩
      · have hg'' : g' ∈ fp ∨ w.heap.size ≤ g' := by
          simp only [Value.ownBlock] at hat
          rcases hat with h1 | h1
          · exact .inl (hob g' (by simp only [Value.ownBlock]; exact h1.symm))
          · simp only [Option.some.injEq] at h1
            exact .inr (by omega)
        have hlt : g' < w'.heap.size := (Array.getElem?_eq_some_iff.1 hg').1
        refine ⟨_, cap', w', hrun, rfl, hfr, [[g']], ⟨⟨hs0, .inr ⟨g', cap', cur', xs ++ us, ?_, rfl, hg', ?_, hRall g' hg''⟩⟩, trivial⟩, by simp, fun b hb => ?_, by simp⟩
        · rw [List.length_append, hnm, hlen]
        · rw [List.length_append, hnm, ← hlen]
          exact ⟨hown'.1, hsz, hle, hmx, htk⟩
        · simp only [List.flatten_cons, List.flatten_nil, List.append_nil, List.mem_singleton] at hb
          subst hb
          exact ⟨hg'', hlt⟩
  obtain ⟨a', cap', w', hrun, hRet⟩ := key
  have hf := hRet.fr
  refine ⟨_, w', hrun, fun a2 hA => ⟨fun hck b hb hl => hf.block b hb fun hm => ?_, ?_⟩⟩
  · have hm2 := pick_flat_sub hm
    cases hWl : Wp.lookup i with
    | none =>
      rw [hWl, hck] at hok
      simp at hok
    | some ps =>
      rw [lookup_idsW, hWl] at hl
      obtain ⟨h1, h2⟩ := hl _ rfl
      rcases hH b hm2 with h3 | h3
      · exact h2 (List.mem_append_right _ h3)
      · omega
  · rw [filter_idsW]
    obtain ⟨fps', h3, s'⟩ := s.called (cs := [q]) hA hRet
    refine A a' cap' B Hd _ a2 w' s' (fun b hb => ?_) ⟨hR.old, hR.ro, hR.len, Nat.le_trans hR.size hf.size⟩ hN (okWp_filter hW)
    rw [List.flatten_append] at hb
    rcases List.mem_append.1 hb with hb | hb
    · exact hH b (pick_flat_sub hb)
    · rcases h3 b hb with h1 | h1
      · exact hH b (pick_flat_sub h1)
      · exact .inr (Nat.le_trans hR.size h1)
theorem JR_appc {S0 : Nat → Prop} {C0 : List Chunk} {G0 : List (Value × D)} {id L0 i : Nat} {ck : Bool} {Wp : List (Nat × List Nat)} {rest : List (Nat × Bool)} (q t e size bytes : Nat) (z : Value) {a0 ax : Option Addr} {len cap0 m c : Nat} {rows : List (List D)} {dst : Option Tmp} (news : List (List D))
    (he : appOf n (rgOf f id) E i = some (.slice a0 len cap0, .slice ax m c, t, dst)) (hok : (!ck || (Wp.lookup i).isSome) = true)
    (ht : P.underlying t = some (.slice e)) (hi : (P.info? e).map (fun i => (i.zero, i.size, i.bytes)) = some (some z, size, bytes)) (hzs : z.cells.size = size) (hs0 : 0 < size)
    (hc : C0[q]? = some (cAcc (.slice a0 len cap0) e size rows)) (hsrc : ∀ a w fps, StF n E h r F ⟨S0, C0, G0⟩ a w fps → SrcAt w (Sd ⟨S0, C0, G0⟩ h fps) ax m size news)
    (hmax : len + m ≤ maxLen) (hby : (len + m) * bytes ≤ 140737488355328)
    (A : ∀ a' cap', JR P f R n (rgOf f id) L0 ck rest (Wp.filter (·.1 != i)) k (E.put dst (.val (.slice a' (len + m) cap'))) h r F ⟨S0, restC C0 [q] ++ [cAcc (.slice a' (len + m) cap') e size (rows ++ news)], G0 ++ []⟩) :
    JR P f R n (rgOf f id) L0 ck ((i, false) :: rest) Wp k E h r F ⟨S0, C0, G0⟩ := JR_appc0 (Y := ⟨S0, C0, G0⟩) q t e size bytes z news he hok ht hi hzs hs0 hc hsrc hmax hby A
theorem JR_appm0 {α : Type} {id L0 i : Nat} {ck : Bool} {Wp : List (Nat × List Nat)} {rest : List (Nat × Bool)} (q t e size bytes : Nat) (z : Value) {a0 ax : Option Addr} {len cap0 m c : Nat} {enc : α → List D} {l : List α} {dst : Option Tmp} (xs : List α)
    (he : appOf n (rgOf f id) E i = some (.slice a0 len cap0, .slice ax m c, t, dst)) (hok : (!ck || (Wp.lookup i).isSome) = true)
    (ht : P.underlying t = some (.slice e)) (hi : (P.info? e).map (fun i => (i.zero, i.size, i.bytes)) = some (some z, size, bytes)) (hzs : z.cells.size = size) (hs0 : 0 < size)
    (hc : Y.C[q]? = some (cAcc (.slice a0 len cap0) e size (l.map enc))) (hsrc : ∀ a w fps, StF n E h r F Y a w fps → SrcAt w (Sd Y h fps) ax m size (xs.map enc))
    (hmax : len + m ≤ maxLen) (hby : (len + m) * bytes ≤ 140737488355328)
    (A : ∀ a' cap', JR P f R n (rgOf f id) L0 ck rest (Wp.filter (·.1 != i)) k (E.put dst (.val (.slice a' (len + m) cap'))) h r F ⟨Y.S, restC Y.C [q] ++ [cAcc (.slice a' (len + m) cap') e size ((l ++ xs).map enc)], Y.G ++ []⟩) :
    JR P f R n (rgOf f id) L0 ck ((i, false) :: rest) Wp k E h r F Y := by
  refine JR_appc q t e size bytes z (xs.map enc) he hok ht hi hzs hs0 hc hsrc hmax hby fun a' cap' => ?_
  have := A a' cap'
  rwa [List.map_append] at this
theorem JR_appm {S0 : Nat → Prop} {C0 : List Chunk} {G0 : List (Value × D)} {α : Type} {id L0 i : Nat} {ck : Bool} {Wp : List (Nat × List Nat)} {rest : List (Nat × Bool)} (q t e size bytes : Nat) (z : Value) {a0 ax : Option Addr} {len cap0 m c : Nat} {enc : α → List D} {l : List α} {dst : Option Tmp} (xs : List α)
    (he : appOf n (rgOf f id) E i = some (.slice a0 len cap0, .slice ax m c, t, dst)) (hok : (!ck || (Wp.lookup i).isSome) = true)
    (ht : P.underlying t = some (.slice e)) (hi : (P.info? e).map (fun i => (i.zero, i.size, i.bytes)) = some (some z, size, bytes)) (hzs : z.cells.size = size) (hs0 : 0 < size)
    (hc : C0[q]? = some (cAcc (.slice a0 len cap0) e size (l.map enc))) (hsrc : ∀ a w fps, StF n E h r F ⟨S0, C0, G0⟩ a w fps → SrcAt w (Sd ⟨S0, C0, G0⟩ h fps) ax m size (xs.map enc))
    (hmax : len + m ≤ maxLen) (hby : (len + m) * bytes ≤ 140737488355328)
    (A : ∀ a' cap', JR P f R n (rgOf f id) L0 ck rest (Wp.filter (·.1 != i)) k (E.put dst (.val (.slice a' (len + m) cap'))) h r F ⟨S0, restC C0 [q] ++ [cAcc (.slice a' (len + m) cap') e size ((l ++ xs).map enc)], G0 ++ []⟩) :
    JR P f R n (rgOf f id) L0 ck ((i, false) :: rest) Wp k E h r F ⟨S0, C0, G0⟩ := JR_appm0 (Y := ⟨S0, C0, G0⟩) q t e size bytes z xs he hok ht hi hzs hs0 hc hsrc hmax hby A
theorem flatten_at {α : Type} {k : Nat} : ∀ {rows : List (List α)}, (∀ row ∈ rows, row.length = k) → ∀ {i j : Nat} {row : List α} {d : α}, rows[i]? = some row → row[j]? = some d → rows.flatten[i * k + j]? = some d
  | [], _, i, j, row, d, hi, _ => by simp at hi
  | r :: rows, hl, 0, j, row, d, hi, hj => by
    simp only [List.getElem?_cons_zero, Option.some.injEq] at hi
    subst hi
    have hjl := (List.getElem?_eq_some_iff.1 hj).1
    rw [Nat.zero_mul, Nat.zero_add, List.flatten_cons, List.getElem?_append_left hjl]
    exact hj
  | r :: rows, hl, i + 1, j, row, d, hi, hj => by
    have hr := hl r (List.mem_cons_self ..)
    have ih := flatten_at (fun x hx => hl x (List.mem_cons_of_mem _ hx)) (by simpa using hi) hj
    have h1 : (i + 1) * k = k + i * k := by rw [Nat.succ_mul]; omega
    rw [List.flatten_cons, List.getElem?_append_right (by rw [hr, h1]; omega), hr, h1]
    have h2 : k + i * k + j - k = i * k + j := by omega
    rw [h2]
    exact ih
theorem StF.data {a : Act} {w : World} {fps : List (List Nat)} (s : StF n E h r F Y a w fps) (p : Nat) {b : Nat} {cs : Array Value} {e : TypeId} {fz : Nat × Nat} {size cap : Nat} {rows : List (List D)} (hp : h[p]? = some (b, .cells cs e fz)) (hk : 0 < size) (hl : ∀ row ∈ rows, row.length = size) (hcap : rows.length ≤ cap)
    (hR : RowG Y.G cs.toList rows.flatten) : StF n E (h.eraseIdx p) r F ⟨Y.S, Y.C, Y.G ++ [(.slice (some ⟨b, 0, none⟩) rows.length cap, .sl size rows)]⟩ a w fps := by
  have hm : ∀ x ∈ h.eraseIdx p, x ∈ h := fun x hx => (List.eraseIdx_sublist h p).subset hx
  have hid : ∀ c, c ∈ (h.eraseIdx p).map (·.1) → c ∈ h.map (·.1) := fun c hc => by
    obtain ⟨x, hx, rfl⟩ := List.mem_map.1 hc
    exact List.mem_map.2 ⟨x, hm x hx, rfl⟩
  have hnot : b ∉ (h.eraseIdx p).map (·.1) := fun hc => by
    obtain ⟨x, hx, hxb⟩ := List.mem_map.1 hc
    obtain ⟨j, hj, he⟩ := List.mem_eraseIdx_iff_getElem?.1 hx
    have h1 : (h.map (·.1))[j]? = some b := by simp [he, hxb]
    have h2 : (h.map (·.1))[p]? = some b := by simp [hp]
    exact hj ((List.getElem?_inj (List.getElem?_eq_some_iff.1 h1).1 s.own.nodup).1 (h1.trans h2.symm))
  have hbm : (b, Obj.cells cs e fz) ∈ h := List.mem_of_getElem? hp
  have hbf : b ∉ fps.flatten := fun hx => s.gh.disj b hx (List.mem_map.2 ⟨_, hbm, rfl⟩)
  have hS : ∀ c, Sd Y h fps c → Sd Y (h.eraseIdx p) fps c := fun c hc => ⟨hc.1, fun hx => hc.2.1 (hid c hx), hc.2.2⟩
  refine ⟨s.ag, ⟨fun x hx => s.own.own x (hm x hx), ((List.eraseIdx_sublist h p).map _).nodup s.own.nodup, s.own.ro, fun x hx hc => s.own.apart x hx (hid _ hc)⟩, s.fr, fun f hf x hx => s.may f hf x (hm x hx),
    ⟨s.gh.chs.mono (fun _ _ => rfl) fun c hc _ => ⟨hS c hc, rfl⟩, s.gh.nodup, fun c hc hx => s.gh.disj c hc (hid c hx), s.gh.apart, s.gh.may, s.gh.lt, fun x hx => s.gh.own x (hm x hx), s.gh.hid, s.gh.top, fun x hx => ?_⟩⟩
  rcases List.mem_append.1 hx with hx | hx
  · exact (s.gh.g x hx).mono fun c hc _ => ⟨hS c hc, rfl⟩
  · rw [List.mem_singleton] at hx
    subst hx
    refine .sl (fun i j => cs.toList.getD (i * size + j) undef) (s.own.own _ hbm) ⟨s.gh.own _ hbm, hnot, hbf⟩ hcap hk hl (fun i j hi hj => ?_) fun i j row d hi hj => ?_
    · have hjr : j < (rows[i]'hi).length := by rw [hl _ (List.getElem_mem hi)]; exact hj
      have h1 := flatten_at hl (List.getElem?_eq_getElem hi) (List.getElem?_eq_getElem hjr)
      obtain ⟨u, hu, _⟩ := hR.at s.gh.g _ _ h1
      rw [Nat.zero_add, List.getD_eq_getElem?_getD, hu]
      simpa using hu
    · obtain ⟨u, hu, hr⟩ := hR.at s.gh.g _ _ (flatten_at hl hi hj)
      simp only [List.getD_eq_getElem?_getD, hu, Option.getD_some]
      exact hr.mono fun c hc _ => ⟨hS c hc, rfl⟩
theorem J_data0 {α : Type} (p : Nat) (enc : α → List D) (l : List α) (cap : Nat) {b : Nat} {cs : Array Value} {e : TypeId} {fz : Nat × Nat} {size : Nat} (hp : h[p]? = some (b, .cells cs e fz)) (hk : 0 < size) (hen : ∀ x ∈ l, (enc x).length = size) (hcap : l.length ≤ cap) (hR : RowG Y.G cs.toList (l.map enc).flatten)
    (H : J P f R n k E (h.eraseIdx p) r F ⟨Y.S, Y.C, Y.G ++ [(.slice (some ⟨b, 0, none⟩) (l.map enc).length cap, .sl size (l.map enc))]⟩) : J P f R n k E h r F Y := fun a w ⟨fps, s⟩ =>
  H a w ⟨fps, s.data p hp hk (by intro row hrow; obtain ⟨x, hx, rfl⟩ := List.mem_map.1 hrow; exact hen x hx) (by rw [List.length_map]; exact hcap) hR⟩
theorem J_data {S0 : Nat → Prop} {C0 : List Chunk} {G0 : List (Value × D)} {α : Type} (p : Nat) (enc : α → List D) (l : List α) (cap : Nat) {b : Nat} {cs : Array Value} {e : TypeId} {fz : Nat × Nat} {size : Nat} (hp : h[p]? = some (b, .cells cs e fz)) (hk : 0 < size) (hen : ∀ x ∈ l, (enc x).length = size) (hcap : l.length ≤ cap) (hR : RowG G0 cs.toList (l.map enc).flatten)
    (H : J P f R n k E (h.eraseIdx p) r F ⟨S0, C0, G0 ++ [(.slice (some ⟨b, 0, none⟩) (l.map enc).length cap, .sl size (l.map enc))]⟩) : J P f R n k E h r F ⟨S0, C0, G0⟩ := J_data0 (Y := ⟨S0, C0, G0⟩) p enc l cap hp hk hen hcap hR H
theorem JR_data0 {α : Type} {ops : Array Oper} {L0 : Nat} {ck : Bool} {plan : List (Nat × Bool)} {Wp : List (Nat × List Nat)} (p : Nat) (enc : α → List D) (l : List α) (cap : Nat) {b : Nat} {cs : Array Value} {e : TypeId} {fz : Nat × Nat} {size : Nat} (hp : h[p]? = some (b, .cells cs e fz)) (hL : Nat.ble L0 p = true) (hk : 0 < size) (hen : ∀ x ∈ l, (enc x).length = size) (hcap : l.length ≤ cap) (hR : RowG Y.G cs.toList (l.map enc).flatten)
    (H : JR P f R n ops L0 ck plan Wp k E (h.eraseIdx p) r F ⟨Y.S, Y.C, Y.G ++ [(.slice (some ⟨b, 0, none⟩) (l.map enc).length cap, .sl size (l.map enc))]⟩) : JR P f R n ops L0 ck plan Wp k E h r F Y := fun B Hd fps a w s hH hR2 hN hW => by
  have hLp := Nat.le_of_ble_eq_true hL
  have hpl := (List.getElem?_eq_some_iff.1 hp).1
  have hsame : ∀ i : Nat, i < L0 → (h.eraseIdx p)[i]? = h[i]? := fun i hi => by rw [List.getElem?_eraseIdx]; simp [show i < p by omega]
  have s' := s.data (cap := cap) p hp hk (rows := l.map enc) (by intro row hrow; obtain ⟨x, hx, rfl⟩ := List.mem_map.1 hrow; exact hen x hx) (by rw [List.length_map]; exact hcap) hR
  have hids : idsW Hd (h.eraseIdx p) Wp = idsW Hd h Wp := by
    unfold idsW
    refine List.map_congr_left fun y hy => ?_
    congr 2
    have h1 := List.all_eq_true.1 hW y hy
    exact filterMap_same _ _ _ fun q hq => by rw [hsame q (blt_lt (List.all_eq_true.1 h1 q hq))]
  have := H B Hd fps a w s' hH ⟨fun i hi x hx => hR2.old i hi x (by rw [← hsame i hi]; exact hx), hR2.ro, by rw [List.length_eraseIdx]; simp only [hpl, if_true]; have := hR2.len; omega, hR2.size⟩ (fun j hj x hx => by
    rw [List.getElem?_eraseIdx] at hx
    split at hx
    · exact hN j hj x hx
    · exact hN (j + 1) (by omega) x hx) hW
  rwa [hids] at this
theorem JR_data {S0 : Nat → Prop} {C0 : List Chunk} {G0 : List (Value × D)} {α : Type} {ops : Array Oper} {L0 : Nat} {ck : Bool} {plan : List (Nat × Bool)} {Wp : List (Nat × List Nat)} (p : Nat) (enc : α → List D) (l : List α) (cap : Nat) {b : Nat} {cs : Array Value} {e : TypeId} {fz : Nat × Nat} {size : Nat} (hp : h[p]? = some (b, .cells cs e fz)) (hL : Nat.ble L0 p = true) (hk : 0 < size) (hen : ∀ x ∈ l, (enc x).length = size) (hcap : l.length ≤ cap) (hR : RowG G0 cs.toList (l.map enc).flatten)
    (H : JR P f R n ops L0 ck plan Wp k E (h.eraseIdx p) r F ⟨S0, C0, G0 ++ [(.slice (some ⟨b, 0, none⟩) (l.map enc).length cap, .sl size (l.map enc))]⟩) : JR P f R n ops L0 ck plan Wp k E h r F ⟨S0, C0, G0⟩ := JR_data0 (Y := ⟨S0, C0, G0⟩) p enc l cap hp hL hk hen hcap hR H
theorem StF.share {a : Act} {w : World} {fps : List (List Nat)} (s : StF n E h r F Y a w fps) (p : Nat) {b : Nat} {o : Obj} (hp : h[p]? = some (b, o)) : StF n E (h.eraseIdx p) r F ⟨Y.S, Y.C, Y.G ++ [(.pointer (some ⟨b, 0, none⟩), .obj o)]⟩ a w fps := by
  have hm : ∀ x ∈ h.eraseIdx p, x ∈ h := fun x hx => (List.eraseIdx_sublist h p).subset hx
  have hid : ∀ c, c ∈ (h.eraseIdx p).map (·.1) → c ∈ h.map (·.1) := fun c hc => by
    obtain ⟨x, hx, rfl⟩ := List.mem_map.1 hc
    exact List.mem_map.2 ⟨x, hm x hx, rfl⟩
  have hnot : b ∉ (h.eraseIdx p).map (·.1) := fun hc => by
    obtain ⟨x, hx, hxb⟩ := List.mem_map.1 hc
    obtain ⟨j, hj, he⟩ := List.mem_eraseIdx_iff_getElem?.1 hx
    have h1 : (h.map (·.1))[j]? = some b := by simp [he, hxb]
    have h2 : (h.map (·.1))[p]? = some b := by simp [hp]
    exact hj ((List.getElem?_inj (List.getElem?_eq_some_iff.1 h1).1 s.own.nodup).1 (h1.trans h2.symm))
  have hbm : (b, o) ∈ h := List.mem_of_getElem? hp
  have hbf : b ∉ fps.flatten := fun hx => s.gh.disj b hx (List.mem_map.2 ⟨_, hbm, rfl⟩)
  have hS : ∀ c, Sd Y h fps c → Sd Y (h.eraseIdx p) fps c := fun c hc => ⟨hc.1, fun hx => hc.2.1 (hid c hx), hc.2.2⟩
  refine ⟨s.ag, ⟨fun x hx => s.own.own x (hm x hx), ((List.eraseIdx_sublist h p).map _).nodup s.own.nodup, s.own.ro, fun x hx hc => s.own.apart x hx (hid _ hc)⟩, s.fr, fun f hf x hx => s.may f hf x (hm x hx),
    ⟨s.gh.chs.mono (fun _ _ => rfl) fun c hc _ => ⟨hS c hc, rfl⟩, s.gh.nodup, fun c hc hx => s.gh.disj c hc (hid c hx), s.gh.apart, s.gh.may, s.gh.lt, fun x hx => s.gh.own x (hm x hx), s.gh.hid, s.gh.top, fun x hx => ?_⟩⟩
  rcases List.mem_append.1 hx with hx | hx
  · exact (s.gh.g x hx).mono fun c hc _ => ⟨hS c hc, rfl⟩
  · rw [List.mem_singleton] at hx
    subst hx
    exact .obj (s.own.own _ hbm) ⟨s.gh.own _ hbm, hnot, hbf⟩
theorem St.share {a : Act} {w : World} (s : St n E h r F Y a w) (p : Nat) {b : Nat} {o : Obj} (hp : h[p]? = some (b, o)) : St n E (h.eraseIdx p) r F ⟨Y.S, Y.C, Y.G ++ [(.pointer (some ⟨b, 0, none⟩), .obj o)]⟩ a w := by
  obtain ⟨fps, s⟩ := s
  exact ⟨fps, s.share p hp⟩
theorem J_share {S0 : Nat → Prop} {C0 : List Chunk} {G0 : List (Value × D)} (p : Nat) {b : Nat} {o : Obj} (hp : h[p]? = some (b, o)) (H : J P f R n k E (h.eraseIdx p) r F ⟨S0, C0, G0 ++ [(.pointer (some ⟨b, 0, none⟩), .obj o)]⟩) : J P f R n k E h r F ⟨S0, C0, G0⟩ := fun a w ⟨fps, s⟩ =>
  H a w ⟨fps, s.share p hp⟩
theorem rd0 {cs : Array Value} {x : Nat} {v : Value} (h : cs[x + 0]? = some v) : cs[x]? = some v := h
theorem map_at {α β : Type} {g : α → β} {l : List α} {i : Nat} {x : α} (h : l[i]? = some x) : (l.map g)[i]? = some (g x) := by rw [List.getElem?_map, h]; rfl
end appc
end Go.Sx
end
section
namespace Go.Sx
open Go Go.MapKept
structure MapOf (d : TypeDesc) (es : Array MapEntry) (f : Value → Option Value) : Prop where
  key : ∀ x ∈ es.toList, IsKey d x.key
  nodup : (es.toList.map (·.key)).Nodup
  val : ∀ x ∈ es.toList, f x.key = some x.val
  has : ∀ k v, f k = some v → ∃ x ∈ es.toList, x.key = k
open Classical in
noncomputable def fput (f : Value → Option Value) (key val : Value) : Value → Option Value := fun k => if k = key then some val else f k
open Classical in
noncomputable def fdel (f : Value → Option Value) (key : Value) : Value → Option Value := fun k => if k = key then none else f k
theorem MapOf.empty (d : TypeDesc) : MapOf d #[] (fun _ => none) := ⟨by simp, by simp, by simp, by simp⟩
theorem MapOf.congr {d : TypeDesc} {es : Array MapEntry} {f g : Value → Option Value} (h : MapOf d es f) (hfg : ∀ k, f k = g k) : MapOf d es g := by
  obtain rfl : f = g := funext hfg
  exact h
theorem MapOf.look {d : TypeDesc} {es : Array MapEntry} {f : Value → Option Value} (h : MapOf d es f) {k : Value} (hk : IsKey d k) :
    (Instr.findNow d k es.toList 0 = some none ∧ f k = none ∧ ∀ x ∈ es.toList, x.key ≠ k) ∨ ∃ j e, Instr.findNow d k es.toList 0 = some (some (j, e.val)) ∧ es.toList[j]? = some e ∧ e.key = k ∧ f k = some e.val := by
  rcases findNow_spec hk es.toList 0 h.key with ⟨h1, h2⟩ | ⟨j, e, h1, h2, h3⟩
  · refine .inl ⟨h1, ?_, h2⟩
    cases hf : f k with
    | none => rfl
    | some v =>
      obtain ⟨x, hx, hxk⟩ := h.has k v hf
      exact absurd hxk (h2 x hx)
  · rw [Nat.zero_add] at h1
    refine .inr ⟨j, e, h1, h2, h3, ?_⟩
    rw [← h3]
    exact h.val e (List.mem_of_getElem? h2)
theorem MapOf.other {d : TypeDesc} {es : Array MapEntry} {f : Value → Option Value} (h : MapOf d es f) {j i : Nat} {e x : MapEntry} (hj : es.toList[j]? = some e) (hi : es.toList[i]? = some x) (hne : i ≠ j) : x.key ≠ e.key := by
  intro he
  have h1 : (es.toList.map (·.key))[i]? = some x.key := by rw [List.getElem?_map, hi]; rfl
  have h2 : (es.toList.map (·.key))[j]? = some x.key := by rw [List.getElem?_map, hj, he]; rfl
  exact hne ((List.getElem?_inj (List.getElem?_eq_some_iff.1 h1).1 h.nodup).1 (h1.trans h2.symm))
theorem MapOf.push {d : TypeDesc} {es : Array MapEntry} {f : Value → Option Value} (h : MapOf d es f) {k v : Value} {born : Nat} (hk : IsKey d k) (hn : ∀ x ∈ es.toList, x.key ≠ k) : MapOf d (es.push ⟨k, v, born⟩) (fput f k v) := by
  refine ⟨fun x hx => ?_, ?_, fun x hx => ?_, fun q u hq => ?_⟩
  · simp only [Array.toList_push, List.mem_append, List.mem_singleton] at hx
    rcases hx with hx | rfl
    · exact h.key x hx
    · exact hk
  · simp only [Array.toList_push, List.map_append, List.map_cons, List.map_nil]
    refine List.nodup_append.2 ⟨h.nodup, by simp, fun a ha b hb => ?_⟩
    simp only [List.mem_singleton] at hb
    subst hb
    obtain ⟨x, hx, rfl⟩ := List.mem_map.1 ha
    exact hn x hx
  · simp only [Array.toList_push, List.mem_append, List.mem_singleton] at hx
    rcases hx with hx | rfl
    · simp [fput, hn x hx, h.val x hx]
    · simp [fput]
  · by_cases hqk : q = k
    · exact ⟨⟨k, v, born⟩, by simp, hqk.symm⟩
    · simp only [fput, if_neg hqk] at hq
      obtain ⟨x, hx, hxk⟩ := h.has q u hq
      exact ⟨x, by simp [hx], hxk⟩
theorem MapOf.turn {d : TypeDesc} {es : Array MapEntry} {f : Value → Option Value} (h : MapOf d es f) {k v : Value} {j : Nat} {e : MapEntry} (hj : es.toList[j]? = some e) (he : e.key = k) : MapOf d (es.modify j fun x => { x with key := k, val := v }) (fput f k v) := by
  subst he
  have hj' : es[j]? = some e := by simpa using hj
  have hkeys : (es.modify j fun x => { x with key := e.key, val := v }).toList.map (·.key) = es.toList.map (·.key) := modify_keys j _ (fun x hx => by rw [hj'] at hx; cases hx; rfl)
  have who : ∀ x ∈ (es.modify j fun x => { x with key := e.key, val := v }).toList, (x.key = e.key ∧ x.val = v) ∨ (x ∈ es.toList ∧ x.key ≠ e.key) := fun x hx => by
    obtain ⟨i, hi⟩ := List.getElem?_of_mem hx
    rw [Array.getElem?_toList, Array.getElem?_modify] at hi
    by_cases hij : j = i
    · subst hij
      rw [if_pos rfl, hj'] at hi
      simp only [Option.map_some, Option.some.injEq] at hi
      rw [← hi]
      exact .inl ⟨rfl, rfl⟩
    · rw [if_neg hij] at hi
      exact .inr ⟨Array.mem_toList_iff.2 (Array.mem_of_getElem? hi), h.other hj (by simpa using hi) (Ne.symm hij)⟩
  refine ⟨isKey_modify h.key j _ (fun x hx => by rw [hj'] at hx; cases hx; rfl), by rw [hkeys]; exact h.nodup, fun x hx => ?_, fun q u hq => ?_⟩
  · rcases who x hx with ⟨h1, h2⟩ | ⟨h1, h2⟩
    · simp [fput, h1, h2]
    · simp [fput, h2, h.val x h1]
  · have hmem : q ∈ es.toList.map (·.key) := by
      by_cases hqk : q = e.key
      · rw [hqk]; exact List.mem_map.2 ⟨e, List.mem_of_getElem? hj, rfl⟩
      · simp only [fput, if_neg hqk] at hq
        obtain ⟨x, hx, hxk⟩ := h.has q u hq
        exact List.mem_map.2 ⟨x, hx, hxk⟩
    rw [← hkeys] at hmem
    obtain ⟨x, hx, hxk⟩ := List.mem_map.1 hmem
    exact ⟨x, hx, hxk⟩
theorem MapOf.drop {d : TypeDesc} {es : Array MapEntry} {f : Value → Option Value} (h : MapOf d es f) {k : Value} {j : Nat} {e : MapEntry} (hj : es.toList[j]? = some e) (he : e.key = k) : MapOf d (es.eraseIdxIfInBounds j) (fdel f k) := by
  subst he
  have hlt : j < es.size := by simpa using (List.getElem?_eq_some_iff.1 hj).1
  have hl : (es.eraseIdxIfInBounds j).toList = es.toList.eraseIdx j := by
    unfold Array.eraseIdxIfInBounds
    rw [dif_pos hlt]
    simp
  have hsub := List.eraseIdx_sublist es.toList j
  refine ⟨fun x hx => ?_, ?_, fun x hx => ?_, fun q u hq => ?_⟩
  · rw [hl] at hx
    exact h.key x (hsub.subset hx)
  · rw [hl]
    exact (hsub.map _).nodup h.nodup
  · rw [hl] at hx
    obtain ⟨i, hne, hi⟩ := List.mem_eraseIdx_iff_getElem?.1 hx
    simp [fdel, h.other hj hi hne, h.val x (hsub.subset hx)]
  · by_cases hqk : q = e.key
    · simp [fdel, hqk] at hq
    · simp only [fdel, if_neg hqk] at hq
      obtain ⟨x, hx, hxk⟩ := h.has q u hq
      obtain ⟨i, hi⟩ := List.getElem?_of_mem hx
      refine ⟨x, ?_, hxk⟩
      rw [hl]
      refine List.mem_eraseIdx_iff_getElem?.2 ⟨i, fun hij => hqk ?_, hi⟩
      subst hij
      rw [hj] at hi
      cases hi
      exact hxk.symm
def lookOf (n : Nat) (ops : Array Oper) (E : Env) (i : Nat) : Option (Value × Value × TypeId × Bool × Option Tmp) :=
  match ops[i]? with
  | none => none
  | some o => if dstOk n o.dst then match o.guard with
    | some _ => none
    | none => match o.op with
      | .lookup t m x c => match opsOk E none [m, x] with
        | some [] => some (rho E m, rho E x, t, c, o.dst)
        | _ => none
      | _ => none
    else none
def putOf (n : Nat) (ops : Array Oper) (E : Env) (i : Nat) : Option (Value × Value × Value × TypeId × Option Tmp) :=
  match ops[i]? with
  | none => none
  | some o => if dstOk n o.dst then match o.guard with
    | some _ => none
    | none => match o.op with
      | .mapUpdate t m x v => match opsOk E none [m, x, v] with
        | some [] => some (rho E m, rho E x, rho E v, t, o.dst)
        | _ => none
      | _ => none
    else none
section maps
variable {P : Program} {f : Func} {R : Act → World → Prop} {n : Nat} {k : List Itm} {E : Env} {h r : List (Nat × Obj)} {F : List (List Nat × World)} {Y : Ghost}
theorem putOf_sound {ops : Array Oper} {i : Nat} {mv xv vv : Value} {t : TypeId} {dst : Option Tmp} (he : putOf n ops E i = some (mv, xv, vv, t, dst))
    {a : Act} {w : World} {fps : List (List Nat)} (s : StF n E h r F Y a w fps) {K : Act → World → Prop}
    (H : ∃ w', (Instr.mapUpdate t mv xv vv).run P w = .ok () w' ∧ ∀ a', Ag n (E.put dst (.val undef)) a' → K a' w') : wpOp P ops (wpK P f R k) i K a w := by
  unfold putOf at he
  split at he
  · cases he
  rename_i o ho
  split at he
  case isFalse => cases he
  rename_i hd
  split at he
  · cases he
  rename_i hg
  split at he
  case h_2 => cases he
  rename_i t' m x v hc
  split at he
  case h_2 => cases he
  rename_i hq
  simp only [Option.some.injEq, Prod.mk.injEq] at he
  obtain ⟨rfl, rfl, rfl, rfl, rfl⟩ := he
  have hev := opsOk_sound s.ag (fun c w h => by cases h) _ _ hq trivial
  have e1 : a.eval m = rho E m := hev m (by simp)
  have e2 : a.eval x = rho E x := hev x (by simp)
  have e3 : a.eval v = rho E v := hev v (by simp)
  obtain ⟨w', hrun, hk⟩ := H
  unfold wpOp
  simp only [ho]
  rw [if_pos (by simp [Region.wanted, hg])]
  refine .inl ?_
  unfold Oper.wp execOp
  simp only [hc, Sem.run_bind, Sem.run_pure, Result.andThen_ok, e1, e2, e3, hrun]
  exact hk _ (s.ag.put hd (.val undef))
def lkV (c : Bool) (v : Value) (ok : Bool) : Value := match c with
  | true => .tuple #[v, .bool ok]
  | false => v
theorem JR_setmap {id L0 i p b : Nat} {ck : Bool} {Wp : List (Nat × List Nat)} {rest : List (Nat × Bool)} {dst : Option Tmp} {v : Value} {o o' : Obj} (hok : (!ck || okW L0 (Wp.lookup i) [p]) = true) (hp : h[p]? = some (b, o))
    {BB : Nat} {Hd : List Nat} {a a' : Act} {w : World} {fps : List (List Nat)} (s : StF n E h r F Y a w fps) (hH : ∀ b ∈ fps.flatten, b ∈ Hd ∨ BB ≤ b) (hR : RI Hd BB L0 h r w) (hN : New BB L0 h) (hW : okWp L0 Wp = true) (hA : Ag n (E.put dst (.val v)) a')
    (H : JR P f R n (rgOf f id) L0 ck rest (Wp.filter (·.1 != i)) k (E.put dst (.val v)) (h.set p (b, o')) r F Y) :
    (ck = true → BG BB ((idsW Hd h Wp).lookup i) w { w with heap := w.heap.setIfInBounds b o' }) ∧ PW P (rgOf f id) (wpK P f R k) BB ck rest ((idsW Hd h Wp).filter (·.1 != i)) a' { w with heap := w.heap.setIfInBounds b o' } := by
  have d : Did h (h.set p (b, o')) [p] w { w with heap := w.heap.setIfInBounds b o' } := did_set hp (List.mem_singleton.2 rfl)
  have hO := own_set (o' := o') s.own hp
  refine ⟨fun hck => okW_sound d (by simpa [hck] using hok) hN, ?_⟩
  rw [filter_idsW, ← idsW_did hR.len d _ (okWp_filter hW)]
  exact H BB Hd fps a' _ (s.go hA hO d.dd) hH (hR.did d) (hN.did hR.size d) (okWp_filter hW)
end maps
end Go.Sx
end
section
namespace Go.Sx
open Go
theorem setRow_eq {w : World} {g : Nat} {cs cs' : Array Value} {e : TypeId} (hw : w.heap[g]? = some (.cells cs e (0, 0))) : w.setRow g cs' = { w with heap := w.heap.setIfInBounds g (.cells cs' e (0, 0)) } := by
  unfold World.setRow
  congr 1
  apply Array.ext_getElem?
  intro j
  rw [Array.getElem?_modify, Array.getElem?_setIfInBounds]
  by_cases hj : g = j
  · subst hj
    have : g < w.heap.size := (Array.getElem?_eq_some_iff.1 hw).1
    simp only [if_true, hw, Option.map_some, this]
  · simp [hj]
def seg (cur : Array Value) (o : Nat) (vs : List Value) : Array Value := (cur.toList.take o ++ vs ++ cur.toList.drop (o + vs.length)).toArray
def stOf (n : Nat) (ops : Array Oper) (E : Env) (i : Nat) : Option (Value × Value × TypeId × Option Tmp) :=
  match ops[i]? with
  | none => none
  | some o => if dstOk n o.dst then match o.guard with
    | some _ => none
    | none => match o.op with
      | .store t a x => match opsOk E none [a, x] with
        | some [] => some (rho E a, rho E x, t, o.dst)
        | _ => none
      | _ => none
    else none
section rows
variable {P : Program} {f : Func} {R : Act → World → Prop} {n : Nat} {k : List Itm} {E : Env} {h r : List (Nat × Obj)} {F : List (List Nat × World)} {Y : Ghost}
theorem stOf_sound {ops : Array Oper} {i : Nat} {av xv : Value} {t : TypeId} {dst : Option Tmp} (he : stOf n ops E i = some (av, xv, t, dst))
    {a : Act} {w : World} {fps : List (List Nat)} (s : StF n E h r F Y a w fps) {K : Act → World → Prop}
    (H : ∃ w', (Instr.storeAt t av xv).run P w = .ok () w' ∧ ∀ a', Ag n (E.put dst (.val undef)) a' → K a' w') : wpOp P ops (wpK P f R k) i K a w := by
  unfold stOf at he
  split at he
  · cases he
  rename_i o ho
  split at he
  case isFalse => cases he
  rename_i hd
  split at he
  · cases he
  rename_i hg
  split at he
  case h_2 => cases he
  rename_i t' m x hc
  split at he
  case h_2 => cases he
  rename_i hq
  simp only [Option.some.injEq, Prod.mk.injEq] at he
  obtain ⟨rfl, rfl, rfl, rfl⟩ := he
  have hev := opsOk_sound s.ag (fun c w h => by cases h) _ _ hq trivial
  have e1 : a.eval m = rho E m := hev m (by simp)
  have e2 : a.eval x = rho E x := hev x (by simp)
  obtain ⟨w', hrun, hk⟩ := H
  unfold wpOp
  simp only [ho]
  rw [if_pos (by simp [Region.wanted, hg])]
  refine .inl ?_
  unfold Oper.wp execOp
  simp only [hc, Sem.run_bind, Sem.run_pure, Result.andThen_ok, e1, e2, hrun]
  exact hk _ (s.ag.put hd (.val undef))
theorem JR_storerow {id L0 i : Nat} {ck : Bool} {Wp : List (Nat × List Nat)} {rest : List (Nat × Bool)} (p g o t e : Nat) (v : Value) (vs : List Value) (dst : Option Tmp) {cur : Array Value} {size : Nat}
    (he : stOf n (rgOf f id) E i = some (.pointer (some ⟨g, o, none⟩), v, t, dst)) (hok : (!ck || okW L0 (Wp.lookup i) [p]) = true) (hi : (P.info? t).map (·.size) = some size) (hvs : v.cells.size = size) (hv2 : v.cells.toList = vs)
    (hp : h[p]? = some (g, .cells cur e (0, 0))) (hl : o + size ≤ cur.size) (h1 : ∀ u ∈ vs, u.oneCell' = true)
    (A : JR P f R n (rgOf f id) L0 ck rest (Wp.filter (·.1 != i)) k (E.put dst (.val undef)) (h.set p (g, .cells (seg cur o vs) e (0, 0))) r F Y) :
    JR P f R n (rgOf f id) L0 ck ((i, false) :: rest) Wp k E h r F Y := by
  subst hv2
  intro BB Hd fps a w s hH hR hN hW
  simp only [PW]
  have hb : w.heap[g]? = some (.cells cur e (0, 0)) := s.own.own _ (List.mem_of_getElem? hp)
  obtain ⟨inf, hinf, hz⟩ := Option.map_eq_some_iff.1 hi
  have hrun := run_storeCells_at (P := P) g o e v.cells.toList 0 cur w hb (by simpa [hvs] using hl) h1
  rw [setRow_eq hb, Nat.add_zero] at hrun
  refine stOf_sound he s ⟨{ w with heap := w.heap.setIfInBounds g (.cells (seg cur o v.cells.toList) e (0, 0)) }, ?_, fun a' hA => JR_setmap hok hp s hH hR hN hW hA A⟩
  have hsure : (Instr.sureAddr (.pointer (some ⟨g, o, none⟩))).run P w = .ok ⟨g, o, none⟩ w := rfl
  have hst : (storeVar t ⟨g, o, none⟩ v).run P w = .ok () { w with heap := w.heap.setIfInBounds g (.cells (seg cur o v.cells.toList) e (0, 0)) } := by
    have hsz : (sizeOf t).run P w = .ok size w := by simp [sizeOf, typeInfo, hinf, hz, Result.andThen]
    simp only [storeVar, Sem.run_bind, hsz, Result.andThen_ok]
    rw [if_neg (by simp [hvs])]
    simpa [seg] using hrun
  simp only [Instr.storeAt, Sem.run_bind, hsure, Result.andThen_ok, hst]
end rows
theorem seg_len {cur : Array Value} {o : Nat} {vs : List Value} (h : o + vs.length ≤ cur.size) : (seg cur o vs).size = cur.size := by
  simp [seg]
  omega
theorem Row.cut {cur : Array Value} {cap n size : Nat} {xs : List Value} (h : Row cur cap n size xs) {i : Nat} (hi : i ≤ n) : Row cur cap i size (xs.take (i * size)) := by
  have hle : i * size ≤ n * size := Nat.mul_le_mul_right size hi
  refine ⟨?_, h.siz, Nat.le_trans hi h.le, h.max, ?_⟩
  · rw [List.length_take, h.len]
    omega
  · rw [← h.take, List.take_take]
    congr 1
    omega
theorem Row.turn {cur : Array Value} {cap n size : Nat} {xs vs : List Value} (h : Row cur cap n size xs) {i : Nat} (hi : i < n) (hv : vs.length = size) : Row (seg cur (i * size) vs) cap n size (xs.take (i * size) ++ vs ++ xs.drop (i * size + size)) := by
  have h1 : i * size + size ≤ n * size := by
    have := Nat.mul_le_mul_right size (Nat.succ_le_of_lt hi)
    rwa [Nat.succ_mul] at this
  have h2 : n * size ≤ cap * size := Nat.mul_le_mul_right size h.le
  have hs := h.siz
  refine ⟨?_, ?_, h.le, h.max, ?_⟩
  · simp only [List.length_append, List.length_take, List.length_drop, h.len, hv]
    omega
  · rw [seg_len (by omega)]
    exact hs
  · rw [← h.take]
    apply List.ext_getElem?
    intro j
    simp only [seg, List.getElem?_take, List.getElem?_append, List.length_append, List.length_take, List.getElem?_drop, Array.length_toList, hv]
    by_cases hj : j < n * size
    · rw [if_pos hj]
      have e1 : min (i * size) cur.size = i * size := by omega
      have e2 : min (i * size) (min (n * size) cur.size) = i * size := by omega
      rw [e1, e2]
      by_cases hj1 : j < i * size
      · have e3 : j < i * size + size := by omega
        simp [hj1, hj, e3]
      · by_cases hj2 : j < i * size + size
        · simp [hj1, hj2]
        · have hlt : i * size + size + (j - (i * size + size)) < n * size := by omega
          simp [hj2, hlt]
    · rw [if_neg hj]
      have e2 : min (i * size) (min (n * size) cur.size) = i * size := by omega
      rw [e2]
      have hj1 : ¬ j < i * size + size := by omega
      have hj3 : ¬ i * size + size + (j - (i * size + size)) < n * size := by omega
      simp [hj1, hj3]
theorem Row.atx {cur : Array Value} {cap n size : Nat} {xs : List Value} (h : Row cur cap n size xs) {j : Nat} {u : Value} (hu : xs[j]? = some u) : cur[j]? = some u := by
  have hj := (List.getElem?_eq_some_iff.1 hu).1
  rw [h.len] at hj
  rw [h.at hj, hu]
def cRows (xs : List Value) (k : Nat) (rows : List (List D)) : Chunk where
  P w S fp := fp = [] ∧ RowsAt w S xs k rows
  mono := by
    intro w w' S S' fp h _ hS
    exact ⟨h.1, h.2.mono hS⟩
section more0
variable {P : Program} {f : Func} {R : Act → World → Prop} {n : Nat} {kk : List Itm} {E : Env} {h r : List (Nat × Obj)} {F : List (List Nat × World)} {Y : Ghost}
theorem StF.hide1 {a : Act} {w : World} {fps : List (List Nat)} (s : StF n E h r F Y a w fps) (p : Nat) {b : Nat} {o : Obj} (hp : h[p]? = some (b, o)) : StF n E (h.eraseIdx p) r F ⟨Y.S, Y.C ++ [cObj b o], Y.G⟩ a w (fps ++ [[b]]) := by
  have hm : ∀ x ∈ h.eraseIdx p, x ∈ h := fun x hx => (List.eraseIdx_sublist h p).subset hx
  have hid : ∀ c, c ∈ (h.eraseIdx p).map (·.1) → c ∈ h.map (·.1) := fun c hc => by
    obtain ⟨x, hx, rfl⟩ := List.mem_map.1 hc
    exact List.mem_map.2 ⟨x, hm x hx, rfl⟩
  have hnot : b ∉ (h.eraseIdx p).map (·.1) := fun hc => by
    obtain ⟨x, hx, hxb⟩ := List.mem_map.1 hc
    obtain ⟨j, hj, he⟩ := List.mem_eraseIdx_iff_getElem?.1 hx
    have h1 : (h.map (·.1))[j]? = some b := by simp [he, hxb]
    have h2 : (h.map (·.1))[p]? = some b := by simp [hp]
    exact hj ((List.getElem?_inj (List.getElem?_eq_some_iff.1 h1).1 s.own.nodup).1 (h1.trans h2.symm))
  have hbm : (b, o) ∈ h := List.mem_of_getElem? hp
  have e : (fps ++ [[b]]).flatten = fps.flatten ++ [b] := by simp
  have hS : ∀ c, Sd Y h fps c → Sd Y (h.eraseIdx p) (fps ++ [[b]]) c := fun c hc => ⟨hc.1, fun hx => hc.2.1 (hid c hx), fun hx => by
    rw [e] at hx
    rcases List.mem_append.1 hx with hx | hx
    · exact hc.2.2 hx
    · rw [List.mem_singleton] at hx
      subst hx
      exact hc.2.1 (List.mem_map.2 ⟨_, hbm, rfl⟩)⟩
  have hin : ∀ c, c ∈ (fps ++ [[b]]).flatten → c ∈ fps.flatten ∨ c = b := fun c hc => by
    rw [e] at hc
    simpa using hc
  refine ⟨s.ag, ⟨fun x hx => s.own.own x (hm x hx), ((List.eraseIdx_sublist h p).map _).nodup s.own.nodup, s.own.ro, fun x hx hc => s.own.apart x hx (hid _ hc)⟩, s.fr, fun f hf x hx => s.may f hf x (hm x hx),
    ⟨(s.gh.chs.mono (fun _ _ => rfl) fun c hc _ => ⟨hS c hc, rfl⟩).app ⟨⟨rfl, s.own.own _ hbm⟩, trivial⟩, ?_, fun c hc hx => ?_, fun x hx hc => ?_, fun f hf c hc => ?_, fun c hc => ?_, fun x hx => s.gh.own x (hm x hx), fun c hc => ?_, s.gh.top, fun x hx => (s.gh.g x hx).mono fun c hc _ => ⟨hS c hc, rfl⟩⟩⟩
  · rw [e, List.nodup_append]
    refine ⟨s.gh.nodup, by simp, fun x hx y hy hxy => ?_⟩
    simp at hy
    subst hy hxy
    exact s.gh.disj _ hx (List.mem_map.2 ⟨_, hbm, rfl⟩)
  · rcases hin c hc with h1 | rfl
    · exact s.gh.disj c h1 (hid c hx)
    · exact hnot hx
  · rcases hin _ hc with h1 | h1
    · exact s.gh.apart x hx h1
    · exact s.own.apart x hx (List.mem_map.2 ⟨_, hbm, h1.symm⟩)
  · rcases hin c hc with h1 | rfl
    · exact s.gh.may f hf c h1
    · exact s.may f hf _ hbm
  · rcases hin c hc with h1 | rfl
    · exact s.gh.lt c h1
    · exact s.own.own.lt hbm
  · rcases hin c hc with h1 | rfl
    · exact s.gh.hid c h1
    · exact s.gh.own _ hbm
end more0
section more
variable {P : Program} {f : Func} {R : Act → World → Prop} {n : Nat} {kk : List Itm} {E : Env} {h r : List (Nat × Obj)} {F : List (List Nat × World)}
def accParts (a : Option Addr) (m c e k : Nat) (rows : List (List D)) (x : Nat × Array Value × List Value) : Chunk := cStar [cPure (a = some ⟨x.1, 0, none⟩ ∧ m = rows.length ∧ 0 < k ∧ Row x.2.1 c rows.length k x.2.2), cObj x.1 (.cells x.2.1 e (0, 0)), cRows x.2.2 k rows]
theorem J_openacc {S0 : Nat → Prop} {C0 : List Chunk} {G0 : List (Value × D)} (q : Nat) {a : Option Addr} {m c e k : Nat} {rows : List (List D)} (hq : C0[q]? = some (cAcc (.slice a m c) e k rows)) (hne : rows ≠ [])
    (H : ∀ g cur xs, a = some ⟨g, 0, none⟩ → m = rows.length → 0 < k → Row cur c rows.length k xs → J P f R n kk E (h ++ [(g, .cells cur e (0, 0))]) r F ⟨S0, C0.eraseIdx q ++ [cRows xs k rows], G0⟩) : J P f R n kk E h r F ⟨S0, C0, G0⟩ := by
  have hv : (cAcc (.slice a m c) e k rows).eqv (cExi (accParts a m c e k rows)) := by
    intro w S fp ⟨hk, hP⟩
    rcases hP with ⟨h1, _⟩ | ⟨g, cap, cur, xs, h1, rfl, h3, h4, h5⟩
    · exact absurd h1 hne
    · cases h1
      have hch : Chs w S [cPure (some (⟨g, 0, none⟩ : Addr) = some ⟨g, 0, none⟩ ∧ rows.length = rows.length ∧ 0 < k ∧ Row cur c rows.length k xs), cObj g (.cells cur e (0, 0)), cRows xs k rows] [[], [g], []] := ⟨⟨rfl, rfl, rfl, hk, h4⟩, ⟨rfl, h3⟩, ⟨rfl, h5⟩, trivial⟩
      exact ⟨(g, cur, xs), [[], [g], []], by simp, hch⟩
  refine J_stp (stp_conv q hq hv) ?_
  have hql := (List.getElem?_eq_some_iff.1 hq).1
  refine J_stpx (stp_exi (g := accParts a m c e k rows) q (by rw [List.getElem?_set_self hql])) fun x _ => ?_
  obtain ⟨g, cur, xs⟩ := x
  rw [List.set_set]
  refine J_stp (stp_star (cs := [cPure (a = some ⟨g, 0, none⟩ ∧ m = rows.length ∧ 0 < k ∧ Row cur c rows.length k xs), cObj g (.cells cur e (0, 0)), cRows xs k rows]) q (by rw [List.getElem?_set_self hql]; rfl)) ?_
  have e0 : ∀ y : Chunk, (C0.set q y).eraseIdx q = C0.eraseIdx q := fun y => by
    apply List.ext_getElem?
    intro j
    rw [List.getElem?_eraseIdx, List.getElem?_eraseIdx]
    split
    · rw [List.getElem?_set_ne (by omega)]
    · rw [List.getElem?_set_ne (by omega)]
  rw [e0]
  have hl : (C0.eraseIdx q).length = C0.length - 1 := by rw [List.length_eraseIdx, if_pos hql]
  refine J_stpx (stp_pure (p := a = some ⟨g, 0, none⟩ ∧ m = rows.length ∧ 0 < k ∧ Row cur c rows.length k xs) (C0.eraseIdx q).length (by rw [List.getElem?_append_right (Nat.le_refl _), Nat.sub_self]; rfl)) fun _ hp => ?_
  rw [List.eraseIdx_append_of_length_le (Nat.le_refl _)]
  simp only [Nat.sub_self, List.eraseIdx_cons_zero]
  refine J_show (b := g) (o := .cells cur e (0, 0)) (C0.eraseIdx q).length (by rw [List.getElem?_append_right (Nat.le_refl _), Nat.sub_self]; rfl) ?_
  rw [List.eraseIdx_append_of_length_le (Nat.le_refl _)]
  simp only [Nat.sub_self, List.eraseIdx_cons_zero]
  exact H g cur xs hp.1 hp.2.1 hp.2.2.1 hp.2.2.2
theorem stp_readrows {S0 : Nat → Prop} {C0 : List Chunk} {G0 : List (Value × D)} (q : Nat) {xs : List Value} {k : Nat} {rows : List (List D)} (hq : C0[q]? = some (cRows xs k rows)) (i : Nat) {row : List D} (hrow : rows[i]? = some row) :
    Stp h r F ⟨S0, C0, G0⟩ (fun ls : List (Option Addr × Nat) => ls.length = sls row ∧ ∀ (j : Nat) u, (inst row ls)[j]? = some u → xs[i * k + j]? = some u) fun ls => ⟨S0, C0, G0 ++ deep row ls⟩ := by
  intro w fps hO H
  obtain ⟨fp, hfp, _, hP⟩ := H.chs.at hq
  have hu : ∀ j d, row[j]? = some d → ∃ u, xs[i * k + j]? = some u ∧ Rep w (Sd ⟨S0, C0, G0⟩ h fps) u d := fun j d hd => hP.rep i j row d hrow hd
  obtain ⟨ls, h1, h2, h3⟩ := inst_ex row (fun j => xs.getD (i * k + j) undef) fun j d hd => by
    obtain ⟨u, hu1, hu2⟩ := hu j d hd
    simpa [List.getD_eq_getElem?_getD, hu1] using hu2
  refine ⟨ls, fps, ⟨h1, fun j u hj => ?_⟩, fun _ hb => hb, H.less (fun _ hb => hb) H.nodup H.chs fun x hx => ?_⟩
  · have hjl : j < row.length := by
      have := (List.getElem?_eq_some_iff.1 hj).1
      rwa [inst_len] at this
    obtain ⟨u', hu1, _⟩ := hu j _ (List.getElem?_eq_getElem hjl)
    have := h2 j u hj
    rw [this]
    simp [List.getD_eq_getElem?_getD, hu1]
  · rcases List.mem_append.1 hx with hx | hx
    · exact H.g x hx
    · exact h3 x hx
theorem RowsAt.set {w : World} {S : Nat → Prop} {xs : List Value} {k : Nat} {rows : List (List D)} (h : RowsAt w S xs k rows) (hl : xs.length = rows.length * k) {i j : Nat} {row : List D} {v : Value} {d : D} (hrow : rows[i]? = some row) (hj : j < k) (hv : Rep w S v d) :
    RowsAt w S (xs.set (i * k + j) v) k (rows.set i (row.set j d)) := by
  have hil := (List.getElem?_eq_some_iff.1 hrow).1
  refine ⟨fun row' hr => ?_, fun i' j' row' d' hi' hj' => ?_⟩
  · rcases List.mem_or_eq_of_mem_set hr with hr | rfl
    · exact h.len row' hr
    · rw [List.length_set]
      exact h.len row (List.mem_of_getElem? hrow)
  · by_cases hii : i = i'
    · subst hii
      rw [List.getElem?_set_self hil] at hi'
      cases hi'
      by_cases hjj : j = j'
      · subst hjj
        have hjl := (List.getElem?_eq_some_iff.1 hj').1
        rw [List.length_set] at hjl
        rw [List.getElem?_set_self hjl] at hj'
        cases hj'
        exact ⟨v, by rw [List.getElem?_set_self (by rw [hl]; exact idx_lt hil hj)], hv⟩
      · rw [List.getElem?_set_ne hjj] at hj'
        obtain ⟨u, h1, h2⟩ := h.rep i j' row d' hrow hj'
        exact ⟨u, by rw [List.getElem?_set_ne (by omega)]; exact h1, h2⟩
    · rw [List.getElem?_set_ne hii] at hi'
      obtain ⟨u, h1, h2⟩ := h.rep i' j' row' d' hi' hj'
      have hjl : j' < k := by
        rw [← h.len row' (List.mem_of_getElem? hi')]
        exact (List.getElem?_eq_some_iff.1 hj').1
      refine ⟨u, ?_, h2⟩
      rw [List.getElem?_set_ne ?_]
      · exact h1
      · intro he
        rcases Nat.lt_or_gt_of_ne hii with h3 | h3
        · have := Nat.mul_le_mul_right k (Nat.succ_le_of_lt h3)
          rw [Nat.succ_mul] at this
          omega
        · have := Nat.mul_le_mul_right k (Nat.succ_le_of_lt h3)
          rw [Nat.succ_mul] at this
          omega
theorem stp_closeacc {S0 : Nat → Prop} {C0 : List Chunk} {G0 : List (Value × D)} (q1 q2 : Nat) {g c e k : Nat} {cur : Array Value} {xs : List Value} {rows : List (List D)} (h1 : C0[q1]? = some (cObj g (.cells cur e (0, 0)))) (h2 : C0[q2]? = some (cRows xs k rows)) (hrow : Row cur c rows.length k xs) (hk : 0 < k) :
    Stp h r F ⟨S0, C0, G0⟩ (fun _ : Unit => True) fun _ => ⟨S0, pick C0 (others C0.length [q1, q2]) ++ [cAcc (.slice (some ⟨g, 0, none⟩) rows.length c) e k rows], G0⟩ := by
  intro w fps hO H
  obtain ⟨fp1, hf1, rfl, hb⟩ := H.chs.at h1
  obtain ⟨fp2, hf2, rfl, hR⟩ := H.chs.at h2
  have hlen := H.chs.len
  have hq1 : q1 < C0.length := (List.getElem?_eq_some_iff.1 h1).1
  have hnd : (others C0.length [q1, q2] ++ [q1]).Nodup := by
    rw [List.nodup_append]
    refine ⟨List.Nodup.sublist List.filter_sublist List.nodup_range, by simp, fun x hx y hy hxy => ?_⟩
    simp only [List.mem_singleton] at hy
    subst hy hxy
    simp [others] at hx
  have hE : pick fps (others C0.length [q1, q2]) ++ [[g]] = pick fps (others C0.length [q1, q2] ++ [q1]) := by
    rw [pick_app]
    simp [pick, hf1]
  have hsub : ∀ b ∈ (pick fps (others C0.length [q1, q2]) ++ [[g]]).flatten, b ∈ fps.flatten := fun b hb => by
    rw [hE] at hb
    exact pick_flat_sub hb
  have hS : ∀ b, Sd ⟨S0, C0, G0⟩ h fps b → Sd ⟨S0, C0, G0⟩ h (pick fps (others C0.length [q1, q2]) ++ [[g]]) b := fun b hb => Sd_sub hsub hb
  refine ⟨(), _, trivial, hsub, H.less hsub (by rw [hE]; exact pick_flat_nodup H.nodup hnd) ?_ fun x hx => (H.g x hx).mono fun b hb _ => ⟨hS b hb, rfl⟩⟩
  have hc : (cAcc (.slice (some ⟨g, 0, none⟩) rows.length c) e k rows).P w (Sd ⟨S0, C0, G0⟩ h (pick fps (others C0.length [q1, q2]) ++ [[g]])) [g] := ⟨hk, .inr ⟨g, c, cur, xs, rfl, rfl, hb, hrow, hR.mono fun b hb _ => ⟨hS b hb, rfl⟩⟩⟩
  exact ((H.chs.pick _).mono (fun _ _ => rfl) fun b hb _ => ⟨hS b hb, rfl⟩).app (show Chs w _ [_] [[g]] from ⟨hc, trivial⟩)
theorem accz_eqv (b e k : Nat) (hk : 0 < k) : (cObj b (.cells #[] e (0, 0))).eqv (cAcc (.slice (some ⟨b, 0, none⟩) 0 0) e k []) := fun w S fp h =>
  ⟨hk, .inr ⟨b, 0, #[], [], rfl, h.1, h.2, ⟨by simp, by simp, Nat.le_refl _, Nat.zero_le _, by simp⟩, RowsAt.nil _ _ _ _⟩⟩
theorem JR_accz {S0 : Nat → Prop} {C0 : List Chunk} {G0 : List (Value × D)} {ops : Array Oper} {L0 : Nat} {ck : Bool} {plan : List (Nat × Bool)} {Wp : List (Nat × List Nat)} (p k : Nat) {b e : Nat} (hp : h[p]? = some (b, .cells #[] e (0, 0))) (hL : Nat.ble L0 p = true) (hk : 0 < k)
    (H : JR P f R n ops L0 ck plan Wp kk E (h.eraseIdx p) r F ⟨S0, C0 ++ [cAcc (.slice (some ⟨b, 0, none⟩) 0 0) e k []], G0⟩) : JR P f R n ops L0 ck plan Wp kk E h r F ⟨S0, C0, G0⟩ := by
  have H2 : JR P f R n ops L0 ck plan Wp kk E (h.eraseIdx p) r F ⟨S0, C0 ++ [cObj b (.cells #[] e (0, 0))], G0⟩ := by
    refine JR_stp (stp_conv C0.length (by simp) (accz_eqv b e k hk)) ?_
    simpa using H
  intro B Hd fps a w s hH hR2 hN hW
  have hLp := Nat.le_of_ble_eq_true hL
  have hpl := (List.getElem?_eq_some_iff.1 hp).1
  have hsame : ∀ i : Nat, i < L0 → (h.eraseIdx p)[i]? = h[i]? := fun i hi => by rw [List.getElem?_eraseIdx]; simp [show i < p by omega]
  have hids : idsW Hd (h.eraseIdx p) Wp = idsW Hd h Wp := by
    unfold idsW
    refine List.map_congr_left fun y hy => ?_
    congr 2
    have h1 := List.all_eq_true.1 hW y hy
    exact filterMap_same _ _ _ fun q hq => by rw [hsame q (blt_lt (List.all_eq_true.1 h1 q hq))]
  have := H2 B Hd _ a w (s.hide1 p hp) (fun c hc => by
    rw [List.flatten_append] at hc
    rcases List.mem_append.1 hc with hc | hc
    · exact hH c hc
    · simp only [List.flatten_cons, List.flatten_nil, List.append_nil, List.mem_singleton] at hc
      subst hc
      exact .inr (hN p hLp _ hp)) ⟨fun i hi x hx => hR2.old i hi x (by rw [← hsame i hi]; exact hx), hR2.ro, by rw [List.length_eraseIdx]; simp only [hpl, if_true]; have := hR2.len; omega, hR2.size⟩ (fun j hj x hx => by
    rw [List.getElem?_eraseIdx] at hx
    split at hx
    · exact hN j hj x hx
    · exact hN (j + 1) (by omega) x hx) hW
  rwa [hids] at this
theorem JR_acczm {β : Type} (enc : β → List D) {S0 : Nat → Prop} {C0 : List Chunk} {G0 : List (Value × D)} {ops : Array Oper} {L0 : Nat} {ck : Bool} {plan : List (Nat × Bool)} {Wp : List (Nat × List Nat)} (p k : Nat) {b e : Nat} (hp : h[p]? = some (b, .cells #[] e (0, 0))) (hL : Nat.ble L0 p = true) (hk : 0 < k)
    (H : JR P f R n ops L0 ck plan Wp kk E (h.eraseIdx p) r F ⟨S0, C0 ++ [cAcc (.slice (some ⟨b, 0, none⟩) 0 0) e k (([] : List β).map enc)], G0⟩) : JR P f R n ops L0 ck plan Wp kk E h r F ⟨S0, C0, G0⟩ := JR_accz p k hp hL hk H
end more
end Go.Sx
end
section
namespace Go.Sx
open Go Go.MapKept
def KeptP (w : World) (S : Nat → Prop) (g : Value → Option Value) (K : Value → Option (List D)) : Prop :=
  (∀ key, K key = none → g key = none) ∧ ∀ key row, K key = some row → ∃ us : List Value, g key = some (.agg us.toArray) ∧ us.length = row.length ∧ ∀ (j : Nat) d, row[j]? = some d → ∃ u, us[j]? = some u ∧ Rep w S u d
theorem KeptP.mono {w w' : World} {S S' : Nat → Prop} {g : Value → Option Value} {K : Value → Option (List D)} (h : KeptP w S g K) (hS : ∀ b, S b → b < w.heap.size → S' b ∧ w'.heap[b]? = w.heap[b]?) : KeptP w' S' g K :=
  ⟨h.1, fun key row hr => by
    obtain ⟨us, h1, h2, h3⟩ := h.2 key row hr
    exact ⟨us, h1, h2, fun j d hd => by
      obtain ⟨u, h4, h5⟩ := h3 j d hd
      exact ⟨u, h4, h5.mono hS⟩⟩⟩
end Go.Sx
end
section
namespace Go.Sx
open Go
abbrev eB (b : UInt8) : List D := [.v (.int .u8 b.toNat)]
abbrev dBytes (s : ByteArray) : D := .sl 1 (s.data.toList.map eB)
def cvOf (n : Nat) (ops : Array Oper) (E : Env) (i : Nat) : Option (TypeId × TypeId × Value × Option Tmp × List Ob) :=
  match ops[i]? with
  | none => none
  | some o => if dstOk n o.dst && !isSel o.op then match (match o.guard with
      | none => some (none, [])
      | some (j, want) => (guardOf E ops j).map fun c => (some (c, want), [.bb c want])) with
    | none => none
    | some (cd, g) => match opsOk E cd o.op.operands.toList with
      | none => none
      | some q => match o.op with
        | .convert src dt x => some (src, dt, rho E x, o.dst, g ++ q)
        | _ => none
    else none
def chkCv (x : Option (TypeId × TypeId × Value × Option Tmp × List Ob)) : Option (TypeId × TypeId × Value × Option Tmp) × (List Nat × List Bool × List (Option Nat)) × Nat := match x with
  | some y => (some (y.1, y.2.1, y.2.2.1, y.2.2.2.1), obL y.2.2.2.2, (obP y.2.2.2.2).length)
  | none => (none, ([], [], []), 0)
def trivCv (x : Option (TypeId × TypeId × Value × Option Tmp × List Ob)) : List Nat × List Bool × List (Option Nat) := match x with
  | some y => obR y.2.2.2.2
  | none => ([], [], [])
theorem chkCv_sound {x : Option (TypeId × TypeId × Value × Option Tmp × List Ob)} {src dt : TypeId} {v : Value} {dst : Option Tmp} (h : chkCv x = (some (src, dt, v, dst), trivCv x, 0)) : ∃ p, x = some (src, dt, v, dst, p) ∧ All p := by
  cases x with
  | none => simp [chkCv] at h
  | some y =>
    obtain ⟨a, b, c, d, p⟩ := y
    simp only [chkCv, trivCv, Prod.mk.injEq, Option.some.injEq] at h
    obtain ⟨⟨rfl, rfl, rfl, rfl⟩, h2, h3⟩ := h
    refine ⟨p, rfl, All_of p h2 ?_⟩
    rw [List.eq_nil_of_length_eq_zero h3]
    trivial
section
variable {P : Program} {f : Func} {R : Act → World → Prop} {n : Nat} {k : List Itm} {E : Env} {h r : List (Nat × Obj)} {F : List (List Nat × World)} {Y : Ghost}
theorem cvOf_sound {ops : Array Oper} {i : Nat} {src dt : TypeId} {xv : Value} {dst : Option Tmp} {p : List Ob} (he : cvOf n ops E i = some (src, dt, xv, dst, p)) (hp : All p)
    {a : Act} {w : World} {fps : List (List Nat)} (s : StF n E h r F Y a w fps) {K : Act → World → Prop} {Q : Exit → Act → World → Prop}
    (H : ∃ v' w', (convert src dt xv).run P w = .ok v' w' ∧ ∀ a', Ag n (E.put dst (.val v')) a' → K a' w') : wpOp P ops Q i K a w := by
  unfold cvOf at he
  split at he
  · cases he
  rename_i o ho
  split at he
  case isFalse => cases he
  rename_i hd
  simp only [Bool.and_eq_true, Bool.not_eq_true'] at hd
  split at he
  · cases he
  rename_i cd g hg
  split at he
  · cases he
  rename_i q hq
  split at he
  case h_2 => cases he
  rename_i src' dt' x hc
  simp only [Option.some.injEq, Prod.mk.injEq] at he
  obtain ⟨rfl, rfl, rfl, rfl, rfl⟩ := he
  obtain ⟨hg1, hq1⟩ := All_append hp
  have hwant : Region.wanted o (yielded ops a.tmps) = true ∧ ∀ c wn, cd = some (c, wn) → c = wn := by
    cases hgd : o.guard with
    | none =>
      rw [hgd] at hg
      simp only [Option.some.injEq, Prod.mk.injEq] at hg
      refine ⟨by simp [Region.wanted, hgd], fun c wn h => ?_⟩
      rw [← hg.1] at h
      cases h
    | some y =>
      obtain ⟨j, want⟩ := y
      rw [hgd] at hg
      obtain ⟨c, hc, hcg⟩ := Option.map_eq_some_iff.1 hg
      simp only [Prod.mk.injEq] at hcg
      obtain ⟨rfl, rfl⟩ := hcg
      have hy := guardOf_sound s.ag hc
      have hcw : c = want := hg1.1
      refine ⟨by simp [Region.wanted, hgd, hy, hcw], fun c' wn h => ?_⟩
      injection h with h
      injection h with h1 h2
      rw [← h1, ← h2]
      exact hcw
  unfold wpOp
  simp only [ho]
  rw [if_pos hwant.1]
  refine .inl ?_
  obtain ⟨v', w', hrun, hk⟩ := H
  unfold Oper.wp
  have hcongr : execOp a.eval o = execOp (rho E) o := execOp_congr o (fun cs b hc => by have := hd.2; rw [hc] at this; cases this) (fun x hx => opsOk_sound s.ag hwant.2 _ _ hq hq1 x (by simpa using hx))
  rw [hcongr]
  unfold execOp
  simp only [hc, Sem.run_bind, hrun, Result.andThen_ok, Sem.run_pure]
  exact hk _ (s.ag.put hd.1 (.val v'))
theorem JR_bytes0 {id L0 i : Nat} {ck : Bool} {Wp : List (Nat × List Nat)} {rest : List (Nat × Bool)} (src dt e : TypeId) (s : ByteArray) (dst : Option Tmp)
    (he : chkCv (cvOf n (rgOf f id) E i) = (some (src, dt, .string s, dst), trivCv (cvOf n (rgOf f id) E i), 0)) (hs : P.underlying src = some .string) (hd : P.underlying dt = some (.slice e)) (hb : P.underlying e = some (.int .u8))
    (A : ∀ g c, JR P f R n (rgOf f id) L0 ck rest (Wp.filter (·.1 != i)) k (E.put dst (.val (.slice (some ⟨g, 0, none⟩) s.size c))) h r F ⟨Y.S, Y.C ++ [], Y.G ++ [(.slice (some ⟨g, 0, none⟩) s.size c, dBytes s)]⟩) :
    JR P f R n (rgOf f id) L0 ck ((i, false) :: rest) Wp k E h r F Y := by
  obtain ⟨p, he, hp⟩ := chkCv_sound he
  intro B Hd fps a w st hH hR hN hW
  simp only [PW]
  have hold : ∀ b, b < w.heap.size → (Lib.bytesWorld w e s).heap[b]? = w.heap[b]? := fun b hlt => Lib.bytesWorld_at_old w e s b hlt
  have hf : Fr [] w (Lib.bytesWorld w e s) := ⟨rfl, rfl, rfl, by rw [Lib.bytesWorld_size]; omega, fun b hlt _ => hold b hlt, Nat.le_succ _⟩
  have hnew := Lib.bytesWorld_at_new w e s
  have hlen : (s.data.toList.map eB).length = s.size := by simp
  have hcap : s.size ≤ grownCap w s.size 0 e := grownCap_ge _ _ _ _
  have hrep : Rep (Lib.bytesWorld w e s) (retS (Sd Y h fps) [] w []) (.slice (some ⟨w.heap.size, 0, none⟩) s.size (grownCap w s.size 0 e)) (dBytes s) := by
    have := Rep.sl (w := Lib.bytesWorld w e s) (S := retS (Sd Y h fps) [] w []) (off := 0) (cap := grownCap w s.size 0 e) (k := 1) (rows := s.data.toList.map eB) (fun i _ => .int .u8 (s.data.toList.getD i 0).toNat) hnew ⟨.inr (.inr (Nat.le_refl _)), by simp⟩ (by rw [hlen]; exact hcap) (by decide) (by intro row hr; obtain ⟨x, _, rfl⟩ := List.mem_map.1 hr; rfl) (fun i j hi hj => ?_) (fun i j row d hi hj => ?_)
    · rwa [hlen] at this
    · obtain rfl : j = 0 := by omega
      rw [hlen] at hi
      have h1 : i < s.data.toList.length := by simpa using hi
      have h2 : i < s.data.size := by simpa using hi
      simp [Lib.bytesCells, Array.getElem?_append, hi, h2, List.getD_eq_getElem?_getD]
    · rw [List.getElem?_map] at hi
      obtain ⟨x, hx, rfl⟩ := Option.map_eq_some_iff.1 hi
      match j, hj with
      | 0, hj =>
        simp only [List.getElem?_cons_zero, Option.some.injEq] at hj
        subst hj
        rw [List.getD_eq_getElem?_getD, hx]
        exact .v rfl
      | j + 1, hj => simp at hj
  have hRet : Ret (pick fps []).flatten w (Sd Y h fps) (Lib.bytesWorld w e s) (.returned (.slice (some ⟨w.heap.size, 0, none⟩) s.size (grownCap w s.size 0 e))) (.slice (some ⟨w.heap.size, 0, none⟩) s.size (grownCap w s.size 0 e)) [] [(.slice (some ⟨w.heap.size, 0, none⟩) s.size (grownCap w s.size 0 e), dBytes s)] :=
    ⟨rfl, hf, [], trivial, by simp, by simp, fun x hx => by rw [List.mem_singleton] at hx; subst hx; exact hrep⟩
  refine cvOf_sound he hp st ⟨_, _, Lib.run_convert_string_bytes w src dt e s hs hd hb, fun a2 hA => ⟨fun hck b hb2 hl => hold b hb2, ?_⟩⟩
  rw [filter_idsW]
  obtain ⟨fps', h3, s'⟩ := st.called (cs := []) hA hRet
  have hpk : pick Y.C (others Y.C.length []) = Y.C := by
    have h1 : others Y.C.length [] = List.range Y.C.length := by simp [others]
    rw [h1, pick_all]
  rw [hpk] at s'
  refine A w.heap.size (grownCap w s.size 0 e) B Hd _ a2 _ s' (fun b hb => ?_) ⟨hR.old, hR.ro, hR.len, Nat.le_trans hR.size hf.size⟩ hN (okWp_filter hW)
  rw [List.flatten_append] at hb
  rcases List.mem_append.1 hb with hb | hb
  · exact hH b (pick_flat_sub hb)
  · rcases h3 b hb with h1 | h1
    · exact hH b (pick_flat_sub h1)
    · exact .inr (Nat.le_trans hR.size h1)
theorem JR_bytes {S0 : Nat → Prop} {C0 : List Chunk} {G0 : List (Value × D)} {id L0 i : Nat} {ck : Bool} {Wp : List (Nat × List Nat)} {rest : List (Nat × Bool)} (src dt e : TypeId) (s : ByteArray) (dst : Option Tmp)
    (he : chkCv (cvOf n (rgOf f id) E i) = (some (src, dt, .string s, dst), trivCv (cvOf n (rgOf f id) E i), 0)) (hs : P.underlying src = some .string) (hd : P.underlying dt = some (.slice e)) (hb : P.underlying e = some (.int .u8))
    (A : ∀ g c, JR P f R n (rgOf f id) L0 ck rest (Wp.filter (·.1 != i)) k (E.put dst (.val (.slice (some ⟨g, 0, none⟩) s.size c))) h r F ⟨S0, C0, G0 ++ [(.slice (some ⟨g, 0, none⟩) s.size c, dBytes s)]⟩) :
    JR P f R n (rgOf f id) L0 ck ((i, false) :: rest) Wp k E h r F ⟨S0, C0, G0⟩ := JR_bytes0 (Y := ⟨S0, C0, G0⟩) src dt e s dst he hs hd hb fun g c => by
  have := A g c
  simpa using this
end
end Go.Sx
end
section
namespace Go.Sx
open Go
def clOf (n : Nat) (ops : Array Oper) (E : Env) (i : Nat) : Option (Value × TypeId × Option Tmp) :=
  match ops[i]? with
  | none => none
  | some o => if dstOk n o.dst then match o.guard with
    | some _ => none
    | none => match o.op with
      | .call c => match c.callee with
        | .builtin .clear => match opsOk E none c.args.toList with
          | some [] => match c.args.toList, c.argTypes.toList with
            | [s], [t] => some (rho E s, t, o.dst)
            | _, _ => none
          | _ => none
        | _ => none
      | _ => none
    else none
section rows
variable {P : Program} {f : Func} {R : Act → World → Prop} {n : Nat} {k : List Itm} {E : Env} {h r : List (Nat × Obj)} {F : List (List Nat × World)} {Y : Ghost}
theorem zc_size (z : Array Value) (n : Nat) : (Builtin.zeroCells z n).size = n * z.size := by simp [Builtin.zeroCells]
theorem zc_one {z : Array Value} (hz : ∀ u ∈ z.toList, u.oneCell' = true) (m : Nat) : ∀ u ∈ (Builtin.zeroCells z m).toList, u.oneCell' = true := by
  intro u hu
  unfold Builtin.zeroCells at hu
  simp only [Array.toList_map, List.mem_map] at hu
  obtain ⟨i, hi, rfl⟩ := hu
  have hi2 : i < m * z.size := by simpa using hi
  have hpos : 0 < z.size := Nat.pos_of_ne_zero fun h => by rw [h] at hi2; simp at hi2
  have hlt := Nat.mod_lt i hpos
  rw [getElem!_pos z _ hlt]
  exact hz _ (by simp)
theorem clOf_sound {ops : Array Oper} {i : Nat} {mv : Value} {t : TypeId} {dst : Option Tmp} (he : clOf n ops E i = some (mv, t, dst))
    {a : Act} {w : World} {fps : List (List Nat)} (s : StF n E h r F Y a w fps) {K : Act → World → Prop}
    (H : ∀ ty, ∃ v' w', (Builtin.clear_ #[t] ty #[mv]).run P w = .ok v' w' ∧ ∀ a', Ag n (E.put dst (.val v')) a' → K a' w') : wpOp P ops (wpK P f R k) i K a w := by
  unfold clOf at he
  split at he
  · cases he
  rename_i o ho
  split at he
  case isFalse => cases he
  rename_i hd
  split at he
  · cases he
  rename_i hg
  split at he
  case h_2 => cases he
  rename_i c hc
  split at he
  case h_2 => cases he
  rename_i hcal
  split at he
  case h_2 => cases he
  rename_i hq
  split at he
  case h_2 => cases he
  rename_i xs t' hargs htys
  simp only [Option.some.injEq, Prod.mk.injEq] at he
  obtain ⟨rfl, rfl, rfl⟩ := he
  have hev := opsOk_sound s.ag (fun c w h => by cases h) _ _ hq trivial
  have e1 : a.eval xs = rho E xs := hev xs (by rw [hargs]; simp)
  have hca : c.args = #[xs] := by rw [← Array.toArray_toList (xs := c.args), hargs]
  have hct : c.argTypes = #[t'] := by rw [← Array.toArray_toList (xs := c.argTypes), htys]
  obtain ⟨v', w', hrun, hk⟩ := H o.type
  unfold wpOp
  simp only [ho]
  rw [if_pos (by simp [Region.wanted, hg])]
  refine .inl ?_
  unfold Oper.wp execOp
  simp only [hc, resolve, hcal, hca, hct, invoke, builtin, Sem.run_bind, Sem.run_pure, Result.andThen_ok, List.map_toArray, List.map_cons, List.map_nil, e1, hrun]
  exact hk _ (s.ag.put hd (.val v'))
theorem JR_clear {id L0 i : Nat} {ck : Bool} {Wp : List (Nat × List Nat)} {rest : List (Nat × Bool)} (p g o m c t e : Nat) (z : Value) (dst : Option Tmp) {cur : Array Value} {size bytes : Nat}
    (he : clOf n (rgOf f id) E i = some (.slice (some ⟨g, o, none⟩) m c, t, dst)) (hok : (!ck || okW L0 (Wp.lookup i) [p]) = true) (ht : P.underlying t = some (.slice e)) (hi : (P.info? e).map (fun i => (i.zero, i.size, i.bytes)) = some (some z, size, bytes)) (hm : 0 < m)
    (hp : h[p]? = some (g, .cells cur e (0, 0))) (hz : z.cells.size = size) (hl0 : o + m * size ≤ cur.size) (h10 : ∀ u ∈ z.cells.toList, u.oneCell' = true)
    (A0 : ∀ vs : List Value, vs.length = m * size → JR P f R n (rgOf f id) L0 ck rest (Wp.filter (·.1 != i)) k (E.put dst (.val (.tuple #[]))) (h.set p (g, .cells (seg cur o vs) e (0, 0))) r F Y) :
    JR P f R n (rgOf f id) L0 ck ((i, false) :: rest) Wp k E h r F Y := by
  have hsz : (Builtin.zeroCells z.cells m).size = m * size := by rw [zc_size, hz]
  have hl : o + (Builtin.zeroCells z.cells m).size ≤ cur.size := by rw [hsz]; exact hl0
  have h1 : ∀ u ∈ (Builtin.zeroCells z.cells m).toList, u.oneCell' = true := zc_one h10 m
  have A := A0 (Builtin.zeroCells z.cells m).toList (by simpa using hsz)
  intro BB Hd fps a w s hH hR hN hW
  simp only [PW]
  obtain ⟨inf, h1i, h2i, _⟩ := infoParts hi
  have hb : w.heap[g]? = some (.cells cur e (0, 0)) := s.own.own _ (List.mem_of_getElem? hp)
  have hzero : (zeroValue e).run P w = .ok z w := by simp [zeroValue, typeInfo, h1i, h2i]
  have hrun := run_storeCells_at (P := P) g o e (Builtin.zeroCells z.cells m).toList 0 cur w hb (by simpa using hl) h1
  rw [setRow_eq hb, Nat.add_zero] at hrun
  refine clOf_sound he s fun ty => ⟨.tuple #[], { w with heap := w.heap.setIfInBounds g (.cells (seg cur o (Builtin.zeroCells z.cells m).toList) e (0, 0)) }, ?_, fun a' hA => JR_setmap hok hp s hH hR hN hW hA A⟩
  obtain ⟨m', rfl⟩ : ∃ m', m = m' + 1 := ⟨m - 1, by omega⟩
  have hrun' : (storeCells ⟨g, o, none⟩ (Builtin.zeroCells z.cells (m' + 1)).toList).run P w = .ok () { w with heap := w.heap.setIfInBounds g (.cells (seg cur o (Builtin.zeroCells z.cells (m' + 1)).toList) e (0, 0)) } := hrun
  simp [Builtin.clear_, run_underlying ht, hzero, hrun', Result.andThen]
end rows
theorem Row.clr {cur : Array Value} {cap n size : Nat} {xs vs : List Value} (h : Row cur cap n size xs) {i : Nat} (hi : i ≤ n) (hv : vs.length = (n - i) * size) : Row (seg cur (i * size) vs) cap i size (xs.take (i * size)) := by
  have hle : i * size ≤ n * size := Nat.mul_le_mul_right size hi
  have h2 : n * size ≤ cap * size := Nat.mul_le_mul_right size h.le
  have hs := h.siz
  have hsum : i * size + (n - i) * size = n * size := by rw [← Nat.add_mul]; congr 1; omega
  refine ⟨?_, ?_, Nat.le_trans hi h.le, h.max, ?_⟩
  · rw [List.length_take, h.len]
    omega
  · rw [seg_len (by rw [hv]; omega)]
    exact hs
  · have e1 : (seg cur (i * size) vs).toList.take (i * size) = cur.toList.take (i * size) := by
      simp only [seg]
      rw [List.append_assoc, List.take_append_of_le_length (by simp; omega), List.take_take, Nat.min_self]
    rw [e1, ← h.take, List.take_take]
    congr 1
    omega
section steps
variable {h r : List (Nat × Obj)} {F : List (List Nat × World)}
theorem RowsAt.cut {w : World} {S : Nat → Prop} {xs : List Value} {k : Nat} {rows : List (List D)} (h : RowsAt w S xs k rows) (i : Nat) : RowsAt w S (xs.take (i * k)) k (rows.take i) := by
  refine ⟨fun row hr => h.len row (List.mem_of_mem_take hr), fun p j row d hp hj => ?_⟩
  rw [List.getElem?_take] at hp
  split at hp
  · rename_i hpi
    obtain ⟨u, h1, h2⟩ := h.rep p j row d hp hj
    have hjk : j < k := by rw [← h.len row (List.mem_of_getElem? hp)]; exact (List.getElem?_eq_some_iff.1 hj).1
    exact ⟨u, by rw [List.getElem?_take, if_pos (idx_lt hpi hjk)]; exact h1, h2⟩
  · cases hp
theorem stp_cutrows {S0 : Nat → Prop} {C0 : List Chunk} {G0 : List (Value × D)} (q i : Nat) {xs : List Value} {k : Nat} {rows : List (List D)} (hq : C0[q]? = some (cRows xs k rows)) :
    Stp h r F ⟨S0, C0, G0⟩ (fun _ : Unit => True) fun _ => ⟨S0, C0.set q (cRows (xs.take (i * k)) k (rows.take i)), G0⟩ := by
  intro w fps hO H
  obtain ⟨fp, hfp, hnil, hP⟩ := H.chs.at hq
  have hc : (cRows (xs.take (i * k)) k (rows.take i)).P w (Sd ⟨S0, C0, G0⟩ h fps) fp := ⟨hnil, hP.cut i⟩
  have hs := H.chs.set hc (i := q)
  have e : fps.set q fp = fps := set_same hfp
  rw [e] at hs
  exact ⟨(), fps, trivial, fun _ hb => hb, H.less (fun _ hb => hb) H.nodup hs H.g⟩
theorem RowsAt.put {w : World} {S : Nat → Prop} {xs vs : List Value} {k : Nat} {rows : List (List D)} (h : RowsAt w S xs k rows) (hl : xs.length = rows.length * k) {i : Nat} (hi : i < rows.length) {row : List D} (hv : vs.length = k) (hr : row.length = k) (hrep : ∀ (j : Nat) d, row[j]? = some d → ∃ u, vs[j]? = some u ∧ Rep w S u d) :
    RowsAt w S (xs.take (i * k) ++ vs ++ xs.drop (i * k + k)) k (rows.set i row) := by
  have h1 : i * k + k ≤ rows.length * k := by
    have := Nat.mul_le_mul_right k (Nat.succ_le_of_lt hi)
    rwa [Nat.succ_mul] at this
  refine ⟨fun row' hr' => ?_, fun p j row' d hp hj => ?_⟩
  · rcases List.mem_or_eq_of_mem_set hr' with h2 | rfl
    · exact h.len row' h2
    · exact hr
  · by_cases hpi : i = p
    · subst hpi
      rw [List.getElem?_set_self hi] at hp
      cases hp
      obtain ⟨u, hu, hru⟩ := hrep j d hj
      have hjk : j < k := by rw [← hr]; exact (List.getElem?_eq_some_iff.1 hj).1
      refine ⟨u, ?_, hru⟩
      rw [List.getElem?_append_left (by simp; omega), List.getElem?_append_right (by simp; omega)]
      simp only [List.length_take, hl]
      rw [show i * k + j - min (i * k) (rows.length * k) = j by omega]
      exact hu
    · rw [List.getElem?_set_ne hpi] at hp
      obtain ⟨u, h3, h4⟩ := h.rep p j row' d hp hj
      have hjk : j < k := by rw [← h.len row' (List.mem_of_getElem? hp)]; exact (List.getElem?_eq_some_iff.1 hj).1
      refine ⟨u, ?_, h4⟩
      rcases Nat.lt_or_gt_of_ne hpi with hlt | hgt
      · have h5 := Nat.mul_le_mul_right k (Nat.succ_le_of_lt hlt)
        rw [Nat.succ_mul] at h5
        rw [List.getElem?_append_right (by simp; omega), List.getElem?_drop]
        simp only [List.length_append, List.length_take, hl, hv]
        rw [show i * k + k + (p * k + j - (min (i * k) (rows.length * k) + k)) = p * k + j by omega]
        exact h3
      · have h5 := Nat.mul_le_mul_right k (Nat.succ_le_of_lt hgt)
        rw [Nat.succ_mul] at h5
        rw [List.getElem?_append_left (by simp; omega), List.getElem?_append_left (by simp; omega), List.getElem?_take, if_pos (by omega)]
        exact h3
theorem stp_putrow {S0 : Nat → Prop} {C0 : List Chunk} {G0 : List (Value × D)} (q i : Nat) {xs vs : List Value} {k : Nat} {rows : List (List D)} {row : List D} (hq : C0[q]? = some (cRows xs k rows)) (hl : xs.length = rows.length * k) (hi : i < rows.length) (hk : row.length = k) (hR : RowG G0 vs row) :
    Stp h r F ⟨S0, C0, G0⟩ (fun _ : Unit => True) fun _ => ⟨S0, C0.set q (cRows (xs.take (i * k) ++ vs ++ xs.drop (i * k + k)) k (rows.set i row)), G0⟩ := by
  intro w fps hO H
  obtain ⟨fp, hfp, hnil, hP⟩ := H.chs.at hq
  have hc : (cRows (xs.take (i * k) ++ vs ++ xs.drop (i * k + k)) k (rows.set i row)).P w (Sd ⟨S0, C0, G0⟩ h fps) fp := ⟨hnil, hP.put hl hi (by rw [hR.len, hk]) hk fun j d hj => hR.at H.g j d hj⟩
  have hs := H.chs.set hc (i := q)
  have e : fps.set q fp = fps := set_same hfp
  rw [e] at hs
  exact ⟨(), fps, trivial, fun _ hb => hb, H.less (fun _ hb => hb) H.nodup hs H.g⟩
end steps
end Go.Sx
end
section
namespace Go.Sx
open Go Go.RowKit
abbrev dI (n : Int) : D := .v (.int .i64 n)
abbrev eI (t : Int) : List D := [dI t]
abbrev dInts (l : List Int) : D := .sl 1 (l.map eI)
theorem rep_ints_len {w : World} {S : Nat → Prop} {a : Option Addr} {n c : Nat} {xs : List Int} (h : Rep w S (.slice a n c) (dInts xs)) : n = xs.length := by
  have := h.slen
  simpa using this
abbrev eS (s : ByteArray) : List D := [.v (.string s)]
abbrev dStrs (l : List ByteArray) : D := .sl 1 (l.map eS)
def errV (T : Nat) (er : Nat → Addr) (k : Nat) : Value := .iface T (.pointer (some (er k)))
def ErrIs (T : Nat) (er : Nat → Addr) (k : Nat) (v : Value) : Prop := (k = 0 ∧ v = .nilIface) ∨ (k ≠ 0 ∧ v = .iface T (.pointer (some (er k))))
abbrev dE (T : Nat) (er : Nat → Addr) (g k : Nat) : Value × D := (.pointer (some ⟨g, 0, none⟩), .ptr [.v (.iface T (.pointer (some (er k))))])
theorem AllG.pick {w : World} {S : Nat → Prop} {G G' : List (Value × D)} (h : AllG w S G) (ps : List Nat) (hp : pick G ps = G') : AllG w S G' := fun x hx => h x (pick_mem hp x hx)
theorem AllG.app {w : World} {S : Nat → Prop} {G G' : List (Value × D)} (h : AllG w S G) (h' : AllG w S G') : AllG w S (G ++ G') := fun x hx => by
  rcases List.mem_append.1 hx with hx | hx
  · exact h x hx
  · exact h' x hx
theorem take_snoc {α : Type} {l : List α} {i : Int} {x : α} (hi : 0 ≤ i) (hx : l[i.toNat]? = some x) : l.take i.toNat ++ [x] = l.take (i + 1).toNat := by
  have e : (i + 1).toNat = i.toNat + 1 := by omega
  rw [e, List.take_add_one, hx]
  rfl
theorem ret_below {w w' : World} {S : Nat → Prop} {e : Ending} {v : Value} (he : e = .returned v) (h : Below w.heap.size w w') (hd : w.drawn ≤ w'.drawn) : Ret [] w S w' e v [] [] :=
  ⟨he, ⟨h.os, h.tape, h.output, h.size, fun b hb _ => h.block b hb, hd⟩, [], trivial, by simp, by simp, by simp⟩
end Go.Sx
end
section
namespace Go.Sx
open Go
structure DotT where
  place : Int
  time : Int
  no : Int
structure OpT where
  no : Int
  key : ByteArray
  kind : Int
  text : ByteArray
  n : Int
  remove : Bool
  dots : List DotT
structure ComT where
  when : List Int
  place : Int
  ops : List OpT
abbrev eDot (d : DotT) : List D := [dI d.place, dI d.time, dI d.no]
abbrev eOp (o : OpT) : List D := [dI o.no, .v (.string o.key), dI o.kind, .v (.string o.text), dI o.n, .v (.bool o.remove), .sl 3 (o.dots.map eDot)]
abbrev eCom (c : ComT) : List D := [.sl 1 (c.when.map eI), dI c.place, .sl 7 (c.ops.map eOp)]
instance : DecidableEq DotT := fun a b => decidable_of_iff (a.place = b.place ∧ a.time = b.time ∧ a.no = b.no) ⟨fun ⟨h1, h2, h3⟩ => by cases a; cases b; simp_all, fun h => by subst h; exact ⟨rfl, rfl, rfl⟩⟩
end Go.Sx
end
section
namespace Go.Proofs.YtpjkiomccpjboaaGreatDoor
open Go Go.Sx
theorem mixed : Tryz.prog.follows .mixedOrders = true := by kernel_rfl
def sk7 : Sk := (.seq (.rg 0 false) (.seq (.rg 1 false) (.seq (.seq (.rg 2 false) (.cond (.tmp 42) (.seq (.rg 3 false) .ret) .skip)) (.seq (.rg 4 false) (.seq (.rg 5 false) (.seq (.seq (.rg 6 false) (.block 0 (.loop (.seq (.seq (.rg 7 false) (.cond (.tmp 48) .skip (.exit 0))) (.seq (.block 1 (.seq (.rg 9 false) (.seq (.rg 10 false) (.seq (.rg 11 false) (.seq (.rg 12 false) (.cond (.tmp 66) (.rg 13 false) .skip)))))) (.rg 8 false)))))) (.seq (.rg 14 false) (.seq (.seq (.rg 15 false) (.block 2 (.loop (.seq (.seq (.rg 16 false) (.cond (.tmp 77) .skip (.exit 2))) (.seq (.block 3 (.rg 18 false)) (.rg 17 false)))))) (.seq (.rg 19 false) (.seq (.rg 20 false) (.seq (.rg 21 false) (.seq (.rg 22 false) (.seq (.seq (.rg 23 false) (.cond (.tmp 121) (.seq (.rg 24 false) .ret) .skip)) (.seq (.seq (.rg 25 false) (.cond (.tmp 124) (.seq (.rg 26 false) .ret) .skip)) (.seq (.rg 27 false) .ret)))))))))))))))
theorem bd7 : Tryz.f7.body = some (sk7.code Tryz.f7) := by kernel_rfl
theorem ep7 {args : List Value} {w : World} {S : Nat → Prop} {G : List (Value × D)} {Rr : Ending → World → Prop} (hl : Nat.ble args.length Tryz.f7.ntmps = true) (hG : AllG w S G) (H : J Tryz.prog Tryz.f7 (retR Tryz.prog Tryz.f7 Rr) Tryz.f7.ntmps [.c sk7] (envOf 0 args) [] [] [([], w)] ⟨newS S [] w, [], G⟩) : Calls Tryz.prog 7 args.toArray w Rr :=
  calls_J Tryz.func7 bd7 rfl hl (Pre.none _ _) hG H
def sk11 : Sk := (.seq (.rg 0 false) (.seq (.rg 1 false) (.seq (.rg 2 false) .ret)))
theorem bd11 : Tryz.f11.body = some (sk11.code Tryz.f11) := by kernel_rfl
theorem ep11 {args : List Value} {w : World} {S : Nat → Prop} {G : List (Value × D)} {Rr : Ending → World → Prop} (hl : Nat.ble args.length Tryz.f11.ntmps = true) (hG : AllG w S G) (H : J Tryz.prog Tryz.f11 (retR Tryz.prog Tryz.f11 Rr) Tryz.f11.ntmps [.c sk11] (envOf 0 args) [] [] [([], w)] ⟨newS S [] w, [], G⟩) : Calls Tryz.prog 11 args.toArray w Rr :=
  calls_J Tryz.func11 bd11 rfl hl (Pre.none _ _) hG H
def sk14 : Sk := (.seq (.rg 0 false) (.seq (.block 0 (.seq (.rg 1 false) (.cond (.tmp 5) (.seq (.rg 2 false) .ret) (.seq (.rg 3 false) (.cond (.tmp 23) (.seq (.rg 4 false) .ret) (.seq (.rg 5 false) (.cond (.tmp 29) (.seq (.rg 6 false) .ret) (.seq (.rg 7 false) (.cond (.tmp 44) (.seq (.rg 8 false) .ret) (.seq (.rg 9 false) (.cond (.tmp 49) (.seq (.rg 10 false) .ret) (.seq (.rg 11 false) (.cond (.tmp 71) (.seq (.rg 12 false) .ret) .skip))))))))))))) (.seq (.rg 13 false) .ret)))
theorem bd14 : Tryz.f14.body = some (sk14.code Tryz.f14) := by kernel_rfl
theorem ep14 {args : List Value} {w : World} {S : Nat → Prop} {G : List (Value × D)} {Rr : Ending → World → Prop} (hl : Nat.ble args.length Tryz.f14.ntmps = true) (hG : AllG w S G) (H : J Tryz.prog Tryz.f14 (retR Tryz.prog Tryz.f14 Rr) Tryz.f14.ntmps [.c sk14] (envOf 0 args) [] [] [([], w)] ⟨newS S [] w, [], G⟩) : Calls Tryz.prog 14 args.toArray w Rr :=
  calls_J Tryz.func14 bd14 rfl hl (Pre.none _ _) hG H
def sk17 : Sk := (.seq (.rg 0 false) (.seq (.seq (.rg 1 false) (.seq (.rg 2 false) (.cond (.tmp 11) (.seq (.rg 3 false) .ret) .skip))) (.seq (.seq (.rg 4 false) (.cond (.tmp 38) (.seq (.rg 5 false) .ret) .skip)) (.seq (.seq (.rg 6 false) (.cond (.tmp 43) (.seq (.rg 7 false) .ret) .skip)) (.seq (.seq (.rg 8 false) (.block 0 (.loop (.seq (.rg 9 false) (.seq (.cond (.tmp 49) .skip (.exit 0)) (.seq (.block 1 (.seq (.rg 10 false) (.seq (.rg 11 false) (.seq (.seq (.rg 12 true) (.cond (.tmp 75) (.rg 13 false) .skip)) (.seq (.rg 14 false) (.cond (.tmp 78) (.seq (.rg 15 false) .ret) .skip)))))) (.rg 16 false))))))) (.seq (.rg 17 false) .ret))))))
theorem bd17 : Tryz.f17.body = some (sk17.code Tryz.f17) := by kernel_rfl
theorem ep17 {args : List Value} {w : World} {S : Nat → Prop} {G : List (Value × D)} {Rr : Ending → World → Prop} (hl : Nat.ble args.length Tryz.f17.ntmps = true) (hG : AllG w S G) (H : J Tryz.prog Tryz.f17 (retR Tryz.prog Tryz.f17 Rr) Tryz.f17.ntmps [.c sk17] (envOf 0 args) [] [] [([], w)] ⟨newS S [] w, [], G⟩) : Calls Tryz.prog 17 args.toArray w Rr :=
  calls_J Tryz.func17 bd17 rfl hl (Pre.none _ _) hG H
def sk21 : Sk := (.seq (.rg 0 false) (.seq (.rg 1 false) (.seq (.seq (.rg 2 false) (.cond (.tmp 19) (.seq (.rg 3 false) .ret) .skip)) (.seq (.rg 4 false) (.seq (.rg 5 false) (.seq (.seq (.rg 6 false) (.block 0 (.loop (.seq (.rg 7 false) (.seq (.cond (.tmp 32) .skip (.exit 0)) (.seq (.block 1 (.seq (.rg 8 false) (.seq (.rg 9 false) (.block 2 (.seq (.rg 10 false) (.cond (.tmp 36) (.rg 11 false) (.seq (.rg 12 false) (.cond (.tmp 42) (.rg 13 false) .skip)))))))) (.rg 14 false))))))) (.seq (.seq (.rg 15 false) (.cond (.tmp 53) (.rg 16 false) .skip)) (.seq (.rg 17 false) .ret))))))))
theorem bd21 : Tryz.f21.body = some (sk21.code Tryz.f21) := by kernel_rfl
theorem ep21 {args : List Value} {w : World} {S : Nat → Prop} {G : List (Value × D)} {Rr : Ending → World → Prop} (hl : Nat.ble args.length Tryz.f21.ntmps = true) (hG : AllG w S G) (H : J Tryz.prog Tryz.f21 (retR Tryz.prog Tryz.f21 Rr) Tryz.f21.ntmps [.c sk21] (envOf 0 args) [] [] [([], w)] ⟨newS S [] w, [], G⟩) : Calls Tryz.prog 21 args.toArray w Rr :=
  calls_J Tryz.func21 bd21 rfl hl (Pre.none _ _) hG H
def sk23 : Sk := (.seq (.rg 0 false) (.seq (.rg 1 false) (.seq (.seq (.rg 2 false) (.cond (.tmp 19) (.seq (.rg 3 false) .ret) .skip)) (.seq (.rg 4 false) (.seq (.seq (.rg 5 false) (.cond (.tmp 27) (.seq (.rg 6 false) .ret) .skip)) (.seq (.rg 7 false) (.seq (.rg 8 false) (.seq (.rg 9 false) .ret))))))))
theorem bd23 : Tryz.f23.body = some (sk23.code Tryz.f23) := by kernel_rfl
theorem ep23 {args : List Value} {w : World} {S : Nat → Prop} {G : List (Value × D)} {Rr : Ending → World → Prop} (hl : Nat.ble args.length Tryz.f23.ntmps = true) (hG : AllG w S G) (H : J Tryz.prog Tryz.f23 (retR Tryz.prog Tryz.f23 Rr) Tryz.f23.ntmps [.c sk23] (envOf 0 args) [] [] [([], w)] ⟨newS S [] w, [], G⟩) : Calls Tryz.prog 23 args.toArray w Rr :=
  calls_J Tryz.func23 bd23 rfl hl (Pre.none _ _) hG H
def sk32 : Sk := (.seq (.rg 0 false) (.seq (.seq (.rg 1 false) (.cond (.tmp 10) (.seq (.rg 2 false) .ret) .skip)) (.seq (.seq (.rg 3 false) (.block 0 (.loop (.seq (.seq (.rg 4 false) (.cond (.tmp 14) .skip (.exit 0))) (.seq (.block 1 (.seq (.rg 6 true) (.cond (.tmp 25) (.seq (.rg 7 false) .ret) .skip))) (.rg 5 false)))))) (.seq (.rg 8 false) .ret))))
theorem bd32 : Tryz.f32.body = some (sk32.code Tryz.f32) := by kernel_rfl
theorem ep32 {args : List Value} {w : World} {S : Nat → Prop} {G : List (Value × D)} {Rr : Ending → World → Prop} (hl : Nat.ble args.length Tryz.f32.ntmps = true) (hG : AllG w S G) (H : J Tryz.prog Tryz.f32 (retR Tryz.prog Tryz.f32 Rr) Tryz.f32.ntmps [.c sk32] (envOf 0 args) [] [] [([], w)] ⟨newS S [] w, [], G⟩) : Calls Tryz.prog 32 args.toArray w Rr :=
  calls_J Tryz.func32 bd32 rfl hl (Pre.none _ _) hG H
def sk54 : Sk := (.seq (.rg 0 false) (.seq (.rg 1 false) .ret))
theorem bd54 : Tryz.f54.body = some (sk54.code Tryz.f54) := by kernel_rfl
theorem ep54 {args : List Value} {w : World} {S : Nat → Prop} {G : List (Value × D)} {Rr : Ending → World → Prop} (hl : Nat.ble args.length Tryz.f54.ntmps = true) (hG : AllG w S G) (H : J Tryz.prog Tryz.f54 (retR Tryz.prog Tryz.f54 Rr) Tryz.f54.ntmps [.c sk54] (envOf 0 args) [] [] [([], w)] ⟨newS S [] w, [], G⟩) : Calls Tryz.prog 54 args.toArray w Rr :=
  calls_J Tryz.func54 bd54 rfl hl (Pre.none _ _) hG H
def sk55 : Sk := (.seq (.rg 0 false) (.seq (.seq (.rg 1 false) (.block 0 (.seq (.rg 2 false) (.cond (.tmp 5) (.seq (.rg 3 false) .ret) (.seq (.rg 4 false) (.cond (.tmp 21) (.seq (.rg 5 false) .ret) .skip)))))) (.seq (.rg 6 false) .ret)))
theorem bd55 : Tryz.f55.body = some (sk55.code Tryz.f55) := by kernel_rfl
theorem ep55 {args : List Value} {w : World} {S : Nat → Prop} {G : List (Value × D)} {Rr : Ending → World → Prop} (hl : Nat.ble args.length Tryz.f55.ntmps = true) (hG : AllG w S G) (H : J Tryz.prog Tryz.f55 (retR Tryz.prog Tryz.f55 Rr) Tryz.f55.ntmps [.c sk55] (envOf 0 args) [] [] [([], w)] ⟨newS S [] w, [], G⟩) : Calls Tryz.prog 55 args.toArray w Rr :=
  calls_J Tryz.func55 bd55 rfl hl (Pre.none _ _) hG H
def sk56 : Sk := (.seq (.rg 0 false) (.seq (.rg 1 false) .ret))
theorem bd56 : Tryz.f56.body = some (sk56.code Tryz.f56) := by kernel_rfl
theorem ep56 {args : List Value} {w : World} {S : Nat → Prop} {G : List (Value × D)} {Rr : Ending → World → Prop} (hl : Nat.ble args.length Tryz.f56.ntmps = true) (hG : AllG w S G) (H : J Tryz.prog Tryz.f56 (retR Tryz.prog Tryz.f56 Rr) Tryz.f56.ntmps [.c sk56] (envOf 0 args) [] [] [([], w)] ⟨newS S [] w, [], G⟩) : Calls Tryz.prog 56 args.toArray w Rr :=
  calls_J Tryz.func56 bd56 rfl hl (Pre.none _ _) hG H
def sk57 : Sk := (.seq (.rg 0 false) (.seq (.rg 1 false) .ret))
theorem bd57 : Tryz.f57.body = some (sk57.code Tryz.f57) := by kernel_rfl
theorem ep57 {args : List Value} {w : World} {S : Nat → Prop} {G : List (Value × D)} {Rr : Ending → World → Prop} (hl : Nat.ble args.length Tryz.f57.ntmps = true) (hG : AllG w S G) (H : J Tryz.prog Tryz.f57 (retR Tryz.prog Tryz.f57 Rr) Tryz.f57.ntmps [.c sk57] (envOf 0 args) [] [] [([], w)] ⟨newS S [] w, [], G⟩) : Calls Tryz.prog 57 args.toArray w Rr :=
  calls_J Tryz.func57 bd57 rfl hl (Pre.none _ _) hG H
def sk58 : Sk := (.seq (.rg 0 false) (.seq (.rg 1 false) .ret))
theorem bd58 : Tryz.f58.body = some (sk58.code Tryz.f58) := by kernel_rfl
theorem ep58 {args : List Value} {w : World} {S : Nat → Prop} {G : List (Value × D)} {Rr : Ending → World → Prop} (hl : Nat.ble args.length Tryz.f58.ntmps = true) (hG : AllG w S G) (H : J Tryz.prog Tryz.f58 (retR Tryz.prog Tryz.f58 Rr) Tryz.f58.ntmps [.c sk58] (envOf 0 args) [] [] [([], w)] ⟨newS S [] w, [], G⟩) : Calls Tryz.prog 58 args.toArray w Rr :=
  calls_J Tryz.func58 bd58 rfl hl (Pre.none _ _) hG H
def sk59 : Sk := (.seq (.rg 0 false) (.seq (.seq (.rg 1 false) (.cond (.tmp 10) (.seq (.rg 2 false) .ret) .skip)) (.seq (.seq (.rg 3 false) (.cond (.tmp 13) (.seq (.rg 4 false) .ret) .skip)) (.seq (.rg 5 false) .ret))))
theorem bd59 : Tryz.f59.body = some (sk59.code Tryz.f59) := by kernel_rfl
theorem ep59 {args : List Value} {w : World} {S : Nat → Prop} {G : List (Value × D)} {Rr : Ending → World → Prop} (hl : Nat.ble args.length Tryz.f59.ntmps = true) (hG : AllG w S G) (H : J Tryz.prog Tryz.f59 (retR Tryz.prog Tryz.f59 Rr) Tryz.f59.ntmps [.c sk59] (envOf 0 args) [] [] [([], w)] ⟨newS S [] w, [], G⟩) : Calls Tryz.prog 59 args.toArray w Rr :=
  calls_J Tryz.func59 bd59 rfl hl (Pre.none _ _) hG H
def sk61 : Sk := (.seq (.rg 0 false) (.seq (.seq (.rg 1 false) (.cond (.tmp 18) (.seq (.rg 2 true) .ret) .skip)) (.seq (.rg 3 false) (.seq (.rg 4 false) (.seq (.seq (.rg 5 false) (.block 0 (.loop (.seq (.rg 6 false) (.seq (.cond (.tmp 24) .skip (.exit 0)) (.seq (.block 1 (.seq (.rg 7 false) (.seq (.rg 8 false) (.seq (.seq (.rg 9 true) (.cond (.tmp 43) (.rg 10 false) .skip)) (.seq (.seq (.rg 11 false) (.cond (.tmp 46) (.seq (.rg 12 false) .ret) .skip)) (.seq (.rg 13 false) (.seq (.rg 14 false) (.block 2 (.loop (.seq (.rg 15 false) (.seq (.cond (.tmp 62) .skip (.exit 2)) (.seq (.block 3 (.seq (.rg 16 false) (.seq (.rg 17 true) (.seq (.seq (.rg 18 false) (.cond (.tmp 85) (.rg 19 false) .skip)) (.rg 20 false))))) (.rg 21 false))))))))))))) (.rg 22 false))))))) (.seq (.rg 23 false) (.seq (.rg 24 false) .ret)))))))
theorem bd61 : Tryz.f61.body = some (sk61.code Tryz.f61) := by kernel_rfl
theorem ep61 {args : List Value} {w : World} {S : Nat → Prop} {G : List (Value × D)} {Rr : Ending → World → Prop} (hl : Nat.ble args.length Tryz.f61.ntmps = true) (hG : AllG w S G) (H : J Tryz.prog Tryz.f61 (retR Tryz.prog Tryz.f61 Rr) Tryz.f61.ntmps [.c sk61] (envOf 0 args) [] [] [([], w)] ⟨newS S [] w, [], G⟩) : Calls Tryz.prog 61 args.toArray w Rr :=
  calls_J Tryz.func61 bd61 rfl hl (Pre.none _ _) hG H
def sk62 : Sk := (.seq (.rg 0 false) (.seq (.seq (.rg 1 false) (.cond (.tmp 7) (.seq (.rg 2 false) .ret) .skip)) (.seq (.rg 3 false) (.seq (.rg 4 true) .ret))))
theorem bd62 : Tryz.f62.body = some (sk62.code Tryz.f62) := by kernel_rfl
theorem ep62 {args : List Value} {w : World} {S : Nat → Prop} {G : List (Value × D)} {Rr : Ending → World → Prop} (hl : Nat.ble args.length Tryz.f62.ntmps = true) (hG : AllG w S G) (H : J Tryz.prog Tryz.f62 (retR Tryz.prog Tryz.f62 Rr) Tryz.f62.ntmps [.c sk62] (envOf 0 args) [] [] [([], w)] ⟨newS S [] w, [], G⟩) : Calls Tryz.prog 62 args.toArray w Rr :=
  calls_J Tryz.func62 bd62 rfl hl (Pre.none _ _) hG H
def sk65 : Sk := (.seq (.rg 0 false) (.seq (.rg 1 false) (.seq (.seq (.rg 2 false) (.block 0 (.loop (.seq (.rg 3 false) (.seq (.cond (.tmp 15) .skip (.exit 0)) (.seq (.block 1 (.seq (.rg 4 false) (.seq (.rg 5 false) (.cond (.tmp 20) (.seq (.seq (.rg 6 false) (.cond (.tmp 26) (.rg 7 false) .skip)) (.seq (.rg 8 false) (.block 2 (.loop (.seq (.rg 9 false) (.seq (.cond (.tmp 37) .skip (.exit 2)) (.seq (.block 3 (.seq (.rg 10 false) (.rg 11 false))) (.rg 12 false)))))))) .skip)))) (.rg 13 false))))))) (.seq (.rg 14 false) (.seq (.seq (.rg 15 false) (.block 4 (.loop (.seq (.rg 16 false) (.seq (.cond (.tmp 52) .skip (.exit 4)) (.seq (.block 5 (.seq (.rg 17 false) (.seq (.rg 18 false) (.cond (.tmp 69) (.rg 19 true) .skip)))) (.rg 20 false))))))) (.seq (.rg 21 false) .ret))))))
theorem bd65 : Tryz.f65.body = some (sk65.code Tryz.f65) := by kernel_rfl
theorem ep65 {args : List Value} {w : World} {S : Nat → Prop} {G : List (Value × D)} {Rr : Ending → World → Prop} (hl : Nat.ble args.length Tryz.f65.ntmps = true) (hG : AllG w S G) (H : J Tryz.prog Tryz.f65 (retR Tryz.prog Tryz.f65 Rr) Tryz.f65.ntmps [.c sk65] (envOf 0 args) [] [] [([], w)] ⟨newS S [] w, [], G⟩) : Calls Tryz.prog 65 args.toArray w Rr :=
  calls_J Tryz.func65 bd65 rfl hl (Pre.none _ _) hG H
def sk67 : Sk := (.seq (.rg 0 false) (.seq (.rg 1 true) .ret))
theorem bd67 : Tryz.f67.body = some (sk67.code Tryz.f67) := by kernel_rfl
theorem ep67 {args : List Value} {w : World} {S : Nat → Prop} {G : List (Value × D)} {Rr : Ending → World → Prop} (hl : Nat.ble args.length Tryz.f67.ntmps = true) (hG : AllG w S G) (H : J Tryz.prog Tryz.f67 (retR Tryz.prog Tryz.f67 Rr) Tryz.f67.ntmps [.c sk67] (envOf 0 args) [] [] [([], w)] ⟨newS S [] w, [], G⟩) : Calls Tryz.prog 67 args.toArray w Rr :=
  calls_J Tryz.func67 bd67 rfl hl (Pre.none _ _) hG H
def sk68 : Sk := (.seq (.rg 0 false) (.seq (.rg 1 false) (.seq (.seq (.rg 2 false) (.block 0 (.loop (.seq (.rg 3 false) (.seq (.cond (.tmp 9) .skip (.exit 0)) (.seq (.block 1 (.seq (.rg 4 false) (.seq (.rg 5 false) (.cond (.tmp 14) (.seq (.rg 6 false) .ret) .skip)))) (.rg 7 false))))))) (.seq (.rg 8 false) .ret))))
theorem bd68 : Tryz.f68.body = some (sk68.code Tryz.f68) := by kernel_rfl
theorem ep68 {args : List Value} {w : World} {S : Nat → Prop} {G : List (Value × D)} {Rr : Ending → World → Prop} (hl : Nat.ble args.length Tryz.f68.ntmps = true) (hG : AllG w S G) (H : J Tryz.prog Tryz.f68 (retR Tryz.prog Tryz.f68 Rr) Tryz.f68.ntmps [.c sk68] (envOf 0 args) [] [] [([], w)] ⟨newS S [] w, [], G⟩) : Calls Tryz.prog 68 args.toArray w Rr :=
  calls_J Tryz.func68 bd68 rfl hl (Pre.none _ _) hG H
def sk69 : Sk := (.seq (.rg 0 false) (.seq (.rg 1 false) (.seq (.rg 2 false) (.seq (.seq (.rg 3 false) (.cond (.tmp 11) (.seq (.seq (.rg 4 false) (.cond (.tmp 12) (.seq (.rg 5 false) .ret) .skip)) (.seq (.rg 6 false) .ret)) .skip)) (.seq (.seq (.rg 7 false) (.cond (.tmp 13) (.seq (.rg 8 false) .ret) .skip)) (.seq (.seq (.rg 9 false) (.cond (.tmp 16) (.seq (.rg 10 false) .ret) .skip)) (.seq (.seq (.rg 11 false) (.cond (.tmp 19) (.seq (.rg 12 false) .ret) .skip)) (.seq (.rg 13 false) .ret))))))))
theorem bd69 : Tryz.f69.body = some (sk69.code Tryz.f69) := by kernel_rfl
theorem ep69 {args : List Value} {w : World} {S : Nat → Prop} {G : List (Value × D)} {Rr : Ending → World → Prop} (hl : Nat.ble args.length Tryz.f69.ntmps = true) (hG : AllG w S G) (H : J Tryz.prog Tryz.f69 (retR Tryz.prog Tryz.f69 Rr) Tryz.f69.ntmps [.c sk69] (envOf 0 args) [] [] [([], w)] ⟨newS S [] w, [], G⟩) : Calls Tryz.prog 69 args.toArray w Rr :=
  calls_J Tryz.func69 bd69 rfl hl (Pre.none _ _) hG H
def sk88 : Sk := (.seq (.rg 0 false) (.seq (.rg 1 false) .ret))
theorem bd88 : Tryz.f88.body = some (sk88.code Tryz.f88) := by kernel_rfl
theorem ep88 {args : List Value} {w : World} {S : Nat → Prop} {G : List (Value × D)} {Rr : Ending → World → Prop} (hl : Nat.ble args.length Tryz.f88.ntmps = true) (hG : AllG w S G) (H : J Tryz.prog Tryz.f88 (retR Tryz.prog Tryz.f88 Rr) Tryz.f88.ntmps [.c sk88] (envOf 0 args) [] [] [([], w)] ⟨newS S [] w, [], G⟩) : Calls Tryz.prog 88 args.toArray w Rr :=
  calls_J Tryz.func88 bd88 rfl hl (Pre.none _ _) hG H
def sk89 : Sk := (.seq (.rg 0 false) (.seq (.rg 1 false) .ret))
theorem bd89 : Tryz.f89.body = some (sk89.code Tryz.f89) := by kernel_rfl
theorem ep89 {args : List Value} {w : World} {S : Nat → Prop} {G : List (Value × D)} {Rr : Ending → World → Prop} (hl : Nat.ble args.length Tryz.f89.ntmps = true) (hG : AllG w S G) (H : J Tryz.prog Tryz.f89 (retR Tryz.prog Tryz.f89 Rr) Tryz.f89.ntmps [.c sk89] (envOf 0 args) [] [] [([], w)] ⟨newS S [] w, [], G⟩) : Calls Tryz.prog 89 args.toArray w Rr :=
  calls_J Tryz.func89 bd89 rfl hl (Pre.none _ _) hG H
def sk90 : Sk := (.seq (.rg 0 false) (.seq (.seq (.rg 1 false) (.block 0 (.loop (.seq (.rg 2 false) (.seq (.cond (.tmp 9) .skip (.exit 0)) (.seq (.block 1 (.seq (.rg 3 false) (.seq (.rg 4 false) (.cond (.tmp 16) (.seq (.rg 5 false) .ret) .skip)))) (.rg 6 false))))))) (.seq (.rg 7 false) .ret)))
theorem bd90 : Tryz.f90.body = some (sk90.code Tryz.f90) := by kernel_rfl
theorem ep90 {args : List Value} {w : World} {S : Nat → Prop} {G : List (Value × D)} {Rr : Ending → World → Prop} (hl : Nat.ble args.length Tryz.f90.ntmps = true) (hG : AllG w S G) (H : J Tryz.prog Tryz.f90 (retR Tryz.prog Tryz.f90 Rr) Tryz.f90.ntmps [.c sk90] (envOf 0 args) [] [] [([], w)] ⟨newS S [] w, [], G⟩) : Calls Tryz.prog 90 args.toArray w Rr :=
  calls_J Tryz.func90 bd90 rfl hl (Pre.none _ _) hG H
def sk91 : Sk := (.seq (.rg 0 false) (.seq (.rg 1 false) .ret))
theorem bd91 : Tryz.f91.body = some (sk91.code Tryz.f91) := by kernel_rfl
theorem ep91 {args : List Value} {w : World} {S : Nat → Prop} {G : List (Value × D)} {Rr : Ending → World → Prop} (hl : Nat.ble args.length Tryz.f91.ntmps = true) (hG : AllG w S G) (H : J Tryz.prog Tryz.f91 (retR Tryz.prog Tryz.f91 Rr) Tryz.f91.ntmps [.c sk91] (envOf 0 args) [] [] [([], w)] ⟨newS S [] w, [], G⟩) : Calls Tryz.prog 91 args.toArray w Rr :=
  calls_J Tryz.func91 bd91 rfl hl (Pre.none _ _) hG H
def sk92 : Sk := (.seq (.rg 0 false) (.seq (.rg 1 false) .ret))
theorem bd92 : Tryz.f92.body = some (sk92.code Tryz.f92) := by kernel_rfl
theorem ep92 {args : List Value} {w : World} {S : Nat → Prop} {G : List (Value × D)} {Rr : Ending → World → Prop} (hl : Nat.ble args.length Tryz.f92.ntmps = true) (hG : AllG w S G) (H : J Tryz.prog Tryz.f92 (retR Tryz.prog Tryz.f92 Rr) Tryz.f92.ntmps [.c sk92] (envOf 0 args) [] [] [([], w)] ⟨newS S [] w, [], G⟩) : Calls Tryz.prog 92 args.toArray w Rr :=
  calls_J Tryz.func92 bd92 rfl hl (Pre.none _ _) hG H
def sk93 : Sk := (.seq (.rg 0 false) (.seq (.rg 1 false) (.seq (.seq (.rg 2 false) (.cond (.tmp 6) (.seq (.rg 3 false) .ret) .skip)) (.seq (.rg 4 false) .ret))))
theorem bd93 : Tryz.f93.body = some (sk93.code Tryz.f93) := by kernel_rfl
theorem ep93 {args : List Value} {w : World} {S : Nat → Prop} {G : List (Value × D)} {Rr : Ending → World → Prop} (hl : Nat.ble args.length Tryz.f93.ntmps = true) (hG : AllG w S G) (H : J Tryz.prog Tryz.f93 (retR Tryz.prog Tryz.f93 Rr) Tryz.f93.ntmps [.c sk93] (envOf 0 args) [] [] [([], w)] ⟨newS S [] w, [], G⟩) : Calls Tryz.prog 93 args.toArray w Rr :=
  calls_J Tryz.func93 bd93 rfl hl (Pre.none _ _) hG H
def sk94 : Sk := (.seq (.rg 0 false) (.seq (.seq (.rg 1 false) (.seq (.rg 2 false) (.cond (.tmp 11) (.seq (.rg 3 false) .ret) .skip))) (.seq (.rg 4 false) (.seq (.seq (.rg 5 false) (.block 0 (.loop (.seq (.rg 6 false) (.seq (.cond (.tmp 16) .skip (.exit 0)) (.seq (.block 1 (.seq (.rg 7 false) (.rg 8 false))) (.rg 9 false))))))) (.seq (.rg 10 false) .ret)))))
theorem bd94 : Tryz.f94.body = some (sk94.code Tryz.f94) := by kernel_rfl
theorem ep94 {args : List Value} {w : World} {S : Nat → Prop} {G : List (Value × D)} {Rr : Ending → World → Prop} (hl : Nat.ble args.length Tryz.f94.ntmps = true) (hG : AllG w S G) (H : J Tryz.prog Tryz.f94 (retR Tryz.prog Tryz.f94 Rr) Tryz.f94.ntmps [.c sk94] (envOf 0 args) [] [] [([], w)] ⟨newS S [] w, [], G⟩) : Calls Tryz.prog 94 args.toArray w Rr :=
  calls_J Tryz.func94 bd94 rfl hl (Pre.none _ _) hG H
def sk96 : Sk := (.seq (.rg 0 false) (.seq (.rg 1 true) .ret))
theorem bd96 : Tryz.f96.body = some (sk96.code Tryz.f96) := by kernel_rfl
theorem ep96 {args : List Value} {w : World} {S : Nat → Prop} {G : List (Value × D)} {Rr : Ending → World → Prop} (hl : Nat.ble args.length Tryz.f96.ntmps = true) (hG : AllG w S G) (H : J Tryz.prog Tryz.f96 (retR Tryz.prog Tryz.f96 Rr) Tryz.f96.ntmps [.c sk96] (envOf 0 args) [] [] [([], w)] ⟨newS S [] w, [], G⟩) : Calls Tryz.prog 96 args.toArray w Rr :=
  calls_J Tryz.func96 bd96 rfl hl (Pre.none _ _) hG H
def sk97 : Sk := (.seq (.rg 0 false) (.seq (.rg 1 false) (.seq (.seq (.rg 2 false) (.cond (.tmp 12) (.seq (.rg 3 false) .ret) .skip)) (.seq (.seq (.rg 4 false) (.block 0 (.loop (.seq (.seq (.rg 5 false) (.cond (.tmp 19) .skip (.exit 0))) (.seq (.block 1 (.seq (.rg 7 false) (.seq (.rg 8 false) (.cond (.tmp 29) (.seq (.rg 9 false) (.rg 10 false)) .skip)))) (.rg 6 false)))))) (.seq (.rg 11 false) (.seq (.rg 12 false) .ret))))))
theorem bd97 : Tryz.f97.body = some (sk97.code Tryz.f97) := by kernel_rfl
theorem en97 {args : List Value} {w : World} {S : Nat → Prop} {M : List Nat} {C : List Chunk} {G : List (Value × D)} {Rr : Ending → World → Prop} (hl : Nat.ble args.length Tryz.f97.ntmps = true) (hp : Pre w S M C) (hG : AllG w S G) (H : J Tryz.prog Tryz.f97 (retR Tryz.prog Tryz.f97 Rr) Tryz.f97.ntmps [.c sk97] (envOf 0 args) [] [] [(M, w)] ⟨newS S M w, C, G⟩) : Calls Tryz.prog 97 args.toArray w Rr :=
  calls_J Tryz.func97 bd97 rfl hl hp hG H
def sk98 : Sk := (.seq (.rg 0 false) (.seq (.seq (.rg 1 false) (.cond (.tmp 4) (.seq (.rg 2 false) .ret) .skip)) (.seq (.rg 3 false) .ret)))
theorem bd98 : Tryz.f98.body = some (sk98.code Tryz.f98) := by kernel_rfl
theorem ep98 {args : List Value} {w : World} {S : Nat → Prop} {G : List (Value × D)} {Rr : Ending → World → Prop} (hl : Nat.ble args.length Tryz.f98.ntmps = true) (hG : AllG w S G) (H : J Tryz.prog Tryz.f98 (retR Tryz.prog Tryz.f98 Rr) Tryz.f98.ntmps [.c sk98] (envOf 0 args) [] [] [([], w)] ⟨newS S [] w, [], G⟩) : Calls Tryz.prog 98 args.toArray w Rr :=
  calls_J Tryz.func98 bd98 rfl hl (Pre.none _ _) hG H
def sk99 : Sk := (.seq (.rg 0 false) (.seq (.rg 1 false) .ret))
theorem bd99 : Tryz.f99.body = some (sk99.code Tryz.f99) := by kernel_rfl
theorem ep99 {args : List Value} {w : World} {S : Nat → Prop} {G : List (Value × D)} {Rr : Ending → World → Prop} (hl : Nat.ble args.length Tryz.f99.ntmps = true) (hG : AllG w S G) (H : J Tryz.prog Tryz.f99 (retR Tryz.prog Tryz.f99 Rr) Tryz.f99.ntmps [.c sk99] (envOf 0 args) [] [] [([], w)] ⟨newS S [] w, [], G⟩) : Calls Tryz.prog 99 args.toArray w Rr :=
  calls_J Tryz.func99 bd99 rfl hl (Pre.none _ _) hG H
def sk105 : Sk := (.seq (.rg 0 false) (.seq (.rg 1 false) .ret))
theorem bd105 : Tryz.f105.body = some (sk105.code Tryz.f105) := by kernel_rfl
theorem ep105 {args : List Value} {w : World} {S : Nat → Prop} {G : List (Value × D)} {Rr : Ending → World → Prop} (hl : Nat.ble args.length Tryz.f105.ntmps = true) (hG : AllG w S G) (H : J Tryz.prog Tryz.f105 (retR Tryz.prog Tryz.f105 Rr) Tryz.f105.ntmps [.c sk105] (envOf 0 args) [] [] [([], w)] ⟨newS S [] w, [], G⟩) : Calls Tryz.prog 105 args.toArray w Rr :=
  calls_J Tryz.func105 bd105 rfl hl (Pre.none _ _) hG H
def sk120 : Sk := (.seq (.rg 0 false) (.seq (.seq (.rg 1 false) (.block 0 (.loop (.seq (.rg 2 false) (.seq (.cond (.tmp 9) .skip (.exit 0)) (.seq (.block 1 (.seq (.rg 3 false) (.seq (.rg 4 false) (.cond (.tmp 16) (.seq (.rg 5 false) .ret) .skip)))) (.rg 6 false))))))) (.seq (.rg 7 false) .ret)))
theorem bd120 : Tryz.f120.body = some (sk120.code Tryz.f120) := by kernel_rfl
theorem ep120 {args : List Value} {w : World} {S : Nat → Prop} {G : List (Value × D)} {Rr : Ending → World → Prop} (hl : Nat.ble args.length Tryz.f120.ntmps = true) (hG : AllG w S G) (H : J Tryz.prog Tryz.f120 (retR Tryz.prog Tryz.f120 Rr) Tryz.f120.ntmps [.c sk120] (envOf 0 args) [] [] [([], w)] ⟨newS S [] w, [], G⟩) : Calls Tryz.prog 120 args.toArray w Rr :=
  calls_J Tryz.func120 bd120 rfl hl (Pre.none _ _) hG H
def sk121 : Sk := (.seq (.rg 0 false) (.seq (.seq (.rg 1 false) (.block 0 (.loop (.seq (.rg 2 false) (.seq (.cond (.tmp 9) .skip (.exit 0)) (.seq (.block 1 (.seq (.rg 3 false) (.seq (.rg 4 false) (.cond (.tmp 16) (.seq (.rg 5 false) .ret) .skip)))) (.rg 6 false))))))) (.seq (.rg 7 false) .ret)))
theorem bd121 : Tryz.f121.body = some (sk121.code Tryz.f121) := by kernel_rfl
theorem ep121 {args : List Value} {w : World} {S : Nat → Prop} {G : List (Value × D)} {Rr : Ending → World → Prop} (hl : Nat.ble args.length Tryz.f121.ntmps = true) (hG : AllG w S G) (H : J Tryz.prog Tryz.f121 (retR Tryz.prog Tryz.f121 Rr) Tryz.f121.ntmps [.c sk121] (envOf 0 args) [] [] [([], w)] ⟨newS S [] w, [], G⟩) : Calls Tryz.prog 121 args.toArray w Rr :=
  calls_J Tryz.func121 bd121 rfl hl (Pre.none _ _) hG H
def sk123 : Sk := (.seq (.rg 0 false) (.seq (.seq (.rg 1 false) (.block 0 (.loop (.seq (.rg 2 false) (.seq (.cond (.tmp 9) .skip (.exit 0)) (.seq (.block 1 (.seq (.rg 3 false) (.seq (.rg 4 false) (.cond (.tmp 16) (.seq (.rg 5 false) .ret) .skip)))) (.rg 6 false))))))) (.seq (.rg 7 false) .ret)))
theorem bd123 : Tryz.f123.body = some (sk123.code Tryz.f123) := by kernel_rfl
theorem en123 {args : List Value} {w : World} {S : Nat → Prop} {M : List Nat} {C : List Chunk} {G : List (Value × D)} {Rr : Ending → World → Prop} (hl : Nat.ble args.length Tryz.f123.ntmps = true) (hp : Pre w S M C) (hG : AllG w S G) (H : J Tryz.prog Tryz.f123 (retR Tryz.prog Tryz.f123 Rr) Tryz.f123.ntmps [.c sk123] (envOf 0 args) [] [] [(M, w)] ⟨newS S M w, C, G⟩) : Calls Tryz.prog 123 args.toArray w Rr :=
  calls_J Tryz.func123 bd123 rfl hl hp hG H
end Go.Proofs.YtpjkiomccpjboaaGreatDoor
end
section
namespace Go.Proofs.YtpjkiomccpjboaaGreatDoor
open Go Go.Sx
theorem rep_none {w : World} {S : Nat → Prop} {n c k : Nat} {rows : List (List D)} (h : Rep w S (.slice none n c) (.sl k rows)) : rows = [] := by cases h; rfl
end Go.Proofs.YtpjkiomccpjboaaGreatDoor
end
section
namespace Go.Proofs.YtpjkiomccpjboaaGreatDoor
open Go Go.Sx
theorem partI {P : Program} {t : TypeId} {w : World} {cs : Array Value} {off : Nat} {v : Value} (ht : P.underlying t = some (.int .i64)) (hv : cs[off]? = some v) : (part t cs off).run P w = .ok v w := by
  simp [part, isAgg, underlying, ht, hv, Result.andThen]
theorem eqInt {P : Program} {t : TypeId} (ht : P.underlying t = some (.int .i64)) (d : Nat) (x y : Int) (w : World) : (Op.equalIn (d + 1) t (.int .i64 x) (.int .i64 y)).run P w = .ok (x == y) w := by
  simp [Op.equalIn, run_underlying ht]
theorem eqDot (d : Nat) (a b c a' b' c' : Int) (w : World) : (Op.equalIn (d + 2) 65 (.agg #[.int .i64 a, .int .i64 b, .int .i64 c]) (.agg #[.int .i64 a', .int .i64 b', .int .i64 c'])).run Tryz.prog w = .ok (decide (a = a' ∧ b = b' ∧ c = c')) w := by
  have hs : Tryz.prog.stoodInHeld 65 = false := by kernel_rfl
  rw [Op.equalIn]
  by_cases h1 : a = a' <;> by_cases h2 : b = b' <;> by_cases h3 : c = c' <;>
  simp [run_underlying Tryz.underlying65, hs, eqInt Tryz.underlying3, partI Tryz.underlying3, Result.andThen, h1, h2, h3]
end Go.Proofs.YtpjkiomccpjboaaGreatDoor
end
section
namespace Go.Sx
open Go Go.MapKept
structure KeyOk (P : Program) (kt : TypeId) (ok : Value → Prop) : Prop where
  chk : ∀ (b : Bool) (k : Value), ok k → ∀ w, (Instr.checkKey b 10000 kt k).run P w = .ok () w
  find : ∀ (k : Value) (es : List MapEntry), ok k → (∀ x ∈ es, ok x.key) → ((∀ w, (Instr.findKey kt k es).run P w = .ok none w) ∧ ∀ x ∈ es, x.key ≠ k) ∨ ∃ j e, (∀ w, (Instr.findKey kt k es).run P w = .ok (some (j, e.val)) w) ∧ es[j]? = some e ∧ e.key = k
  stays : ∀ k, ok k → ∀ w, (Instr.keyThatStays k k).run P w = .ok k w
theorem KeyOk.plain {P : Program} {kt : TypeId} {d : TypeDesc} (hd : P.underlying kt = some d) : KeyOk P kt (IsKey d) where
  chk b k hk w := run_checkKey hd hk b 9999
  find k es hk hes := by
    rcases findNow_spec hk es 0 hes with ⟨h1, h2⟩ | ⟨j, e, h1, h2, h3⟩
    · exact .inl ⟨fun w => run_findKey hd h1, h2⟩
    · rw [Nat.zero_add] at h1
      exact .inr ⟨j, e, fun w => run_findKey hd h1, h2, h3⟩
  stays k hk w := run_keyThatStays hk
theorem findAsking_spec {P : Program} {kt : TypeId} {ok : Value → Prop} (heq : ∀ x y, ok x → ok y → ∃ b : Bool, (∀ w, (Op.equal kt x y).run P w = .ok b w) ∧ (b = true ↔ x = y)) {k : Value} (hk : ok k) : ∀ (l : List MapEntry) (i : Nat), (∀ x ∈ l, ok x.key) →
    ((∀ w, (Instr.findAsking kt k l i).run P w = .ok none w) ∧ ∀ x ∈ l, x.key ≠ k) ∨ ∃ j e, (∀ w, (Instr.findAsking kt k l i).run P w = .ok (some (i + j, e.val)) w) ∧ l[j]? = some e ∧ e.key = k
  | [], _, _ => .inl ⟨fun _ => rfl, by simp⟩
  | e :: es, i, h => by
    obtain ⟨b, hb, hiff⟩ := heq k e.key hk (h e (.head _))
    cases b with
    | true =>
      refine .inr ⟨0, e, fun w => ?_, rfl, (hiff.1 rfl).symm⟩
      simp [Instr.findAsking, hb, Result.andThen]
    | false =>
      have hne : e.key ≠ k := fun he => by
        have := hiff.2 he.symm
        cases this
      rcases findAsking_spec heq hk es (i + 1) fun x hx => h x (.tail _ hx) with ⟨h1, h2⟩ | ⟨j, e', h1, h2, h3⟩
      · refine .inl ⟨fun w => ?_, fun x hx => ?_⟩
        · simp [Instr.findAsking, hb, Result.andThen, h1]
        · rcases List.mem_cons.1 hx with rfl | hx
          · exact hne
          · exact h2 x hx
      · refine .inr ⟨j + 1, e', fun w => ?_, by simpa using h2, h3⟩
        simp [Instr.findAsking, hb, Result.andThen, h1]
        omega
theorem KeyOk.asking {P : Program} {kt : TypeId} {ok : Value → Prop} {d : TypeDesc} (hd : P.underlying kt = some d) (hn : ∀ x y, ok x → ok y → Instr.sameNow d x y = none)
    (chk : ∀ (b : Bool) (k : Value), ok k → ∀ w, (Instr.checkKey b 10000 kt k).run P w = .ok () w) (heq : ∀ x y, ok x → ok y → ∃ b : Bool, (∀ w, (Op.equal kt x y).run P w = .ok b w) ∧ (b = true ↔ x = y))
    (stays : ∀ k, ok k → Instr.sameBits 10000 k k = true) : KeyOk P kt ok where
  chk := chk
  find k es hk hes := by
    cases es with
    | nil => exact .inl ⟨fun w => by simp [Instr.findKey, run_underlying hd, Result.andThen, Instr.findNow], by simp⟩
    | cons e es =>
      have h0 : Instr.findNow d k (e :: es) 0 = none := by simp [Instr.findNow, hn k e.key hk (hes e (.head _))]
      rcases findAsking_spec heq hk (e :: es) 0 hes with ⟨h1, h2⟩ | ⟨j, e', h1, h2, h3⟩
      · exact .inl ⟨fun w => by simp [Instr.findKey, run_underlying hd, Result.andThen, h0, h1], h2⟩
      · rw [Nat.zero_add] at h1
        exact .inr ⟨j, e', fun w => by simp [Instr.findKey, run_underlying hd, Result.andThen, h0, h1], h2, h3⟩
  stays k hk w := by simp [Instr.keyThatStays, stays k hk]
theorem key_modify {ok : Value → Prop} {es : Array MapEntry} (h : ∀ x ∈ es.toList, ok x.key) (i : Nat) (f : MapEntry → MapEntry) (hk : ∀ e, es[i]? = some e → (f e).key = e.key) : ∀ x ∈ (es.modify i f).toList, ok x.key := by
  intro x hx
  have : x.key ∈ (es.modify i f).toList.map (·.key) := List.mem_map.2 ⟨x, hx, rfl⟩
  rw [modify_keys i f hk] at this
  obtain ⟨y, hy, e⟩ := List.mem_map.1 this
  rw [← e]; exact h y hy
structure MapG (ok : Value → Prop) (es : Array MapEntry) (f : Value → Option Value) : Prop where
  key : ∀ x ∈ es.toList, ok x.key
  nodup : (es.toList.map (·.key)).Nodup
  val : ∀ x ∈ es.toList, f x.key = some x.val
  has : ∀ k v, f k = some v → ∃ x ∈ es.toList, x.key = k
theorem MapG.empty (ok : Value → Prop) : MapG ok #[] (fun _ => none) := ⟨by simp, by simp, by simp, by simp⟩
theorem MapG.congr {ok : Value → Prop} {es : Array MapEntry} {f g : Value → Option Value} (h : MapG ok es f) (hfg : ∀ k, f k = g k) : MapG ok es g := by
  obtain rfl : f = g := funext hfg
  exact h
theorem MapG.look {P : Program} {kt : TypeId} {ok : Value → Prop} (hK : KeyOk P kt ok) {es : Array MapEntry} {f : Value → Option Value} (h : MapG ok es f) {k : Value} (hk : ok k) :
    ((∀ w, (Instr.findKey kt k es.toList).run P w = .ok none w) ∧ f k = none ∧ ∀ x ∈ es.toList, x.key ≠ k) ∨ ∃ j e, (∀ w, (Instr.findKey kt k es.toList).run P w = .ok (some (j, e.val)) w) ∧ es.toList[j]? = some e ∧ e.key = k ∧ f k = some e.val := by
  rcases hK.find k es.toList hk h.key with ⟨h1, h2⟩ | ⟨j, e, h1, h2, h3⟩
  · refine .inl ⟨h1, ?_, h2⟩
    cases hf : f k with
    | none => rfl
    | some v =>
      obtain ⟨x, hx, hxk⟩ := h.has k v hf
      exact absurd hxk (h2 x hx)
  · refine .inr ⟨j, e, h1, h2, h3, ?_⟩
    rw [← h3]
    exact h.val e (List.mem_of_getElem? h2)
theorem MapG.other {ok : Value → Prop} {es : Array MapEntry} {f : Value → Option Value} (h : MapG ok es f) {j i : Nat} {e x : MapEntry} (hj : es.toList[j]? = some e) (hi : es.toList[i]? = some x) (hne : i ≠ j) : x.key ≠ e.key := by
  intro he
  have h1 : (es.toList.map (·.key))[i]? = some x.key := by rw [List.getElem?_map, hi]; rfl
  have h2 : (es.toList.map (·.key))[j]? = some x.key := by rw [List.getElem?_map, hj, he]; rfl
  exact hne ((List.getElem?_inj (List.getElem?_eq_some_iff.1 h1).1 h.nodup).1 (h1.trans h2.symm))
theorem MapG.push {ok : Value → Prop} {es : Array MapEntry} {f : Value → Option Value} (h : MapG ok es f) {k v : Value} {born : Nat} (hk : ok k) (hn : ∀ x ∈ es.toList, x.key ≠ k) : MapG ok (es.push ⟨k, v, born⟩) (fput f k v) := by
  refine ⟨fun x hx => ?_, ?_, fun x hx => ?_, fun q u hq => ?_⟩
  · simp only [Array.toList_push, List.mem_append, List.mem_singleton] at hx
    rcases hx with hx | rfl
    · exact h.key x hx
    · exact hk
  · simp only [Array.toList_push, List.map_append, List.map_cons, List.map_nil]
    refine List.nodup_append.2 ⟨h.nodup, by simp, fun a ha b hb => ?_⟩
    simp only [List.mem_singleton] at hb
    subst hb
    obtain ⟨x, hx, rfl⟩ := List.mem_map.1 ha
    exact hn x hx
  · simp only [Array.toList_push, List.mem_append, List.mem_singleton] at hx
    rcases hx with hx | rfl
    · simp [fput, hn x hx, h.val x hx]
    · simp [fput]
  · by_cases hqk : q = k
    · exact ⟨⟨k, v, born⟩, by simp, hqk.symm⟩
    · simp only [fput, if_neg hqk] at hq
      obtain ⟨x, hx, hxk⟩ := h.has q u hq
      exact ⟨x, by simp [hx], hxk⟩
theorem MapG.turn {ok : Value → Prop} {es : Array MapEntry} {f : Value → Option Value} (h : MapG ok es f) {k v : Value} {j : Nat} {e : MapEntry} (hj : es.toList[j]? = some e) (he : e.key = k) : MapG ok (es.modify j fun x => { x with key := k, val := v }) (fput f k v) := by
  subst he
  have hj' : es[j]? = some e := by simpa using hj
  have hkeys : (es.modify j fun x => { x with key := e.key, val := v }).toList.map (·.key) = es.toList.map (·.key) := modify_keys j _ (fun x hx => by rw [hj'] at hx; cases hx; rfl)
  have who : ∀ x ∈ (es.modify j fun x => { x with key := e.key, val := v }).toList, (x.key = e.key ∧ x.val = v) ∨ (x ∈ es.toList ∧ x.key ≠ e.key) := fun x hx => by
    obtain ⟨i, hi⟩ := List.getElem?_of_mem hx
    rw [Array.getElem?_toList, Array.getElem?_modify] at hi
    by_cases hij : j = i
    · subst hij
      rw [if_pos rfl, hj'] at hi
      simp only [Option.map_some, Option.some.injEq] at hi
      rw [← hi]
      exact .inl ⟨rfl, rfl⟩
    · rw [if_neg hij] at hi
      exact .inr ⟨Array.mem_toList_iff.2 (Array.mem_of_getElem? hi), h.other hj (by simpa using hi) (Ne.symm hij)⟩
  refine ⟨key_modify h.key j _ (fun x hx => by rw [hj'] at hx; cases hx; rfl), by rw [hkeys]; exact h.nodup, fun x hx => ?_, fun q u hq => ?_⟩
  · rcases who x hx with ⟨h1, h2⟩ | ⟨h1, h2⟩
    · simp [fput, h1, h2]
    · simp [fput, h2, h.val x h1]
  · have hmem : q ∈ es.toList.map (·.key) := by
      by_cases hqk : q = e.key
      · rw [hqk]; exact List.mem_map.2 ⟨e, List.mem_of_getElem? hj, rfl⟩
      · simp only [fput, if_neg hqk] at hq
        obtain ⟨x, hx, hxk⟩ := h.has q u hq
        exact List.mem_map.2 ⟨x, hx, hxk⟩
    rw [← hkeys] at hmem
    obtain ⟨x, hx, hxk⟩ := List.mem_map.1 hmem
    exact ⟨x, hx, hxk⟩
theorem MapG.drop {ok : Value → Prop} {es : Array MapEntry} {f : Value → Option Value} (h : MapG ok es f) {k : Value} {j : Nat} {e : MapEntry} (hj : es.toList[j]? = some e) (he : e.key = k) : MapG ok (es.eraseIdxIfInBounds j) (fdel f k) := by
  subst he
  have hlt : j < es.size := by simpa using (List.getElem?_eq_some_iff.1 hj).1
  have hl : (es.eraseIdxIfInBounds j).toList = es.toList.eraseIdx j := by
    unfold Array.eraseIdxIfInBounds
    rw [dif_pos hlt]
    simp
  have hsub := List.eraseIdx_sublist es.toList j
  refine ⟨fun x hx => ?_, ?_, fun x hx => ?_, fun q u hq => ?_⟩
  · rw [hl] at hx
    exact h.key x (hsub.subset hx)
  · rw [hl]
    exact (hsub.map _).nodup h.nodup
  · rw [hl] at hx
    obtain ⟨i, hne, hi⟩ := List.mem_eraseIdx_iff_getElem?.1 hx
    simp [fdel, h.other hj hi hne, h.val x (hsub.subset hx)]
  · by_cases hqk : q = e.key
    · simp [fdel, hqk] at hq
    · simp only [fdel, if_neg hqk] at hq
      obtain ⟨x, hx, hxk⟩ := h.has q u hq
      obtain ⟨i, hi⟩ := List.getElem?_of_mem hx
      refine ⟨x, ?_, hxk⟩
      rw [hl]
      refine List.mem_eraseIdx_iff_getElem?.2 ⟨i, fun hij => hqk ?_, hi⟩
      subst hij
      rw [hj] at hi
      cases hi
      exact hxk.symm
section maps
variable {P : Program} {f : Func} {R : Act → World → Prop} {n : Nat} {k : List Itm} {E : Env} {h r : List (Nat × Obj)} {F : List (List Nat × World)} {Y : Ghost}
theorem JRg_lookr {id L0 i : Nat} {ck : Bool} {Wp : List (Nat × List Nat)} {rest : List (Nat × Bool)} (hn : Hn) (b t kt et : Nat) (ok : Value → Prop) (key z : Value) (c : Bool) (dst : Option Tmp) {es : Array MapEntry} {clock : Nat} {g : Value → Option Value}
    (he : lookOf n (rgOf f id) E i = some (.map (some b), key, t, c, dst)) (hok : (!ck || okR L0 (Wp.filter fun y => !later (rgOf f id) i 3 y.1) [hn]) = true) (ht : P.underlying t = some (.map kt et)) (hK : KeyOk P kt ok) (hk : ok key) (hi : (P.info? et).map (·.zero) = some (some z))
    (hp : hn.get h r = some (b, .map es clock)) (hm : MapG ok es g)
    (A : g key = none → JR P f R n (rgOf f id) L0 ck rest Wp k (E.put dst (.val (lkV c z false))) h r F Y)
    (B : ∀ v, g key = some v → JR P f R n (rgOf f id) L0 ck rest Wp k (E.put dst (.val (lkV c v true))) h r F Y) :
    JR P f R n (rgOf f id) L0 ck ((i, true) :: rest) Wp k E h r F Y := by
  intro BB Hd fps a w s hH hR hN hW
  simp only [PW]
  obtain ⟨inf, hinf, hz⟩ := Option.map_eq_some_iff.1 hi
  have hzero : ∀ w, (zeroValue et).run P w = .ok z w := fun w => by simp [zeroValue, typeInfo, hinf, hz]
  have hus : used h r [hn] = [(b, .map es clock)] := by simp [used, hp]
  have hHp : Hp (used h r [hn]) w := fun y hy => by
    obtain ⟨hn', _, hg⟩ := List.mem_filterMap.1 hy
    exact s.own.get hg
  unfold lookOf at he
  split at he
  · cases he
  rename_i o ho
  split at he
  case isFalse => cases he
  rename_i hdst
  split at he
  · cases he
  rename_i hg
  split at he
  case h_2 => cases he
  rename_i t' m x c' hc
  split at he
  case h_2 => cases he
  rename_i hq
  simp only [Option.some.injEq, Prod.mk.injEq] at he
  obtain ⟨e1, e2, rfl, rfl, rfl⟩ := he
  have hev := opsOk_sound s.ag (fun c w h => by cases h) _ _ hq trivial
  have e1 : a.eval m = .map (some b) := (hev m (by simp)).trans e1
  have e2 : a.eval x = key := (hev x (by simp)).trans e2
  have fin : ∀ v, (∀ w, Hp (used h r [hn]) w → (Instr.lookup t' (.map (some b)) key c').run P w = .ok v w) → JR P f R n (rgOf f id) L0 ck rest Wp k (E.put o.dst (.val v)) h r F Y →
      ∃ o' v' us, (rgOf f id)[i]? = some o' ∧ YieldsIf P (rgOf f id) (Hp us) o' v' a ∧ Hp us w ∧ (ck = true → ∀ y ∈ idsW Hd h Wp, later (rgOf f id) i 3 y.1 = true ∨ ∀ x ∈ us, x.1 < BB ∧ x.1 ∉ y.2) ∧ PW P (rgOf f id) (wpK P f R k) BB ck rest (idsW Hd h Wp) (a.put o'.dst v') w := fun v hv H => by
    refine ⟨o, v, used h r [hn], ho, .inl ⟨by simp [Region.wanted, hg], fun w hw => ?_⟩, hHp, fun hck y hy => okR_later (fun j => later (rgOf f id) i 3 j) s.own hR (by simpa [hck] using hok) y hy, ?_⟩
    · unfold execOp
      simp only [hc, Sem.run_bind, Sem.run_pure, Result.andThen_ok, e1, e2, hv w hw]
    · exact H BB Hd fps _ w ⟨s.ag.put hdst (.val v), s.own, s.fr, s.may, s.gh⟩ hH hR hN hW
  have hbw : ∀ w, Hp (used h r [hn]) w → w.heap[b]? = some (.map es clock) := fun w hw => hw (b, .map es clock) (by rw [hus]; simp)
  rcases hm.look hK hk with ⟨h1, h2, _⟩ | ⟨j, e, h1, _, _, h2⟩
  · refine fin (lkV c' z false) (fun w hw => ?_) (A h2)
    cases c' <;> simp [Instr.lookup, run_underlying ht, MapKept.run_getObj_map (hbw w hw), hK.chk _ _ hk, h1, hzero, Result.andThen, lkV]
  · refine fin (lkV c' e.val true) (fun w hw => ?_) (B _ h2)
    cases c' <;> simp [Instr.lookup, run_underlying ht, MapKept.run_getObj_map (hbw w hw), hK.chk _ _ hk, h1, Result.andThen, lkV]
theorem JRg_put {id L0 i : Nat} {ck : Bool} {Wp : List (Nat × List Nat)} {rest : List (Nat × Bool)} (p b t kt et : Nat) (ok : Value → Prop) (key val : Value) (dst : Option Tmp) {es : Array MapEntry} {clock : Nat} {g : Value → Option Value}
    (he : putOf n (rgOf f id) E i = some (.map (some b), key, val, t, dst)) (hok : (!ck || okW L0 (Wp.lookup i) [p]) = true) (ht : P.underlying t = some (.map kt et)) (hK : KeyOk P kt ok) (hk : ok key)
    (hp : h[p]? = some (b, .map es clock)) (hm : MapG ok es g)
    (A : ∀ es' clock', MapG ok es' (fput g key val) → es'.size ≤ es.size + 1 → JR P f R n (rgOf f id) L0 ck rest (Wp.filter (·.1 != i)) k (E.put dst (.val undef)) (h.set p (b, .map es' clock')) r F Y) :
    JR P f R n (rgOf f id) L0 ck ((i, false) :: rest) Wp k E h r F Y := by
  intro BB Hd fps a w s hH hR hN hW
  simp only [PW]
  have hb : w.heap[b]? = some (.map es clock) := s.own.own _ (List.mem_of_getElem? hp)
  refine putOf_sound he s ?_
  rcases hm.look hK hk with ⟨h1, _, h2⟩ | ⟨j, e, h1, h2, h3, _⟩
  · refine ⟨{ w with heap := w.heap.setIfInBounds b (.map (es.push ⟨key, val, clock⟩) (clock + 1)) }, ?_, fun a' hA => JR_setmap hok hp s hH hR hN hW hA (A _ _ (hm.push hk h2) (by simp))⟩
    simp [Instr.mapUpdate, run_underlying ht, MapKept.run_getObj_map hb, hK.chk _ _ hk, h1, MapKept.run_setObj_map _ hb, Result.andThen]
  · have hj : es[j]? = some e := by simpa using h2
    refine ⟨{ w with heap := w.heap.setIfInBounds b (.map (es.modify j fun x => { x with key := key, val := val }) clock) }, ?_, fun a' hA => JR_setmap hok hp s hH hR hN hW hA (A _ _ (hm.turn h2 h3) (by simp))⟩
    simp [Instr.mapUpdate, run_underlying ht, MapKept.run_getObj_map hb, hK.chk _ _ hk, h1, hj, h3, hK.stays _ hk, MapKept.run_setObj_map _ hb, Result.andThen]
end maps
end Go.Sx
end
section
namespace Go.Sx
open Go
theorem flat_out {l : List (List Nat)} {i : Nat} {x : List Nat} (h : l[i]? = some x) : l.flatten.Perm (x ++ (l.eraseIdx i).flatten) := by
  induction l generalizing i with
  | nil => simp at h
  | cons y l ih =>
    cases i with
    | zero =>
      simp only [List.getElem?_cons_zero, Option.some.injEq] at h
      subst h
      simp
    | succ i =>
      simp only [List.getElem?_cons_succ] at h
      simp only [List.flatten_cons, List.eraseIdx_cons_succ]
      refine ((ih h).append_left y).trans ?_
      rw [← List.append_assoc, ← List.append_assoc]
      exact List.perm_append_comm.append_right _
theorem Chs.insert {w : World} {S : Nat → Prop} {c : Chunk} {fp : List Nat} (hc : c.P w S fp) : ∀ {cs : List Chunk} {i : Nat} {fps : List (List Nat)}, cs[i]? = some c → Chs w S (cs.eraseIdx i) fps → ∃ fps', Chs w S cs fps' ∧ fps'.flatten.Perm (fp ++ fps.flatten)
  | [], _, _, h, _ => by simp at h
  | d :: cs, 0, fps, h, hr => by
    simp only [List.getElem?_cons_zero, Option.some.injEq] at h
    subst h
    exact ⟨fp :: fps, ⟨hc, hr⟩, by simp⟩
  | d :: cs, i + 1, fps, h, hr => by
    simp only [List.getElem?_cons_succ] at h
    simp only [List.eraseIdx_cons_succ] at hr
    match fps, hr with
    | f :: fps, hr =>
      obtain ⟨fps', h1, h2⟩ := Chs.insert hc h hr.2
      refine ⟨f :: fps', ⟨hr.1, h1⟩, ?_⟩
      simp only [List.flatten_cons]
      refine (h2.append_left f).trans ?_
      rw [← List.append_assoc, ← List.append_assoc]
      exact List.perm_append_comm.append_right _
def cMapG (b : Nat) (ok : Value → Prop) (g : Value → Option Value) : Chunk where
  P w _ fp := fp = [b] ∧ ∃ es clock, w.heap[b]? = some (.map es clock) ∧ MapG ok es g
  mono := by
    intro w w' S S' fp ⟨h, es, clock, h1, h2⟩ hb _
    exact ⟨h, es, clock, (hb _ (by rw [h]; simp)).trans h1, h2⟩
theorem mapg_eqv {b clock : Nat} {ok : Value → Prop} {es : Array MapEntry} {g : Value → Option Value} (hm : MapG ok es g) : (cObj b (.map es clock)).eqv (cMapG b ok g) := fun _ _ _ h => ⟨h.1, es, clock, h.2, hm⟩
section more
variable {P : Program} {f : Func} {R : Act → World → Prop} {n : Nat} {kk : List Itm} {E : Env} {h r : List (Nat × Obj)} {F : List (List Nat × World)}
def mapgParts (b : Nat) (ok : Value → Prop) (g : Value → Option Value) (x : Array MapEntry × Nat) : Chunk := cStar [cPure (MapG ok x.1 g), cObj b (.map x.1 x.2)]
theorem J_openmapg {S0 : Nat → Prop} {C0 : List Chunk} {G0 : List (Value × D)} (q : Nat) {b : Nat} {ok : Value → Prop} {g : Value → Option Value} (hq : C0[q]? = some (cMapG b ok g))
    (H : ∀ es clock, MapG ok es g → J P f R n kk E (h ++ [(b, .map es clock)]) r F ⟨S0, C0.eraseIdx q, G0⟩) : J P f R n kk E h r F ⟨S0, C0, G0⟩ := by
  have hv : (cMapG b ok g).eqv (cExi (mapgParts b ok g)) := by
    intro w S fp ⟨hfp, es, clock, h1, h2⟩
    subst hfp
    have hch : Chs w S [cPure (MapG ok es g), cObj b (.map es clock)] [[], [b]] := ⟨⟨rfl, h2⟩, ⟨rfl, h1⟩, trivial⟩
    exact ⟨(es, clock), [[], [b]], by simp, hch⟩
  refine J_stp (stp_conv q hq hv) ?_
  have hql := (List.getElem?_eq_some_iff.1 hq).1
  refine J_stpx (stp_exi (g := mapgParts b ok g) q (by rw [List.getElem?_set_self hql])) fun x _ => ?_
  obtain ⟨es, clock⟩ := x
  rw [List.set_set]
  refine J_stp (stp_star (cs := [cPure (MapG ok es g), cObj b (.map es clock)]) q (by rw [List.getElem?_set_self hql]; rfl)) ?_
  have e0 : ∀ y : Chunk, (C0.set q y).eraseIdx q = C0.eraseIdx q := fun y => by
    apply List.ext_getElem?
    intro j
    rw [List.getElem?_eraseIdx, List.getElem?_eraseIdx]
    split
    · rw [List.getElem?_set_ne (by omega)]
    · rw [List.getElem?_set_ne (by omega)]
  rw [e0]
  refine J_stpx (stp_pure (p := MapG ok es g) (C0.eraseIdx q).length (by rw [List.getElem?_append_right (Nat.le_refl _), Nat.sub_self]; rfl)) fun _ hp => ?_
  rw [List.eraseIdx_append_of_length_le (Nat.le_refl _)]
  simp only [Nat.sub_self, List.eraseIdx_cons_zero]
  refine J_show (b := b) (o := .map es clock) (C0.eraseIdx q).length (by rw [List.getElem?_append_right (Nat.le_refl _), Nat.sub_self]; rfl) ?_
  rw [List.eraseIdx_append_of_length_le (Nat.le_refl _)]
  simp only [Nat.sub_self, List.eraseIdx_cons_zero, List.append_nil]
  exact H es clock hp
theorem stp_take {S0 : Nat → Prop} {C0 : List Chunk} {G0 : List (Value × D)} (q i : Nat) {cs : List Chunk} {c : Chunk} (hq : C0[q]? = some (cStar cs)) (hi : cs[i]? = some c) :
    Stp h r F ⟨S0, C0, G0⟩ (fun _ : Unit => True) fun _ => ⟨S0, C0.eraseIdx q ++ [c, cStar (cs.eraseIdx i)], G0⟩ := by
  intro w fps hO H
  obtain ⟨fp, hfp, fpsI, rfl, hP⟩ := H.chs.at hq
  obtain ⟨fpi, hfi, hc⟩ := hP.at hi
  have hp : (fps.eraseIdx q ++ [fpi, (fpsI.eraseIdx i).flatten]).flatten.Perm fps.flatten := by
    rw [List.flatten_append]
    simp only [List.flatten_cons, List.flatten_nil, List.append_nil]
    exact ((flat_out hfi).symm.append_left _).trans (List.perm_append_comm.trans (flat_out hfp).symm)
  have hsub : ∀ b ∈ (fps.eraseIdx q ++ [fpi, (fpsI.eraseIdx i).flatten]).flatten, b ∈ fps.flatten := fun b hb => hp.mem_iff.1 hb
  have hS : ∀ b, Sd ⟨S0, C0, G0⟩ h fps b → Sd ⟨S0, C0, G0⟩ h (fps.eraseIdx q ++ [fpi, (fpsI.eraseIdx i).flatten]) b := fun b hb => Sd_sub hsub hb
  have hch : Chs w (Sd ⟨S0, C0, G0⟩ h fps) [c, cStar (cs.eraseIdx i)] [fpi, (fpsI.eraseIdx i).flatten] := ⟨hc, ⟨_, rfl, hP.erase⟩, trivial⟩
  exact ⟨(), _, trivial, hsub, H.less hsub (hp.nodup_iff.2 H.nodup) ((H.chs.erase.app hch).mono (fun _ _ => rfl) fun b hb _ => ⟨hS b hb, rfl⟩) fun x hx => (H.g x hx).mono fun b hb _ => ⟨hS b hb, rfl⟩⟩
theorem stp_join {S0 : Nat → Prop} {C0 : List Chunk} {G0 : List (Value × D)} (q1 q2 i : Nat) {cs cs' : List Chunk} {c : Chunk} (h1 : C0[q1]? = some c) (h2 : C0[q2]? = some (cStar cs)) (hne : q1 ≠ q2) (hi : cs'[i]? = some c) (he : cs'.eraseIdx i = cs) :
    Stp h r F ⟨S0, C0, G0⟩ (fun _ : Unit => True) fun _ => ⟨S0, restC C0 [q1, q2] ++ [cStar cs'], G0⟩ := by
  subst he
  intro w fps hO H
  obtain ⟨fp1, hf1, hc⟩ := H.chs.at h1
  obtain ⟨fp2, hf2, fpsI, rfl, hP⟩ := H.chs.at h2
  obtain ⟨fps', hch, hpm⟩ := Chs.insert hc hi hP
  have hlen := H.chs.len
  have hp2 : pick fps [q1, q2] = [fp1, fpsI.flatten] := by simp [pick, hf1, hf2]
  have hnd2 : (others C0.length [q1, q2] ++ [q1, q2]).Nodup := by
    rw [List.nodup_append]
    refine ⟨List.Nodup.sublist List.filter_sublist List.nodup_range, by simp [hne], fun x hx y hy hxy => ?_⟩
    subst hxy
    simp [others] at hx
    simp at hy
    omega
  have hE : (pick fps (others C0.length [q1, q2]) ++ [fps'.flatten]).flatten.Perm (pick fps (others C0.length [q1, q2] ++ [q1, q2])).flatten := by
    rw [pick_app, hp2, List.flatten_append, List.flatten_append]
    simp only [List.flatten_cons, List.flatten_nil, List.append_nil]
    exact hpm.append_left _
  have hsub : ∀ b ∈ (pick fps (others C0.length [q1, q2]) ++ [fps'.flatten]).flatten, b ∈ fps.flatten := fun b hb => pick_flat_sub (hE.mem_iff.1 hb)
  have hS : ∀ b, Sd ⟨S0, C0, G0⟩ h fps b → Sd ⟨S0, C0, G0⟩ h (pick fps (others C0.length [q1, q2]) ++ [fps'.flatten]) b := fun b hb => Sd_sub hsub hb
  have hj : Chs w (Sd ⟨S0, C0, G0⟩ h fps) [cStar cs'] [fps'.flatten] := ⟨⟨_, rfl, hch⟩, trivial⟩
  exact ⟨(), _, trivial, hsub, H.less hsub (hE.nodup_iff.2 (pick_flat_nodup H.nodup hnd2)) (((H.chs.pick _).app hj).mono (fun _ _ => rfl) fun b hb _ => ⟨hS b hb, rfl⟩) fun x hx => (H.g x hx).mono fun b hb _ => ⟨hS b hb, rfl⟩⟩
theorem star_nil (w : World) (S : Nat → Prop) : (cStar []).P w S [] := ⟨[], rfl, trivial⟩
end more
theorem J_norm {P : Program} {f : Func} {R : Act → World → Prop} {n : Nat} {kk : List Itm} {E : Env} {h r : List (Nat × Obj)} {F : List (List Nat × World)} {S0 : Nat → Prop} {C0 C' : List Chunk} {G0 G' : List (Value × D)} (hC : C0 = C') (hG : G0 = G') (H : J P f R n kk E h r F ⟨S0, C', G'⟩) : J P f R n kk E h r F ⟨S0, C0, G0⟩ := by
  subst hC hG
  exact H
theorem map_out {α β : Type} {ks : List α} (hn : ks.Nodup) {i : Nat} {k : α} (hk : ks[i]? = some k) {Q Q' : α → β} (hQ : ∀ x, x ≠ k → Q' x = Q x) : (ks.map Q').eraseIdx i = (ks.map Q).eraseIdx i := by
  apply List.ext_getElem?
  intro j
  rw [List.getElem?_eraseIdx, List.getElem?_eraseIdx]
  have key : ∀ j : Nat, j ≠ i → (ks.map Q')[j]? = (ks.map Q)[j]? := fun j hj => by
    rw [List.getElem?_map, List.getElem?_map]
    cases hx : ks[j]? with
    | none => rfl
    | some x =>
      have : x ≠ k := fun he => by
        subst he
        exact hj ((List.getElem?_inj (List.getElem?_eq_some_iff.1 hx).1 hn).1 (hx.trans hk.symm))
      simp [hQ x this]
  split
  · exact key j (by omega)
  · exact key (j + 1) (by omega)
end Go.Sx
end
section
namespace Go.Proofs.YtpjkiomccpjboaaGreatDoor
open Go Go.Sx
def sk86 : Sk := (.seq (.rg 0 false) (.seq (.seq (.rg 1 false) (.cond (.tmp 9) (.seq (.rg 2 false) .ret) .skip)) (.seq (.seq (.rg 3 false) (.cond (.tmp 11) (.rg 4 false) .skip)) (.seq (.rg 5 false) (.seq (.rg 6 false) (.seq (.seq (.rg 7 false) (.cond (.tmp 23) (.rg 8 false) .skip)) (.seq (.rg 9 false) (.seq (.seq (.rg 10 false) (.cond (.tmp 35) (.rg 11 false) .skip)) (.seq (.rg 12 false) .ret)))))))))
theorem bd86 : Tryz.f86.body = some (sk86.code Tryz.f86) := by kernel_rfl
theorem ep86 {args : List Value} {w : World} {S : Nat → Prop} {G : List (Value × D)} {Rr : Ending → World → Prop} (hl : Nat.ble args.length Tryz.f86.ntmps = true) (hG : AllG w S G) (H : J Tryz.prog Tryz.f86 (retR Tryz.prog Tryz.f86 Rr) Tryz.f86.ntmps [.c sk86] (envOf 0 args) [] [] [([], w)] ⟨newS S [] w, [], G⟩) : Calls Tryz.prog 86 args.toArray w Rr :=
  calls_J Tryz.func86 bd86 rfl hl (Pre.none _ _) hG H
def sk64 : Sk := (.seq (.rg 0 false) (.seq (.rg 1 false) .ret))
theorem bd64 : Tryz.f64.body = some (sk64.code Tryz.f64) := by kernel_rfl
theorem ep64 {args : List Value} {w : World} {S : Nat → Prop} {G : List (Value × D)} {Rr : Ending → World → Prop} (hl : Nat.ble args.length Tryz.f64.ntmps = true) (hG : AllG w S G) (H : J Tryz.prog Tryz.f64 (retR Tryz.prog Tryz.f64 Rr) Tryz.f64.ntmps [.c sk64] (envOf 0 args) [] [] [([], w)] ⟨newS S [] w, [], G⟩) : Calls Tryz.prog 64 args.toArray w Rr :=
  calls_J Tryz.func64 bd64 rfl hl (Pre.none _ _) hG H
end Go.Proofs.YtpjkiomccpjboaaGreatDoor
end
section
namespace Go.Proofs.YtpjkiomccpjboaaGreatDoor
open Go Go.Sx
def badC (c : Int) : Bool := ((decide (c < 97) || decide (122 < c)) && (decide (c < 48) || decide (57 < c))) && (c != 45)
def badL (l : List UInt8) : Bool := l.any fun b => badC b.toNat
def nameOk (s : ByteArray) : Bool := decide (1 ≤ s.size) && decide (s.size ≤ 16) && !badL s.data.toList
theorem name1 {w : World} {S : Nat → Prop} {c : Int} : Calls Tryz.prog 89 #[.int .u8 c] w fun e w' => Ret [] w S w' e (.bool (badC c)) [] [] := by
  refine ep89 (args := [.int .u8 c]) (G := []) (by kernel_rfl) (AllG.nil w S) ?_
  obtain h | h | h | h | h | h | h : c < 45 ∨ c = 45 ∨ (45 < c ∧ c < 48) ∨ (48 ≤ c ∧ c ≤ 57) ∨ (57 < c ∧ c < 97) ∨ (97 ≤ c ∧ c ≤ 122) ∨ 122 < c := by omega
  · have e : badC c = true := by simp [badC]; omega
    refine J_seq ?_
    refine J_reg mixed [.rd 0 [] 0 0] [] [0, 2] (E1 := fun _ => [(0, .val (.int .u8 c)), (2, .val (.bool false))]) (h1 := fun _ => []) (p1 := fun _ => []) (W1 := []) (by kernel_rfl) (fun _ => by kernel_rfl) (fun _ => trivial) (fun _ => ?_)
    refine J_seq ?_
    refine J_reg mixed [.rd 0 [] 0 0, .rd 1 [] 0 6, .rd 2 [] 0 0, .rd 3 [] 1 0, .rd 4 [] 1 0, .rd 5 [] 0 0, .rd 6 [] 0 0, .rd 7 [] 0 0, .rd 8 [] 0 6, .rd 9 [] 0 0, .rd 10 [] 1 0, .rd 11 [] 1 0, .rd 12 [] 0 0, .rd 13 [] 0 0, .rd 14 [] 0 0, .rd 15 [] 0 0, .rd 16 [] 0 6, .rd 17 [] 0 0, .rd 18 [] 0 0] [] [2] (E1 := fun _ => [(2, .val (.bool true))]) (h1 := fun _ => []) (p1 := fun _ => [decide (c < (97 : Int)) = true, decide (c < (48 : Int)) = true, (c != (45 : Int)) = true]) (W1 := []) (by kernel_rfl) (fun _ => by kernel_rfl) (fun _ => ⟨by simp; omega, by simp; omega, by simp; omega, trivial⟩) (fun _ => ?_)
    refine J_return [[]] (.bool true) (by kernel_rfl) (fun a w s => ?_)
    rw [e]
    exact s.ret (by simp) [] [] rfl rfl
  · subst h
    refine J_seq ?_
    refine J_reg mixed [.rd 0 [] 0 0] [] [0, 2] (E1 := fun _ => [(0, .val (.int .u8 45)), (2, .val (.bool false))]) (h1 := fun _ => []) (p1 := fun _ => []) (W1 := []) (by kernel_rfl) (fun _ => by kernel_rfl) (fun _ => trivial) (fun _ => ?_)
    refine J_seq ?_
    refine J_reg mixed [.rd 0 [] 0 0, .rd 1 [] 0 0, .rd 2 [] 0 0, .rd 3 [] 1 0, .rd 4 [] 1 0, .rd 5 [] 0 0, .rd 6 [] 0 0, .rd 7 [] 0 0, .rd 8 [] 0 0, .rd 9 [] 0 0, .rd 10 [] 1 0, .rd 11 [] 1 0, .rd 12 [] 0 0, .rd 13 [] 0 0, .rd 14 [] 0 0, .rd 15 [] 0 0, .rd 16 [] 0 0, .rd 17 [] 0 0, .rd 18 [] 0 0] [] [2] (E1 := fun _ => [(2, .val (.bool false))]) (h1 := fun _ => []) (p1 := fun _ => []) (W1 := []) (by kernel_rfl) (fun _ => by kernel_rfl) (fun _ => trivial) (fun _ => ?_)
    refine J_return [[]] (.bool false) (by kernel_rfl) (fun a w s => ?_)
    exact s.ret (by simp) [] [] rfl rfl
  · have e : badC c = true := by simp [badC]; omega
    refine J_seq ?_
    refine J_reg mixed [.rd 0 [] 0 0] [] [0, 2] (E1 := fun _ => [(0, .val (.int .u8 c)), (2, .val (.bool false))]) (h1 := fun _ => []) (p1 := fun _ => []) (W1 := []) (by kernel_rfl) (fun _ => by kernel_rfl) (fun _ => trivial) (fun _ => ?_)
    refine J_seq ?_
    refine J_reg mixed [.rd 0 [] 0 0, .rd 1 [] 0 6, .rd 2 [] 0 0, .rd 3 [] 1 0, .rd 4 [] 1 0, .rd 5 [] 0 0, .rd 6 [] 0 0, .rd 7 [] 0 0, .rd 8 [] 0 6, .rd 9 [] 0 0, .rd 10 [] 1 0, .rd 11 [] 1 0, .rd 12 [] 0 0, .rd 13 [] 0 0, .rd 14 [] 0 0, .rd 15 [] 0 0, .rd 16 [] 0 6, .rd 17 [] 0 0, .rd 18 [] 0 0] [] [2] (E1 := fun _ => [(2, .val (.bool true))]) (h1 := fun _ => []) (p1 := fun _ => [decide (c < (97 : Int)) = true, decide (c < (48 : Int)) = true, (c != (45 : Int)) = true]) (W1 := []) (by kernel_rfl) (fun _ => by kernel_rfl) (fun _ => ⟨by simp; omega, by simp; omega, by simp; omega, trivial⟩) (fun _ => ?_)
    refine J_return [[]] (.bool true) (by kernel_rfl) (fun a w s => ?_)
    rw [e]
    exact s.ret (by simp) [] [] rfl rfl
  · have e : badC c = false := by simp [badC]; omega
    refine J_seq ?_
    refine J_reg mixed [.rd 0 [] 0 0] [] [0, 2] (E1 := fun _ => [(0, .val (.int .u8 c)), (2, .val (.bool false))]) (h1 := fun _ => []) (p1 := fun _ => []) (W1 := []) (by kernel_rfl) (fun _ => by kernel_rfl) (fun _ => trivial) (fun _ => ?_)
    refine J_seq ?_
    refine J_reg mixed [.rd 0 [] 0 0, .rd 1 [] 0 6, .rd 2 [] 0 0, .rd 3 [] 1 0, .rd 4 [] 1 0, .rd 5 [] 0 0, .rd 6 [] 0 0, .rd 7 [] 0 0, .rd 8 [] 0 7, .rd 9 [] 0 0, .rd 10 [] 0 0, .rd 11 [] 0 7, .rd 12 [] 0 0, .rd 13 [] 0 0, .rd 14 [] 0 0, .rd 15 [] 1 0, .rd 16 [] 1 0, .rd 17 [] 0 0, .rd 18 [] 0 0] [] [2] (E1 := fun _ => [(2, .val (.bool false))]) (h1 := fun _ => []) (p1 := fun _ => [decide (c < (97 : Int)) = true, decide (c < (48 : Int)) = false, decide (c > (57 : Int)) = false]) (W1 := []) (by kernel_rfl) (fun _ => by kernel_rfl) (fun _ => ⟨by simp; omega, by simp; omega, by simp; omega, trivial⟩) (fun _ => ?_)
    refine J_return [[]] (.bool false) (by kernel_rfl) (fun a w s => ?_)
    rw [e]
    exact s.ret (by simp) [] [] rfl rfl
  · have e : badC c = true := by simp [badC]; omega
    refine J_seq ?_
    refine J_reg mixed [.rd 0 [] 0 0] [] [0, 2] (E1 := fun _ => [(0, .val (.int .u8 c)), (2, .val (.bool false))]) (h1 := fun _ => []) (p1 := fun _ => []) (W1 := []) (by kernel_rfl) (fun _ => by kernel_rfl) (fun _ => trivial) (fun _ => ?_)
    refine J_seq ?_
    refine J_reg mixed [.rd 0 [] 0 0, .rd 1 [] 0 6, .rd 2 [] 0 0, .rd 3 [] 1 0, .rd 4 [] 1 0, .rd 5 [] 0 0, .rd 6 [] 0 0, .rd 7 [] 0 0, .rd 8 [] 0 7, .rd 9 [] 0 0, .rd 10 [] 0 0, .rd 11 [] 0 6, .rd 12 [] 0 0, .rd 13 [] 0 0, .rd 14 [] 0 0, .rd 15 [] 0 0, .rd 16 [] 0 6, .rd 17 [] 0 0, .rd 18 [] 0 0] [] [2] (E1 := fun _ => [(2, .val (.bool true))]) (h1 := fun _ => []) (p1 := fun _ => [decide (c < (97 : Int)) = true, decide (c < (48 : Int)) = false, decide (c > (57 : Int)) = true, (c != (45 : Int)) = true]) (W1 := []) (by kernel_rfl) (fun _ => by kernel_rfl) (fun _ => ⟨by simp; omega, by simp; omega, by simp; omega, by simp; omega, trivial⟩) (fun _ => ?_)
    refine J_return [[]] (.bool true) (by kernel_rfl) (fun a w s => ?_)
    rw [e]
    exact s.ret (by simp) [] [] rfl rfl
  · have e : badC c = false := by simp [badC]; omega
    refine J_seq ?_
    refine J_reg mixed [.rd 0 [] 0 0] [] [0, 2] (E1 := fun _ => [(0, .val (.int .u8 c)), (2, .val (.bool false))]) (h1 := fun _ => []) (p1 := fun _ => []) (W1 := []) (by kernel_rfl) (fun _ => by kernel_rfl) (fun _ => trivial) (fun _ => ?_)
    refine J_seq ?_
    refine J_reg mixed [.rd 0 [] 0 0, .rd 1 [] 0 7, .rd 2 [] 0 0, .rd 3 [] 0 0, .rd 4 [] 0 7, .rd 5 [] 0 0, .rd 6 [] 0 0, .rd 7 [] 1 0, .rd 8 [] 1 0, .rd 9 [] 1 0, .rd 10 [] 1 0, .rd 11 [] 1 0, .rd 12 [] 1 0, .rd 13 [] 0 0, .rd 14 [] 0 0, .rd 15 [] 1 0, .rd 16 [] 1 0, .rd 17 [] 0 0, .rd 18 [] 0 0] [] [2] (E1 := fun _ => [(2, .val (.bool false))]) (h1 := fun _ => []) (p1 := fun _ => [decide (c < (97 : Int)) = false, decide (c > (122 : Int)) = false]) (W1 := []) (by kernel_rfl) (fun _ => by kernel_rfl) (fun _ => ⟨by simp; omega, by simp; omega, trivial⟩) (fun _ => ?_)
    refine J_return [[]] (.bool false) (by kernel_rfl) (fun a w s => ?_)
    rw [e]
    exact s.ret (by simp) [] [] rfl rfl
  · have e : badC c = true := by simp [badC]; omega
    refine J_seq ?_
    refine J_reg mixed [.rd 0 [] 0 0] [] [0, 2] (E1 := fun _ => [(0, .val (.int .u8 c)), (2, .val (.bool false))]) (h1 := fun _ => []) (p1 := fun _ => []) (W1 := []) (by kernel_rfl) (fun _ => by kernel_rfl) (fun _ => trivial) (fun _ => ?_)
    refine J_seq ?_
    refine J_reg mixed [.rd 0 [] 0 0, .rd 1 [] 0 7, .rd 2 [] 0 0, .rd 3 [] 0 0, .rd 4 [] 0 6, .rd 5 [] 0 0, .rd 6 [] 0 0, .rd 7 [] 0 0, .rd 8 [] 0 7, .rd 9 [] 0 0, .rd 10 [] 0 0, .rd 11 [] 0 6, .rd 12 [] 0 0, .rd 13 [] 0 0, .rd 14 [] 0 0, .rd 15 [] 0 0, .rd 16 [] 0 6, .rd 17 [] 0 0, .rd 18 [] 0 0] [] [2] (E1 := fun _ => [(2, .val (.bool true))]) (h1 := fun _ => []) (p1 := fun _ => [decide (c < (97 : Int)) = false, decide (c > (122 : Int)) = true, decide (c < (48 : Int)) = false, decide (c > (57 : Int)) = true, (c != (45 : Int)) = true]) (W1 := []) (by kernel_rfl) (fun _ => by kernel_rfl) (fun _ => ⟨by simp; omega, by simp; omega, by simp; omega, by simp; omega, by simp; omega, trivial⟩) (fun _ => ?_)
    refine J_return [[]] (.bool true) (by kernel_rfl) (fun a w s => ?_)
    rw [e]
    exact s.ret (by simp) [] [] rfl rfl
theorem indexBadB {w : World} {S : Nat → Prop} {a : Option Addr} {n c : Nat} {l : List UInt8} (h : Rep w S (.slice a n c) (.sl 1 (l.map eB))) (hl : l.length ≤ 1000000) :
    Calls Tryz.prog 120 #[.slice a n c, .func (.func 89) #[] #[]] w fun e w' => ∃ r, Ret [] w S w' e (.int .i64 r) [] [] ∧ decide (0 ≤ r) = badL l := by
  have e1 := h.slen
  rw [List.length_map] at e1
  subst e1
  refine ep120 (args := [.slice a l.length c, .func (.func 89) #[] #[]]) (G := [(_, .sl 1 (l.map eB))]) (by kernel_rfl) (.cons h (.nil _ _)) ?_
  refine J_seq ?_
  refine J_reg mixed [.rd 0 [] 0 0] [] [0, 1, 4] (E1 := fun _ => [(0, .val (.slice a l.length c)), (1, .val (.func (.func 89) #[] #[])), (4, .val (.int .i64 0))]) (h1 := fun _ => []) (p1 := fun _ => []) (W1 := []) (by kernel_rfl) (fun _ => by kernel_rfl) (fun _ => trivial) (fun _ => ?_)
  refine J_seq ?_
  refine J_seq ?_
  refine J_reg mixed [.rd 0 [] 0 0, .rd 1 [] 0 0, .rd 2 [] 0 0] [] [0, 1, 4, 7, 8] (E1 := fun _ => [(0, .val (.slice a l.length c)), (1, .val (.func (.func 89) #[] #[])), (4, .val (.int .i64 0)), (7, .val (.int .i64 (↑l.length : Int))), (8, .val (.int .i64 0))]) (h1 := fun _ => []) (p1 := fun _ => []) (W1 := []) (by kernel_rfl) (fun _ => by kernel_rfl) (fun _ => trivial) (fun _ => ?_)
  refine J_block ?_
  refine J_loopx (fun i : Int => [(0, .val (.slice a l.length c)), (1, .val (.func (.func 89) #[] #[])), (4, .val (.int .i64 0)), (7, .val (.int .i64 (↑l.length : Int))), (8, .val (.int .i64 i))]) (fun i : Int => []) (fun i : Int => []) (fun i : Int => [(.slice a l.length c, (D.sl 1 (List.map eB l)))]) (fun i : Int => (l.length - i).toNat) (fun i : Int => (0 ≤ i ∧ i ≤ l.length ∧ ∀ j : Nat, j < i.toNat → ∀ b, l[j]? = some b → badC b.toNat = false)) 0 [0, 1, 4, 7, 8] [] [] [0] ?_ (by kernel_rfl) rfl rfl rfl ?_
  · exact ⟨by simp, by omega, by simp⟩
  rintro i ⟨hi0, hi, hno⟩
  refine J_seq ?_
  refine J_reg mixed [.rd 0 [] 0 0] [] [0, 1, 4, 7, 8, 9] (E1 := fun _ => [(0, .val (.slice a l.length c)), (1, .val (.func (.func 89) #[] #[])), (4, .val (.int .i64 0)), (7, .val (.int .i64 (↑l.length : Int))), (8, .val (.int .i64 i)), (9, .val (.bool (decide (i < (↑l.length : Int)))))]) (h1 := fun _ => []) (p1 := fun _ => []) (W1 := []) (by kernel_rfl) (fun _ => by kernel_rfl) (fun _ => trivial) (fun _ => ?_)
  refine J_seq ?_
  refine J_cond (t := decide (i < (↑l.length : Int))) (by kernel_rfl) (by kernel_rfl) (fun hlt => ?_) (fun hlt => ?_)
  · have hlt2 : i < l.length := by simpa using hlt
    obtain ⟨x, hx⟩ : ∃ x, l[i.toNat]? = some x := ⟨_, List.getElem?_eq_getElem (by omega)⟩
    refine J_read0 0 rfl i.toNat (map_at hx) (by kernel_rfl) (fun b1 off1 cs1 ty1 fz1 ha1 hrd1 => ?_)
    cases ha1
    have hrd1_0 := rd0 (hrd1 0 _ rfl)
    try simp only [List.cons_append, List.nil_append, List.append_nil]
    refine J_skip ?_
    refine J_seq ?_
    refine J_block ?_
    refine J_seq ?_
    refine J_reg mixed [.rd 0 [] 0 0, .rd 1 [] 0 0] [] [0, 1, 4, 5, 7, 8] (E1 := fun _ => [(0, .val (.slice (some (⟨b1, off1, none⟩)) l.length c)), (1, .val (.func (.func 89) #[] #[])), (4, .val (.int .i64 0)), (5, .val (.int .i64 i)), (7, .val (.int .i64 (↑l.length : Int))), (8, .val (.int .i64 i))]) (h1 := fun _ => []) (p1 := fun _ => []) (W1 := []) (by kernel_rfl) (fun _ => by kernel_rfl) (fun _ => trivial) (fun _ => ?_)
    refine J_seq ?_
    refine JR_begin mixed [(0, true), (1, true), (2, true), (3, true), (4, true), (5, false)] [] (by kernel_rfl) (by kernel_rfl) ?_
    refine JR_run (id := 4) (rest := [(5, false)]) [.rd 0 [] 0 0, .rd 1 [] 0 0, .rd 2 [] 0 0, .rd 3 [] 0 2, .rd 4 [.r 0 (some (.int .u8 (↑x.toNat : Int)))] 0 0] [0, 1, 4, 5, 7, 8, 11, 15] (E1 := fun _ => [(0, .val (.slice (some (⟨b1, off1, none⟩)) l.length c)), (1, .val (.func (.func 89) #[] #[])), (4, .val (.int .i64 0)), (5, .val (.int .i64 i)), (7, .val (.int .i64 (↑l.length : Int))), (8, .val (.int .i64 i)), (11, .val (.func (.func 89) #[] #[])), (15, .val (.int .u8 (↑x.toNat : Int)))]) (h1 := fun _ => []) (p1 := fun _ => [(0 : Int) ≤ i, i < (↑l.length : Int), cs1[off1 + i.toNat * (1 : Nat)]? = some (Value.int IntKind.u8 (↑x.toNat : Int))]) (W1 := []) (fun _ => by kernel_rfl) (fun _ => ⟨hi0, hlt2, hrd1_0, trivial⟩) (fun _ => ?_)
    refine JR_callp [] 89 #[.int .u8 (↑x.toNat : Int)] (some 16) (by kernel_rfl) (fun w S hG => ?_)
    refine (name1 (S := S)).mono ?_
    rintro e w2 hR
    refine ⟨_, _, _, hR, ?_⟩
    try simp only [List.cons_append, List.nil_append, List.append_nil]
    refine JR_end ?_
    refine J_cond (t := badC (↑x.toNat : Int)) (by kernel_rfl) (by kernel_rfl) (fun hb => ?_) (fun hb => ?_)
    · refine J_seq ?_
      refine J_reg mixed [.rd 0 [] 0 0, .rd 1 [] 0 0] [] [0, 1, 4, 5, 7, 8, 11, 15] (E1 := fun _ => [(0, .val (.slice (some (⟨b1, off1, none⟩)) l.length c)), (1, .val (.func (.func 89) #[] #[])), (4, .val (.int .i64 i)), (5, .val (.int .i64 i)), (7, .val (.int .i64 (↑l.length : Int))), (8, .val (.int .i64 i)), (11, .val (.func (.func 89) #[] #[])), (15, .val (.int .u8 (↑x.toNat : Int)))]) (h1 := fun _ => []) (p1 := fun _ => []) (W1 := []) (by kernel_rfl) (fun _ => by kernel_rfl) (fun _ => trivial) (fun _ => ?_)
      refine J_return [[]] (.int .i64 i) (by kernel_rfl) (fun a w s => ?_)
      refine ⟨_, s.ret (by simp) [] [] rfl rfl, ?_⟩
      rw [show badL l = true from List.any_eq_true.2 ⟨x, List.mem_of_getElem? hx, hb⟩]
      simpa using hi0
    · refine J_skip ?_
      refine J_eb ?_
      refine J_reg mixed [.rd 0 [] 0 1, .rd 1 [] 0 0] [] [0, 1, 4, 5, 7, 8, 11, 15] (E1 := fun _ => [(0, .val (.slice (some (⟨b1, off1, none⟩)) l.length c)), (1, .val (.func (.func 89) #[] #[])), (4, .val (.int .i64 0)), (5, .val (.int .i64 i)), (7, .val (.int .i64 (↑l.length : Int))), (8, .val (.int .i64 (i + 1))), (11, .val (.func (.func 89) #[] #[])), (15, .val (.int .u8 (↑x.toNat : Int)))]) (h1 := fun _ => []) (p1 := fun _ => [IntKind.i64.wrap (i + (1 : Int)) = i + (1 : Int)]) (W1 := []) (by kernel_rfl) (fun _ => by kernel_rfl) (fun _ => ⟨wrap_i64 (by omega) (by omega), trivial⟩) (fun _ => ?_)
      refine J_backx (i + 1) [0, 1, 4, 7, 8] [] [] [0] ?_ ?_ (by kernel_rfl) rfl rfl rfl
      · refine ⟨by omega, by omega, fun j hj t ht => ?_⟩
        by_cases hji : j = i.toNat
        · subst hji
          rw [hx] at ht
          cases ht
          exact hb
        · exact hno j (by omega) t ht
      · omega
  · refine J_exit rfl ?_
    refine J_seq ?_
    refine J_reg mixed [.rd 0 [] 0 0] [] [4] (E1 := fun _ => [(4, .val (.int .i64 (-1)))]) (h1 := fun _ => []) (p1 := fun _ => []) (W1 := []) (by kernel_rfl) (fun _ => by kernel_rfl) (fun _ => trivial) (fun _ => ?_)
    refine J_return [[]] (.int .i64 (-1)) (by kernel_rfl) (fun a w s => ?_)
    refine ⟨_, s.ret (by simp) [] [] rfl rfl, ?_⟩
    have e : badL l = false := by
      unfold badL
      rw [List.any_eq_false]
      intro t ht
      obtain ⟨j, hj⟩ := List.getElem?_of_mem ht
      have hjl := (List.getElem?_eq_some_iff.1 hj).1
      simp [hno j (by simp at hlt; omega) t hj]
    rw [e]
    decide
theorem containsBadB {w : World} {S : Nat → Prop} {a : Option Addr} {n c : Nat} {l : List UInt8} (h : Rep w S (.slice a n c) (.sl 1 (l.map eB))) (hl : l.length ≤ 1000000) :
    Calls Tryz.prog 88 #[.slice a n c, .func (.func 89) #[] #[]] w fun e w' => Ret [] w S w' e (.bool (badL l)) [] [] := by
  refine ep88 (args := [.slice a n c, .func (.func 89) #[] #[]]) (G := [(_, .sl 1 (l.map eB))]) (by kernel_rfl) (.cons h (.nil _ _)) ?_
  refine J_seq ?_
  refine J_reg mixed [.rd 0 [] 0 0] [] [0, 1, 4] (E1 := fun _ => [(0, .val (.slice a n c)), (1, .val (.func (.func 89) #[] #[])), (4, .val (.bool false))]) (h1 := fun _ => []) (p1 := fun _ => []) (W1 := []) (by kernel_rfl) (fun _ => by kernel_rfl) (fun _ => trivial) (fun _ => ?_)
  refine J_seq ?_
  refine JR_begin mixed [(0, true), (1, true), (2, false), (3, true), (4, true)] [] (by kernel_rfl) (by kernel_rfl) ?_
  refine JR_run (id := 1) (rest := [(2, false), (3, true), (4, true)]) [.rd 0 [] 0 0, .rd 1 [] 0 0] [4, 5, 6] (E1 := fun _ => [(4, .val (.bool false)), (5, .val (.slice a n c)), (6, .val (.func (.func 89) #[] #[]))]) (h1 := fun _ => []) (p1 := fun _ => []) (W1 := []) (fun _ => by kernel_rfl) (fun _ => trivial) (fun _ => ?_)
  refine JR_callp [] 120 #[.slice a n c, .func (.func 89) #[] #[]] (some 7) (by kernel_rfl) (fun w S hG => ?_)
  refine (indexBadB (hG.at 0 rfl) hl).mono ?_
  rintro e w2 ⟨r, hR, hr⟩
  refine ⟨_, _, _, hR, ?_⟩
  try simp only [List.cons_append, List.nil_append, List.append_nil]
  refine JR_run (id := 1) (rest := []) [.rd 3 [] 0 0, .rd 4 [] 0 0] [4] (E1 := fun _ => [(4, .val (.bool (decide (r ≥ 0))))]) (h1 := fun _ => []) (p1 := fun _ => []) (W1 := []) (fun _ => by kernel_rfl) (fun _ => trivial) (fun _ => ?_)
  refine JR_end ?_
  refine J_return [[]] (.bool (decide (r ≥ 0))) (by kernel_rfl) (fun a w s => ?_)
  rw [← hr]
  exact s.ret (by simp) [] [] rfl rfl
theorem vName {w : World} {S : Nat → Prop} {s0 : ByteArray} : Calls Tryz.prog 54 #[.string s0] w fun e w' => Ret [] w S w' e (.bool (nameOk s0)) [] [] := by
  refine ep54 (args := [.string s0]) (G := []) (by kernel_rfl) (AllG.nil w S) ?_
  have hz : s0.data.toList.length = s0.size := by simp
  by_cases h1 : s0.size = 0
  · have hE0 : s0.toList = (ByteArray.mk #[]).toList := by
      rw [ByteArray.toList_eq, ByteArray.toList_eq]
      exact List.eq_nil_of_length_eq_zero (by omega)
    have hE : (!s0.toList == (ByteArray.mk #[]).toList) = false := by rw [hE0]; simp
    have e : nameOk s0 = false := by simp [nameOk, h1]
    refine J_seq ?_
    refine J_reg mixed [.rd 0 [] 0 0] [] [0, 2] (E1 := fun _ => [(0, .val (.string s0)), (2, .val (.bool false))]) (h1 := fun _ => []) (p1 := fun _ => []) (W1 := []) (by kernel_rfl) (fun _ => by kernel_rfl) (fun _ => trivial) (fun _ => ?_)
    refine J_seq ?_
    refine J_reg mixed [.rd 0 [] 0 0, .rd 1 [] 0 7, .rd 2 [] 0 0, .rd 3 [] 1 0, .rd 4 [] 1 0, .rd 5 [] 1 0, .rd 6 [] 0 0, .rd 7 [] 0 0, .rd 8 [] 1 0, .wr 9 [] 1, .wr 10 [] 1, .rd 11 [] 1 0, .rd 12 [] 0 0, .rd 13 [] 0 0] [] [2] (E1 := fun _ => [(2, .val (.bool false))]) (h1 := fun _ => []) (p1 := fun _ => [(!s0.toList == (ByteArray.mk #[]).toList) = false]) (W1 := []) (by kernel_rfl) (fun _ => by kernel_rfl) (fun _ => ⟨by assumption, trivial⟩) (fun _ => ?_)
    refine J_return [[]] (.bool false) (by kernel_rfl) (fun a w s => ?_)
    rw [e]
    exact s.ret (by simp) [] [] rfl rfl
  · have hE : (!s0.toList == (ByteArray.mk #[]).toList) = true := by
      rw [ByteArray.toList_eq, ByteArray.toList_eq]
      cases h : s0.data.toList with
      | nil => rw [h] at hz; exact absurd hz.symm h1
      | cons x l => rfl
    by_cases h2 : 16 < s0.size
    · have e : nameOk s0 = false := by simp [nameOk]; omega
      refine J_seq ?_
      refine J_reg mixed [.rd 0 [] 0 0] [] [0, 2] (E1 := fun _ => [(0, .val (.string s0)), (2, .val (.bool false))]) (h1 := fun _ => []) (p1 := fun _ => []) (W1 := []) (by kernel_rfl) (fun _ => by kernel_rfl) (fun _ => trivial) (fun _ => ?_)
      refine J_seq ?_
      refine J_reg mixed [.rd 0 [] 0 0, .rd 1 [] 0 6, .rd 2 [] 0 0, .rd 3 [] 0 0, .rd 4 [] 0 0, .rd 5 [] 0 7, .rd 6 [] 0 0, .rd 7 [] 0 0, .rd 8 [] 1 0, .wr 9 [] 1, .wr 10 [] 1, .rd 11 [] 1 0, .rd 12 [] 0 0, .rd 13 [] 0 0] [] [2] (E1 := fun _ => [(2, .val (.bool false))]) (h1 := fun _ => []) (p1 := fun _ => [(!s0.toList == (ByteArray.mk #[]).toList) = true, decide ((↑s0.size : Int) ≤ (16 : Int)) = false]) (W1 := []) (by kernel_rfl) (fun _ => by kernel_rfl) (fun _ => ⟨by assumption, by simp; omega, trivial⟩) (fun _ => ?_)
      refine J_return [[]] (.bool false) (by kernel_rfl) (fun a w s => ?_)
      rw [e]
      exact s.ret (by simp) [] [] rfl rfl
    · refine J_seq ?_
      refine J_reg mixed [.rd 0 [] 0 0] [] [0, 2] (E1 := fun _ => [(0, .val (.string s0)), (2, .val (.bool false))]) (h1 := fun _ => []) (p1 := fun _ => []) (W1 := []) (by kernel_rfl) (fun _ => by kernel_rfl) (fun _ => trivial) (fun _ => ?_)
      refine J_seq ?_
      refine JR_begin mixed [(0, true), (1, true), (2, true), (3, true), (4, true), (5, true), (6, true), (7, true), (8, true), (9, false), (10, false), (11, true), (12, true), (13, true)] [] (by kernel_rfl) (by kernel_rfl) ?_
      refine JR_run (id := 1) (rest := [(9, false), (10, false), (11, true), (12, true), (13, true)]) [.rd 0 [] 0 0, .rd 1 [] 0 6, .rd 2 [] 0 0, .rd 3 [] 0 0, .rd 4 [] 0 0, .rd 5 [] 0 6, .rd 6 [] 0 0, .rd 7 [] 0 0, .rd 8 [] 0 0] [2, 10, 11] (E1 := fun _ => [(2, .val (.bool false)), (10, .val (.bool true)), (11, .val (.string s0))]) (h1 := fun _ => []) (p1 := fun _ => [(!s0.toList == (ByteArray.mk #[]).toList) = true, decide ((↑s0.size : Int) ≤ (16 : Int)) = true]) (W1 := []) (fun _ => by kernel_rfl) (fun _ => ⟨by assumption, by simp; omega, trivial⟩) (fun _ => ?_)
      refine JR_bytes 9 147 5 s0 (some 12) (by kernel_rfl) (by kernel_rfl) (by kernel_rfl) (by kernel_rfl) (fun bg1 bc1 => ?_)
      try simp only [List.cons_append, List.nil_append, List.append_nil]
      refine JR_callp [] 88 #[.slice (some (⟨bg1, 0, none⟩)) s0.size bc1, .func (.func 89) #[] #[]] (some 13) (by kernel_rfl) (fun w S hG => ?_)
      refine (containsBadB (l := s0.data.toList) (hG.at 0 rfl) (by omega)).mono ?_
      rintro e w2 hR
      refine ⟨_, _, _, hR, ?_⟩
      have e : nameOk s0 = !badL s0.data.toList := by simp [nameOk]; omega
      rw [e]
      try simp only [List.cons_append, List.nil_append, List.append_nil]
      refine JR_run (id := 1) (rest := []) [.rd 11 [] 0 0, .rd 12 [] 0 0, .rd 13 [] 0 0] [2] (E1 := fun _ => [(2, .val (.bool (!badL s0.data.toList)))]) (h1 := fun _ => []) (p1 := fun _ => []) (W1 := []) (fun _ => by kernel_rfl) (fun _ => trivial) (fun _ => ?_)
      refine JR_end ?_
      refine J_return [[]] (.bool (!badL s0.data.toList)) (by kernel_rfl) (fun a w s => ?_)
      exact s.ret (by simp) [] [] rfl rfl
end Go.Proofs.YtpjkiomccpjboaaGreatDoor
end
section
namespace Go.Proofs.YtpjkiomccpjboaaGreatDoor
open Go Go.Sx
abbrev globs (er : Nat → Addr) : List (Value × D) := [(.nilIface, .v .nilIface), dE 243 er 0 2, dE 243 er 3 3]
def badT (t : Int) : Bool := decide (t < 0) || decide (1099511627776 < t)
def vecErr (xs : List Int) : Nat := if xs.length < 1 ∨ 6 < xs.length then 3 else if xs.any badT then 2 else 0
theorem check1 {w : World} {S : Nat → Prop} {t : Int} : Calls Tryz.prog 92 #[.int .i64 t] w fun e w' => Ret [] w S w' e (.bool (badT t)) [] [] := by
  refine ep92 (args := [.int .i64 t]) (G := []) (by kernel_rfl) (AllG.nil w S) ?_
  refine J_seq ?_
  refine J_reg mixed [.rd 0 [] 0 0] [] [0, 2] (E1 := fun _ => [(0, .val (.int .i64 t)), (2, .val (.bool false))]) (h1 := fun _ => []) (p1 := fun _ => []) (W1 := []) (by kernel_rfl) (fun _ => by kernel_rfl) (fun _ => trivial) (fun _ => ?_)
  refine J_seq ?_
  refine J_reg mixed [.rd 0 [] 0 0, .rd 1 [] 0 0, .rd 2 [] 0 0, .rd 3 [] 2 0, .rd 4 [] 2 0, .rd 5 [] 0 3, .rd 6 [] 0 0] [] [2] (E1 := fun _ => [(2, .val (.bool (decide (t < 0) || decide (t > 1099511627776))))]) (h1 := fun _ => []) (p1 := fun _ => []) (W1 := []) (by kernel_rfl) (fun _ => by kernel_rfl) (fun _ => trivial) (fun _ => ?_)
  refine J_return [[]] (.bool (decide (t < 0) || decide (t > 1099511627776))) (by kernel_rfl) (fun a w s => ?_)
  exact s.ret (by simp) [] [] rfl rfl
theorem indexBad {w : World} {S : Nat → Prop} {a : Option Addr} {n c : Nat} {xs : List Int} (h : Rep w S (.slice a n c) (dInts xs)) (hl : xs.length ≤ 1000000) :
    Calls Tryz.prog 121 #[.slice a n c, .func (.func 92) #[] #[]] w fun e w' => ∃ r, Ret [] w S w' e (.int .i64 r) [] [] ∧ decide (0 ≤ r) = xs.any badT := by
  obtain rfl := rep_ints_len h
  refine ep121 (args := [.slice a xs.length c, .func (.func 92) #[] #[]]) (G := [(_, dInts xs)]) (by kernel_rfl) (.cons h (.nil _ _)) ?_
  refine J_seq ?_
  refine J_reg mixed [.rd 0 [] 0 0] [] [0, 1, 4] (E1 := fun _ => [(0, .val (.slice a xs.length c)), (1, .val (.func (.func 92) #[] #[])), (4, .val (.int .i64 0))]) (h1 := fun _ => []) (p1 := fun _ => []) (W1 := []) (by kernel_rfl) (fun _ => by kernel_rfl) (fun _ => trivial) (fun _ => ?_)
  refine J_seq ?_
  refine J_seq ?_
  refine J_reg mixed [.rd 0 [] 0 0, .rd 1 [] 0 0, .rd 2 [] 0 0] [] [0, 1, 4, 7, 8] (E1 := fun _ => [(0, .val (.slice a xs.length c)), (1, .val (.func (.func 92) #[] #[])), (4, .val (.int .i64 0)), (7, .val (.int .i64 (↑xs.length : Int))), (8, .val (.int .i64 0))]) (h1 := fun _ => []) (p1 := fun _ => []) (W1 := []) (by kernel_rfl) (fun _ => by kernel_rfl) (fun _ => trivial) (fun _ => ?_)
  refine J_block ?_
  refine J_loopx (fun i : Int => [(0, .val (.slice a xs.length c)), (1, .val (.func (.func 92) #[] #[])), (4, .val (.int .i64 0)), (7, .val (.int .i64 (↑xs.length : Int))), (8, .val (.int .i64 i))]) (fun i : Int => []) (fun i : Int => []) (fun i : Int => [(.slice a xs.length c, (dInts xs))]) (fun i : Int => (xs.length - i).toNat) (fun i : Int => (0 ≤ i ∧ i ≤ xs.length ∧ ∀ j : Nat, j < i.toNat → ∀ t, xs[j]? = some t → badT t = false)) 0 [0, 1, 4, 7, 8] [] [] [0] ?_ (by kernel_rfl) rfl rfl rfl ?_
  · exact ⟨by simp, by omega, by simp⟩
  rintro i ⟨hi0, hi, hno⟩
  refine J_seq ?_
  refine J_reg mixed [.rd 0 [] 0 0] [] [0, 1, 4, 7, 8, 9] (E1 := fun _ => [(0, .val (.slice a xs.length c)), (1, .val (.func (.func 92) #[] #[])), (4, .val (.int .i64 0)), (7, .val (.int .i64 (↑xs.length : Int))), (8, .val (.int .i64 i)), (9, .val (.bool (decide (i < (↑xs.length : Int)))))]) (h1 := fun _ => []) (p1 := fun _ => []) (W1 := []) (by kernel_rfl) (fun _ => by kernel_rfl) (fun _ => trivial) (fun _ => ?_)
  refine J_seq ?_
  refine J_cond (t := decide (i < (↑xs.length : Int))) (by kernel_rfl) (by kernel_rfl) (fun hlt => ?_) (fun hlt => ?_)
  · have hlt2 : i < xs.length := by simpa using hlt
    obtain ⟨x, hx⟩ : ∃ x, xs[i.toNat]? = some x := ⟨_, List.getElem?_eq_getElem (by omega)⟩
    refine J_read0 0 rfl i.toNat (map_at hx) (by kernel_rfl) (fun b1 off1 cs1 ty1 fz1 ha1 hrd1 => ?_)
    cases ha1
    have hrd1_0 := rd0 (hrd1 0 _ rfl)
    try simp only [List.cons_append, List.nil_append, List.append_nil]
    refine J_skip ?_
    refine J_seq ?_
    refine J_block ?_
    refine J_seq ?_
    refine J_reg mixed [.rd 0 [] 0 0, .rd 1 [] 0 0] [] [0, 1, 4, 5, 7, 8] (E1 := fun _ => [(0, .val (.slice (some (⟨b1, off1, none⟩)) xs.length c)), (1, .val (.func (.func 92) #[] #[])), (4, .val (.int .i64 0)), (5, .val (.int .i64 i)), (7, .val (.int .i64 (↑xs.length : Int))), (8, .val (.int .i64 i))]) (h1 := fun _ => []) (p1 := fun _ => []) (W1 := []) (by kernel_rfl) (fun _ => by kernel_rfl) (fun _ => trivial) (fun _ => ?_)
    refine J_seq ?_
    refine JR_begin mixed [(0, true), (1, true), (2, true), (3, true), (4, true), (5, false)] [] (by kernel_rfl) (by kernel_rfl) ?_
    refine JR_run (id := 4) (rest := [(5, false)]) [.rd 0 [] 0 0, .rd 1 [] 0 0, .rd 2 [] 0 0, .rd 3 [] 0 2, .rd 4 [.r 0 (some (.int .i64 x))] 0 0] [0, 1, 4, 5, 7, 8, 11, 15] (E1 := fun _ => [(0, .val (.slice (some (⟨b1, off1, none⟩)) xs.length c)), (1, .val (.func (.func 92) #[] #[])), (4, .val (.int .i64 0)), (5, .val (.int .i64 i)), (7, .val (.int .i64 (↑xs.length : Int))), (8, .val (.int .i64 i)), (11, .val (.func (.func 92) #[] #[])), (15, .val (.int .i64 x))]) (h1 := fun _ => []) (p1 := fun _ => [(0 : Int) ≤ i, i < (↑xs.length : Int), cs1[off1 + i.toNat * (1 : Nat)]? = some (Value.int IntKind.i64 x)]) (W1 := []) (fun _ => by kernel_rfl) (fun _ => ⟨hi0, hlt2, hrd1_0, trivial⟩) (fun _ => ?_)
    refine JR_callp [] 92 #[.int .i64 x] (some 16) (by kernel_rfl) (fun w S hG => ?_)
    refine (check1 (S := S)).mono ?_
    rintro e w2 hR
    refine ⟨_, _, _, hR, ?_⟩
    try simp only [List.cons_append, List.nil_append, List.append_nil]
    refine JR_end ?_
    refine J_cond (t := badT x) (by kernel_rfl) (by kernel_rfl) (fun hb => ?_) (fun hb => ?_)
    · refine J_seq ?_
      refine J_reg mixed [.rd 0 [] 0 0, .rd 1 [] 0 0] [] [0, 1, 4, 5, 7, 8, 11, 15] (E1 := fun _ => [(0, .val (.slice (some (⟨b1, off1, none⟩)) xs.length c)), (1, .val (.func (.func 92) #[] #[])), (4, .val (.int .i64 i)), (5, .val (.int .i64 i)), (7, .val (.int .i64 (↑xs.length : Int))), (8, .val (.int .i64 i)), (11, .val (.func (.func 92) #[] #[])), (15, .val (.int .i64 x))]) (h1 := fun _ => []) (p1 := fun _ => []) (W1 := []) (by kernel_rfl) (fun _ => by kernel_rfl) (fun _ => trivial) (fun _ => ?_)
      refine J_return [[]] (.int .i64 i) (by kernel_rfl) (fun a w s => ?_)
      refine ⟨_, s.ret (by simp) [] [] rfl rfl, ?_⟩
      rw [List.any_eq_true.2 ⟨x, List.mem_of_getElem? hx, hb⟩]
      simpa using hi0
    · refine J_skip ?_
      refine J_eb ?_
      refine J_reg mixed [.rd 0 [] 0 1, .rd 1 [] 0 0] [] [0, 1, 4, 5, 7, 8, 11, 15] (E1 := fun _ => [(0, .val (.slice (some (⟨b1, off1, none⟩)) xs.length c)), (1, .val (.func (.func 92) #[] #[])), (4, .val (.int .i64 0)), (5, .val (.int .i64 i)), (7, .val (.int .i64 (↑xs.length : Int))), (8, .val (.int .i64 (i + 1))), (11, .val (.func (.func 92) #[] #[])), (15, .val (.int .i64 x))]) (h1 := fun _ => []) (p1 := fun _ => [IntKind.i64.wrap (i + (1 : Int)) = i + (1 : Int)]) (W1 := []) (by kernel_rfl) (fun _ => by kernel_rfl) (fun _ => ⟨wrap_i64 (by omega) (by omega), trivial⟩) (fun _ => ?_)
      refine J_backx (i + 1) [0, 1, 4, 7, 8] [] [] [0] ?_ ?_ (by kernel_rfl) rfl rfl rfl
      · refine ⟨by omega, by omega, fun j hj t ht => ?_⟩
        by_cases hji : j = i.toNat
        · subst hji
          rw [hx] at ht
          cases ht
          exact hb
        · exact hno j (by omega) t ht
      · omega
  · refine J_exit rfl ?_
    refine J_seq ?_
    refine J_reg mixed [.rd 0 [] 0 0] [] [4] (E1 := fun _ => [(4, .val (.int .i64 (-1)))]) (h1 := fun _ => []) (p1 := fun _ => []) (W1 := []) (by kernel_rfl) (fun _ => by kernel_rfl) (fun _ => trivial) (fun _ => ?_)
    refine J_return [[]] (.int .i64 (-1)) (by kernel_rfl) (fun a w s => ?_)
    refine ⟨_, s.ret (by simp) [] [] rfl rfl, ?_⟩
    have e : xs.any badT = false := by
      rw [List.any_eq_false]
      intro t ht
      obtain ⟨j, hj⟩ := List.getElem?_of_mem ht
      have hjl := (List.getElem?_eq_some_iff.1 hj).1
      simp [hno j (by simp at hlt; omega) t hj]
    rw [e]
    decide
theorem containsBad {w : World} {S : Nat → Prop} {a : Option Addr} {n c : Nat} {xs : List Int} (h : Rep w S (.slice a n c) (dInts xs)) (hl : xs.length ≤ 1000000) :
    Calls Tryz.prog 91 #[.slice a n c, .func (.func 92) #[] #[]] w fun e w' => Ret [] w S w' e (.bool (xs.any badT)) [] [] := by
  refine ep91 (args := [.slice a n c, .func (.func 92) #[] #[]]) (G := [(_, dInts xs)]) (by kernel_rfl) (.cons h (.nil _ _)) ?_
  refine J_seq ?_
  refine J_reg mixed [.rd 0 [] 0 0] [] [0, 1, 4] (E1 := fun _ => [(0, .val (.slice a n c)), (1, .val (.func (.func 92) #[] #[])), (4, .val (.bool false))]) (h1 := fun _ => []) (p1 := fun _ => []) (W1 := []) (by kernel_rfl) (fun _ => by kernel_rfl) (fun _ => trivial) (fun _ => ?_)
  refine J_seq ?_
  refine JR_begin mixed [(0, true), (1, true), (2, false), (3, true), (4, true)] [] (by kernel_rfl) (by kernel_rfl) ?_
  refine JR_run (id := 1) (rest := [(2, false), (3, true), (4, true)]) [.rd 0 [] 0 0, .rd 1 [] 0 0] [4, 5, 6] (E1 := fun _ => [(4, .val (.bool false)), (5, .val (.slice a n c)), (6, .val (.func (.func 92) #[] #[]))]) (h1 := fun _ => []) (p1 := fun _ => []) (W1 := []) (fun _ => by kernel_rfl) (fun _ => trivial) (fun _ => ?_)
  refine JR_callp [] 121 #[.slice a n c, .func (.func 92) #[] #[]] (some 7) (by kernel_rfl) (fun w S hG => ?_)
  refine (indexBad (hG.at 0 rfl) hl).mono ?_
  rintro e w2 ⟨r, hR, hr⟩
  refine ⟨_, _, _, hR, ?_⟩
  try simp only [List.cons_append, List.nil_append, List.append_nil]
  refine JR_run (id := 1) (rest := []) [.rd 3 [] 0 0, .rd 4 [] 0 0] [4] (E1 := fun _ => [(4, .val (.bool (decide (r ≥ 0))))]) (h1 := fun _ => []) (p1 := fun _ => []) (W1 := []) (fun _ => by kernel_rfl) (fun _ => trivial) (fun _ => ?_)
  refine JR_end ?_
  refine J_return [[]] (.bool (decide (r ≥ 0))) (by kernel_rfl) (fun a w s => ?_)
  rw [← hr]
  exact s.ret (by simp) [] [] rfl rfl
theorem vcheck {w : World} {S : Nat → Prop} {er : Nat → Addr} {a : Option Addr} {n c : Nat} {xs : List Int} (hE : AllG w S (globs er)) (h : Rep w S (.slice a n c) (dInts xs)) (hl : xs.length ≤ 1000000) :
    Calls Tryz.prog 59 #[.slice a n c] w fun e w' => ∃ v, Ret [] w S w' e v [] [] ∧ ErrIs 243 er (vecErr xs) v := by
  obtain rfl := rep_ints_len h
  refine ep59 (args := [.slice a xs.length c]) (G := globs er ++ [(_, dInts xs)]) (by kernel_rfl) (hE.app (.cons h (.nil _ _))) ?_
  refine J_glob 1 rfl (fun csg1 tyg1 fzg1 hglob1 => ?_)
  refine J_glob 2 rfl (fun csg2 tyg2 fzg2 hglob2 => ?_)
  try simp only [List.cons_append, List.nil_append, List.append_nil]
  refine J_seq ?_
  refine J_reg mixed [.rd 0 [] 0 0] [] [0, 2] (E1 := fun _ => [(0, .val (.slice a xs.length c)), (2, .val (.nilIface))]) (h1 := fun _ => []) (p1 := fun _ => []) (W1 := []) (by kernel_rfl) (fun _ => by kernel_rfl) (fun _ => trivial) (fun _ => ?_)
  refine J_seq ?_
  refine J_seq ?_
  refine J_reg mixed [.rd 0 [] 0 0, .rd 1 [] 0 0, .rd 2 [] 0 0, .rd 3 [] 0 0, .rd 4 [] 2 0, .rd 5 [] 2 0, .rd 6 [] 2 0, .rd 7 [] 0 3] [] [0, 2, 10] (E1 := fun _ => [(0, .val (.slice a xs.length c)), (2, .val (.nilIface)), (10, .val (.bool (decide ((↑xs.length : Int) < 1) || decide ((↑xs.length : Int) > 6))))]) (h1 := fun _ => []) (p1 := fun _ => []) (W1 := []) (by kernel_rfl) (fun _ => by kernel_rfl) (fun _ => trivial) (fun _ => ?_)
  refine J_cond (t := decide ((↑xs.length : Int) < 1) || decide ((↑xs.length : Int) > 6)) (by kernel_rfl) (by kernel_rfl) (fun hn => ?_) (fun hn => ?_)
  · refine J_seq ?_
    refine J_reg mixed [.rd 0 [.r 1 (some (.iface 243 (.pointer (some (er 3)))))] 0 0, .rd 1 [] 0 0] [] [0, 2] (E1 := fun _ => [(0, .val (.slice a xs.length c)), (2, .val (.iface 243 (.pointer (some (er 3)))))]) (h1 := fun _ => []) (p1 := fun _ => [csg2[(0 : Nat)]? = some (Value.iface (243 : Nat) (Value.pointer (some (er (3 : Nat)))))]) (W1 := []) (by kernel_rfl) (fun _ => by kernel_rfl) (fun _ => ⟨hglob2, trivial⟩) (fun _ => ?_)
    refine J_return [[]] (.iface 243 (.pointer (some (er 3)))) (by kernel_rfl) (fun a w s => ?_)
    refine ⟨_, s.ret (by simp) [] [] rfl rfl, .inr ⟨?_, ?_⟩⟩ <;> rw [vecErr, if_pos (by simp at hn; omega)]
    · decide
  · have hn2 : ¬ (xs.length < 1 ∨ 6 < xs.length) := by simp at hn; omega
    refine J_skip ?_
    refine J_seq ?_
    refine J_seq ?_
    refine JR_begin mixed [(0, true), (1, false)] [] (by kernel_rfl) (by kernel_rfl) ?_
    refine JR_run (id := 3) (rest := [(1, false)]) [.rd 0 [] 0 0] [2, 12] (E1 := fun _ => [(2, .val (.nilIface)), (12, .val (.slice a xs.length c))]) (h1 := fun _ => []) (p1 := fun _ => []) (W1 := []) (fun _ => by kernel_rfl) (fun _ => trivial) (fun _ => ?_)
    refine JR_callp [] 91 #[.slice a xs.length c, .func (.func 92) #[] #[]] (some 13) (by kernel_rfl) (fun w S hG => ?_)
    refine (containsBad (hG.at 3 rfl) hl).mono ?_
    rintro e w2 hR
    refine ⟨_, _, _, hR, ?_⟩
    try simp only [List.cons_append, List.nil_append, List.append_nil]
    refine JR_end ?_
    refine J_cond (t := xs.any badT) (by kernel_rfl) (by kernel_rfl) (fun hb => ?_) (fun hb => ?_)
    · refine J_seq ?_
      refine J_reg mixed [.rd 0 [.r 0 (some (.iface 243 (.pointer (some (er 2)))))] 0 0, .rd 1 [] 0 0] [] [2] (E1 := fun _ => [(2, .val (.iface 243 (.pointer (some (er 2)))))]) (h1 := fun _ => []) (p1 := fun _ => [csg1[(0 : Nat)]? = some (Value.iface (243 : Nat) (Value.pointer (some (er (2 : Nat)))))]) (W1 := []) (by kernel_rfl) (fun _ => by kernel_rfl) (fun _ => ⟨hglob1, trivial⟩) (fun _ => ?_)
      refine J_return [[]] (.iface 243 (.pointer (some (er 2)))) (by kernel_rfl) (fun a w s => ?_)
      refine ⟨_, s.ret (by simp) [] [] rfl rfl, .inr ⟨?_, ?_⟩⟩ <;> rw [vecErr, if_neg hn2, if_pos hb]
      · decide
    · refine J_skip ?_
      refine J_seq ?_
      refine J_reg mixed [.rd 0 [] 0 0] [] [2] (E1 := fun _ => [(2, .val (.nilIface))]) (h1 := fun _ => []) (p1 := fun _ => []) (W1 := []) (by kernel_rfl) (fun _ => by kernel_rfl) (fun _ => trivial) (fun _ => ?_)
      refine J_return [[]] (.nilIface) (by kernel_rfl) (fun a w s => ?_)
      exact ⟨_, s.ret (by simp) [] [] rfl rfl, .inl ⟨by rw [vecErr, if_neg hn2, hb]; rfl, rfl⟩⟩
end Go.Proofs.YtpjkiomccpjboaaGreatDoor
end
section
namespace Go.Proofs.YtpjkiomccpjboaaGreatDoor
open Go Go.Sx
theorem vecErr_len {xs : List Int} (h : vecErr xs = 0) : 1 ≤ xs.length ∧ xs.length ≤ 6 := by
  unfold vecErr at h
  split at h
  · cases h
  · omega
theorem vecErr_in {xs : List Int} (h : vecErr xs = 0) : ∀ t ∈ xs, 0 ≤ t ∧ t ≤ 1099511627776 := by
  unfold vecErr at h
  split at h
  · cases h
  · split at h
    · cases h
    · rename_i hb
      intro t ht
      simp only [Bool.not_eq_true, List.any_eq_false] at hb
      have := hb t ht
      simp [badT] at this
      omega
end Go.Proofs.YtpjkiomccpjboaaGreatDoor
end
section
namespace Go.Proofs.YtpjkiomccpjboaaGreatDoor
open Go Go.Sx
def sumL (xs : List Int) : Int := xs.foldl (· + ·) 0
theorem sumL_snoc (xs : List Int) (x : Int) : sumL (xs ++ [x]) = sumL xs + x := by simp [sumL]
theorem sumL_le {xs : List Int} (h : ∀ t ∈ xs, 0 ≤ t ∧ t ≤ 1099511627776) (i : Nat) : 0 ≤ sumL (xs.take i) ∧ sumL (xs.take i) ≤ 1099511627776 * i := by
  induction i with
  | zero => simp [sumL]
  | succ i ih =>
    cases hx : xs[i]? with
    | none =>
      rw [List.take_add_one, hx]
      simp only [Option.toList_none, List.append_nil]
      omega
    | some x =>
      rw [List.take_add_one, hx]
      have := h x (List.mem_of_getElem? hx)
      simp only [Option.toList_some, sumL_snoc]
      omega
theorem vweight {w : World} {S : Nat → Prop} {er : Nat → Addr} {a : Option Addr} {n c : Nat} {xs : List Int} (hE : AllG w S (globs er)) (ha : Rep w S (.slice a n c) (dInts xs)) (hl : xs.length ≤ 1000000) :
    Calls Tryz.prog 94 #[.slice a n c] w fun e w' =>
      (vecErr xs ≠ 0 ∧ Ret [] w S w' e (.tuple #[.int .i64 0, errV 243 er (vecErr xs)]) [] []) ∨
      (vecErr xs = 0 ∧ Ret [] w S w' e (.tuple #[.int .i64 (sumL xs), .nilIface]) [] []) := by
  obtain rfl := rep_ints_len ha
  refine ep94 (args := [.slice a xs.length c]) (G := globs er ++ [(_, dInts xs)]) (by kernel_rfl) (hE.app (.cons ha (.nil _ _))) ?_
  try simp only [List.cons_append, List.nil_append, List.append_nil]
  refine J_seq ?_
  refine J_reg mixed [.rd 0 [] 0 0, .rd 1 [] 0 0] [] [0, 2, 3] (E1 := fun _ => [(0, .val (.slice a xs.length c)), (2, .val (.int .i64 0)), (3, .val (.nilIface))]) (h1 := fun _ => []) (p1 := fun _ => []) (W1 := []) (by kernel_rfl) (fun _ => by kernel_rfl) (fun _ => trivial) (fun _ => ?_)
  refine J_seq ?_
  refine J_seq ?_
  refine JR_begin mixed [(0, true), (1, false), (2, true)] [] (by kernel_rfl) (by kernel_rfl) ?_
  refine JR_run (id := 1) (rest := [(1, false), (2, true)]) [.rd 0 [] 0 0] [0, 2, 3, 8] (E1 := fun _ => [(0, .val (.slice a xs.length c)), (2, .val (.int .i64 0)), (3, .val (.nilIface)), (8, .val (.slice a xs.length c))]) (h1 := fun _ => []) (p1 := fun _ => []) (W1 := []) (fun _ => by kernel_rfl) (fun _ => trivial) (fun _ => ?_)
  refine JR_callp [] 59 #[.slice a xs.length c] (some 9) (by kernel_rfl) (fun w S hG => ?_)
  refine (vcheck (hG.pick [0, 1, 2] rfl) (hG.at 3 rfl) hl).mono ?_
  rintro e w2 ⟨v, hR, ⟨h2, rfl⟩ | ⟨h2, rfl⟩⟩
  · refine ⟨_, _, _, hR, ?_⟩
    have h6 := vecErr_len h2
    try simp only [List.cons_append, List.nil_append, List.append_nil]
    refine JR_run (id := 1) (rest := []) [.rd 2 [] 0 0] [0, 2, 3, 4] (E1 := fun _ => [(0, .val (.slice a xs.length c)), (2, .val (.int .i64 0)), (3, .val (.nilIface)), (4, .val (.nilIface))]) (h1 := fun _ => []) (p1 := fun _ => []) (W1 := []) (fun _ => by kernel_rfl) (fun _ => trivial) (fun _ => ?_)
    refine JR_end ?_
    refine J_seq ?_
    refine J_reg mixed [.rd 0 [] 0 0, .rd 1 [] 0 0] [] [0, 2, 3, 4, 11] (E1 := fun _ => [(0, .val (.slice a xs.length c)), (2, .val (.int .i64 0)), (3, .val (.nilIface)), (4, .val (.nilIface)), (11, .val (.bool false))]) (h1 := fun _ => []) (p1 := fun _ => []) (W1 := []) (by kernel_rfl) (fun _ => by kernel_rfl) (fun _ => trivial) (fun _ => ?_)
    refine J_cond_f (by kernel_rfl) (by kernel_rfl) ?_
    refine J_skip ?_
    refine J_seq ?_
    refine J_reg mixed [.rd 0 [] 0 0] [] [0, 2, 3, 5] (E1 := fun _ => [(0, .val (.slice a xs.length c)), (2, .val (.int .i64 0)), (3, .val (.nilIface)), (5, .val (.int .i64 0))]) (h1 := fun _ => []) (p1 := fun _ => []) (W1 := []) (by kernel_rfl) (fun _ => by kernel_rfl) (fun _ => trivial) (fun _ => ?_)
    refine J_seq ?_
    refine J_seq ?_
    refine J_reg mixed [.rd 0 [] 0 0, .rd 1 [] 0 0, .rd 2 [] 0 0] [] [2, 3, 5, 13, 14, 15] (E1 := fun _ => [(2, .val (.int .i64 0)), (3, .val (.nilIface)), (5, .val (.int .i64 0)), (13, .val (.slice a xs.length c)), (14, .val (.int .i64 (↑xs.length : Int))), (15, .val (.int .i64 0))]) (h1 := fun _ => []) (p1 := fun _ => []) (W1 := []) (by kernel_rfl) (fun _ => by kernel_rfl) (fun _ => trivial) (fun _ => ?_)
    refine J_block ?_
    refine J_loopx (fun i : Int => [(2, .val (.int .i64 0)), (3, .val (.nilIface)), (5, .val (.int .i64 (sumL (xs.take i.toNat)))), (13, .val (.slice a xs.length c)), (14, .val (.int .i64 (↑xs.length : Int))), (15, .val (.int .i64 i))]) (fun i : Int => []) (fun i : Int => []) (fun i : Int => [(.nilIface, (D.v Value.nilIface)), (.pointer (some (⟨0, 0, none⟩)), (D.ptr [D.v (Value.iface 243 (Value.pointer (some (er 2))))])), (.pointer (some (⟨3, 0, none⟩)), (D.ptr [D.v (Value.iface 243 (Value.pointer (some (er 3))))])), (.slice a xs.length c, (dInts xs))]) (fun i : Int => (xs.length - i).toNat) (fun i : Int => (0 ≤ i ∧ i ≤ xs.length)) 0 [2, 3, 5, 13, 14, 15] [] [] [0, 1, 2, 3] ?_ (by kernel_rfl) rfl rfl rfl ?_
    · exact ⟨by simp, by omega⟩
    rintro i ⟨hi0, hi⟩
    refine J_seq ?_
    refine J_reg mixed [.rd 0 [] 0 0] [] [2, 3, 5, 13, 14, 15, 16] (E1 := fun _ => [(2, .val (.int .i64 0)), (3, .val (.nilIface)), (5, .val (.int .i64 (sumL (List.take i.toNat xs)))), (13, .val (.slice a xs.length c)), (14, .val (.int .i64 (↑xs.length : Int))), (15, .val (.int .i64 i)), (16, .val (.bool (decide (i < (↑xs.length : Int)))))]) (h1 := fun _ => []) (p1 := fun _ => []) (W1 := []) (by kernel_rfl) (fun _ => by kernel_rfl) (fun _ => trivial) (fun _ => ?_)
    refine J_seq ?_
    refine J_cond (t := decide (i < (↑xs.length : Int))) (by kernel_rfl) (by kernel_rfl) (fun hlt => ?_) (fun hlt => ?_)
    · have hlt2 : i < xs.length := by simpa using hlt
      obtain ⟨x, hx⟩ : ∃ x, xs[i.toNat]? = some x := ⟨_, List.getElem?_eq_getElem (by omega)⟩
      have hs := sumL_le (vecErr_in h2) i.toNat
      have hs2 := vecErr_in h2 x (List.mem_of_getElem? hx)
      refine J_read0 3 rfl i.toNat (map_at hx) (by kernel_rfl) (fun b1 off1 cs1 ty1 fz1 ha1 hrd1 => ?_)
      cases ha1
      have hrd1_0 := rd0 (hrd1 0 _ rfl)
      try simp only [List.cons_append, List.nil_append, List.append_nil]
      refine J_skip ?_
      refine J_seq ?_
      refine J_block ?_
      refine J_seq ?_
      refine J_reg mixed [.rd 0 [] 0 2, .rd 1 [.r 0 (some (.int .i64 x))] 0 0, .rd 2 [] 0 0] [] [2, 3, 5, 7, 13, 14, 15] (E1 := fun _ => [(2, .val (.int .i64 0)), (3, .val (.nilIface)), (5, .val (.int .i64 (sumL (List.take i.toNat xs)))), (7, .val (.int .i64 x)), (13, .val (.slice (some (⟨b1, off1, none⟩)) xs.length c)), (14, .val (.int .i64 (↑xs.length : Int))), (15, .val (.int .i64 i))]) (h1 := fun _ => []) (p1 := fun _ => [(0 : Int) ≤ i, i < (↑xs.length : Int), cs1[off1 + i.toNat * (1 : Nat)]? = some (Value.int IntKind.i64 x)]) (W1 := []) (by kernel_rfl) (fun _ => by kernel_rfl) (fun _ => ⟨hi0, hlt2, hrd1_0, trivial⟩) (fun _ => ?_)
      refine J_reg mixed [.rd 0 [] 0 0, .rd 1 [] 0 0, .rd 2 [] 0 1, .rd 3 [] 0 0] [] [2, 3, 5, 7, 13, 14, 15] (E1 := fun _ => [(2, .val (.int .i64 0)), (3, .val (.nilIface)), (5, .val (.int .i64 (sumL (List.take i.toNat xs) + x))), (7, .val (.int .i64 x)), (13, .val (.slice (some (⟨b1, off1, none⟩)) xs.length c)), (14, .val (.int .i64 (↑xs.length : Int))), (15, .val (.int .i64 i))]) (h1 := fun _ => []) (p1 := fun _ => [IntKind.i64.wrap (sumL (List.take i.toNat xs) + x) = sumL (List.take i.toNat xs) + x]) (W1 := []) (by kernel_rfl) (fun _ => by kernel_rfl) (fun _ => ⟨wrap_i64 (by omega) (by omega), trivial⟩) (fun _ => ?_)
      refine J_eb ?_
      refine J_reg mixed [.rd 0 [] 0 1, .rd 1 [] 0 0] [] [2, 3, 5, 7, 13, 14, 15] (E1 := fun _ => [(2, .val (.int .i64 0)), (3, .val (.nilIface)), (5, .val (.int .i64 (sumL (List.take i.toNat xs) + x))), (7, .val (.int .i64 x)), (13, .val (.slice (some (⟨b1, off1, none⟩)) xs.length c)), (14, .val (.int .i64 (↑xs.length : Int))), (15, .val (.int .i64 (i + 1)))]) (h1 := fun _ => []) (p1 := fun _ => [IntKind.i64.wrap (i + (1 : Int)) = i + (1 : Int)]) (W1 := []) (by kernel_rfl) (fun _ => by kernel_rfl) (fun _ => ⟨wrap_i64 (by omega) (by omega), trivial⟩) (fun _ => ?_)
      rw [← sumL_snoc, take_snoc hi0 hx]
      refine J_backx (i + 1) [2, 3, 5, 13, 14, 15] [] [] [0, 1, 2, 3] ?_ ?_ (by kernel_rfl) rfl rfl rfl
      · exact ⟨by omega, by omega⟩
      · omega
    · have e : xs.take i.toNat = xs := List.take_of_length_le (by simp at hlt; omega)
      refine J_exit rfl ?_
      refine J_seq ?_
      refine J_reg mixed [.rd 0 [] 0 0, .rd 1 [] 0 0, .rd 2 [] 0 0] [] [2, 3] (E1 := fun _ => [(2, .val (.int .i64 (sumL (List.take i.toNat xs)))), (3, .val (.nilIface))]) (h1 := fun _ => []) (p1 := fun _ => []) (W1 := []) (by kernel_rfl) (fun _ => by kernel_rfl) (fun _ => trivial) (fun _ => ?_)
      refine J_return [[], []] (.tuple #[.int .i64 (sumL (List.take i.toNat xs)), .nilIface]) (by kernel_rfl) (fun a w s => ?_)
      rw [e]
      exact .inr ⟨h2, s.ret (by simp) [] [] rfl rfl⟩
  · refine ⟨_, _, _, hR, ?_⟩
    try simp only [List.cons_append, List.nil_append, List.append_nil]
    refine JR_run (id := 1) (rest := []) [.rd 2 [] 0 0] [0, 2, 3, 4] (E1 := fun _ => [(0, .val (.slice a xs.length c)), (2, .val (.int .i64 0)), (3, .val (.nilIface)), (4, .val (.iface 243 (.pointer (some (er (vecErr xs))))))]) (h1 := fun _ => []) (p1 := fun _ => []) (W1 := []) (fun _ => by kernel_rfl) (fun _ => trivial) (fun _ => ?_)
    refine JR_end ?_
    refine J_seq ?_
    refine J_reg mixed [.rd 0 [] 0 0, .rd 1 [] 0 0] [] [0, 2, 3, 4, 11] (E1 := fun _ => [(0, .val (.slice a xs.length c)), (2, .val (.int .i64 0)), (3, .val (.nilIface)), (4, .val (.iface 243 (.pointer (some (er (vecErr xs)))))), (11, .val (.bool true))]) (h1 := fun _ => []) (p1 := fun _ => []) (W1 := []) (by kernel_rfl) (fun _ => by kernel_rfl) (fun _ => trivial) (fun _ => ?_)
    refine J_cond_t (by kernel_rfl) (by kernel_rfl) ?_
    refine J_seq ?_
    refine J_reg mixed [.rd 0 [] 0 0, .rd 1 [] 0 0, .rd 2 [] 0 0] [] [0, 2, 3] (E1 := fun _ => [(0, .val (.slice a xs.length c)), (2, .val (.int .i64 0)), (3, .val (.iface 243 (.pointer (some (er (vecErr xs))))))]) (h1 := fun _ => []) (p1 := fun _ => []) (W1 := []) (by kernel_rfl) (fun _ => by kernel_rfl) (fun _ => trivial) (fun _ => ?_)
    refine J_return [[], []] (.tuple #[.int .i64 0, .iface 243 (.pointer (some (er (vecErr xs))))]) (by kernel_rfl) (fun a w s => ?_)
    exact .inl ⟨h2, s.ret (by simp) [] [] rfl rfl⟩
end Go.Proofs.YtpjkiomccpjboaaGreatDoor
end
section
namespace Go.Proofs.YtpjkiomccpjboaaGreatDoor.Er
open Go Go.RowKit Go.Extern.Stop Go.Stop Go.Extern
theorem isTypeOf (v : Value) (w : World) : (Extern.ReflectliteType.typeOf #[.iface 243 v]).run Tryz.prog w = .ok (.iface 204 (.agg #[.pointer (some ⟨13, 243, none⟩)])) w := by kernel_rfl
theorem noUnwrapE (v : Value) (xT : TypeId) (w : World) : (Instr.typeAssert (.iface 243 v) xT 211 true).run Tryz.prog w = .ok (.tuple #[.nilIface, .bool false]) w := run_typeAssert_lacksB Tryz.underlying211 (by kernel_rfl) (by kernel_rfl) v xT w
theorem noUnwrapsE (v : Value) (xT : TypeId) (w : World) : (Instr.typeAssert (.iface 243 v) xT 213 true).run Tryz.prog w = .ok (.tuple #[.nilIface, .bool false]) w := run_typeAssert_lacksB Tryz.underlying213 (by kernel_rfl) (by kernel_rfl) v xT w
theorem noAsE (v : Value) (xT : TypeId) (w : World) : (Instr.typeAssert (.iface 243 v) xT 208 true).run Tryz.prog w = .ok (.tuple #[.nilIface, .bool false]) w := run_typeAssert_lacksB Tryz.underlying208 (by kernel_rfl) (by kernel_rfl) v xT w
theorem valueOfFF (t : Addr) (w : World) : (ReflectliteValue.unpack (.iface 143 (.pointer (some t)))).run Tryz.prog w
    = .ok (.agg #[.pointer (some ⟨13, 143, none⟩), .pointer (some ⟨w.heap.size, 0, none⟩), .int .u64 150]) (w.alloc (.cells #[.pointer (some t)] 143)) := by kernel_rfl
theorem typeFF (a : Addr) (w : World) : (ReflectliteValue.methodAny (ReflectliteValue.valueError "reflectlite.Value.Type" 0) (fun t _ _ _ => ReflectliteType.toType t) #[.agg #[.pointer (some ⟨13, 143, none⟩), .pointer (some a), .int .u64 150]]).run Tryz.prog w
    = .ok (.iface 204 (.agg #[.pointer (some ⟨13, 143, none⟩)])) w := by kernel_rfl
theorem methodKind (h : Value) (w : World) : (Go.method 376 204 (.agg #[h]) "Kind").run Tryz.prog w = .ok (184, h) w := by kernel_rfl
theorem kindFF (w : World) : ((ReflectliteType.abiMethod fun t => (fun a : Nat => Value.int IntKind.u8 (a : Int)) <$> Rtype.kind t) #[.pointer (some ⟨13, 143, none⟩)]).run Tryz.prog w = .ok (.int .u8 22) w := by kernel_rfl
theorem kindF (w : World) : ((ReflectliteType.abiMethod fun t => (fun a : Nat => Value.int IntKind.u8 (a : Int)) <$> Rtype.kind t) #[.pointer (some ⟨13, 102, none⟩)]).run Tryz.prog w = .ok (.int .u8 22) w := by kernel_rfl
theorem rlm (z : Sem Value) (f : TypeId → Addr → Nat → Nat → Sem Value) (v : Value) :
    ReflectliteValue.method z f #[v] = (do match ← ReflectliteValue.parts v with | none => z | some (t, a, fl) => f t a fl (fl % 32)) := rfl
theorem partsFF (a : Addr) (w : World) : (ReflectliteValue.parts (.agg #[.pointer (some ⟨13, 143, none⟩), .pointer (some a), .int .u64 150])).run Tryz.prog w = .ok (some (143, a, 150)) w := by kernel_rfl
theorem isNilFF (a p : Addr) (W : World) (ha : W.cell? a = some (.pointer (some p))) :
    (ReflectliteValue.method (ReflectliteValue.valueError "reflectlite.Value.IsNil" 0) ReflectliteValue.isNil #[.agg #[.pointer (some ⟨13, 143, none⟩), .pointer (some a), .int .u64 150]]).run Tryz.prog W = .ok (.bool false) W := by
  rw [rlm]
  simp only [Sem.run_bind, partsFF, Result.andThen]
  simp [ReflectliteValue.isNil, loadVar, isAgg, underlying, Tryz.underlying143, ha, Result.andThen]
theorem methodElem (h : Value) (w : World) : (Go.method 376 204 (.agg #[h]) "Elem").run Tryz.prog w = .ok (195, .agg #[h]) w := by kernel_rfl
theorem methodImplements (h : Value) (w : World) : (Go.method 376 204 (.agg #[h]) "Implements").run Tryz.prog w = .ok (196, .agg #[h]) w := by kernel_rfl
theorem methodAssignableTo (h : Value) (w : World) : (Go.method 376 204 (.agg #[h]) "AssignableTo").run Tryz.prog w = .ok (193, .agg #[h]) w := by kernel_rfl
theorem elemFF (w : World) : (ReflectliteType.method ReflectliteType.elem #[.agg #[.pointer (some ⟨13, 143, none⟩)]]).run Tryz.prog w = .ok (.iface 204 (.agg #[.pointer (some ⟨13, 102, none⟩)])) w := by kernel_rfl
theorem implementsF (w : World) : (ReflectliteType.relation "Implements" ReflectliteType.implements_ #[.agg #[.pointer (some ⟨13, 102, none⟩)], .iface 204 (.agg #[.pointer (some ⟨13, 33, none⟩)])]).run Tryz.prog w = .ok (.bool true) w := by kernel_rfl
theorem typeOfF (v : Value) (w : World) : (ReflectliteType.typeOf #[.iface 102 v]).run Tryz.prog w = .ok (.iface 204 (.agg #[.pointer (some ⟨13, 102, none⟩)])) w := by kernel_rfl
theorem assignableF (w : World) : (ReflectliteType.relation "AssignableTo" ReflectliteType.assignableTo #[.agg #[.pointer (some ⟨13, 102, none⟩)], .iface 204 (.agg #[.pointer (some ⟨13, 102, none⟩)])]).run Tryz.prog w = .ok (.bool true) w := by kernel_rfl
theorem assignableT (w : World) : (ReflectliteType.relation "AssignableTo" ReflectliteType.assignableTo #[.agg #[.pointer (some ⟨13, 243, none⟩)], .iface 204 (.agg #[.pointer (some ⟨13, 102, none⟩)])]).run Tryz.prog w = .ok (.bool false) w := by kernel_rfl
theorem valueOfF (e : Addr) (w : World) : (ReflectliteValue.unpack (.iface 102 (.pointer (some e)))).run Tryz.prog w
    = .ok (.agg #[.pointer (some ⟨13, 102, none⟩), .pointer (some ⟨w.heap.size, 0, none⟩), .int .u64 150]) (w.alloc (.cells #[.pointer (some e)] 102)) := by kernel_rfl
theorem elemOfFF (w : World) : (Rtype.elem? 143).run Tryz.prog w = .ok (some 102) w := by kernel_rfl
theorem mkF (p : Addr) (w : World) : (ReflectliteValue.mk 102 p ReflectliteValue.flagAddr).run Tryz.prog w = .ok (.agg #[.pointer (some ⟨13, 102, none⟩), .pointer (some p), .int .u64 406]) w := by kernel_rfl
theorem elemVFF (a p : Addr) (W : World) (ha : W.cell? a = some (.pointer (some p))) :
    (ReflectliteValue.method (ReflectliteValue.valueError "reflectlite.Value.Elem" 0) ReflectliteValue.elem #[.agg #[.pointer (some ⟨13, 143, none⟩), .pointer (some a), .int .u64 150]]).run Tryz.prog W
      = .ok (.agg #[.pointer (some ⟨13, 102, none⟩), .pointer (some p), .int .u64 406]) W := by
  rw [rlm]
  simp only [Sem.run_bind, partsFF, Result.andThen]
  simp [ReflectliteValue.elem, loadVar, isAgg, underlying, Tryz.underlying143, ha, Result.andThen, elemOfFF, mkF]
theorem rls (v x : Value) : ReflectliteValue.set #[v, x] = (do
    let (some (dst, a, fl), some (src, b, _)) := (← ReflectliteValue.parts v, ← ReflectliteValue.parts x)
      | unsupported (.noEntry "extern/(internal/reflectlite.Value).Set.zeroValue")
    if fl / ReflectliteValue.flagAddr % 2 == 0 then unsupported (.noEntry "extern/(internal/reflectlite.Value).Set.unaddressable")
    let val ← loadVar src b
    if ← Rtype.directlyAssignable dst src then storeVar dst a val
    else if ← Rtype.implements dst src then
      if (← Rtype.kind src) == 20 then
        match val with
        | .nilIface => unsupported (.noEntry "extern/reflectlite: a nil value of one interface type handed on as a value of another")
        | _ => storeVar dst a val
      else storeVar dst a (.iface src val)
    else panicString ("reflectlite.Set: value of type " ++ (← Rtype.spelt src) ++ " is not assignable to type " ++ (← Rtype.spelt dst))
    pure (.tuple #[])) := rfl
theorem partsFa (a : Addr) (w : World) : (ReflectliteValue.parts (.agg #[.pointer (some ⟨13, 102, none⟩), .pointer (some a), .int .u64 406])).run Tryz.prog w = .ok (some (102, a, 406)) w := by kernel_rfl
theorem partsF (a : Addr) (w : World) : (ReflectliteValue.parts (.agg #[.pointer (some ⟨13, 102, none⟩), .pointer (some a), .int .u64 150])).run Tryz.prog w = .ok (some (102, a, 150)) w := by kernel_rfl
theorem directF (w : World) : (Rtype.directlyAssignable 102 102).run Tryz.prog w = .ok true w := by kernel_rfl
theorem setF (ta b e : Addr) (old : Value) (W : World) (hb : W.cell? b = some (.pointer (some e))) (ht : W.cell? ta = some old) (hf : W.frozen? ta = false) :
    (ReflectliteValue.set #[.agg #[.pointer (some ⟨13, 102, none⟩), .pointer (some ta), .int .u64 406], .agg #[.pointer (some ⟨13, 102, none⟩), .pointer (some b), .int .u64 150]]).run Tryz.prog W
      = .ok (.tuple #[]) (W.setCell ta (.pointer (some e))) := by
  rw [rls]
  simp only [Sem.run_bind, partsFa, partsF, Result.andThen]
  simp [ReflectliteValue.flagAddr, loadVar, isAgg, underlying, Tryz.underlying102, hb, Result.andThen, directF, storeVar, Value.cells, storeCells, Addr.add]
  rw [run_store Tryz.prog W ta _ _ (by rfl)]
  simp [ht, hf]
theorem cell_lt {w : World} {a : Addr} {v : Value} (h : w.cell? a = some v) : a.block < w.heap.size := by
  rcases Nat.lt_or_ge a.block w.heap.size with h' | h'
  · exact h'
  · simp [World.cell?, Array.getElem?_eq_none h'] at h
set_option maxHeartbeats 4000000 in
theorem as_hit (e t : Addr) (old : Value) (w : World) (hg : w.cell? ⟨12, 0, none⟩ = some (.iface 204 (.agg #[.pointer (some ⟨13, 33, none⟩)]))) (ht0 : w.cell? t = some old) (hf0 : w.frozen? t = false) :
    Calls Tryz.prog 86 #[.iface 102 (.pointer (some e)), .iface 143 (.pointer (some t))] w fun ev w' => ev = .returned (.bool true) ∧ w' = ((((w.alloc (.cells #[.pointer (some t)] 143)).alloc (.cells #[.pointer (some ⟨13, 143, none⟩), .pointer (some ⟨w.heap.size, 0, none⟩), .int .u64 150] 174)).alloc (.cells #[.pointer (some ⟨13, 143, none⟩), .pointer (some ⟨w.heap.size, 0, none⟩), .int .u64 150] 174)).alloc (.cells #[.pointer (some e)] 102)).setCell t (.pointer (some e)) := by
  have h6 := @run_callFunc_extern Tryz.prog 114 _ (fun args => ReflectliteValue.unpack (args.getD 0 (.tuple #[]))) Tryz.func114 (by kernel_rfl) (by kernel_rfl) (by kernel_rfl) (by kernel_rfl)
  have h7 := @run_callFunc_extern Tryz.prog 115 _ (ReflectliteValue.methodAny (ReflectliteValue.valueError "reflectlite.Value.Type" 0) (fun t _ _ _ => ReflectliteType.toType t)) Tryz.func115 (by kernel_rfl) (by kernel_rfl) (by kernel_rfl) (by kernel_rfl)
  have h8 := @run_callFunc_extern Tryz.prog 116 _ (ReflectliteValue.method (ReflectliteValue.valueError "reflectlite.Value.IsNil" 0) ReflectliteValue.isNil) Tryz.func116 (by kernel_rfl) (by kernel_rfl) (by kernel_rfl) (by kernel_rfl)
  have h27 := @run_callFunc_extern Tryz.prog 184 _ (ReflectliteType.abiMethod fun t => do pure (.int .u8 (← Rtype.kind t))) Tryz.func184 (by kernel_rfl) (by kernel_rfl) (by kernel_rfl) (by kernel_rfl)
  have h37 := @run_callFunc_extern Tryz.prog 195 _ (ReflectliteType.method ReflectliteType.elem) Tryz.func195 (by kernel_rfl) (by kernel_rfl) (by kernel_rfl) (by kernel_rfl)
  have h38 := @run_callFunc_extern Tryz.prog 196 _ (ReflectliteType.relation "Implements" ReflectliteType.implements_) Tryz.func196 (by kernel_rfl) (by kernel_rfl) (by kernel_rfl) (by kernel_rfl)
  have h10 := @run_callFunc_extern Tryz.prog 118 _ ReflectliteType.typeOf Tryz.func118 (by kernel_rfl) (by kernel_rfl) (by kernel_rfl) (by kernel_rfl)
  have h35 := @run_callFunc_extern Tryz.prog 193 _ (ReflectliteType.relation "AssignableTo" ReflectliteType.assignableTo) Tryz.func193 (by kernel_rfl) (by kernel_rfl) (by kernel_rfl) (by kernel_rfl)
  have h11 := @run_callFunc_extern Tryz.prog 136 _ (ReflectliteValue.method (ReflectliteValue.valueError "reflectlite.Value.Elem" 0) ReflectliteValue.elem) Tryz.func136 (by kernel_rfl) (by kernel_rfl) (by kernel_rfl) (by kernel_rfl)
  have h12 := @run_callFunc_extern Tryz.prog 137 _ ReflectliteValue.set Tryz.func137 (by kernel_rfl) (by kernel_rfl) (by kernel_rfl) (by kernel_rfl)
  have tO := typeOfF
  have mA := methodAssignableTo
  have a25 := assignableF
  have v25 := valueOfF
  have f6 := valueOfFF
  have f7 := typeFF
  have mK := methodKind
  have mE := methodElem
  have mI := methodImplements
  have k27 := kindFF
  have k25 := kindF
  have e27 := elemFF
  have i25 := implementsF
  have n8 := isNilFF ⟨w.heap.size, 0, none⟩ t ((w.alloc (.cells #[.pointer (some t)] 143)).alloc (.cells #[.pointer (some ⟨13, 143, none⟩), .pointer (some ⟨w.heap.size, 0, none⟩), .int .u64 150] 174)) (by simp)
  have hlt : 12 < w.heap.size := cell_lt hg
  have hg2 : ((w.alloc (.cells #[.pointer (some t)] 143)).alloc (.cells #[.pointer (some ⟨13, 143, none⟩), .pointer (some ⟨w.heap.size, 0, none⟩), .int .u64 150] 174)).cell? ⟨12, 0, none⟩ = some (.iface 204 (.agg #[.pointer (some ⟨13, 33, none⟩)])) := by
    rw [World.cell?_alloc_lt _ _ ⟨12, 0, none⟩ (by simp; omega), World.cell?_alloc_lt _ _ ⟨12, 0, none⟩ hlt]; exact hg
  have htl : t.block < w.heap.size := cell_lt ht0
  have el := elemVFF ⟨w.heap.size, 0, none⟩ t (((w.alloc (.cells #[.pointer (some t)] 143)).alloc (.cells #[.pointer (some ⟨13, 143, none⟩), .pointer (some ⟨w.heap.size, 0, none⟩), .int .u64 150] 174)).alloc (.cells #[.pointer (some ⟨13, 143, none⟩), .pointer (some ⟨w.heap.size, 0, none⟩), .int .u64 150] 174)) (by rw [World.cell?_alloc_lt _ _ _ (by simp; omega), World.cell?_alloc_lt _ _ _ (by simp), World.cell?_alloc_at _ _ _ _ (by simp)]; rfl)
  have st := setF t ⟨w.heap.size + 1 + 1 + 1, 0, none⟩ e old ((((w.alloc (.cells #[.pointer (some t)] 143)).alloc (.cells #[.pointer (some ⟨13, 143, none⟩), .pointer (some ⟨w.heap.size, 0, none⟩), .int .u64 150] 174)).alloc (.cells #[.pointer (some ⟨13, 143, none⟩), .pointer (some ⟨w.heap.size, 0, none⟩), .int .u64 150] 174)).alloc (.cells #[.pointer (some e)] 102))
    (by rw [World.cell?_alloc_at _ _ _ _ (by simp)]; rfl)
    (by rw [World.cell?_alloc_lt _ _ t (by simp; omega), World.cell?_alloc_lt _ _ t (by simp; omega), World.cell?_alloc_lt _ _ t (by simp; omega), World.cell?_alloc_lt _ _ t htl]; exact ht0)
    (by rw [World.frozen?_alloc_old _ _ t (by simp; omega), World.frozen?_alloc_old _ _ t (by simp; omega), World.frozen?_alloc_old _ _ t (by simp; omega), World.frozen?_alloc_old _ _ t (Nat.ne_of_lt htl)]; exact hf0)
  go_enter Tryz.func86, Tryz.ntmps86
  go_wp2
  refine wp_loop_rounds 1 ?_
  rw [rounds_succ]
  go_wp2
  go_ret
  exact ⟨rfl, rfl⟩
set_option maxHeartbeats 4000000 in
theorem as_miss (e t : Addr) (w : World) (hg : w.cell? ⟨12, 0, none⟩ = some (.iface 204 (.agg #[.pointer (some ⟨13, 33, none⟩)]))) :
    Calls Tryz.prog 86 #[.iface 243 (.pointer (some e)), .iface 143 (.pointer (some t))] w fun ev w' => ev = .returned (.bool false) ∧ w' = (((w.alloc (.cells #[.pointer (some t)] 143)).alloc (.cells #[.pointer (some ⟨13, 143, none⟩), .pointer (some ⟨w.heap.size, 0, none⟩), .int .u64 150] 174)).alloc (.cells #[.pointer (some ⟨13, 143, none⟩), .pointer (some ⟨w.heap.size, 0, none⟩), .int .u64 150] 174)) := by
  have h6 := @run_callFunc_extern Tryz.prog 114 _ (fun args => ReflectliteValue.unpack (args.getD 0 (.tuple #[]))) Tryz.func114 (by kernel_rfl) (by kernel_rfl) (by kernel_rfl) (by kernel_rfl)
  have h7 := @run_callFunc_extern Tryz.prog 115 _ (ReflectliteValue.methodAny (ReflectliteValue.valueError "reflectlite.Value.Type" 0) (fun t _ _ _ => ReflectliteType.toType t)) Tryz.func115 (by kernel_rfl) (by kernel_rfl) (by kernel_rfl) (by kernel_rfl)
  have h8 := @run_callFunc_extern Tryz.prog 116 _ (ReflectliteValue.method (ReflectliteValue.valueError "reflectlite.Value.IsNil" 0) ReflectliteValue.isNil) Tryz.func116 (by kernel_rfl) (by kernel_rfl) (by kernel_rfl) (by kernel_rfl)
  have h27 := @run_callFunc_extern Tryz.prog 184 _ (ReflectliteType.abiMethod fun t => do pure (.int .u8 (← Rtype.kind t))) Tryz.func184 (by kernel_rfl) (by kernel_rfl) (by kernel_rfl) (by kernel_rfl)
  have h37 := @run_callFunc_extern Tryz.prog 195 _ (ReflectliteType.method ReflectliteType.elem) Tryz.func195 (by kernel_rfl) (by kernel_rfl) (by kernel_rfl) (by kernel_rfl)
  have h38 := @run_callFunc_extern Tryz.prog 196 _ (ReflectliteType.relation "Implements" ReflectliteType.implements_) Tryz.func196 (by kernel_rfl) (by kernel_rfl) (by kernel_rfl) (by kernel_rfl)
  have h10 := @run_callFunc_extern Tryz.prog 118 _ ReflectliteType.typeOf Tryz.func118 (by kernel_rfl) (by kernel_rfl) (by kernel_rfl) (by kernel_rfl)
  have h35 := @run_callFunc_extern Tryz.prog 193 _ (ReflectliteType.relation "AssignableTo" ReflectliteType.assignableTo) Tryz.func193 (by kernel_rfl) (by kernel_rfl) (by kernel_rfl) (by kernel_rfl)
  have tO := isTypeOf
  have mA := methodAssignableTo
  have a25 := assignableT
  have f6 := valueOfFF
  have f7 := typeFF
  have mK := methodKind
  have mE := methodElem
  have mI := methodImplements
  have k27 := kindFF
  have k25 := kindF
  have e27 := elemFF
  have i25 := implementsF
  have nA := noAsE
  have uE := noUnwrapE
  have vE := noUnwrapsE
  have n8 := isNilFF ⟨w.heap.size, 0, none⟩ t ((w.alloc (.cells #[.pointer (some t)] 143)).alloc (.cells #[.pointer (some ⟨13, 143, none⟩), .pointer (some ⟨w.heap.size, 0, none⟩), .int .u64 150] 174)) (by simp)
  have hlt : 12 < w.heap.size := cell_lt hg
  have hg2 : ((w.alloc (.cells #[.pointer (some t)] 143)).alloc (.cells #[.pointer (some ⟨13, 143, none⟩), .pointer (some ⟨w.heap.size, 0, none⟩), .int .u64 150] 174)).cell? ⟨12, 0, none⟩ = some (.iface 204 (.agg #[.pointer (some ⟨13, 33, none⟩)])) := by
    rw [World.cell?_alloc_lt _ _ ⟨12, 0, none⟩ (by simp; omega), World.cell?_alloc_lt _ _ ⟨12, 0, none⟩ hlt]; exact hg
  go_enter Tryz.func86, Tryz.ntmps86
  go_wp2
  refine wp_loop_rounds 1 ?_
  rw [rounds_succ]
  go_wp2
  go_ret
  exact ⟨rfl, rfl⟩
end Go.Proofs.YtpjkiomccpjboaaGreatDoor.Er
end
section
namespace Go.Proofs.YtpjkiomccpjboaaGreatDoor
open Go Go.Sx
abbrev eO (er : Nat → Addr) (eb : Nat → Array Value × TypeId) (k : Nat) : Value × D := (.pointer (some (er k)), .obj (.cells (eb k).1 (eb k).2 (0, 0)))
def cglobs (er : Nat → Addr) (eb : Nat → Array Value × TypeId) : List (Value × D) := [dE 243 er 0 2, dE 243 er 0 2, dE 243 er 3 3, dE 243 er 1 4, dE 243 er 0 2, dE 243 er 0 2, dE 243 er 0 2, dE 243 er 0 2, dE 243 er 0 2, dE 243 er 0 2, dE 243 er 0 2, dE 243 er 2 12, (.pointer (some ⟨12, 0, none⟩), .ptr [.v (.iface 204 (.agg #[.pointer (some ⟨13, 33, none⟩)]))]), eO er eb 2, eO er eb 2, eO er eb 3, eO er eb 4, eO er eb 2, eO er eb 2, eO er eb 2, eO er eb 2, eO er eb 2, eO er eb 2, eO er eb 2, eO er eb 12]
abbrev dC (er : Nat → Addr) (eb : Nat → Array Value × TypeId) : D := .all (cglobs er eb)
theorem globs_of {w : World} {S : Nat → Prop} {er : Nat → Addr} {eb : Nat → Array Value × TypeId} (h : Rep w S .nilIface (dC er eb)) : AllG w S (globs er) :=
  .cons (.v rfl) (.cons (h.part _ (List.mem_of_getElem? (i := 1) rfl)) (.cons (h.part _ (List.mem_of_getElem? (i := 2) rfl)) (.nil _ _)))
theorem blk_of {w : World} {S : Nat → Prop} {a : Addr} {o : Obj} (h : Rep w S (.pointer (some a)) (.obj o)) : w.heap[a.block]? = some o := by
  cases h with
  | obj hb => exact hb
theorem var_of {w : World} {S : Nat → Prop} {g : Nat} {v : Value} (h : Rep w S (.pointer (some ⟨g, 0, none⟩)) (.ptr [.v v])) : w.cell? ⟨g, 0, none⟩ = some v := by
  cases h with
  | ptr u hb hS hcell hrep =>
    have h1 := (hrep 0 _ rfl).plain
    have h2 := hcell 0 (by simp)
    rw [h1] at h2
    simpa [World.cell?, hb] using h2
theorem asMiss {w : World} {S : Nat → Prop} {a t : Addr} {er : Nat → Addr} {eb : Nat → Array Value × TypeId} (hC : Rep w S .nilIface (dC er eb)) :
    Calls Tryz.prog 86 #[.iface 243 (.pointer (some a)), .iface 143 (.pointer (some t))] w fun e w' => Ret [] w S w' e (.bool false) [] [] :=
  (Er.as_miss a t w (var_of (hC.part _ (List.mem_of_getElem? (i := 12) rfl)))).mono fun e w' h => ret_below h.1 (by
    rw [h.2]
    exact (((RowKit.Below.refl _ w).alloc (Nat.le_refl _) _).alloc (by simp) _).alloc (by simp; omega) _) (by rw [h.2]; exact Nat.le_refl _)
end Go.Proofs.YtpjkiomccpjboaaGreatDoor
end
