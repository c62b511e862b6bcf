/- Part 3 of the texts of a claim: Tx8 Dat Tx10 Tx11 Tx12 Tx13 Tk Mz Crc MsgT. -/
import Derived.Maps.AppendAt
import Derived.Below
import Derived.MapKept
import Derived.Laws.CopyRow
import Derived.Lib.ConvBytes
import Derived.Test.YtonhcoeneahpaaaDoorProg
import Derived.KernelRfl
import Derived.Test.YtonhcoeneahpaaaDoorTb2
section
namespace Go.Sx
open Go
def appOf (n : Nat) (ops : Array Oper) (E : Env) (i : Nat) : Option (Value × Value × TypeId × Option Tmp) :=
  match ops[i]? with
  | none => none
  | some o => if dstOk n o.dst then match o.guard with
    | some _ => none
    | none => match o.op with
      | .call c => match c.callee with
        | .builtin .append => match opsOk E none c.args.toList with
          | some [] => match c.args.toList, c.argTypes.toList with
            | [s, x], [t, u] => if Nat.beq t u then some (rho E s, rho E x, t, o.dst) else none
            | _, _ => none
          | _ => none
        | _ => none
      | _ => none
    else none
theorem appOf_sound {P : Program} {f : Func} [Pan f] {R : Act → World → Prop} {n : Nat} [Dfr n] {ops : Array Oper} {i : Nat} {E : Env} {h r : List (Nat × Obj)} {F : List (List Nat × World)} {Y : Ghost} {sv xv : Value} {t : TypeId} {dst : Option Tmp} (he : appOf n ops E i = some (sv, xv, t, dst))
    {a : Act} {w : World} (s : St n E h r F Y a w) {K : Act → World → Prop} {k : List Itm}
    (H : ∀ ty, ∃ v' w', (Builtin.append_ #[t, t] ty #[sv, xv]).run P w = .ok v' w' ∧ ∀ a', Ag n (E.put dst (.val v')) a' → K a' w') : wpOp P ops (wpK P f R k) i K a w := by
  unfold appOf at he
  split at he
  · cases he
  rename_i o ho
  split at he
  case isFalse => cases he
  rename_i hd
  split at he
  · cases he
  rename_i hg
  split at he
  case h_2 => cases he
  rename_i c hc
  split at he
  case h_2 => cases he
  rename_i hcal
  split at he
  case h_2 => cases he
  rename_i hq
  split at he
  case h_2 => cases he
  rename_i xs x t' u hargs htys
  split at he
  case isFalse => cases he
  rename_i htu
  simp only [Option.some.injEq, Prod.mk.injEq] at he
  obtain ⟨rfl, rfl, rfl, rfl⟩ := he
  obtain rfl := Nat.eq_of_beq_eq_true htu
  have hev := opsOk_sound s.ag (fun c w h => by cases h) _ _ hq trivial
  have e1 : a.eval xs = rho E xs := hev xs (by rw [hargs]; simp)
  have e2 : a.eval x = rho E x := hev x (by rw [hargs]; simp)
  have hca : c.args = #[xs, x] := by rw [← Array.toArray_toList (xs := c.args), hargs]
  have hct : c.argTypes = #[t', t'] := by rw [← Array.toArray_toList (xs := c.argTypes), htys]
  obtain ⟨v', w', hrun, hk⟩ := H o.type
  unfold wpOp
  simp only [ho]
  rw [if_pos (by simp [Region.wanted, hg])]
  refine .inl ?_
  unfold Oper.wp execOp
  simp only [hc, resolve, hcal, hca, hct, invoke, builtin, Sem.run_bind, Sem.run_pure, Result.andThen_ok, List.map_toArray, List.map_cons, List.map_nil, e1, e2, hrun]
  exact hk _ (s.ag.put hd (.val v'))
section app
variable {P : Program} {f : Func} [Pan f] {R : Act → World → Prop} {n : Nat} [Dfr n] {k : List Itm} {E : Env} {h r : List (Nat × Obj)} {F : List (List Nat × World)} {Y : Ghost}
theorem infoParts {P : Program} {e : TypeId} {z : Value} {size bytes : Nat} (h : (P.info? e).map (fun i => (i.zero, i.size, i.bytes)) = some (some z, size, bytes)) : ∃ inf, P.info? e = some inf ∧ inf.zero = some z ∧ inf.size = size ∧ inf.bytes = bytes := by
  obtain ⟨inf, hi, hx⟩ := Option.map_eq_some_iff.1 h
  simp only [Prod.mk.injEq] at hx
  exact ⟨inf, hi, hx.1, hx.2.1, hx.2.2⟩
end app
def SrcAt (w : World) (S : Nat → Prop) (ax : Option Addr) (m size : Nat) (news : List (List D)) : Prop :=
  news.length = m ∧ ((ax = none ∧ m = 0) ∨ ∃ ad us, ax = some ad ∧ us.length = m * size ∧ (∀ (j : Nat) u, us[j]? = some u → w.cell? (ad.add j) = some u) ∧ RowsAt w S us size news)
def RowG (G : List (Value × D)) : List Value → List D → Prop
  | [], [] => True
  | u :: us, d :: ds => ((d = .v u ∧ u.oneCell' = true) ∨ (u, d) ∈ G ∨ ∃ a c k, u = .slice a 0 c ∧ d = .sl k []) ∧ RowG G us ds
  | _, _ => False
theorem RowG.len {G : List (Value × D)} : ∀ {us : List Value} {ds : List D}, RowG G us ds → us.length = ds.length
  | [], [], _ => rfl
  | _ :: _, _ :: _, h => by simp [RowG.len h.2]
  | [], _ :: _, h => h.elim
  | _ :: _, [], h => h.elim
theorem RowG.at {G : List (Value × D)} {w : World} {S : Nat → Prop} (hG : ∀ x ∈ G, Rep w S x.1 x.2) : ∀ {us : List Value} {ds : List D}, RowG G us ds → ∀ (j : Nat) (d : D), ds[j]? = some d → ∃ u, us[j]? = some u ∧ Rep w S u d
  | [], [], _, j, d, hd => by simp at hd
  | u :: us, d0 :: ds, h, 0, d, hd => by
    simp only [List.getElem?_cons_zero, Option.some.injEq] at hd
    subst hd
    refine ⟨u, rfl, ?_⟩
    rcases h.1 with ⟨rfl, h1⟩ | h1 | ⟨a, c, k, rfl, rfl⟩
    · exact .v h1
    · exact hG _ h1
    · exact .nil
  | u :: us, d0 :: ds, h, j + 1, d, hd => by
    obtain ⟨u', h1, h2⟩ := RowG.at hG h.2 j d (by simpa using hd)
    exact ⟨u', by simpa using h1, h2⟩
  | [], _ :: _, h, _, _, _ => h.elim
  | _ :: _, [], h, _, _, _ => h.elim
section appc
variable {P : Program} {f : Func} [Pan f] {R : Act → World → Prop} {n : Nat} [Dfr n] {k : List Itm} {E : Env} {h r : List (Nat × Obj)} {F : List (List Nat × World)} {Y : Ghost}
theorem src_one {a : Act} {w : World} {fps : List (List Nat)} (s : StF n E h r F Y a w fps) (p : Nat) {b : Nat} {cs : Array Value} {ty : TypeId} {fz : Nat × Nat} {size : Nat} {row : List D} (hp : h[p]? = some (b, .cells cs ty fz)) (hsz : row.length = size) (hR : RowG Y.G cs.toList row) :
    SrcAt w (Sd Y h fps) (some ⟨b, 0, none⟩) 1 size [row] := by
  have hb := s.own.own _ (List.mem_of_getElem? hp)
  refine ⟨rfl, .inr ⟨_, cs.toList, rfl, by rw [hR.len, hsz, Nat.one_mul], fun j u hu => ?_, by simp [hsz], fun i j row' d hi hj => ?_⟩⟩
  · have hadd : (⟨b, 0, none⟩ : Addr).add j = ⟨b, 0 + j, none⟩ := by unfold Addr.add; split <;> simp_all
    rw [hadd]
    exact cell_of rfl hb rfl (by simpa using hu)
  · cases i with
    | succ i => simp at hi
    | zero =>
      simp only [List.getElem?_cons_zero, Option.some.injEq] at hi
      subst hi
      rw [Nat.zero_mul, Nat.zero_add]
      exact hR.at s.gh.g j d hj
theorem JR_appc0 {id L0 i : Nat} {ck : Bool} {Wp : List (Nat × List Nat)} {rest : List (Nat × Bool)} (q t e size bytes : Nat) (z : Value) {a0 ax : Option Addr} {len cap0 m c : Nat} {rows : List (List D)} {dst : Option Tmp} (news : List (List D))
    (he : appOf n (rgOf f id) E i = some (.slice a0 len cap0, .slice ax m c, t, dst)) (hok : (!ck || (Wp.lookup i).isSome) = true)
    (ht : P.underlying t = some (.slice e)) (hi : (P.info? e).map (fun i => (i.zero, i.size, i.bytes)) = some (some z, size, bytes)) (hzs : z.cells.size = size) (hs0 : 0 < size)
    (hc : Y.C[q]? = some (cAcc (.slice a0 len cap0) e size rows)) (hsrc : ∀ a w fps, StF n E h r F Y a w fps → SrcAt w (Sd Y h fps) ax m size news)
    (hmax : len + m ≤ maxLen) (hby : (len + m) * bytes ≤ 140737488355328)
    (A : ∀ a' cap', JR P f R n (rgOf f id) L0 ck rest (Wp.filter (·.1 != i)) k (E.put dst (.val (.slice a' (len + m) cap'))) h r F ⟨Y.S, restC Y.C [q] ++ [cAcc (.slice a' (len + m) cap') e size (rows ++ news)], Y.G ++ []⟩) :
    JR P f R n (rgOf f id) L0 ck ((i, false) :: rest) Wp k E h r F Y := by
  obtain ⟨inf, h1i, h2i, rfl, rfl⟩ := infoParts hi
  intro B Hd fps a w s hH hR hN hW
  simp only [PW]
  obtain ⟨fp, hfp, _, hP⟩ := s.gh.chs.at hc
  have hlen := acc_len (show (cAcc (.slice a0 len cap0) e inf.size rows).P w (Sd Y h fps) fp from ⟨hs0, hP⟩)
  have hpk : pick fps [q] = [fp] := by simp [pick, hfp]
  have hM : (pick fps [q]).flatten = fp := by rw [hpk]; simp
  refine appOf_sound he s.st fun ty => ?_
  obtain ⟨hnm, hsr⟩ := hsrc a w fps s
  have key : ∃ a' cap' w', (Builtin.append_ #[t, t] ty #[.slice a0 len cap0, .slice ax m c]).run P w = .ok (.slice a' (len + m) cap') w' ∧ Ret (pick fps [q]).flatten w (Sd Y h fps) w' (.returned (.slice a' (len + m) cap')) (.slice a' (len + m) cap') [cAcc (.slice a' (len + m) cap') e inf.size (rows ++ news)] [] := by
    rw [hM]
    rcases hsr with ⟨rfl, rfl⟩ | ⟨ad, us, rfl, hul, hus, hRus⟩
    · have hnews : news = [] := List.eq_nil_of_length_eq_zero hnm
      subst hnews
      have hle : len ≤ cap0 := by
        rcases hP with ⟨_, h2, _⟩ | ⟨g, cap, cur, xs, h2, _, _, h3, _⟩
        · cases h2; exact Nat.le_refl _
        · cases h2; exact h3.le
      refine ⟨a0, cap0, w, ?_, rfl, Fr.refl _ _, [fp], ?_, ?_, fun b hb => ⟨.inl (by simpa using hb), s.gh.lt b (List.mem_flatten.2 ⟨fp, List.mem_of_getElem? hfp, by simpa using hb⟩)⟩, by simp⟩
      · cases a0 <;> simp [Builtin.append_, run_underlying ht, sizeOf, typeInfo, h1i, Builtin.lenOf, Builtin.firstCells, hle, storeCells]
      · refine ⟨?_, trivial⟩
        rw [List.append_nil, Nat.add_zero]
        refine (cAcc _ _ _ _).mono (w := w) (S := Sd Y h fps) ⟨hs0, hP⟩ (fun _ _ => rfl) fun b hb _ => ⟨⟨.inl hb, fun hm => hb.2.2 ?_⟩, rfl⟩
        exact List.mem_flatten.2 ⟨fp, List.mem_of_getElem? hfp, by simpa using hm⟩
      · have := nodup_sublist_flat s.gh.nodup (List.singleton_sublist.2 (List.mem_of_getElem? hfp))
        exact this
    · have hown : ∃ xs, w.ownsRow 0 e inf.size (.slice a0 len cap0) len xs ∧ RowsAt w (Sd Y h fps) xs inf.size rows ∧ xs.length = rows.length * inf.size ∧ (∀ b, (Value.slice a0 len cap0).ownBlock = some b → b ∈ fp) := by
        rcases hP with ⟨rfl, h2, rfl⟩ | ⟨g, cap, cur, xs, h2, rfl, h3, h4, h5⟩
        · cases h2
          exact ⟨[], World.ownsRow_nil w 0 e inf.size, RowsAt.nil _ _ _ _, by simp, by simp [Value.ownBlock]⟩
        · cases h2
          exact ⟨xs, ⟨h4.len, .inr ⟨g, cap0, cur, rfl, Nat.zero_le _, h3, h4.le, h4.max, h4.siz, h4.take⟩⟩, h5, h4.len, by simp [Value.ownBlock]⟩
      obtain ⟨xs, hown, hRx, hxl, hob⟩ := hown
      obtain ⟨v', w', hrun, hown', hgr, hnil, hat⟩ := run_append_own_at (P := P) w 0 t ty e inf z inf.size inf.bytes ht h1i h2i rfl rfl hzs hs0 _ len xs hown ad m c us hul hus (hRus.one (by rw [hul, hnm])) hmax hby (Nat.zero_le _)
      have hfr : Fr fp w w' := ⟨hgr.os, hgr.tape, hgr.output, hgr.size, fun b hb hn => hgr.block b hb fun he => hn (hob b he.symm), Sem.run_drawn hrun⟩
      have hnot : ∀ b, Sd Y h fps b → b ∉ fp := fun b hb hm => hb.2.2 (List.mem_flatten.2 ⟨fp, List.mem_of_getElem? hfp, hm⟩)
      have hRall : ∀ g', (g' ∈ fp ∨ w.heap.size ≤ g') → RowsAt w' (retS (Sd Y h fps) fp w [[g']]) (xs ++ us) inf.size (rows ++ news) := fun g' hg' =>
        (hRx.app hxl hRus).mono fun b hb hlt => ⟨⟨.inl hb, fun hm => by
          simp only [List.flatten_cons, List.flatten_nil, List.append_nil, List.mem_singleton] at hm
          subst hm
          rcases hg' with h1 | h1
          · exact hnot _ hb h1
          · omega⟩, hfr.block b hlt (hnot b hb)⟩
      rcases hown'.2 with ⟨rfl, h0⟩ | ⟨g', cap', cur', rfl, _, hg', hle, hmx, hsz, htk⟩
      · have hm0 : m = 0 := by omega
        have hl0 : len = 0 := by omega
        have hnews : news = [] := List.eq_nil_of_length_eq_zero (by omega)
        have hrows : rows = [] := List.eq_nil_of_length_eq_zero (by omega)
        subst hm0 hl0 hnews hrows
        have h2 := hnil.1 rfl
        exact ⟨none, 0, w', hrun, rfl, hfr, [[]], ⟨⟨hs0, .inl ⟨rfl, rfl, rfl⟩⟩, trivial⟩, by simp, by simp, by simp⟩
      · have hg'' : g' ∈ fp ∨ w.heap.size ≤ g' := by
          simp only [Value.ownBlock] at hat
          rcases hat with h1 | h1
          · exact .inl (hob g' (by simp only [Value.ownBlock]; exact h1.symm))
          · simp only [Option.some.injEq] at h1
            exact .inr (by omega)
        have hlt : g' < w'.heap.size := (Array.getElem?_eq_some_iff.1 hg').1
        refine ⟨_, cap', w', hrun, rfl, hfr, [[g']], ⟨⟨hs0, .inr ⟨g', cap', cur', xs ++ us, ?_, rfl, hg', ?_, hRall g' hg''⟩⟩, trivial⟩, by simp, fun b hb => ?_, by simp⟩
        · rw [List.length_append, hnm, hlen]
        · rw [List.length_append, hnm, ← hlen]
          exact ⟨hown'.1, hsz, hle, hmx, htk⟩
        · simp only [List.flatten_cons, List.flatten_nil, List.append_nil, List.mem_singleton] at hb
          subst hb
          exact ⟨hg'', hlt⟩
  obtain ⟨a', cap', w', hrun, hRet⟩ := key
  have hf := hRet.fr
  refine ⟨_, w', hrun, fun a2 hA => ⟨fun hck b hb hl => hf.block b hb fun hm => ?_, ?_⟩⟩
  · have hm2 := pick_flat_sub hm
    cases hWl : Wp.lookup i with
    | none =>
      rw [hWl, hck] at hok
      simp at hok
    | some ps =>
      rw [lookup_idsW, hWl] at hl
      obtain ⟨h1, h2⟩ := hl _ rfl
      rcases hH b hm2 with h3 | h3
      · exact h2 (List.mem_append_right _ h3)
      · omega
  · rw [filter_idsW]
    obtain ⟨fps', h3, s'⟩ := s.called (cs := [q]) hA hRet
    refine A a' cap' B Hd _ a2 w' s' (fun b hb => ?_) ⟨hR.old, hR.ro, hR.len, Nat.le_trans hR.size hf.size⟩ hN (okWp_filter hW)
    rw [List.flatten_append] at hb
    rcases List.mem_append.1 hb with hb | hb
    · exact hH b (pick_flat_sub hb)
    · rcases h3 b hb with h1 | h1
      · exact hH b (pick_flat_sub h1)
      · exact .inr (Nat.le_trans hR.size h1)
theorem JR_appc {S0 : Nat → Prop} {C0 : List Chunk} {G0 : List (Value × D)} {id L0 i : Nat} {ck : Bool} {Wp : List (Nat × List Nat)} {rest : List (Nat × Bool)} (q t e size bytes : Nat) (z : Value) {a0 ax : Option Addr} {len cap0 m c : Nat} {rows : List (List D)} {dst : Option Tmp} (news : List (List D))
    (he : appOf n (rgOf f id) E i = some (.slice a0 len cap0, .slice ax m c, t, dst)) (hok : (!ck || (Wp.lookup i).isSome) = true)
    (ht : P.underlying t = some (.slice e)) (hi : (P.info? e).map (fun i => (i.zero, i.size, i.bytes)) = some (some z, size, bytes)) (hzs : z.cells.size = size) (hs0 : 0 < size)
    (hc : C0[q]? = some (cAcc (.slice a0 len cap0) e size rows)) (hsrc : ∀ a w fps, StF n E h r F ⟨S0, C0, G0⟩ a w fps → SrcAt w (Sd ⟨S0, C0, G0⟩ h fps) ax m size news)
    (hmax : len + m ≤ maxLen) (hby : (len + m) * bytes ≤ 140737488355328)
    (A : ∀ a' cap', JR P f R n (rgOf f id) L0 ck rest (Wp.filter (·.1 != i)) k (E.put dst (.val (.slice a' (len + m) cap'))) h r F ⟨S0, restC C0 [q] ++ [cAcc (.slice a' (len + m) cap') e size (rows ++ news)], G0 ++ []⟩) :
    JR P f R n (rgOf f id) L0 ck ((i, false) :: rest) Wp k E h r F ⟨S0, C0, G0⟩ := JR_appc0 (Y := ⟨S0, C0, G0⟩) q t e size bytes z news he hok ht hi hzs hs0 hc hsrc hmax hby A
theorem JR_appm0 {α : Type} {id L0 i : Nat} {ck : Bool} {Wp : List (Nat × List Nat)} {rest : List (Nat × Bool)} (q t e size bytes : Nat) (z : Value) {a0 ax : Option Addr} {len cap0 m c : Nat} {enc : α → List D} {l : List α} {dst : Option Tmp} (xs : List α)
    (he : appOf n (rgOf f id) E i = some (.slice a0 len cap0, .slice ax m c, t, dst)) (hok : (!ck || (Wp.lookup i).isSome) = true)
    (ht : P.underlying t = some (.slice e)) (hi : (P.info? e).map (fun i => (i.zero, i.size, i.bytes)) = some (some z, size, bytes)) (hzs : z.cells.size = size) (hs0 : 0 < size)
    (hc : Y.C[q]? = some (cAcc (.slice a0 len cap0) e size (l.map enc))) (hsrc : ∀ a w fps, StF n E h r F Y a w fps → SrcAt w (Sd Y h fps) ax m size (xs.map enc))
    (hmax : len + m ≤ maxLen) (hby : (len + m) * bytes ≤ 140737488355328)
    (A : ∀ a' cap', JR P f R n (rgOf f id) L0 ck rest (Wp.filter (·.1 != i)) k (E.put dst (.val (.slice a' (len + m) cap'))) h r F ⟨Y.S, restC Y.C [q] ++ [cAcc (.slice a' (len + m) cap') e size ((l ++ xs).map enc)], Y.G ++ []⟩) :
    JR P f R n (rgOf f id) L0 ck ((i, false) :: rest) Wp k E h r F Y := by
  refine JR_appc q t e size bytes z (xs.map enc) he hok ht hi hzs hs0 hc hsrc hmax hby fun a' cap' => ?_
  have := A a' cap'
  rwa [List.map_append] at this
theorem JR_appm {S0 : Nat → Prop} {C0 : List Chunk} {G0 : List (Value × D)} {α : Type} {id L0 i : Nat} {ck : Bool} {Wp : List (Nat × List Nat)} {rest : List (Nat × Bool)} (q t e size bytes : Nat) (z : Value) {a0 ax : Option Addr} {len cap0 m c : Nat} {enc : α → List D} {l : List α} {dst : Option Tmp} (xs : List α)
    (he : appOf n (rgOf f id) E i = some (.slice a0 len cap0, .slice ax m c, t, dst)) (hok : (!ck || (Wp.lookup i).isSome) = true)
    (ht : P.underlying t = some (.slice e)) (hi : (P.info? e).map (fun i => (i.zero, i.size, i.bytes)) = some (some z, size, bytes)) (hzs : z.cells.size = size) (hs0 : 0 < size)
    (hc : C0[q]? = some (cAcc (.slice a0 len cap0) e size (l.map enc))) (hsrc : ∀ a w fps, StF n E h r F ⟨S0, C0, G0⟩ a w fps → SrcAt w (Sd ⟨S0, C0, G0⟩ h fps) ax m size (xs.map enc))
    (hmax : len + m ≤ maxLen) (hby : (len + m) * bytes ≤ 140737488355328)
    (A : ∀ a' cap', JR P f R n (rgOf f id) L0 ck rest (Wp.filter (·.1 != i)) k (E.put dst (.val (.slice a' (len + m) cap'))) h r F ⟨S0, restC C0 [q] ++ [cAcc (.slice a' (len + m) cap') e size ((l ++ xs).map enc)], G0 ++ []⟩) :
    JR P f R n (rgOf f id) L0 ck ((i, false) :: rest) Wp k E h r F ⟨S0, C0, G0⟩ := JR_appm0 (Y := ⟨S0, C0, G0⟩) q t e size bytes z xs he hok ht hi hzs hs0 hc hsrc hmax hby A
theorem flatten_at {α : Type} {k : Nat} : ∀ {rows : List (List α)}, (∀ row ∈ rows, row.length = k) → ∀ {i j : Nat} {row : List α} {d : α}, rows[i]? = some row → row[j]? = some d → rows.flatten[i * k + j]? = some d
  | [], _, i, j, row, d, hi, _ => by simp at hi
  | r :: rows, hl, 0, j, row, d, hi, hj => by
    simp only [List.getElem?_cons_zero, Option.some.injEq] at hi
    subst hi
    have hjl := (List.getElem?_eq_some_iff.1 hj).1
    rw [Nat.zero_mul, Nat.zero_add, List.flatten_cons, List.getElem?_append_left hjl]
    exact hj
  | r :: rows, hl, i + 1, j, row, d, hi, hj => by
    have hr := hl r (List.mem_cons_self ..)
    have ih := flatten_at (fun x hx => hl x (List.mem_cons_of_mem _ hx)) (by simpa using hi) hj
    have h1 : (i + 1) * k = k + i * k := by rw [Nat.succ_mul]; omega
    rw [List.flatten_cons, List.getElem?_append_right (by rw [hr, h1]; omega), hr, h1]
    have h2 : k + i * k + j - k = i * k + j := by omega
    rw [h2]
    exact ih
theorem StF.data {a : Act} {w : World} {fps : List (List Nat)} (s : StF n E h r F Y a w fps) (p : Nat) {b : Nat} {cs : Array Value} {e : TypeId} {fz : Nat × Nat} {size cap : Nat} {rows : List (List D)} (hp : h[p]? = some (b, .cells cs e fz)) (hk : 0 < size) (hl : ∀ row ∈ rows, row.length = size) (hcap : rows.length ≤ cap)
    (hR : RowG Y.G cs.toList rows.flatten) : StF n E (h.eraseIdx p) r F ⟨Y.S, Y.C, Y.G ++ [(.slice (some ⟨b, 0, none⟩) rows.length cap, .sl size rows)]⟩ a w fps := by
  have hm : ∀ x ∈ h.eraseIdx p, x ∈ h := fun x hx => (List.eraseIdx_sublist h p).subset hx
  have hid : ∀ c, c ∈ (h.eraseIdx p).map (·.1) → c ∈ h.map (·.1) := fun c hc => by
    obtain ⟨x, hx, rfl⟩ := List.mem_map.1 hc
    exact List.mem_map.2 ⟨x, hm x hx, rfl⟩
  have hnot : b ∉ (h.eraseIdx p).map (·.1) := fun hc => by
    obtain ⟨x, hx, hxb⟩ := List.mem_map.1 hc
    obtain ⟨j, hj, he⟩ := List.mem_eraseIdx_iff_getElem?.1 hx
    have h1 : (h.map (·.1))[j]? = some b := by simp [he, hxb]
    have h2 : (h.map (·.1))[p]? = some b := by simp [hp]
    exact hj ((List.getElem?_inj (List.getElem?_eq_some_iff.1 h1).1 s.own.nodup).1 (h1.trans h2.symm))
  have hbm : (b, Obj.cells cs e fz) ∈ h := List.mem_of_getElem? hp
  have hbf : b ∉ fps.flatten := fun hx => s.gh.disj b hx (List.mem_map.2 ⟨_, hbm, rfl⟩)
  have hS : ∀ c, Sd Y h fps c → Sd Y (h.eraseIdx p) fps c := fun c hc => ⟨hc.1, fun hx => hc.2.1 (hid c hx), hc.2.2⟩
  refine ⟨s.ag, ⟨fun x hx => s.own.own x (hm x hx), ((List.eraseIdx_sublist h p).map _).nodup s.own.nodup, s.own.ro, fun x hx hc => s.own.apart x hx (hid _ hc)⟩, s.fr, fun f hf x hx => s.may f hf x (hm x hx),
    ⟨s.gh.chs.mono (fun _ _ => rfl) fun c hc _ => ⟨hS c hc, rfl⟩, s.gh.nodup, fun c hc hx => s.gh.disj c hc (hid c hx), s.gh.apart, s.gh.may, s.gh.lt, fun x hx => s.gh.own x (hm x hx), s.gh.hid, s.gh.top, fun x hx => ?_⟩⟩
  rcases List.mem_append.1 hx with hx | hx
  · exact (s.gh.g x hx).mono fun c hc _ => ⟨hS c hc, rfl⟩
  · rw [List.mem_singleton] at hx
    subst hx
    refine .sl (fun i j => cs.toList.getD (i * size + j) undef) (s.own.own _ hbm) ⟨s.gh.own _ hbm, hnot, hbf⟩ hcap hk hl (fun i j hi hj => ?_) fun i j row d hi hj => ?_
    · have hjr : j < (rows[i]'hi).length := by rw [hl _ (List.getElem_mem hi)]; exact hj
      have h1 := flatten_at hl (List.getElem?_eq_getElem hi) (List.getElem?_eq_getElem hjr)
      obtain ⟨u, hu, _⟩ := hR.at s.gh.g _ _ h1
      rw [Nat.zero_add, List.getD_eq_getElem?_getD, hu]
      simpa using hu
    · obtain ⟨u, hu, hr⟩ := hR.at s.gh.g _ _ (flatten_at hl hi hj)
      simp only [List.getD_eq_getElem?_getD, hu, Option.getD_some]
      exact hr.mono fun c hc _ => ⟨hS c hc, rfl⟩
theorem J_data0 {α : Type} (p : Nat) (enc : α → List D) (l : List α) (cap : Nat) {b : Nat} {cs : Array Value} {e : TypeId} {fz : Nat × Nat} {size : Nat} (hp : h[p]? = some (b, .cells cs e fz)) (hk : 0 < size) (hen : ∀ x ∈ l, (enc x).length = size) (hcap : l.length ≤ cap) (hR : RowG Y.G cs.toList (l.map enc).flatten)
    (H : J P f R n k E (h.eraseIdx p) r F ⟨Y.S, Y.C, Y.G ++ [(.slice (some ⟨b, 0, none⟩) (l.map enc).length cap, .sl size (l.map enc))]⟩) : J P f R n k E h r F Y := fun a w ⟨fps, s⟩ =>
  H a w ⟨fps, s.data p hp hk (by intro row hrow; obtain ⟨x, hx, rfl⟩ := List.mem_map.1 hrow; exact hen x hx) (by rw [List.length_map]; exact hcap) hR⟩
theorem J_data {S0 : Nat → Prop} {C0 : List Chunk} {G0 : List (Value × D)} {α : Type} (p : Nat) (enc : α → List D) (l : List α) (cap : Nat) {b : Nat} {cs : Array Value} {e : TypeId} {fz : Nat × Nat} {size : Nat} (hp : h[p]? = some (b, .cells cs e fz)) (hk : 0 < size) (hen : ∀ x ∈ l, (enc x).length = size) (hcap : l.length ≤ cap) (hR : RowG G0 cs.toList (l.map enc).flatten)
    (H : J P f R n k E (h.eraseIdx p) r F ⟨S0, C0, G0 ++ [(.slice (some ⟨b, 0, none⟩) (l.map enc).length cap, .sl size (l.map enc))]⟩) : J P f R n k E h r F ⟨S0, C0, G0⟩ := J_data0 (Y := ⟨S0, C0, G0⟩) p enc l cap hp hk hen hcap hR H
theorem JR_data0 {α : Type} {ops : Array Oper} {L0 : Nat} {ck : Bool} {plan : List (Nat × Bool)} {Wp : List (Nat × List Nat)} (p : Nat) (enc : α → List D) (l : List α) (cap : Nat) {b : Nat} {cs : Array Value} {e : TypeId} {fz : Nat × Nat} {size : Nat} (hp : h[p]? = some (b, .cells cs e fz)) (hL : Nat.ble L0 p = true) (hk : 0 < size) (hen : ∀ x ∈ l, (enc x).length = size) (hcap : l.length ≤ cap) (hR : RowG Y.G cs.toList (l.map enc).flatten)
    (H : JR P f R n ops L0 ck plan Wp k E (h.eraseIdx p) r F ⟨Y.S, Y.C, Y.G ++ [(.slice (some ⟨b, 0, none⟩) (l.map enc).length cap, .sl size (l.map enc))]⟩) : JR P f R n ops L0 ck plan Wp k E h r F Y := fun B Hd fps a w s hH hR2 hN hW => by
  have hLp := Nat.le_of_ble_eq_true hL
  have hpl := (List.getElem?_eq_some_iff.1 hp).1
  have hsame : ∀ i : Nat, i < L0 → (h.eraseIdx p)[i]? = h[i]? := fun i hi => by rw [List.getElem?_eraseIdx]; simp [show i < p by omega]
  have s' := s.data (cap := cap) p hp hk (rows := l.map enc) (by intro row hrow; obtain ⟨x, hx, rfl⟩ := List.mem_map.1 hrow; exact hen x hx) (by rw [List.length_map]; exact hcap) hR
  have hids : idsW Hd (h.eraseIdx p) Wp = idsW Hd h Wp := by
    unfold idsW
    refine List.map_congr_left fun y hy => ?_
    congr 2
    have h1 := List.all_eq_true.1 hW y hy
    exact filterMap_same _ _ _ fun q hq => by rw [hsame q (blt_lt (List.all_eq_true.1 h1 q hq))]
  have := H B Hd fps a w s' hH ⟨fun i hi x hx => hR2.old i hi x (by rw [← hsame i hi]; exact hx), hR2.ro, by rw [List.length_eraseIdx]; simp only [hpl, if_true]; have := hR2.len; omega, hR2.size⟩ (fun j hj x hx => by
    rw [List.getElem?_eraseIdx] at hx
    split at hx
    · exact hN j hj x hx
    · exact hN (j + 1) (by omega) x hx) hW
  rwa [hids] at this
theorem JR_data {S0 : Nat → Prop} {C0 : List Chunk} {G0 : List (Value × D)} {α : Type} {ops : Array Oper} {L0 : Nat} {ck : Bool} {plan : List (Nat × Bool)} {Wp : List (Nat × List Nat)} (p : Nat) (enc : α → List D) (l : List α) (cap : Nat) {b : Nat} {cs : Array Value} {e : TypeId} {fz : Nat × Nat} {size : Nat} (hp : h[p]? = some (b, .cells cs e fz)) (hL : Nat.ble L0 p = true) (hk : 0 < size) (hen : ∀ x ∈ l, (enc x).length = size) (hcap : l.length ≤ cap) (hR : RowG G0 cs.toList (l.map enc).flatten)
    (H : JR P f R n ops L0 ck plan Wp k E (h.eraseIdx p) r F ⟨S0, C0, G0 ++ [(.slice (some ⟨b, 0, none⟩) (l.map enc).length cap, .sl size (l.map enc))]⟩) : JR P f R n ops L0 ck plan Wp k E h r F ⟨S0, C0, G0⟩ := JR_data0 (Y := ⟨S0, C0, G0⟩) p enc l cap hp hL hk hen hcap hR H
theorem rd0 {cs : Array Value} {x : Nat} {v : Value} (h : cs[x + 0]? = some v) : cs[x]? = some v := h
theorem map_at {α β : Type} {g : α → β} {l : List α} {i : Nat} {x : α} (h : l[i]? = some x) : (l.map g)[i]? = some (g x) := by rw [List.getElem?_map, h]; rfl
end appc
end Go.Sx
end
section
namespace Go.Sx
open Go Go.RowKit
abbrev dI (n : Int) : D := .v (.int .i64 n)
abbrev eI (t : Int) : List D := [dI t]
abbrev dInts (l : List Int) : D := .sl 1 (l.map eI)
theorem rep_ints_len {w : World} {S : Nat → Prop} {a : Option Addr} {n c : Nat} {xs : List Int} (h : Rep w S (.slice a n c) (dInts xs)) : n = xs.length := by
  have := h.slen
  simpa using this
def ErrIs (T : Nat) (er : Nat → Addr) (k : Nat) (v : Value) : Prop := (k = 0 ∧ v = .nilIface) ∨ (k ≠ 0 ∧ v = .iface T (.pointer (some (er k))))
abbrev dE (T : Nat) (er : Nat → Addr) (g k : Nat) : Value × D := (.pointer (some ⟨g, 0, none⟩), .ptr [.v (.iface T (.pointer (some (er k))))])
theorem AllG.pick {w : World} {S : Nat → Prop} {G G' : List (Value × D)} (h : AllG w S G) (ps : List Nat) (hp : pick G ps = G') : AllG w S G' := fun x hx => h x (pick_mem hp x hx)
theorem AllG.app {w : World} {S : Nat → Prop} {G G' : List (Value × D)} (h : AllG w S G) (h' : AllG w S G') : AllG w S (G ++ G') := fun x hx => by
  rcases List.mem_append.1 hx with hx | hx
  · exact h x hx
  · exact h' x hx
theorem take_snoc {α : Type} {l : List α} {i : Int} {x : α} (hi : 0 ≤ i) (hx : l[i.toNat]? = some x) : l.take i.toNat ++ [x] = l.take (i + 1).toNat := by
  have e : (i + 1).toNat = i.toNat + 1 := by omega
  rw [e, List.take_add_one, hx]
  rfl
theorem ret_below {w w' : World} {S : Nat → Prop} {e : Ending} {v : Value} (he : e = .returned v) (h : Below w.heap.size w w') (hd : w.drawn ≤ w'.drawn) : Ret [] w S w' e v [] [] :=
  ⟨he, ⟨h.os, h.tape, h.output, h.size, fun b hb _ => h.block b hb, hd⟩, [], trivial, by simp, by simp, by simp⟩
theorem ret_same {w w' : World} {S : Nat → Prop} {e : Ending} {v : Value} (he : e = .returned v) (h : w' = w) : Ret [] w S w' e v [] [] := ret_below he (h ▸ Below.refl _ _) (h ▸ Nat.le_refl _)
end Go.Sx
end
section
namespace Go.Sx
open Go Go.MapKept
structure MapOf (d : TypeDesc) (es : Array MapEntry) (f : Value → Option Value) : Prop where
  key : ∀ x ∈ es.toList, IsKey d x.key
  nodup : (es.toList.map (·.key)).Nodup
  val : ∀ x ∈ es.toList, f x.key = some x.val
  has : ∀ k v, f k = some v → ∃ x ∈ es.toList, x.key = k
open Classical in
noncomputable def fput (f : Value → Option Value) (key val : Value) : Value → Option Value := fun k => if k = key then some val else f k
open Classical in
noncomputable def fdel (f : Value → Option Value) (key : Value) : Value → Option Value := fun k => if k = key then none else f k
theorem MapOf.congr {d : TypeDesc} {es : Array MapEntry} {f g : Value → Option Value} (h : MapOf d es f) (hfg : ∀ k, f k = g k) : MapOf d es g := by
  obtain rfl : f = g := funext hfg
  exact h
theorem MapOf.look {d : TypeDesc} {es : Array MapEntry} {f : Value → Option Value} (h : MapOf d es f) {k : Value} (hk : IsKey d k) :
    (Instr.findNow d k es.toList 0 = some none ∧ f k = none ∧ ∀ x ∈ es.toList, x.key ≠ k) ∨ ∃ j e, Instr.findNow d k es.toList 0 = some (some (j, e.val)) ∧ es.toList[j]? = some e ∧ e.key = k ∧ f k = some e.val := by
  rcases findNow_spec hk es.toList 0 h.key with ⟨h1, h2⟩ | ⟨j, e, h1, h2, h3⟩
  · refine .inl ⟨h1, ?_, h2⟩
    cases hf : f k with
    | none => rfl
    | some v =>
      obtain ⟨x, hx, hxk⟩ := h.has k v hf
      exact absurd hxk (h2 x hx)
  · rw [Nat.zero_add] at h1
    refine .inr ⟨j, e, h1, h2, h3, ?_⟩
    rw [← h3]
    exact h.val e (List.mem_of_getElem? h2)
theorem MapOf.other {d : TypeDesc} {es : Array MapEntry} {f : Value → Option Value} (h : MapOf d es f) {j i : Nat} {e x : MapEntry} (hj : es.toList[j]? = some e) (hi : es.toList[i]? = some x) (hne : i ≠ j) : x.key ≠ e.key := by
  intro he
  have h1 : (es.toList.map (·.key))[i]? = some x.key := by rw [List.getElem?_map, hi]; rfl
  have h2 : (es.toList.map (·.key))[j]? = some x.key := by rw [List.getElem?_map, hj, he]; rfl
  exact hne ((List.getElem?_inj (List.getElem?_eq_some_iff.1 h1).1 h.nodup).1 (h1.trans h2.symm))
theorem MapOf.push {d : TypeDesc} {es : Array MapEntry} {f : Value → Option Value} (h : MapOf d es f) {k v : Value} {born : Nat} (hk : IsKey d k) (hn : ∀ x ∈ es.toList, x.key ≠ k) : MapOf d (es.push ⟨k, v, born⟩) (fput f k v) := by
  refine ⟨fun x hx => ?_, ?_, fun x hx => ?_, fun q u hq => ?_⟩
  · simp only [Array.toList_push, List.mem_append, List.mem_singleton] at hx
    rcases hx with hx | rfl
    · exact h.key x hx
    · exact hk
  · simp only [Array.toList_push, List.map_append, List.map_cons, List.map_nil]
    refine List.nodup_append.2 ⟨h.nodup, by simp, fun a ha b hb => ?_⟩
    simp only [List.mem_singleton] at hb
    subst hb
    obtain ⟨x, hx, rfl⟩ := List.mem_map.1 ha
    exact hn x hx
  · simp only [Array.toList_push, List.mem_append, List.mem_singleton] at hx
    rcases hx with hx | rfl
    · simp [fput, hn x hx, h.val x hx]
    · simp [fput]
  · by_cases hqk : q = k
    · exact ⟨⟨k, v, born⟩, by simp, hqk.symm⟩
    · simp only [fput, if_neg hqk] at hq
      obtain ⟨x, hx, hxk⟩ := h.has q u hq
      exact ⟨x, by simp [hx], hxk⟩
theorem MapOf.drop {d : TypeDesc} {es : Array MapEntry} {f : Value → Option Value} (h : MapOf d es f) {k : Value} {j : Nat} {e : MapEntry} (hj : es.toList[j]? = some e) (he : e.key = k) : MapOf d (es.eraseIdxIfInBounds j) (fdel f k) := by
  subst he
  have hlt : j < es.size := by simpa using (List.getElem?_eq_some_iff.1 hj).1
  have hl : (es.eraseIdxIfInBounds j).toList = es.toList.eraseIdx j := by
    unfold Array.eraseIdxIfInBounds
    rw [dif_pos hlt]
    simp
  have hsub := List.eraseIdx_sublist es.toList j
  refine ⟨fun x hx => ?_, ?_, fun x hx => ?_, fun q u hq => ?_⟩
  · rw [hl] at hx
    exact h.key x (hsub.subset hx)
  · rw [hl]
    exact (hsub.map _).nodup h.nodup
  · rw [hl] at hx
    obtain ⟨i, hne, hi⟩ := List.mem_eraseIdx_iff_getElem?.1 hx
    simp [fdel, h.other hj hi hne, h.val x (hsub.subset hx)]
  · by_cases hqk : q = e.key
    · simp [fdel, hqk] at hq
    · simp only [fdel, if_neg hqk] at hq
      obtain ⟨x, hx, hxk⟩ := h.has q u hq
      obtain ⟨i, hi⟩ := List.getElem?_of_mem hx
      refine ⟨x, ?_, hxk⟩
      rw [hl]
      refine List.mem_eraseIdx_iff_getElem?.2 ⟨i, fun hij => hqk ?_, hi⟩
      subst hij
      rw [hj] at hi
      cases hi
      exact hxk.symm
end Go.Sx
end
section
namespace Go.Sx
open Go
theorem Row.cut {cur : Array Value} {cap n size : Nat} {xs : List Value} (h : Row cur cap n size xs) {i : Nat} (hi : i ≤ n) : Row cur cap i size (xs.take (i * size)) := by
  have hle : i * size ≤ n * size := Nat.mul_le_mul_right size hi
  refine ⟨?_, h.siz, Nat.le_trans hi h.le, h.max, ?_⟩
  · rw [List.length_take, h.len]
    omega
  · rw [← h.take, List.take_take]
    congr 1
    omega
section more
variable {P : Program} {f : Func} [Pan f] {R : Act → World → Prop} {n : Nat} [Dfr n] {kk : List Itm} {E : Env} {h r : List (Nat × Obj)} {F : List (List Nat × World)}
theorem RowsAt.set {w : World} {S : Nat → Prop} {xs : List Value} {k : Nat} {rows : List (List D)} (h : RowsAt w S xs k rows) (hl : xs.length = rows.length * k) {i j : Nat} {row : List D} {v : Value} {d : D} (hrow : rows[i]? = some row) (hj : j < k) (hv : Rep w S v d) :
    RowsAt w S (xs.set (i * k + j) v) k (rows.set i (row.set j d)) := by
  have hil := (List.getElem?_eq_some_iff.1 hrow).1
  refine ⟨fun row' hr => ?_, fun i' j' row' d' hi' hj' => ?_⟩
  · rcases List.mem_or_eq_of_mem_set hr with hr | rfl
    · exact h.len row' hr
    · rw [List.length_set]
      exact h.len row (List.mem_of_getElem? hrow)
  · by_cases hii : i = i'
    · subst hii
      rw [List.getElem?_set_self hil] at hi'
      cases hi'
      by_cases hjj : j = j'
      · subst hjj
        have hjl := (List.getElem?_eq_some_iff.1 hj').1
        rw [List.length_set] at hjl
        rw [List.getElem?_set_self hjl] at hj'
        cases hj'
        exact ⟨v, by rw [List.getElem?_set_self (by rw [hl]; exact idx_lt hil hj)], hv⟩
      · rw [List.getElem?_set_ne hjj] at hj'
        obtain ⟨u, h1, h2⟩ := h.rep i j' row d' hrow hj'
        exact ⟨u, by rw [List.getElem?_set_ne (by omega)]; exact h1, h2⟩
    · rw [List.getElem?_set_ne hii] at hi'
      obtain ⟨u, h1, h2⟩ := h.rep i' j' row' d' hi' hj'
      have hjl : j' < k := by
        rw [← h.len row' (List.mem_of_getElem? hi')]
        exact (List.getElem?_eq_some_iff.1 hj').1
      refine ⟨u, ?_, h2⟩
      rw [List.getElem?_set_ne ?_]
      · exact h1
      · intro he
        rcases Nat.lt_or_gt_of_ne hii with h3 | h3
        · have := Nat.mul_le_mul_right k (Nat.succ_le_of_lt h3)
          rw [Nat.succ_mul] at this
          omega
        · have := Nat.mul_le_mul_right k (Nat.succ_le_of_lt h3)
          rw [Nat.succ_mul] at this
          omega
end more
end Go.Sx
end
section
namespace Go.Sx
open Go Go.MapKept
def KeptP (w : World) (S : Nat → Prop) (g : Value → Option Value) (K : Value → Option (List D)) : Prop :=
  (∀ key, K key = none → g key = none) ∧ ∀ key row, K key = some row → ∃ us : List Value, g key = some (.agg us.toArray) ∧ us.length = row.length ∧ ∀ (j : Nat) d, row[j]? = some d → ∃ u, us[j]? = some u ∧ Rep w S u d
theorem KeptP.mono {w w' : World} {S S' : Nat → Prop} {g : Value → Option Value} {K : Value → Option (List D)} (h : KeptP w S g K) (hS : ∀ b, S b → b < w.heap.size → S' b ∧ w'.heap[b]? = w.heap[b]?) : KeptP w' S' g K :=
  ⟨h.1, fun key row hr => by
    obtain ⟨us, h1, h2, h3⟩ := h.2 key row hr
    exact ⟨us, h1, h2, fun j d hd => by
      obtain ⟨u, h4, h5⟩ := h3 j d hd
      exact ⟨u, h4, h5.mono hS⟩⟩⟩
end Go.Sx
end
section
namespace Go.Sx
open Go
abbrev eB (b : UInt8) : List D := [.v (.int .u8 b.toNat)]
def ixOf (n : Nat) (ops : Array Oper) (E : Env) (i : Nat) : Option (TypeId × Value × Value × Option Tmp × List Ob) :=
  match ops[i]? with
  | none => none
  | some o => if dstOk n o.dst && !isSel o.op then match (match o.guard with
      | none => some (none, [])
      | some (j, want) => (guardOf E ops j).map fun c => (some (c, want), [.bb c want])) with
    | none => none
    | some (cd, g) => match opsOk E cd o.op.operands.toList with
      | none => none
      | some q => match o.op with
        | .index t x ix => some (t, rho E x, rho E ix, o.dst, g ++ q)
        | _ => none
    else none
def chkIx (x : Option (TypeId × Value × Value × Option Tmp × List Ob)) : Option (TypeId × Value × Value × Option Tmp) × (List Nat × List Bool × List (Option Nat)) × Nat := match x with
  | some y => (some (y.1, y.2.1, y.2.2.1, y.2.2.2.1), obL y.2.2.2.2, (obP y.2.2.2.2).length)
  | none => (none, ([], [], []), 0)
def trivIx (x : Option (TypeId × Value × Value × Option Tmp × List Ob)) : List Nat × List Bool × List (Option Nat) := match x with
  | some y => obR y.2.2.2.2
  | none => ([], [], [])
theorem chkIx_sound {x : Option (TypeId × Value × Value × Option Tmp × List Ob)} {src : TypeId} {dt v : Value} {dst : Option Tmp} (h : chkIx x = (some (src, dt, v, dst), trivIx x, 0)) : ∃ p, x = some (src, dt, v, dst, p) ∧ All p := by
  cases x with
  | none => simp [chkIx] at h
  | some y =>
    obtain ⟨a, b, c, d, p⟩ := y
    simp only [chkIx, trivIx, Prod.mk.injEq, Option.some.injEq] at h
    obtain ⟨⟨rfl, rfl, rfl, rfl⟩, h2, h3⟩ := h
    refine ⟨p, rfl, All_of p h2 ?_⟩
    rw [List.eq_nil_of_length_eq_zero h3]
    trivial
section
variable {P : Program} {f : Func} [Pan f] {R : Act → World → Prop} {n : Nat} [Dfr n] {k : List Itm} {E : Env} {h r : List (Nat × Obj)} {F : List (List Nat × World)} {Y : Ghost}
theorem ixOf_sound {ops : Array Oper} {i : Nat} {src : TypeId} {dt xv : Value} {dst : Option Tmp} {p : List Ob} (he : ixOf n ops E i = some (src, dt, xv, dst, p)) (hp : All p)
    {a : Act} {w : World} {fps : List (List Nat)} (s : StF n E h r F Y a w fps) {K : Act → World → Prop} {Q : Exit → Act → World → Prop}
    (H : ∃ v' w', (Instr.index src dt xv).run P w = .ok v' w' ∧ ∀ a', Ag n (E.put dst (.val v')) a' → K a' w') : wpOp P ops Q i K a w := by
  unfold ixOf at he
  split at he
  · cases he
  rename_i o ho
  split at he
  case isFalse => cases he
  rename_i hd
  simp only [Bool.and_eq_true, Bool.not_eq_true'] at hd
  split at he
  · cases he
  rename_i cd g hg
  split at he
  · cases he
  rename_i q hq
  split at he
  case h_2 => cases he
  rename_i src' dt' x hc
  simp only [Option.some.injEq, Prod.mk.injEq] at he
  obtain ⟨rfl, rfl, rfl, rfl, rfl⟩ := he
  obtain ⟨hg1, hq1⟩ := All_append hp
  have hwant : Region.wanted o (yielded ops a.tmps) = true ∧ ∀ c wn, cd = some (c, wn) → c = wn := by
    cases hgd : o.guard with
    | none =>
      rw [hgd] at hg
      simp only [Option.some.injEq, Prod.mk.injEq] at hg
      refine ⟨by simp [Region.wanted, hgd], fun c wn h => ?_⟩
      rw [← hg.1] at h
      cases h
    | some y =>
      obtain ⟨j, want⟩ := y
      rw [hgd] at hg
      obtain ⟨c, hc, hcg⟩ := Option.map_eq_some_iff.1 hg
      simp only [Prod.mk.injEq] at hcg
      obtain ⟨rfl, rfl⟩ := hcg
      have hy := guardOf_sound s.ag hc
      have hcw : c = want := hg1.1
      refine ⟨by simp [Region.wanted, hgd, hy, hcw], fun c' wn h => ?_⟩
      injection h with h
      injection h with h1 h2
      rw [← h1, ← h2]
      exact hcw
  unfold wpOp
  simp only [ho]
  rw [if_pos hwant.1]
  refine .inl ?_
  obtain ⟨v', w', hrun, hk⟩ := H
  unfold Oper.wp
  have hcongr : execOp a.eval o = execOp (rho E) o := execOp_congr o (fun cs b hc => by have := hd.2; rw [hc] at this; cases this) (fun x hx => opsOk_sound s.ag hwant.2 _ _ hq hq1 x (by simpa using hx))
  rw [hcongr]
  unfold execOp
  simp only [hc, Sem.run_bind, hrun, Result.andThen_ok, Sem.run_pure]
  exact hk _ (s.ag.put hd.1 (.val v'))
theorem bytes_get {s : ByteArray} {i : Nat} {b : UInt8} (h : s.data.toList[i]? = some b) : s[i]? = some b := by
  obtain ⟨hi, he⟩ := List.getElem?_eq_some_iff.1 h
  have h1 : i < s.size := by simpa using hi
  rw [getElem?_pos s i h1]
  congr 1
theorem JR_idx {id L0 j : Nat} {ck : Bool} {Wp : List (Nat × List Nat)} {rest : List (Nat × Bool)} (t : TypeId) (s : ByteArray) (i : Int) (b : UInt8) (dst : Option Tmp)
    (he : chkIx (ixOf n (rgOf f id) E j) = (some (t, .string s, .int .i64 i, dst), trivIx (ixOf n (rgOf f id) E j), 0)) (hu : P.underlying t = some .string) (h0 : 0 ≤ i) (hb : s.data.toList[i.toNat]? = some b)
    (A : JR P f R n (rgOf f id) L0 ck rest (Wp.filter (·.1 != j)) k (E.put dst (.val (.int .u8 b.toNat))) h r F Y) :
    JR P f R n (rgOf f id) L0 ck ((j, false) :: rest) Wp k E h r F Y := by
  obtain ⟨p, he, hp⟩ := chkIx_sound he
  intro B Hd fps a w st hH hR hN hW
  simp only [PW]
  have h1 := bytes_get hb
  refine ixOf_sound he hp st ⟨.int .u8 b.toNat, w, by simp [Instr.index, asIntOf, run_underlying hu, h0, h1], fun a2 hA => ⟨fun hck b hb2 hl => rfl, ?_⟩⟩
  rw [filter_idsW]
  exact A B Hd fps a2 w ⟨hA, st.own, st.fr, st.may, st.gh⟩ hH hR hN (okWp_filter hW)
end
end Go.Sx
end
section
namespace Go.Proofs.YtonhcoeneahpaaaDoor
open Go Go.Sx
def sk4 : Sk := (.seq (.rg 0 false) (.seq (.rg 1 false) (.seq (.seq (.rg 2 false) (.cond (.tmp 19) (.seq (.rg 3 false) .ret) .skip)) (.seq (.seq (.rg 4 false) (.cond (.tmp 21) (.seq (.rg 5 false) (.rg 6 false)) .skip)) (.seq (.rg 7 false) (.seq (.rg 8 false) (.seq (.seq (.rg 9 true) (.cond (.tmp 60) (.seq (.rg 10 false) .ret) .skip)) (.seq (.seq (.rg 11 false) (.cond (.tmp 62) (.seq (.rg 12 false) .ret) .skip)) (.seq (.rg 13 false) (.seq (.rg 14 false) .ret))))))))))
theorem bd4 : Tryd.f4.body = some (sk4.code Tryd.f4) := by kernel_rfl
theorem ep4 {args : List Value} {w : World} {S : Nat → Prop} {G : List (Value × D)} {Rr : Ending → World → Prop} (hl : Nat.ble args.length Tryd.f4.ntmps = true) (hG : AllG w S G) (H : J Tryd.prog Tryd.f4 (retR Tryd.prog Tryd.f4 Rr) Tryd.f4.ntmps [.c sk4] (envOf 0 args) [] [] [([], w)] ⟨newS S [] w, [], G⟩) : Calls Tryd.prog 4 args.toArray w Rr :=
  calls_J Tryd.func4 bd4 rfl hl (Pre.none _ _) hG H
def sk5 : Sk := (.seq (.rg 0 false) (.seq (.rg 1 false) (.seq (.rg 2 false) (.seq (.rg 3 false) .ret))))
theorem bd5 : Tryd.f5.body = some (sk5.code Tryd.f5) := by kernel_rfl
theorem ep5 {args : List Value} {w : World} {S : Nat → Prop} {G : List (Value × D)} {Rr : Ending → World → Prop} (hl : Nat.ble args.length Tryd.f5.ntmps = true) (hG : AllG w S G) (H : J Tryd.prog Tryd.f5 (retR Tryd.prog Tryd.f5 Rr) Tryd.f5.ntmps [.c sk5] (envOf 0 args) [] [] [([], w)] ⟨newS S [] w, [], G⟩) : Calls Tryd.prog 5 args.toArray w Rr :=
  calls_J Tryd.func5 bd5 rfl hl (Pre.none _ _) hG H
def sk7 : Sk := (.seq (.rg 0 false) (.seq (.rg 1 false) (.seq (.rg 2 false) (.seq (.rg 3 false) (.seq (.rg 4 false) (.seq (.rg 5 false) (.seq (.rg 6 false) (.seq (.seq (.rg 7 false) (.block 0 (.loop (.seq (.rg 8 false) (.seq (.cond (.tmp 56) .skip (.exit 0)) (.seq (.block 1 (.seq (.rg 9 false) (.seq (.rg 10 false) (.seq (.rg 11 false) (.seq (.rg 12 false) (.seq (.rg 13 false) (.seq (.rg 14 false) (.seq (.rg 15 false) (.seq (.rg 16 false) (.seq (.rg 17 false) (.block 2 (.loop (.seq (.rg 18 false) (.seq (.cond (.tmp 96) .skip (.exit 2)) (.seq (.block 3 (.seq (.rg 19 false) (.rg 20 false))) (.rg 21 false)))))))))))))))) (.rg 22 false))))))) (.seq (.seq (.rg 23 false) (.cond (.tmp 115) (.seq (.rg 24 true) .ret) .skip)) (.seq (.rg 25 false) (.seq (.rg 26 false) .ret)))))))))))
theorem bd7 : Tryd.f7.body = some (sk7.code Tryd.f7) := by kernel_rfl
theorem ep7 {args : List Value} {w : World} {S : Nat → Prop} {G : List (Value × D)} {Rr : Ending → World → Prop} (hl : Nat.ble args.length Tryd.f7.ntmps = true) (hG : AllG w S G) (H : J Tryd.prog Tryd.f7 (retR Tryd.prog Tryd.f7 Rr) Tryd.f7.ntmps [.c sk7] (envOf 0 args) [] [] [([], w)] ⟨newS S [] w, [], G⟩) : Calls Tryd.prog 7 args.toArray w Rr :=
  calls_J Tryd.func7 bd7 rfl hl (Pre.none _ _) hG H
def sk10 : Sk := (.seq (.rg 0 false) (.seq (.rg 1 false) (.seq (.rg 2 false) .ret)))
theorem bd10 : Tryd.f10.body = some (sk10.code Tryd.f10) := by kernel_rfl
theorem ep10 {args : List Value} {w : World} {S : Nat → Prop} {G : List (Value × D)} {Rr : Ending → World → Prop} (hl : Nat.ble args.length Tryd.f10.ntmps = true) (hG : AllG w S G) (H : J Tryd.prog Tryd.f10 (retR Tryd.prog Tryd.f10 Rr) Tryd.f10.ntmps [.c sk10] (envOf 0 args) [] [] [([], w)] ⟨newS S [] w, [], G⟩) : Calls Tryd.prog 10 args.toArray w Rr :=
  calls_J Tryd.func10 bd10 rfl hl (Pre.none _ _) hG H
def sk11 : Sk := (.seq (.rg 0 false) (.seq (.rg 1 false) (.seq (.seq (.rg 2 false) (.cond (.tmp 15) (.seq (.rg 3 true) .ret) .skip)) (.seq (.seq (.rg 4 true) (.cond (.tmp 26) (.seq (.rg 5 true) .ret) .skip)) (.seq (.rg 6 false) (.seq (.rg 7 false) (.seq (.rg 8 false) (.seq (.seq (.rg 9 false) (.block 0 (.loop (.seq (.rg 10 false) (.seq (.cond (.tmp 51) .skip (.exit 0)) (.seq (.block 1 (.rg 11 true)) (.rg 12 false))))))) (.seq (.rg 13 false) (.seq (.seq (.rg 14 false) (.block 2 (.loop (.seq (.rg 15 false) (.seq (.cond (.tmp 69) .skip (.exit 2)) (.seq (.block 3 (.rg 16 true)) (.rg 17 false))))))) (.seq (.rg 18 false) (.seq (.rg 19 false) .ret))))))))))))
theorem bd11 : Tryd.f11.body = some (sk11.code Tryd.f11) := by kernel_rfl
def sk12 : Sk := (.seq (.rg 0 false) (.seq (.seq (.rg 1 false) (.cond (.tmp 44) (.seq (.rg 2 false) .ret) .skip)) (.seq (.rg 3 false) .ret)))
theorem bd12 : Tryd.f12.body = some (sk12.code Tryd.f12) := by kernel_rfl
theorem ep12 {args : List Value} {w : World} {S : Nat → Prop} {G : List (Value × D)} {Rr : Ending → World → Prop} (hl : Nat.ble args.length Tryd.f12.ntmps = true) (hG : AllG w S G) (H : J Tryd.prog Tryd.f12 (retR Tryd.prog Tryd.f12 Rr) Tryd.f12.ntmps [.c sk12] (envOf 0 args) [] [] [([], w)] ⟨newS S [] w, [], G⟩) : Calls Tryd.prog 12 args.toArray w Rr :=
  calls_J Tryd.func12 bd12 rfl hl (Pre.none _ _) hG H
def sk13 : Sk := (.seq (.rg 0 false) (.seq (.rg 1 false) .ret))
theorem bd13 : Tryd.f13.body = some (sk13.code Tryd.f13) := by kernel_rfl
theorem ep13 {args : List Value} {w : World} {S : Nat → Prop} {G : List (Value × D)} {Rr : Ending → World → Prop} (hl : Nat.ble args.length Tryd.f13.ntmps = true) (hG : AllG w S G) (H : J Tryd.prog Tryd.f13 (retR Tryd.prog Tryd.f13 Rr) Tryd.f13.ntmps [.c sk13] (envOf 0 args) [] [] [([], w)] ⟨newS S [] w, [], G⟩) : Calls Tryd.prog 13 args.toArray w Rr :=
  calls_J Tryd.func13 bd13 rfl hl (Pre.none _ _) hG H
def sk14 : Sk := (.seq (.rg 0 false) (.seq (.rg 1 false) (.seq (.seq (.rg 2 false) (.block 0 (.loop (.seq (.seq (.rg 3 false) (.cond (.tmp 10) .skip (.exit 0))) (.seq (.block 1 (.seq (.rg 5 false) (.block 2 (.loop (.seq (.seq (.rg 6 false) (.cond (.tmp 14) .skip (.exit 2))) (.seq (.block 3 (.seq (.rg 8 false) (.seq (.rg 9 false) (.seq (.rg 10 false) (.cond (.tmp 30) (.rg 11 false) .skip))))) (.rg 7 false))))))) (.rg 4 false)))))) (.seq (.rg 12 false) .ret))))
theorem bd14 : Tryd.f14.body = some (sk14.code Tryd.f14) := by kernel_rfl
theorem ep14 {args : List Value} {w : World} {S : Nat → Prop} {G : List (Value × D)} {Rr : Ending → World → Prop} (hl : Nat.ble args.length Tryd.f14.ntmps = true) (hG : AllG w S G) (H : J Tryd.prog Tryd.f14 (retR Tryd.prog Tryd.f14 Rr) Tryd.f14.ntmps [.c sk14] (envOf 0 args) [] [] [([], w)] ⟨newS S [] w, [], G⟩) : Calls Tryd.prog 14 args.toArray w Rr :=
  calls_J Tryd.func14 bd14 rfl hl (Pre.none _ _) hG H
def sk15 : Sk := (.seq (.rg 0 false) (.seq (.rg 1 false) .ret))
theorem bd15 : Tryd.f15.body = some (sk15.code Tryd.f15) := by kernel_rfl
theorem ep15 {args : List Value} {w : World} {S : Nat → Prop} {G : List (Value × D)} {Rr : Ending → World → Prop} (hl : Nat.ble args.length Tryd.f15.ntmps = true) (hG : AllG w S G) (H : J Tryd.prog Tryd.f15 (retR Tryd.prog Tryd.f15 Rr) Tryd.f15.ntmps [.c sk15] (envOf 0 args) [] [] [([], w)] ⟨newS S [] w, [], G⟩) : Calls Tryd.prog 15 args.toArray w Rr :=
  calls_J Tryd.func15 bd15 rfl hl (Pre.none _ _) hG H
def sk16 : Sk := (.seq (.rg 0 false) (.seq (.seq (.rg 1 false) (.cond (.tmp 23) (.seq (.rg 2 false) .ret) .skip)) (.seq (.rg 3 false) (.seq (.rg 4 false) (.seq (.seq (.rg 5 true) (.cond (.tmp 51) (.seq (.rg 6 false) .ret) .skip)) (.seq (.rg 7 false) (.seq (.rg 8 false) (.seq (.rg 9 false) (.seq (.rg 10 false) (.seq (.rg 11 false) (.seq (.rg 12 false) (.seq (.rg 13 false) (.seq (.rg 14 false) (.seq (.rg 15 false) (.seq (.seq (.rg 16 false) (.block 0 (.loop (.seq (.seq (.rg 17 false) (.cond (.tmp 86) .skip (.exit 0))) (.seq (.block 1 (.seq (.rg 19 false) (.rg 20 false))) (.rg 18 false)))))) (.seq (.rg 21 false) (.seq (.rg 22 false) (.seq (.seq (.rg 23 false) (.block 2 (.loop (.seq (.seq (.rg 24 false) (.cond (.tmp 114) .skip (.exit 2))) (.seq (.block 3 (.seq (.rg 26 false) (.seq (.rg 27 false) (.seq (.rg 28 false) (.seq (.rg 29 false) (.seq (.rg 30 false) (.seq (.rg 31 false) (.seq (.rg 32 false) (.seq (.rg 33 false) (.seq (.seq (.rg 34 false) (.block 4 (.loop (.seq (.seq (.rg 35 false) (.cond (.tmp 147) .skip (.exit 4))) (.seq (.block 5 (.seq (.rg 37 false) (.seq (.rg 38 false) (.seq (.rg 39 false) (.seq (.rg 40 false) (.rg 41 false)))))) (.rg 36 false)))))) (.rg 42 false))))))))))) (.rg 25 false)))))) (.seq (.seq (.rg 43 false) (.cond (.tmp 184) (.seq (.rg 44 false) .ret) .skip)) (.seq (.rg 45 false) .ret))))))))))))))))))))
theorem bd16 : Tryd.f16.body = some (sk16.code Tryd.f16) := by kernel_rfl
theorem ep16 {args : List Value} {w : World} {S : Nat → Prop} {G : List (Value × D)} {Rr : Ending → World → Prop} (hl : Nat.ble args.length Tryd.f16.ntmps = true) (hG : AllG w S G) (H : J Tryd.prog Tryd.f16 (retR Tryd.prog Tryd.f16 Rr) Tryd.f16.ntmps [.c sk16] (envOf 0 args) [] [] [([], w)] ⟨newS S [] w, [], G⟩) : Calls Tryd.prog 16 args.toArray w Rr :=
  calls_J Tryd.func16 bd16 rfl hl (Pre.none _ _) hG H
def sk17 : Sk := (.seq (.rg 0 false) (.block 0 (.loop (.seq (.rg 1 false) (.seq (.cond (.tmp 10) .skip (.exit 0)) (.seq (.block 1 (.seq (.rg 2 false) (.seq (.rg 3 false) (.block 2 (.loop (.seq (.seq (.rg 4 false) (.cond (.tmp 14) .skip (.exit 2))) (.seq (.block 3 (.rg 6 true)) (.rg 5 false)))))))) (.rg 7 false)))))))
theorem bd17 : Tryd.f17.body = some (sk17.code Tryd.f17) := by kernel_rfl
theorem en17 {args : List Value} {w : World} {S : Nat → Prop} {M : List Nat} {C : List Chunk} {G : List (Value × D)} {Rr : Ending → World → Prop} (hl : Nat.ble args.length Tryd.f17.ntmps = true) (hp : Pre w S M C) (hG : AllG w S G) (H : J Tryd.prog Tryd.f17 (retR Tryd.prog Tryd.f17 Rr) Tryd.f17.ntmps [.c sk17] (envOf 0 args) [] [] [(M, w)] ⟨newS S M w, C, G⟩) : Calls Tryd.prog 17 args.toArray w Rr :=
  calls_J Tryd.func17 bd17 rfl hl hp hG H
def sk18 : Sk := (.seq (.seq (.rg 0 false) (.cond (.tmp 4) (.seq (.rg 1 false) .ret) .skip)) (.rg 2 false))
theorem bd18 : Tryd.f18.body = some (sk18.code Tryd.f18) := by kernel_rfl
theorem en18 {args : List Value} {w : World} {S : Nat → Prop} {M : List Nat} {C : List Chunk} {G : List (Value × D)} {Rr : Ending → World → Prop} (hl : Nat.ble args.length Tryd.f18.ntmps = true) (hp : Pre w S M C) (hG : AllG w S G) (H : J Tryd.prog Tryd.f18 (retR Tryd.prog Tryd.f18 Rr) Tryd.f18.ntmps [.c sk18] (envOf 0 args) [] [] [(M, w)] ⟨newS S M w, C, G⟩) : Calls Tryd.prog 18 args.toArray w Rr :=
  calls_J Tryd.func18 bd18 rfl hl hp hG H
def sk19 : Sk := (.seq (.rg 0 false) (.rg 1 false))
theorem bd19 : Tryd.f19.body = some (sk19.code Tryd.f19) := by kernel_rfl
theorem en19 {args : List Value} {w : World} {S : Nat → Prop} {M : List Nat} {C : List Chunk} {G : List (Value × D)} {Rr : Ending → World → Prop} (hl : Nat.ble args.length Tryd.f19.ntmps = true) (hp : Pre w S M C) (hG : AllG w S G) (H : J Tryd.prog Tryd.f19 (retR Tryd.prog Tryd.f19 Rr) Tryd.f19.ntmps [.c sk19] (envOf 0 args) [] [] [(M, w)] ⟨newS S M w, C, G⟩) : Calls Tryd.prog 19 args.toArray w Rr :=
  calls_J Tryd.func19 bd19 rfl hl hp hG H
def sk20 : Sk := (.seq (.rg 0 false) (.seq (.rg 1 false) .ret))
theorem bd20 : Tryd.f20.body = some (sk20.code Tryd.f20) := by kernel_rfl
theorem ep20 {args : List Value} {w : World} {S : Nat → Prop} {G : List (Value × D)} {Rr : Ending → World → Prop} (hl : Nat.ble args.length Tryd.f20.ntmps = true) (hG : AllG w S G) (H : J Tryd.prog Tryd.f20 (retR Tryd.prog Tryd.f20 Rr) Tryd.f20.ntmps [.c sk20] (envOf 0 args) [] [] [([], w)] ⟨newS S [] w, [], G⟩) : Calls Tryd.prog 20 args.toArray w Rr :=
  calls_J Tryd.func20 bd20 rfl hl (Pre.none _ _) hG H
def sk21 : Sk := (.seq (.rg 0 false) (.seq (.rg 1 false) (.seq (.seq (.rg 2 false) (.block 0 (.loop (.seq (.rg 3 false) (.seq (.cond (.tmp 8) .skip (.exit 0)) (.seq (.block 1 (.seq (.rg 4 false) (.seq (.rg 5 false) (.seq (.rg 6 false) (.block 2 (.loop (.seq (.rg 7 false) (.seq (.cond (.tmp 17) .skip (.exit 2)) (.seq (.block 3 (.rg 8 false)) (.rg 9 false)))))))))) (.rg 10 false))))))) (.seq (.rg 11 false) .ret))))
theorem bd21 : Tryd.f21.body = some (sk21.code Tryd.f21) := by kernel_rfl
theorem ep21 {args : List Value} {w : World} {S : Nat → Prop} {G : List (Value × D)} {Rr : Ending → World → Prop} (hl : Nat.ble args.length Tryd.f21.ntmps = true) (hG : AllG w S G) (H : J Tryd.prog Tryd.f21 (retR Tryd.prog Tryd.f21 Rr) Tryd.f21.ntmps [.c sk21] (envOf 0 args) [] [] [([], w)] ⟨newS S [] w, [], G⟩) : Calls Tryd.prog 21 args.toArray w Rr :=
  calls_J Tryd.func21 bd21 rfl hl (Pre.none _ _) hG H
def sk25 : Sk := (.seq (.rg 0 false) (.seq (.seq (.rg 1 false) (.cond (.tmp 8) (.seq (.rg 2 false) .ret) .skip)) (.seq (.rg 3 false) (.seq (.rg 4 false) (.seq (.seq (.rg 5 false) (.cond (.tmp 11) (.rg 6 false) .skip)) (.seq (.seq (.rg 7 false) (.block 0 (.loop (.seq (.rg 8 false) (.seq (.cond (.tmp 31) .skip (.exit 0)) (.seq (.block 1 (.seq (.rg 9 false) (.seq (.rg 10 false) (.cond (.tmp 37) (.seq (.rg 11 false) .ret) .skip)))) (.rg 12 false))))))) (.seq (.rg 13 false) .ret)))))))
theorem bd25 : Tryd.f25.body = some (sk25.code Tryd.f25) := by kernel_rfl
theorem ep25 {args : List Value} {w : World} {S : Nat → Prop} {G : List (Value × D)} {Rr : Ending → World → Prop} (hl : Nat.ble args.length Tryd.f25.ntmps = true) (hG : AllG w S G) (H : J Tryd.prog Tryd.f25 (retR Tryd.prog Tryd.f25 Rr) Tryd.f25.ntmps [.c sk25] (envOf 0 args) [] [] [([], w)] ⟨newS S [] w, [], G⟩) : Calls Tryd.prog 25 args.toArray w Rr :=
  calls_J Tryd.func25 bd25 rfl hl (Pre.none _ _) hG H
def sk26 : Sk := (.seq (.rg 0 false) (.seq (.rg 1 false) (.cond (.tmp 7) (.seq (.seq (.rg 2 false) (.seq (.rg 3 false) (.cond (.tmp 14) (.rg 4 false) .skip))) (.rg 5 false)) .skip)))
theorem bd26 : Tryd.f26.body = some (sk26.code Tryd.f26) := by kernel_rfl
def sk27 : Sk := (.seq (.rg 0 false) (.seq (.rg 1 false) (.seq (.rg 2 false) (.seq (.seq (.rg 3 false) (.block 0 (.loop (.seq (.rg 4 false) (.seq (.cond (.tmp 13) .skip (.exit 0)) (.seq (.block 1 (.seq (.rg 5 false) (.rg 6 false))) (.rg 7 false))))))) (.seq (.rg 8 false) (.seq (.rg 9 false) .ret))))))
theorem bd27 : Tryd.f27.body = some (sk27.code Tryd.f27) := by kernel_rfl
def sk28 : Sk := (.seq (.rg 0 false) (.seq (.rg 1 false) (.seq (.rg 2 false) (.seq (.rg 3 false) .ret))))
theorem bd28 : Tryd.f28.body = some (sk28.code Tryd.f28) := by kernel_rfl
def sk29 : Sk := (.seq (.rg 0 false) (.seq (.rg 1 false) (.seq (.rg 2 false) (.seq (.rg 3 false) .ret))))
theorem bd29 : Tryd.f29.body = some (sk29.code Tryd.f29) := by kernel_rfl
def sk30 : Sk := (.seq (.rg 0 false) (.seq (.rg 1 false) (.seq (.seq (.rg 2 false) (.block 0 (.loop (.seq (.rg 3 false) (.seq (.cond (.tmp 20) .skip (.exit 0)) (.seq (.block 1 (.rg 4 true)) (.rg 5 false))))))) (.seq (.rg 6 false) .ret))))
theorem bd30 : Tryd.f30.body = some (sk30.code Tryd.f30) := by kernel_rfl
def sk31 : Sk := (.seq (.rg 0 false) (.cond (.tmp 3) (.rg 1 false) .skip))
theorem bd31 : Tryd.f31.body = some (sk31.code Tryd.f31) := by kernel_rfl
def sk32 : Sk := (.seq (.rg 0 false) (.seq (.seq (.rg 1 false) (.cond (.tmp 28) (.seq (.rg 2 false) .ret) .skip)) (.seq (.seq (.rg 3 false) (.block 0 (.loop (.seq (.seq (.rg 4 false) (.cond (.tmp 33) .skip (.exit 0))) (.seq (.block 1 (.seq (.rg 6 true) (.seq (.rg 7 false) (.cond (.tmp 48) (.seq (.rg 8 false) .ret) .skip)))) (.rg 5 false)))))) (.seq (.rg 9 false) .ret))))
theorem bd32 : Tryd.f32.body = some (sk32.code Tryd.f32) := by kernel_rfl
theorem ep32 {args : List Value} {w : World} {S : Nat → Prop} {G : List (Value × D)} {Rr : Ending → World → Prop} (hl : Nat.ble args.length Tryd.f32.ntmps = true) (hG : AllG w S G) (H : J Tryd.prog Tryd.f32 (retR Tryd.prog Tryd.f32 Rr) Tryd.f32.ntmps [.c sk32] (envOf 0 args) [] [] [([], w)] ⟨newS S [] w, [], G⟩) : Calls Tryd.prog 32 args.toArray w Rr :=
  calls_J Tryd.func32 bd32 rfl hl (Pre.none _ _) hG H
def sk33 : Sk := (.seq (.rg 0 false) (.seq (.seq (.rg 1 false) (.cond (.tmp 16) (.seq (.rg 2 false) (.seq (.rg 3 false) .ret)) .skip)) (.seq (.rg 4 false) (.seq (.seq (.rg 5 false) (.block 0 (.loop (.seq (.seq (.rg 6 false) (.cond (.tmp 21) .skip (.exit 0))) (.seq (.block 1 (.rg 8 false)) (.rg 7 false)))))) (.seq (.rg 9 false) (.seq (.rg 10 false) .ret))))))
theorem bd33 : Tryd.f33.body = some (sk33.code Tryd.f33) := by kernel_rfl
theorem en33 {args : List Value} {w : World} {S : Nat → Prop} {M : List Nat} {C : List Chunk} {G : List (Value × D)} {Rr : Ending → World → Prop} (hl : Nat.ble args.length Tryd.f33.ntmps = true) (hp : Pre w S M C) (hG : AllG w S G) (H : J Tryd.prog Tryd.f33 (retR Tryd.prog Tryd.f33 Rr) Tryd.f33.ntmps [.c sk33] (envOf 0 args) [] [] [(M, w)] ⟨newS S M w, C, G⟩) : Calls Tryd.prog 33 args.toArray w Rr :=
  calls_J Tryd.func33 bd33 rfl hl hp hG H
def sk34 : Sk := (.seq (.rg 0 false) (.seq (.rg 1 false) (.seq (.seq (.rg 2 false) (.cond (.tmp 11) (.rg 3 false) .skip)) (.seq (.rg 4 false) .ret))))
theorem bd34 : Tryd.f34.body = some (sk34.code Tryd.f34) := by kernel_rfl
theorem en34 {args : List Value} {w : World} {S : Nat → Prop} {M : List Nat} {C : List Chunk} {G : List (Value × D)} {Rr : Ending → World → Prop} (hl : Nat.ble args.length Tryd.f34.ntmps = true) (hp : Pre w S M C) (hG : AllG w S G) (H : J Tryd.prog Tryd.f34 (retR Tryd.prog Tryd.f34 Rr) Tryd.f34.ntmps [.c sk34] (envOf 0 args) [] [] [(M, w)] ⟨newS S M w, C, G⟩) : Calls Tryd.prog 34 args.toArray w Rr :=
  calls_J Tryd.func34 bd34 rfl hl hp hG H
def sk35 : Sk := (.seq (.rg 0 false) (.seq (.rg 1 false) (.seq (.seq (.rg 2 false) (.cond (.tmp 16) (.seq (.rg 3 false) (.seq (.rg 4 false) .ret)) .skip)) (.seq (.rg 5 false) .ret))))
theorem bd35 : Tryd.f35.body = some (sk35.code Tryd.f35) := by kernel_rfl
theorem en35 {args : List Value} {w : World} {S : Nat → Prop} {M : List Nat} {C : List Chunk} {G : List (Value × D)} {Rr : Ending → World → Prop} (hl : Nat.ble args.length Tryd.f35.ntmps = true) (hp : Pre w S M C) (hG : AllG w S G) (H : J Tryd.prog Tryd.f35 (retR Tryd.prog Tryd.f35 Rr) Tryd.f35.ntmps [.c sk35] (envOf 0 args) [] [] [(M, w)] ⟨newS S M w, C, G⟩) : Calls Tryd.prog 35 args.toArray w Rr :=
  calls_J Tryd.func35 bd35 rfl hl hp hG H
def sk36 : Sk := (.seq (.rg 0 false) (.seq (.rg 1 false) (.seq (.rg 2 false) (.seq (.rg 3 false) (.seq (.rg 4 false) .ret)))))
theorem bd36 : Tryd.f36.body = some (sk36.code Tryd.f36) := by kernel_rfl
theorem en36 {args : List Value} {w : World} {S : Nat → Prop} {M : List Nat} {C : List Chunk} {G : List (Value × D)} {Rr : Ending → World → Prop} (hl : Nat.ble args.length Tryd.f36.ntmps = true) (hp : Pre w S M C) (hG : AllG w S G) (H : J Tryd.prog Tryd.f36 (retR Tryd.prog Tryd.f36 Rr) Tryd.f36.ntmps [.c sk36] (envOf 0 args) [] [] [(M, w)] ⟨newS S M w, C, G⟩) : Calls Tryd.prog 36 args.toArray w Rr :=
  calls_J Tryd.func36 bd36 rfl hl hp hG H
def sk39 : Sk := (.seq (.rg 0 false) (.seq (.rg 1 false) (.seq (.rg 2 false) (.seq (.rg 3 false) (.seq (.rg 4 false) .ret)))))
theorem bd39 : Tryd.f39.body = some (sk39.code Tryd.f39) := by kernel_rfl
def sk40 : Sk := (.seq (.rg 0 false) (.seq (.seq (.rg 1 false) (.cond (.tmp 10) (.seq (.rg 2 false) .ret) .skip)) (.seq (.seq (.rg 3 false) (.block 0 (.loop (.seq (.seq (.rg 4 false) (.cond (.tmp 14) .skip (.exit 0))) (.seq (.block 1 (.seq (.rg 6 true) (.cond (.tmp 25) (.seq (.rg 7 false) .ret) .skip))) (.rg 5 false)))))) (.seq (.rg 8 false) .ret))))
theorem bd40 : Tryd.f40.body = some (sk40.code Tryd.f40) := by kernel_rfl
theorem ep40 {args : List Value} {w : World} {S : Nat → Prop} {G : List (Value × D)} {Rr : Ending → World → Prop} (hl : Nat.ble args.length Tryd.f40.ntmps = true) (hG : AllG w S G) (H : J Tryd.prog Tryd.f40 (retR Tryd.prog Tryd.f40 Rr) Tryd.f40.ntmps [.c sk40] (envOf 0 args) [] [] [([], w)] ⟨newS S [] w, [], G⟩) : Calls Tryd.prog 40 args.toArray w Rr :=
  calls_J Tryd.func40 bd40 rfl hl (Pre.none _ _) hG H
def sk41 : Sk := (.seq (.rg 0 false) (.seq (.seq (.rg 1 false) (.cond (.tmp 44) (.seq (.rg 2 false) .ret) .skip)) (.seq (.rg 3 false) .ret)))
theorem bd41 : Tryd.f41.body = some (sk41.code Tryd.f41) := by kernel_rfl
theorem ep41 {args : List Value} {w : World} {S : Nat → Prop} {G : List (Value × D)} {Rr : Ending → World → Prop} (hl : Nat.ble args.length Tryd.f41.ntmps = true) (hG : AllG w S G) (H : J Tryd.prog Tryd.f41 (retR Tryd.prog Tryd.f41 Rr) Tryd.f41.ntmps [.c sk41] (envOf 0 args) [] [] [([], w)] ⟨newS S [] w, [], G⟩) : Calls Tryd.prog 41 args.toArray w Rr :=
  calls_J Tryd.func41 bd41 rfl hl (Pre.none _ _) hG H
def sk48 : Sk := (.seq (.rg 0 false) (.seq (.seq (.rg 1 false) (.cond (.tmp 10) (.seq (.rg 2 false) .ret) .skip)) (.seq (.seq (.rg 3 false) (.block 0 (.loop (.seq (.seq (.rg 4 false) (.cond (.tmp 14) .skip (.exit 0))) (.seq (.block 1 (.seq (.rg 6 true) (.cond (.tmp 25) (.seq (.rg 7 false) .ret) .skip))) (.rg 5 false)))))) (.seq (.rg 8 false) .ret))))
theorem bd48 : Tryd.f48.body = some (sk48.code Tryd.f48) := by kernel_rfl
theorem ep48 {args : List Value} {w : World} {S : Nat → Prop} {G : List (Value × D)} {Rr : Ending → World → Prop} (hl : Nat.ble args.length Tryd.f48.ntmps = true) (hG : AllG w S G) (H : J Tryd.prog Tryd.f48 (retR Tryd.prog Tryd.f48 Rr) Tryd.f48.ntmps [.c sk48] (envOf 0 args) [] [] [([], w)] ⟨newS S [] w, [], G⟩) : Calls Tryd.prog 48 args.toArray w Rr :=
  calls_J Tryd.func48 bd48 rfl hl (Pre.none _ _) hG H
end Go.Proofs.YtonhcoeneahpaaaDoor
end
section
namespace Go.Sx
open Go
def tsD (dl : List Nat) (nw E : Env) : List Nat := nw.map (·.1) ++ (E.map (·.1)).filter fun t => !(dl.contains t || (nw.map (·.1)).contains t)
def eE (dl : List Nat) (nw E : Env) : Env := keepE (nw ++ E) (tsD dl nw E)
def eN (dl : List Nat) (nw : (Nat → Nat) → Env) (nu : Nat → Nat) (E : Env) : Env := keepE (nw nu ++ E) (tsD dl (nw fun _ => 0) E)
section
variable {P : Program} {f : Func} [Pan f] {R : Act → World → Prop} {n : Nat} [Dfr n] {k : List Itm} {E : Env} {h r : List (Nat × Obj)} {F : List (List Nat × World)} {Y : Ghost}
theorem Za {id : Nat} {d : Bool} (pl : List Pl) (dl : List Nat) (nw : Env) (H : J P f R n k (eE dl nw E) (h) r F Y) (hok : (regOk f id d (pl.map Pl.key) && okWp h.length []) = true := by kernel_rfl) (hr : ∀ nu, (packed (runReg P n nu f id h.length d pl [] E h r (tsD dl nw E)), trivL (runReg P n nu f id h.length d pl [] E h r (tsD dl nw E))) = (some (eE dl nw E, h, [], []), trivR (runReg P n nu f id h.length d pl [] E h r (tsD dl nw E))) := by intro _; kernel_rfl) (hm : P.follows .mixedOrders = true := by kernel_rfl) : J P f R n (.c (.rg id d) :: k) E h r F Y := J_reg hm pl [] (tsD dl nw E) hok hr (fun _ => trivial) (fun _ => H)
theorem Zp {id : Nat} {d : Bool} (pl : List Pl) (dl : List Nat) (nw : Env) (p : List Prop) (hp : AllP p) (H : J P f R n k (eE dl nw E) (h) r F Y) (hok : (regOk f id d (pl.map Pl.key) && okWp h.length []) = true := by kernel_rfl) (hr : ∀ nu, (packed (runReg P n nu f id h.length d pl [] E h r (tsD dl nw E)), trivL (runReg P n nu f id h.length d pl [] E h r (tsD dl nw E))) = (some (eE dl nw E, h, p, []), trivR (runReg P n nu f id h.length d pl [] E h r (tsD dl nw E))) := by intro _; kernel_rfl) (hm : P.follows .mixedOrders = true := by kernel_rfl) : J P f R n (.c (.rg id d) :: k) E h r F Y := J_reg hm pl [] (tsD dl nw E) hok hr (fun _ => hp) (fun _ => H)
theorem Zm {id : Nat} {d : Bool} (pl : List Pl) (Wp : List (Nat × List Nat)) (dl : List Nat) (nw : (Nat → Nat) → Env) (h1 : (Nat → Nat) → List (Nat × Obj)) (H : ∀ nu, J P f R n k (eN dl nw nu E) (h1 nu) r F Y) (hok : (regOk f id d (pl.map Pl.key) && okWp h.length Wp) = true := by kernel_rfl) (hr : ∀ nu, (packed (runReg P n nu f id h.length d pl Wp E h r (tsD dl (nw fun _ => 0) E)), trivL (runReg P n nu f id h.length d pl Wp E h r (tsD dl (nw fun _ => 0) E))) = (some (eN dl nw nu E, h1 nu, [], []), trivR (runReg P n nu f id h.length d pl Wp E h r (tsD dl (nw fun _ => 0) E))) := by intro _; kernel_rfl) (hm : P.follows .mixedOrders = true := by kernel_rfl) : J P f R n (.c (.rg id d) :: k) E h r F Y := J_reg hm pl Wp (tsD dl (nw fun _ => 0) E) hok hr (fun _ => trivial) H
theorem Zn {id : Nat} {d : Bool} (pl : List Pl) (Wp : List (Nat × List Nat)) (dl : List Nat) (nw : (Nat → Nat) → Env) (h1 : (Nat → Nat) → List (Nat × Obj)) (p : (Nat → Nat) → List Prop) (hp : ∀ nu, AllP (p nu)) (H : ∀ nu, J P f R n k (eN dl nw nu E) (h1 nu) r F Y) (hok : (regOk f id d (pl.map Pl.key) && okWp h.length Wp) = true := by kernel_rfl) (hr : ∀ nu, (packed (runReg P n nu f id h.length d pl Wp E h r (tsD dl (nw fun _ => 0) E)), trivL (runReg P n nu f id h.length d pl Wp E h r (tsD dl (nw fun _ => 0) E))) = (some (eN dl nw nu E, h1 nu, p nu, []), trivR (runReg P n nu f id h.length d pl Wp E h r (tsD dl (nw fun _ => 0) E))) := by intro _; kernel_rfl) (hm : P.follows .mixedOrders = true := by kernel_rfl) : J P f R n (.c (.rg id d) :: k) E h r F Y := J_reg hm pl Wp (tsD dl (nw fun _ => 0) E) hok hr hp H
theorem Ya {id L0 : Nat} {ck : Bool} {Wp : List (Nat × List Nat)} {rest : List (Nat × Bool)} (pl : List Pl) (dl : List Nat) (nw : Env) (H : JR P f R n (rgOf f id) L0 ck rest Wp k (eE dl nw E) (h) r F Y) (hr : ∀ nu, (packed (runReg P n nu f id L0 ck pl Wp E h r (tsD dl nw E)), trivL (runReg P n nu f id L0 ck pl Wp E h r (tsD dl nw E))) = (some (eE dl nw E, h, [], Wp), trivR (runReg P n nu f id L0 ck pl Wp E h r (tsD dl nw E))) := by intro _; kernel_rfl) : JR P f R n (rgOf f id) L0 ck (pl.map Pl.key ++ rest) Wp k E h r F Y := JR_run pl (tsD dl nw E) hr (fun _ => trivial) (fun _ => H)
theorem Yp {id L0 : Nat} {ck : Bool} {Wp : List (Nat × List Nat)} {rest : List (Nat × Bool)} (pl : List Pl) (dl : List Nat) (nw : Env) (p : List Prop) (hp : AllP p) (H : JR P f R n (rgOf f id) L0 ck rest Wp k (eE dl nw E) (h) r F Y) (hr : ∀ nu, (packed (runReg P n nu f id L0 ck pl Wp E h r (tsD dl nw E)), trivL (runReg P n nu f id L0 ck pl Wp E h r (tsD dl nw E))) = (some (eE dl nw E, h, p, Wp), trivR (runReg P n nu f id L0 ck pl Wp E h r (tsD dl nw E))) := by intro _; kernel_rfl) : JR P f R n (rgOf f id) L0 ck (pl.map Pl.key ++ rest) Wp k E h r F Y := JR_run pl (tsD dl nw E) hr (fun _ => hp) (fun _ => H)
theorem Ym {id L0 : Nat} {ck : Bool} {Wp : List (Nat × List Nat)} {rest : List (Nat × Bool)} (pl : List Pl) (dl : List Nat) (nw : (Nat → Nat) → Env) (h1 : (Nat → Nat) → List (Nat × Obj)) (W1 : List (Nat × List Nat)) (H : ∀ nu, JR P f R n (rgOf f id) L0 ck rest W1 k (eN dl nw nu E) (h1 nu) r F Y) (hr : ∀ nu, (packed (runReg P n nu f id L0 ck pl Wp E h r (tsD dl (nw fun _ => 0) E)), trivL (runReg P n nu f id L0 ck pl Wp E h r (tsD dl (nw fun _ => 0) E))) = (some (eN dl nw nu E, h1 nu, [], W1), trivR (runReg P n nu f id L0 ck pl Wp E h r (tsD dl (nw fun _ => 0) E))) := by intro _; kernel_rfl) : JR P f R n (rgOf f id) L0 ck (pl.map Pl.key ++ rest) Wp k E h r F Y := JR_run pl (tsD dl (nw fun _ => 0) E) hr (fun _ => trivial) H
theorem Yc {S0 : Nat → Prop} {C0 : List Chunk} {G0 : List (Value × D)} {id L0 i : Nat} {ck : Bool} {Wp : List (Nat × List Nat)} {rest : List (Nat × Bool)} (fid : FuncId) (args : Array Value) (dst : Option Tmp)
    (C : ∀ w S, AllG w S G0 → Calls P fid args w fun e w' => ∃ v C' G', Ret [] w S w' e v C' G' ∧
      JR P f R n (rgOf f id) L0 ck rest (Wp.filter (·.1 != i)) k (E.put dst (.val v)) h r F ⟨S0, C0 ++ C', G0 ++ G'⟩)
    (he : chkC (callOf P n (rgOf f id) h r E i []) = (some (fid, args, dst), trivC (callOf P n (rgOf f id) h r E i []), 0) := by kernel_rfl) :
    JR P f R n (rgOf f id) L0 ck ((i, false) :: rest) Wp k E h r F ⟨S0, C0, G0⟩ := JR_callp [] fid args dst he C
theorem Yr {n : Nat} {Rr : Ending → World → Prop} (hss : List (List Hn)) (v : Value) (H : ∀ a w, St n E h r F Y a w → Rr (.returned v) w)
    (he : chkV (retV P f E h r hss) = (some v, trivV (retV P f E h r hss), 0) := by kernel_rfl) : J P f (retR P f Rr) n (.c .ret :: k) E h r F Y := J_return hss v he H
theorem Nm {S0 : Nat → Prop} {C0 : List Chunk} {G0 : List (Value × D)} (C' : List Chunk) (H : J P f R n k E h r F ⟨S0, C', G0⟩) (hC : C0 = C' := by kernel_rfl) : J P f R n k E h r F ⟨S0, C0, G0⟩ := by
  subst hC
  exact H
theorem jT {id : Nat} {d : Bool} (plan : List (Nat × Bool)) (Wp : List (Nat × List Nat)) (H : JR P f R n (rgOf f id) h.length d plan Wp k E h r F Y) (hok : regOk f id d plan = true := by kernel_rfl) (hWp : okWp h.length Wp = true := by kernel_rfl) (hm : P.follows .mixedOrders = true := by kernel_rfl) : J P f R n (.c (.rg id d) :: k) E h r F Y := JR_begin hm plan Wp hok hWp H
end
theorem aQ {α : Type _} : (∀ (a : α) (l m : List α), a :: l ++ m = a :: (l ++ m)) ∧ (∀ l : List α, [] ++ l = l) ∧ ∀ l : List α, l ++ [] = l := ⟨fun _ _ _ => List.cons_append, List.nil_append, List.append_nil⟩
def Rds (a b : Nat) : List Pl := (List.range (b - a)).map fun i => .rd (a + i) [] 0 0
end Go.Sx
end
section
namespace Go.Proofs.YtonhcoeneahpaaaDoor
open Go Go.Sx
def xorU (a b : Int) : Int := IntKind.u32.wrap (BitVec.ofInt IntKind.u32.bits a ^^^ BitVec.ofInt IntKind.u32.bits b).toNat
def andU (a b : Int) : Int := IntKind.u32.wrap (BitVec.ofInt IntKind.u32.bits a &&& BitVec.ofInt IntKind.u32.bits b).toNat
def stepU (d : Int) : Int := xorU (d.fdiv (2 ^ min (Int.toNat 1) IntKind.u32.bits)) (IntKind.u32.wrap (3988292384 * andU d 1))
def iterU : Nat → Int → Int
  | 0, d => d
  | n + 1, d => stepU (iterU n d)
def notU (c : Int) : Int := xorU (if IntKind.u32.signed = true then -1 else IntKind.u32.max) c
def crcU (l : List UInt8) : Int := l.foldl (fun c b => iterU 8 (xorU c (IntKind.u32.wrap (b.toNat : Int)))) 4294967295
theorem crcU_snoc {l : List UInt8} {i : Nat} {b : UInt8} (h : l[i]? = some b) : crcU (l.take (i + 1)) = iterU 8 (xorU (crcU (l.take i)) (IntKind.u32.wrap (b.toNat : Int))) := by
  rw [List.take_add_one, h]
  simp [crcU, List.foldl_append]
def xorI (a b : Int) : Int := IntKind.i64.wrap (BitVec.ofInt IntKind.i64.bits a ^^^ BitVec.ofInt IntKind.i64.bits b).toNat
def bitR (d : Int) (b : UInt8) (k : Int) : Int := (xorI d ((IntKind.i64.wrap (b.toNat : Int)).fdiv (2 ^ min (Int.toNat k) IntKind.i64.bits))).tmod 2
def stepR (d : Int) (b : UInt8) (k : Int) : Int := if (bitR d b k == 1) = true then xorI (IntKind.i64.wrap (d.tdiv 2)) 3988292384 else IntKind.i64.wrap (d.tdiv 2)
def iterR (c : Int) (b : UInt8) : Nat → Int
  | 0 => c
  | n + 1 => stepR (iterR c b n) b n
def crcR (l : List UInt8) : Int := l.foldl (fun c b => iterR c b 8) 4294967295
theorem crcR_snoc {l : List UInt8} {i : Nat} {b : UInt8} (h : l[i]? = some b) : crcR (l.take (i + 1)) = iterR (crcR (l.take i)) b 8 := by
  rw [List.take_add_one, h]
  simp [crcR, List.foldl_append]
set_option maxHeartbeats 4000000 in
theorem crcPW {w : World} {S : Nat → Prop} {s0 : ByteArray} (h9 : s0.size ≤ 100000) : Calls Tryd.prog 21 #[.string s0] w fun e w' => Ret [] w S w' e (.int .u32 (notU (crcU s0.data.toList))) [] [] := by
  refine ep21 (args := [.string s0]) (G := []) (by kernel_rfl) (AllG.nil w S) ?_
  have hz : s0.data.toList.length = s0.size := by simp
  refine J_seq ?_
  refine Za [.rd 0 [] 0 0] [] [(2, .val (.int .u32 0))] ?_
  refine J_seq ?_
  refine Za [.rd 0 [] 0 0] [] [(3, .val (.int .u32 4294967295))] ?_
  refine J_seq ?_
  refine J_seq ?_
  refine Za (Rds 0 3) [] [(6, .val (.int .i64 (↑s0.size : Int))), (7, .val (.int .i64 0))] ?_
  refine J_block ?_
  refine J_loopx (fun x : Int × Int => [(0, .val (.string s0)), (2, .val (.int .u32 0)), (3, .val (.int .u32 x.2)), (6, .val (.int .i64 (↑s0.size : Int))), (7, .val (.int .i64 x.1))]) (fun x : Int × Int => []) (fun x : Int × Int => []) (fun x : Int × Int => []) (fun x : Int × Int => (s0.size - x.1).toNat) (fun x : Int × Int => (0 ≤ x.1 ∧ x.1 ≤ s0.size ∧ x.2 = crcU (s0.data.toList.take x.1.toNat))) (0, 4294967295) [0, 2, 3, 6, 7] [] [] [] ?_ (by kernel_rfl) rfl rfl rfl ?_
  · exact ⟨by simp, by omega, by simp [crcU]⟩
  rintro ⟨i, c⟩ ⟨hi0, hi, hc⟩
  refine J_seq ?_
  refine Za [.rd 0 [] 0 0] [] [(8, .val (.bool (decide (i < (↑s0.size : Int)))))] ?_
  refine J_seq ?_
  refine J_cond (t := decide (i < (↑s0.size : Int))) (by kernel_rfl) (by kernel_rfl) (fun hlt => ?_) (fun hlt => ?_)
  · have hlt2 : i < s0.size := by simpa using hlt
    obtain ⟨b, hb⟩ : ∃ x, s0.data.toList[i.toNat]? = some x := ⟨_, List.getElem?_eq_getElem (by omega)⟩
    refine J_skip ?_
    refine J_seq ?_
    refine J_block ?_
    refine J_seq ?_
    refine Za [.rd 0 [] 0 0, .rd 1 [] 0 0] [8] [(4, .val (.int .i64 i))] ?_
    refine J_seq ?_
    refine jT [(0, true), (1, true), (2, true), (3, false), (4, true), (5, true), (6, true)] [] ?_
    refine Ya (id := 5) (rest := [(3, false), (4, true), (5, true), (6, true)]) (Rds 0 3) [] [(10, .val (.int .u32 c)), (11, .val (.string s0)), (12, .val (.int .i64 i))] ?_
    refine JR_idx 9 s0 i _ (some 13) (by kernel_rfl) (by kernel_rfl) hi0 hb ?_
    refine Ya (id := 5) (rest := []) (Rds 4 7) [13, 10, 11, 12] [(3, .val (.int .u32 (IntKind.u32.wrap (↑(BitVec.ofInt IntKind.u32.bits c ^^^ BitVec.ofInt IntKind.u32.bits (IntKind.u32.wrap (↑b.toNat : Int))).toNat : Int))))] ?_
    refine JR_end ?_
    refine J_seq ?_
    refine Za [.rd 0 [] 0 0] [] [(16, .val (.int .i64 0))] ?_
    refine J_block ?_
    refine J_loopx (fun y : Int × Int => [(0, .val (.string s0)), (2, .val (.int .u32 0)), (3, .val (.int .u32 y.2)), (4, .val (.int .i64 i)), (6, .val (.int .i64 (↑s0.size : Int))), (7, .val (.int .i64 i)), (16, .val (.int .i64 y.1))]) (fun y : Int × Int => []) (fun y : Int × Int => []) (fun y : Int × Int => []) (fun y : Int × Int => (8 - y.1).toNat) (fun y : Int × Int => (0 ≤ y.1 ∧ y.1 ≤ 8 ∧ y.2 = iterU y.1.toNat (xorU c (IntKind.u32.wrap b.toNat)))) (0, xorU c (IntKind.u32.wrap b.toNat)) [0, 2, 3, 4, 6, 7, 16] [] [] [] ?_ (by kernel_rfl) rfl rfl rfl ?_
    · exact ⟨by simp, by simp, by simp [iterU]⟩
    rintro ⟨k, d⟩ ⟨hk0, hk, hd⟩
    refine J_seq ?_
    refine Za [.rd 0 [] 0 0] [] [(17, .val (.bool (decide (k < 8))))] ?_
    refine J_seq ?_
    refine J_cond (t := decide (k < 8)) (by kernel_rfl) (by kernel_rfl) (fun hk8 => ?_) (fun hk8 => ?_)
    · have hk8' : k < 8 := by simpa using hk8
      refine J_skip ?_
      refine J_seq ?_
      refine J_block ?_
      refine Za (Rds 0 7) [17] [(3, .val (.int .u32 (IntKind.u32.wrap (↑(BitVec.ofInt IntKind.u32.bits (d.fdiv (2 ^ min (Int.toNat 1) IntKind.u32.bits)) ^^^ BitVec.ofInt IntKind.u32.bits (IntKind.u32.wrap (3988292384 * IntKind.u32.wrap (↑(BitVec.ofInt IntKind.u32.bits d &&& BitVec.ofInt IntKind.u32.bits 1).toNat : Int)))).toNat : Int))))] ?_
      refine J_eb ?_
      refine Zp [.rd 0 [] 0 1, .rd 1 [] 0 0] [] [(16, .val (.int .i64 (k + 1)))] [IntKind.i64.wrap (k + (1 : Int)) = k + (1 : Int)] ⟨wrap_i64 (by omega) (by omega), trivial⟩ ?_
      refine J_backx (k + 1, stepU d) [0, 2, 3, 4, 6, 7, 16] [] [] [] ?_ ?_ (by kernel_rfl) rfl rfl rfl
      · refine ⟨by simp only; omega, by simp only; omega, ?_⟩
        simp only at hd ⊢
        rw [show (k + 1).toNat = k.toNat + 1 by omega, iterU, ← hd]
      · simp only
        omega
    · obtain rfl : k = 8 := by simp at hk8; omega
      refine J_exit rfl ?_
      refine J_eb ?_
      refine Zp [.rd 0 [] 0 1, .rd 1 [] 0 0] [17] [(7, .val (.int .i64 (i + 1)))] [IntKind.i64.wrap (i + (1 : Int)) = i + (1 : Int)] ⟨wrap_i64 (by omega) (by omega), trivial⟩ ?_
      refine J_backx (i + 1, d) [0, 2, 3, 6, 7] [] [] [] ?_ ?_ (by kernel_rfl) rfl rfl rfl
      · refine ⟨by simp only; omega, by simp only; omega, ?_⟩
        simp only at hd hc ⊢
        rw [show (i + 1).toNat = i.toNat + 1 by omega, crcU_snoc hb, ← hc, hd]
        rfl
      · simp only
        omega
  · obtain rfl : i = s0.size := by simp at hlt; omega
    refine J_exit rfl ?_
    refine J_seq ?_
    refine Za (Rds 0 3) [8, 0, 3, 6, 7] [(2, .val (.int .u32 (IntKind.u32.wrap (↑(BitVec.ofInt IntKind.u32.bits (if IntKind.u32.signed = true then -1 else IntKind.u32.max) ^^^ BitVec.ofInt IntKind.u32.bits c).toNat : Int))))] ?_
    refine Yr [[]] (.int .u32 (IntKind.u32.wrap (↑(BitVec.ofInt IntKind.u32.bits (if IntKind.u32.signed = true then -1 else IntKind.u32.max) ^^^ BitVec.ofInt IntKind.u32.bits c).toNat : Int))) fun a w s => ?_
    have e : c = crcU s0.data.toList := by
      simp only at hc
      rw [hc, List.take_of_length_le (by omega)]
    rw [← e]
    exact s.ret (by simp) [] [] rfl rfl
set_option maxHeartbeats 4000000 in
theorem crcRW {w : World} {S : Nat → Prop} {s0 : ByteArray} (h9 : s0.size ≤ 100000) : Calls Tryd.prog 14 #[.string s0] w fun e w' => Ret [] w S w' e (.int .i64 (xorI (crcR s0.data.toList) 4294967295)) [] [] := by
  refine ep14 (args := [.string s0]) (G := []) (by kernel_rfl) (AllG.nil w S) ?_
  have hz : s0.data.toList.length = s0.size := by simp
  refine J_seq ?_
  refine Za [.rd 0 [] 0 0] [] [(2, .val (.int .i64 0))] ?_
  refine J_seq ?_
  refine Za [.rd 0 [] 0 0] [] [(3, .val (.int .i64 4294967295))] ?_
  refine J_seq ?_
  refine J_seq ?_
  refine Za [.rd 0 [] 0 0] [] [(4, .val (.int .i64 0))] ?_
  refine J_block ?_
  refine J_loopx (fun x : Int × Int => [(0, .val (.string s0)), (2, .val (.int .i64 0)), (3, .val (.int .i64 x.2)), (4, .val (.int .i64 x.1))]) (fun x : Int × Int => []) (fun x : Int × Int => []) (fun x : Int × Int => []) (fun x : Int × Int => (s0.size - x.1).toNat) (fun x : Int × Int => (0 ≤ x.1 ∧ x.1 ≤ s0.size ∧ x.2 = crcR (s0.data.toList.take x.1.toNat))) (0, 4294967295) [0, 2, 3, 4] [] [] [] ?_ (by kernel_rfl) rfl rfl rfl ?_
  · exact ⟨by simp, by omega, by simp [crcR]⟩
  rintro ⟨i, c⟩ ⟨hi0, hi, hc⟩
  refine J_seq ?_
  refine J_seq ?_
  refine Za (Rds 0 4) [] [(10, .val (.bool (decide (i < (↑s0.size : Int)))))] ?_
  refine J_cond (t := decide (i < (↑s0.size : Int))) (by kernel_rfl) (by kernel_rfl) (fun hlt => ?_) (fun hlt => ?_)
  · have hlt2 : i < s0.size := by simpa using hlt
    obtain ⟨b, hb⟩ : ∃ x, s0.data.toList[i.toNat]? = some x := ⟨_, List.getElem?_eq_getElem (by omega)⟩
    refine J_skip ?_
    refine J_seq ?_
    refine J_block ?_
    refine J_seq ?_
    refine Za [.rd 0 [] 0 0] [10] [(5, .val (.int .i64 0))] ?_
    refine J_block ?_
    refine J_loopx (fun y : Int × Int => [(0, .val (.string s0)), (2, .val (.int .i64 0)), (3, .val (.int .i64 y.2)), (4, .val (.int .i64 i)), (5, .val (.int .i64 y.1))]) (fun y : Int × Int => []) (fun y : Int × Int => []) (fun y : Int × Int => []) (fun y : Int × Int => (8 - y.1).toNat) (fun y : Int × Int => (0 ≤ y.1 ∧ y.1 ≤ 8 ∧ y.2 = iterR c b y.1.toNat)) (0, c) [0, 2, 3, 4, 5] [] [] [] ?_ (by kernel_rfl) rfl rfl rfl ?_
    · exact ⟨by simp, by simp, by simp [iterR]⟩
    rintro ⟨k, d⟩ ⟨hk0, hk, hd⟩
    refine J_seq ?_
    refine J_seq ?_
    refine Za [.rd 0 [] 0 0, .rd 1 [] 0 0] [] [(14, .val (.bool (decide (k < 8))))] ?_
    refine J_cond (t := decide (k < 8)) (by kernel_rfl) (by kernel_rfl) (fun hk8 => ?_) (fun hk8 => ?_)
    · have hk8' : k < 8 := by simpa using hk8
      obtain h | h | h | h | h | h | h | h : k = 0 ∨ k = 1 ∨ k = 2 ∨ k = 3 ∨ k = 4 ∨ k = 5 ∨ k = 6 ∨ k = 7 := by omega
      · subst h
        refine J_skip ?_
        refine J_seq ?_
        refine J_block ?_
        refine J_seq ?_
        refine jT [(0, true), (1, true), (2, true), (3, false), (4, true), (5, true), (6, true), (7, true), (8, true), (9, true), (10, true)] [] ?_
        refine Ya (id := 8) (rest := [(3, false), (4, true), (5, true), (6, true), (7, true), (8, true), (9, true), (10, true)]) (Rds 0 3) [14] [(17, .val (.int .i64 d)), (18, .val (.string s0)), (19, .val (.int .i64 i))] ?_
        refine JR_idx 9 s0 i _ (some 20) (by kernel_rfl) (by kernel_rfl) hi0 hb ?_
        refine Ya (id := 8) (rest := []) (Rds 4 11) [20, 17, 18, 19] [(6, .val (.int .i64 ((IntKind.i64.wrap (↑(BitVec.ofInt IntKind.i64.bits d ^^^ BitVec.ofInt IntKind.i64.bits ((IntKind.i64.wrap (↑b.toNat : Int)).fdiv (2 ^ min (Int.toNat 0) IntKind.i64.bits))).toNat : Int)).tmod 2)))] ?_
        refine JR_end ?_
        refine J_seq ?_
        refine Za (Rds 0 3) [] [(3, .val (.int .i64 (IntKind.i64.wrap (d.tdiv 2))))] ?_
        refine J_seq ?_
        refine Za [.rd 0 [] 0 0, .rd 1 [] 0 0] [] [(30, .val (.bool ((IntKind.i64.wrap (↑(BitVec.ofInt IntKind.i64.bits d ^^^ BitVec.ofInt IntKind.i64.bits ((IntKind.i64.wrap (↑b.toNat : Int)).fdiv (2 ^ min (Int.toNat 0) IntKind.i64.bits))).toNat : Int)).tmod 2 == 1)))] ?_
        refine J_cond (t := (IntKind.i64.wrap (↑(BitVec.ofInt IntKind.i64.bits d ^^^ BitVec.ofInt IntKind.i64.bits ((IntKind.i64.wrap (↑b.toNat : Int)).fdiv (2 ^ min (Int.toNat 0) IntKind.i64.bits))).toNat : Int)).tmod 2 == 1) (by kernel_rfl) (by kernel_rfl) (fun h1 => ?_) (fun h1 => ?_)
        · refine Za (Rds 0 3) [30] [(3, .val (.int .i64 (IntKind.i64.wrap (↑(BitVec.ofInt IntKind.i64.bits (IntKind.i64.wrap (d.tdiv 2)) ^^^ BitVec.ofInt IntKind.i64.bits 3988292384).toNat : Int))))] ?_
          refine J_eb ?_
          refine Za (Rds 0 3) [] [(5, .val (.int .i64 1))] ?_
          refine J_backx (1, xorI (IntKind.i64.wrap (d.tdiv 2)) 3988292384) [0, 2, 3, 4, 5] [] [] [] ?_ ?_ (by kernel_rfl) rfl rfl rfl
          · refine ⟨by simp, by simp, ?_⟩
            show _ = stepR (iterR c b 0) b 0
            exact ((congrArg (stepR · b 0) hd.symm).trans (if_pos h1)).symm
          · simp
        · refine J_skip ?_
          refine J_eb ?_
          refine Za (Rds 0 3) [30] [(5, .val (.int .i64 1))] ?_
          refine J_backx (1, IntKind.i64.wrap (d.tdiv 2)) [0, 2, 3, 4, 5] [] [] [] ?_ ?_ (by kernel_rfl) rfl rfl rfl
          · refine ⟨by simp, by simp, ?_⟩
            show _ = stepR (iterR c b 0) b 0
            exact ((congrArg (stepR · b 0) hd.symm).trans (if_neg (by rw [Bool.not_eq_true]; exact h1))).symm
          · simp
      · subst h
        refine J_skip ?_
        refine J_seq ?_
        refine J_block ?_
        refine J_seq ?_
        refine jT [(0, true), (1, true), (2, true), (3, false), (4, true), (5, true), (6, true), (7, true), (8, true), (9, true), (10, true)] [] ?_
        refine Ya (id := 8) (rest := [(3, false), (4, true), (5, true), (6, true), (7, true), (8, true), (9, true), (10, true)]) (Rds 0 3) [14] [(17, .val (.int .i64 d)), (18, .val (.string s0)), (19, .val (.int .i64 i))] ?_
        refine JR_idx 9 s0 i _ (some 20) (by kernel_rfl) (by kernel_rfl) hi0 hb ?_
        refine Ya (id := 8) (rest := []) (Rds 4 11) [20, 17, 18, 19] [(6, .val (.int .i64 ((IntKind.i64.wrap (↑(BitVec.ofInt IntKind.i64.bits d ^^^ BitVec.ofInt IntKind.i64.bits ((IntKind.i64.wrap (↑b.toNat : Int)).fdiv (2 ^ min (Int.toNat 1) IntKind.i64.bits))).toNat : Int)).tmod 2)))] ?_
        refine JR_end ?_
        refine J_seq ?_
        refine Za (Rds 0 3) [] [(3, .val (.int .i64 (IntKind.i64.wrap (d.tdiv 2))))] ?_
        refine J_seq ?_
        refine Za [.rd 0 [] 0 0, .rd 1 [] 0 0] [] [(30, .val (.bool ((IntKind.i64.wrap (↑(BitVec.ofInt IntKind.i64.bits d ^^^ BitVec.ofInt IntKind.i64.bits ((IntKind.i64.wrap (↑b.toNat : Int)).fdiv (2 ^ min (Int.toNat 1) IntKind.i64.bits))).toNat : Int)).tmod 2 == 1)))] ?_
        refine J_cond (t := (IntKind.i64.wrap (↑(BitVec.ofInt IntKind.i64.bits d ^^^ BitVec.ofInt IntKind.i64.bits ((IntKind.i64.wrap (↑b.toNat : Int)).fdiv (2 ^ min (Int.toNat 1) IntKind.i64.bits))).toNat : Int)).tmod 2 == 1) (by kernel_rfl) (by kernel_rfl) (fun h1 => ?_) (fun h1 => ?_)
        · refine Za (Rds 0 3) [30] [(3, .val (.int .i64 (IntKind.i64.wrap (↑(BitVec.ofInt IntKind.i64.bits (IntKind.i64.wrap (d.tdiv 2)) ^^^ BitVec.ofInt IntKind.i64.bits 3988292384).toNat : Int))))] ?_
          refine J_eb ?_
          refine Za (Rds 0 3) [] [(5, .val (.int .i64 2))] ?_
          refine J_backx (2, xorI (IntKind.i64.wrap (d.tdiv 2)) 3988292384) [0, 2, 3, 4, 5] [] [] [] ?_ ?_ (by kernel_rfl) rfl rfl rfl
          · refine ⟨by simp, by simp, ?_⟩
            show _ = stepR (iterR c b 1) b 1
            exact ((congrArg (stepR · b 1) hd.symm).trans (if_pos h1)).symm
          · simp
        · refine J_skip ?_
          refine J_eb ?_
          refine Za (Rds 0 3) [30] [(5, .val (.int .i64 2))] ?_
          refine J_backx (2, IntKind.i64.wrap (d.tdiv 2)) [0, 2, 3, 4, 5] [] [] [] ?_ ?_ (by kernel_rfl) rfl rfl rfl
          · refine ⟨by simp, by simp, ?_⟩
            show _ = stepR (iterR c b 1) b 1
            exact ((congrArg (stepR · b 1) hd.symm).trans (if_neg (by rw [Bool.not_eq_true]; exact h1))).symm
          · simp
      · subst h
        refine J_skip ?_
        refine J_seq ?_
        refine J_block ?_
        refine J_seq ?_
        refine jT [(0, true), (1, true), (2, true), (3, false), (4, true), (5, true), (6, true), (7, true), (8, true), (9, true), (10, true)] [] ?_
        refine Ya (id := 8) (rest := [(3, false), (4, true), (5, true), (6, true), (7, true), (8, true), (9, true), (10, true)]) (Rds 0 3) [14] [(17, .val (.int .i64 d)), (18, .val (.string s0)), (19, .val (.int .i64 i))] ?_
        refine JR_idx 9 s0 i _ (some 20) (by kernel_rfl) (by kernel_rfl) hi0 hb ?_
        refine Ya (id := 8) (rest := []) (Rds 4 11) [20, 17, 18, 19] [(6, .val (.int .i64 ((IntKind.i64.wrap (↑(BitVec.ofInt IntKind.i64.bits d ^^^ BitVec.ofInt IntKind.i64.bits ((IntKind.i64.wrap (↑b.toNat : Int)).fdiv (2 ^ min (Int.toNat 2) IntKind.i64.bits))).toNat : Int)).tmod 2)))] ?_
        refine JR_end ?_
        refine J_seq ?_
        refine Za (Rds 0 3) [] [(3, .val (.int .i64 (IntKind.i64.wrap (d.tdiv 2))))] ?_
        refine J_seq ?_
        refine Za [.rd 0 [] 0 0, .rd 1 [] 0 0] [] [(30, .val (.bool ((IntKind.i64.wrap (↑(BitVec.ofInt IntKind.i64.bits d ^^^ BitVec.ofInt IntKind.i64.bits ((IntKind.i64.wrap (↑b.toNat : Int)).fdiv (2 ^ min (Int.toNat 2) IntKind.i64.bits))).toNat : Int)).tmod 2 == 1)))] ?_
        refine J_cond (t := (IntKind.i64.wrap (↑(BitVec.ofInt IntKind.i64.bits d ^^^ BitVec.ofInt IntKind.i64.bits ((IntKind.i64.wrap (↑b.toNat : Int)).fdiv (2 ^ min (Int.toNat 2) IntKind.i64.bits))).toNat : Int)).tmod 2 == 1) (by kernel_rfl) (by kernel_rfl) (fun h1 => ?_) (fun h1 => ?_)
        · refine Za (Rds 0 3) [30] [(3, .val (.int .i64 (IntKind.i64.wrap (↑(BitVec.ofInt IntKind.i64.bits (IntKind.i64.wrap (d.tdiv 2)) ^^^ BitVec.ofInt IntKind.i64.bits 3988292384).toNat : Int))))] ?_
          refine J_eb ?_
          refine Za (Rds 0 3) [] [(5, .val (.int .i64 3))] ?_
          refine J_backx (3, xorI (IntKind.i64.wrap (d.tdiv 2)) 3988292384) [0, 2, 3, 4, 5] [] [] [] ?_ ?_ (by kernel_rfl) rfl rfl rfl
          · refine ⟨by simp, by simp, ?_⟩
            show _ = stepR (iterR c b 2) b 2
            exact ((congrArg (stepR · b 2) hd.symm).trans (if_pos h1)).symm
          · simp
        · refine J_skip ?_
          refine J_eb ?_
          refine Za (Rds 0 3) [30] [(5, .val (.int .i64 3))] ?_
          refine J_backx (3, IntKind.i64.wrap (d.tdiv 2)) [0, 2, 3, 4, 5] [] [] [] ?_ ?_ (by kernel_rfl) rfl rfl rfl
          · refine ⟨by simp, by simp, ?_⟩
            show _ = stepR (iterR c b 2) b 2
            exact ((congrArg (stepR · b 2) hd.symm).trans (if_neg (by rw [Bool.not_eq_true]; exact h1))).symm
          · simp
      · subst h
        refine J_skip ?_
        refine J_seq ?_
        refine J_block ?_
        refine J_seq ?_
        refine jT [(0, true), (1, true), (2, true), (3, false), (4, true), (5, true), (6, true), (7, true), (8, true), (9, true), (10, true)] [] ?_
        refine Ya (id := 8) (rest := [(3, false), (4, true), (5, true), (6, true), (7, true), (8, true), (9, true), (10, true)]) (Rds 0 3) [14] [(17, .val (.int .i64 d)), (18, .val (.string s0)), (19, .val (.int .i64 i))] ?_
        refine JR_idx 9 s0 i _ (some 20) (by kernel_rfl) (by kernel_rfl) hi0 hb ?_
        refine Ya (id := 8) (rest := []) (Rds 4 11) [20, 17, 18, 19] [(6, .val (.int .i64 ((IntKind.i64.wrap (↑(BitVec.ofInt IntKind.i64.bits d ^^^ BitVec.ofInt IntKind.i64.bits ((IntKind.i64.wrap (↑b.toNat : Int)).fdiv (2 ^ min (Int.toNat 3) IntKind.i64.bits))).toNat : Int)).tmod 2)))] ?_
        refine JR_end ?_
        refine J_seq ?_
        refine Za (Rds 0 3) [] [(3, .val (.int .i64 (IntKind.i64.wrap (d.tdiv 2))))] ?_
        refine J_seq ?_
        refine Za [.rd 0 [] 0 0, .rd 1 [] 0 0] [] [(30, .val (.bool ((IntKind.i64.wrap (↑(BitVec.ofInt IntKind.i64.bits d ^^^ BitVec.ofInt IntKind.i64.bits ((IntKind.i64.wrap (↑b.toNat : Int)).fdiv (2 ^ min (Int.toNat 3) IntKind.i64.bits))).toNat : Int)).tmod 2 == 1)))] ?_
        refine J_cond (t := (IntKind.i64.wrap (↑(BitVec.ofInt IntKind.i64.bits d ^^^ BitVec.ofInt IntKind.i64.bits ((IntKind.i64.wrap (↑b.toNat : Int)).fdiv (2 ^ min (Int.toNat 3) IntKind.i64.bits))).toNat : Int)).tmod 2 == 1) (by kernel_rfl) (by kernel_rfl) (fun h1 => ?_) (fun h1 => ?_)
        · refine Za (Rds 0 3) [30] [(3, .val (.int .i64 (IntKind.i64.wrap (↑(BitVec.ofInt IntKind.i64.bits (IntKind.i64.wrap (d.tdiv 2)) ^^^ BitVec.ofInt IntKind.i64.bits 3988292384).toNat : Int))))] ?_
          refine J_eb ?_
          refine Za (Rds 0 3) [] [(5, .val (.int .i64 4))] ?_
          refine J_backx (4, xorI (IntKind.i64.wrap (d.tdiv 2)) 3988292384) [0, 2, 3, 4, 5] [] [] [] ?_ ?_ (by kernel_rfl) rfl rfl rfl
          · refine ⟨by simp, by simp, ?_⟩
            show _ = stepR (iterR c b 3) b 3
            exact ((congrArg (stepR · b 3) hd.symm).trans (if_pos h1)).symm
          · simp
        · refine J_skip ?_
          refine J_eb ?_
          refine Za (Rds 0 3) [30] [(5, .val (.int .i64 4))] ?_
          refine J_backx (4, IntKind.i64.wrap (d.tdiv 2)) [0, 2, 3, 4, 5] [] [] [] ?_ ?_ (by kernel_rfl) rfl rfl rfl
          · refine ⟨by simp, by simp, ?_⟩
            show _ = stepR (iterR c b 3) b 3
            exact ((congrArg (stepR · b 3) hd.symm).trans (if_neg (by rw [Bool.not_eq_true]; exact h1))).symm
          · simp
      · subst h
        refine J_skip ?_
        refine J_seq ?_
        refine J_block ?_
        refine J_seq ?_
        refine jT [(0, true), (1, true), (2, true), (3, false), (4, true), (5, true), (6, true), (7, true), (8, true), (9, true), (10, true)] [] ?_
        refine Ya (id := 8) (rest := [(3, false), (4, true), (5, true), (6, true), (7, true), (8, true), (9, true), (10, true)]) (Rds 0 3) [14] [(17, .val (.int .i64 d)), (18, .val (.string s0)), (19, .val (.int .i64 i))] ?_
        refine JR_idx 9 s0 i _ (some 20) (by kernel_rfl) (by kernel_rfl) hi0 hb ?_
        refine Ya (id := 8) (rest := []) (Rds 4 11) [20, 17, 18, 19] [(6, .val (.int .i64 ((IntKind.i64.wrap (↑(BitVec.ofInt IntKind.i64.bits d ^^^ BitVec.ofInt IntKind.i64.bits ((IntKind.i64.wrap (↑b.toNat : Int)).fdiv (2 ^ min (Int.toNat 4) IntKind.i64.bits))).toNat : Int)).tmod 2)))] ?_
        refine JR_end ?_
        refine J_seq ?_
        refine Za (Rds 0 3) [] [(3, .val (.int .i64 (IntKind.i64.wrap (d.tdiv 2))))] ?_
        refine J_seq ?_
        refine Za [.rd 0 [] 0 0, .rd 1 [] 0 0] [] [(30, .val (.bool ((IntKind.i64.wrap (↑(BitVec.ofInt IntKind.i64.bits d ^^^ BitVec.ofInt IntKind.i64.bits ((IntKind.i64.wrap (↑b.toNat : Int)).fdiv (2 ^ min (Int.toNat 4) IntKind.i64.bits))).toNat : Int)).tmod 2 == 1)))] ?_
        refine J_cond (t := (IntKind.i64.wrap (↑(BitVec.ofInt IntKind.i64.bits d ^^^ BitVec.ofInt IntKind.i64.bits ((IntKind.i64.wrap (↑b.toNat : Int)).fdiv (2 ^ min (Int.toNat 4) IntKind.i64.bits))).toNat : Int)).tmod 2 == 1) (by kernel_rfl) (by kernel_rfl) (fun h1 => ?_) (fun h1 => ?_)
        · refine Za (Rds 0 3) [30] [(3, .val (.int .i64 (IntKind.i64.wrap (↑(BitVec.ofInt IntKind.i64.bits (IntKind.i64.wrap (d.tdiv 2)) ^^^ BitVec.ofInt IntKind.i64.bits 3988292384).toNat : Int))))] ?_
          refine J_eb ?_
          refine Za (Rds 0 3) [] [(5, .val (.int .i64 5))] ?_
          refine J_backx (5, xorI (IntKind.i64.wrap (d.tdiv 2)) 3988292384) [0, 2, 3, 4, 5] [] [] [] ?_ ?_ (by kernel_rfl) rfl rfl rfl
          · refine ⟨by simp, by simp, ?_⟩
            show _ = stepR (iterR c b 4) b 4
            exact ((congrArg (stepR · b 4) hd.symm).trans (if_pos h1)).symm
          · simp
        · refine J_skip ?_
          refine J_eb ?_
          refine Za (Rds 0 3) [30] [(5, .val (.int .i64 5))] ?_
          refine J_backx (5, IntKind.i64.wrap (d.tdiv 2)) [0, 2, 3, 4, 5] [] [] [] ?_ ?_ (by kernel_rfl) rfl rfl rfl
          · refine ⟨by simp, by simp, ?_⟩
            show _ = stepR (iterR c b 4) b 4
            exact ((congrArg (stepR · b 4) hd.symm).trans (if_neg (by rw [Bool.not_eq_true]; exact h1))).symm
          · simp
      · subst h
        refine J_skip ?_
        refine J_seq ?_
        refine J_block ?_
        refine J_seq ?_
        refine jT [(0, true), (1, true), (2, true), (3, false), (4, true), (5, true), (6, true), (7, true), (8, true), (9, true), (10, true)] [] ?_
        refine Ya (id := 8) (rest := [(3, false), (4, true), (5, true), (6, true), (7, true), (8, true), (9, true), (10, true)]) (Rds 0 3) [14] [(17, .val (.int .i64 d)), (18, .val (.string s0)), (19, .val (.int .i64 i))] ?_
        refine JR_idx 9 s0 i _ (some 20) (by kernel_rfl) (by kernel_rfl) hi0 hb ?_
        refine Ya (id := 8) (rest := []) (Rds 4 11) [20, 17, 18, 19] [(6, .val (.int .i64 ((IntKind.i64.wrap (↑(BitVec.ofInt IntKind.i64.bits d ^^^ BitVec.ofInt IntKind.i64.bits ((IntKind.i64.wrap (↑b.toNat : Int)).fdiv (2 ^ min (Int.toNat 5) IntKind.i64.bits))).toNat : Int)).tmod 2)))] ?_
        refine JR_end ?_
        refine J_seq ?_
        refine Za (Rds 0 3) [] [(3, .val (.int .i64 (IntKind.i64.wrap (d.tdiv 2))))] ?_
        refine J_seq ?_
        refine Za [.rd 0 [] 0 0, .rd 1 [] 0 0] [] [(30, .val (.bool ((IntKind.i64.wrap (↑(BitVec.ofInt IntKind.i64.bits d ^^^ BitVec.ofInt IntKind.i64.bits ((IntKind.i64.wrap (↑b.toNat : Int)).fdiv (2 ^ min (Int.toNat 5) IntKind.i64.bits))).toNat : Int)).tmod 2 == 1)))] ?_
        refine J_cond (t := (IntKind.i64.wrap (↑(BitVec.ofInt IntKind.i64.bits d ^^^ BitVec.ofInt IntKind.i64.bits ((IntKind.i64.wrap (↑b.toNat : Int)).fdiv (2 ^ min (Int.toNat 5) IntKind.i64.bits))).toNat : Int)).tmod 2 == 1) (by kernel_rfl) (by kernel_rfl) (fun h1 => ?_) (fun h1 => ?_)
        · refine Za (Rds 0 3) [30] [(3, .val (.int .i64 (IntKind.i64.wrap (↑(BitVec.ofInt IntKind.i64.bits (IntKind.i64.wrap (d.tdiv 2)) ^^^ BitVec.ofInt IntKind.i64.bits 3988292384).toNat : Int))))] ?_
          refine J_eb ?_
          refine Za (Rds 0 3) [] [(5, .val (.int .i64 6))] ?_
          refine J_backx (6, xorI (IntKind.i64.wrap (d.tdiv 2)) 3988292384) [0, 2, 3, 4, 5] [] [] [] ?_ ?_ (by kernel_rfl) rfl rfl rfl
          · refine ⟨by simp, by simp, ?_⟩
            show _ = stepR (iterR c b 5) b 5
            exact ((congrArg (stepR · b 5) hd.symm).trans (if_pos h1)).symm
          · simp
        · refine J_skip ?_
          refine J_eb ?_
          refine Za (Rds 0 3) [30] [(5, .val (.int .i64 6))] ?_
          refine J_backx (6, IntKind.i64.wrap (d.tdiv 2)) [0, 2, 3, 4, 5] [] [] [] ?_ ?_ (by kernel_rfl) rfl rfl rfl
          · refine ⟨by simp, by simp, ?_⟩
            show _ = stepR (iterR c b 5) b 5
            exact ((congrArg (stepR · b 5) hd.symm).trans (if_neg (by rw [Bool.not_eq_true]; exact h1))).symm
          · simp
      · subst h
        refine J_skip ?_
        refine J_seq ?_
        refine J_block ?_
        refine J_seq ?_
        refine jT [(0, true), (1, true), (2, true), (3, false), (4, true), (5, true), (6, true), (7, true), (8, true), (9, true), (10, true)] [] ?_
        refine Ya (id := 8) (rest := [(3, false), (4, true), (5, true), (6, true), (7, true), (8, true), (9, true), (10, true)]) (Rds 0 3) [14] [(17, .val (.int .i64 d)), (18, .val (.string s0)), (19, .val (.int .i64 i))] ?_
        refine JR_idx 9 s0 i _ (some 20) (by kernel_rfl) (by kernel_rfl) hi0 hb ?_
        refine Ya (id := 8) (rest := []) (Rds 4 11) [20, 17, 18, 19] [(6, .val (.int .i64 ((IntKind.i64.wrap (↑(BitVec.ofInt IntKind.i64.bits d ^^^ BitVec.ofInt IntKind.i64.bits ((IntKind.i64.wrap (↑b.toNat : Int)).fdiv (2 ^ min (Int.toNat 6) IntKind.i64.bits))).toNat : Int)).tmod 2)))] ?_
        refine JR_end ?_
        refine J_seq ?_
        refine Za (Rds 0 3) [] [(3, .val (.int .i64 (IntKind.i64.wrap (d.tdiv 2))))] ?_
        refine J_seq ?_
        refine Za [.rd 0 [] 0 0, .rd 1 [] 0 0] [] [(30, .val (.bool ((IntKind.i64.wrap (↑(BitVec.ofInt IntKind.i64.bits d ^^^ BitVec.ofInt IntKind.i64.bits ((IntKind.i64.wrap (↑b.toNat : Int)).fdiv (2 ^ min (Int.toNat 6) IntKind.i64.bits))).toNat : Int)).tmod 2 == 1)))] ?_
        refine J_cond (t := (IntKind.i64.wrap (↑(BitVec.ofInt IntKind.i64.bits d ^^^ BitVec.ofInt IntKind.i64.bits ((IntKind.i64.wrap (↑b.toNat : Int)).fdiv (2 ^ min (Int.toNat 6) IntKind.i64.bits))).toNat : Int)).tmod 2 == 1) (by kernel_rfl) (by kernel_rfl) (fun h1 => ?_) (fun h1 => ?_)
        · refine Za (Rds 0 3) [30] [(3, .val (.int .i64 (IntKind.i64.wrap (↑(BitVec.ofInt IntKind.i64.bits (IntKind.i64.wrap (d.tdiv 2)) ^^^ BitVec.ofInt IntKind.i64.bits 3988292384).toNat : Int))))] ?_
          refine J_eb ?_
          refine Za (Rds 0 3) [] [(5, .val (.int .i64 7))] ?_
          refine J_backx (7, xorI (IntKind.i64.wrap (d.tdiv 2)) 3988292384) [0, 2, 3, 4, 5] [] [] [] ?_ ?_ (by kernel_rfl) rfl rfl rfl
          · refine ⟨by simp, by simp, ?_⟩
            show _ = stepR (iterR c b 6) b 6
            exact ((congrArg (stepR · b 6) hd.symm).trans (if_pos h1)).symm
          · simp
        · refine J_skip ?_
          refine J_eb ?_
          refine Za (Rds 0 3) [30] [(5, .val (.int .i64 7))] ?_
          refine J_backx (7, IntKind.i64.wrap (d.tdiv 2)) [0, 2, 3, 4, 5] [] [] [] ?_ ?_ (by kernel_rfl) rfl rfl rfl
          · refine ⟨by simp, by simp, ?_⟩
            show _ = stepR (iterR c b 6) b 6
            exact ((congrArg (stepR · b 6) hd.symm).trans (if_neg (by rw [Bool.not_eq_true]; exact h1))).symm
          · simp
      · subst h
        refine J_skip ?_
        refine J_seq ?_
        refine J_block ?_
        refine J_seq ?_
        refine jT [(0, true), (1, true), (2, true), (3, false), (4, true), (5, true), (6, true), (7, true), (8, true), (9, true), (10, true)] [] ?_
        refine Ya (id := 8) (rest := [(3, false), (4, true), (5, true), (6, true), (7, true), (8, true), (9, true), (10, true)]) (Rds 0 3) [14] [(17, .val (.int .i64 d)), (18, .val (.string s0)), (19, .val (.int .i64 i))] ?_
        refine JR_idx 9 s0 i _ (some 20) (by kernel_rfl) (by kernel_rfl) hi0 hb ?_
        refine Ya (id := 8) (rest := []) (Rds 4 11) [20, 17, 18, 19] [(6, .val (.int .i64 ((IntKind.i64.wrap (↑(BitVec.ofInt IntKind.i64.bits d ^^^ BitVec.ofInt IntKind.i64.bits ((IntKind.i64.wrap (↑b.toNat : Int)).fdiv (2 ^ min (Int.toNat 7) IntKind.i64.bits))).toNat : Int)).tmod 2)))] ?_
        refine JR_end ?_
        refine J_seq ?_
        refine Za (Rds 0 3) [] [(3, .val (.int .i64 (IntKind.i64.wrap (d.tdiv 2))))] ?_
        refine J_seq ?_
        refine Za [.rd 0 [] 0 0, .rd 1 [] 0 0] [] [(30, .val (.bool ((IntKind.i64.wrap (↑(BitVec.ofInt IntKind.i64.bits d ^^^ BitVec.ofInt IntKind.i64.bits ((IntKind.i64.wrap (↑b.toNat : Int)).fdiv (2 ^ min (Int.toNat 7) IntKind.i64.bits))).toNat : Int)).tmod 2 == 1)))] ?_
        refine J_cond (t := (IntKind.i64.wrap (↑(BitVec.ofInt IntKind.i64.bits d ^^^ BitVec.ofInt IntKind.i64.bits ((IntKind.i64.wrap (↑b.toNat : Int)).fdiv (2 ^ min (Int.toNat 7) IntKind.i64.bits))).toNat : Int)).tmod 2 == 1) (by kernel_rfl) (by kernel_rfl) (fun h1 => ?_) (fun h1 => ?_)
        · refine Za (Rds 0 3) [30] [(3, .val (.int .i64 (IntKind.i64.wrap (↑(BitVec.ofInt IntKind.i64.bits (IntKind.i64.wrap (d.tdiv 2)) ^^^ BitVec.ofInt IntKind.i64.bits 3988292384).toNat : Int))))] ?_
          refine J_eb ?_
          refine Za (Rds 0 3) [] [(5, .val (.int .i64 8))] ?_
          refine J_backx (8, xorI (IntKind.i64.wrap (d.tdiv 2)) 3988292384) [0, 2, 3, 4, 5] [] [] [] ?_ ?_ (by kernel_rfl) rfl rfl rfl
          · refine ⟨by simp, by simp, ?_⟩
            show _ = stepR (iterR c b 7) b 7
            exact ((congrArg (stepR · b 7) hd.symm).trans (if_pos h1)).symm
          · simp
        · refine J_skip ?_
          refine J_eb ?_
          refine Za (Rds 0 3) [30] [(5, .val (.int .i64 8))] ?_
          refine J_backx (8, IntKind.i64.wrap (d.tdiv 2)) [0, 2, 3, 4, 5] [] [] [] ?_ ?_ (by kernel_rfl) rfl rfl rfl
          · refine ⟨by simp, by simp, ?_⟩
            show _ = stepR (iterR c b 7) b 7
            exact ((congrArg (stepR · b 7) hd.symm).trans (if_neg (by rw [Bool.not_eq_true]; exact h1))).symm
          · simp
    · obtain rfl : k = 8 := by simp at hk8; omega
      refine J_exit rfl ?_
      refine J_eb ?_
      refine Zp [.rd 0 [] 0 0, .rd 1 [] 0 1, .rd 2 [] 0 0] [14] [(4, .val (.int .i64 (i + 1)))] [IntKind.i64.wrap (i + (1 : Int)) = i + (1 : Int)] ⟨wrap_i64 (by omega) (by omega), trivial⟩ ?_
      refine J_backx (i + 1, d) [0, 2, 3, 4] [] [] [] ?_ ?_ (by kernel_rfl) rfl rfl rfl
      · refine ⟨by simp only; omega, by simp only; omega, ?_⟩
        simp only at hd hc ⊢
        rw [show (i + 1).toNat = i.toNat + 1 by omega, crcR_snoc hb, ← hc, hd]
        rfl
      · simp only
        omega
  · obtain rfl : i = s0.size := by simp at hlt; omega
    refine J_exit rfl ?_
    refine J_seq ?_
    refine Za (Rds 0 3) [10, 0, 3, 4] [(2, .val (.int .i64 (IntKind.i64.wrap (↑(BitVec.ofInt IntKind.i64.bits c ^^^ BitVec.ofInt IntKind.i64.bits 4294967295).toNat : Int))))] ?_
    refine Yr [[]] (.int .i64 (IntKind.i64.wrap (↑(BitVec.ofInt IntKind.i64.bits c ^^^ BitVec.ofInt IntKind.i64.bits 4294967295).toNat : Int))) fun a w s => ?_
    have e : c = crcR (s0.data.toList) := by
      simp only at hc
      rw [hc, List.take_of_length_le (by omega)]
    rw [← e]
    exact s.ret (by simp) [] [] rfl rfl
end Go.Proofs.YtonhcoeneahpaaaDoor
end
section
namespace Go.Sx
open Go
structure DotT where
  place : Int
  time : Int
  no : Int
structure OpT where
  no : Int
  key : ByteArray
  kind : Int
  text : ByteArray
  n : Int
  remove : Bool
  dots : List DotT
structure ComT where
  when : List Int
  place : Int
  ops : List OpT
structure MsgT where
  fm : Int
  to : Int
  shard : Int
  seq : Int
  time : Int
  beat : Bool
  c : ComT
abbrev eDot (d : DotT) : List D := [dI d.place, dI d.time, dI d.no]
abbrev eOp (o : OpT) : List D := [dI o.no, .v (.string o.key), dI o.kind, .v (.string o.text), dI o.n, .v (.bool o.remove), .sl 3 (o.dots.map eDot)]
instance : DecidableEq DotT := fun a b => decidable_of_iff (a.place = b.place ∧ a.time = b.time ∧ a.no = b.no) ⟨fun ⟨h1, h2, h3⟩ => by cases a; cases b; simp_all, fun h => by subst h; exact ⟨rfl, rfl, rfl⟩⟩
end Go.Sx
end
