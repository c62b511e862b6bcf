/- Part 4 of the texts of a claim: Tx15 Tx18 Tx22 Tx23 WireP CrcP Four. -/
import Derived.Recover
import Derived.Lib.AppendStr
import Derived.Laws.IdiomStrings
import Derived.Laws.Concat
import Derived.KernelRfl
import Derived.Test.YtonhcoeneahpaaaDoorTb3
section
namespace Go.Sx
open Go Go.MapKept
structure KeyOk (P : Program) (kt : TypeId) (ok : Value → Prop) : Prop where
  chk : ∀ (b : Bool) (k : Value), ok k → ∀ w, (Instr.checkKey b 10000 kt k).run P w = .ok () w
  find : ∀ (k : Value) (es : List MapEntry), ok k → (∀ x ∈ es, ok x.key) → ((∀ w, (Instr.findKey kt k es).run P w = .ok none w) ∧ ∀ x ∈ es, x.key ≠ k) ∨ ∃ j e, (∀ w, (Instr.findKey kt k es).run P w = .ok (some (j, e.val)) w) ∧ es[j]? = some e ∧ e.key = k
  stays : ∀ k, ok k → ∀ w, (Instr.keyThatStays k k).run P w = .ok k w
theorem KeyOk.plain {P : Program} {kt : TypeId} {d : TypeDesc} (hd : P.underlying kt = some d) : KeyOk P kt (IsKey d) where
  chk b k hk w := run_checkKey hd hk b 9999
  find k es hk hes := by
    rcases findNow_spec hk es 0 hes with ⟨h1, h2⟩ | ⟨j, e, h1, h2, h3⟩
    · exact .inl ⟨fun w => run_findKey hd h1, h2⟩
    · rw [Nat.zero_add] at h1
      exact .inr ⟨j, e, fun w => run_findKey hd h1, h2, h3⟩
  stays k hk w := run_keyThatStays hk
structure MapG (ok : Value → Prop) (es : Array MapEntry) (f : Value → Option Value) : Prop where
  key : ∀ x ∈ es.toList, ok x.key
  nodup : (es.toList.map (·.key)).Nodup
  val : ∀ x ∈ es.toList, f x.key = some x.val
  has : ∀ k v, f k = some v → ∃ x ∈ es.toList, x.key = k
theorem MapG.congr {ok : Value → Prop} {es : Array MapEntry} {f g : Value → Option Value} (h : MapG ok es f) (hfg : ∀ k, f k = g k) : MapG ok es g := by
  obtain rfl : f = g := funext hfg
  exact h
theorem MapG.look {P : Program} {kt : TypeId} {ok : Value → Prop} (hK : KeyOk P kt ok) {es : Array MapEntry} {f : Value → Option Value} (h : MapG ok es f) {k : Value} (hk : ok k) :
    ((∀ w, (Instr.findKey kt k es.toList).run P w = .ok none w) ∧ f k = none ∧ ∀ x ∈ es.toList, x.key ≠ k) ∨ ∃ j e, (∀ w, (Instr.findKey kt k es.toList).run P w = .ok (some (j, e.val)) w) ∧ es.toList[j]? = some e ∧ e.key = k ∧ f k = some e.val := by
  rcases hK.find k es.toList hk h.key with ⟨h1, h2⟩ | ⟨j, e, h1, h2, h3⟩
  · refine .inl ⟨h1, ?_, h2⟩
    cases hf : f k with
    | none => rfl
    | some v =>
      obtain ⟨x, hx, hxk⟩ := h.has k v hf
      exact absurd hxk (h2 x hx)
  · refine .inr ⟨j, e, h1, h2, h3, ?_⟩
    rw [← h3]
    exact h.val e (List.mem_of_getElem? h2)
theorem MapG.other {ok : Value → Prop} {es : Array MapEntry} {f : Value → Option Value} (h : MapG ok es f) {j i : Nat} {e x : MapEntry} (hj : es.toList[j]? = some e) (hi : es.toList[i]? = some x) (hne : i ≠ j) : x.key ≠ e.key := by
  intro he
  have h1 : (es.toList.map (·.key))[i]? = some x.key := by rw [List.getElem?_map, hi]; rfl
  have h2 : (es.toList.map (·.key))[j]? = some x.key := by rw [List.getElem?_map, hj, he]; rfl
  exact hne ((List.getElem?_inj (List.getElem?_eq_some_iff.1 h1).1 h.nodup).1 (h1.trans h2.symm))
theorem MapG.push {ok : Value → Prop} {es : Array MapEntry} {f : Value → Option Value} (h : MapG ok es f) {k v : Value} {born : Nat} (hk : ok k) (hn : ∀ x ∈ es.toList, x.key ≠ k) : MapG ok (es.push ⟨k, v, born⟩) (fput f k v) := by
  refine ⟨fun x hx => ?_, ?_, fun x hx => ?_, fun q u hq => ?_⟩
  · simp only [Array.toList_push, List.mem_append, List.mem_singleton] at hx
    rcases hx with hx | rfl
    · exact h.key x hx
    · exact hk
  · simp only [Array.toList_push, List.map_append, List.map_cons, List.map_nil]
    refine List.nodup_append.2 ⟨h.nodup, by simp, fun a ha b hb => ?_⟩
    simp only [List.mem_singleton] at hb
    subst hb
    obtain ⟨x, hx, rfl⟩ := List.mem_map.1 ha
    exact hn x hx
  · simp only [Array.toList_push, List.mem_append, List.mem_singleton] at hx
    rcases hx with hx | rfl
    · simp [fput, hn x hx, h.val x hx]
    · simp [fput]
  · by_cases hqk : q = k
    · exact ⟨⟨k, v, born⟩, by simp, hqk.symm⟩
    · simp only [fput, if_neg hqk] at hq
      obtain ⟨x, hx, hxk⟩ := h.has q u hq
      exact ⟨x, by simp [hx], hxk⟩
theorem MapG.drop {ok : Value → Prop} {es : Array MapEntry} {f : Value → Option Value} (h : MapG ok es f) {k : Value} {j : Nat} {e : MapEntry} (hj : es.toList[j]? = some e) (he : e.key = k) : MapG ok (es.eraseIdxIfInBounds j) (fdel f k) := by
  subst he
  have hlt : j < es.size := by simpa using (List.getElem?_eq_some_iff.1 hj).1
  have hl : (es.eraseIdxIfInBounds j).toList = es.toList.eraseIdx j := by
    unfold Array.eraseIdxIfInBounds
    rw [dif_pos hlt]
    simp
  have hsub := List.eraseIdx_sublist es.toList j
  refine ⟨fun x hx => ?_, ?_, fun x hx => ?_, fun q u hq => ?_⟩
  · rw [hl] at hx
    exact h.key x (hsub.subset hx)
  · rw [hl]
    exact (hsub.map _).nodup h.nodup
  · rw [hl] at hx
    obtain ⟨i, hne, hi⟩ := List.mem_eraseIdx_iff_getElem?.1 hx
    simp [fdel, h.other hj hi hne, h.val x (hsub.subset hx)]
  · by_cases hqk : q = e.key
    · simp [fdel, hqk] at hq
    · simp only [fdel, if_neg hqk] at hq
      obtain ⟨x, hx, hxk⟩ := h.has q u hq
      obtain ⟨i, hi⟩ := List.getElem?_of_mem hx
      refine ⟨x, ?_, hxk⟩
      rw [hl]
      refine List.mem_eraseIdx_iff_getElem?.2 ⟨i, fun hij => hqk ?_, hi⟩
      subst hij
      rw [hj] at hi
      cases hi
      exact hxk.symm
end Go.Sx
end
section
namespace Go.Sx
open Go
def zero (w : World) : World := { w with drawn := 0 }
theorem Rep.zero {w : World} {S : Nat → Prop} {x : Value} {d : D} (h : Rep w S x d) : Rep (zero w) S x d := h.mono fun _ hb _ => ⟨hb, rfl⟩
theorem Fr.zero {M : List Nat} {a b : World} (h : Fr M a b) : Fr M (zero a) b := ⟨h.os, h.tape, h.output, h.size, h.block, Nat.zero_le _⟩
section
variable {P : Program} {f : Func} [Pan f] {R : Act → World → Prop} {n : Nat} [Dfr n] {k : List Itm} {E : Env} {h r : List (Nat × Obj)} {F : List (List Nat × World)} {Y : Ghost}
theorem StF.zero {a : Act} {w : World} {fps : List (List Nat)} (s : StF n E h r F Y a w fps) (hz : ∀ f ∈ F, f.2.drawn = 0) : StF n E h r F Y a (Sx.zero w) fps :=
  ⟨s.ag, ⟨s.own.own, s.own.nodup, s.own.ro, s.own.apart⟩, fun f hf => ⟨(s.fr f hf).os, (s.fr f hf).tape, (s.fr f hf).output, (s.fr f hf).size, (s.fr f hf).block, by rw [hz f hf]; exact Nat.zero_le _⟩, s.may,
    ⟨s.gh.chs.mono (fun _ _ => rfl) (fun _ hb _ => ⟨hb, rfl⟩), s.gh.nodup, s.gh.disj, s.gh.apart, s.gh.may, s.gh.lt, s.gh.own, s.gh.hid, s.gh.top, fun x hx => (s.gh.g x hx).zero⟩⟩
end
end Go.Sx
end
section
namespace Go.Sx
open Go
section reads
variable {P : Program} {f : Func} {R : Act → World → Prop} {n : Nat} {kk : List Itm} {E : Env} {h r : List (Nat × Obj)} {F : List (List Nat × World)}
theorem StF.show {Y : Ghost} {a : Act} {w : World} {fps : List (List Nat)} (s : StF n E h r F Y a w fps) (i : Nat) {b : Nat} {o : Obj} (hi : Y.C[i]? = some (cObj b o)) : StF n E (h ++ [(b, o)]) r F ⟨Y.S, Y.C.eraseIdx i, Y.G⟩ a w (fps.eraseIdx i) := by
  obtain ⟨fp, hfp, rfl, hb⟩ := s.gh.chs.at hi
  have hm : b ∈ fps.flatten := List.mem_flatten.2 ⟨_, List.mem_of_getElem? hfp, by simp⟩
  have hnb : b ∉ (fps.eraseIdx i).flatten := fun hc => by
    obtain ⟨j, x, hj, hx, hbx⟩ := mem_erase_flat hc
    exact hj (flat_at s.gh.nodup hx hfp hbx (by simp))
  have hids : (h ++ [(b, o)]).map (·.1) = h.map (·.1) ++ [b] := by simp
  have hS : ∀ c, Sd Y h fps c → Sd Y (h ++ [(b, o)]) (fps.eraseIdx i) c := fun c hc => ⟨hc.1, fun hx => by
    rw [hids] at hx
    rcases List.mem_append.1 hx with hx | hx
    · exact hc.2.1 hx
    · rw [List.mem_singleton] at hx
      subst hx
      exact hc.2.2 hm, fun hx => hc.2.2 (erase_flat_sub hx)⟩
  have hin : ∀ x ∈ h ++ [(b, o)], x ∈ h ∨ x = (b, o) := fun x hx => by simpa using hx
  refine ⟨s.ag, ⟨fun x hx => ?_, ?_, s.own.ro, fun x hx hc => ?_⟩, s.fr, fun f hf x hx => ?_,
    ⟨s.gh.chs.erase.mono (fun _ _ => rfl) fun c hc _ => ⟨hS c hc, rfl⟩, nodup_sublist_flat s.gh.nodup (List.eraseIdx_sublist _ _), fun c hc hx => ?_, fun x hx hc => s.gh.apart x hx (erase_flat_sub hc), fun f hf c hc => s.gh.may f hf c (erase_flat_sub hc), fun c hc => s.gh.lt c (erase_flat_sub hc), fun x hx => ?_, fun c hc => s.gh.hid c (erase_flat_sub hc), s.gh.top, fun x hx => (s.gh.g x hx).mono fun c hc _ => ⟨hS c hc, rfl⟩⟩⟩
  · rcases hin x hx with h1 | rfl
    · exact s.own.own x h1
    · exact hb
  · rw [hids, List.nodup_append]
    refine ⟨s.own.nodup, by simp, fun x hx y hy hxy => ?_⟩
    simp at hy
    subst hy hxy
    exact s.gh.disj _ hm hx
  · rw [hids] at hc
    rcases List.mem_append.1 hc with hc | hc
    · exact s.own.apart x hx hc
    · rw [List.mem_singleton] at hc
      exact s.gh.apart x hx (by rw [hc]; exact hm)
  · rcases hin x hx with h1 | rfl
    · exact s.may f hf x h1
    · exact s.gh.may f hf _ hm
  · rw [hids] at hx
    rcases List.mem_append.1 hx with hx | hx
    · exact s.gh.disj c (erase_flat_sub hc) hx
    · rw [List.mem_singleton] at hx
      subst hx
      exact hnb hc
  · rcases hin x hx with h1 | rfl
    · exact s.gh.own x h1
    · exact s.gh.hid _ hm
end reads
end Go.Sx
end
section
namespace Go.Sx
open Go
abbrev eU (x : Int) : List D := [.v (.int .u8 x)]
def bI (l : List UInt8) : List Int := l.map fun b => (b.toNat : Int)
theorem bI_eU (l : List UInt8) : (bI l).map eU = l.map eB := by
  unfold bI
  rw [List.map_map]
  rfl
theorem bI_app (l m : List UInt8) : bI l ++ bI m = bI (l ++ m) := by simp [bI]
theorem bI_length (l : List UInt8) : (bI l).length = l.length := by simp [bI]
def opOf {β : Type} (n : Nat) (ops : Array Oper) (E : Env) (i : Nat) (sel : Op → Option β) : Option (β × Option Tmp × List Ob) :=
  match ops[i]? with
  | none => none
  | some o => if dstOk n o.dst && !isSel o.op then match (match o.guard with
      | none => some (none, [])
      | some (j, want) => (guardOf E ops j).map fun c => (some (c, want), [.bb c want])) with
    | none => none
    | some (cd, g) => match opsOk E cd o.op.operands.toList with
      | none => none
      | some q => match sel o.op with
        | some b => some (b, o.dst, g ++ q)
        | none => none
    else none
def chkO {β : Type} (x : Option (β × Option Tmp × List Ob)) : Option (β × Option Tmp) × (List Nat × List Bool × List (Option Nat)) × Nat := match x with
  | some y => (some (y.1, y.2.1), obL y.2.2, (obP y.2.2).length)
  | none => (none, ([], [], []), 0)
def trivO {β : Type} (x : Option (β × Option Tmp × List Ob)) : List Nat × List Bool × List (Option Nat) := match x with
  | some y => obR y.2.2
  | none => ([], [], [])
theorem chkO_sound {β : Type} {x : Option (β × Option Tmp × List Ob)} {b : β} {dst : Option Tmp} (h : chkO x = (some (b, dst), trivO x, 0)) : ∃ p, x = some (b, dst, p) ∧ All p := by
  cases x with
  | none => simp [chkO] at h
  | some y =>
    obtain ⟨a, b, p⟩ := y
    simp only [chkO, trivO, Prod.mk.injEq, Option.some.injEq] at h
    obtain ⟨⟨rfl, rfl⟩, h2, h3⟩ := h
    refine ⟨p, rfl, All_of p h2 ?_⟩
    rw [List.eq_nil_of_length_eq_zero h3]
    trivial
def selPanic (E : Env) : Op → Option Value
  | .panic x => some (rho E x)
  | _ => none
def selDefer (E : Env) : Op → Option (Value × Array Value)
  | .defer c => match c.callee with
    | .value f => some (rho E f, c.args.map (rho E))
    | _ => none
  | _ => none
def selConv (E : Env) : Op → Option (TypeId × TypeId × Value)
  | .convert src dt x => some (src, dt, rho E x)
  | _ => none
def selApp (E : Env) : Op → Option (TypeId × TypeId × Value × Value)
  | .call c => match c.callee with
    | .builtin .append => match c.args.toList, c.argTypes.toList with
      | [s, x], [t, u] => some (t, u, rho E s, rho E x)
      | _, _ => none
    | _ => none
  | _ => none
def selCat (E : Env) : Op → Option (ByteArray × ByteArray)
  | .binOp .add _ x y _ => match rho E x, rho E y with
    | .string a, .string b => some (a, b)
    | _, _ => none
  | _ => none
theorem ba_of {t : ByteArray} {l : List UInt8} (h : t.data.toList = l) : t = ⟨l.toArray⟩ := by
  subst h
  cases t
  simp
theorem ba_app (a b : List UInt8) : (⟨a.toArray⟩ : ByteArray) ++ ⟨b.toArray⟩ = ⟨(a ++ b).toArray⟩ := ba_of (by simp)
theorem eqRun_cat {P : Program} {t : TypeId} {x y : Operand} (l m : List UInt8) (hb : l.length + m.length ≤ 1000000000) : eqRun P .add t x y (.string ⟨l.toArray⟩) (.string ⟨m.toArray⟩) (.string ⟨(l ++ m).toArray⟩) := fun w => by
  have hsz : (⟨l.toArray⟩ : ByteArray).size + (⟨m.toArray⟩ : ByteArray).size ≤ 9223372036854775807 := by
    show l.toArray.size + m.toArray.size ≤ _
    simp
    omega
  have e1 := run_string_add_sum (P := P) (w := w) ⟨l.toArray⟩ ⟨m.toArray⟩ hsz
  exact ⟨by simp [eqGuard], by simp [binOp, e1, ba_app]⟩
section
variable {P : Program} {f : Func} [Pan f] {R : Act → World → Prop} {n : Nat} [Dfr n] {k : List Itm} {E : Env} {h r : List (Nat × Obj)} {F : List (List Nat × World)} {Y : Ghost}
theorem opOf_sound {β : Type} {ops : Array Oper} {i : Nat} {sel : Op → Option β} {b : β} {dst : Option Tmp} {p : List Ob} (he : opOf n ops E i sel = some (b, dst, p)) (hp : All p)
    {a : Act} {w : World} {fps : List (List Nat)} (s : StF n E h r F Y a w fps) {K : Act → World → Prop} {Q : Exit → Act → World → Prop}
    (H : ∀ o : Oper, sel o.op = some b → o.dst = dst → dstOk n dst = true → o.upon P a K Q ((execOp (rho E) o).run P w)) : wpOp P ops Q i K a w := by
  unfold opOf at he
  split at he
  · cases he
  rename_i o ho
  split at he
  case isFalse => cases he
  rename_i hd
  simp only [Bool.and_eq_true, Bool.not_eq_true'] at hd
  split at he
  · cases he
  rename_i cd g hg
  split at he
  · cases he
  rename_i q hq
  split at he
  case h_2 => cases he
  rename_i b' hb
  simp only [Option.some.injEq, Prod.mk.injEq] at he
  obtain ⟨rfl, rfl, rfl⟩ := he
  obtain ⟨hg1, hq1⟩ := All_append hp
  have hwant : Region.wanted o (yielded ops a.tmps) = true ∧ ∀ c wn, cd = some (c, wn) → c = wn := by
    cases hgd : o.guard with
    | none =>
      rw [hgd] at hg
      simp only [Option.some.injEq, Prod.mk.injEq] at hg
      refine ⟨by simp [Region.wanted, hgd], fun c wn h => ?_⟩
      rw [← hg.1] at h
      cases h
    | some y =>
      obtain ⟨j, want⟩ := y
      rw [hgd] at hg
      obtain ⟨c, hc, hcg⟩ := Option.map_eq_some_iff.1 hg
      simp only [Prod.mk.injEq] at hcg
      obtain ⟨rfl, rfl⟩ := hcg
      have hy := guardOf_sound s.ag hc
      have hcw : c = want := hg1.1
      refine ⟨by simp [Region.wanted, hgd, hy, hcw], fun c' wn h => ?_⟩
      injection h with h
      injection h with h1 h2
      rw [← h1, ← h2]
      exact hcw
  unfold wpOp
  simp only [ho]
  rw [if_pos hwant.1]
  refine .inl ?_
  unfold Oper.wp
  have hcongr : execOp a.eval o = execOp (rho E) o := execOp_congr o (fun cs b hc => by have := hd.2; rw [hc] at this; cases this) (fun x hx => opsOk_sound s.ag hwant.2 _ _ hq hq1 x (by simpa using hx))
  rw [hcongr]
  exact H o hb rfl hd.1
theorem JR_cat {id L0 i : Nat} {ck : Bool} {Wp : List (Nat × List Nat)} {rest : List (Nat × Bool)} (l m : List UInt8) (dst : Option Tmp)
    (he : chkO (opOf n (rgOf f id) E i (selCat E)) = (some ((⟨l.toArray⟩, ⟨m.toArray⟩), dst), trivO (opOf n (rgOf f id) E i (selCat E)), 0)) (hb : l.length + m.length ≤ 1000000000)
    (A : JR P f R n (rgOf f id) L0 ck rest (Wp.filter (·.1 != i)) k (E.put dst (.val (.string ⟨(l ++ m).toArray⟩))) h r F Y) :
    JR P f R n (rgOf f id) L0 ck ((i, false) :: rest) Wp k E h r F Y := by
  obtain ⟨p, he, hp⟩ := chkO_sound he
  intro B Hd fps a w s hH hR hN hW
  simp only [PW]
  refine opOf_sound he hp s fun o ho hod hdo => ?_
  unfold selCat at ho
  split at ho
  case h_2 => cases ho
  rename_i t x y yt hx
  split at ho
  case h_2 => cases ho
  rename_i a1 b1 hx1 hy1
  simp only [Option.some.injEq, Prod.mk.injEq] at ho
  obtain ⟨rfl, rfl⟩ := ho
  have hsz : (⟨l.toArray⟩ : ByteArray).size + (⟨m.toArray⟩ : ByteArray).size ≤ 9223372036854775807 := by
    show l.toArray.size + m.toArray.size ≤ _
    simp
    omega
  have e : (execOp (rho E) o).run P w = .ok (.value (.string ⟨(l ++ m).toArray⟩)) w := by
    have e1 := run_string_add_sum (P := P) (w := w) ⟨l.toArray⟩ ⟨m.toArray⟩ hsz
    unfold execOp
    simp [hx, hx1, hy1, eqGuard, binOp, e1, ba_app]
  rw [e, Oper.upon_value]
  refine ⟨fun _ b _ _ => rfl, ?_⟩
  rw [filter_idsW]
  subst hod
  exact A B Hd fps _ w ⟨s.ag.put hdo (.val _), s.own, s.fr, s.may, s.gh⟩ hH hR hN (okWp_filter hW)
theorem JN {S0 : Nat → Prop} {C0 : List Chunk} {G0 : List (Value × D)} {ops : Array Oper} {L0 : Nat} {ck : Bool} {plan : List (Nat × Bool)} {Wp : List (Nat × List Nat)} (C' : List Chunk) (H : JR P f R n ops L0 ck plan Wp k E h r F ⟨S0, C', G0⟩) (hC : C0 = C' := by kernel_rfl) : JR P f R n ops L0 ck plan Wp k E h r F ⟨S0, C0, G0⟩ := by
  subst hC
  exact H
theorem JR_panic {id L0 i : Nat} {ck : Bool} {Wp : List (Nat × List Nat)} {rest : List (Nat × Bool)} (t : TypeId) (v : Value) (dst : Option Tmp)
    (he : chkO (opOf n (rgOf f id) E i (selPanic E)) = (some (.iface t v, dst), trivO (opOf n (rgOf f id) E i (selPanic E)), 0))
    (H : ∀ a w, St n E h r F Y a w → Pan.pan f [{ v := .iface t v, recovered := false }] a w) :
    JR P f R n (rgOf f id) L0 ck ((i, false) :: rest) Wp k E h r F Y := by
  obtain ⟨p, he, hp⟩ := chkO_sound he
  intro B Hd fps a w s hH hR hN hW
  simp only [PW]
  refine opOf_sound he hp s fun o ho _ _ => ?_
  unfold selPanic at ho
  split at ho
  case h_2 => cases ho
  rename_i x hx
  obtain ho := Option.some.inj ho
  have e : (execOp (rho E) o).run P w = .halt (.panic (.iface t v)) w := by
    unfold execOp
    have e0 : (Instr.panic (.iface t v)).run P w = .halt (.panic (.iface t v)) w := rfl
    simp only [hx, ho, Sem.run_bind, e0]
    rfl
  rw [e, Oper.upon_panic]
  exact (wpK_pan _ _ _ _).2 (H a w ⟨fps, s⟩)
theorem JR_defer {id L0 i : Nat} {ck : Bool} {Wp : List (Nat × List Nat)} {rest : List (Nat × Bool)} (fid : FuncId) (cap : Array Value) (args : Array Value) (dst : Option Tmp)
    (he : chkO (opOf n (rgOf f id) E i (selDefer E)) = (some ((.func (.func fid) #[] cap, args), dst), trivO (opOf n (rgOf f id) E i (selDefer E)), 0)) (hdst : dst = none) (ds0 : List Deferred) (hds0 : Dfr.ds n = ds0)
    (H : ∀ inst1 : Dfr n, inst1.ds = { target := .fn (.func fid) cap, args := args } :: ds0 → @JR P f _ R n inst1 (rgOf f id) L0 ck rest (Wp.filter (·.1 != i)) k E h r F Y) :
    JR P f R n (rgOf f id) L0 ck ((i, false) :: rest) Wp k E h r F Y := by
  obtain ⟨p, he, hp⟩ := chkO_sound he
  intro B Hd fps a w s hH hR hN hW
  simp only [PW]
  refine opOf_sound he hp s fun o ho hod _ => ?_
  unfold selDefer at ho
  split at ho
  case h_2 => cases ho
  rename_i c hx
  split at ho
  case h_2 => cases ho
  rename_i fx hc
  simp only [Option.some.injEq, Prod.mk.injEq] at ho
  obtain ⟨ho1, ho2⟩ := ho
  have e : (execOp (rho E) o).run P w = .ok (.defer { target := .fn (.func fid) cap, args := args }) w := by
    unfold execOp
    simp [hx, resolve, hc, ho1, ho2, Deferred.ofValue]
  rw [e, Oper.upon_defer, hod, hdst]
  refine ⟨fun _ b _ _ => rfl, ?_⟩
  rw [filter_idsW]
  subst hds0
  have hA : @Ag n ⟨{ target := .fn (.func fid) cap, args := args } :: Dfr.ds n⟩ E { a with defers := { target := .fn (.func fid) cap, args := args } :: a.defers } := by
    refine @Ag.mk n ⟨_⟩ E _ ?_ s.ag.size s.ag.look
    simp only [s.ag.defers]
  exact H ⟨{ target := .fn (.func fid) cap, args := args } :: Dfr.ds n⟩ rfl B Hd fps _ w (@StF.mk n ⟨_⟩ E h r F Y _ w fps hA s.own s.fr s.may s.gh) hH hR hN (okWp_filter hW)
theorem callOf_soundp {ops : Array Oper} {i : Nat} {hs : List Hn} {fid : FuncId} {args : Array Value} {dst : Option Tmp} {p : List Ob} (he : callOf P n ops h r E i hs = some (fid, args, dst, p)) (hp : All p)
    {a : Act} {w : World} {fps : List (List Nat)} (s : StF n E h r F Y a w fps) {K : Act → World → Prop} {Q : Exit → Act → World → Prop}
    (C : Calls P fid args w fun e w' => (∃ v, e = .returned v ∧ ∀ E', E' = E.put dst (.val v) → ∀ a', Ag n E' a' → K a' w') ∨ ∃ ch, e = .panicked ch ∧ Q (.panic ch) a w') : wpOp P ops Q i K a w := by
  unfold callOf at he
  split at he
  · cases he
  rename_i o ho
  split at he
  case isFalse => cases he
  rename_i hd
  simp only [Bool.and_eq_true, Bool.not_eq_true'] at hd
  split at he
  · cases he
  rename_i cd g hg
  split at he
  · cases he
  rename_i q hq
  split at he
  case h_2 => cases he
  rename_i fid' args' p' hx
  simp only [Option.some.injEq, Prod.mk.injEq] at he
  obtain ⟨rfl, rfl, rfl, rfl⟩ := he
  obtain ⟨hg1, hp⟩ := All_append hp
  obtain ⟨hq1, hp1⟩ := All_append hp
  have hwant : Region.wanted o (yielded ops a.tmps) = true ∧ ∀ c wn, cd = some (c, wn) → c = wn := by
    cases hgd : o.guard with
    | none =>
      rw [hgd] at hg
      simp only [Option.some.injEq, Prod.mk.injEq] at hg
      refine ⟨by simp [Region.wanted, hgd], fun c wn h => ?_⟩
      rw [← hg.1] at h
      cases h
    | some y =>
      obtain ⟨j, want⟩ := y
      rw [hgd] at hg
      obtain ⟨c, hc, hcg⟩ := Option.map_eq_some_iff.1 hg
      simp only [Prod.mk.injEq] at hcg
      obtain ⟨rfl, rfl⟩ := hcg
      have hy := guardOf_sound s.ag hc
      have hcw : c = want := hg1.1
      refine ⟨by simp [Region.wanted, hgd, hy, hcw], fun c' wn h => ?_⟩
      injection h with h
      injection h with h1 h2
      rw [← h1, ← h2]
      exact hcw
  unfold wpOp
  simp only [ho]
  rw [if_pos hwant.1]
  refine .inl ?_
  unfold Oper.wp
  have hcongr : execOp a.eval o = execOp (rho E) o := execOp_congr o (fun cs b hc => by have := hd.2; rw [hc] at this; cases this) (fun x hx => opsOk_sound s.ag hwant.2 _ _ hq hq1 x (by simpa using hx))
  rw [hcongr, exr_sound _ hs _ _ hx hp1 w fun y hy => by
    obtain ⟨hn, _, hg⟩ := List.mem_filterMap.1 hy
    exact s.own.get hg]
  rw [Oper.upon_enter]
  refine C.mono fun e w' hh => ?_
  rcases hh with ⟨v, rfl, hk⟩ | ⟨ch, rfl, hq⟩
  · exact hk _ rfl _ (s.ag.put hd.1 (.val v))
  · exact hq
def Pn (M : List Nat) (w : World) (w' : World) (e : Ending) (ch : List PanicEntry) : Prop := e = .panicked ch ∧ Fr M w w'
theorem JR_callpan0 {id L0 i : Nat} {ck : Bool} {Wp : List (Nat × List Nat)} {rest : List (Nat × Bool)} (hs : List Hn) (cs : List Nat) (fid : FuncId) (args : Array Value) (dst : Option Tmp)
    (he : chkC (callOf P n (rgOf f id) h r E i hs) = (some (fid, args, dst), trivC (callOf P n (rgOf f id) h r E i hs), 0)) (hok : (!ck || (Wp.lookup i).isSome || cs.isEmpty) = true) (hcs : cs.Nodup)
    (C : ∀ w S M, Pre w S M (pick Y.C cs) → AllG w S Y.G → (cs = [] → M = []) → Calls P fid args w fun e w' => (∃ v C' G', Ret M w S w' e v C' G' ∧
      JR P f R n (rgOf f id) L0 ck rest (Wp.filter (·.1 != i)) k (E.put dst (.val v)) h r F ⟨Y.S, restC Y.C cs ++ C', Y.G ++ G'⟩) ∨
      ∃ ch, Pn M w w' e ch ∧ ∀ a w, St n E h r F ⟨Y.S, restC Y.C cs, Y.G⟩ a w → Pan.pan f ch a w) :
    JR P f R n (rgOf f id) L0 ck ((i, false) :: rest) Wp k E h r F Y := by
  obtain ⟨p, he, hp⟩ := chkC_sound he
  intro B Hd fps a w s hH hR hN hW
  simp only [PW]
  refine callOf_soundp he hp s ((C w (Sd Y h fps) (pick fps cs).flatten (Pre.of s hcs) s.gh.g (fun h => by rw [h]; simp [pick])).mono fun e w' hh => ?_)
  rcases hh with ⟨v, C', G', hRet, H⟩ | ⟨ch, ⟨he2, hf⟩, H⟩
  · left
    have hf := hRet.fr
    refine ⟨v, hRet.ret, fun E' hE a' hA => ⟨fun hck b hb hl => ?_, ?_⟩⟩
    · refine hf.block b hb fun hm => ?_
      have hm2 := pick_flat_sub hm
      cases hWl : Wp.lookup i with
      | none =>
        rw [hWl, hck] at hok
        simp at hok
        subst hok
        simp [pick] at hm
      | some ps =>
        rw [lookup_idsW, hWl] at hl
        obtain ⟨h1, h2⟩ := hl _ rfl
        rcases hH b hm2 with h3 | h3
        · exact h2 (List.mem_append_right _ h3)
        · omega
    · subst hE
      rw [filter_idsW]
      obtain ⟨fps', h3, s'⟩ := s.called (cs := cs) hA hRet
      refine H B Hd _ a' w' s' (fun b hb => ?_) ⟨hR.old, hR.ro, hR.len, Nat.le_trans hR.size hf.size⟩ hN (okWp_filter hW)
      rw [List.flatten_append] at hb
      rcases List.mem_append.1 hb with hb | hb
      · exact hH b (pick_flat_sub hb)
      · rcases h3 b hb with h1 | h1
        · exact hH b (pick_flat_sub h1)
        · exact .inr (Nat.le_trans hR.size h1)
  · right
    refine ⟨ch, he2, (wpK_pan _ _ _ _).2 ?_⟩
    have hRet : Ret (pick fps cs).flatten w (Sd Y h fps) w' (.returned undef) undef [] [] := ⟨rfl, hf, [], trivial, by simp, by simp, by simp⟩
    obtain ⟨fps', _, s'⟩ := s.called (cs := cs) s.ag hRet
    have e1 : pick Y.C (others Y.C.length cs) ++ [] = restC Y.C cs := by rw [List.append_nil]; rfl
    have e2 : Y.G ++ [] = Y.G := List.append_nil _
    rw [e1, e2] at s'
    exact H a w' ⟨_, s'⟩
theorem JR_callpan {S0 : Nat → Prop} {C0 : List Chunk} {G0 : List (Value × D)} {id L0 i : Nat} {ck : Bool} {Wp : List (Nat × List Nat)} {rest : List (Nat × Bool)} (hs : List Hn) (cs : List Nat) (fid : FuncId) (args : Array Value) (dst : Option Tmp)
    (he : chkC (callOf P n (rgOf f id) h r E i hs) = (some (fid, args, dst), trivC (callOf P n (rgOf f id) h r E i hs), 0)) (hok : (!ck || (Wp.lookup i).isSome || cs.isEmpty) = true) (hcs : cs.Nodup)
    (C : ∀ w S M, Pre w S M (pick C0 cs) → AllG w S G0 → (cs = [] → M = []) → Calls P fid args w fun e w' => (∃ v C' G', Ret M w S w' e v C' G' ∧
      JR P f R n (rgOf f id) L0 ck rest (Wp.filter (·.1 != i)) k (E.put dst (.val v)) h r F ⟨S0, restC C0 cs ++ C', G0 ++ G'⟩) ∨
      ∃ ch, Pn M w w' e ch ∧ ∀ a w, St n E h r F ⟨S0, restC C0 cs, G0⟩ a w → Pan.pan f ch a w) :
    JR P f R n (rgOf f id) L0 ck ((i, false) :: rest) Wp k E h r F ⟨S0, C0, G0⟩ := JR_callpan0 (Y := ⟨S0, C0, G0⟩) hs cs fid args dst he hok hcs C
theorem JR_callpanp0 {id L0 i : Nat} {ck : Bool} {Wp : List (Nat × List Nat)} {rest : List (Nat × Bool)} (hs : List Hn) (fid : FuncId) (args : Array Value) (dst : Option Tmp)
    (he : chkC (callOf P n (rgOf f id) h r E i hs) = (some (fid, args, dst), trivC (callOf P n (rgOf f id) h r E i hs), 0))
    (C : ∀ w S, AllG w S Y.G → Calls P fid args w fun e w' => (∃ v C' G', Ret [] w S w' e v C' G' ∧
      JR P f R n (rgOf f id) L0 ck rest (Wp.filter (·.1 != i)) k (E.put dst (.val v)) h r F ⟨Y.S, Y.C ++ C', Y.G ++ G'⟩) ∨
      ∃ ch, Pn [] w w' e ch ∧ ∀ a w, St n E h r F Y a w → Pan.pan f ch a w) :
    JR P f R n (rgOf f id) L0 ck ((i, false) :: rest) Wp k E h r F Y := by
  have e0 : restC Y.C [] = Y.C := by
    have h1 : others Y.C.length [] = List.range Y.C.length := by simp [others]
    unfold restC
    rw [h1, pick_all]
  refine JR_callpan0 hs [] fid args dst he (by simp) (by simp) fun w S M _ hG hM => ?_
  obtain rfl := hM rfl
  refine (C w S hG).mono fun e w' hh => ?_
  rw [e0]
  exact hh
theorem JR_callpanp {S0 : Nat → Prop} {C0 : List Chunk} {G0 : List (Value × D)} {id L0 i : Nat} {ck : Bool} {Wp : List (Nat × List Nat)} {rest : List (Nat × Bool)} (hs : List Hn) (fid : FuncId) (args : Array Value) (dst : Option Tmp)
    (he : chkC (callOf P n (rgOf f id) h r E i hs) = (some (fid, args, dst), trivC (callOf P n (rgOf f id) h r E i hs), 0))
    (C : ∀ w S, AllG w S G0 → Calls P fid args w fun e w' => (∃ v C' G', Ret [] w S w' e v C' G' ∧
      JR P f R n (rgOf f id) L0 ck rest (Wp.filter (·.1 != i)) k (E.put dst (.val v)) h r F ⟨S0, C0 ++ C', G0 ++ G'⟩) ∨
      ∃ ch, Pn [] w w' e ch ∧ ∀ a w, St n E h r F ⟨S0, C0, G0⟩ a w → Pan.pan f ch a w) :
    JR P f R n (rgOf f id) L0 ck ((i, false) :: rest) Wp k E h r F ⟨S0, C0, G0⟩ := JR_callpanp0 (Y := ⟨S0, C0, G0⟩) hs fid args dst he C
theorem JR_strq0 {id L0 i : Nat} {ck : Bool} {Wp : List (Nat × List Nat)} {rest : List (Nat × Bool)} (q src dt e e' : TypeId) {a0 : Option Addr} {len cap0 : Nat} {l : List UInt8} (dst : Option Tmp)
    (he : chkO (opOf n (rgOf f id) E i (selConv E)) = (some ((src, dt, .slice a0 len cap0), dst), trivO (opOf n (rgOf f id) E i (selConv E)), 0))
    (hs : P.underlying src = some (.slice e)) (hb : P.underlying e = some (.int .u8)) (hd : P.underlying dt = some .string)
    (hc : Y.C[q]? = some (cAcc (.slice a0 len cap0) e' 1 ((bI l).map eU)))
    (A : JR P f R n (rgOf f id) L0 ck rest (Wp.filter (·.1 != i)) k (E.put dst (.val (.string ⟨l.toArray⟩))) h r F Y) :
    JR P f R n (rgOf f id) L0 ck ((i, false) :: rest) Wp k E h r F Y := by
  obtain ⟨p, he, hp⟩ := chkO_sound he
  rw [bI_eU] at hc
  intro B Hd fps a w s hH hR hN hW
  simp only [PW]
  obtain ⟨fp, hfp, _, hP⟩ := s.gh.chs.at hc
  have hrun : (convert src dt (.slice a0 len cap0)).run P w = .ok (.string ⟨l.toArray⟩) w := by
    rcases hP with ⟨h1, h2, _⟩ | ⟨g, cap, cur, xs, h2, _, h3, h4, h5⟩
    · cases h2
      have : l = [] := by simpa using h1
      subst this
      rw [run_convert_bytes_string w src dt e none 0 0 hs hb hd]
      rfl
    · cases h2
      have hl : (l.map eB).length = l.length := by simp
      rw [hl]
      refine run_convert_bytes_back w src dt e ⟨g, 0, none⟩ _ l hs hb hd fun j hj => ?_
      have hi : (l.map eB)[j]? = some (eB l[j]) := by simp [hj]
      obtain ⟨u, hu, hr⟩ := h5.rep j 0 _ _ hi rfl
      have hu2 := hr.plain
      subst hu2
      have hadd : (⟨g, 0, none⟩ : Addr).add j = ⟨g, 0 + j, none⟩ := by unfold Addr.add; split <;> simp_all
      rw [hadd]
      refine cell_of rfl h3 rfl ?_
      show cur[0 + j]? = _
      rw [Nat.zero_add, h4.at (j := j) (by rw [hl]; omega)]
      simpa using hu
  refine opOf_sound he hp s fun o ho hod hdo => ?_
  unfold selConv at ho
  split at ho
  case h_2 => cases ho
  rename_i src' dt' x hx
  simp only [Option.some.injEq, Prod.mk.injEq] at ho
  obtain ⟨rfl, rfl, ho⟩ := ho
  unfold execOp
  simp only [hx, ho, Sem.run_bind, hrun, Result.andThen_ok, Sem.run_pure]
  rw [Oper.upon_value]
  refine ⟨fun _ b _ _ => rfl, ?_⟩
  rw [filter_idsW]
  subst hod
  exact A B Hd fps _ w ⟨s.ag.put hdo (.val _), s.own, s.fr, s.may, s.gh⟩ hH hR hN (okWp_filter hW)
theorem JR_strq {S0 : Nat → Prop} {C0 : List Chunk} {G0 : List (Value × D)} {id L0 i : Nat} {ck : Bool} {Wp : List (Nat × List Nat)} {rest : List (Nat × Bool)} (q src dt e e' : TypeId) {a0 : Option Addr} {len cap0 : Nat} {l : List UInt8} (dst : Option Tmp)
    (he : chkO (opOf n (rgOf f id) E i (selConv E)) = (some ((src, dt, .slice a0 len cap0), dst), trivO (opOf n (rgOf f id) E i (selConv E)), 0))
    (hs : P.underlying src = some (.slice e)) (hb : P.underlying e = some (.int .u8)) (hd : P.underlying dt = some .string)
    (hc : C0[q]? = some (cAcc (.slice a0 len cap0) e' 1 ((bI l).map eU)))
    (A : JR P f R n (rgOf f id) L0 ck rest (Wp.filter (·.1 != i)) k (E.put dst (.val (.string ⟨l.toArray⟩))) h r F ⟨S0, C0, G0⟩) :
    JR P f R n (rgOf f id) L0 ck ((i, false) :: rest) Wp k E h r F ⟨S0, C0, G0⟩ := JR_strq0 (Y := ⟨S0, C0, G0⟩) q src dt e e' dst he hs hb hd hc A
theorem JR_strb {id L0 i : Nat} {ck : Bool} {Wp : List (Nat × List Nat)} {rest : List (Nat × Bool)} (q src dt e : TypeId) {b cap : Nat} {cs : Array Value} {ty : TypeId} {fz : Nat × Nat} (l : List UInt8) (dst : Option Tmp)
    (he : chkO (opOf n (rgOf f id) E i (selConv E)) = (some ((src, dt, .slice (some ⟨b, 0, none⟩) l.length cap), dst), trivO (opOf n (rgOf f id) E i (selConv E)), 0))
    (hs : P.underlying src = some (.slice e)) (hb : P.underlying e = some (.int .u8)) (hd : P.underlying dt = some .string)
    (hc : h[q]? = some (b, .cells cs ty fz)) (hl : ∀ j (hj : j < l.length), cs[j]? = some (.int .u8 (l[j].toNat : Int)))
    (A : JR P f R n (rgOf f id) L0 ck rest (Wp.filter (·.1 != i)) k (E.put dst (.val (.string ⟨l.toArray⟩))) h r F Y) :
    JR P f R n (rgOf f id) L0 ck ((i, false) :: rest) Wp k E h r F Y := by
  obtain ⟨p, he, hp⟩ := chkO_sound he
  intro B Hd fps a w s hH hR hN hW
  simp only [PW]
  have hb0 := s.own.own _ (List.mem_of_getElem? hc)
  have hrun : (convert src dt (.slice (some ⟨b, 0, none⟩) l.length cap)).run P w = .ok (.string ⟨l.toArray⟩) w := by
    refine run_convert_bytes_back w src dt e ⟨b, 0, none⟩ _ l hs hb hd fun j hj => ?_
    have hadd : (⟨b, 0, none⟩ : Addr).add j = ⟨b, 0 + j, none⟩ := by unfold Addr.add; split <;> simp_all
    rw [hadd]
    exact cell_of rfl hb0 rfl (by rw [Nat.zero_add]; exact hl j hj)
  refine opOf_sound he hp s fun o ho hod hdo => ?_
  unfold selConv at ho
  split at ho
  case h_2 => cases ho
  rename_i src' dt' x hx
  simp only [Option.some.injEq, Prod.mk.injEq] at ho
  obtain ⟨rfl, rfl, ho⟩ := ho
  unfold execOp
  simp only [hx, ho, Sem.run_bind, hrun, Result.andThen_ok, Sem.run_pure]
  rw [Oper.upon_value]
  refine ⟨fun _ b _ _ => rfl, ?_⟩
  rw [filter_idsW]
  subst hod
  exact A B Hd fps _ w ⟨s.ag.put hdo (.val _), s.own, s.fr, s.may, s.gh⟩ hH hR hN (okWp_filter hW)
theorem strCells_rows (s : ByteArray) : ∀ (w : World) (S : Nat → Prop), RowsAt w S (Lib.strCells s) 1 (s.data.toList.map eB) := fun w S => by
  refine ⟨fun row hr => ?_, fun i j row d hi hj => ?_⟩
  · obtain ⟨x, _, rfl⟩ := List.mem_map.1 hr
    rfl
  · rw [List.getElem?_map] at hi
    obtain ⟨x, hx, rfl⟩ := Option.map_eq_some_iff.1 hi
    match j, hj with
    | 0, hj =>
      simp only [List.getElem?_cons_zero, Option.some.injEq] at hj
      subst hj
      refine ⟨.int .u8 x.toNat, ?_, .v rfl⟩
      simp [Lib.strCells, hx]
    | j + 1, hj => simp at hj
theorem JR_apps0 {id L0 i : Nat} {ck : Bool} {Wp : List (Nat × List Nat)} {rest : List (Nat × Bool)} (q t u e : TypeId) (s0 : ByteArray) {a0 : Option Addr} {len cap0 : Nat} {l : List Int} (dst : Option Tmp)
    (he : chkO (opOf n (rgOf f id) E i (selApp E)) = (some ((t, u, .slice a0 len cap0, .string s0), dst), trivO (opOf n (rgOf f id) E i (selApp E)), 0)) (hok : (!ck || (Wp.lookup i).isSome) = true)
    (ht : P.underlying t = some (.slice e)) (hu : P.underlying u = some .string) (hi : (P.info? e).map (fun i => (i.zero, i.size, i.bytes)) = some (some (.int .u8 0), 1, 1))
    (hc : Y.C[q]? = some (cAcc (.slice a0 len cap0) e 1 (l.map eU))) (hmax : len + s0.size ≤ 1000000000)
    (A : ∀ a' cap', JR P f R n (rgOf f id) L0 ck rest (Wp.filter (·.1 != i)) k (E.put dst (.val (.slice a' (len + s0.size) cap'))) h r F ⟨Y.S, restC Y.C [q] ++ [cAcc (.slice a' (len + s0.size) cap') e 1 ((l ++ bI s0.data.toList).map eU)], Y.G ++ []⟩) :
    JR P f R n (rgOf f id) L0 ck ((i, false) :: rest) Wp k E h r F Y := by
  obtain ⟨p, he, hp⟩ := chkO_sound he
  obtain ⟨inf, h1i, h2i, hsz, hby⟩ := infoParts hi
  intro B Hd fps a w s hH hR hN hW
  simp only [PW]
  obtain ⟨fp, hfp, _, hP⟩ := s.gh.chs.at hc
  have hlen := acc_len (show (cAcc (.slice a0 len cap0) e 1 (l.map eU)).P w (Sd Y h fps) fp from ⟨by decide, hP⟩)
  have hll : l.length = len := by rw [hlen]; simp
  have hpk : pick fps [q] = [fp] := by simp [pick, hfp]
  have hM : (pick fps [q]).flatten = fp := by rw [hpk]; simp
  have hmem : ∀ b ∈ fp, b ∈ fps.flatten := fun b hb => List.mem_flatten.2 ⟨fp, List.mem_of_getElem? hfp, hb⟩
  have hnot : ∀ b, Sd Y h fps b → b ∉ fp := fun b hb hm => hb.2.2 (hmem b hm)
  have hmm : len + s0.size ≤ maxLen := by simp only [maxLen]; omega
  have hown : ∃ xs, w.ownsRow 0 e 1 (.slice a0 len cap0) len xs ∧ RowsAt w (Sd Y h fps) xs 1 (l.map eU) ∧ xs.length = (l.map eU).length * 1 ∧ (∀ b, (Value.slice a0 len cap0).ownBlock = some b → b ∈ fp) := by
    rcases hP with ⟨h1, h2, rfl⟩ | ⟨g, cap, cur, xs, h2, rfl, h3, h4, h5⟩
    · cases h2
      refine ⟨[], World.ownsRow_nil w 0 e 1, ?_, by rw [h1]; simp, by simp [Value.ownBlock]⟩
      rw [h1]
      exact RowsAt.nil _ _ _ _
    · cases h2
      exact ⟨xs, ⟨h4.len, .inr ⟨g, cap0, cur, rfl, Nat.zero_le _, h3, h4.le, h4.max, h4.siz, h4.take⟩⟩, h5, h4.len, by simp [Value.ownBlock]⟩
  obtain ⟨xs, hown, hRx, hxl, hob⟩ := hown
  have key : ∀ ty, ∃ a' cap' w', (Builtin.append_ #[t, u] ty #[.slice a0 len cap0, .string s0]).run P w = .ok (.slice a' (len + s0.size) cap') w' ∧ Ret (pick fps [q]).flatten w (Sd Y h fps) w' (.returned (.slice a' (len + s0.size) cap')) (.slice a' (len + s0.size) cap') [cAcc (.slice a' (len + s0.size) cap') e 1 ((l ++ bI s0.data.toList).map eU)] [] := by
    intro ty
    rw [hM]
    obtain ⟨v', w', hrun, hown', hgr, hnil⟩ := Lib.run_append_own_string (P := P) w 0 t u ty e inf ht hu h1i h2i hsz hby (.slice a0 len cap0) len xs hown s0 hmm (by omega) (Nat.zero_le _)
    have hat : v'.ownBlock = (Value.slice a0 len cap0).ownBlock ∨ v'.ownBlock = some w.heap.size := by
      rcases hown.2 with ⟨h1, h0⟩ | ⟨g, cap, cur, h1, _, hg, hnc, hcm, hcs, htake⟩
      · cases h1
        rcases Nat.eq_zero_or_pos s0.size with hz | hz
        · exact .inl (by rw [hnil.2 ⟨rfl, hz⟩])
        · have h2 := hrun.symm.trans (run_append_nil_string (P := P) w t u ty e inf (.int .u8 0) ht hu h1i h2i s0 hz (by omega) (by rw [hby]; omega))
          cases h2
          exact .inr rfl
      · cases h1
        by_cases hroom : len + s0.size ≤ cap0
        · have h2 := hrun.symm.trans (Lib.run_append_room_string (P := P) w t u ty e inf ht hu h1i hsz g len cap0 cur hg s0 hroom (by rw [hcs]; omega))
          cases h2
          exact .inl rfl
        · have holds : ∀ j u, xs[j]? = some u → w.cell? ((⟨g, 0, none⟩ : Addr).add j) = some u := hown.cells (g := g) rfl
          have h2 := hrun.symm.trans (Lib.run_append_grow_string (P := P) w t u ty e inf (.int .u8 0) ht hu h1i h2i ⟨g, 0, none⟩ len cap0 xs (by rw [hsz]; exact hown.1) holds s0 (by omega) (by omega) (by rw [hby]; exact growslice_fits (by omega) (by omega)))
          cases h2
          exact .inr rfl
    have hfr : Fr fp w w' := ⟨hgr.os, hgr.tape, hgr.output, hgr.size, fun b hb hn => hgr.block b hb fun he => hn (hob b he.symm), Sem.run_drawn hrun⟩
    have hRall : ∀ g', (g' ∈ fp ∨ w.heap.size ≤ g') → RowsAt w' (retS (Sd Y h fps) fp w [[g']]) (xs ++ Lib.strCells s0) 1 ((l ++ bI s0.data.toList).map eU) := fun g' hg' => by
      rw [List.map_append, bI_eU]
      refine (hRx.mono fun b hb hlt => ⟨⟨.inl hb, fun hm => ?_⟩, hfr.block b hlt (hnot b hb)⟩).app hxl (strCells_rows s0 _ _)
      simp only [List.flatten_cons, List.flatten_nil, List.append_nil, List.mem_singleton] at hm
      subst hm
      rcases hg' with h1 | h1
      · exact hnot _ hb h1
      · omega
    have hml : ((l ++ bI s0.data.toList).map eU).length = len + s0.size := by simp [hll, bI]
    rcases hown'.2 with ⟨h1, h0⟩ | ⟨g', cap', cur', rfl, _, hg', hle, hmx, hsz', htk⟩
    · have h2 := hnil.1 h1
      have hz : s0.data.toList = [] := List.eq_nil_of_length_eq_zero (by have := h2.2; simpa using this)
      obtain ⟨h3, h4⟩ := h2
      cases h3
      have hl0 : l = [] := List.eq_nil_of_length_eq_zero hll
      subst h1 hl0
      refine ⟨none, 0, w', by rw [hrun, h4], ?_, hfr, [[]], ⟨⟨by decide, .inl ⟨by rw [hz]; rfl, by rw [h4], rfl⟩⟩, trivial⟩, by simp, by simp, by simp⟩
      rfl
    · have hg'' : g' ∈ fp ∨ w.heap.size ≤ g' := by
        simp only [Value.ownBlock] at hat
        rcases hat with h1 | h1
        · exact .inl (hob g' (by simp only [Value.ownBlock]; exact h1.symm))
        · simp only [Option.some.injEq] at h1
          exact .inr (by omega)
      have hlt : g' < w'.heap.size := (Array.getElem?_eq_some_iff.1 hg').1
      refine ⟨_, cap', w', hrun, rfl, hfr, [[g']], ⟨⟨by decide, .inr ⟨g', cap', cur', xs ++ Lib.strCells s0, by rw [hml], rfl, hg', ?_, hRall g' hg''⟩⟩, trivial⟩, by simp, fun b hb => ?_, by simp⟩
      · rw [hml]
        exact ⟨hown'.1, hsz', hle, hmx, htk⟩
      · simp only [List.flatten_cons, List.flatten_nil, List.append_nil, List.mem_singleton] at hb
        subst hb
        exact ⟨hg'', hlt⟩
  refine opOf_sound he hp s fun o ho hod hdo => ?_
  unfold selApp at ho
  split at ho
  case h_2 => cases ho
  rename_i c hx
  split at ho
  case h_2 => cases ho
  rename_i hcal
  split at ho
  case h_2 => cases ho
  rename_i xs1 x1 t1 u1 hargs htys
  simp only [Option.some.injEq, Prod.mk.injEq] at ho
  obtain ⟨rfl, rfl, e1, e2⟩ := ho
  have hca : c.args = #[xs1, x1] := by rw [← Array.toArray_toList (xs := c.args), hargs]
  have hct : c.argTypes = #[t1, u1] := by rw [← Array.toArray_toList (xs := c.argTypes), htys]
  obtain ⟨a', cap', w', hrun, hRet⟩ := key o.type
  unfold execOp
  simp only [hx, resolve, hcal, hca, hct, invoke, builtin, Sem.run_bind, Sem.run_pure, Result.andThen_ok, List.map_toArray, List.map_cons, List.map_nil, e1, e2, hrun]
  rw [Oper.upon_value]
  subst hod
  have hf := hRet.fr
  have hA := s.ag.put hdo (.val (.slice a' (len + s0.size) cap'))
  refine ⟨fun hck b hb hl => hf.block b hb fun hm => ?_, ?_⟩
  · have hm2 := pick_flat_sub hm
    cases hWl : Wp.lookup i with
    | none =>
      rw [hWl, hck] at hok
      simp at hok
    | some ps =>
      rw [lookup_idsW, hWl] at hl
      obtain ⟨h1, h2⟩ := hl _ rfl
      rcases hH b hm2 with h3 | h3
      · exact h2 (List.mem_append_right _ h3)
      · omega
  · rw [filter_idsW]
    obtain ⟨fps', h3, s'⟩ := s.called (cs := [q]) hA hRet
    refine A a' cap' B Hd _ _ w' s' (fun b hb => ?_) ⟨hR.old, hR.ro, hR.len, Nat.le_trans hR.size hf.size⟩ hN (okWp_filter hW)
    rw [List.flatten_append] at hb
    rcases List.mem_append.1 hb with hb | hb
    · exact hH b (pick_flat_sub hb)
    · rcases h3 b hb with h1 | h1
      · exact hH b (pick_flat_sub h1)
      · exact .inr (Nat.le_trans hR.size h1)
theorem JR_apps {S0 : Nat → Prop} {C0 : List Chunk} {G0 : List (Value × D)} {id L0 i : Nat} {ck : Bool} {Wp : List (Nat × List Nat)} {rest : List (Nat × Bool)} (q t u e : TypeId) (s0 : ByteArray) {a0 : Option Addr} {len cap0 : Nat} {l : List Int} (dst : Option Tmp)
    (he : chkO (opOf n (rgOf f id) E i (selApp E)) = (some ((t, u, .slice a0 len cap0, .string s0), dst), trivO (opOf n (rgOf f id) E i (selApp E)), 0)) (hok : (!ck || (Wp.lookup i).isSome) = true)
    (ht : P.underlying t = some (.slice e)) (hu : P.underlying u = some .string) (hi : (P.info? e).map (fun i => (i.zero, i.size, i.bytes)) = some (some (.int .u8 0), 1, 1))
    (hc : C0[q]? = some (cAcc (.slice a0 len cap0) e 1 (l.map eU))) (hmax : len + s0.size ≤ 1000000000)
    (A : ∀ a' cap', JR P f R n (rgOf f id) L0 ck rest (Wp.filter (·.1 != i)) k (E.put dst (.val (.slice a' (len + s0.size) cap'))) h r F ⟨S0, restC C0 [q] ++ [cAcc (.slice a' (len + s0.size) cap') e 1 ((l ++ bI s0.data.toList).map eU)], G0 ++ []⟩) :
    JR P f R n (rgOf f id) L0 ck ((i, false) :: rest) Wp k E h r F ⟨S0, C0, G0⟩ := JR_apps0 (Y := ⟨S0, C0, G0⟩) q t u e s0 dst he hok ht hu hi hc hmax A
end
def leaveR (P : Program) (fn : Func) (Rr : Ending → World → Prop) (u : FrameMode) (a : Act) (w : World) : Prop := ∀ tmps : Array Value, tmps.size = a.tmps.size → (∀ p ∈ pins fn, tmps.getD p undef = a.tmps.getD p undef) → Leaves P fn tmps Rr a.defers u w
theorem pins_put {fn : Func} {a : Act} {d : Option Tmp} {v : Value} (hd : pinFree fn d = true) : ∀ p ∈ pins fn, (a.put d v).tmps.getD p undef = a.tmps.getD p undef := by
  intro p hp
  cases d with
  | none => rfl
  | some d =>
    have hne : d ≠ p := by
      rintro rfl
      simp [pinFree, hp] at hd
    simp only [Act.put, Array.getD_eq_getD_getElem?, Array.getElem?_setIfInBounds, if_neg hne]
@[reducible] def panLeave (P : Program) (fn : Func) (Rr : Ending → World → Prop) : Pan fn where
  pan c a w := leaveR P fn Rr (.panicking c) a w
  put c a d v w hd h tmps hs ht := by
    have := h tmps (hs.trans (by cases d <;> simp [Act.put])) fun p hp => (ht p hp).trans (pins_put hd p hp).symm
    cases d <;> exact this
theorem calls_JD {P : Program} {n : Nat} {fid : FuncId} {fn : Func} {sk : Sk} {args : List Value} {w : World} {S : Nat → Prop} {M : List Nat} {C : List Chunk} {G : List (Value × D)} {Rr : Ending → World → Prop} (hf : P.funcs[fid]? = some fn) (hb : fn.body = some (sk.code fn)) (hn : fn.ntmps = n) (hle : Nat.ble args.length n = true)
    (hpre : Pre w S M C) (hG : AllG w S G) (H : ∀ pn : Pan fn, (∀ c a w, leaveR P fn Rr (.panicking c) a w → pn.pan c a w) → J P fn (leaveR P fn Rr .returning) n [.c sk] (envOf 0 args) [] [] [(M, w)] ⟨newS S M w, C, G⟩) : Calls P fid args.toArray w Rr := by
  have H := H (panLeave P fn Rr) fun c a w h => h
  subst hn
  have hle := Nat.le_of_ble_eq_true hle
  obtain ⟨fps, hC, rfl, hnd, hM⟩ := hpre
  have hS : ∀ b, S b → Sd ⟨newS S fps.flatten w, C, G⟩ [] fps b := fun b hb => ⟨.inl hb, by simp, fun hm => (hM b hm).2 hb⟩
  refine calls_of_wp_defers hf hb ?_
  have hA : Ag fn.ntmps (envOf 0 args) { tmps := args.toArray ++ Array.replicate (fn.ntmps - args.toArray.size) undef, defers := [] } := by
    refine ⟨rfl, by simp; omega, fun t ev he => ?_⟩
    obtain ⟨j, v, h1, h2, h3⟩ := envOf_look args 0 t ev he
    obtain rfl : t = j := by omega
    subst h3
    have hj : t < args.length := (List.getElem?_eq_some_iff.1 h2).1
    simp [Array.getElem?_append, hj, EV.now]
    simpa [List.getElem?_eq_getElem hj] using h2
  have := H _ w ⟨fps, hA, own_nil (by simp), by simp [Fr.refl], by simp, ⟨hC.mono (fun _ _ => rfl) fun b hb _ => ⟨hS b hb, rfl⟩, hnd, by simp, by simp, by simp only [List.mem_singleton]; rintro f rfl b hb; exact .inl hb, fun b hb => (hM b hb).1, by simp, fun b hb => .inr (.inl hb), fun b hb => .inr (.inr hb), fun x hx => (hG x hx).mono fun b hb _ => ⟨hS b hb, rfl⟩⟩⟩
  simp only [wpK] at this
  refine wp_mono this fun e a w' hq => ?_
  cases e with
  | normal => exact (show leaveR P fn Rr .returning a w' from hq) a.tmps rfl fun _ _ => rfl
  | ret => exact (show leaveR P fn Rr .returning a w' from hq) a.tmps rfl fun _ _ => rfl
  | exit id => exact absurd hq (by simp [wpK])
  | goto l => exact absurd hq (by simp [wpK])
  | panic c => exact (show leaveR P fn Rr (.panicking c) a w' from hq) a.tmps rfl fun _ _ => rfl
  | outgrown => exact absurd hq (by simp [wpK])
theorem St.frame {n n' : Nat} [Dfr n] [Dfr n'] {E E' : Env} {h r : List (Nat × Obj)} {F : List (List Nat × World)} {Y : Ghost} {a a' : Act} {w : World} (s : St n E h r F Y a w) (hA : Ag n' E' a') : St n' E' h r F Y a' w := by
  obtain ⟨fps, s⟩ := s
  exact ⟨fps, hA, s.own, s.fr, s.may, s.gh⟩
theorem keepE_look (E : Env) {t : Nat} {ev : EV} : ∀ ts : List Nat, (keepE E ts).lookup t = some ev → t ∈ ts
  | [], h => by cases h
  | u :: ts, h => by
    unfold keepE at h
    split at h
    · by_cases ht : t = u
      · subst ht
        exact List.mem_cons_self ..
      · rw [lookup_cons_ne _ _ ht] at h
        exact List.mem_cons_of_mem _ (keepE_look E ts h)
    · exact List.mem_cons_of_mem _ (keepE_look E ts h)
theorem Ag.pinned {n : Nat} {inst : Dfr n} {fn : Func} {E : Env} {a : Act} {tmps : Array Value} (hA : @Ag n inst E a) (hs : tmps.size = a.tmps.size) (ht : ∀ p ∈ pins fn, tmps.getD p undef = a.tmps.getD p undef) : @Ag n (instDfr n) (keepE E (pins fn)) ⟨tmps, []⟩ := by
  refine @Ag.mk n (instDfr n) _ _ rfl (hs.trans hA.size) fun t ev he => ?_
  have h1 := keepE_look E _ he
  have h2 := hA.look t ev (keepE_sub E _ t ev he)
  have h3 := ht t h1
  have hlt : t < a.tmps.size := (Array.getElem?_eq_some_iff.1 h2).1
  have hlt2 : t < tmps.size := by omega
  simp only [Array.getD_eq_getD_getElem?, h2, Array.getElem?_eq_getElem hlt2, Option.getD_some] at h3
  rw [Array.getElem?_eq_getElem hlt2, h3]
theorem leave0 {P : Program} {fn : Func} {n : Nat} {inst : Dfr n} {Rr : Ending → World → Prop} {E : Env} {h r : List (Nat × Obj)} {F : List (List Nat × World)} {Y : Ghost} {a : Act} {w : World} (hss : List (List Hn)) (v : Value) (hd : inst.ds = []) (s : @St n inst E h r F Y a w)
    (he : chkV (retV P fn (keepE E (pins fn)) h r hss) = (some v, trivV (retV P fn (keepE E (pins fn)) h r hss), 0)) (H : Rr (.returned v) w) : leaveR P fn Rr .returning a w := by
  intro tmps hs ht
  obtain ⟨p, he, hp⟩ := chkV_sound he
  have s' := @St.frame n n inst (instDfr n) _ _ _ _ _ _ _ _ _ s (Ag.pinned s.ag hs ht)
  obtain ⟨_, v', h1, h2⟩ := retV_sound (Rr := Rr) he hp s' H
  rw [s.ag.defers, hd]
  exact ⟨v', h1, h2⟩
theorem opsS_recover {P : Program} {ops : Array Oper} {Q : Exit → Act → List Frame → World → Prop} {i : Nat} {rest : List Nat} {a : Act} {cs : List Frame} {w : World} {o : Oper} {c : Call} (ho : ops[i]? = some o) (hg : o.guard = none) (hop : o.op = .call c) (hc : c.callee = .builtin .recover)
    (h : match recoverD cs with
      | some (v, cs') => wpOpsS P ops Q rest (a.put o.dst v) cs' w
      | none => wpOpsS P ops Q rest (a.put o.dst .nilIface) cs w) : wpOpsS P ops Q (i :: rest) a cs w := by
  simp only [wpOpsS, ho]
  rw [if_pos (by simp [Region.wanted, hg])]
  have e : (execOp a.eval o).run P w = .ok .recover w := by
    unfold execOp
    simp [hop, resolve, hc, invoke, builtin]
  rw [e]
  exact h
theorem opsS_assign {P : Program} {ops : Array Oper} {Q : Exit → Act → List Frame → World → Prop} {i : Nat} {rest : List Nat} {a : Act} {cs : List Frame} {w : World} {o : Oper} {x : Operand} (ho : ops[i]? = some o) (hg : o.guard = none) (hop : o.op = .assign x)
    (h : wpOpsS P ops Q rest (a.put o.dst (a.eval x)) cs w) : wpOpsS P ops Q (i :: rest) a cs w := by
  simp only [wpOpsS, ho]
  rw [if_pos (by simp [Region.wanted, hg])]
  have e : (execOp a.eval o).run P w = .ok (.value (a.eval x)) w := by
    unfold execOp
    simp [hop]
  rw [e]
  exact h
end Go.Sx
end
section
namespace Go.Sx
open Go
def byteI (n : Int) (k : Nat) : UInt8 := UInt8.ofNat (n / 2 ^ (8 * k) % 256).toNat
def enc8 (n : Int) : List UInt8 := [byteI n 7, byteI n 6, byteI n 5, byteI n 4, byteI n 3, byteI n 2, byteI n 1, byteI n 0]
def hornN (a : Nat) (b : UInt8) : Nat := 256 * a + b.toNat
def natOf (l : List UInt8) : Nat := l.foldl hornN 0
def numOf (l : List UInt8) : Int := IntKind.i64.wrap (natOf l : Int)
def InR (n : Int) : Prop := -9223372036854775808 ≤ n ∧ n < 9223372036854775808
theorem byteI_toNat (n : Int) (k : Nat) : ((byteI n k).toNat : Int) = n / 2 ^ (8 * k) % 256 := by
  unfold byteI
  rw [UInt8.toNat_ofNat']
  have h1 : 0 ≤ n / 2 ^ (8 * k) % 256 := Int.emod_nonneg _ (by decide)
  have h2 : n / 2 ^ (8 * k) % 256 < 256 := Int.emod_lt_of_pos _ (by decide)
  omega
theorem wrap_if (x : Int) : IntKind.i64.wrap x = if x % 18446744073709551616 ≥ 9223372036854775808 then x % 18446744073709551616 - 18446744073709551616 else x % 18446744073709551616 := by
  simp [IntKind.wrap, IntKind.signed, IntKind.bits]
theorem enc8_length (n : Int) : (enc8 n).length = 8 := rfl
theorem byte_step (n : Int) (k : Nat) : n / 2 ^ (8 * k) = 256 * (n / 2 ^ (8 * (k + 1))) + ((byteI n k).toNat : Int) := by
  have h1 := byteI_toNat n k
  have h2 : n / 2 ^ (8 * (k + 1)) = n / 2 ^ (8 * k) / 256 := by
    rw [Int.ediv_ediv_of_nonneg (Int.pow_nonneg (by decide))]
    rw [Nat.mul_add, Int.pow_add]
    rfl
  omega
theorem numOf_enc8 {n : Int} (h : InR n) : numOf (enc8 n) = n := by
  have h0 : n = 256 * (n / 2 ^ (8 * 1)) + ((byteI n 0).toNat : Int) := by
    have := byte_step n 0
    rw [Nat.mul_zero, Int.pow_zero, Int.ediv_one] at this
    exact this
  have h1 := byte_step n 1
  have h2 := byte_step n 2
  have h3 := byte_step n 3
  have h4 := byte_step n 4
  have h5 := byte_step n 5
  have h6 := byte_step n 6
  have h7 := byte_step n 7
  have g7 := (byteI n 7).toNat_lt
  have g6 := (byteI n 6).toNat_lt
  have g5 := (byteI n 5).toNat_lt
  have g4 := (byteI n 4).toNat_lt
  have g3 := (byteI n 3).toNat_lt
  have g2 := (byteI n 2).toNat_lt
  have g1 := (byteI n 1).toNat_lt
  have g0 := (byteI n 0).toNat_lt
  obtain ⟨hl, hu⟩ := h
  simp only [numOf, wrap_if, natOf, enc8, List.foldl, hornN]
  generalize (byteI n 7).toNat = b7 at *
  generalize (byteI n 6).toNat = b6 at *
  generalize (byteI n 5).toNat = b5 at *
  generalize (byteI n 4).toNat = b4 at *
  generalize (byteI n 3).toNat = b3 at *
  generalize (byteI n 2).toNat = b2 at *
  generalize (byteI n 1).toNat = b1 at *
  generalize (byteI n 0).toNat = b0 at *
  generalize n / 2 ^ (8 * 1) = q1 at *
  generalize n / 2 ^ (8 * 2) = q2 at *
  generalize n / 2 ^ (8 * 3) = q3 at *
  generalize n / 2 ^ (8 * 4) = q4 at *
  generalize n / 2 ^ (8 * 5) = q5 at *
  generalize n / 2 ^ (8 * 6) = q6 at *
  generalize n / 2 ^ (8 * 7) = q7 at *
  generalize n / 2 ^ (8 * (7 + 1)) = q8 at *
  subst h7 h6 h5 h4 h3 h2 h1
  have e : n = 18446744073709551616 * q8 + ((256 * (256 * (256 * (256 * (256 * (256 * (256 * (256 * 0 + b7) + b6) + b5) + b4) + b3) + b2) + b1) + b0 : Nat) : Int) := by omega
  have hs : 256 * (256 * (256 * (256 * (256 * (256 * (256 * (256 * 0 + b7) + b6) + b5) + b4) + b3) + b2) + b1) + b0 < 18446744073709551616 := by omega
  generalize 256 * (256 * (256 * (256 * (256 * (256 * (256 * (256 * 0 + b7) + b6) + b5) + b4) + b3) + b2) + b1) + b0 = x at *
  omega
theorem enc8_numOf {l : List UInt8} (hl : l.length = 8) : enc8 (numOf l) = l := by
  match l, hl with
  | [b7, b6, b5, b4, b3, b2, b1, b0], _ =>
    have g7 := b7.toNat_lt
    have g6 := b6.toNat_lt
    have g5 := b5.toNat_lt
    have g4 := b4.toNat_lt
    have g3 := b3.toNat_lt
    have g2 := b2.toNat_lt
    have g1 := b1.toNat_lt
    have g0 := b0.toNat_lt
    have key : ∀ (k : Nat) (b : UInt8), numOf [b7, b6, b5, b4, b3, b2, b1, b0] / 2 ^ (8 * k) % 256 = (b.toNat : Int) → byteI (numOf [b7, b6, b5, b4, b3, b2, b1, b0]) k = b := fun k b h => by
      refine UInt8.toNat.inj ?_
      have := byteI_toNat (numOf [b7, b6, b5, b4, b3, b2, b1, b0]) k
      omega
    simp only [enc8]
    have e : numOf [b7, b6, b5, b4, b3, b2, b1, b0] = IntKind.i64.wrap ((((((((b7.toNat * 256 + b6.toNat) * 256 + b5.toNat) * 256 + b4.toNat) * 256 + b3.toNat) * 256 + b2.toNat) * 256 + b1.toNat) * 256 + b0.toNat : Nat) : Int) := by
      simp only [numOf, natOf, List.foldl, hornN]
      congr 2
      omega
    rw [wrap_if] at e
    congr 1
    · refine key 7 b7 ?_
      rw [e]
      simp only [Nat.reduceMul, Int.reducePow]
      omega
    congr 1
    · refine key 6 b6 ?_
      rw [e]
      simp only [Nat.reduceMul, Int.reducePow]
      omega
    congr 1
    · refine key 5 b5 ?_
      rw [e]
      simp only [Nat.reduceMul, Int.reducePow]
      omega
    congr 1
    · refine key 4 b4 ?_
      rw [e]
      simp only [Nat.reduceMul, Int.reducePow]
      omega
    congr 1
    · refine key 3 b3 ?_
      rw [e]
      simp only [Nat.reduceMul, Int.reducePow]
      omega
    congr 1
    · refine key 2 b2 ?_
      rw [e]
      simp only [Nat.reduceMul, Int.reducePow]
      omega
    congr 1
    · refine key 1 b1 ?_
      rw [e]
      simp only [Nat.reduceMul, Int.reducePow]
      omega
    congr 1
    refine key 0 b0 ?_
    rw [e]
    simp only [Nat.reduceMul, Int.reducePow]
    omega
abbrev Rd (α : Type) := List UInt8 → Option (α × List UInt8)
def rdN : Rd Int := fun l => if 8 ≤ l.length then some (numOf (l.take 8), l.drop 8) else none
def rdMany (least : Nat) : Rd Int := fun l => (rdN l).bind fun p => if 0 ≤ p.1 ∧ p.1 ≤ (p.2.length / least : Nat) then some p else none
def rdT : Rd ByteArray := fun l => (rdMany 1 l).bind fun p => some (⟨(p.2.take p.1.toNat).toArray⟩, p.2.drop p.1.toNat)
def rdF : Rd Bool := fun l => (rdN l).bind fun p => if p.1 = 0 ∨ p.1 = 1 then some (p.1 == 1, p.2) else none
def rdRep {α : Type} (rd : Rd α) : Nat → Rd (List α)
  | 0 => fun l => some ([], l)
  | k + 1 => fun l => (rd l).bind fun p => (rdRep rd k p.2).bind fun q => some (p.1 :: q.1, q.2)
def rdL {α : Type} (least : Nat) (rd : Rd α) : Rd (List α) := fun l => (rdMany least l).bind fun p => rdRep rd p.1.toNat p.2
def andR {α β : Type} (rd : Rd α) (q : α → Rd β) : Rd β := fun l => (rd l).bind fun p => q p.1 p.2
def rdDot : Rd DotT := andR rdN fun a => andR rdN fun b => andR rdN fun c l => some (⟨a, b, c⟩, l)
def rdOp (least : Nat) : Rd OpT := andR rdN fun a => andR rdT fun b => andR rdN fun c => andR rdT fun d => andR rdN fun e => andR rdF fun f => andR (rdL least rdDot) fun g l => some (⟨a, b, c, d, e, f, g⟩, l)
def rdMsg (lw lo ld : Nat) : Rd MsgT := andR rdN fun a => andR rdN fun b => andR rdN fun c => andR rdN fun d => andR rdN fun e => andR rdF fun f => andR (rdL lw rdN) fun g => andR rdN fun h => andR (rdL lo (rdOp ld)) fun i l => some (⟨a, b, c, d, e, f, ⟨g, h, i⟩⟩, l)
def parse (lw lo ld : Nat) (l : List UInt8) : Option MsgT := (rdMsg lw lo ld l).bind fun p => if p.2 = [] then some p.1 else none
def encF (b : Bool) : List UInt8 := enc8 (if b then 1 else 0)
def encT (s : ByteArray) : List UInt8 := enc8 s.size ++ s.data.toList
def encL {α : Type} (en : α → List UInt8) (xs : List α) : List UInt8 := enc8 xs.length ++ xs.flatMap en
def encDot (d : DotT) : List UInt8 := enc8 d.place ++ (enc8 d.time ++ enc8 d.no)
def encOp (o : OpT) : List UInt8 := enc8 o.no ++ (encT o.key ++ (enc8 o.kind ++ (encT o.text ++ (enc8 o.n ++ (encF o.remove ++ encL encDot o.dots)))))
def encMsg (m : MsgT) : List UInt8 := enc8 m.fm ++ (enc8 m.to ++ (enc8 m.shard ++ (enc8 m.seq ++ (enc8 m.time ++ (encF m.beat ++ (encL enc8 m.c.when ++ (enc8 m.c.place ++ encL encOp m.c.ops)))))))
theorem flat8 (l : List Int) : (l.flatMap enc8).length = 8 * l.length := by
  induction l with
  | nil => rfl
  | cons x l ih =>
    rw [List.flatMap_cons, List.length_append, ih, enc8_length, List.length_cons]
    omega
theorem encT_length (s : ByteArray) : (encT s).length = 8 + s.size := by
  simp [encT, enc8_length]
theorem encF_length (b : Bool) : (encF b).length = 8 := rfl
structure Codec {α : Type} (en : α → List UInt8) (rd : Rd α) (ok : α → Prop) : Prop where
  back : ∀ x l, ok x → rd (en x ++ l) = some (x, l)
  forth : ∀ l x l', rd l = some (x, l') → l = en x ++ l'
theorem rdN_some {l l' : List UInt8} {n : Int} (h : rdN l = some (n, l')) : 8 ≤ l.length ∧ n = numOf (l.take 8) ∧ l' = l.drop 8 := by
  unfold rdN at h
  split at h
  · cases h
    exact ⟨by assumption, rfl, rfl⟩
  · cases h
theorem codecN : Codec enc8 rdN InR := by
  refine ⟨fun x l hx => ?_, fun l x l' h => ?_⟩
  · unfold rdN
    rw [if_pos (by simp [enc8_length])]
    have e1 : (enc8 x ++ l).take 8 = enc8 x := List.take_left' (enc8_length x)
    have e2 : (enc8 x ++ l).drop 8 = l := List.drop_left' (enc8_length x)
    rw [e1, e2, numOf_enc8 hx]
  · obtain ⟨h1, rfl, rfl⟩ := rdN_some h
    rw [enc8_numOf (by simp; omega), List.take_append_drop]
theorem codecF : Codec encF rdF fun _ => True := by
  refine ⟨fun x l _ => ?_, fun l x l' h => ?_⟩
  · unfold rdF encF
    cases x
    · rw [show enc8 (if false = true then 1 else 0) = enc8 0 from rfl, codecN.back _ _ (show InR 0 from ⟨by decide, by decide⟩)]
      rfl
    · rw [show enc8 (if true = true then 1 else 0) = enc8 1 from rfl, codecN.back _ _ (show InR 1 from ⟨by decide, by decide⟩)]
      rfl
  · unfold rdF at h
    cases hn : rdN l with
    | none => rw [hn] at h; cases h
    | some p =>
      rw [hn] at h
      simp only [Option.bind_some] at h
      split at h
      · rename_i h01
        cases h
        have := codecN.forth _ _ _ hn
        rw [this]
        congr 1
        unfold encF
        rcases h01 with h0 | h0 <;> rw [h0] <;> rfl
      · cases h
theorem rdMany_some {least : Nat} {l l' : List UInt8} {n : Int} (h : rdMany least l = some (n, l')) : rdN l = some (n, l') ∧ 0 ≤ n ∧ n ≤ (l'.length / least : Nat) := by
  unfold rdMany at h
  cases hn : rdN l with
  | none => rw [hn] at h; cases h
  | some p =>
    rw [hn] at h
    simp only [Option.bind_some] at h
    split at h
    · rename_i h01
      cases h
      exact ⟨rfl, h01⟩
    · cases h
theorem codecT : Codec encT rdT fun s => (s.size : Int) < 9223372036854775808 := by
  refine ⟨fun x l hx => ?_, fun l x l' h => ?_⟩
  · unfold rdT rdMany encT
    rw [List.append_assoc, codecN.back _ _ ⟨by omega, hx⟩]
    have hsz : x.data.toList.length = x.size := by simp
    simp only [Option.bind_some]
    rw [if_pos (by simp; omega)]
    simp only [Option.bind_some, Int.toNat_natCast]
    have e1 : (x.data.toList ++ l).take x.size = x.data.toList := List.take_left' hsz
    have e2 : (x.data.toList ++ l).drop x.size = l := List.drop_left' hsz
    rw [e1, e2, ← ba_of rfl]
  · unfold rdT at h
    cases hn : rdMany 1 l with
    | none => rw [hn] at h; cases h
    | some p =>
      obtain ⟨n, l1⟩ := p
      rw [hn] at h
      obtain ⟨h1, h2, h3⟩ := rdMany_some hn
      simp only [Option.bind_some, Option.some.injEq, Prod.mk.injEq] at h
      obtain ⟨rfl, rfl⟩ := h
      have := codecN.forth _ _ _ h1
      rw [Nat.div_one] at h3
      rw [this]
      unfold encT
      have hs : ((⟨(l1.take n.toNat).toArray⟩ : ByteArray).size : Int) = n := by
        show (((l1.take n.toNat).toArray.size : Nat) : Int) = n
        simp
        omega
      rw [hs, List.append_assoc]
      congr 1
      simp
theorem codecRep {α : Type} {en : α → List UInt8} {rd : Rd α} {ok : α → Prop} (h : Codec en rd ok) : ∀ k, Codec (fun xs : List α => xs.flatMap en) (rdRep rd k) fun xs => xs.length = k ∧ ∀ x ∈ xs, ok x
  | 0 => by
    refine ⟨fun x l hx => ?_, fun l x l' he => ?_⟩
    · obtain rfl := List.eq_nil_of_length_eq_zero hx.1
      rfl
    · cases he
      rfl
  | k + 1 => by
    have ih := codecRep h k
    refine ⟨fun x l hx => ?_, fun l x l' he => ?_⟩
    · match x, hx with
      | [], hx => simp at hx
      | x :: xs, hx =>
        simp only [rdRep, List.flatMap_cons, List.append_assoc]
        rw [h.back _ _ (hx.2 x (List.mem_cons_self ..))]
        simp only [Option.bind_some]
        rw [ih.back _ _ ⟨by simpa using hx.1, fun y hy => hx.2 y (List.mem_cons_of_mem _ hy)⟩]
        rfl
    · simp only [rdRep] at he
      cases h1 : rd l with
      | none => rw [h1] at he; cases he
      | some p =>
        rw [h1] at he
        simp only [Option.bind_some] at he
        cases h2 : rdRep rd k p.2 with
        | none => rw [h2] at he; cases he
        | some q =>
          rw [h2] at he
          cases he
          rw [List.flatMap_cons, List.append_assoc, ← ih.forth _ _ _ h2]
          exact h.forth _ _ _ h1
theorem flat_length {α : Type} {en : α → List UInt8} {least : Nat} (hlen : ∀ x, least ≤ (en x).length) : ∀ xs : List α, xs.length * least ≤ (xs.flatMap en).length
  | [] => by simp
  | x :: xs => by
    have := flat_length hlen xs
    have h1 := hlen x
    rw [List.flatMap_cons, List.length_append, List.length_cons, Nat.succ_mul]
    omega
theorem codecL {α : Type} {en : α → List UInt8} {rd : Rd α} {ok : α → Prop} (h : Codec en rd ok) (least : Nat) (h0 : 0 < least) (hlen : ∀ x, least ≤ (en x).length) : Codec (encL en) (rdL least rd) fun xs => (xs.length : Int) < 9223372036854775808 ∧ ∀ x ∈ xs, ok x := by
  refine ⟨fun x l hx => ?_, fun l x l' he => ?_⟩
  · unfold rdL rdMany encL
    rw [List.append_assoc, codecN.back _ _ ⟨by omega, hx.1⟩]
    simp only [Option.bind_some]
    have hl : x.length ≤ (x.flatMap en ++ l).length / least := by
      rw [Nat.le_div_iff_mul_le h0, List.length_append]
      have := flat_length hlen x
      omega
    rw [if_pos ⟨by omega, by exact_mod_cast hl⟩]
    simp only [Option.bind_some, Int.toNat_natCast]
    exact (codecRep h x.length).back x l ⟨rfl, hx.2⟩
  · unfold rdL at he
    cases hn : rdMany least l with
    | none => rw [hn] at he; cases he
    | some p =>
      obtain ⟨n, l1⟩ := p
      rw [hn] at he
      obtain ⟨h1, h2, h3⟩ := rdMany_some hn
      simp only [Option.bind_some] at he
      have h4 := (codecRep h n.toNat).forth _ _ _ he
      have h5 : ∀ (k : Nat) (l l' : List UInt8) (xs : List α), rdRep rd k l = some (xs, l') → xs.length = k := by
        intro k
        induction k with
        | zero => intro l l' xs h; cases h; rfl
        | succ k ih =>
          intro l l' xs h
          simp only [rdRep] at h
          cases h1 : rd l with
          | none => rw [h1] at h; cases h
          | some p =>
            rw [h1] at h
            simp only [Option.bind_some] at h
            cases h2 : rdRep rd k p.2 with
            | none => rw [h2] at h; cases h
            | some q =>
              rw [h2] at h
              cases h
              simp [ih _ _ _ h2]
      have h6 := h5 _ _ _ _ he
      rw [codecN.forth _ _ _ h1, h4]
      unfold encL
      rw [h6, List.append_assoc, Int.toNat_of_nonneg h2]
theorem codecDot : Codec encDot rdDot fun d => InR d.place ∧ InR d.time ∧ InR d.no := by
  refine ⟨fun x l hx => ?_, fun l x l' h => ?_⟩
  · unfold rdDot encDot
    simp only [andR, List.append_assoc, codecN.back _ _ hx.1, codecN.back _ _ hx.2.1, codecN.back _ _ hx.2.2, Option.bind_some]
  · unfold rdDot at h
    simp only [andR] at h
    cases h1 : rdN l with
    | none => rw [h1] at h; cases h
    | some a =>
      simp only [h1, Option.bind_some] at h
      cases h2 : rdN a.2 with
      | none => rw [h2] at h; cases h
      | some b =>
        simp only [h2, Option.bind_some] at h
        cases h3 : rdN b.2 with
        | none => rw [h3] at h; cases h
        | some c =>
          rw [h3] at h
          cases h
          unfold encDot
          rw [codecN.forth _ _ _ h1, codecN.forth _ _ _ h2, codecN.forth _ _ _ h3]
          simp only [List.append_assoc]
def OkDot (d : DotT) : Prop := InR d.place ∧ InR d.time ∧ InR d.no
def OkOp (o : OpT) : Prop := InR o.no ∧ (o.key.size : Int) < 9223372036854775808 ∧ InR o.kind ∧ (o.text.size : Int) < 9223372036854775808 ∧ InR o.n ∧ (o.dots.length : Int) < 9223372036854775808 ∧ ∀ d ∈ o.dots, OkDot d
theorem codecOp (ld : Nat) (h0 : 0 < ld) (h24 : ld ≤ 24) : Codec encOp (rdOp ld) OkOp := by
  have hD := codecL codecDot ld h0 fun d => by
    simp only [encDot, List.length_append, enc8_length]
    omega
  refine ⟨fun x l hx => ?_, fun l x l' h => ?_⟩
  · obtain ⟨a1, a2, a3, a4, a5, a6, a7⟩ := hx
    unfold rdOp encOp
    simp only [andR, List.append_assoc, codecN.back _ _ a1, codecT.back _ _ a2, codecN.back _ _ a3, codecT.back _ _ a4, codecN.back _ _ a5, codecF.back _ _ trivial, hD.back _ _ ⟨a6, a7⟩, Option.bind_some]
  · unfold rdOp at h
    simp only [andR] at h
    cases h1 : rdN l with
    | none => rw [h1] at h; cases h
    | some a =>
    simp only [h1, Option.bind_some] at h
    cases h2 : rdT a.2 with
    | none => rw [h2] at h; cases h
    | some b =>
    simp only [h2, Option.bind_some] at h
    cases h3 : rdN b.2 with
    | none => rw [h3] at h; cases h
    | some c =>
    simp only [h3, Option.bind_some] at h
    cases h4 : rdT c.2 with
    | none => rw [h4] at h; cases h
    | some d =>
    simp only [h4, Option.bind_some] at h
    cases h5 : rdN d.2 with
    | none => rw [h5] at h; cases h
    | some e =>
    simp only [h5, Option.bind_some] at h
    cases h6 : rdF e.2 with
    | none => rw [h6] at h; cases h
    | some f =>
    simp only [h6, Option.bind_some] at h
    cases h7 : rdL ld rdDot f.2 with
    | none => rw [h7] at h; cases h
    | some g =>
    simp only [h7, Option.bind_some] at h
    cases h
    unfold encOp
    rw [codecN.forth _ _ _ h1, codecT.forth _ _ _ h2, codecN.forth _ _ _ h3, codecT.forth _ _ _ h4, codecN.forth _ _ _ h5, codecF.forth _ _ _ h6, hD.forth _ _ _ h7]
    simp only [List.append_assoc]
theorem encOp_length (o : OpT) : 56 ≤ (encOp o).length := by
  simp only [encOp, encT, encF, encL, List.length_append, enc8_length]
  omega
def OkMsg (m : MsgT) : Prop := InR m.fm ∧ InR m.to ∧ InR m.shard ∧ InR m.seq ∧ InR m.time ∧ ((m.c.when.length : Int) < 9223372036854775808 ∧ ∀ x ∈ m.c.when, InR x) ∧ InR m.c.place ∧ (m.c.ops.length : Int) < 9223372036854775808 ∧ ∀ x ∈ m.c.ops, OkOp x
theorem codecMsg (lw lo ld : Nat) (hw : 0 < lw) (hw8 : lw ≤ 8) (ho : 0 < lo) (ho56 : lo ≤ 56) (h0 : 0 < ld) (h24 : ld ≤ 24) : Codec encMsg (rdMsg lw lo ld) OkMsg := by
  have hW := codecL codecN lw hw fun d => by
    rw [enc8_length]
    exact hw8
  have hO := codecL (codecOp ld h0 h24) lo ho fun d => Nat.le_trans ho56 (encOp_length d)
  refine ⟨fun x l hx => ?_, fun l x l' h => ?_⟩
  · obtain ⟨a1, a2, a3, a4, a5, a6, a7, a8⟩ := hx
    unfold rdMsg encMsg
    simp only [andR, List.append_assoc, codecN.back _ _ a1, codecN.back _ _ a2, codecN.back _ _ a3, codecN.back _ _ a4, codecN.back _ _ a5, codecF.back _ _ trivial, hW.back _ _ a6, codecN.back _ _ a7, hO.back _ _ a8, Option.bind_some]
  · unfold rdMsg at h
    simp only [andR] at h
    cases h1 : rdN l with
    | none => rw [h1] at h; cases h
    | some a =>
    simp only [h1, Option.bind_some] at h
    cases h2 : rdN a.2 with
    | none => rw [h2] at h; cases h
    | some b =>
    simp only [h2, Option.bind_some] at h
    cases h3 : rdN b.2 with
    | none => rw [h3] at h; cases h
    | some c =>
    simp only [h3, Option.bind_some] at h
    cases h4 : rdN c.2 with
    | none => rw [h4] at h; cases h
    | some d =>
    simp only [h4, Option.bind_some] at h
    cases h5 : rdN d.2 with
    | none => rw [h5] at h; cases h
    | some e =>
    simp only [h5, Option.bind_some] at h
    cases h6 : rdF e.2 with
    | none => rw [h6] at h; cases h
    | some f =>
    simp only [h6, Option.bind_some] at h
    cases h7 : rdL lw rdN f.2 with
    | none => rw [h7] at h; cases h
    | some g =>
    simp only [h7, Option.bind_some] at h
    cases h8 : rdN g.2 with
    | none => rw [h8] at h; cases h
    | some i =>
    simp only [h8, Option.bind_some] at h
    cases h9 : rdL lo (rdOp ld) i.2 with
    | none => rw [h9] at h; cases h
    | some j =>
    simp only [h9, Option.bind_some] at h
    cases h
    unfold encMsg
    rw [codecN.forth _ _ _ h1, codecN.forth _ _ _ h2, codecN.forth _ _ _ h3, codecN.forth _ _ _ h4, codecN.forth _ _ _ h5, codecF.forth _ _ _ h6, hW.forth _ _ _ h7, codecN.forth _ _ _ h8, hO.forth _ _ _ h9]
    simp only [List.append_assoc]
theorem parse_enc {m : MsgT} (h : OkMsg m) : parse 8 56 24 (encMsg m) = some m := by
  have := (codecMsg 8 56 24 (by decide) (by decide) (by decide) (by decide) (by decide) (by decide)).back m [] h
  rw [List.append_nil] at this
  unfold parse
  rw [this]
  rfl
theorem enc_parse {l : List UInt8} {m : MsgT} (h : parse 8 56 24 l = some m) : l = encMsg m := by
  unfold parse at h
  cases h1 : rdMsg 8 56 24 l with
  | none => rw [h1] at h; cases h
  | some p =>
    rw [h1] at h
    simp only [Option.bind_some] at h
    split at h
    · rename_i h2
      cases h
      have := (codecMsg 8 56 24 (by decide) (by decide) (by decide) (by decide) (by decide) (by decide)).forth _ _ _ h1
      rwa [h2, List.append_nil] at this
    · cases h
abbrev St2 := List UInt8 × Bool
def rN : St2 → Int × St2 := fun s => if s.2 || decide (s.1.length < 8) then (0, (s.1, true)) else (numOf (s.1.take 8), (s.1.drop 8, false))
def rMany : St2 → Int × St2 := fun s => if (rN s).1 < 0 ∨ (rN s).1 > ((rN s).2.1.length : Int) then (0, ((rN s).2.1, true)) else rN s
def rT : St2 → ByteArray × St2 := fun s => (⟨((rMany s).2.1.take (rMany s).1.toNat).toArray⟩, ((rMany s).2.1.drop (rMany s).1.toNat, (rMany s).2.2))
def rF : St2 → Bool × St2 := fun s => ((rN s).1 == 1, if (rN s).1 < 0 ∨ (rN s).1 > 1 then ((rN s).2.1, true) else (rN s).2)
def rLoop {α : Type} (r : St2 → α × St2) : Nat → St2 → List α × St2
  | 0, s => ([], s)
  | k + 1, s => if s.2 then ([], s) else ((r s).1 :: (rLoop r k (r s).2).1, (rLoop r k (r s).2).2)
def rL {α : Type} (r : St2 → α × St2) : St2 → List α × St2 := fun s => rLoop r (rMany s).1.toNat (rMany s).2
def andS {α β : Type} (r : St2 → α × St2) (q : α → St2 → β × St2) : St2 → β × St2 := fun s => q (r s).1 (r s).2
def rDot : St2 → DotT × St2 := andS rN fun a => andS rN fun b => andS rN fun c s => (⟨a, b, c⟩, s)
def rOp : St2 → OpT × St2 := andS rN fun a => andS rT fun b => andS rN fun c => andS rT fun d => andS rN fun e => andS rF fun f => andS (rL rDot) fun g s => (⟨a, b, c, d, e, f, g⟩, s)
def rMsg : St2 → MsgT × St2 := andS rN fun a => andS rN fun b => andS rN fun c => andS rN fun d => andS rN fun e => andS rF fun f => andS (rL rN) fun g => andS rN fun h => andS (rL rOp) fun i s => (⟨a, b, c, d, e, f, ⟨g, h, i⟩⟩, s)
structure Good {α : Type} (rd : Rd α) (r : St2 → α × St2) : Prop where
  ok : ∀ l x l', rd l = some (x, l') → r (l, false) = (x, (l', false))
  no : ∀ l, rd l = none → (r (l, false)).2.2 = true
  bad : ∀ s, s.2 = true → (r s).2.2 = true
theorem Good.and {α β : Type} {rd : Rd α} {r : St2 → α × St2} {qd : α → Rd β} {q : α → St2 → β × St2} (h : Good rd r) (h2 : ∀ x, Good (qd x) (q x)) : Good (andR rd qd) (andS r q) := by
  refine ⟨fun l x l' he => ?_, fun l he => ?_, fun s hs => (h2 _).bad _ (h.bad s hs)⟩
  · unfold andR at he
    cases h1 : rd l with
    | none => rw [h1] at he; cases he
    | some p =>
      rw [h1] at he
      unfold andS
      rw [h.ok l p.1 p.2 h1]
      exact (h2 p.1).ok p.2 x l' he
  · unfold andR at he
    cases h1 : rd l with
    | none => exact (h2 _).bad _ (h.no l h1)
    | some p =>
      rw [h1] at he
      unfold andS
      rw [h.ok l p.1 p.2 h1]
      exact (h2 p.1).no p.2 he
theorem Good.pure {α : Type} (x : α) : Good (fun l => some (x, l)) fun s => (x, s) := ⟨fun l y l' h => (by cases h; rfl), fun l h => (by cases h), fun s hs => hs⟩
theorem goodN : Good rdN rN := by
  refine ⟨fun l x l' h => ?_, fun l h => ?_, fun s hs => ?_⟩
  · obtain ⟨h1, rfl, rfl⟩ := rdN_some h
    unfold rN
    rw [if_neg (by simp; omega)]
  · unfold rdN at h
    split at h
    · cases h
    · unfold rN
      rw [if_pos (by simp; omega)]
  · unfold rN
    rw [if_pos (by simp [hs])]
theorem goodMany : Good (rdMany 1) rMany := by
  refine ⟨fun l x l' h => ?_, fun l h => ?_, fun s hs => ?_⟩
  · obtain ⟨h1, h2, h3⟩ := rdMany_some h
    rw [Nat.div_one] at h3
    unfold rMany
    rw [goodN.ok l x l' h1, if_neg (by simp only; omega)]
  · unfold rMany
    unfold rdMany at h
    cases h1 : rdN l with
    | none =>
      split
      · rfl
      · exact goodN.no l h1
    | some p =>
      rw [h1] at h
      simp only [Option.bind_some, Nat.div_one] at h
      split at h
      · cases h
      · rename_i hn
        rw [goodN.ok l p.1 p.2 h1, if_pos (by simp only; omega)]
  · unfold rMany
    split
    · rfl
    · exact goodN.bad s hs
theorem goodT : Good rdT rT := by
  refine ⟨fun l x l' h => ?_, fun l h => ?_, fun s hs => goodMany.bad s hs⟩
  · unfold rdT at h
    cases h1 : rdMany 1 l with
    | none => rw [h1] at h; cases h
    | some p =>
      rw [h1] at h
      cases h
      unfold rT
      rw [goodMany.ok l p.1 p.2 h1]
  · unfold rdT at h
    cases h1 : rdMany 1 l with
    | none => exact goodMany.no l h1
    | some p => rw [h1] at h; cases h
theorem goodF : Good rdF rF := by
  refine ⟨fun l x l' h => ?_, fun l h => ?_, fun s hs => ?_⟩
  · unfold rdF at h
    cases h1 : rdN l with
    | none => rw [h1] at h; cases h
    | some p =>
      rw [h1] at h
      simp only [Option.bind_some] at h
      split at h
      · rename_i h01
        cases h
        unfold rF
        rw [goodN.ok l p.1 p.2 h1, if_neg (by simp only; omega)]
      · cases h
  · unfold rF
    unfold rdF at h
    cases h1 : rdN l with
    | none =>
      simp only
      split
      · rfl
      · exact goodN.no l h1
    | some p =>
      rw [h1] at h
      simp only [Option.bind_some] at h
      split at h
      · cases h
      · rw [goodN.ok l p.1 p.2 h1]
        simp only
        rw [if_pos (by omega)]
  · unfold rF
    simp only
    split
    · rfl
    · exact goodN.bad s hs
theorem rLoop_bad {α : Type} {r : St2 → α × St2} : ∀ (k : Nat) (s : St2), s.2 = true → (rLoop r k s).2.2 = true
  | 0, s, hs => hs
  | k + 1, s, hs => by
    unfold rLoop
    rw [if_pos hs]
    exact hs
theorem goodRep {α : Type} {rd : Rd α} {r : St2 → α × St2} (h : Good rd r) : ∀ k, Good (rdRep rd k) (rLoop r k)
  | 0 => ⟨fun l x l' he => (by cases he; rfl), fun l he => (by cases he), fun s hs => hs⟩
  | k + 1 => by
    have ih := goodRep h k
    refine ⟨fun l x l' he => ?_, fun l he => ?_, fun s hs => rLoop_bad (k + 1) s hs⟩
    · simp only [rdRep] at he
      cases h1 : rd l with
      | none => rw [h1] at he; cases he
      | some p =>
        rw [h1] at he
        simp only [Option.bind_some] at he
        cases h2 : rdRep rd k p.2 with
        | none => rw [h2] at he; cases he
        | some q =>
          rw [h2] at he
          cases he
          simp only [rLoop]
          rw [if_neg (by decide), h.ok l p.1 p.2 h1, ih.ok p.2 q.1 q.2 h2]
    · simp only [rdRep] at he
      simp only [rLoop]
      rw [if_neg (by decide)]
      cases h1 : rd l with
      | none => exact rLoop_bad k _ (h.no l h1)
      | some p =>
        rw [h1] at he
        simp only [Option.bind_some] at he
        rw [h.ok l p.1 p.2 h1]
        cases h2 : rdRep rd k p.2 with
        | none => exact ih.no _ h2
        | some q => rw [h2] at he; cases he
theorem goodL {α : Type} {rd : Rd α} {r : St2 → α × St2} (h : Good rd r) : Good (rdL 1 rd) (rL r) := goodMany.and fun x => goodRep h x.toNat
theorem goodDot : Good rdDot rDot := goodN.and fun a => goodN.and fun b => goodN.and fun c => Good.pure (⟨a, b, c⟩ : DotT)
theorem goodOp : Good (rdOp 1) rOp := by
  unfold rdOp rOp
  exact goodN.and fun _ => goodT.and fun _ => goodN.and fun _ => goodT.and fun _ => goodN.and fun _ => goodF.and fun _ => (goodL goodDot).and fun _ => Good.pure _
theorem goodMsg : Good (rdMsg 1 1 1) rMsg := by
  unfold rdMsg rMsg
  exact goodN.and fun _ => goodN.and fun _ => goodN.and fun _ => goodN.and fun _ => goodN.and fun _ => goodF.and fun _ => (goodL goodN).and fun _ => goodN.and fun _ => (goodL goodOp).and fun _ => Good.pure _
theorem rdRep_long {α : Type} {en : α → List UInt8} {rd : Rd α} {ok : α → Prop} (h : Codec en rd ok) {least : Nat} (hlen : ∀ x, least ≤ (en x).length) {k : Nat} {l l' : List UInt8} {xs : List α} (he : rdRep rd k l = some (xs, l')) : xs.length * least ≤ l.length := by
  have := (codecRep h k).forth _ _ _ he
  rw [this, List.length_append]
  have := flat_length hlen xs
  omega
theorem rdRep_count {α : Type} {rd : Rd α} : ∀ (k : Nat) (l l' : List UInt8) (xs : List α), rdRep rd k l = some (xs, l') → xs.length = k := by
  intro k
  induction k with
  | zero => intro l l' xs h; cases h; rfl
  | succ k ih =>
    intro l l' xs h
    simp only [rdRep] at h
    cases h1 : rd l with
    | none => rw [h1] at h; cases h
    | some p =>
      rw [h1] at h
      simp only [Option.bind_some] at h
      cases h2 : rdRep rd k p.2 with
      | none => rw [h2] at h; cases h
      | some q =>
        rw [h2] at h
        cases h
        simp [ih _ _ _ h2]
theorem rdL_least {α : Type} {en : α → List UInt8} {rd : Rd α} {ok : α → Prop} (h : Codec en rd ok) {least : Nat} (h0 : 0 < least) (hlen : ∀ x, least ≤ (en x).length) : rdL least rd = rdL 1 rd := by
  funext l
  unfold rdL rdMany
  cases hn : rdN l with
  | none => rfl
  | some p =>
    obtain ⟨n, l1⟩ := p
    simp only [Option.bind_some, Nat.div_one]
    by_cases h1 : 0 ≤ n ∧ n ≤ (l1.length / least : Nat)
    · have : (l1.length / least : Nat) ≤ l1.length := Nat.div_le_self _ _
      rw [if_pos h1, if_pos ⟨h1.1, by omega⟩]
    · rw [if_neg h1]
      split
      · rename_i h2
        simp only [Option.bind_some, Option.bind_none]
        cases h3 : rdRep rd n.toNat l1 with
        | none => rfl
        | some q =>
          have h4 := rdRep_long h hlen h3
          rw [rdRep_count _ _ _ _ h3, ← Nat.le_div_iff_mul_le h0] at h4
          exact absurd ⟨h2.1, by omega⟩ h1
      · rfl
theorem rdOp_least : rdOp 24 = rdOp 1 := by
  funext l
  unfold rdOp
  rw [rdL_least codecDot (least := 24) (by decide) fun d => by simp only [encDot, List.length_append, enc8_length]; omega]
theorem parse_least : parse 8 56 24 = parse 1 1 1 := by
  funext l
  unfold parse rdMsg
  rw [rdL_least codecN (least := 8) (by decide) fun d => by rw [enc8_length]; omega, rdOp_least, rdL_least (codecOp 1 (by decide) (by decide)) (least := 56) (by decide) encOp_length]
theorem parse_doc (l : List UInt8) : parse 8 56 24 l = if (rMsg (l, false)).2.2 = true ∨ (rMsg (l, false)).2.1 ≠ [] then none else some (rMsg (l, false)).1 := by
  rw [parse_least]
  unfold parse
  cases h : rdMsg 1 1 1 l with
  | none =>
    rw [if_pos (.inl (goodMsg.no l h))]
    rfl
  | some p =>
    rw [goodMsg.ok l p.1 p.2 h]
    simp only [Option.bind_some]
    by_cases hp : p.2 = []
    · rw [if_pos hp, if_neg (by simp [hp])]
    · rw [if_neg hp, if_pos (.inr hp)]
end Go.Sx
end
section
namespace Go.Proofs.YtonhcoeneahpaaaDoor
open Go Go.Sx
theorem ofInt32 {a : Nat} (h : a < 4294967296) : (BitVec.ofInt 32 (a : Int)).toNat = a := by
  rw [BitVec.toNat_ofInt]
  omega
theorem ofInt64 {a : Nat} (h : a < 4294967296) : (BitVec.ofInt 64 (a : Int)).toNat = a := by
  rw [BitVec.toNat_ofInt]
  omega
theorem wrapU {a : Nat} (h : a < 4294967296) : IntKind.u32.wrap (a : Int) = (a : Int) := by
  simp [IntKind.wrap, IntKind.signed, IntKind.bits]
  omega
theorem wrapI {a : Nat} (h : a < 4294967296) : IntKind.i64.wrap (a : Int) = (a : Int) := by
  rw [wrap_if]
  omega
theorem xor32 {a b : Nat} (ha : a < 4294967296) (hb : b < 4294967296) : a ^^^ b < 4294967296 := Nat.xor_lt_two_pow (n := 32) ha hb
theorem xorU_nat {a b : Nat} (ha : a < 4294967296) (hb : b < 4294967296) : xorU (a : Int) (b : Int) = ((a ^^^ b : Nat) : Int) := by
  have e : (BitVec.ofInt IntKind.u32.bits (a : Int) ^^^ BitVec.ofInt IntKind.u32.bits (b : Int)).toNat = a ^^^ b := by
    rw [BitVec.toNat_xor]
    exact congr (congrArg HXor.hXor (ofInt32 ha)) (ofInt32 hb)
  unfold xorU
  rw [e]
  exact wrapU (xor32 ha hb)
theorem andU_nat {a b : Nat} (ha : a < 4294967296) (hb : b < 4294967296) : andU (a : Int) (b : Int) = ((a &&& b : Nat) : Int) := by
  have e : (BitVec.ofInt IntKind.u32.bits (a : Int) &&& BitVec.ofInt IntKind.u32.bits (b : Int)).toNat = a &&& b := by
    rw [BitVec.toNat_and]
    exact congr (congrArg HAnd.hAnd (ofInt32 ha)) (ofInt32 hb)
  unfold andU
  rw [e]
  exact wrapU (Nat.lt_of_le_of_lt Nat.and_le_left ha)
theorem xorI_nat {a b : Nat} (ha : a < 4294967296) (hb : b < 4294967296) : xorI (a : Int) (b : Int) = ((a ^^^ b : Nat) : Int) := by
  have e : (BitVec.ofInt IntKind.i64.bits (a : Int) ^^^ BitVec.ofInt IntKind.i64.bits (b : Int)).toNat = a ^^^ b := by
    rw [BitVec.toNat_xor]
    exact congr (congrArg HXor.hXor (ofInt64 ha)) (ofInt64 hb)
  unfold xorI
  rw [e]
  exact wrapI (xor32 ha hb)
def stepN (a : Nat) : Nat := a >>> 1 ^^^ 3988292384 * (a &&& 1)
theorem and1 (a : Nat) : a &&& 1 = 0 ∨ a &&& 1 = 1 := by
  rw [Nat.and_one_is_mod]
  omega
theorem shr32 {a : Nat} (h : a < 4294967296) : a >>> 1 < 4294967296 := by
  rw [Nat.shiftRight_eq_div_pow]
  omega
theorem poly32 (a : Nat) : 3988292384 * (a &&& 1) < 4294967296 := by
  rcases and1 a with h | h <;> rw [h] <;> decide
theorem stepN_lt {a : Nat} (h : a < 4294967296) : stepN a < 4294967296 := xor32 (shr32 h) (poly32 a)
theorem stepU_nat {a : Nat} (h : a < 4294967296) : stepU (a : Int) = (stepN a : Int) := by
  unfold stepU stepN
  have e1 : (a : Int).fdiv (2 ^ min (Int.toNat 1) IntKind.u32.bits) = ((a >>> 1 : Nat) : Int) := by
    rw [Nat.shiftRight_eq_div_pow]
    show (a : Int).fdiv 2 = _
    rw [Int.fdiv_eq_ediv_of_nonneg _ (by decide)]
    simp
  have e2 : andU (a : Int) 1 = ((a &&& 1 : Nat) : Int) := andU_nat h (b := 1) (by decide)
  have e3 : (3988292384 : Int) * ((a &&& 1 : Nat) : Int) = ((3988292384 * (a &&& 1) : Nat) : Int) := by simp
  rw [e1, e2, e3, wrapU (poly32 a)]
  exact xorU_nat (shr32 h) (poly32 a)
def iterN : Nat → Nat → Nat
  | 0, d => d
  | n + 1, d => stepN (iterN n d)
theorem iterN_lt {a : Nat} (h : a < 4294967296) : ∀ k, iterN k a < 4294967296
  | 0 => h
  | k + 1 => stepN_lt (iterN_lt h k)
theorem iterU_nat {a : Nat} (h : a < 4294967296) : ∀ k, iterU k (a : Int) = (iterN k a : Int)
  | 0 => rfl
  | k + 1 => by
    unfold iterU iterN
    rw [iterU_nat h k]
    exact stepU_nat (iterN_lt h k)
def stepD (d b k : Nat) : Nat := if (d ^^^ b >>> k) % 2 = 1 then d >>> 1 ^^^ 3988292384 else d >>> 1
def iterD (c b : Nat) : Nat → Nat
  | 0 => c
  | n + 1 => stepD (iterD c b n) b n
theorem stepD_lt {d : Nat} (h : d < 4294967296) (b k : Nat) : stepD d b k < 4294967296 := by
  unfold stepD
  split
  · exact xor32 (shr32 h) (by decide)
  · exact shr32 h
theorem iterD_lt {c : Nat} (h : c < 4294967296) (b : Nat) : ∀ k, iterD c b k < 4294967296
  | 0 => h
  | k + 1 => stepD_lt (iterD_lt h b k) b k
theorem shrk32 {b : Nat} (h : b < 4294967296) (k : Nat) : b >>> k < 4294967296 := by
  rw [Nat.shiftRight_eq_div_pow]
  exact Nat.lt_of_le_of_lt (Nat.div_le_self _ _) h
theorem stepR_nat {d : Nat} (h : d < 4294967296) (b : UInt8) {k : Nat} (hk : k ≤ 63) : stepR (d : Int) b (k : Int) = (stepD d b.toNat k : Int) := by
  have hb : b.toNat < 4294967296 := by have := b.toNat_lt; omega
  have e0 : IntKind.i64.wrap ((b.toNat : Nat) : Int) = (b.toNat : Int) := wrapI hb
  have e1 : (IntKind.i64.wrap ((b.toNat : Nat) : Int)).fdiv (2 ^ min (Int.toNat (k : Int)) IntKind.i64.bits) = ((b.toNat >>> k : Nat) : Int) := by
    rw [e0, Nat.shiftRight_eq_div_pow, Int.toNat_natCast, show min k IntKind.i64.bits = k from Nat.min_eq_left (by show k ≤ 64; omega)]
    rw [Int.fdiv_eq_ediv_of_nonneg _ (Int.pow_nonneg (by decide))]
    simp
  have e2 : xorI (d : Int) ((b.toNat >>> k : Nat) : Int) = ((d ^^^ b.toNat >>> k : Nat) : Int) := xorI_nat h (shrk32 hb k)
  have e3 : bitR (d : Int) b (k : Int) = (((d ^^^ b.toNat >>> k) % 2 : Nat) : Int) := by
    unfold bitR
    rw [e1, e2]
    rw [Int.tmod_eq_emod_of_nonneg (by omega)]
    simp
  have e4 : IntKind.i64.wrap ((d : Int).tdiv 2) = ((d >>> 1 : Nat) : Int) := by
    have : (d : Int).tdiv 2 = ((d >>> 1 : Nat) : Int) := by
      rw [Int.tdiv_eq_ediv_of_nonneg (by omega), Nat.shiftRight_eq_div_pow]
      simp
    rw [this]
    exact wrapI (shr32 h)
  unfold stepR stepD
  rw [e3, e4]
  by_cases hc : (d ^^^ b.toNat >>> k) % 2 = 1
  · rw [if_pos hc, if_pos (by simp [hc])]
    exact xorI_nat (shr32 h) (b := 3988292384) (by decide)
  · rw [if_neg hc, if_neg]
    have : (d ^^^ b.toNat >>> k) % 2 = 0 := by omega
    rw [this]
    decide
theorem iterR_nat {c : Nat} (h : c < 4294967296) (b : UInt8) : ∀ k, k ≤ 64 → iterR (c : Int) b k = (iterD c b.toNat k : Int)
  | 0, _ => rfl
  | k + 1, hk => by
    unfold iterR iterD
    rw [iterR_nat h b k (by omega)]
    exact stepR_nat (iterD_lt h _ k) b (by omega)
theorem iter_same (c b : Nat) : ∀ k, iterN k (c ^^^ b) = iterD c b k ^^^ b >>> k
  | 0 => by simp [iterN, iterD]
  | k + 1 => by
    have ih := iter_same c b k
    unfold iterN iterD
    rw [ih]
    generalize iterD c b k = d
    unfold stepN stepD
    have e1 : (d ^^^ b >>> k) >>> 1 = d >>> 1 ^^^ b >>> (k + 1) := by
      rw [Nat.shiftRight_xor_distrib, Nat.shiftRight_add]
    rw [e1, Nat.and_one_is_mod]
    by_cases hc : (d ^^^ b >>> k) % 2 = 1
    · rw [if_pos hc, hc, Nat.mul_one]
      rw [Nat.xor_assoc, Nat.xor_assoc]
      congr 1
      exact Nat.xor_comm _ _
    · rw [if_neg hc]
      have : (d ^^^ b >>> k) % 2 = 0 := by omega
      rw [this, Nat.mul_zero, Nat.xor_zero]
def crcN (l : List UInt8) : Nat := l.foldl (fun c b => iterD c b.toNat 8) 4294967295
theorem crc_go (l : List UInt8) : ∀ {c : Nat}, c < 4294967296 → l.foldl (fun c b => iterU 8 (xorU c (IntKind.u32.wrap (b.toNat : Int)))) (c : Int) = ((l.foldl (fun c b => iterD c b.toNat 8) c : Nat) : Int) ∧ l.foldl (fun c b => iterR c b 8) (c : Int) = ((l.foldl (fun c b => iterD c b.toNat 8) c : Nat) : Int) ∧ l.foldl (fun c b => iterD c b.toNat 8) c < 4294967296 := by
  induction l with
  | nil => exact fun h => ⟨rfl, rfl, h⟩
  | cons b l ih =>
    intro c h
    have hb : b.toNat < 4294967296 := by have := b.toNat_lt; omega
    simp only [List.foldl_cons]
    have e1 : iterU 8 (xorU (c : Int) (IntKind.u32.wrap (b.toNat : Int))) = (iterD c b.toNat 8 : Int) := by
      rw [wrapU hb, xorU_nat h hb, iterU_nat (xor32 h hb), iter_same]
      have : b.toNat >>> 8 = 0 := by
        rw [Nat.shiftRight_eq_div_pow]
        have := b.toNat_lt
        omega
      rw [this, Nat.xor_zero]
    rw [e1, iterR_nat h b 8 (by decide)]
    exact ih (iterD_lt h _ 8)
def sumN (l : List UInt8) : Nat := crcN l ^^^ 4294967295
theorem crcN_lt (l : List UInt8) : crcN l < 4294967296 := (crc_go l (c := 4294967295) (by decide)).2.2
theorem crcU_sum (l : List UInt8) : notU (crcU l) = (sumN l : Int) := by
  have e : crcU l = (crcN l : Int) := (crc_go l (c := 4294967295) (by decide)).1
  unfold notU sumN
  rw [e, Nat.xor_comm]
  exact xorU_nat (a := 4294967295) (by decide) (crcN_lt l)
theorem crcR_sum (l : List UInt8) : xorI (crcR l) 4294967295 = (sumN l : Int) := by
  have e : crcR l = (crcN l : Int) := (crc_go l (c := 4294967295) (by decide)).2.1
  unfold sumN
  rw [e]
  exact xorI_nat (crcN_lt l) (b := 4294967295) (by decide)
def enc4 (n : Int) : List UInt8 := [byteI n 3, byteI n 2, byteI n 1, byteI n 0]
end Go.Proofs.YtonhcoeneahpaaaDoor
end
section
namespace Go.Proofs.YtonhcoeneahpaaaDoor
open Go Go.Sx
theorem u8wrap (x : Int) : IntKind.u8.wrap x = x % 256 := by
  simp [IntKind.wrap, IntKind.signed, IntKind.bits]
theorem byteAt {n d : Int} (k : Nat) (hd : d = 2 ^ (8 * k)) : ((byteI n k).toNat : Int) = IntKind.u8.wrap (n.fdiv d) := by
  rw [byteI_toNat, u8wrap, hd, Int.fdiv_eq_ediv_of_nonneg _ (Int.pow_nonneg (by decide))]
theorem byte0 {n : Int} : ((byteI n 0).toNat : Int) = IntKind.u8.wrap n := by
  rw [byteI_toNat, u8wrap, Nat.mul_zero, Int.pow_zero, Int.ediv_one]
set_option maxHeartbeats 4000000 in
theorem fourW {w : World} {S : Nat → Prop} {n : Int} : Calls Tryd.prog 20 #[.int .u32 n] w fun e w' => Ret [] w S w' e (.string ⟨(enc4 n).toArray⟩) [] [] := by
  refine ep20 (args := [.int .u32 n]) (G := []) (by kernel_rfl) (AllG.nil w S) ?_
  refine J_seq ?_
  refine Za [.rd 0 [] 0 0] [] [(2, .val (.string (ByteArray.mk #[])))] ?_
  refine J_seq ?_
  refine jT [(0, true), (1, true), (2, true), (3, true), (4, true), (5, true), (6, true), (7, true), (8, true), (9, true), (10, true), (11, false), (12, false), (13, true)] [] ?_
  refine Ym (id := 1) (rest := [(12, false), (13, true)]) (Rds 0 11 ++ [.wr 11 [] 0]) [0] (fun nu1 => [(14, .val (.slice (some (⟨nu1 0, 0, none⟩)) 4 4))]) (fun nu1 => [(nu1 0, .cells #[.int .u8 (IntKind.u8.wrap (n.fdiv (2 ^ min (Int.toNat 24) IntKind.u32.bits))), .int .u8 (IntKind.u8.wrap (n.fdiv (2 ^ min (Int.toNat 16) IntKind.u32.bits))), .int .u8 (IntKind.u8.wrap (n.fdiv (2 ^ min (Int.toNat 8) IntKind.u32.bits))), .int .u8 (IntKind.u8.wrap n)] 5 (0, 0))]) [] (fun nu1 => ?_)
  refine JR_strb (cap := 4) 0 54 9 5 (enc4 n) (some 15) (by kernel_rfl) (by kernel_rfl) (by kernel_rfl) (by kernel_rfl) rfl ?_ ?_
  · intro j hj
    match j, hj with
    | 0, _ => exact congrArg (fun x => some (Value.int .u8 x)) (byteAt 3 rfl).symm
    | 1, _ => exact congrArg (fun x => some (Value.int .u8 x)) (byteAt 2 rfl).symm
    | 2, _ => exact congrArg (fun x => some (Value.int .u8 x)) (byteAt 1 rfl).symm
    | 3, _ => exact congrArg (fun x => some (Value.int .u8 x)) byte0.symm
  refine Ya (id := 1) (rest := []) [.rd 13 [] 0 0] [15, 14] [(2, .val (.string (ByteArray.mk (enc4 n).toArray)))] ?_
  refine JR_end ?_
  refine Yr [[]] (.string (ByteArray.mk (enc4 n).toArray)) fun a w s => ?_
  exact s.ret (by simp) [] [] rfl rfl
set_option maxHeartbeats 4000000 in
theorem byteW {w : World} {S : Nat → Prop} {n : Int} : Calls Tryd.prog 15 #[.int .i64 n] w fun e w' => Ret [] w S w' e (.string ⟨#[byteI n 0]⟩) [] [] := by
  refine ep15 (args := [.int .i64 n]) (G := []) (by kernel_rfl) (AllG.nil w S) ?_
  refine J_seq ?_
  refine Za [.rd 0 [] 0 0] [] [(2, .val (.string (ByteArray.mk #[])))] ?_
  refine J_seq ?_
  refine jT [(0, true), (1, true), (2, false), (3, false), (4, true)] [] ?_
  refine Ym (id := 1) (rest := [(3, false), (4, true)]) [.rd 0 [] 0 0, .rd 1 [] 0 0, .wr 2 [] 0] [0] (fun nu1 => [(5, .val (.slice (some (⟨nu1 0, 0, none⟩)) 1 1))]) (fun nu1 => [(nu1 0, .cells #[.int .u8 (IntKind.u8.wrap n)] 5 (0, 0))]) [] (fun nu1 => ?_)
  refine JR_strb (cap := 1) 0 54 9 5 [byteI n 0] (some 6) (by kernel_rfl) (by kernel_rfl) (by kernel_rfl) (by kernel_rfl) rfl ?_ ?_
  · intro j hj
    match j, hj with
    | 0, _ => exact congrArg (fun x => some (Value.int .u8 x)) byte0.symm
  refine Ya (id := 1) (rest := []) [.rd 4 [] 0 0] [6, 5] [(2, .val (.string (ByteArray.mk #[byteI n 0])))] ?_
  refine JR_end ?_
  refine Yr [[]] (.string (ByteArray.mk #[byteI n 0])) fun a w s => ?_
  exact s.ret (by simp) [] [] rfl rfl
end Go.Proofs.YtonhcoeneahpaaaDoor
end
