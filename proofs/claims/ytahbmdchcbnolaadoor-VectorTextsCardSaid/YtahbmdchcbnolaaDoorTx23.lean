/- The engine of our walks, part 23 (with ghosts): panics, calls put off, strings appended, bytes as a string. -/
import Derived.Test.YtahbmdchcbnolaaDoorTx22
import Derived.Test.YtahbmdchcbnolaaDoorTx13
import Derived.Recover
import Derived.Lib.AppendStr
import Derived.Laws.IdiomStrings
import Derived.Laws.Concat
import Derived.KernelRfl
namespace Go.Sx
open Go

/-- Bytes as numbers. -/
abbrev eU (x : Int) : List D := [.v (.int .u8 x)]
def bI (l : List UInt8) : List Int := l.map fun b => (b.toNat : Int)
theorem bI_eU (l : List UInt8) : (bI l).map eU = l.map eB := by
  unfold bI
  rw [List.map_map]
  rfl
theorem bI_app (l m : List UInt8) : bI l ++ bI m = bI (l ++ m) := by simp [bI]
theorem bI_length (l : List UInt8) : (bI l).length = l.length := by simp [bI]
/-- What an operation asks. -/
def opOf {β : Type} (n : Nat) (ops : Array Oper) (E : Env) (i : Nat) (sel : Op → Option β) : Option (β × Option Tmp × List Ob) :=
  match ops[i]? with
  | none => none
  | some o => if dstOk n o.dst && !isSel o.op then match (match o.guard with
      | none => some (none, [])
      | some (j, want) => (guardOf E ops j).map fun c => (some (c, want), [.bb c want])) with
    | none => none
    | some (cd, g) => match opsOk E cd o.op.operands.toList with
      | none => none
      | some q => match sel o.op with
        | some b => some (b, o.dst, g ++ q)
        | none => none
    else none
def chkO {β : Type} (x : Option (β × Option Tmp × List Ob)) : Option (β × Option Tmp) × (List Nat × List Bool × List (Option Nat)) × Nat := match x with
  | some y => (some (y.1, y.2.1), obL y.2.2, (obP y.2.2).length)
  | none => (none, ([], [], []), 0)
def trivO {β : Type} (x : Option (β × Option Tmp × List Ob)) : List Nat × List Bool × List (Option Nat) := match x with
  | some y => obR y.2.2
  | none => ([], [], [])
theorem chkO_sound {β : Type} {x : Option (β × Option Tmp × List Ob)} {b : β} {dst : Option Tmp} (h : chkO x = (some (b, dst), trivO x, 0)) : ∃ p, x = some (b, dst, p) ∧ All p := by
  cases x with
  | none => simp [chkO] at h
  | some y =>
    obtain ⟨a, b, p⟩ := y
    simp only [chkO, trivO, Prod.mk.injEq, Option.some.injEq] at h
    obtain ⟨⟨rfl, rfl⟩, h2, h3⟩ := h
    refine ⟨p, rfl, All_of p h2 ?_⟩
    rw [List.eq_nil_of_length_eq_zero h3]
    trivial
def selPanic (E : Env) : Op → Option Value
  | .panic x => some (rho E x)
  | _ => none
def selDefer (E : Env) : Op → Option (Value × Array Value)
  | .defer c => match c.callee with
    | .value f => some (rho E f, c.args.map (rho E))
    | _ => none
  | _ => none
def selConv (E : Env) : Op → Option (TypeId × TypeId × Value)
  | .convert src dt x => some (src, dt, rho E x)
  | _ => none
def selApp (E : Env) : Op → Option (TypeId × TypeId × Value × Value)
  | .call c => match c.callee with
    | .builtin .append => match c.args.toList, c.argTypes.toList with
      | [s, x], [t, u] => some (t, u, rho E s, rho E x)
      | _, _ => none
    | _ => none
  | _ => none

def selCat (E : Env) : Op → Option (ByteArray × ByteArray)
  | .binOp .add _ x y _ => match rho E x, rho E y with
    | .string a, .string b => some (a, b)
    | _, _ => none
  | _ => none
theorem ba_of {t : ByteArray} {l : List UInt8} (h : t.data.toList = l) : t = ⟨l.toArray⟩ := by
  subst h
  cases t
  simp
theorem ba_app (a b : List UInt8) : (⟨a.toArray⟩ : ByteArray) ++ ⟨b.toArray⟩ = ⟨(a ++ b).toArray⟩ := ba_of (by simp)

theorem eqRun_cat {P : Program} {t : TypeId} {x y : Operand} (l m : List UInt8) (hb : l.length + m.length ≤ 1000000000) : eqRun P .add t x y (.string ⟨l.toArray⟩) (.string ⟨m.toArray⟩) (.string ⟨(l ++ m).toArray⟩) := fun w => by
  have hsz : (⟨l.toArray⟩ : ByteArray).size + (⟨m.toArray⟩ : ByteArray).size ≤ 9223372036854775807 := by
    show l.toArray.size + m.toArray.size ≤ _
    simp
    omega
  have e1 := run_string_add_sum (P := P) (w := w) ⟨l.toArray⟩ ⟨m.toArray⟩ hsz
  exact ⟨by simp [eqGuard], by simp [binOp, e1, ba_app]⟩

section
variable {P : Program} {f : Func} [Pan f] {R : Act → World → Prop} {n : Nat} [Dfr n] {k : List Itm} {E : Env} {h r : List (Nat × Obj)} {F : List (List Nat × World)} {Y : Ghost}
theorem opOf_sound {β : Type} {ops : Array Oper} {i : Nat} {sel : Op → Option β} {b : β} {dst : Option Tmp} {p : List Ob} (he : opOf n ops E i sel = some (b, dst, p)) (hp : All p)
    {a : Act} {w : World} {fps : List (List Nat)} (s : StF n E h r F Y a w fps) {K : Act → World → Prop} {Q : Exit → Act → World → Prop}
    (H : ∀ o : Oper, sel o.op = some b → o.dst = dst → dstOk n dst = true → o.upon P a K Q ((execOp (rho E) o).run P w)) : wpOp P ops Q i K a w := by
  unfold opOf at he
  split at he
  · cases he
  rename_i o ho
  split at he
  case isFalse => cases he
  rename_i hd
  simp only [Bool.and_eq_true, Bool.not_eq_true'] at hd
  split at he
  · cases he
  rename_i cd g hg
  split at he
  · cases he
  rename_i q hq
  split at he
  case h_2 => cases he
  rename_i b' hb
  simp only [Option.some.injEq, Prod.mk.injEq] at he
  obtain ⟨rfl, rfl, rfl⟩ := he
  obtain ⟨hg1, hq1⟩ := All_append hp
  have hwant : Region.wanted o (yielded ops a.tmps) = true ∧ ∀ c wn, cd = some (c, wn) → c = wn := by
    cases hgd : o.guard with
    | none =>
      rw [hgd] at hg
      simp only [Option.some.injEq, Prod.mk.injEq] at hg
      refine ⟨by simp [Region.wanted, hgd], fun c wn h => ?_⟩
      rw [← hg.1] at h
      cases h
    | some y =>
      obtain ⟨j, want⟩ := y
      rw [hgd] at hg
      obtain ⟨c, hc, hcg⟩ := Option.map_eq_some_iff.1 hg
      simp only [Prod.mk.injEq] at hcg
      obtain ⟨rfl, rfl⟩ := hcg
      have hy := guardOf_sound s.ag hc
      have hcw : c = want := hg1.1
      refine ⟨by simp [Region.wanted, hgd, hy, hcw], fun c' wn h => ?_⟩
      injection h with h
      injection h with h1 h2
      rw [← h1, ← h2]
      exact hcw
  unfold wpOp
  simp only [ho]
  rw [if_pos hwant.1]
  refine .inl ?_
  unfold Oper.wp
  have hcongr : execOp a.eval o = execOp (rho E) o := execOp_congr o (fun cs b hc => by have := hd.2; rw [hc] at this; cases this) (fun x hx => opsOk_sound s.ag hwant.2 _ _ hq hq1 x (by simpa using hx))
  rw [hcongr]
  exact H o hb rfl hd.1

/-- Two strings, one behind the other. -/
theorem JR_cat {id L0 i : Nat} {ck : Bool} {Wp : List (Nat × List Nat)} {rest : List (Nat × Bool)} (l m : List UInt8) (dst : Option Tmp)
    (he : chkO (opOf n (rgOf f id) E i (selCat E)) = (some ((⟨l.toArray⟩, ⟨m.toArray⟩), dst), trivO (opOf n (rgOf f id) E i (selCat E)), 0)) (hb : l.length + m.length ≤ 1000000000)
    (A : JR P f R n (rgOf f id) L0 ck rest (Wp.filter (·.1 != i)) k (E.put dst (.val (.string ⟨(l ++ m).toArray⟩))) h r F Y) :
    JR P f R n (rgOf f id) L0 ck ((i, false) :: rest) Wp k E h r F Y := by
  obtain ⟨p, he, hp⟩ := chkO_sound he
  intro B Hd fps a w s hH hR hN hW
  simp only [PW]
  refine opOf_sound he hp s fun o ho hod hdo => ?_
  unfold selCat at ho
  split at ho
  case h_2 => cases ho
  rename_i t x y yt hx
  split at ho
  case h_2 => cases ho
  rename_i a1 b1 hx1 hy1
  simp only [Option.some.injEq, Prod.mk.injEq] at ho
  obtain ⟨rfl, rfl⟩ := ho
  have hsz : (⟨l.toArray⟩ : ByteArray).size + (⟨m.toArray⟩ : ByteArray).size ≤ 9223372036854775807 := by
    show l.toArray.size + m.toArray.size ≤ _
    simp
    omega
  have e : (execOp (rho E) o).run P w = .ok (.value (.string ⟨(l ++ m).toArray⟩)) w := by
    have e1 := run_string_add_sum (P := P) (w := w) ⟨l.toArray⟩ ⟨m.toArray⟩ hsz
    unfold execOp
    simp [hx, hx1, hy1, eqGuard, binOp, e1, ba_app]
  rw [e, Oper.upon_value]
  refine ⟨fun _ b _ _ => rfl, ?_⟩
  rw [filter_idsW]
  subst hod
  exact A B Hd fps _ w ⟨s.ag.put hdo (.val _), s.own, s.fr, s.may, s.gh⟩ hH hR hN (okWp_filter hW)
/-- The chunks, written otherwise. -/
theorem JN {S0 : Nat → Prop} {C0 : List Chunk} {G0 : List (Value × D)} {ops : Array Oper} {L0 : Nat} {ck : Bool} {plan : List (Nat × Bool)} {Wp : List (Nat × List Nat)} (C' : List Chunk) (H : JR P f R n ops L0 ck plan Wp k E h r F ⟨S0, C', G0⟩) (hC : C0 = C' := by kernel_rfl) : JR P f R n ops L0 ck plan Wp k E h r F ⟨S0, C0, G0⟩ := by
  subst hC
  exact H
/-- A panic. -/
theorem JR_panic {id L0 i : Nat} {ck : Bool} {Wp : List (Nat × List Nat)} {rest : List (Nat × Bool)} (t : TypeId) (v : Value) (dst : Option Tmp)
    (he : chkO (opOf n (rgOf f id) E i (selPanic E)) = (some (.iface t v, dst), trivO (opOf n (rgOf f id) E i (selPanic E)), 0))
    (H : ∀ a w, St n E h r F Y a w → Pan.pan f [{ v := .iface t v, recovered := false }] a w) :
    JR P f R n (rgOf f id) L0 ck ((i, false) :: rest) Wp k E h r F Y := by
  obtain ⟨p, he, hp⟩ := chkO_sound he
  intro B Hd fps a w s hH hR hN hW
  simp only [PW]
  refine opOf_sound he hp s fun o ho _ _ => ?_
  unfold selPanic at ho
  split at ho
  case h_2 => cases ho
  rename_i x hx
  obtain ho := Option.some.inj ho
  have e : (execOp (rho E) o).run P w = .halt (.panic (.iface t v)) w := by
    unfold execOp
    have e0 : (Instr.panic (.iface t v)).run P w = .halt (.panic (.iface t v)) w := rfl
    simp only [hx, ho, Sem.run_bind, e0]
    rfl
  rw [e, Oper.upon_panic]
  exact (wpK_pan _ _ _ _).2 (H a w ⟨fps, s⟩)

/-- A call put off: a closure that knows what it needs. -/
theorem JR_defer {id L0 i : Nat} {ck : Bool} {Wp : List (Nat × List Nat)} {rest : List (Nat × Bool)} (fid : FuncId) (cap : Array Value) (args : Array Value) (dst : Option Tmp)
    (he : chkO (opOf n (rgOf f id) E i (selDefer E)) = (some ((.func (.func fid) #[] cap, args), dst), trivO (opOf n (rgOf f id) E i (selDefer E)), 0)) (hdst : dst = none) (ds0 : List Deferred) (hds0 : Dfr.ds n = ds0)
    (H : ∀ inst1 : Dfr n, inst1.ds = { target := .fn (.func fid) cap, args := args } :: ds0 → @JR P f _ R n inst1 (rgOf f id) L0 ck rest (Wp.filter (·.1 != i)) k E h r F Y) :
    JR P f R n (rgOf f id) L0 ck ((i, false) :: rest) Wp k E h r F Y := by
  obtain ⟨p, he, hp⟩ := chkO_sound he
  intro B Hd fps a w s hH hR hN hW
  simp only [PW]
  refine opOf_sound he hp s fun o ho hod _ => ?_
  unfold selDefer at ho
  split at ho
  case h_2 => cases ho
  rename_i c hx
  split at ho
  case h_2 => cases ho
  rename_i fx hc
  simp only [Option.some.injEq, Prod.mk.injEq] at ho
  obtain ⟨ho1, ho2⟩ := ho
  have e : (execOp (rho E) o).run P w = .ok (.defer { target := .fn (.func fid) cap, args := args }) w := by
    unfold execOp
    simp [hx, resolve, hc, ho1, ho2, Deferred.ofValue]
  rw [e, Oper.upon_defer, hod, hdst]
  refine ⟨fun _ b _ _ => rfl, ?_⟩
  rw [filter_idsW]
  subst hds0
  have hA : @Ag n ⟨{ target := .fn (.func fid) cap, args := args } :: Dfr.ds n⟩ E { a with defers := { target := .fn (.func fid) cap, args := args } :: a.defers } := by
    refine @Ag.mk n ⟨_⟩ E _ ?_ s.ag.size s.ag.look
    simp only [s.ag.defers]
  exact H ⟨{ target := .fn (.func fid) cap, args := args } :: Dfr.ds n⟩ rfl B Hd fps _ w (@StF.mk n ⟨_⟩ E h r F Y _ w fps hA s.own s.fr s.may s.gh) hH hR hN (okWp_filter hW)

theorem callOf_soundp {ops : Array Oper} {i : Nat} {hs : List Hn} {fid : FuncId} {args : Array Value} {dst : Option Tmp} {p : List Ob} (he : callOf P n ops h r E i hs = some (fid, args, dst, p)) (hp : All p)
    {a : Act} {w : World} {fps : List (List Nat)} (s : StF n E h r F Y a w fps) {K : Act → World → Prop} {Q : Exit → Act → World → Prop}
    (C : Calls P fid args w fun e w' => (∃ v, e = .returned v ∧ ∀ E', E' = E.put dst (.val v) → ∀ a', Ag n E' a' → K a' w') ∨ ∃ ch, e = .panicked ch ∧ Q (.panic ch) a w') : wpOp P ops Q i K a w := by
  unfold callOf at he
  split at he
  · cases he
  rename_i o ho
  split at he
  case isFalse => cases he
  rename_i hd
  simp only [Bool.and_eq_true, Bool.not_eq_true'] at hd
  split at he
  · cases he
  rename_i cd g hg
  split at he
  · cases he
  rename_i q hq
  split at he
  case h_2 => cases he
  rename_i fid' args' p' hx
  simp only [Option.some.injEq, Prod.mk.injEq] at he
  obtain ⟨rfl, rfl, rfl, rfl⟩ := he
  obtain ⟨hg1, hp⟩ := All_append hp
  obtain ⟨hq1, hp1⟩ := All_append hp
  have hwant : Region.wanted o (yielded ops a.tmps) = true ∧ ∀ c wn, cd = some (c, wn) → c = wn := by
    cases hgd : o.guard with
    | none =>
      rw [hgd] at hg
      simp only [Option.some.injEq, Prod.mk.injEq] at hg
      refine ⟨by simp [Region.wanted, hgd], fun c wn h => ?_⟩
      rw [← hg.1] at h
      cases h
    | some y =>
      obtain ⟨j, want⟩ := y
      rw [hgd] at hg
      obtain ⟨c, hc, hcg⟩ := Option.map_eq_some_iff.1 hg
      simp only [Prod.mk.injEq] at hcg
      obtain ⟨rfl, rfl⟩ := hcg
      have hy := guardOf_sound s.ag hc
      have hcw : c = want := hg1.1
      refine ⟨by simp [Region.wanted, hgd, hy, hcw], fun c' wn h => ?_⟩
      injection h with h
      injection h with h1 h2
      rw [← h1, ← h2]
      exact hcw
  unfold wpOp
  simp only [ho]
  rw [if_pos hwant.1]
  refine .inl ?_
  unfold Oper.wp
  have hcongr : execOp a.eval o = execOp (rho E) o := execOp_congr o (fun cs b hc => by have := hd.2; rw [hc] at this; cases this) (fun x hx => opsOk_sound s.ag hwant.2 _ _ hq hq1 x (by simpa using hx))
  rw [hcongr, exr_sound _ hs _ _ hx hp1 w fun y hy => by
    obtain ⟨hn, _, hg⟩ := List.mem_filterMap.1 hy
    exact s.own.get hg]
  rw [Oper.upon_enter]
  refine C.mono fun e w' hh => ?_
  rcases hh with ⟨v, rfl, hk⟩ | ⟨ch, rfl, hq⟩
  · exact hk _ rfl _ (s.ag.put hd.1 (.val v))
  · exact hq

/-- What is left when a call has panicked. -/
def Pn (M : List Nat) (w : World) (w' : World) (e : Ending) (ch : List PanicEntry) : Prop := e = .panicked ch ∧ Fr M w w'
/-- A call that may panic. cs: the places of the chunks that go in. -/
theorem JR_callpan0 {id L0 i : Nat} {ck : Bool} {Wp : List (Nat × List Nat)} {rest : List (Nat × Bool)} (hs : List Hn) (cs : List Nat) (fid : FuncId) (args : Array Value) (dst : Option Tmp)
    (he : chkC (callOf P n (rgOf f id) h r E i hs) = (some (fid, args, dst), trivC (callOf P n (rgOf f id) h r E i hs), 0)) (hok : (!ck || (Wp.lookup i).isSome || cs.isEmpty) = true) (hcs : cs.Nodup)
    (C : ∀ w S M, Pre w S M (pick Y.C cs) → AllG w S Y.G → (cs = [] → M = []) → Calls P fid args w fun e w' => (∃ v C' G', Ret M w S w' e v C' G' ∧
      JR P f R n (rgOf f id) L0 ck rest (Wp.filter (·.1 != i)) k (E.put dst (.val v)) h r F ⟨Y.S, restC Y.C cs ++ C', Y.G ++ G'⟩) ∨
      ∃ ch, Pn M w w' e ch ∧ ∀ a w, St n E h r F ⟨Y.S, restC Y.C cs, Y.G⟩ a w → Pan.pan f ch a w) :
    JR P f R n (rgOf f id) L0 ck ((i, false) :: rest) Wp k E h r F Y := by
  obtain ⟨p, he, hp⟩ := chkC_sound he
  intro B Hd fps a w s hH hR hN hW
  simp only [PW]
  refine callOf_soundp he hp s ((C w (Sd Y h fps) (pick fps cs).flatten (Pre.of s hcs) s.gh.g (fun h => by rw [h]; simp [pick])).mono fun e w' hh => ?_)
  rcases hh with ⟨v, C', G', hRet, H⟩ | ⟨ch, ⟨he2, hf⟩, H⟩
  · left
    have hf := hRet.fr
    refine ⟨v, hRet.ret, fun E' hE a' hA => ⟨fun hck b hb hl => ?_, ?_⟩⟩
    · refine hf.block b hb fun hm => ?_
      have hm2 := pick_flat_sub hm
      cases hWl : Wp.lookup i with
      | none =>
        rw [hWl, hck] at hok
        simp at hok
        subst hok
        simp [pick] at hm
      | some ps =>
        rw [lookup_idsW, hWl] at hl
        obtain ⟨h1, h2⟩ := hl _ rfl
        rcases hH b hm2 with h3 | h3
        · exact h2 (List.mem_append_right _ h3)
        · omega
    · subst hE
      rw [filter_idsW]
      obtain ⟨fps', h3, s'⟩ := s.called (cs := cs) hA hRet
      refine H B Hd _ a' w' s' (fun b hb => ?_) ⟨hR.old, hR.ro, hR.len, Nat.le_trans hR.size hf.size⟩ hN (okWp_filter hW)
      rw [List.flatten_append] at hb
      rcases List.mem_append.1 hb with hb | hb
      · exact hH b (pick_flat_sub hb)
      · rcases h3 b hb with h1 | h1
        · exact hH b (pick_flat_sub h1)
        · exact .inr (Nat.le_trans hR.size h1)
  · right
    refine ⟨ch, he2, (wpK_pan _ _ _ _).2 ?_⟩
    have hRet : Ret (pick fps cs).flatten w (Sd Y h fps) w' (.returned undef) undef [] [] := ⟨rfl, hf, [], trivial, by simp, by simp, by simp⟩
    obtain ⟨fps', _, s'⟩ := s.called (cs := cs) s.ag hRet
    have e1 : pick Y.C (others Y.C.length cs) ++ [] = restC Y.C cs := by rw [List.append_nil]; rfl
    have e2 : Y.G ++ [] = Y.G := List.append_nil _
    rw [e1, e2] at s'
    exact H a w' ⟨_, s'⟩
theorem JR_callpan {S0 : Nat → Prop} {C0 : List Chunk} {G0 : List (Value × D)} {id L0 i : Nat} {ck : Bool} {Wp : List (Nat × List Nat)} {rest : List (Nat × Bool)} (hs : List Hn) (cs : List Nat) (fid : FuncId) (args : Array Value) (dst : Option Tmp)
    (he : chkC (callOf P n (rgOf f id) h r E i hs) = (some (fid, args, dst), trivC (callOf P n (rgOf f id) h r E i hs), 0)) (hok : (!ck || (Wp.lookup i).isSome || cs.isEmpty) = true) (hcs : cs.Nodup)
    (C : ∀ w S M, Pre w S M (pick C0 cs) → AllG w S G0 → (cs = [] → M = []) → Calls P fid args w fun e w' => (∃ v C' G', Ret M w S w' e v C' G' ∧
      JR P f R n (rgOf f id) L0 ck rest (Wp.filter (·.1 != i)) k (E.put dst (.val v)) h r F ⟨S0, restC C0 cs ++ C', G0 ++ G'⟩) ∨
      ∃ ch, Pn M w w' e ch ∧ ∀ a w, St n E h r F ⟨S0, restC C0 cs, G0⟩ a w → Pan.pan f ch a w) :
    JR P f R n (rgOf f id) L0 ck ((i, false) :: rest) Wp k E h r F ⟨S0, C0, G0⟩ := JR_callpan0 (Y := ⟨S0, C0, G0⟩) hs cs fid args dst he hok hcs C

/-- .. and takes no chunk. -/
theorem JR_callpanp0 {id L0 i : Nat} {ck : Bool} {Wp : List (Nat × List Nat)} {rest : List (Nat × Bool)} (hs : List Hn) (fid : FuncId) (args : Array Value) (dst : Option Tmp)
    (he : chkC (callOf P n (rgOf f id) h r E i hs) = (some (fid, args, dst), trivC (callOf P n (rgOf f id) h r E i hs), 0))
    (C : ∀ w S, AllG w S Y.G → Calls P fid args w fun e w' => (∃ v C' G', Ret [] w S w' e v C' G' ∧
      JR P f R n (rgOf f id) L0 ck rest (Wp.filter (·.1 != i)) k (E.put dst (.val v)) h r F ⟨Y.S, Y.C ++ C', Y.G ++ G'⟩) ∨
      ∃ ch, Pn [] w w' e ch ∧ ∀ a w, St n E h r F Y a w → Pan.pan f ch a w) :
    JR P f R n (rgOf f id) L0 ck ((i, false) :: rest) Wp k E h r F Y := by
  have e0 : restC Y.C [] = Y.C := by
    have h1 : others Y.C.length [] = List.range Y.C.length := by simp [others]
    unfold restC
    rw [h1, pick_all]
  refine JR_callpan0 hs [] fid args dst he (by simp) (by simp) fun w S M _ hG hM => ?_
  obtain rfl := hM rfl
  refine (C w S hG).mono fun e w' hh => ?_
  rw [e0]
  exact hh
theorem JR_callpanp {S0 : Nat → Prop} {C0 : List Chunk} {G0 : List (Value × D)} {id L0 i : Nat} {ck : Bool} {Wp : List (Nat × List Nat)} {rest : List (Nat × Bool)} (hs : List Hn) (fid : FuncId) (args : Array Value) (dst : Option Tmp)
    (he : chkC (callOf P n (rgOf f id) h r E i hs) = (some (fid, args, dst), trivC (callOf P n (rgOf f id) h r E i hs), 0))
    (C : ∀ w S, AllG w S G0 → Calls P fid args w fun e w' => (∃ v C' G', Ret [] w S w' e v C' G' ∧
      JR P f R n (rgOf f id) L0 ck rest (Wp.filter (·.1 != i)) k (E.put dst (.val v)) h r F ⟨S0, C0 ++ C', G0 ++ G'⟩) ∨
      ∃ ch, Pn [] w w' e ch ∧ ∀ a w, St n E h r F ⟨S0, C0, G0⟩ a w → Pan.pan f ch a w) :
    JR P f R n (rgOf f id) L0 ck ((i, false) :: rest) Wp k E h r F ⟨S0, C0, G0⟩ := JR_callpanp0 (Y := ⟨S0, C0, G0⟩) hs fid args dst he C

/-- 'string(b)' of a chunk of ours. -/
theorem JR_strq0 {id L0 i : Nat} {ck : Bool} {Wp : List (Nat × List Nat)} {rest : List (Nat × Bool)} (q src dt e e' : TypeId) {a0 : Option Addr} {len cap0 : Nat} {l : List UInt8} (dst : Option Tmp)
    (he : chkO (opOf n (rgOf f id) E i (selConv E)) = (some ((src, dt, .slice a0 len cap0), dst), trivO (opOf n (rgOf f id) E i (selConv E)), 0))
    (hs : P.underlying src = some (.slice e)) (hb : P.underlying e = some (.int .u8)) (hd : P.underlying dt = some .string)
    (hc : Y.C[q]? = some (cAcc (.slice a0 len cap0) e' 1 ((bI l).map eU)))
    (A : JR P f R n (rgOf f id) L0 ck rest (Wp.filter (·.1 != i)) k (E.put dst (.val (.string ⟨l.toArray⟩))) h r F Y) :
    JR P f R n (rgOf f id) L0 ck ((i, false) :: rest) Wp k E h r F Y := by
  obtain ⟨p, he, hp⟩ := chkO_sound he
  rw [bI_eU] at hc
  intro B Hd fps a w s hH hR hN hW
  simp only [PW]
  obtain ⟨fp, hfp, _, hP⟩ := s.gh.chs.at hc
  have hrun : (convert src dt (.slice a0 len cap0)).run P w = .ok (.string ⟨l.toArray⟩) w := by
    rcases hP with ⟨h1, h2, _⟩ | ⟨g, cap, cur, xs, h2, _, h3, h4, h5⟩
    · cases h2
      have : l = [] := by simpa using h1
      subst this
      rw [run_convert_bytes_string w src dt e none 0 0 hs hb hd]
      rfl
    · cases h2
      have hl : (l.map eB).length = l.length := by simp
      rw [hl]
      refine run_convert_bytes_back w src dt e ⟨g, 0, none⟩ _ l hs hb hd fun j hj => ?_
      have hi : (l.map eB)[j]? = some (eB l[j]) := by simp [hj]
      obtain ⟨u, hu, hr⟩ := h5.rep j 0 _ _ hi rfl
      have hu2 := hr.plain
      subst hu2
      have hadd : (⟨g, 0, none⟩ : Addr).add j = ⟨g, 0 + j, none⟩ := by unfold Addr.add; split <;> simp_all
      rw [hadd]
      refine cell_of rfl h3 rfl ?_
      show cur[0 + j]? = _
      rw [Nat.zero_add, h4.at (j := j) (by rw [hl]; omega)]
      simpa using hu
  refine opOf_sound he hp s fun o ho hod hdo => ?_
  unfold selConv at ho
  split at ho
  case h_2 => cases ho
  rename_i src' dt' x hx
  simp only [Option.some.injEq, Prod.mk.injEq] at ho
  obtain ⟨rfl, rfl, ho⟩ := ho
  unfold execOp
  simp only [hx, ho, Sem.run_bind, hrun, Result.andThen_ok, Sem.run_pure]
  rw [Oper.upon_value]
  refine ⟨fun _ b _ _ => rfl, ?_⟩
  rw [filter_idsW]
  subst hod
  exact A B Hd fps _ w ⟨s.ag.put hdo (.val _), s.own, s.fr, s.may, s.gh⟩ hH hR hN (okWp_filter hW)
theorem JR_strq {S0 : Nat → Prop} {C0 : List Chunk} {G0 : List (Value × D)} {id L0 i : Nat} {ck : Bool} {Wp : List (Nat × List Nat)} {rest : List (Nat × Bool)} (q src dt e e' : TypeId) {a0 : Option Addr} {len cap0 : Nat} {l : List UInt8} (dst : Option Tmp)
    (he : chkO (opOf n (rgOf f id) E i (selConv E)) = (some ((src, dt, .slice a0 len cap0), dst), trivO (opOf n (rgOf f id) E i (selConv E)), 0))
    (hs : P.underlying src = some (.slice e)) (hb : P.underlying e = some (.int .u8)) (hd : P.underlying dt = some .string)
    (hc : C0[q]? = some (cAcc (.slice a0 len cap0) e' 1 ((bI l).map eU)))
    (A : JR P f R n (rgOf f id) L0 ck rest (Wp.filter (·.1 != i)) k (E.put dst (.val (.string ⟨l.toArray⟩))) h r F ⟨S0, C0, G0⟩) :
    JR P f R n (rgOf f id) L0 ck ((i, false) :: rest) Wp k E h r F ⟨S0, C0, G0⟩ := JR_strq0 (Y := ⟨S0, C0, G0⟩) q src dt e e' dst he hs hb hd hc A

/-- 'string(b)' of a block of ours whose cells are the bytes l. -/
theorem JR_strb {id L0 i : Nat} {ck : Bool} {Wp : List (Nat × List Nat)} {rest : List (Nat × Bool)} (q src dt e : TypeId) {b cap : Nat} {cs : Array Value} {ty : TypeId} {fz : Nat × Nat} (l : List UInt8) (dst : Option Tmp)
    (he : chkO (opOf n (rgOf f id) E i (selConv E)) = (some ((src, dt, .slice (some ⟨b, 0, none⟩) l.length cap), dst), trivO (opOf n (rgOf f id) E i (selConv E)), 0))
    (hs : P.underlying src = some (.slice e)) (hb : P.underlying e = some (.int .u8)) (hd : P.underlying dt = some .string)
    (hc : h[q]? = some (b, .cells cs ty fz)) (hl : ∀ j (hj : j < l.length), cs[j]? = some (.int .u8 (l[j].toNat : Int)))
    (A : JR P f R n (rgOf f id) L0 ck rest (Wp.filter (·.1 != i)) k (E.put dst (.val (.string ⟨l.toArray⟩))) h r F Y) :
    JR P f R n (rgOf f id) L0 ck ((i, false) :: rest) Wp k E h r F Y := by
  obtain ⟨p, he, hp⟩ := chkO_sound he
  intro B Hd fps a w s hH hR hN hW
  simp only [PW]
  have hb0 := s.own.own _ (List.mem_of_getElem? hc)
  have hrun : (convert src dt (.slice (some ⟨b, 0, none⟩) l.length cap)).run P w = .ok (.string ⟨l.toArray⟩) w := by
    refine run_convert_bytes_back w src dt e ⟨b, 0, none⟩ _ l hs hb hd fun j hj => ?_
    have hadd : (⟨b, 0, none⟩ : Addr).add j = ⟨b, 0 + j, none⟩ := by unfold Addr.add; split <;> simp_all
    rw [hadd]
    exact cell_of rfl hb0 rfl (by rw [Nat.zero_add]; exact hl j hj)
  refine opOf_sound he hp s fun o ho hod hdo => ?_
  unfold selConv at ho
  split at ho
  case h_2 => cases ho
  rename_i src' dt' x hx
  simp only [Option.some.injEq, Prod.mk.injEq] at ho
  obtain ⟨rfl, rfl, ho⟩ := ho
  unfold execOp
  simp only [hx, ho, Sem.run_bind, hrun, Result.andThen_ok, Sem.run_pure]
  rw [Oper.upon_value]
  refine ⟨fun _ b _ _ => rfl, ?_⟩
  rw [filter_idsW]
  subst hod
  exact A B Hd fps _ w ⟨s.ag.put hdo (.val _), s.own, s.fr, s.may, s.gh⟩ hH hR hN (okWp_filter hW)

theorem strCells_rows (s : ByteArray) : ∀ (w : World) (S : Nat → Prop), RowsAt w S (Lib.strCells s) 1 (s.data.toList.map eB) := fun w S => by
  refine ⟨fun row hr => ?_, fun i j row d hi hj => ?_⟩
  · obtain ⟨x, _, rfl⟩ := List.mem_map.1 hr
    rfl
  · rw [List.getElem?_map] at hi
    obtain ⟨x, hx, rfl⟩ := Option.map_eq_some_iff.1 hi
    match j, hj with
    | 0, hj =>
      simp only [List.getElem?_cons_zero, Option.some.injEq] at hj
      subst hj
      refine ⟨.int .u8 x.toNat, ?_, .v rfl⟩
      simp [Lib.strCells, hx]
    | j + 1, hj => simp at hj

/-- 'append(b, s...)': a string's bytes onto the chunk at q. -/
theorem JR_apps0 {id L0 i : Nat} {ck : Bool} {Wp : List (Nat × List Nat)} {rest : List (Nat × Bool)} (q t u e : TypeId) (s0 : ByteArray) {a0 : Option Addr} {len cap0 : Nat} {l : List Int} (dst : Option Tmp)
    (he : chkO (opOf n (rgOf f id) E i (selApp E)) = (some ((t, u, .slice a0 len cap0, .string s0), dst), trivO (opOf n (rgOf f id) E i (selApp E)), 0)) (hok : (!ck || (Wp.lookup i).isSome) = true)
    (ht : P.underlying t = some (.slice e)) (hu : P.underlying u = some .string) (hi : (P.info? e).map (fun i => (i.zero, i.size, i.bytes)) = some (some (.int .u8 0), 1, 1))
    (hc : Y.C[q]? = some (cAcc (.slice a0 len cap0) e 1 (l.map eU))) (hmax : len + s0.size ≤ 1000000000)
    (A : ∀ a' cap', JR P f R n (rgOf f id) L0 ck rest (Wp.filter (·.1 != i)) k (E.put dst (.val (.slice a' (len + s0.size) cap'))) h r F ⟨Y.S, restC Y.C [q] ++ [cAcc (.slice a' (len + s0.size) cap') e 1 ((l ++ bI s0.data.toList).map eU)], Y.G ++ []⟩) :
    JR P f R n (rgOf f id) L0 ck ((i, false) :: rest) Wp k E h r F Y := by
  obtain ⟨p, he, hp⟩ := chkO_sound he
  obtain ⟨inf, h1i, h2i, hsz, hby⟩ := infoParts hi
  intro B Hd fps a w s hH hR hN hW
  simp only [PW]
  obtain ⟨fp, hfp, _, hP⟩ := s.gh.chs.at hc
  have hlen := acc_len (show (cAcc (.slice a0 len cap0) e 1 (l.map eU)).P w (Sd Y h fps) fp from ⟨by decide, hP⟩)
  have hll : l.length = len := by rw [hlen]; simp
  have hpk : pick fps [q] = [fp] := by simp [pick, hfp]
  have hM : (pick fps [q]).flatten = fp := by rw [hpk]; simp
  have hmem : ∀ b ∈ fp, b ∈ fps.flatten := fun b hb => List.mem_flatten.2 ⟨fp, List.mem_of_getElem? hfp, hb⟩
  have hnot : ∀ b, Sd Y h fps b → b ∉ fp := fun b hb hm => hb.2.2 (hmem b hm)
  have hmm : len + s0.size ≤ maxLen := by simp only [maxLen]; omega
  have hown : ∃ xs, w.ownsRow 0 e 1 (.slice a0 len cap0) len xs ∧ RowsAt w (Sd Y h fps) xs 1 (l.map eU) ∧ xs.length = (l.map eU).length * 1 ∧ (∀ b, (Value.slice a0 len cap0).ownBlock = some b → b ∈ fp) := by
    rcases hP with ⟨h1, h2, rfl⟩ | ⟨g, cap, cur, xs, h2, rfl, h3, h4, h5⟩
    · cases h2
      refine ⟨[], World.ownsRow_nil w 0 e 1, ?_, by rw [h1]; simp, by simp [Value.ownBlock]⟩
      rw [h1]
      exact RowsAt.nil _ _ _ _
    · cases h2
      exact ⟨xs, ⟨h4.len, .inr ⟨g, cap0, cur, rfl, Nat.zero_le _, h3, h4.le, h4.max, h4.siz, h4.take⟩⟩, h5, h4.len, by simp [Value.ownBlock]⟩
  obtain ⟨xs, hown, hRx, hxl, hob⟩ := hown
  have key : ∀ ty, ∃ a' cap' w', (Builtin.append_ #[t, u] ty #[.slice a0 len cap0, .string s0]).run P w = .ok (.slice a' (len + s0.size) cap') w' ∧ Ret (pick fps [q]).flatten w (Sd Y h fps) w' (.returned (.slice a' (len + s0.size) cap')) (.slice a' (len + s0.size) cap') [cAcc (.slice a' (len + s0.size) cap') e 1 ((l ++ bI s0.data.toList).map eU)] [] := by
    intro ty
    rw [hM]
    obtain ⟨v', w', hrun, hown', hgr, hnil⟩ := Lib.run_append_own_string (P := P) w 0 t u ty e inf ht hu h1i h2i hsz hby (.slice a0 len cap0) len xs hown s0 hmm (by omega) (Nat.zero_le _)
    have hat : v'.ownBlock = (Value.slice a0 len cap0).ownBlock ∨ v'.ownBlock = some w.heap.size := by
      rcases hown.2 with ⟨h1, h0⟩ | ⟨g, cap, cur, h1, _, hg, hnc, hcm, hcs, htake⟩
      · cases h1
        rcases Nat.eq_zero_or_pos s0.size with hz | hz
        · exact .inl (by rw [hnil.2 ⟨rfl, hz⟩])
        · have h2 := hrun.symm.trans (run_append_nil_string (P := P) w t u ty e inf (.int .u8 0) ht hu h1i h2i s0 hz (by omega) (by rw [hby]; omega))
          cases h2
          exact .inr rfl
      · cases h1
        by_cases hroom : len + s0.size ≤ cap0
        · have h2 := hrun.symm.trans (Lib.run_append_room_string (P := P) w t u ty e inf ht hu h1i hsz g len cap0 cur hg s0 hroom (by rw [hcs]; omega))
          cases h2
          exact .inl rfl
        · have holds : ∀ j u, xs[j]? = some u → w.cell? ((⟨g, 0, none⟩ : Addr).add j) = some u := hown.cells (g := g) rfl
          have h2 := hrun.symm.trans (Lib.run_append_grow_string (P := P) w t u ty e inf (.int .u8 0) ht hu h1i h2i ⟨g, 0, none⟩ len cap0 xs (by rw [hsz]; exact hown.1) holds s0 (by omega) (by omega) (by rw [hby]; exact growslice_fits (by omega) (by omega)))
          cases h2
          exact .inr rfl
    have hfr : Fr fp w w' := ⟨hgr.os, hgr.tape, hgr.output, hgr.size, fun b hb hn => hgr.block b hb fun he => hn (hob b he.symm), Sem.run_drawn hrun⟩
    have hRall : ∀ g', (g' ∈ fp ∨ w.heap.size ≤ g') → RowsAt w' (retS (Sd Y h fps) fp w [[g']]) (xs ++ Lib.strCells s0) 1 ((l ++ bI s0.data.toList).map eU) := fun g' hg' => by
      rw [List.map_append, bI_eU]
      refine (hRx.mono fun b hb hlt => ⟨⟨.inl hb, fun hm => ?_⟩, hfr.block b hlt (hnot b hb)⟩).app hxl (strCells_rows s0 _ _)
      simp only [List.flatten_cons, List.flatten_nil, List.append_nil, List.mem_singleton] at hm
      subst hm
      rcases hg' with h1 | h1
      · exact hnot _ hb h1
      · omega
    have hml : ((l ++ bI s0.data.toList).map eU).length = len + s0.size := by simp [hll, bI]
    rcases hown'.2 with ⟨h1, h0⟩ | ⟨g', cap', cur', rfl, _, hg', hle, hmx, hsz', htk⟩
    · have h2 := hnil.1 h1
      have hz : s0.data.toList = [] := List.eq_nil_of_length_eq_zero (by have := h2.2; simpa using this)
      obtain ⟨h3, h4⟩ := h2
      cases h3
      have hl0 : l = [] := List.eq_nil_of_length_eq_zero hll
      subst h1 hl0
      refine ⟨none, 0, w', by rw [hrun, h4], ?_, hfr, [[]], ⟨⟨by decide, .inl ⟨by rw [hz]; rfl, by rw [h4], rfl⟩⟩, trivial⟩, by simp, by simp, by simp⟩
      rfl
    · have hg'' : g' ∈ fp ∨ w.heap.size ≤ g' := by
        simp only [Value.ownBlock] at hat
        rcases hat with h1 | h1
        · exact .inl (hob g' (by simp only [Value.ownBlock]; exact h1.symm))
        · simp only [Option.some.injEq] at h1
          exact .inr (by omega)
      have hlt : g' < w'.heap.size := (Array.getElem?_eq_some_iff.1 hg').1
      refine ⟨_, cap', w', hrun, rfl, hfr, [[g']], ⟨⟨by decide, .inr ⟨g', cap', cur', xs ++ Lib.strCells s0, by rw [hml], rfl, hg', ?_, hRall g' hg''⟩⟩, trivial⟩, by simp, fun b hb => ?_, by simp⟩
      · rw [hml]
        exact ⟨hown'.1, hsz', hle, hmx, htk⟩
      · simp only [List.flatten_cons, List.flatten_nil, List.append_nil, List.mem_singleton] at hb
        subst hb
        exact ⟨hg'', hlt⟩
  refine opOf_sound he hp s fun o ho hod hdo => ?_
  unfold selApp at ho
  split at ho
  case h_2 => cases ho
  rename_i c hx
  split at ho
  case h_2 => cases ho
  rename_i hcal
  split at ho
  case h_2 => cases ho
  rename_i xs1 x1 t1 u1 hargs htys
  simp only [Option.some.injEq, Prod.mk.injEq] at ho
  obtain ⟨rfl, rfl, e1, e2⟩ := ho
  have hca : c.args = #[xs1, x1] := by rw [← Array.toArray_toList (xs := c.args), hargs]
  have hct : c.argTypes = #[t1, u1] := by rw [← Array.toArray_toList (xs := c.argTypes), htys]
  obtain ⟨a', cap', w', hrun, hRet⟩ := key o.type
  unfold execOp
  simp only [hx, resolve, hcal, hca, hct, invoke, builtin, Sem.run_bind, Sem.run_pure, Result.andThen_ok, List.map_toArray, List.map_cons, List.map_nil, e1, e2, hrun]
  rw [Oper.upon_value]
  subst hod
  have hf := hRet.fr
  have hA := s.ag.put hdo (.val (.slice a' (len + s0.size) cap'))
  refine ⟨fun hck b hb hl => hf.block b hb fun hm => ?_, ?_⟩
  · have hm2 := pick_flat_sub hm
    cases hWl : Wp.lookup i with
    | none =>
      rw [hWl, hck] at hok
      simp at hok
    | some ps =>
      rw [lookup_idsW, hWl] at hl
      obtain ⟨h1, h2⟩ := hl _ rfl
      rcases hH b hm2 with h3 | h3
      · exact h2 (List.mem_append_right _ h3)
      · omega
  · rw [filter_idsW]
    obtain ⟨fps', h3, s'⟩ := s.called (cs := [q]) hA hRet
    refine A a' cap' B Hd _ _ w' s' (fun b hb => ?_) ⟨hR.old, hR.ro, hR.len, Nat.le_trans hR.size hf.size⟩ hN (okWp_filter hW)
    rw [List.flatten_append] at hb
    rcases List.mem_append.1 hb with hb | hb
    · exact hH b (pick_flat_sub hb)
    · rcases h3 b hb with h1 | h1
      · exact hH b (pick_flat_sub h1)
      · exact .inr (Nat.le_trans hR.size h1)
theorem JR_apps {S0 : Nat → Prop} {C0 : List Chunk} {G0 : List (Value × D)} {id L0 i : Nat} {ck : Bool} {Wp : List (Nat × List Nat)} {rest : List (Nat × Bool)} (q t u e : TypeId) (s0 : ByteArray) {a0 : Option Addr} {len cap0 : Nat} {l : List Int} (dst : Option Tmp)
    (he : chkO (opOf n (rgOf f id) E i (selApp E)) = (some ((t, u, .slice a0 len cap0, .string s0), dst), trivO (opOf n (rgOf f id) E i (selApp E)), 0)) (hok : (!ck || (Wp.lookup i).isSome) = true)
    (ht : P.underlying t = some (.slice e)) (hu : P.underlying u = some .string) (hi : (P.info? e).map (fun i => (i.zero, i.size, i.bytes)) = some (some (.int .u8 0), 1, 1))
    (hc : C0[q]? = some (cAcc (.slice a0 len cap0) e 1 (l.map eU))) (hmax : len + s0.size ≤ 1000000000)
    (A : ∀ a' cap', JR P f R n (rgOf f id) L0 ck rest (Wp.filter (·.1 != i)) k (E.put dst (.val (.slice a' (len + s0.size) cap'))) h r F ⟨S0, restC C0 [q] ++ [cAcc (.slice a' (len + s0.size) cap') e 1 ((l ++ bI s0.data.toList).map eU)], G0 ++ []⟩) :
    JR P f R n (rgOf f id) L0 ck ((i, false) :: rest) Wp k E h r F ⟨S0, C0, G0⟩ := JR_apps0 (Y := ⟨S0, C0, G0⟩) q t u e s0 dst he hok ht hu hi hc hmax A
end

/-! A call whose function puts calls off. -/
/-- What a frame with calls put off is to show when it ends so. -/
def leaveR (P : Program) (fn : Func) (Rr : Ending → World → Prop) (u : FrameMode) (a : Act) (w : World) : Prop := ∀ tmps : Array Value, tmps.size = a.tmps.size → (∀ p ∈ pins fn, tmps.getD p undef = a.tmps.getD p undef) → Leaves P fn tmps Rr a.defers u w
theorem pins_put {fn : Func} {a : Act} {d : Option Tmp} {v : Value} (hd : pinFree fn d = true) : ∀ p ∈ pins fn, (a.put d v).tmps.getD p undef = a.tmps.getD p undef := by
  intro p hp
  cases d with
  | none => rfl
  | some d =>
    have hne : d ≠ p := by
      rintro rfl
      simp [pinFree, hp] at hd
    simp only [Act.put, Array.getD_eq_getD_getElem?, Array.getElem?_setIfInBounds, if_neg hne]
@[reducible] def panLeave (P : Program) (fn : Func) (Rr : Ending → World → Prop) : Pan fn where
  pan c a w := leaveR P fn Rr (.panicking c) a w
  put c a d v w hd h tmps hs ht := by
    have := h tmps (hs.trans (by cases d <;> simp [Act.put])) fun p hp => (ht p hp).trans (pins_put hd p hp).symm
    cases d <;> exact this
theorem calls_JD {P : Program} {n : Nat} {fid : FuncId} {fn : Func} {sk : Sk} {args : List Value} {w : World} {S : Nat → Prop} {M : List Nat} {C : List Chunk} {G : List (Value × D)} {Rr : Ending → World → Prop} (hf : P.funcs[fid]? = some fn) (hb : fn.body = some (sk.code fn)) (hn : fn.ntmps = n) (hle : Nat.ble args.length n = true)
    (hpre : Pre w S M C) (hG : AllG w S G) (H : ∀ pn : Pan fn, (∀ c a w, leaveR P fn Rr (.panicking c) a w → pn.pan c a w) → J P fn (leaveR P fn Rr .returning) n [.c sk] (envOf 0 args) [] [] [(M, w)] ⟨newS S M w, C, G⟩) : Calls P fid args.toArray w Rr := by
  have H := H (panLeave P fn Rr) fun c a w h => h
  subst hn
  have hle := Nat.le_of_ble_eq_true hle
  obtain ⟨fps, hC, rfl, hnd, hM⟩ := hpre
  have hS : ∀ b, S b → Sd ⟨newS S fps.flatten w, C, G⟩ [] fps b := fun b hb => ⟨.inl hb, by simp, fun hm => (hM b hm).2 hb⟩
  refine calls_of_wp_defers hf hb ?_
  have hA : Ag fn.ntmps (envOf 0 args) { tmps := args.toArray ++ Array.replicate (fn.ntmps - args.toArray.size) undef, defers := [] } := by
    refine ⟨rfl, by simp; omega, fun t ev he => ?_⟩
    obtain ⟨j, v, h1, h2, h3⟩ := envOf_look args 0 t ev he
    obtain rfl : t = j := by omega
    subst h3
    have hj : t < args.length := (List.getElem?_eq_some_iff.1 h2).1
    simp [Array.getElem?_append, hj, EV.now]
    simpa [List.getElem?_eq_getElem hj] using h2
  have := H _ w ⟨fps, hA, own_nil (by simp), by simp [Fr.refl], by simp, ⟨hC.mono (fun _ _ => rfl) fun b hb _ => ⟨hS b hb, rfl⟩, hnd, by simp, by simp, by simp only [List.mem_singleton]; rintro f rfl b hb; exact .inl hb, fun b hb => (hM b hb).1, by simp, fun b hb => .inr (.inl hb), fun b hb => .inr (.inr hb), fun x hx => (hG x hx).mono fun b hb _ => ⟨hS b hb, rfl⟩⟩⟩
  simp only [wpK] at this
  refine wp_mono this fun e a w' hq => ?_
  cases e with
  | normal => exact (show leaveR P fn Rr .returning a w' from hq) a.tmps rfl fun _ _ => rfl
  | ret => exact (show leaveR P fn Rr .returning a w' from hq) a.tmps rfl fun _ _ => rfl
  | exit id => exact absurd hq (by simp [wpK])
  | goto l => exact absurd hq (by simp [wpK])
  | panic c => exact (show leaveR P fn Rr (.panicking c) a w' from hq) a.tmps rfl fun _ _ => rfl
  | outgrown => exact absurd hq (by simp [wpK])
/-- The same blocks, under another frame. -/
theorem St.frame {n n' : Nat} [Dfr n] [Dfr n'] {E E' : Env} {h r : List (Nat × Obj)} {F : List (List Nat × World)} {Y : Ghost} {a a' : Act} {w : World} (s : St n E h r F Y a w) (hA : Ag n' E' a') : St n' E' h r F Y a' w := by
  obtain ⟨fps, s⟩ := s
  exact ⟨fps, hA, s.own, s.fr, s.may, s.gh⟩
theorem keepE_look (E : Env) {t : Nat} {ev : EV} : ∀ ts : List Nat, (keepE E ts).lookup t = some ev → t ∈ ts
  | [], h => by cases h
  | u :: ts, h => by
    unfold keepE at h
    split at h
    · by_cases ht : t = u
      · subst ht
        exact List.mem_cons_self ..
      · rw [lookup_cons_ne _ _ ht] at h
        exact List.mem_cons_of_mem _ (keepE_look E ts h)
    · exact List.mem_cons_of_mem _ (keepE_look E ts h)
theorem Ag.pinned {n : Nat} {inst : Dfr n} {fn : Func} {E : Env} {a : Act} {tmps : Array Value} (hA : @Ag n inst E a) (hs : tmps.size = a.tmps.size) (ht : ∀ p ∈ pins fn, tmps.getD p undef = a.tmps.getD p undef) : @Ag n (instDfr n) (keepE E (pins fn)) ⟨tmps, []⟩ := by
  refine @Ag.mk n (instDfr n) _ _ rfl (hs.trans hA.size) fun t ev he => ?_
  have h1 := keepE_look E _ he
  have h2 := hA.look t ev (keepE_sub E _ t ev he)
  have h3 := ht t h1
  have hlt : t < a.tmps.size := (Array.getElem?_eq_some_iff.1 h2).1
  have hlt2 : t < tmps.size := by omega
  simp only [Array.getD_eq_getD_getElem?, h2, Array.getElem?_eq_getElem hlt2, Option.getD_some] at h3
  rw [Array.getElem?_eq_getElem hlt2, h3]
/-- The frame ends with nothing put off. -/
theorem leave0 {P : Program} {fn : Func} {n : Nat} {inst : Dfr n} {Rr : Ending → World → Prop} {E : Env} {h r : List (Nat × Obj)} {F : List (List Nat × World)} {Y : Ghost} {a : Act} {w : World} (hss : List (List Hn)) (v : Value) (hd : inst.ds = []) (s : @St n inst E h r F Y a w)
    (he : chkV (retV P fn (keepE E (pins fn)) h r hss) = (some v, trivV (retV P fn (keepE E (pins fn)) h r hss), 0)) (H : Rr (.returned v) w) : leaveR P fn Rr .returning a w := by
  intro tmps hs ht
  obtain ⟨p, he, hp⟩ := chkV_sound he
  have s' := @St.frame n n inst (instDfr n) _ _ _ _ _ _ _ _ _ s (Ag.pinned s.ag hs ht)
  obtain ⟨_, v', h1, h2⟩ := retV_sound (Rr := Rr) he hp s' H
  rw [s.ag.defers, hd]
  exact ⟨v', h1, h2⟩
theorem opsS_recover {P : Program} {ops : Array Oper} {Q : Exit → Act → List Frame → World → Prop} {i : Nat} {rest : List Nat} {a : Act} {cs : List Frame} {w : World} {o : Oper} {c : Call} (ho : ops[i]? = some o) (hg : o.guard = none) (hop : o.op = .call c) (hc : c.callee = .builtin .recover)
    (h : match recoverD cs with
      | some (v, cs') => wpOpsS P ops Q rest (a.put o.dst v) cs' w
      | none => wpOpsS P ops Q rest (a.put o.dst .nilIface) cs w) : wpOpsS P ops Q (i :: rest) a cs w := by
  simp only [wpOpsS, ho]
  rw [if_pos (by simp [Region.wanted, hg])]
  have e : (execOp a.eval o).run P w = .ok .recover w := by
    unfold execOp
    simp [hop, resolve, hc, invoke, builtin]
  rw [e]
  exact h
theorem opsS_assign {P : Program} {ops : Array Oper} {Q : Exit → Act → List Frame → World → Prop} {i : Nat} {rest : List Nat} {a : Act} {cs : List Frame} {w : World} {o : Oper} {x : Operand} (ho : ops[i]? = some o) (hg : o.guard = none) (hop : o.op = .assign x)
    (h : wpOpsS P ops Q rest (a.put o.dst (a.eval x)) cs w) : wpOpsS P ops Q (i :: rest) a cs w := by
  simp only [wpOpsS, ho]
  rw [if_pos (by simp [Region.wanted, hg])]
  have e : (execOp a.eval o).run P w = .ok (.value (a.eval x)) w := by
    unfold execOp
    simp [hop]
  rw [e]
  exact h
end Go.Sx
