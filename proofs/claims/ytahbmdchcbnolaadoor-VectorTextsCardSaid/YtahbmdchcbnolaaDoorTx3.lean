/- The engine of our walks, part 3: the frame as a list; operations; a run of a region along a plan. -/
import Derived.Test.YtahbmdchcbnolaaDoorTx2
namespace Go.Sx
open Go

inductive EV where
  | val (v : Value)
  | gd (c want : Bool) (v : Value)
def EV.now : EV → Value
  | .val v => v
  | .gd c want v => if (c == want) = true then v else undef
def EV.raw : EV → Value
  | .val v => v
  | .gd _ _ v => v
abbrev Env := List (Nat × EV)

/-- The calls that the frame has put off; what a panic out of it is to show. -/
class Dfr (n : Nat) where
  ds : List Deferred
instance (n : Nat) : Dfr n := ⟨[]⟩
def pins (f : Func) : List Nat := f.results.toList.filterMap fun
  | .cell a _ => some a
  | .tmp _ => none
def pinFree (f : Func) : Option Tmp → Bool
  | some d => !(pins f).contains d
  | none => true
class Pan (f : Func) where
  pan : List PanicEntry → Act → World → Prop
  put : ∀ c a d v w, pinFree f d = true → pan c (a.put d v) w → pan c a w
instance (f : Func) : Pan f := ⟨fun _ _ _ => False, fun _ _ _ _ _ _ h => h⟩
structure Ag (n : Nat) [Dfr n] (E : Env) (a : Act) : Prop where
  defers : a.defers = Dfr.ds n
  size : a.tmps.size = n
  look : ∀ t ev, E.lookup t = some ev → a.tmps[t]? = some ev.now

def Env.put (E : Env) (dst : Option Tmp) (ev : EV) : Env := match dst with
  | some d => (d, ev) :: E
  | none => E
def dstOk (n : Nat) : Option Tmp → Bool
  | some d => Nat.blt d n
  | none => true

theorem lookup_cons_self {α : Type} (k : Nat) (v : α) (l : List (Nat × α)) : ((k, v) :: l).lookup k = some v := by simp [List.lookup]
theorem lookup_cons_ne {α : Type} {j k : Nat} (v : α) (l : List (Nat × α)) (h : j ≠ k) : ((k, v) :: l).lookup j = l.lookup j := by
  have : (j == k) = false := by simpa using h
  simp [List.lookup, this]

theorem Ag.put {n : Nat} [Dfr n] {E : Env} {a : Act} (h : Ag n E a) {dst : Option Tmp} (hd : dstOk n dst = true) (ev : EV) : Ag n (E.put dst ev) (a.put dst ev.now) := by
  cases dst with
  | none => exact h
  | some d =>
    have hlt : d < n := Nat.lt_of_succ_le (Nat.le_of_ble_eq_true hd)
    refine ⟨h.defers, by simp [Act.put, h.size], fun t e he => ?_⟩
    simp only [Act.put, Env.put] at he ⊢
    by_cases ht : t = d
    · subst ht
      rw [lookup_cons_self] at he
      obtain rfl := Option.some.inj he
      simp [h.size, hlt]
    · rw [lookup_cons_ne _ _ ht] at he
      rw [Array.getElem?_setIfInBounds, if_neg (Ne.symm ht)]
      exact h.look t e he

theorem Ag.sub {n : Nat} [Dfr n] {E E' : Env} {a : Act} (h : Ag n E a) (hs : ∀ t ev, E'.lookup t = some ev → E.lookup t = some ev) : Ag n E' a :=
  ⟨h.defers, h.size, fun t ev he => h.look t ev (hs t ev he)⟩

/-- Of a frame's list what is kept. -/
def keepE (E : Env) : List Nat → Env
  | [] => []
  | t :: ts => match E.lookup t with
    | some ev => (t, ev) :: keepE E ts
    | none => keepE E ts
theorem keepE_sub (E : Env) : ∀ (ts : List Nat) (t : Nat) (ev : EV), (keepE E ts).lookup t = some ev → E.lookup t = some ev
  | [], t, ev, h => by simp [keepE] at h
  | u :: ts, t, ev, h => by
    simp only [keepE] at h
    split at h
    · rename_i e he
      by_cases htu : t = u
      · subst htu; rw [lookup_cons_self] at h; rw [he]; exact h
      · rw [lookup_cons_ne _ _ htu] at h; exact keepE_sub E ts t ev h
    · exact keepE_sub E ts t ev h

/-! Operands. -/
inductive O3 where
  | ok
  | need (p : Ob)
  | bad
def opOk (E : Env) (cd : Option (Bool × Bool)) : Operand → O3
  | .tmp t => match E.lookup t with
    | some (.val _) => .ok
    | some (.gd c want _) => match cd with
      | some (c', want') => if want == want' then .need (.bb c c') else .bad
      | none => .bad
    | none => .bad
  | _ => .ok
def opsOk (E : Env) (cd : Option (Bool × Bool)) : List Operand → Option (List Ob)
  | [] => some []
  | x :: xs => match opOk E cd x with
    | .ok => opsOk E cd xs
    | .need p => (opsOk E cd xs).map fun q => p :: q
    | .bad => none
def rho (E : Env) : Operand → Value
  | .tmp t => match E.lookup t with
    | some ev => ev.raw
    | none => undef
  | .const v => v
  | .global g => .pointer (some ⟨g, 0, none⟩)
  | .func f => .func (.func f) #[] #[]

theorem opsOk_sound {n : Nat} [Dfr n] {E : Env} {a : Act} (h : Ag n E a) {cd : Option (Bool × Bool)} (hcd : ∀ c w, cd = some (c, w) → c = w) : ∀ (xs : List Operand) (p : List Ob), opsOk E cd xs = some p → All p →
    ∀ x ∈ xs, a.eval x = rho E x
  | [], _, _, _, x, hx => by cases hx
  | y :: ys, p, hp, hq, x, hx => by
    simp only [opsOk] at hp
    have head : ∀ t ev, E.lookup t = some ev → ev.now = ev.raw → a.eval (.tmp t) = rho E (.tmp t) := fun t ev he hr => by
      simp [Act.eval, rho, he, h.look t ev he, hr]
    split at hp
    · rename_i hok
      rcases List.mem_cons.1 hx with rfl | hx
      · cases x with
        | tmp t =>
          simp only [opOk] at hok
          split at hok
          · rename_i v he; exact head t _ he rfl
          · split at hok
            · split at hok <;> cases hok
            · cases hok
          · cases hok
        | const v => rfl
        | global g => rfl
        | func f => rfl
      · exact opsOk_sound h hcd ys p hp hq x hx
    · rename_i q hok
      obtain ⟨q', hq', rfl⟩ := Option.map_eq_some_iff.1 hp
      rcases List.mem_cons.1 hx with rfl | hx
      · cases x with
        | tmp t =>
          simp only [opOk] at hok
          split at hok
          · cases hok
          · rename_i c want v he
            split at hok
            · rename_i c' want'
              split at hok
              · rename_i hww
                injection hok with hok
                subst hok
                have h1 : c = c' := hq.1
                have h2 := hcd c' want' rfl
                have h3 : want = want' := by simpa using hww
                exact head t _ he (by simp [EV.now, EV.raw, h1, h2, h3])
              · cases hok
            · cases hok
          · cases hok
        | const v => cases hok
        | global g => cases hok
        | func f => cases hok
      · exact opsOk_sound h hcd ys q' hq' hq.2 x hx
    · cases hp

/-! Reading operations. -/
/-- A bound, if it is given. -/
def bnd (ρ : Operand → Value) : Option Operand → Option (Option Int)
  | none => some none
  | some x => match ρ x with
    | .int _ i => some (some i)
    | _ => none
theorem bnd_none {ρ : Operand → Value} {x : Option Operand} (h : bnd ρ x = some none) : x = none := by
  cases x with
  | none => rfl
  | some y =>
    simp only [bnd] at h
    split at h <;> simp at h
theorem bnd_some {ρ : Operand → Value} {x : Option Operand} {i : Int} (h : bnd ρ x = some (some i)) : ∃ y k, x = some y ∧ ρ y = .int k i := by
  cases x with
  | none => simp [bnd] at h
  | some y =>
    simp only [bnd] at h
    split at h
    · rename_i k j hy
      simp only [Option.some.injEq] at h
      subst h
      exact ⟨y, k, rfl, hy⟩
    · cases h
/-- 'x[l:h]', of a slice or a string. full: is the lower bound the capacity? -/
def slx (P : Program) (ρ : Operand → Value) (full : Bool) : Op → Option (Value × List Ob)
  | .slice t x lo hi none => match bnd ρ lo, bnd ρ hi with
    | some l, some h => match ρ x with
      | .slice a len cap => match P.underlying t with
        | some (.slice e) => match P.info? e with
          | some inf => match l, h with
            | none, none => some (.slice a len cap, [])
            | none, some h => some (.slice a h.toNat cap, [.pp (0 ≤ h), .pp (h ≤ cap)])
            | some l, none => if full then some (.slice a 0 0, [.pp (l = cap), .pp (len = cap)]) else match a with
              | some ⟨b, off, none⟩ => some (.slice (some ⟨b, off + l.toNat * inf.size, none⟩) (len - l.toNat) (cap - l.toNat), [.pp (0 ≤ l), .pp (l ≤ len), .pp (l < cap)])
              | _ => none
            | some l, some h => match a with
              | some ⟨b, off, none⟩ => some (.slice (some ⟨b, off + l.toNat * inf.size, none⟩) (h.toNat - l.toNat) (cap - l.toNat), [.pp (0 ≤ l), .pp (l ≤ h), .pp (h ≤ cap), .pp (l < cap)])
              | _ => none
          | none => none
        | _ => none
      | .string s => match P.underlying t with
        | some .string => match l, h with
          | none, none => some (.string (s.extract 0 s.size), [])
          | none, some h => some (.string (s.extract 0 h.toNat), [.pp (0 ≤ h), .pp (h ≤ s.size)])
          | some l, none => some (.string (s.extract l.toNat s.size), [.pp (0 ≤ l), .pp (l ≤ s.size)])
          | some l, some h => some (.string (s.extract l.toNat h.toNat), [.pp (0 ≤ l), .pp (l ≤ h), .pp (h ≤ s.size)])
        | _ => none
      | _ => none
    | _, _ => none
  | _ => none
theorem addr_add (b off n : Nat) : (⟨b, off, none⟩ : Addr).add n = ⟨b, off + n, none⟩ := by
  unfold Addr.add
  split
  · rename_i h0; rw [h0]; rfl
  · rfl
theorem bound_run {P : Program} {k : IntKind} {i : Int} {y : Nat} {c : BoundsCode} {w : World} (h0 : 0 ≤ i) (h1 : i ≤ y) : (Instr.sliceBound (.int k i) y c).run P w = .ok i.toNat w := by
  simp [Instr.sliceBound, asIntOf, h0, h1]
theorem addr_zero (a : Addr) : a.add 0 = a := by simp [Addr.add]
theorem slx_sound {P : Program} {ρ : Operand → Value} {full : Bool} {o : Oper} {v : Value} {p : List Ob} (h : slx P ρ full o.op = some (v, p)) (hp : All p) (w : World) :
    (execOp ρ o).run P w = .ok (.value v) w := by
  unfold slx at h
  split at h
  case h_2 => cases h
  rename_i t x lo hi hop
  split at h
  case h_2 => cases h
  rename_i l hh hl hhh
  split at h
  · rename_i a len cap hx
    split at h
    case h_2 => cases h
    rename_i e hu
    split at h
    case h_2 => cases h
    rename_i inf hi'
    have hsz : (sizeOf e).run P w = .ok inf.size w := by simp [sizeOf, typeInfo, hi']
    split at h
    · obtain rfl := bnd_none hl
      obtain rfl := bnd_none hhh
      simp only [Option.some.injEq, Prod.mk.injEq] at h
      obtain ⟨rfl, rfl⟩ := h
      cases a <;> simp [execOp, hop, hx, Instr.sliceAt, Instr.slice, Instr.sliceBounds, run_underlying hu, hsz, addr_zero]
    · rename_i h'
      obtain rfl := bnd_none hl
      obtain ⟨y, k, rfl, hy⟩ := bnd_some hhh
      simp only [Option.some.injEq, Prod.mk.injEq] at h
      obtain ⟨rfl, rfl⟩ := h
      have h0 := hp.1
      have h1 := hp.2.1
      simp only [Ob.ok] at h0 h1
      cases a <;> simp [execOp, hop, hx, hy, Instr.sliceAt, Instr.slice, Instr.sliceBounds, run_underlying hu, hsz, bound_run h0 h1, addr_zero]
    · rename_i l'
      obtain rfl := bnd_none hhh
      obtain ⟨y, k, rfl, hy⟩ := bnd_some hl
      split at h
      · simp only [Option.some.injEq, Prod.mk.injEq] at h
        obtain ⟨rfl, rfl⟩ := h
        have h0 := hp.1
        have h1 := hp.2.1
        simp only [Ob.ok] at h0 h1
        subst h0 h1
        have hb : ∀ c, (Instr.sliceBound (.int k (len : Int)) len c).run P w = .ok len w := fun c => by rw [bound_run (by omega) (by omega)]; simp
        simp [execOp, hop, hx, hy, Instr.sliceAt, Instr.slice, Instr.sliceBounds, run_underlying hu, hsz, hb]
      · split at h
        case h_2 => cases h
        rename_i b off
        simp only [Option.some.injEq, Prod.mk.injEq] at h
        obtain ⟨rfl, rfl⟩ := h
        have h0 := hp.1
        have h1 := hp.2.1
        have h2 := hp.2.2.1
        simp only [Ob.ok] at h0 h1 h2
        have hne : ¬ cap = l'.toNat := by omega
        simp [execOp, hop, hx, hy, Instr.sliceAt, Instr.slice, Instr.sliceBounds, run_underlying hu, hsz, bound_run h0 h1, hne, addr_add]
    · rename_i l' h'
      obtain ⟨y, k, rfl, hy⟩ := bnd_some hl
      obtain ⟨y2, k2, rfl, hy2⟩ := bnd_some hhh
      split at h
      case h_2 => cases h
      rename_i b off
      simp only [Option.some.injEq, Prod.mk.injEq] at h
      obtain ⟨rfl, rfl⟩ := h
      have h0 := hp.1
      have h1 := hp.2.1
      have h2 := hp.2.2.1
      have h3 := hp.2.2.2.1
      simp only [Ob.ok] at h0 h1 h2 h3
      have hne : ¬ cap = l'.toNat := by omega
      have h4 : l' ≤ (h'.toNat : Int) := by omega
      simp [execOp, hop, hx, hy, hy2, Instr.sliceAt, Instr.slice, Instr.sliceBounds, run_underlying hu, hsz, bound_run (show 0 ≤ h' by omega) h2, bound_run h0 h4, hne, addr_add]
  · rename_i s hx
    split at h
    case h_2 => cases h
    rename_i hu
    split at h
    · obtain rfl := bnd_none hl
      obtain rfl := bnd_none hhh
      simp only [Option.some.injEq, Prod.mk.injEq] at h
      obtain ⟨rfl, rfl⟩ := h
      simp [execOp, hop, hx, Instr.sliceAt, Instr.slice, Instr.sliceBounds, run_underlying hu]
    · rename_i h'
      obtain rfl := bnd_none hl
      obtain ⟨y, k, rfl, hy⟩ := bnd_some hhh
      simp only [Option.some.injEq, Prod.mk.injEq] at h
      obtain ⟨rfl, rfl⟩ := h
      have h0 := hp.1
      have h1 := hp.2.1
      simp only [Ob.ok] at h0 h1
      simp [execOp, hop, hx, hy, Instr.sliceAt, Instr.slice, Instr.sliceBounds, run_underlying hu, bound_run h0 h1]
    · rename_i l'
      obtain rfl := bnd_none hhh
      obtain ⟨y, k, rfl, hy⟩ := bnd_some hl
      simp only [Option.some.injEq, Prod.mk.injEq] at h
      obtain ⟨rfl, rfl⟩ := h
      have h0 := hp.1
      have h1 := hp.2.1
      simp only [Ob.ok] at h0 h1
      simp [execOp, hop, hx, hy, Instr.sliceAt, Instr.slice, Instr.sliceBounds, run_underlying hu, bound_run h0 h1]
    · rename_i l' h'
      obtain ⟨y, k, rfl, hy⟩ := bnd_some hl
      obtain ⟨y2, k2, rfl, hy2⟩ := bnd_some hhh
      simp only [Option.some.injEq, Prod.mk.injEq] at h
      obtain ⟨rfl, rfl⟩ := h
      have h0 := hp.1
      have h1 := hp.2.1
      have h2 := hp.2.2.1
      simp only [Ob.ok] at h0 h1 h2
      have h4 : l' ≤ (h'.toNat : Int) := by omega
      simp [execOp, hop, hx, hy, hy2, Instr.sliceAt, Instr.slice, Instr.sliceBounds, run_underlying hu, bound_run (show 0 ≤ h' by omega) h2, bound_run h0 h4]
  · cases h
/-- A comparison whose outcome is proved apart. -/
def eqRun (P : Program) (op : BinOp) (t : TypeId) (x y : Operand) (a b v : Value) : Prop := ∀ w, (eqGuard op t x y a b).run P w = .ok () w ∧ (binOp op t a b).run P w = .ok v w
/-- Operations whose outcome is told beside the model's own run (ov: which). -/
def opx (P : Program) (ρ : Operand → Value) (o : Oper) (ov : Nat) (hs : List Hn) : Option (Value × List Ob) :=
  match ov with
  | 1 => match o.op with
    | .binOp op _ x y _ => match ρ x, ρ y with
      | .int k a, .int k' b => if k = k' then match op with
        | .add => some (.int k (a + b), [.pp (k.wrap (a + b) = a + b)])
        | .sub => some (.int k (a - b), [.pp (k.wrap (a - b) = a - b)])
        | .mul => some (.int k (a * b), [.pp (k.wrap (a * b) = a * b)])
        | _ => none
        else none
      | _, _ => none
    | _ => none
  | 2 => match o.op with
    | .indexAddr t x ix => match ρ x, ρ ix with
      | .slice (some ⟨b, off, none⟩) len _, .int _ i => match P.underlying t with
        | some (.slice e) => match P.info? e with
          | some inf => some (.pointer (some ⟨b, off + i.toNat * inf.size, none⟩), [.pp (0 ≤ i), .pp (i < len)])
          | none => none
        | _ => none
      | _, _ => none
    | _ => none
  | 4 => slx P ρ false o.op
  | 5 => slx P ρ true o.op
  | 6 => match exr P [] [] (execOp ρ o) [] with
    | some (.value (.bool b), p) => some (.bool true, p ++ [.pp (b = true)])
    | _ => none
  | 7 => match exr P [] [] (execOp ρ o) [] with
    | some (.value (.bool b), p) => some (.bool false, p ++ [.pp (b = false)])
    | _ => none
  | 9 => match hs with
    | .r _ (some v) :: _ => some (v, [.pp (∀ w, (execOp ρ o).run P w = .ok (.value v) w)])
    | _ => none
  | 10 => match hs with
    | .r _ (some v) :: _ => match o.op with
      | .binOp op t x y _ => some (v, [.pp (eqRun P op t x y (ρ x) (ρ y) v)])
      | _ => none
    | _ => none
  | _ => none

theorem opx_sound {P : Program} {ρ : Operand → Value} {o : Oper} {ov : Nat} {hs : List Hn} {v : Value} {p : List Ob} (h : opx P ρ o ov hs = some (v, p)) (hp : All p) (w : World) :
    (execOp ρ o).run P w = .ok (.value v) w := by
  unfold opx at h
  split at h
  · split at h
    · rename_i op t x y yt hop
      split at h
      · rename_i k a k' b hx hy
        split at h
        · rename_i hk
          subst hk
          split at h <;> first
            | (simp only [Option.some.injEq, Prod.mk.injEq] at h
               obtain ⟨rfl, rfl⟩ := h
               have h0 := hp.1
               simp only [Ob.ok] at h0
               simp [execOp, hop, hx, hy, eqGuard, binOp, Op.intArith, h0, bind, Sem.bind, pure])
            | cases h
        · cases h
      · cases h
    · cases h
  · split at h
    · rename_i t x ix hop
      split at h
      · rename_i b off len cap k i hx hix
        split at h
        · rename_i e hu
          split at h
          · rename_i inf hi
            simp only [Option.some.injEq, Prod.mk.injEq] at h
            obtain ⟨rfl, rfl⟩ := h
            have hadd : (⟨b, off, none⟩ : Addr).add (i.toNat * inf.size) = ⟨b, off + i.toNat * inf.size, none⟩ := by
              unfold Addr.add
              split
              · rename_i h0; rw [h0]; rfl
              · rfl
            have h0 := hp.1
            have h1 := hp.2.1
            simp only [Ob.ok] at h0 h1
            simp [execOp, hop, hx, hix, Instr.indexAt, asIntOf, run_underlying hu, sizeOf, typeInfo, hi, h0, h1, hadd]
          · cases h
        · cases h
      · cases h
    · cases h
  · exact slx_sound h hp w
  · exact slx_sound h hp w
  all_goals first
    | (split at h
       · rename_i b q hb
         simp only [Option.some.injEq, Prod.mk.injEq] at h
         obtain ⟨rfl, rfl⟩ := h
         obtain ⟨hp1, hp2⟩ := All_append hp
         have h3 := hp2.1
         simp only [Ob.ok] at h3
         subst h3
         exact exr_sound _ _ _ _ hb hp1 w (by simp [used])
       · cases h)
    | skip
  · split at h
    · simp only [Option.some.injEq, Prod.mk.injEq] at h
      obtain ⟨rfl, rfl⟩ := h
      exact hp.1 w
    · cases h
  · split at h
    · split at h
      · rename_i op t x y yt hop
        simp only [Option.some.injEq, Prod.mk.injEq] at h
        obtain ⟨rfl, rfl⟩ := h
        have h0 := hp.1
        simp only [Ob.ok] at h0
        obtain ⟨h1, h2⟩ := h0 w
        simp only [execOp, hop, Sem.run_bind, Sem.run_pure, Result.andThen_ok, h1, h2]
      · cases h
    · cases h
  · cases h

def rd (P : Program) (ρ : Operand → Value) (o : Oper) (ov : Nat) (h r : List (Nat × Obj)) (hs : List Hn) : Option (Value × List Ob) :=
  match ov with
  | 0 => match exr P h r (execOp ρ o) hs with
    | some (.value v, p) => some (v, p)
    | _ => none
  | _ => opx P ρ o ov hs

theorem rd_sound {P : Program} {ρ : Operand → Value} {o : Oper} {ov : Nat} {h r : List (Nat × Obj)} {hs : List Hn} {v : Value} {p : List Ob} (he : rd P ρ o ov h r hs = some (v, p)) (hp : All p)
    (w : World) (hw : Hp (used h r hs) w) : (execOp ρ o).run P w = .ok (.value v) w := by
  unfold rd at he
  split at he
  · split at he
    · rename_i v' p' hx
      simp only [Option.some.injEq, Prod.mk.injEq] at he
      obtain ⟨rfl, rfl⟩ := he
      exact exr_sound _ hs _ _ hx hp w hw
    · cases he
  · exact opx_sound he hp w

def isSel : Op → Bool
  | .select .. => true
  | _ => false

/-- The guard's Bool, as the frame has it. -/
def guardOf (E : Env) (ops : Array Oper) (j : Nat) : Option Bool := match ops[j]? with
  | some oj => match oj.dst with
    | some d => match E.lookup d with
      | some (.val (.bool c)) => some c
      | _ => none
    | none => none
  | none => none
theorem guardOf_sound {n : Nat} [Dfr n] {E : Env} {a : Act} (h : Ag n E a) {ops : Array Oper} {j : Nat} {c : Bool} (hg : guardOf E ops j = some c) : yielded ops a.tmps j = some c := by
  unfold guardOf at hg
  split at hg
  · rename_i oj hj
    split at hg
    · rename_i d hd
      split at hg
      · rename_i c' he
        obtain rfl := Option.some.inj hg
        have := h.look d _ he
        simp [yielded, hj, hd, this, EV.now]
      · cases hg
    · cases hg
  · cases hg

/-- The guard's operation was itself passed over. -/
def undefAt (E : Env) (ops : Array Oper) (j : Nat) : Bool := match ops[j]? with
  | some oj => match oj.dst with
    | some d => match E.lookup d with
      | some (.val (.tuple c)) => c.isEmpty
      | _ => false
    | none => false
  | none => false
theorem undefAt_sound {n : Nat} [Dfr n] {E : Env} {a : Act} (h : Ag n E a) {ops : Array Oper} {j : Nat} (hu : undefAt E ops j = true) : yielded ops a.tmps j = none := by
  unfold undefAt at hu
  split at hu
  · rename_i oj hj
    split at hu
    · rename_i d hd
      split at hu
      · rename_i c he
        have := h.look d _ he
        simp [yielded, hj, hd, this, EV.now]
      · cases hu
    · cases hu
  · cases hu

/-- 'c || b', 'c && b' where b's operand was reckoned under the guard. -/
def pick3 (E : Env) : Op → Option (Value × List Ob)
  | .pick (.tmp tc) (.const (.bool true)) (.tmp tb) => match E.lookup tc, E.lookup tb with
    | some (.val (.bool c)), some (.gd c' false (.bool b)) => some (.bool (c || b), [.bb c' c])
    | _, _ => none
  | .pick (.tmp tc) (.tmp ta) (.const (.bool false)) => match E.lookup tc, E.lookup ta with
    | some (.val (.bool c)), some (.gd c' true (.bool b)) => some (.bool (c && b), [.bb c' c])
    | _, _ => none
  | _ => none
theorem pick3_sound {P : Program} {n : Nat} [Dfr n] {E : Env} {a : Act} (h : Ag n E a) {o : Oper} {v : Value} {p : List Ob} (he : pick3 E o.op = some (v, p)) (hp : All p) (w : World) : (execOp a.eval o).run P w = .ok (.value v) w := by
  unfold pick3 at he
  split at he
  · rename_i tc tb hop
    split at he
    · rename_i c c' b h1 h2
      simp only [Option.some.injEq, Prod.mk.injEq] at he
      obtain ⟨rfl, rfl⟩ := he
      obtain rfl : c' = c := hp.1
      have e1 := h.look _ _ h1
      have e2 := h.look _ _ h2
      cases c' <;> simp [execOp, hop, Act.eval, e1, e2, EV.now, asBool]
    · cases he
  · rename_i tc ta hop
    split at he
    · rename_i c c' b h1 h2
      simp only [Option.some.injEq, Prod.mk.injEq] at he
      obtain ⟨rfl, rfl⟩ := he
      obtain rfl : c' = c := hp.1
      have e1 := h.look _ _ h1
      have e2 := h.look _ _ h2
      cases c' <;> simp [execOp, hop, Act.eval, e1, e2, EV.now, asBool]
    · cases he
  · cases he

def doR (P : Program) (E : Env) (o : Oper) (cd : Option (Bool × Bool)) (ov : Nat) (h r : List (Nat × Obj)) (hs : List Hn) : Option (Value × List Ob) :=
  if isSel o.op then none else match ov with
  | 3 => pick3 E o.op
  | _ => match opsOk E cd o.op.operands.toList with
    | some q => match rd P (rho E) o ov h r hs with
      | some (v, p) => some (v, q ++ p)
      | none => none
    | none => none
theorem doR_sound {P : Program} {n : Nat} [Dfr n] {E : Env} {a : Act} (hA : Ag n E a) {o : Oper} {cd : Option (Bool × Bool)} (hcd : ∀ c w, cd = some (c, w) → c = w) {ov : Nat} {h r : List (Nat × Obj)} {hs : List Hn} {v : Value} {p : List Ob}
    (he : doR P E o cd ov h r hs = some (v, p)) (hp : All p) (w : World) (hw : Hp (used h r hs) w) : (execOp a.eval o).run P w = .ok (.value v) w := by
  unfold doR at he
  split at he
  · cases he
  rename_i hsel
  split at he
  · exact pick3_sound hA he hp w
  · split at he
    · rename_i q hq
      split at he
      · rename_i v' p' hrd
        simp only [Option.some.injEq, Prod.mk.injEq] at he
        obtain ⟨rfl, rfl⟩ := he
        rw [execOp_congr (ρ' := rho E) o (fun cs b hc => by rw [hc] at hsel; exact hsel rfl) (fun x hx => opsOk_sound hA hcd _ _ hq (All_append hp).1 x (by simpa using hx))]
        exact rd_sound hrd (All_append hp).2 w hw
      · cases he
    · cases he

/-- One reading operation. m: 0 it runs; 1 its guard shuts it out; 2 it may run. -/
def stepR (P : Program) (n : Nat) (ops : Array Oper) (h r : List (Nat × Obj)) (E : Env) (i : Nat) (hs : List Hn) (m ov : Nat) : Option (Env × List Ob) :=
  match ops[i]? with
  | none => none
  | some o => if dstOk n o.dst then match o.guard with
    | none => match doR P E o none ov h r hs with
      | some (v, p) => some (E.put o.dst (.val v), p)
      | none => none
    | some (j, want) => match guardOf E ops j with
      | none => if undefAt E ops j then some (E.put o.dst (.val undef), []) else none
      | some c => match m with
        | 0 => match doR P E o (some (c, want)) ov h r hs with
          | some (v, p) => some (E.put o.dst (.val v), .bb c want :: p)
          | none => none
        | 1 => some (E.put o.dst (.val undef), [.bb c (!want)])
        | _ => match doR P E o (some (c, want)) ov h r hs with
          | some (v, p) => some (E.put o.dst (.gd c want v), p.map (Ob.under c want))
          | none => none
    else none

theorem stepR_sound {P : Program} {n : Nat} [Dfr n] {ops : Array Oper} {h r : List (Nat × Obj)} {E E' : Env} {i : Nat} {hs : List Hn} {m ov : Nat} {p : List Ob} (he : stepR P n ops h r E i hs m ov = some (E', p)) (hp : All p)
    {a : Act} (hA : Ag n E a) : ∃ o v, ops[i]? = some o ∧ YieldsIf P ops (Hp (used h r hs)) o v a ∧ Ag n E' (a.put o.dst v) := by
  unfold stepR at he
  split at he
  · cases he
  rename_i o ho
  split at he
  case isFalse => cases he
  rename_i hd
  split at he
  · rename_i hg
    split at he
    · rename_i v p' hx
      simp only [Option.some.injEq, Prod.mk.injEq] at he
      obtain ⟨rfl, rfl⟩ := he
      exact ⟨o, v, ho, .inl ⟨by simp [Region.wanted, hg], fun w hw => doR_sound hA (fun c w h => by cases h) hx hp w hw⟩, hA.put hd (.val v)⟩
    · cases he
  · rename_i j want hg
    split at he
    · split at he
      · rename_i hu
        simp only [Option.some.injEq, Prod.mk.injEq] at he
        obtain ⟨rfl, rfl⟩ := he
        exact ⟨o, undef, ho, .inr ⟨by simp [Region.wanted, hg, undefAt_sound hA hu], rfl⟩, hA.put hd (.val undef)⟩
      · cases he
    rename_i c hc
    have hy := guardOf_sound hA hc
    split at he
    · split at he
      · rename_i v p' hx
        simp only [Option.some.injEq, Prod.mk.injEq] at he
        obtain ⟨rfl, rfl⟩ := he
        obtain ⟨hcw, hp⟩ := hp
        simp only [Ob.ok] at hcw
        exact ⟨o, v, ho, .inl ⟨by simp [Region.wanted, hg, hy, hcw], fun w hw => doR_sound hA (fun c' w h => by injection h with h; injection h with h1 h2; rw [← h1, ← h2]; exact hcw) hx hp w hw⟩, hA.put hd (.val v)⟩
      · cases he
    · simp only [Option.some.injEq, Prod.mk.injEq] at he
      obtain ⟨rfl, rfl⟩ := he
      have hne : c ≠ want := by have h0 : c = !want := hp.1; subst h0; cases want <;> simp
      exact ⟨o, undef, ho, .inr ⟨by simp [Region.wanted, hg, hy, hne], rfl⟩, hA.put hd (.val undef)⟩
    · split at he
      · rename_i v p' hx
        simp only [Option.some.injEq, Prod.mk.injEq] at he
        obtain ⟨rfl, rfl⟩ := he
        refine ⟨o, (EV.gd c want v).now, ho, ?_, hA.put hd (.gd c want v)⟩
        by_cases hcw : c = want
        · refine .inl ⟨by simp [Region.wanted, hg, hy, hcw], fun w hw => ?_⟩
          have := doR_sound hA (fun c' w h => by injection h with h; injection h with h1 h2; rw [← h1, ← h2]; exact hcw) hx (All_under hcw hp) w hw
          rw [this]
          simp [EV.now, hcw]
        · exact .inr ⟨by simp [Region.wanted, hg, hy, hcw], by simp [EV.now, hcw]⟩
      · cases he

/-! Writing operations. -/
def doW (P : Program) (nu : Nat → Nat) (E : Env) (o : Oper) (cd : Option (Bool × Bool)) (r : List (Nat × Obj)) (hs : List Hn) (x : XS) : Option (Value × XS × List Ob) :=
  if isSel o.op then none else match opsOk E cd o.op.operands.toList with
    | some q => match ex P nu r (execOp (rho E) o) hs { x with wr := [] } with
      | some (.value v, x', p) => some (v, x', q ++ p)
      | some (.skip, x', p) => some (undef, x', q ++ p)
      | _ => none
    | none => none

theorem doW_sound {P : Program} {nu : Nat → Nat} {n : Nat} [Dfr n] {E : Env} {a : Act} (hA : Ag n E a) {o : Oper} {cd : Option (Bool × Bool)} (hcd : ∀ c w, cd = some (c, w) → c = w) {r : List (Nat × Obj)} {hs : List Hn} {x x' : XS} {v : Value} {p : List Ob}
    (he : doW P nu E o cd r hs x = some (v, x', p)) (hp : All p) {w : World} (hw : Own x.h r w) (hn : Nu nu x.k w) {K : Act → World → Prop} {Q : Exit → Act → World → Prop}
    (h : ∀ w', Own x'.h r w' → Nu nu x'.k w' → Did x.h x'.h x'.wr w w' → K (a.put o.dst v) w') : o.wp P a w K Q := by
  unfold doW at he
  split at he
  · cases he
  rename_i hsel
  split at he
  case h_2 => cases he
  rename_i q hq
  have hcongr : All q → execOp a.eval o = execOp (rho E) o := fun hq' => execOp_congr o (fun cs b hc => by rw [hc] at hsel; exact hsel rfl) (fun x hx => opsOk_sound hA hcd _ _ hq hq' x (by simpa using hx))
  split at he
  · rename_i v' x'' p' hx
    simp only [Option.some.injEq, Prod.mk.injEq] at he
    obtain ⟨rfl, rfl, rfl⟩ := he
    obtain ⟨_, w', hrun, ho, hn', hd⟩ := ex_sound _ hs _ _ _ _ hx (All_append hp).2 w hw hn
    unfold Oper.wp
    rw [hcongr (All_append hp).1, hrun]
    exact h w' ho hn' hd
  · rename_i x'' p' hx
    simp only [Option.some.injEq, Prod.mk.injEq] at he
    obtain ⟨rfl, rfl, rfl⟩ := he
    obtain ⟨_, w', hrun, ho, hn', hd⟩ := ex_sound _ hs _ _ _ _ hx (All_append hp).2 w hw hn
    unfold Oper.wp
    rw [hcongr (All_append hp).1, hrun]
    exact h w' ho hn' hd
  · cases he

def stepW (P : Program) (n : Nat) (nu : Nat → Nat) (ops : Array Oper) (r : List (Nat × Obj)) (E : Env) (x : XS) (i : Nat) (hs : List Hn) (m : Nat) : Option (Env × XS × List Ob) :=
  match ops[i]? with
  | none => none
  | some o => if dstOk n o.dst then match o.guard with
    | none => match doW P nu E o none r hs x with
      | some (v, x', p) => some (E.put o.dst (.val v), x', p)
      | none => none
    | some (j, want) => match guardOf E ops j with
      | none => if undefAt E ops j then some (E.put o.dst (.val undef), { x with wr := [] }, []) else none
      | some c => match m with
        | 0 => match doW P nu E o (some (c, want)) r hs x with
          | some (v, x', p) => some (E.put o.dst (.val v), x', .bb c want :: p)
          | none => none
        | _ => some (E.put o.dst (.val undef), { x with wr := [] }, [.bb c (!want)])
    else none

theorem stepW_sound {P : Program} {nu : Nat → Nat} {n : Nat} [Dfr n] {ops : Array Oper} {r : List (Nat × Obj)} {E E' : Env} {x x' : XS} {i : Nat} {hs : List Hn} {m : Nat} {p : List Ob} (he : stepW P n nu ops r E x i hs m = some (E', x', p)) (hp : All p)
    {a : Act} (hA : Ag n E a) {w : World} (hw : Own x.h r w) (hn : Nu nu x.k w) {K : Act → World → Prop} {Q : Exit → Act → World → Prop}
    (h : ∀ a' w', Ag n E' a' → Own x'.h r w' → Nu nu x'.k w' → Did x.h x'.h x'.wr w w' → K a' w') : wpOp P ops Q i K a w := by
  unfold stepW at he
  split at he
  · cases he
  rename_i o ho
  split at he
  case isFalse => cases he
  rename_i hd
  unfold wpOp
  simp only [ho]
  split at he
  · rename_i hg
    split at he
    · rename_i v x'' p' hx
      simp only [Option.some.injEq, Prod.mk.injEq] at he
      obtain ⟨rfl, rfl, rfl⟩ := he
      rw [if_pos (by simp [Region.wanted, hg])]
      exact .inl (doW_sound hA (fun c w h => by cases h) hx hp hw hn fun w' h1 h2 h3 => h _ w' (hA.put hd (.val v)) h1 h2 h3)
    · cases he
  · rename_i j want hg
    split at he
    · split at he
      · rename_i hu
        simp only [Option.some.injEq, Prod.mk.injEq] at he
        obtain ⟨rfl, rfl, rfl⟩ := he
        rw [if_neg (by simp [Region.wanted, hg, undefAt_sound hA hu])]
        exact h _ w (hA.put hd (.val undef)) hw hn (Did.refl _ _ _)
      · cases he
    rename_i c hc
    have hy := guardOf_sound hA hc
    split at he
    · split at he
      · rename_i v x'' p' hx
        simp only [Option.some.injEq, Prod.mk.injEq] at he
        obtain ⟨rfl, rfl, rfl⟩ := he
        obtain ⟨hcw, hp⟩ := hp
        simp only [Ob.ok] at hcw
        rw [if_pos (by simp [Region.wanted, hg, hy, hcw])]
        exact .inl (doW_sound hA (fun c' w h => by injection h with h; injection h with h1 h2; rw [← h1, ← h2]; exact hcw) hx hp hw hn fun w' h1 h2 h3 => h _ w' (hA.put hd (.val v)) h1 h2 h3)
      · cases he
    · simp only [Option.some.injEq, Prod.mk.injEq] at he
      obtain ⟨rfl, rfl, rfl⟩ := he
      have hne : c ≠ want := by have h0 : c = !want := hp.1; subst h0; cases want <;> simp
      rw [if_neg (by simp [Region.wanted, hg, hy, hne])]
      exact h _ w (hA.put hd (.val undef)) hw hn (Did.refl _ _ _)
end Go.Sx
