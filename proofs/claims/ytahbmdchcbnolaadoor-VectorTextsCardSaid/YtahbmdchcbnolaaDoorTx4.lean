/- The engine of our walks, part 4 (with ghosts): a run along a plan; the skeleton of a body; the judgement J and its rules. -/
import Derived.Test.YtahbmdchcbnolaaDoorTx3
namespace Go.Sx
open Go

inductive Pl where
  | rd (i : Nat) (hs : List Hn) (m ov : Nat)
  | wr (i : Nat) (hs : List Hn) (m : Nat)
def Pl.key : Pl → Nat × Bool
  | .rd i _ _ _ => (i, true)
  | .wr i _ _ => (i, false)

def okR (L0 : Nat) (Wp : List (Nat × List Nat)) (hs : List Hn) : Bool :=
  Wp.isEmpty || hs.all fun hn => match hn with
    | .o i _ => Nat.blt i L0 && Wp.all (fun y => !y.2.contains i)
    | .r _ _ => true
def okW (L0 : Nat) (ps : Option (List Nat)) (wr : List Nat) : Bool := match ps with
  | none => wr.isEmpty
  | some ps => wr.all fun p => ps.contains p || Nat.ble L0 p

def run (P : Program) (n : Nat) (nu : Nat → Nat) (ops : Array Oper) (r : List (Nat × Obj)) (L0 : Nat) (ck : Bool) : List Pl → List (Nat × List Nat) → Env → XS → Option (Env × XS × List (Nat × List Nat) × List Ob)
  | [], Wp, E, x => some (E, x, Wp, [])
  | .rd i hs m ov :: pl, Wp, E, x => if !ck || okR L0 (Wp.filter fun y => !later ops i 3 y.1) hs then match stepR P n ops x.h r E i hs m ov with
    | some (E', p) => match run P n nu ops r L0 ck pl Wp E' x with
      | some (E2, x2, W2, q) => some (E2, x2, W2, p ++ q)
      | none => none
    | none => none
    else none
  | .wr i hs m :: pl, Wp, E, x => match stepW P n nu ops r E x i hs m with
    | some (E', x', p) => if !ck || okW L0 (Wp.lookup i) x'.wr then match run P n nu ops r L0 ck pl (Wp.filter (·.1 != i)) E' x' with
      | some (E2, x2, W2, q) => some (E2, x2, W2, p ++ q)
      | none => none
      else none
    | none => none

/-- Ids at the region's beginning lie below B. -/
structure RI (Hd : List Nat) (B L0 : Nat) (h r : List (Nat × Obj)) (w : World) : Prop where
  old : ∀ i : Nat, i < L0 → ∀ x, h[i]? = some x → x.1 < B ∧ x.1 ∉ Hd
  ro : ∀ x ∈ r, x.1 < B ∧ x.1 ∉ Hd
  len : L0 ≤ h.length
  size : B ≤ w.heap.size

/-- Hd: the blocks of what is hidden; whatever may write may write those. -/
def idsW (Hd : List Nat) (h : List (Nat × Obj)) (Wp : List (Nat × List Nat)) : List (Nat × List Nat) := Wp.map fun y => (y.1, (y.2.filterMap fun p => (h[p]?).map (·.1)) ++ Hd)
def okWp (L0 : Nat) (Wp : List (Nat × List Nat)) : Bool := Wp.all fun y => y.2.all fun p => Nat.blt p L0

theorem blt_lt {a b : Nat} (h : Nat.blt a b = true) : a < b := Nat.lt_of_succ_le (Nat.le_of_ble_eq_true h)

theorem RI.did {Hd : List Nat} {B L0 : Nat} {h h' r : List (Nat × Obj)} {w w' : World} {wr : List Nat} (H : RI Hd B L0 h r w) (d : Did h h' wr w w') : RI Hd B L0 h' r w' := by
  refine ⟨fun i hi x hx => ?_, H.ro, Nat.le_trans H.len d.len, Nat.le_trans H.size d.size⟩
  have := d.ids i (Nat.lt_of_lt_of_le hi H.len)
  rw [hx] at this
  cases hh : h[i]? with
  | none => rw [hh] at this; cases this
  | some y =>
    rw [hh] at this
    simp only [Option.map_some, Option.some.injEq] at this
    rw [this]
    exact H.old i hi y hh

theorem filterMap_same {α β : Type} (f g : α → Option β) : ∀ l : List α, (∀ x ∈ l, f x = g x) → l.filterMap f = l.filterMap g
  | [], _ => rfl
  | x :: l, h => by
    rw [List.filterMap_cons, List.filterMap_cons, h x (List.mem_cons_self ..), filterMap_same f g l fun y hy => h y (List.mem_cons_of_mem _ hy)]

theorem idsW_did {Hd : List Nat} {L0 : Nat} {h h' : List (Nat × Obj)} {w w' : World} {wr : List Nat} (hl : L0 ≤ h.length) (d : Did h h' wr w w') : ∀ (Wp : List (Nat × List Nat)), okWp L0 Wp = true → idsW Hd h' Wp = idsW Hd h Wp := by
  intro Wp hok
  unfold idsW
  refine List.map_congr_left fun y hy => ?_
  congr 2
  have h1 := List.all_eq_true.1 hok y hy
  exact filterMap_same _ _ _ fun p hp => d.ids p (Nat.lt_of_lt_of_le (blt_lt (List.all_eq_true.1 h1 p hp)) hl)

theorem okR_sound {Hd : List Nat} {B L0 : Nat} {h r : List (Nat × Obj)} {w : World} (H : Own h r w) (R : RI Hd B L0 h r w) {Wp : List (Nat × List Nat)} {hs : List Hn} (hok : okR L0 Wp hs = true) :
    ∀ y ∈ idsW Hd h Wp, ∀ x ∈ used h r hs, x.1 < B ∧ x.1 ∉ y.2 := by
  intro y hy x hx
  obtain ⟨z, hz, rfl⟩ := List.mem_map.1 hy
  simp only [okR, Bool.or_eq_true] at hok
  rcases hok with hok | hok
  · rw [List.isEmpty_iff] at hok
    rw [hok] at hz
    cases hz
  · obtain ⟨hn, hhn, hg⟩ := List.mem_filterMap.1 hx
    have h1 := List.all_eq_true.1 hok hn hhn
    cases hn with
    | o i v =>
      simp only [Bool.and_eq_true] at h1
      obtain ⟨hlt, hall⟩ := h1
      simp only [Hn.get] at hg
      have hlt := blt_lt hlt
      refine ⟨(R.old i hlt x hg).1, fun hm => ?_⟩
      replace hm := (List.mem_append.1 hm).resolve_right (R.old i hlt x hg).2
      obtain ⟨p, hp, hpe⟩ := List.mem_filterMap.1 hm
      have h2 := List.all_eq_true.1 hall z hz
      have hne : p ≠ i := by rintro rfl; simp [hp] at h2
      obtain ⟨u, hu, hux⟩ := Option.map_eq_some_iff.1 hpe
      have h3 : (h.map (·.1))[p]? = some x.1 := by simp [hu, hux]
      have h4 : (h.map (·.1))[i]? = some x.1 := by simp [hg]
      have hpl : p < (h.map (·.1)).length := (List.getElem?_eq_some_iff.1 h3).1
      exact hne ((List.getElem?_inj hpl H.nodup).1 (h3.trans h4.symm))
    | r i v =>
      simp only [Hn.get] at hg
      have hxr := List.mem_of_getElem? hg
      refine ⟨(R.ro x hxr).1, fun hm => H.apart x hxr ?_⟩
      replace hm := (List.mem_append.1 hm).resolve_right (R.ro x hxr).2
      obtain ⟨p, hp, hpe⟩ := List.mem_filterMap.1 hm
      obtain ⟨u, hu, hux⟩ := Option.map_eq_some_iff.1 hpe
      rw [← hux]
      exact List.mem_map.2 ⟨u, List.mem_of_getElem? hu, rfl⟩

theorem okR_later {Hd : List Nat} {B L0 : Nat} {h r : List (Nat × Obj)} {w : World} (p : Nat → Bool) (H : Own h r w) (R : RI Hd B L0 h r w) {Wp : List (Nat × List Nat)} {hs : List Hn} (hok : okR L0 (Wp.filter fun y => !p y.1) hs = true) :
    ∀ y ∈ idsW Hd h Wp, p y.1 = true ∨ ∀ x ∈ used h r hs, x.1 < B ∧ x.1 ∉ y.2 := by
  intro y hy
  cases hp : p y.1 with
  | true => exact .inl rfl
  | false =>
    obtain ⟨z, hz, rfl⟩ := List.mem_map.1 hy
    simp only at hp
    exact .inr (okR_sound H R hok _ (List.mem_map.2 ⟨z, List.mem_filter.2 ⟨hz, by simp [hp]⟩, rfl⟩))

theorem lookup_idsW (Hd : List Nat) (h : List (Nat × Obj)) (i : Nat) : ∀ Wp : List (Nat × List Nat), (idsW Hd h Wp).lookup i = (Wp.lookup i).map fun ps => (ps.filterMap fun p => (h[p]?).map (·.1)) ++ Hd
  | [] => rfl
  | (k, ps) :: Wp => by
    by_cases hk : i = k
    · subst hk; simp [idsW, List.lookup]
    · have : (i == k) = false := by simpa using hk
      have ih := lookup_idsW Hd h i Wp
      simp only [idsW, List.map_cons, List.lookup, this] at ih ⊢
      exact ih
theorem filter_idsW (Hd : List Nat) (h : List (Nat × Obj)) (i : Nat) : ∀ Wp : List (Nat × List Nat), (idsW Hd h Wp).filter (·.1 != i) = idsW Hd h (Wp.filter (·.1 != i)) := by
  intro Wp
  simp only [idsW, List.filter_map]
  rfl
theorem okWp_filter {L0 i : Nat} {Wp : List (Nat × List Nat)} (h : okWp L0 Wp = true) : okWp L0 (Wp.filter (·.1 != i)) = true := by
  refine List.all_eq_true.2 fun y hy => List.all_eq_true.1 h y ((List.mem_filter.1 hy).1)

theorem okW_sound {Hd : List Nat} {B L0 : Nat} {h h' : List (Nat × Obj)} {w w' : World} {wr : List Nat} (d : Did h h' wr w w') {Wp : List (Nat × List Nat)} {i : Nat} (hok : okW L0 (Wp.lookup i) wr = true) (hfresh : ∀ j : Nat, L0 ≤ j → ∀ x, h[j]? = some x → B ≤ x.1) :
    BG B ((idsW Hd h Wp).lookup i) w w' := by
  intro b hb hl
  rw [lookup_idsW] at hl
  cases hW : Wp.lookup i with
  | none =>
    rw [hW] at hok
    have : wr = [] := by simpa [okW, List.isEmpty_iff] using hok
    exact d.block b hb fun j hj => by rw [this] at hj; cases hj
  | some ps =>
    rw [hW] at hok hl
    obtain ⟨hbB, hbn⟩ := hl _ rfl
    refine d.block b hb fun j hj o ho => ?_
    have h1 := List.all_eq_true.1 hok j hj
    simp only [Bool.or_eq_true] at h1
    rcases h1 with h1 | h1
    · exact hbn (List.mem_append_left _ (List.mem_filterMap.2 ⟨j, by simpa using h1, by simp [ho]⟩))
    · have := hfresh j (Nat.le_of_ble_eq_true h1) _ ho
      simp only at this
      omega

/-- New blocks lie at or above B. -/
def New (B L0 : Nat) (h : List (Nat × Obj)) : Prop := ∀ j : Nat, L0 ≤ j → ∀ x, h[j]? = some x → B ≤ x.1
theorem New.did {B L0 : Nat} {h h' : List (Nat × Obj)} {w w' : World} {wr : List Nat} (H : New B L0 h) (hs : B ≤ w.heap.size) (d : Did h h' wr w w') : New B L0 h' := by
  intro j hj x hx
  rcases Nat.lt_or_ge j h.length with hl | hl
  · have := d.ids j hl
    rw [hx] at this
    cases hh : h[j]? with
    | none => rw [hh] at this; cases this
    | some y =>
      rw [hh] at this
      simp only [Option.map_some, Option.some.injEq] at this
      rw [this]
      exact H j hj y hh
  · exact Nat.le_trans hs (d.fresh j hl x hx)

/-- What a walk has turned at most: the blocks listed. -/
structure Dd (h h' : List (Nat × Obj)) (w w' : World) : Prop where
  os : w'.os = w.os
  tape : w'.tape = w.tape
  output : w'.output = w.output
  size : w.heap.size ≤ w'.heap.size
  block : ∀ b, b < w.heap.size → b ∉ h.map (·.1) → w'.heap[b]? = w.heap[b]?
  ids : ∀ i : Nat, i < h.length → (h'[i]?).map (·.1) = (h[i]?).map (·.1)
  len : h.length ≤ h'.length
  fresh : ∀ i : Nat, h.length ≤ i → ∀ x, h'[i]? = some x → w.heap.size ≤ x.1
  drawn : w.drawn ≤ w'.drawn

theorem Did.dd {h h' : List (Nat × Obj)} {w w' : World} {wr : List Nat} (d : Did h h' wr w w') : Dd h h' w w' :=
  ⟨d.os, d.tape, d.output, d.size, fun b hb hn => d.block b hb fun _ _ _ ho => hn (List.mem_map.2 ⟨_, List.mem_of_getElem? ho, rfl⟩), d.ids, d.len, d.fresh, d.drawn⟩
theorem Dd.refl (h : List (Nat × Obj)) (w : World) : Dd h h w w := (Did.refl h [] w).dd
theorem Dd.trans {h1 h2 h3 : List (Nat × Obj)} {a b c : World} (d : Dd h1 h2 a b) (e : Dd h2 h3 b c) : Dd h1 h3 a c := by
  have back : ∀ i x, h2[i]? = some x → i < h1.length → x.1 ∈ h1.map (·.1) := by
    intro i x hx hl
    have h := d.ids i hl
    rw [hx] at h
    cases h1i : h1[i]? with
    | none => rw [h1i] at h; cases h
    | some y =>
      rw [h1i] at h
      simp only [Option.map_some, Option.some.injEq] at h
      rw [h]
      exact List.mem_map.2 ⟨y, List.mem_of_getElem? h1i, rfl⟩
  refine ⟨e.os.trans d.os, e.tape.trans d.tape, e.output.trans d.output, Nat.le_trans d.size e.size, fun x hx hn => ?_, fun i hi => ?_, Nat.le_trans d.len e.len, fun i hi x hx => ?_, Nat.le_trans d.drawn e.drawn⟩
  · refine (e.block x (Nat.lt_of_lt_of_le hx d.size) fun hm => ?_).trans (d.block x hx hn)
    obtain ⟨y, hy, rfl⟩ := List.mem_map.1 hm
    obtain ⟨i, hi⟩ := List.getElem?_of_mem hy
    rcases Nat.lt_or_ge i h1.length with hl | hl
    · exact hn (back i y hi hl)
    · have := d.fresh i hl _ hi
      omega
  · rw [e.ids i (Nat.lt_of_lt_of_le hi d.len), d.ids i hi]
  · rcases Nat.lt_or_ge i h2.length with hl | hl
    · have h := e.ids i hl
      rw [hx] at h
      cases h2i : h2[i]? with
      | none => rw [h2i] at h; cases h
      | some y =>
        rw [h2i] at h
        simp only [Option.map_some, Option.some.injEq] at h
        rw [h]
        exact d.fresh i hi y h2i
    · exact Nat.le_trans d.size (e.fresh i hl x hx)

theorem run_PW {Hd : List Nat} {P : Program} {n : Nat} [Dfr n] {nu : Nat → Nat} {ops : Array Oper} {r : List (Nat × Obj)} {Q : Exit → Act → World → Prop} {B L0 : Nat} {ck : Bool} {rest : List (Nat × Bool)} :
    ∀ (pl : List Pl) (Wp : List (Nat × List Nat)) (E : Env) (x : XS) (E' : Env) (x' : XS) (Wp' : List (Nat × List Nat)) (p : List Ob), run P n nu ops r L0 ck pl Wp E x = some (E', x', Wp', p) → All p → okWp L0 Wp = true →
    ∀ a w, Ag n E a → Own x.h r w → Nu nu x.k w → RI Hd B L0 x.h r w → New B L0 x.h →
    (∀ a' w', Ag n E' a' → Own x'.h r w' → Nu nu x'.k w' → RI Hd B L0 x'.h r w' → New B L0 x'.h → Dd x.h x'.h w w' → okWp L0 Wp' = true → PW P ops Q B ck rest (idsW Hd x'.h Wp') a' w') →
    PW P ops Q B ck (pl.map Pl.key ++ rest) (idsW Hd x.h Wp) a w
  | [], Wp, E, x, E', x', Wp', p, he, _, hW, a, w, hA, hO, hN, hR, hF, K => by
    simp only [run, Option.some.injEq, Prod.mk.injEq] at he
    obtain ⟨rfl, rfl, rfl, rfl⟩ := he
    exact K a w hA hO hN hR hF (Dd.refl _ _) hW
  | .rd i hs m ov :: pl, Wp, E, x, E', x', Wp', p, he, hp, hW, a, w, hA, hO, hN, hR, hF, K => by
    simp only [run] at he
    split at he
    case isFalse => cases he
    rename_i hok
    split at he
    case h_2 => cases he
    rename_i E1 p1 h1
    split at he
    case h_2 => cases he
    rename_i E2 x2 W2 q h2
    simp only [Option.some.injEq, Prod.mk.injEq] at he
    obtain ⟨rfl, rfl, rfl, rfl⟩ := he
    obtain ⟨hp1, hp2⟩ := All_append hp
    obtain ⟨o, v, ho, hy, hA1⟩ := stepR_sound h1 hp1 hA
    have hus : Hp (used x.h r hs) w := fun y hy => by
      obtain ⟨hn, _, hg⟩ := List.mem_filterMap.1 hy
      exact hO.get hg
    exact ⟨o, v, used x.h r hs, ho, hy, hus, fun hck y hy => okR_later (fun j => later ops i 3 j) hO hR (by simpa [hck] using hok) y hy, run_PW pl Wp E1 x _ _ _ q h2 hp2 hW _ w hA1 hO hN hR hF K⟩
  | .wr i hs m :: pl, Wp, E, x, E', x', Wp', p, he, hp, hW, a, w, hA, hO, hN, hR, hF, K => by
    simp only [run] at he
    split at he
    case h_2 => cases he
    rename_i E1 x1 p1 h1
    split at he
    case isFalse => cases he
    rename_i hok
    split at he
    case h_2 => cases he
    rename_i E2 x2 W2 q h2
    simp only [Option.some.injEq, Prod.mk.injEq] at he
    obtain ⟨rfl, rfl, rfl, rfl⟩ := he
    obtain ⟨hp1, hp2⟩ := All_append hp
    simp only [List.map_cons, List.cons_append, Pl.key, PW]
    refine stepW_sound h1 hp1 hA hO hN fun a' w' hA1 hO1 hN1 d => ⟨fun hck => okW_sound d (by simpa [hck] using hok) hF, ?_⟩
    rw [filter_idsW, ← idsW_did hR.len d _ (okWp_filter hW)]
    exact run_PW pl _ E1 x1 _ _ _ q h2 hp2 (okWp_filter hW) a' w' hA1 hO1 hN1 (hR.did d) (hF.did hR.size d)
      fun a2 w2 b1 b2 b3 b4 b5 b6 b7 => K a2 w2 b1 b2 b3 b4 b5 (d.dd.trans b6) b7

/-! The skeleton of a body. -/
inductive Sk where
  | skip
  | rg (id : Nat) (draw : Bool)
  | seq (a b : Sk)
  | cond (c : Operand) (a b : Sk)
  | block (id : Nat) (b : Sk)
  | loop (b : Sk)
  | exit (id : Nat)
  | ret
def findRg (id : Nat) : Code → Option (Array Oper)
  | .region i ops _ => if Nat.beq i id then some ops else none
  | .seq a b => match findRg id a with
    | some x => some x
    | none => findRg id b
  | .cond _ a b => match findRg id a with
    | some x => some x
    | none => findRg id b
  | .block _ b => findRg id b
  | .loop b => findRg id b
  | .scope b => findRg id b
  | _ => none
def rgOf (f : Func) (id : Nat) : Array Oper := match f.body with
  | some c => (findRg id c).getD #[]
  | none => #[]
def Sk.code (f : Func) : Sk → Code
  | .skip => .skip
  | .rg id d => .region id (rgOf f id) d
  | .seq a b => .seq (a.code f) (b.code f)
  | .cond c a b => .cond c (a.code f) (b.code f)
  | .block id b => .block id (b.code f)
  | .loop b => .loop (b.code f)
  | .exit id => .exit id
  | .ret => .ret

inductive Itm where
  | c (s : Sk)
  | eb (id : Nat)
  | back (I : Nat → Act → World → Prop) (m : Nat)

def wpK (P : Program) (f : Func) [Pan f] (R : Act → World → Prop) : List Itm → Exit → Act → World → Prop
  | [], .normal, a, w => R a w
  | [], .ret, a, w => R a w
  | [], .panic c, a, w => Pan.pan f c a w
  | [], _, _, _ => False
  | .c s :: k, .normal, a, w => (s.code f).wp P (wpK P f R k) a w
  | .c _ :: k, e, a, w => wpK P f R k e a w
  | .eb id :: k, .exit id', a, w => if id' = id then wpK P f R k .normal a w else wpK P f R k (.exit id') a w
  | .eb _ :: k, e, a, w => wpK P f R k e a w
  | .back I m :: _, .normal, a, w => ∃ m', m' < m ∧ I m' a w
  | .back _ _ :: k, e, a, w => wpK P f R k e a w

theorem wpK_pan {P : Program} {f : Func} [Pan f] {R : Act → World → Prop} : ∀ (k : List Itm) (c : List PanicEntry) (a : Act) (w : World), wpK P f R k (.panic c) a w ↔ Pan.pan f c a w
  | [], _, _, _ => Iff.rfl
  | .c _ :: k, c, a, w => by simp only [wpK]; exact wpK_pan k c a w
  | .eb _ :: k, c, a, w => by simp only [wpK]; exact wpK_pan k c a w
  | .back _ _ :: k, c, a, w => by simp only [wpK]; exact wpK_pan k c a w
theorem wpK_pput {P : Program} {f : Func} [Pan f] {R : Act → World → Prop} {k : List Itm} {c : List PanicEntry} {a : Act} {d : Option Tmp} {v : Value} {w : World} (hd : pinFree f d = true) (h : wpK P f R k (.panic c) (a.put d v) w) : wpK P f R k (.panic c) a w :=
  (wpK_pan k c a w).2 (Pan.put c a d v w hd ((wpK_pan k c _ w).1 h))
theorem wpK_panic {P : Program} {f : Func} {R : Act → World → Prop} : ∀ (k : List Itm) (c : List PanicEntry) (a : Act) (w : World), ¬ wpK P f R k (.panic c) a w
  | [], _, _, _ => fun h => (show False from h)
  | .c _ :: k, c, a, w => by simp only [wpK]; exact wpK_panic k c a w
  | .eb _ :: k, c, a, w => by simp only [wpK]; exact wpK_panic k c a w
  | .back _ _ :: k, c, a, w => by simp only [wpK]; exact wpK_panic k c a w
theorem wpK_ret {P : Program} {f : Func} [Pan f] {R : Act → World → Prop} : ∀ (k : List Itm) (a : Act) (w : World), R a w → wpK P f R k .ret a w
  | [], _, _, h => h
  | .c _ :: k, a, w, h => by simp only [wpK]; exact wpK_ret k a w h
  | .eb _ :: k, a, w, h => by simp only [wpK]; exact wpK_ret k a w h
  | .back _ _ :: k, a, w, h => by simp only [wpK]; exact wpK_ret k a w h
def popTo (id : Nat) : List Itm → Option (List Itm)
  | [] => none
  | .eb i :: k => if Nat.beq i id then some k else popTo id k
  | _ :: k => popTo id k
theorem wpK_exit {P : Program} {f : Func} [Pan f] {R : Act → World → Prop} {id : Nat} : ∀ (k k' : List Itm) (a : Act) (w : World), popTo id k = some k' → wpK P f R k' .normal a w → wpK P f R k (.exit id) a w
  | [], _, _, _, h, _ => by cases h
  | .c _ :: k, k', a, w, h, hh => by simp only [wpK]; exact wpK_exit k k' a w h hh
  | .back _ _ :: k, k', a, w, h, hh => by simp only [wpK]; exact wpK_exit k k' a w h hh
  | .eb i :: k, k', a, w, h, hh => by
    simp only [popTo] at h
    split at h
    · rename_i he
      obtain rfl := Option.some.inj h
      have : id = i := (Nat.eq_of_beq_eq_true he).symm
      simp only [wpK]
      rw [if_pos this]
      exact hh
    · rename_i he
      have : id ≠ i := fun e => he (by rw [e]; exact Nat.beq_refl i)
      simp only [wpK]
      rw [if_neg this]
      exact wpK_exit k k' a w h hh

end Go.Sx
