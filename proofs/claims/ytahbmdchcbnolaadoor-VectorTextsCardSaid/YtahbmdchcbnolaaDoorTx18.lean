/- The engine of our walks, part 18 (with ghosts): calls of which nobody says how much is drawn: the frame's world counts as if nothing had been drawn. -/
import Derived.Test.YtahbmdchcbnolaaDoorTx17
namespace Go.Sx
open Go
def zero (w : World) : World := { w with drawn := 0 }
theorem zero_all {M : List Nat} {w : World} : ∀ f ∈ [(M, zero w)], f.2.drawn = 0 := fun f hf => by
  rw [List.mem_singleton] at hf
  subst hf
  rfl
theorem Rep.zero {w : World} {S : Nat → Prop} {x : Value} {d : D} (h : Rep w S x d) : Rep (zero w) S x d := h.mono fun _ hb _ => ⟨hb, rfl⟩
theorem Fr.zero {M : List Nat} {a b : World} (h : Fr M a b) : Fr M (zero a) b := ⟨h.os, h.tape, h.output, h.size, h.block, Nat.zero_le _⟩
section
variable {P : Program} {f : Func} [Pan f] {R : Act → World → Prop} {n : Nat} [Dfr n] {k : List Itm} {E : Env} {h r : List (Nat × Obj)} {F : List (List Nat × World)} {Y : Ghost}
theorem StF.zero {a : Act} {w : World} {fps : List (List Nat)} (s : StF n E h r F Y a w fps) (hz : ∀ f ∈ F, f.2.drawn = 0) : StF n E h r F Y a (Sx.zero w) fps :=
  ⟨s.ag, ⟨s.own.own, s.own.nodup, s.own.ro, s.own.apart⟩, fun f hf => ⟨(s.fr f hf).os, (s.fr f hf).tape, (s.fr f hf).output, (s.fr f hf).size, (s.fr f hf).block, by rw [hz f hf]; exact Nat.zero_le _⟩, s.may,
    ⟨s.gh.chs.mono (fun _ _ => rfl) (fun _ hb _ => ⟨hb, rfl⟩), s.gh.nodup, s.gh.disj, s.gh.apart, s.gh.may, s.gh.lt, s.gh.own, s.gh.hid, s.gh.top, fun x hx => (s.gh.g x hx).zero⟩⟩
/-- The frame's world counts as if nothing had been drawn. -/
theorem J_zero {M : List Nat} {w0 : World} (H : J P f R n k E h r [(M, zero w0)] Y) : J P f R n k E h r [(M, w0)] Y := fun a w ⟨fps, s⟩ =>
  H a w ⟨fps, s.ag, s.own, fun g hg => by
    rw [List.mem_singleton] at hg
    subst hg
    exact (s.fr (M, w0) (List.mem_singleton.2 rfl)).zero, fun g hg => by
    rw [List.mem_singleton] at hg
    subst hg
    exact s.may (M, w0) (List.mem_singleton.2 rfl), ⟨s.gh.chs, s.gh.nodup, s.gh.disj, s.gh.apart, fun g hg => by
      rw [List.mem_singleton] at hg
      subst hg
      exact s.gh.may (M, w0) (List.mem_singleton.2 rfl), s.gh.lt, s.gh.own, s.gh.hid, s.gh.top, s.gh.g⟩⟩
theorem JR_callz {S0 : Nat → Prop} {C0 : List Chunk} {G0 : List (Value × D)} {id L0 i : Nat} {ck : Bool} {Wp : List (Nat × List Nat)} {rest : List (Nat × Bool)} (hs : List Hn) (cs : List Nat) (fid : FuncId) (args : Array Value) (dst : Option Tmp)
    (hz : ∀ f ∈ F, f.2.drawn = 0) (he : chkC (callOf P n (rgOf f id) h r E i hs) = (some (fid, args, dst), trivC (callOf P n (rgOf f id) h r E i hs), 0)) (hok : (!ck || (Wp.lookup i).isSome || cs.isEmpty) = true) (hcs : cs.Nodup)
    (C : ∀ w S M, Pre w S M (pick C0 cs) → AllG w S G0 → (cs = [] → M = []) → Calls P fid args w fun e w' => ∃ v C' G', Ret M (zero w) S w' e v C' G' ∧
      JR P f R n (rgOf f id) L0 ck rest (Wp.filter (·.1 != i)) k (E.put dst (.val v)) h r F ⟨S0, restC C0 cs ++ C', G0 ++ G'⟩) :
    JR P f R n (rgOf f id) L0 ck ((i, false) :: rest) Wp k E h r F ⟨S0, C0, G0⟩ := by
  obtain ⟨p, he, hp⟩ := chkC_sound he
  intro B Hd fps a w s hH hR hN hW
  simp only [PW]
  refine callOf_sound he hp s ((C w (Sd ⟨S0, C0, G0⟩ h fps) (pick fps cs).flatten (Pre.of s hcs) s.gh.g (fun h => by rw [h]; simp [pick])).mono fun e w' hh => ?_)
  obtain ⟨v, C', G', hRet, H⟩ := hh
  have hf := hRet.fr
  refine ⟨v, hRet.ret, fun E' hE a' hA => ⟨fun hck b hb hl => ?_, ?_⟩⟩
  · refine hf.block b hb fun hm => ?_
    have hm2 := pick_flat_sub hm
    cases hWl : Wp.lookup i with
    | none =>
      rw [hWl, hck] at hok
      simp at hok
      subst hok
      simp [pick] at hm
    | some ps =>
      rw [lookup_idsW, hWl] at hl
      obtain ⟨h1, h2⟩ := hl _ rfl
      rcases hH b hm2 with h3 | h3
      · exact h2 (List.mem_append_right _ h3)
      · omega
  · subst hE
    rw [filter_idsW]
    obtain ⟨fps', h3, s'⟩ := (s.zero hz).called (cs := cs) hA hRet
    refine H B Hd _ a' w' s' (fun b hb => ?_) ⟨hR.old, hR.ro, hR.len, Nat.le_trans hR.size hf.size⟩ hN (okWp_filter hW)
    rw [List.flatten_append] at hb
    rcases List.mem_append.1 hb with hb | hb
    · exact hH b (pick_flat_sub hb)
    · rcases h3 b hb with h1 | h1
      · exact hH b (pick_flat_sub h1)
      · exact .inr (Nat.le_trans hR.size h1)
theorem JR_callzp {S0 : Nat → Prop} {C0 : List Chunk} {G0 : List (Value × D)} {id L0 i : Nat} {ck : Bool} {Wp : List (Nat × List Nat)} {rest : List (Nat × Bool)} (hs : List Hn) (fid : FuncId) (args : Array Value) (dst : Option Tmp)
    (hz : ∀ f ∈ F, f.2.drawn = 0) (he : chkC (callOf P n (rgOf f id) h r E i hs) = (some (fid, args, dst), trivC (callOf P n (rgOf f id) h r E i hs), 0))
    (C : ∀ w S, AllG w S G0 → Calls P fid args w fun e w' => ∃ v C' G', Ret [] (zero w) S w' e v C' G' ∧
      JR P f R n (rgOf f id) L0 ck rest (Wp.filter (·.1 != i)) k (E.put dst (.val v)) h r F ⟨S0, C0 ++ C', G0 ++ G'⟩) :
    JR P f R n (rgOf f id) L0 ck ((i, false) :: rest) Wp k E h r F ⟨S0, C0, G0⟩ := by
  refine JR_callz hs [] fid args dst hz he (by simp) (by simp) fun w S M _ hG hM => ?_
  obtain rfl := hM rfl
  refine (C w S hG).mono fun e w' ⟨v, C', G', hR, H⟩ => ⟨v, C', G', hR, ?_⟩
  have : pick C0 (others C0.length []) = C0 := by
    have h1 : others C0.length [] = List.range C0.length := by simp [others]
    rw [h1, pick_all]
  unfold restC
  rw [this]
  exact H
end
end Go.Sx
