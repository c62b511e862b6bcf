/- VectorAhead, walked: all ways. -/
import Derived.Test.YtibkfmobofikmaaDoorVAhA
import Derived.Test.YtibkfmobofikmaaDoorVAhB
import Derived.Test.YtibkfmobofikmaaDoorVAhC
import Derived.Test.YtibkfmobofikmaaDoorVAhD
namespace Go.Proofs.YtibkfmobofikmaaDoor
open Go Go.Sx

theorem vaheadlaw {w : World} {S : Nat → Prop} {er : Nat → Addr} {eb : Nat → Array Value × TypeId} {a b : Option Addr} {n m ca cb : Nat} {xs ys : List Int} {p q : Int} (hC : Rep w S .nilIface (dC er eb)) (hI : Inj er) (ha : Rep w S (.slice a n ca) (dInts xs)) (hb : Rep w S (.slice b m cb) (dInts ys)) :
    Calls Tryd.prog 6 #[.slice a n ca, .int .i64 p, .slice b m cb, .int .i64 q] w fun e w' => Ret [] w S w' e (.bool true) [] [] := by
  by_cases hab : twoErr xs ys = 0
  · by_cases hbnd : p < 0 ∨ xs.length ≤ p ∨ q < 0 ∨ xs.length ≤ q
    · exact vaheadB1 hC hI ha hb hab hbnd
    · have hxy := (twoErr_fine hab).2.2
      obtain ⟨hp0, hp1, hq0, hq1⟩ : 0 ≤ p ∧ p < xs.length ∧ 0 ≤ q ∧ q < xs.length := by omega
      obtain ⟨x, hx⟩ : ∃ x, xs[p.toNat]? = some x := ⟨_, List.getElem?_eq_getElem (by omega)⟩
      obtain ⟨y, hy⟩ : ∃ y, ys[p.toNat]? = some y := ⟨_, List.getElem?_eq_getElem (by omega)⟩
      obtain h1 | h1 | ⟨h1, h2⟩ | ⟨h1, h2⟩ | ⟨h1, h2, h3⟩ | ⟨h1, h2, h3⟩ | ⟨h1, h2, h3⟩ : sumL xs < sumL ys ∨ sumL ys < sumL xs ∨ (sumL xs = sumL ys ∧ p < q) ∨ (sumL xs = sumL ys ∧ q < p) ∨ (sumL xs = sumL ys ∧ p = q ∧ x < y) ∨ (sumL xs = sumL ys ∧ p = q ∧ y < x) ∨ (sumL xs = sumL ys ∧ p = q ∧ x = y) := by omega
      · exact vaheadC0 hC hI ha hb hab hp0 hp1 hq0 hq1 hx hy h1
      · exact vaheadC1 hC hI ha hb hab hp0 hp1 hq0 hq1 hx hy h1
      · exact vaheadC2 hC hI ha hb hab hp0 hp1 hq0 hq1 hx hy h1 h2
      · exact vaheadC3 hC hI ha hb hab hp0 hp1 hq0 hq1 hx hy h1 h2
      · exact vaheadC4 hC hI ha hb hab hp0 hp1 hq0 hq1 hx hy h1 h2 h3
      · exact vaheadC5 hC hI ha hb hab hp0 hp1 hq0 hq1 hx hy h1 h2 h3
      · exact vaheadC6 hC hI ha hb hab hp0 hp1 hq0 hq1 hx hy h1 h2 h3
  · by_cases hx0 : vecErr xs = 0
    · exact vaheadA0 hC hI ha hb hab hx0
    · exact vaheadA1 hC hI ha hb hab hx0
end Go.Proofs.YtibkfmobofikmaaDoor
