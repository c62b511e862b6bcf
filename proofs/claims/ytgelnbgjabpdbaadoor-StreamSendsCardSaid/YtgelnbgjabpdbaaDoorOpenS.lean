/- []SendAct as data. -/
import Derived.Test.YtgelnbgjabpdbaaDoorOpen
import Derived.Test.YtgelnbgjabpdbaaDoorSSendA
namespace Go.Proofs.YtgelnbgjabpdbaaDoor
open Go Go.Sx
structure OkAct (a : ActT) : Prop where
  kind : a.kind.size ≤ maxLen
  c : OkCom a.c
  n : Rng a.n
section
variable {W : World}
theorem opAct : Opens Tryd.prog W 66 5 eAct OkAct :=
  (Opens.struct Tryd.underlying66 (by kernel_rfl) (.cons opStr rfl (.cons opCom rfl (.cons opInt rfl .nil)))).map (fun x => ⟨x.1, x.2.1, x.2.2.1⟩) (fun _ => rfl) fun _ h => ⟨h.1, h.2.1, h.2.2.1⟩
theorem opActs : Opens Tryd.prog W 62 1 (fun l : List ActT => [.sl 5 (l.map eAct)]) (fun l => (∀ d ∈ l, OkAct d) ∧ l.length ≤ maxLen) := .slice opAct Tryd.underlying62 (by kernel_rfl) (by decide)
end
end Go.Proofs.YtgelnbgjabpdbaaDoor
