/- Part 1 of the texts of a claim: Tx0 Tx1 Tx2 Tx3 Tx4 Tx5. -/
import Derived.OrdersHeld
import Derived.Tactics
import Derived.WalkKit
import Derived.KernelRfl
import Derived.Maps.AppendAt
open Array renaming getD_eq_getD_getElem? → dB, getElem?_eq_getElem → fR, getElem?_eq_none → iF, getElem?_eq_some_iff → bJ, getElem?_modify → fV, getElem?_push → jx, getElem?_setIfInBounds → iv, replicate → lS
open Bool renaming and_eq_true → bT, or_eq_true → j8
open List renaming all_eq_true → dF, cons_append → iO, ext_getElem? → eH, filter → mo, filterMap_cons → lE, filter_map → lU, flatten_cons → cr, getD_eq_getElem?_getD → aO, getElem?_append_left → bz, getElem?_append_right → bt, getElem?_cons_succ → eU, getElem?_cons_zero → aV, getElem?_eq_getElem → ak, getElem?_eq_none → cO, getElem?_eq_some_iff → ai, getElem?_inj → dQ, getElem?_map → aF, getElem?_of_mem → aJ, getElem?_range → ew, getElem?_take → cL, getElem_mem → cz, lookup → kO, map_append → bw, map_congr_left → cB, map_cons → cj, map_set → mS, mem_append → au, mem_append_left → ig, mem_cons → cE, mem_cons_of_mem → bk, mem_cons_self → bl, mem_filter → aP, mem_filterMap → dV, mem_map → aB, mem_of_getElem? → ae, mem_range → dX, nodup_append → be, range → bD, take_of_length_le → br
open List.cons renaming injEq → lT
open Nat renaming add_mul → jR, add_zero → dZ, beq → lR, ble → po, div_add_mod → lV, div_lt_of_lt_mul → jl, eq_of_beq_eq_true → dR, le_of_ble_eq_true → bP, le_refl → aX, le_succ → mm, le_trans → aZ, lt_of_lt_of_le → ej, lt_or_ge → dP, mod_lt → l8, mul_comm → fN, mul_le_mul_right → cD, ne_of_lt → ob, one_mul → nK, zero_add → aK, zero_le → eo
open Option renaming map_eq_some_iff → aI, map_some → dU
open Option.some renaming inj → dG, injEq → az
open Prod.mk renaming injEq → aH
section
namespace Go
theorem World.vS {α:Type}:∀(k:Ask α) (w:World),w.drawn≤(w.ask k).2.drawn
 | .done _,w=>aX _
 | .ask what range k,w=>by
  unfold World.ask
  dsimp only
  split
  ·exact World.vS (k 0) w
  ·exact aZ (mm _) (World.vS (k _) { w with drawn:=w.drawn+1 })
theorem World.EW (w:World) (c:Sys):w.drawn≤(w.sys c).2.drawn:=by
 have h:=World.vS (Kernel.perform c w.os) w
 unfold World.sys
 split
 ·exact aX _
 ·rename_i e
  rw[e]at h
  exact h
theorem World.yY (w:World) (a:Addr) (v:Value):(w.setCell a v).drawn=w.drawn:=rfl
theorem World.A2 (w:World) (a:Addr) (n:Nat):(w.freeze a n).drawn=w.drawn:=by unfold World.freeze;split <;> rfl
theorem mO {ε α β:Type} {x:Except ε α} {f:α→Except ε β} {y:β} (h:(x >>= f)=.ok y):∃a,x=.ok a∧f a=.ok y:=by
 cases x with
 | error e=>cases h
 | ok a=>exact⟨a,rfl,h⟩
theorem World.wD {p:Program} {w w':World} {at_:Addr} {u:TypeId} {k:Addr} {v:Value} {b:Bool} {l:List Addr} (h:w.viewStore p at_ u k v b=.ok (w',l)):w'.drawn=w.drawn:=by
 unfold World.viewStore at h
 dsimp only at h
 split at h
 ·obtain⟨_,h1,_⟩:=mO h
  cases h1
 ·obtain⟨x,_,h⟩:=mO h
  split at h
  ·split at h
   ·obtain⟨_,h1,_⟩:=mO h
    cases h1
   ·obtain⟨x,_,h⟩:=mO h
    cases h
    rfl
  ·cases h
theorem World.yl {p:Program} {w w':World} {a:Addr} {v:Value} {b:Bool} {l:List Addr} (h:w.farStore p a v b=.ok (w',l)):w'.drawn=w.drawn:=by
 unfold World.farStore at h
 split at h
 ·split at h
  ·rename_i r hr
   cases h
   exact World.wD hr
  ·cases h
 ·cases h
theorem Sem.gA {α:Type} {p:Program}:∀{s:Sem α} {w w':World} {v:α},s.run p w=.ok v w'→w.drawn≤w'.drawn
 | .pure a,w,w',v,h=>by
  cases h
  exact aX _
 | .load m a k,w,w',v,h=>by
  simp only[Sem.run]at h
  split at h
  ·exact Sem.gA h
  ·split at h
   ·exact Sem.gA h
   ·cases h
 | .store m a x k,w,w',v,h=>by
  have hk:∀{w1:World},k.run p w1=.ok v w'→w1.drawn≤w'.drawn:=fun h=>Sem.gA h
  cases x <;> simp only[Sem.run]at h <;> first|(cases h;done)|skip
  all_goals
   split at h
   ·split at h
    ·cases h
    ·have:=hk h
     rwa[World.yY]at this
   ·split at h
    ·rename_i W4
     have:=hk h
     rwa[World.yl W4]at this
    ·cases h
 | .new o k,w,w',v,h=>by
  simp only[Sem.run]at h
  exact Sem.gA (s:=k w.heap.size) (w:={ w with heap:=w.heap.push o }) h
 | .shape r k,w,w',v,h=>by
  simp only[Sem.run]at h
  exact Sem.gA h
 | .freeze a n k,w,w',v,h=>by
  simp only[Sem.run]at h
  have:=Sem.gA h
  rwa[World.A2]at this
 | .frozen a k,w,w',v,h=>by
  simp only[Sem.run]at h
  exact Sem.gA h
 | .getObj r k,w,w',v,h=>by
  simp only[Sem.run]at h
  split at h
  ·cases h
  ·exact Sem.gA h
  ·cases h
 | .setObj r o k,w,w',v,h=>by
  simp only[Sem.run]at h
  split at h
  ·cases h
  ·exact Sem.gA (w:={ w with heap:=w.heap.setIfInBounds r o }) h
  ·cases h
 | .choose q k,w,w',v,h=>by
  simp only[Sem.run]at h
  split at h
  ·exact Sem.gA h
  ·exact aZ (mm _) (Sem.gA (w:={ w with drawn:=w.drawn+1 }) h)
 | .sys c k,w,w',v,h=>by
  simp only[Sem.run]at h
  exact aZ (World.EW w c) (Sem.gA h)
 | .program k,w,w',v,h=>by
  simp only[Sem.run]at h
  exact Sem.gA h
 | .mark m k,w,w',v,h=>by
  simp only[Sem.run]at h
  exact Sem.gA h
 | .halt h',w,w',v,h=>by
  simp only[Sem.run]at h
  cases h
end Go
end
section
namespace Go.Sx
open Go
structure Fr (M:List Nat) (w0 w:World):Prop where
 os:w.os=w0.os
 tape:w.tape=w0.tape
 output:w.output=w0.output
 size:w0.heap.size≤w.heap.size
 block:∀b,b<w0.heap.size→b∉M→w.heap[b]?=w0.heap[b]?
 drawn:w0.drawn≤w.drawn
theorem Fr.refl (M:List Nat) (w:World):Fr M w w:=⟨rfl,rfl,rfl,aX _,fun _ _ _=>rfl,aX _⟩
theorem Fr.trans {M N K:List Nat} {a b c:World} (h:Fr M a b) (k:Fr N b c) (hM:∀x∈M,x∈K) (hN:∀x∈N,x∈K∨a.heap.size≤x):Fr K a c:=
 ⟨k.os.trans h.os,k.tape.trans h.tape,k.output.trans h.output,aZ h.size k.size,fun x hx hk=>by
  have h1:x∉M:=fun hm=>hk (hM x hm)
  have h2:x∉N:=fun hn=>by
   rcases hN x hn with h|h
   ·exact hk h
   ·omega
  exact(k.block x (ej hx h.size) h2).trans (h.block x hx h1),aZ h.drawn k.drawn⟩
theorem Fr.mono {M N:List Nat} {a b:World} (h:Fr M a b) (hM:∀x∈M,x∈N∨a.heap.size≤x):Fr N a b:=
 ⟨h.os,h.tape,h.output,h.size,fun x hx hn=>h.block x hx fun hm=>by
  rcases hM x hm with h|h
  ·exact hn h
  ·omega,h.drawn⟩
theorem Fr.drew {M:List Nat} {a b:World} (h:Fr M a b):Fr M a { b with drawn:=b.drawn+1 }:=⟨h.os,h.tape,h.output,h.size,h.block,Nat.le_succ_of_le h.drawn⟩
def Hp (l:List (Nat×Obj)) (w:World):Prop:=∀x∈l,w.heap[x.1]?=some x.2
theorem Hp.lt {l:List (Nat×Obj)} {w:World} (h:Hp l w) {x:Nat×Obj} (hx:x∈l):x.1<w.heap.size:=by
 have:=h x hx
 rcases dP x.1 w.heap.size with h'|h'
 ·exact h'
 ·rw[iF h']at this;cases this
theorem Hp.fr {l:List (Nat×Obj)} {M:List Nat} {w w':World} (h:Hp l w) (hf:Fr M w w') (hd:∀x∈l,x.1∉M):Hp l w':=fun x hx=>
 (hf.block x.1 (h.lt hx) (hd x hx)).trans (h x hx)
section draw
variable {P:Program} {ops:Array Oper} {Q:Exit→Act→World→Prop} {md:Region.Mode}
def BG (B:Nat) (M:Option (List Nat)) (w w':World):Prop:=∀b,b<w.heap.size→(∀l,M=some l→b<B∧b∉l)→w'.heap[b]?=w.heap[b]?
def qZ (P:Program) (md:Region.Mode) (ops:Array Oper) (Q:Exit→Act→World→Prop) (B:Nat) (W:Nat→Option (List Nat)):Nat→Array Bool→Act→World→Prop
 | 0,listed,a,w=>Region.ready md ops listed=[]∧Q .normal a w
 | fuel+1,listed,a,w=>
  (Region.ready md ops listed=[]→Q .normal a w) ∧
  ∀i∈Region.ready md ops listed,wpOp P ops Q i (fun a' w'=>BG B (W i) w w'∧qZ P md ops Q B W fuel (listed.setIfInBounds i true) a' w') a w
theorem ql {B:Nat} {W:Nat→Option (List Nat)}:∀(fuel:Nat) (listed:Array Bool) (a:Act) (w:World),qZ P md ops Q B W fuel listed a w→wpAny P md ops Q fuel listed a w
 | 0,_,_,_,h=>h
 | fuel+1,_,_,_,h=>⟨h.1,fun i hi=>wpOp_mono (fun a' w' h'=>ql fuel _ a' w' h'.2) (h.2 i hi)⟩
theorem Hp.bg {B:Nat} {us:List (Nat×Obj)} {M:Option (List Nat)} {w w':World} (h:Hp us w) (hg:BG B M w w') (hd:∀l,M=some l→∀x∈us,x.1<B∧x.1∉l):Hp us w':=
 fun x hx=>(hg x.1 (h.lt hx) fun l hl=>hd l hl x hx).trans (h x hx)
def later (ops:Array Oper) (i:Nat):Nat→Nat→Bool
 | 0,_=>false
 | n+1,j=>match ops[j]? with
  | some o=>o.after.any fun e=>Region.binds .any e&&(lR e.on i||later ops i n e.on)
  | none=>false
def Down (md:Region.Mode) (ops:Array Oper) (listed:Array Bool):Prop:=∀(j:Nat) (o:Oper),ops[j]?=some o→listed.getD j true=true→∀e∈o.after,Region.binds md e=true→listed.getD e.on true=true
theorem Down.later {listed:Array Bool} {i:Nat} (hd:Down .any ops listed) (hi:listed.getD i true=false):∀(n j:Nat),later ops i n j=true→(∀(o:Oper),ops[j]?=some o→∀e∈o.after,Region.binds .any e=true→listed.getD e.on true=true)→False
 | 0,j,h,_=>by simp[Sx.later]at h
 | n+1,j,h,ha=>by
  unfold Sx.later at h
  split at h
  ·rename_i o ho
   obtain⟨e,he,h2⟩:∃e∈o.after,(Region.binds .any e&&(lR e.on i||Sx.later ops i n e.on))=true:=by
    obtain⟨k,hk,h2⟩:=Array.any_eq_true.1 h
    exact⟨_,Array.getElem_mem hk,h2⟩
   simp only[bT,j8]at h2
   have hl:=ha o ho e he h2.1
   rcases h2.2 with h3|h3
   ·rw[dR h3,hi]at hl
    cases hl
   ·exact hd.later hi n e.on h3 fun o' Nb=>hd e.on o' Nb hl
  ·cases h
theorem Down.list {listed:Array Bool} {i:Nat} (hd:Down md ops listed) (hr:i∈Region.ready md ops listed):Down md ops (listed.setIfInBounds i true):=by
 obtain⟨hun,oi,WH,hall⟩:=mem_ready.1 hr
 have key:∀k,listed.getD k true=true→(listed.setIfInBounds i true).getD k true=true:=fun k hk=>by
  by_cases LS:i=k
  ·subst LS
   rw[hk]at hun
   cases hun
  ·rw[getD_set_ne true LS];exact hk
 have Tw:∀k,listed[k]?≠some false→listed.getD k true=true:=fun k hk=>by
  cases h:listed[k]? with
  | none=>simp[dB,h]
  | some b=>cases b with
   | true=>simp[dB,h]
   | false=>exact absurd h hk
 intro j o ho hl e he hb
 refine key _ ?_
 by_cases uO:i=j
 ·subst uO
  rw[WH]at ho
  cases ho
  refine Tw _ fun h=>?_
  have h2:=hall e he hb
  simp[h]at h2
 ·rw[getD_set_ne true uO]at hl
  exact hd j o ho hl e he hb
theorem qn {B:Nat} {W:Nat→Option (List Nat)} {us:List (Nat×Obj)} {i:Nat} {oi:Oper} {v:Value} (hi:ops[i]?=some oi)
  (hsel:∀(j:Nat) (o:Oper) cs b,ops[j]?=some o→o.op≠.select cs b)
  (hQ:∀c a w,Q (.panic c) (a.put oi.dst v) w→Q (.panic c) a w) :
  ∀(fuel:Nat) (listed:Array Bool) (a:Act) (w:World),
   (∀j oj,ops[j]?=some oj→j≠i→listed.getD j true=false→(∀e∈oj.after,Region.binds .any e=true→e.on≠i)→oi.apart ops oj=true∧∀l,W j=some l→later ops i 3 j=true∨∀x∈us,x.1<B∧x.1∉l) →
   Down .any ops listed→i∈Region.ready .any ops listed→YieldsIf P ops (Hp us) oi v a→Hp us w →
   qZ P .any ops Q B W fuel (listed.setIfInBounds i true) (a.put oi.dst v) w→qZ P .any ops Q B W (fuel+1) listed a w:=by
 intro fuel
 induction fuel with
 | zero=>
  intro listed a w _ _ hr hy hS H
  refine⟨fun h=>absurd hr (by rw[h];simp),fun j hj=>?_⟩
  by_cases uO:j=i
  ·subst uO;exact hy.wpOp hi hS ⟨fun _ _ _=>rfl,H⟩
  ·have h:=ready_mono hj uO
   rw[H.1]at h
   exact absurd h (by simp)
 | succ fuel ih=>
  intro listed a w hfree mj hr hy hS H
  refine⟨fun h=>absurd hr (by rw[h];simp),fun j hj=>?_⟩
  by_cases uO:j=i
  ·subst uO;exact hy.wpOp hi hS ⟨fun _ _ _=>rfl,H⟩
  ·have h1:=H.2 j (ready_mono hj uO)
   obtain⟨Qs,oj,N1,hall⟩:=mem_ready.1 hj
   have hnot:∀e∈oj.after,Region.binds .any e=true→e.on≠i:=fun e he hb heq=>by
    have h2:=hall e he hb
    have h0:=(mem_ready.1 hr).1
    rw[heq]at h2
    rcases dP i listed.size with h'|h'
    ·simp[h']at h0 h2;rw[h0]at h2;cases h2
    ·simp[iF h']at h2
   obtain⟨hap,hno⟩:=hfree j oj N1 uO Qs hnot
   have hno:∀l,W j=some l→∀x∈us,x.1<B∧x.1∉l:=fun l hl=>by
    rcases hno l hl with h4|h4
    ·refine(mj.later (mem_ready.1 hr).1 3 j h4 fun o' Nb e he hb=>?_).elim
     rw[N1]at Nb
     cases Nb
     have h5:=hall e he hb
     rcases dP e.on listed.size with h'|h'
     ·simp[h']at h5 ⊢;exact h5
     ·simp[iF h']at h5
    ·exact h4
   have h2:=wpOp_putIf N1 hap (fun cs b=>hsel i oi cs b hi) (fun cs b=>hsel j oj cs b N1) hQ hy h1
   have No:∀k ok,ops[k]?=some ok→k≠i→(listed.setIfInBounds j true).getD k true=false →
     (∀e∈ok.after,Region.binds .any e=true→e.on≠i)→oi.apart ops ok=true∧∀l,W k=some l→later ops i 3 k=true∨∀x∈us,x.1<B∧x.1∉l:=fun k ok hk LS hun TT=>by
    refine hfree k ok hk LS ?_ TT
    by_cases EC:j=k
    ·subst EC;exact Qs
    ·rw[getD_set_ne true EC]at hun;exact hun
   refine wpOp_mono (fun a' w' h3=>⟨h3.2.1,ih (listed.setIfInBounds j true) a' w' No (mj.list hj) (ready_mono hr (Ne.symm uO)) h3.1 (hS.bg h3.2.1 hno) ?_⟩) h2
   rw[Array.setIfInBounds_comm _ _ uO]
   exact h3.2.2
def PW (P:Program) (ops:Array Oper) (Q:Exit→Act→World→Prop) (B:Nat) (ck:Bool):List (Nat×Bool)→List (Nat×List Nat)→Act→World→Prop
 | [],_,a,w=>Q .normal a w
 | (i,true)::rest,W,a,w=>∃o v,∃us:List (Nat×Obj),ops[i]?=some o∧YieldsIf P ops (Hp us) o v a∧Hp us w∧(ck=true→∀y∈W,later ops i 3 y.1=true∨∀x∈us,x.1<B∧x.1∉y.2)∧PW P ops Q B ck rest W (a.put o.dst v) w
 | (i,false)::rest,W,a,w=>wpOp P ops Q i (fun a' w'=>(ck=true→BG B (W.lookup i) w w')∧PW P ops Q B ck rest (W.filter (·.1 != i)) a' w') a w
def nL (ops:Array Oper):List (Nat×Bool)→Array Bool→Bool
 | [],listed=>(Region.ready .any ops listed).isEmpty
 | (i,true)::rest,listed=>(Region.ready .any ops listed).contains i&&Region.free .any ops listed i&&nL ops rest (listed.setIfInBounds i true)
 | (i,false)::rest,listed=>Region.ready .any ops listed==[i]&&nL ops rest (listed.setIfInBounds i true)
theorem jB (i j:Nat) (h:j≠i):∀W:List (Nat×List Nat),(W.filter (·.1 != i)).lookup j=W.lookup j
 | []=>rfl
 | (k,M)::W=>by
  by_cases hk:k=i
  ·subst hk
   have:(j==k)=false:=by simpa using h
   simp[kO,this,jB _ j h W]
  ·have:(k != i)=true:=by simpa using hk
   simp only[mo,this,kO]
   rw[jB i j h W]
theorem nk {j:Nat} {M:List Nat}:∀{W:List (Nat×List Nat)},W.lookup j=some M→(j,M)∈W
 | (k,N)::W,h=>by
  by_cases hk:j=k
  ·subst hk;simp[kO]at h;simp[h]
  ·have:(j==k)=false:=by simpa using hk
   simp only[kO,this]at h
   exact bk _ (nk h)
theorem qY (hs:Region.noSelect ops=true) (hQ:∀(i:Nat) (o:Oper),ops[i]?=some o→∀c a v w,Q (.panic c) (a.put o.dst v) w→Q (.panic c) a w) {B:Nat} (W0:Nat→Option (List Nat)) :
  ∀(fb:List (Nat×Bool)) (W:List (Nat×List Nat)) (listed:Array Bool) (a:Act) (w:World),nL ops fb listed=true→Down .any ops listed →
   (∀j,listed.getD j true=false→W.lookup j=W0 j)→PW P ops Q B true fb W a w→qZ P .any ops Q B W0 fb.length listed a w:=by
 intro fb
 induction fb with
 | nil=>
  intro W listed a w hp _ _ h
  exact⟨by simpa [nL]using hp,h⟩
 | cons x rest ih=>
  obtain⟨i,b⟩:=x
  intro W listed a w hp mj hW h
  cases b with
  | true=>
   simp only[nL,bT]at hp
   obtain⟨⟨hr,hf⟩,hp'⟩:=hp
   obtain⟨o,v,us,ho,hy,hS,hd,sY⟩:=h
   refine qn (us:=us) ho (Region.noSelect_spec hs) (fun c a w=>hQ _ _ ho c a v w) rest.length listed a w ?_ mj (by simpa using hr) hy hS ?_
   ·intro j oj N1 uO hun hno
    refine⟨Region.free_spec ho hf j oj N1 uO hun hno,fun l hl=>?_⟩
    rw[←hW j hun]at hl
    exact hd rfl _ (nk hl)
   ·refine ih W _ _ _ hp' (mj.list (by simpa using hr)) (fun j hj=>?_) sY
    refine hW j ?_
    by_cases hij:i=j
    ·subst hij
     rcases dP i listed.size with h'|h'
     ·simp[h']at hj
     ·simp[h']at hj
    ·rw[getD_set_ne true hij]at hj;exact hj
  | false=>
   simp only[nL,bT,beq_iff_eq]at hp
   obtain⟨hr,hp'⟩:=hp
   refine⟨fun h0=>absurd h0 (by rw[hr];simp),fun j hj=>?_⟩
   have hj':=hj
   rw[hr]at hj
   obtain rfl:j=i:=by simpa using hj
   have hun:listed.getD j true=false:=(mem_ready.1 (by rw[hr];exact hj)).1
   refine wpOp_mono (fun a' w' hh=>⟨?_,ih _ _ _ _ hp' (mj.list hj') (fun k hk=>?_) hh.2⟩) h
   ·rw[←hW j hun];exact hh.1 rfl
   ·have Sc:k≠j:=by
     rintro rfl
     rcases dP k listed.size with h'|h'
     ·simp[h']at hk
     ·simp[h']at hk
    rw[jB j k Sc]
    rw[getD_set_ne true (Ne.symm Sc)]at hk
    exact hW k hk
theorem wX {id:Nat} {a:Act} {w:World} (hm:P.follows .mixedOrders=true) (hs:Region.noSelect ops=true)
  (hQ:∀(i:Nat) (o:Oper),ops[i]?=some o→∀c a v w,Q (.panic c) (a.put o.dst v) w→Q (.panic c) a w) (fb:List (Nat×Bool)) (W:List (Nat×List Nat)) (hlen:fb.length=ops.size)
  (hp:nL ops fb (lS ops.size false)=true) {B:Nat} (h:PW P ops Q B true fb W a { w with drawn:=w.drawn+1 }):(Code.region id ops true).wp P Q a w:=by
 refine wp_region_any hm (ql (B:=B) (W:=fun j=>W.lookup j) _ _ _ _ ?_)
 rw[←hlen]
 rw[←hlen]at hp
 refine qY hs hQ _ fb W _ _ _ hp (fun j o ho hl=>?_) (fun _ _=>rfl) h
 have hlt:=(bJ.1 ho).1
 rw[hlen]at hl
 simp[hlt]at hl
theorem qX {B:Nat} {ck:Bool}:∀(fb:List (Nat×Bool)) (W:List (Nat×List Nat)) (a:Act) (w:World),PW P ops Q B ck fb W a w→wpOps P ops Q (fb.map (·.1)) a w
 | [],_,_,_,h=>h
 | (i,true)::rest,W,a,w,h=>by
  obtain⟨o,v,us,ho,hy,hS,hd,sY⟩:=h
  rw[cj,wpOps_cons]
  exact hy.wpOp ho hS (qX rest W _ _ sY)
 | (i,false)::rest,W,a,w,h=>by
  rw[cj,wpOps_cons]
  exact wpOp_mono (fun a' w' hh=>qX rest _ _ _ hh.2) h
theorem wY {id:Nat} {a:Act} {w:World} (fb:List (Nat×Bool)) (W:List (Nat×List Nat)) (hp:fb.map (·.1)=bD ops.size) {B:Nat} {ck:Bool}
  (h:PW P ops Q B ck fb W a w):(Code.region id ops false).wp P Q a w:=
 wp_region (by rw[←hp];exact qX fb W a w h)
end draw
end Go.Sx
end
section
namespace Go.Sx
open Go
inductive Hn where
 | o (i:Nat) (v:Option Value)
 | r (i:Nat) (v:Option Value)
def Hn.get (h r:List (Nat×Obj)):Hn→Option (Nat×Obj)
 | .o i _=>h[i]?
 | .r i _=>r[i]?
def Hn.val:Hn→Option Value
 | .o _ v=>v
 | .r _ v=>v
inductive Ob where
 | nn (a b:Nat)
 | bb (x y:Bool)
 | ss (x:Option Nat)
 | pp (q:Prop)
def Ob.ok:Ob→Prop
 | .nn a b=>a=b
 | .bb x y=>x=y
 | .ss x=>x=none
 | .pp q=>q
def Ob.under (c w:Bool):Ob→Ob
 | .pp q=>.pp (c=w→q)
 | o=>o
theorem Ob.GZ {c w:Bool} (h:c=w):∀o:Ob,(o.under c w).ok→o.ok
 | .nn _ _,h'=>h'
 | .bb _ _,h'=>h'
 | .ss _,h'=>h'
 | .pp _,h'=>h' h
def th:List Ob→Prop
 | []=>True
 | p::l=>p.ok∧th l
theorem gj {p q:List Ob} (h:th (p++q)):th p∧th q:=by
 induction p with
 | nil=>exact⟨trivial,h⟩
 | cons x p ih=>exact⟨⟨h.1,(ih h.2).1⟩,(ih h.2).2⟩
theorem Ap {c w:Bool} (h:c=w):∀{p:List Ob},th (p.map (Ob.under c w))→th p
 | [],_=>trivial
 | o::_,h'=>⟨o.GZ h h'.1,Ap h h'.2⟩
def AN:List Ob→List Nat×List Bool×List (Option Nat)
 | []=>([],[],[])
 | .nn a _::l=>(a::(AN l).1,(AN l).2)
 | .bb x _::l=>((AN l).1,x::(AN l).2.1,(AN l).2.2)
 | .ss x::l=>((AN l).1,(AN l).2.1,x::(AN l).2.2)
 | .pp _::l=>AN l
def AM:List Ob→List Nat×List Bool×List (Option Nat)
 | []=>([],[],[])
 | .nn _ b::l=>(b::(AM l).1,(AM l).2)
 | .bb _ y::l=>((AM l).1,y::(AM l).2.1,(AM l).2.2)
 | .ss _::l=>((AM l).1,(AM l).2.1,none::(AM l).2.2)
 | .pp _::l=>AM l
def Kb:List Ob→List Prop
 | []=>[]
 | .pp q::l=>q::Kb l
 | _::l=>Kb l
def vh:List Prop→Prop
 | []=>True
 | p::l=>p∧vh l
theorem oM:∀(l:List Ob),AN l=AM l→vh (Kb l)→th l
 | [],_,_=>trivial
 | .nn a b::l,h,hp=>by
  simp only[AN,AM,aH,lT]at h
  exact⟨h.1.1,oM l (Prod.ext h.1.2 h.2) hp⟩
 | .bb x y::l,h,hp=>by
  simp only[AN,AM,aH,lT]at h
  exact⟨h.2.1.1,oM l (Prod.ext h.1 (Prod.ext h.2.1.2 h.2.2)) hp⟩
 | .ss x::l,h,hp=>by
  simp only[AN,AM,aH,lT]at h
  exact⟨h.2.2.1,oM l (Prod.ext h.1 (Prod.ext h.2.1 h.2.2.2)) hp⟩
 | .pp q::l,h,hp=>⟨hp.1,oM l h hp.2⟩
def s9 (P:Program) (h r:List (Nat×Obj)) {α:Type}:Sem α→List Hn→Option (α×List Ob)
 | .pure a,_=>some (a,[])
 | .load _ a k,hn::hs=>match hn.get h r with
  | some (b,.cells cs _ _)=>match hn.val with
   | none=>match a.spot,cs[a.off]? with
    | none,some v=>(s9 P h r (k v) hs).map fun y=>(y.1,.nn a.block b::y.2)
    | _,_=>none
   | some v=>(s9 P h r (k v) hs).map fun y=>(y.1,.nn a.block b::.ss a.spot::.pp (cs[a.off]?=some v)::y.2)
  | _=>none
 | .shape rr k,hn::hs=>match hn.get h r with
  | some (b,.cells cs e _)=>(s9 P h r (k (some (e,cs.size))) hs).map fun y=>(y.1,.nn rr b::y.2)
  | _=>none
 | .frozen a k,hn::hs=>match hn.get h r with
  | some (b,.cells _ _ fz)=>match fz with
   | (0,0)=>(s9 P h r (k false) hs).map fun y=>(y.1,.nn a.block b::y.2)
   | _=>none
  | _=>none
 | .getObj rr k,hn::hs=>match hn.get h r with
  | some (_,.cells ..)=>none
  | some (b,o)=>(s9 P h r (k o) hs).map fun y=>(y.1,.nn rr b::y.2)
  | none=>none
 | .program k,hs=>s9 P h r (k P) hs
 | .mark _ k,hs=>s9 P h r k hs
 | .choose q k,hs=>if q.forced then s9 P h r (k 0) hs else none
 | _,_=>none
def used (h r:List (Nat×Obj)) (hs:List Hn):List (Nat×Obj):=hs.filterMap (·.get h r)
theorem rY {h r:List (Nat×Obj)} {hn:Hn} {hs:List Hn} {x:Nat×Obj} (hg:hn.get h r=some x):used h r (hn::hs)=x::used h r hs:=by
 simp[used,hg]
theorem cell_of {w:World} {a:Addr} {b:Nat} {cs:Array Value} {e:TypeId} {fz:Nat×Nat} {v:Value} (hb:a.block=b) (hw:w.heap[b]?=some (.cells cs e fz)) (hs:a.spot=none) (hc:cs[a.off]?=some v) :
  w.cell? a=some v:=by
 unfold World.cell?
 rw[hb,hw]
 simp[hs,hc]
theorem sE {P:Program} {h r:List (Nat×Obj)} {α:Type} (s:Sem α):∀(hs:List Hn) (x:α) (p:List Ob),s9 P h r s hs=some (x,p)→th p →
  ∀w,(∀y∈used h r hs,w.heap[y.1]?=some y.2)→s.run P w=.ok x w:=by
 induction s with
 | pure a=>intro hs x p he _ w _;simp only[s9,az,aH]at he;simp[Sem.run,he.1]
 | load m a k ih=>
  intro hs x p he hp w hw
  cases hs with
  | nil=>simp[s9]at he
  | cons hn hs=>
   simp only[s9]at he
   split at he
   ·rename_i b cs e fz hg
    rw[rY hg]at hw
    have hb:=hw _ (bl ..)
    split at he
    ·split at he
     ·rename_i v hsp hcs
      obtain⟨y,hy,hxy⟩:=aI.1 he
      simp only[aH]at hxy
      obtain⟨rfl,rfl⟩:=hxy
      have hc:=cell_of hp.1 hb hsp hcs
      simp only[Sem.run,hc]
      exact ih v hs y.1 y.2 hy hp.2 w fun y hy=>hw y (bk _ hy)
     ·cases he
    ·rename_i v _
     obtain⟨y,hy,hxy⟩:=aI.1 he
     simp only[aH]at hxy
     obtain⟨rfl,rfl⟩:=hxy
     obtain⟨h1,h2,h3,h4⟩:=hp
     have hc:=cell_of h1 hb h2 h3
     simp only[Sem.run,hc]
     exact ih v hs y.1 y.2 hy h4 w fun y hy=>hw y (bk _ hy)
   ·cases he
 | shape rr k ih=>
  intro hs x p he hp w hw
  cases hs with
  | nil=>simp[s9]at he
  | cons hn hs=>
   simp only[s9]at he
   split at he
   ·rename_i b cs e fz hg
    rw[rY hg]at hw
    have hb:=hw _ (bl ..)
    obtain⟨y,hy,hxy⟩:=aI.1 he
    simp only[aH]at hxy
    obtain⟨rfl,rfl⟩:=hxy
    obtain⟨h0,hp⟩:=hp;obtain rfl:rr=b:=h0
    have hsh:w.shape? rr=some (e,cs.size):=by simp[World.shape?,hb]
    simp only[Sem.run,hsh]
    exact ih _ hs y.1 y.2 hy hp w fun y hy=>hw y (bk _ hy)
   ·cases he
 | frozen a k ih=>
  intro hs x p he hp w hw
  cases hs with
  | nil=>simp[s9]at he
  | cons hn hs=>
   simp only[s9]at he
   split at he
   ·rename_i b cs e fz hg
    rw[rY hg]at hw
    have hb:=hw _ (bl ..)
    split at he
    ·obtain⟨y,hy,hxy⟩:=aI.1 he
     simp only[aH]at hxy
     obtain⟨rfl,rfl⟩:=hxy
     obtain⟨h1,hp⟩:=hp
     simp only[Ob.ok]at h1
     have hsh:w.frozen? a=false:=by simp[World.frozen?,h1,hb]
     simp only[Sem.run,hsh]
     exact ih _ hs y.1 y.2 hy hp w fun y hy=>hw y (bk _ hy)
    ·cases he
   ·cases he
 | getObj rr k ih=>
  intro hs x p he hp w hw
  cases hs with
  | nil=>simp[s9]at he
  | cons hn hs=>
   simp only[s9]at he
   split at he
   ·cases he
   ·rename_i b o hnot hg
    rw[rY hg]at hw
    have hb:=hw _ (bl ..)
    obtain⟨y,hy,hxy⟩:=aI.1 he
    simp only[aH]at hxy
    obtain⟨rfl,rfl⟩:=hxy
    obtain⟨h0,hp⟩:=hp;obtain rfl:rr=b:=h0
    have hrun:(Sem.getObj rr k).run P w=(k o).run P w:=by
     simp only[Sem.run,hb]
    rw[hrun]
    exact ih _ hs y.1 y.2 hy hp w fun y hy=>hw y (bk _ hy)
   ·cases he
 | program k ih=>intro hs x p he hp w hw;simp only[s9]at he;simp only[Sem.run];exact ih P hs x p he hp w hw
 | mark m k ih=>intro hs x p he hp w hw;simp only[s9]at he;simp only[Sem.run];exact ih hs x p he hp w hw
 | choose q k ih=>
  intro hs x p he hp w hw
  simp only[s9]at he
  split at he
  ·rename_i hq
   simp only[Sem.run,hq,if_true]
   exact ih 0 hs x p he hp w hw
  ·cases he
 | store m a v k ih=>intro hs x p he;simp[s9]at he
 | new o k ih=>intro hs x p he;simp[s9]at he
 | freeze a n k ih=>intro hs x p he;simp[s9]at he
 | setObj rr o k ih=>intro hs x p he;simp[s9]at he
 | sys c k ih=>intro hs x p he;simp[s9]at he
 | halt hh=>intro hs x p he;simp[s9]at he
structure XS where
 h:List (Nat×Obj)
 k:Nat
 wr:List Nat
def ex (P:Program) (nu:Nat→Nat) (r:List (Nat×Obj)) {α:Type}:Sem α→List Hn→XS→Option (α×XS×List Ob)
 | .pure a,_,x=>some (a,x,[])
 | .load _ a k,hn::hs,x=>match hn.get x.h r with
  | some (b,.cells cs _ _)=>match hn.val with
   | none=>match a.spot,cs[a.off]? with
    | none,some v=>(ex P nu r (k v) hs x).map fun y=>(y.1,y.2.1,.nn a.block b::y.2.2)
    | _,_=>none
   | some v=>(ex P nu r (k v) hs x).map fun y=>(y.1,y.2.1,.nn a.block b::.ss a.spot::.pp (cs[a.off]?=some v)::y.2.2)
  | _=>none
 | .store _ a v k,.o i ov::hs,x=>match x.h[i]? with
  | some (b,.cells cs e fz)=>match fz with
   | (0,0)=>match ov with
    | none=>if Nat.blt a.off cs.size then (ex P nu r k hs { x with h:=x.h.set i (b,.cells (cs.setIfInBounds a.off v) e (0,0)),wr:=i::x.wr }).map fun y=>(y.1,y.2.1,.nn a.block b::.ss a.spot::.bb v.oneCell' true::y.2.2)else none
    | some _=>(ex P nu r k hs { x with h:=x.h.set i (b,.cells (cs.setIfInBounds a.off v) e (0,0)),wr:=i::x.wr }).map fun y=>(y.1,y.2.1,.nn a.block b::.ss a.spot::.pp (v.oneCell'=true)::.pp (a.off<cs.size)::y.2.2)
   | _=>none
  | _=>none
 | .new o k,hs,x=>ex P nu r (k (nu x.k)) hs { x with h:=x.h++[(nu x.k,o)],k:=x.k+1 }
 | .shape rr k,hn::hs,x=>match hn.get x.h r with
  | some (b,.cells cs e _)=>(ex P nu r (k (some (e,cs.size))) hs x).map fun y=>(y.1,y.2.1,.nn rr b::y.2.2)
  | _=>none
 | .frozen a k,hn::hs,x=>match hn.get x.h r with
  | some (b,.cells _ _ fz)=>match fz with
   | (0,0)=>(ex P nu r (k false) hs x).map fun y=>(y.1,y.2.1,.nn a.block b::y.2.2)
   | _=>none
  | _=>none
 | .getObj rr k,hn::hs,x=>match hn.get x.h r with
  | some (_,.cells ..)=>none
  | some (b,o)=>(ex P nu r (k o) hs x).map fun y=>(y.1,y.2.1,.nn rr b::y.2.2)
  | none=>none
 | .setObj rr o k,.o i _::hs,x=>match x.h[i]? with
  | some (_,.cells ..)=>none
  | some (b,_)=>(ex P nu r k hs { x with h:=x.h.set i (b,o),wr:=i::x.wr }).map fun y=>(y.1,y.2.1,.nn rr b::y.2.2)
  | none=>none
 | .program k,hs,x=>ex P nu r (k P) hs x
 | .mark _ k,hs,x=>ex P nu r k hs x
 | .choose q k,hs,x=>if q.forced then ex P nu r (k 0) hs x else none
 | _,_,_=>none
structure wA (h r:List (Nat×Obj)) (w:World):Prop where
 own:Hp h w
 nodup:(h.map (·.1)).Nodup
 ro:Hp r w
 apart:∀x∈r,x.1∉h.map (·.1)
theorem wA.get {h r:List (Nat×Obj)} {w:World} (H:wA h r w) {hn:Hn} {x:Nat×Obj} (hg:hn.get h r=some x):w.heap[x.1]?=some x.2:=by
 cases hn with
 | o i v=>exact H.own x (ae hg)
 | r i v=>exact H.ro x (ae hg)
structure wU (h h':List (Nat×Obj)) (wr:List Nat) (w w':World):Prop where
 os:w'.os=w.os
 tape:w'.tape=w.tape
 output:w'.output=w.output
 size:w.heap.size≤w'.heap.size
 block:∀b,b<w.heap.size→(∀i∈wr,∀o,h[i]?≠some (b,o))→w'.heap[b]?=w.heap[b]?
 ids:∀i:Nat,i<h.length→(h'[i]?).map (·.1)=(h[i]?).map (·.1)
 len:h.length≤h'.length
 fresh:∀i:Nat,h.length≤i→∀x,h'[i]?=some x→w.heap.size≤x.1
 drawn:w.drawn≤w'.drawn
theorem wU.refl (h:List (Nat×Obj)) (wr:List Nat) (w:World):wU h h wr w w:=
 ⟨rfl,rfl,rfl,aX _,fun _ _ _=>rfl,fun _ _=>rfl,aX _,fun i hi x hx=>by
  rw[cO hi]at hx;exact(nomatch hx),aX _⟩
theorem wU.trans {h1 h2 h3:List (Nat×Obj)} {wr:List Nat} {a b c:World} (d:wU h1 h2 wr a b) (e:wU h2 h3 wr b c):wU h1 h3 wr a c:=by
 refine⟨e.os.trans d.os,e.tape.trans d.tape,e.output.trans d.output,aZ d.size e.size,fun x hx hn=>?_,fun i hi=>?_,aZ d.len e.len,fun i hi x hx=>?_,aZ d.drawn e.drawn⟩
 ·refine(e.block x (ej hx d.size) fun i hi o ho=>?_).trans (d.block x hx hn)
  rcases dP i h1.length with hl|hl
  ·have h:=d.ids i hl
   rw[ho]at h
   cases EF:h1[i]? with
   | none=>rw[EF]at h;cases h
   | some y=>
    rw[EF]at h
    simp only[dU,az]at h
    exact hn i hi y.2 (by rw[EF,h])
  ·have:=d.fresh i hl _ ho
   simp only at this
   omega
 ·rw[e.ids i (ej hi d.len),d.ids i hi]
 ·rcases dP i h2.length with hl|hl
  ·have h:=e.ids i hl
   rw[hx]at h
   cases FX:h2[i]? with
   | none=>rw[FX]at h;cases h
   | some y=>
    rw[FX]at h
    simp only[dU,az]at h
    rw[h]
    exact d.fresh i hi y FX
  ·exact aZ d.size (e.fresh i hl x hx)
theorem AI {h r:List (Nat×Obj)} {w:World} (H:wA h r w) {i b:Nat} {o o':Obj} (hi:h[i]?=some (b,o)) :
  wA (h.set i (b,o')) r { w with heap:=w.heap.setIfInBounds b o' }:=by
 have hlen:i<h.length:=(ai.1 hi).1
 have hmem:(b,o)∈h:=ae hi
 have hlt:=H.own.lt hmem
 have sM:(h.set i (b,o')).map (·.1)=h.map (·.1):=by
  rw[mS]
  apply eH
  intro j
  rw[List.getElem?_set]
  by_cases hj:i=j
  ·subst hj
   have Ua:h[i]=(b,o):=(ai.1 hi).2
   simp[hlen,Ua]
  ·simp[hj]
 refine⟨fun x hx=>?_,by rw[sM];exact H.nodup,fun x hx=>?_,by rw[sM];exact H.apart⟩
 ·obtain⟨j,hj⟩:=aJ hx
  rw[List.getElem?_set]at hj
  by_cases hij:i=j
  ·subst hij
   simp[hlen]at hj
   subst hj
   simp only at hlt
   simp[hlt]
  ·rw[if_neg hij]at hj
   have hne:b≠x.1:=by
    intro he
    have h1:(h.map (·.1))[i]?=some b:=by simp[hi]
    have h2:(h.map (·.1))[j]?=some b:=by simp[hj,he]
    have:=(dQ (by simpa using hlen) H.nodup).1 (h1.trans h2.symm)
    exact hij this
   have:=H.own x (ae hj)
   simp[hne,this]
 ·have hne:b≠x.1:=by
   intro he
   exact H.apart x hx (by rw[←he];exact aB.2 ⟨_,hmem,rfl⟩)
  have:=H.ro x hx
  simp[hne,this]
theorem J' {h r:List (Nat×Obj)} {w:World} (H:wA h r w) (o:Obj) :
  wA (h++[(w.heap.size,o)]) r { w with heap:=w.heap.push o }:=by
 refine⟨fun x hx=>?_,?_,fun x hx=>?_,fun x hx hm=>?_⟩
 ·rcases au.1 hx with hx|hx
  ·have:=H.own.lt hx
   simp[jx,ob this,H.own x hx]
  ·simp at hx;subst hx;simp
 ·rw[bw,be]
  refine⟨H.nodup,by simp,fun x hx y hy=>?_⟩
  simp at hy;subst hy
  obtain⟨z,hz,rfl⟩:=aB.1 hx
  exact ob (H.own.lt hz)
 ·have:=H.ro.lt hx
  simp[jx,ob this,H.ro x hx]
 ·rw[bw]at hm
  rcases au.1 hm with hm|hm
  ·exact H.apart x hx hm
  ·simp at hm
   have:=H.ro.lt hx
   omega
theorem A4 {h:List (Nat×Obj)} {w:World} {i b:Nat} {o o':Obj} {wr:List Nat} (hi:h[i]?=some (b,o)) (hw:i∈wr) :
  wU h (h.set i (b,o')) wr w { w with heap:=w.heap.setIfInBounds b o' }:=by
 have hlen:i<h.length:=(ai.1 hi).1
 refine⟨rfl,rfl,rfl,by simp,fun x hx hn=>?_,fun j hj=>?_,by simp,fun j hj x hx=>?_,aX _⟩
 ·have hne:b≠x:=fun he=>hn i hw o (by rw[hi,he])
  simp[hne]
 ·rw[List.getElem?_set]
  by_cases hij:i=j
  ·subst hij
   have Ua:h[i]=(b,o):=(ai.1 hi).2
   simp[hlen,Ua]
  ·simp[hij]
 ·rw[cO (by simpa using hj)]at hx;cases hx
theorem KV {h:List (Nat×Obj)} {w:World} (o:Obj) {wr:List Nat}:wU h (h++[(w.heap.size,o)]) wr w { w with heap:=w.heap.push o }:=by
 refine⟨rfl,rfl,rfl,by simp,fun x hx _=>by simp[jx,ob hx],fun j hj=>?_,by simp,fun j hj x hx=>?_,aX _⟩
 ·rw[bz hj]
 ·rw[bt hj]at hx
  have:=ae hx
  simp at this
  rw[this]
  exact aX _
theorem setCell_eq {w:World} {a:Addr} {b:Nat} {cs:Array Value} {e:TypeId} {v:Value} (hb:a.block=b) (hw:w.heap[b]?=some (.cells cs e (0,0))) (hs:a.spot=none) :
  w.setCell a v={ w with heap:=w.heap.setIfInBounds b (.cells (cs.setIfInBounds a.off v) e (0,0)) }:=by
 unfold World.setCell
 congr 1
 apply Array.ext_getElem?
 intro j
 rw[fV,iv]
 subst hb
 by_cases hj:a.block=j
 ·subst hj
  simp only[if_true,hw,dU]
  have:a.block<w.heap.size:=(bJ.1 hw).1
  simp[this,hs]
 ·simp[hj]
def Nu (nu:Nat→Nat) (k:Nat) (w:World):Prop:=∀j,nu (k+j)=w.heap.size+j
theorem Nu.now {nu:Nat→Nat} {k:Nat} {w:World} (h:Nu nu k w):nu k=w.heap.size:=h 0
theorem Nu.push {nu:Nat→Nat} {k:Nat} {w:World} (h:Nu nu k w) (o:Obj):Nu nu (k+1) { w with heap:=w.heap.push o }:=fun j=>by
 have:=h (j+1)
 simp only[Array.size_push]
 rw[show k+1+j=k+(j+1)by omega,this]
 omega
theorem Cn {P:Program} {nu:Nat→Nat} {r:List (Nat×Obj)} {α:Type} (s:Sem α):∀(hs:List Hn) (x:XS) (a:α) (x':XS) (p:List Ob),ex P nu r s hs x=some (a,x',p)→th p →
  ∀w,wA x.h r w→Nu nu x.k w→(∀i∈x.wr,i∈x'.wr)∧∃w',s.run P w=.ok a w'∧wA x'.h r w'∧Nu nu x'.k w'∧wU x.h x'.h x'.wr w w':=by
 induction s with
 | pure a=>
  intro hs x a' x' p he hp w hw hn
  simp only[ex,az,aH]at he
  obtain⟨rfl,rfl,rfl⟩:=he
  exact⟨fun _ h=>h,w,rfl,hw,hn,wU.refl _ _ _⟩
 | load m ad k ih=>
  intro hs x a' x' p he hp w hw hn
  cases hs with
  | nil=>simp[ex]at he
  | cons hh hs=>
   simp only[ex]at he
   split at he
   ·rename_i b cs e fz hg
    have hb:=hw.get hg
    split at he
    ·split at he
     ·rename_i v hsp hcs
      obtain⟨y,hy,hxy⟩:=aI.1 he
      simp only[aH]at hxy
      obtain⟨rfl,rfl,rfl⟩:=hxy
      have hc:=cell_of hp.1 hb hsp hcs
      simp only[Sem.run,hc]
      exact ih v hs x y.1 y.2.1 y.2.2 hy hp.2 w hw hn
     ·cases he
    ·rename_i v _
     obtain⟨y,hy,hxy⟩:=aI.1 he
     simp only[aH]at hxy
     obtain⟨rfl,rfl,rfl⟩:=hxy
     obtain⟨h1,h2,h3,h4⟩:=hp
     have hc:=cell_of h1 hb h2 h3
     simp only[Sem.run,hc]
     exact ih v hs x y.1 y.2.1 y.2.2 hy h4 w hw hn
   ·cases he
 | store m ad v k ih=>
  intro hs x a' x' p he hp w hw hn
  cases hs with
  | nil=>simp[ex]at he
  | cons hh hs=>
   cases hh with
   | r i ov=>simp[ex]at he
   | o i ov=>
    simp only[ex]at he
    split at he
    ·rename_i b cs e fz hg
     have hb:=hw.own (b,.cells cs e fz) (ae hg)
     split at he
     ·have key:ad.block=b→ad.spot=none→v.oneCell'=true→ad.off<cs.size →
        ∃w1,(Sem.store m ad v k).run P w=k.run P w1∧wA (x.h.set i (b,.cells (cs.setIfInBounds ad.off v) e (0,0))) r w1∧Nu nu x.k w1 ∧
         ∀wr:List Nat,i∈wr→wU x.h (x.h.set i (b,.cells (cs.setIfInBounds ad.off v) e (0,0))) wr w w1:=by
       intro h1 h2 h3 h4
       have hc:w.cell? ad=some cs[ad.off]:=cell_of h1 hb h2 (fR h4)
       have hf:w.frozen? ad=false:=by simp[World.frozen?,h1,hb]
       refine⟨_,?_,AI hw hg (o':=.cells (cs.setIfInBounds ad.off v) e (0,0)),?_,fun wr hwr=>A4 hg hwr⟩
       ·have hst:(Sem.store m ad v k).run P w=k.run P (w.setCell ad v):=by
         cases v <;> first|(simp only[Sem.run,hc,hf];rfl)|(simp[Value.oneCell']at h3)
        rw[hst,setCell_eq h1 hb h2]
       ·intro j;simpa using hn j
      split at he
      ·split at he
       ·rename_i hlt
        obtain⟨y,hy,hxy⟩:=aI.1 he
        simp only[aH]at hxy
        obtain⟨rfl,rfl,rfl⟩:=hxy
        obtain⟨h1,h2,h3,hp⟩:=hp
        obtain⟨w1,hrun,ho,N2,hd⟩:=key h1 h2 h3 (Nat.lt_of_succ_le (bP hlt))
        obtain⟨hsub,w2,Ch,JB,rF,JG⟩:=ih hs _ y.1 y.2.1 y.2.2 hy hp w1 ho N2
        exact⟨fun j hj=>hsub j (bk _ hj),w2,hrun.trans Ch,JB,rF,(hd _ (hsub i (bl ..))).trans JG⟩
       ·cases he
      ·obtain⟨y,hy,hxy⟩:=aI.1 he
       simp only[aH]at hxy
       obtain⟨rfl,rfl,rfl⟩:=hxy
       obtain⟨h1,h2,h3,h4,hp⟩:=hp
       obtain⟨w1,hrun,ho,N2,hd⟩:=key h1 h2 h3 h4
       obtain⟨hsub,w2,Ch,JB,rF,JG⟩:=ih hs _ y.1 y.2.1 y.2.2 hy hp w1 ho N2
       exact⟨fun j hj=>hsub j (bk _ hj),w2,hrun.trans Ch,JB,rF,(hd _ (hsub i (bl ..))).trans JG⟩
     ·cases he
    ·cases he
 | new o k ih=>
  intro hs x a' x' p he hp w hw hn
  simp only[ex]at he
  simp only[Sem.run]
  rw[hn.now]at he
  obtain⟨hsub,w2,Ch,JB,rF,JG⟩:=ih w.heap.size hs _ a' x' p he hp _ (J' hw o) (hn.push o)
  exact⟨hsub,w2,Ch,JB,rF,(KV o).trans JG⟩
 | shape rr k ih=>
  intro hs x a' x' p he hp w hw hn
  cases hs with
  | nil=>simp[ex]at he
  | cons hh hs=>
   simp only[ex]at he
   split at he
   ·rename_i b cs e fz hg
    have hb:=hw.get hg
    obtain⟨y,hy,hxy⟩:=aI.1 he
    simp only[aH]at hxy
    obtain⟨rfl,rfl,rfl⟩:=hxy
    obtain⟨h0,hp⟩:=hp;obtain rfl:rr=b:=h0
    have hsh:w.shape? rr=some (e,cs.size):=by simp[World.shape?,hb]
    simp only[Sem.run,hsh]
    exact ih _ hs x y.1 y.2.1 y.2.2 hy hp w hw hn
   ·cases he
 | frozen ad k ih=>
  intro hs x a' x' p he hp w hw hn
  cases hs with
  | nil=>simp[ex]at he
  | cons hh hs=>
   simp only[ex]at he
   split at he
   ·rename_i b cs e fz hg
    have hb:=hw.get hg
    split at he
    ·obtain⟨y,hy,hxy⟩:=aI.1 he
     simp only[aH]at hxy
     obtain⟨rfl,rfl,rfl⟩:=hxy
     obtain⟨h1,hp⟩:=hp
     simp only[Ob.ok]at h1
     have hsh:w.frozen? ad=false:=by simp[World.frozen?,h1,hb]
     simp only[Sem.run,hsh]
     exact ih _ hs x y.1 y.2.1 y.2.2 hy hp w hw hn
    ·cases he
   ·cases he
 | getObj rr k ih=>
  intro hs x a' x' p he hp w hw hn
  cases hs with
  | nil=>simp[ex]at he
  | cons hh hs=>
   simp only[ex]at he
   split at he
   ·cases he
   ·rename_i b o hnot hg
    have hb:=hw.get hg
    obtain⟨y,hy,hxy⟩:=aI.1 he
    simp only[aH]at hxy
    obtain⟨rfl,rfl,rfl⟩:=hxy
    obtain⟨h0,hp⟩:=hp;obtain rfl:rr=b:=h0
    have hrun:(Sem.getObj rr k).run P w=(k o).run P w:=by
     simp only[Sem.run,hb]
    rw[hrun]
    exact ih _ hs x y.1 y.2.1 y.2.2 hy hp w hw hn
   ·cases he
 | setObj rr o k ih=>
  intro hs x a' x' p he hp w hw hn
  cases hs with
  | nil=>simp[ex]at he
  | cons hh hs=>
   cases hh with
   | r i ov=>simp[ex]at he
   | o i ov=>
    simp only[ex]at he
    split at he
    ·cases he
    ·rename_i b o' hnot hg
     have hb:=hw.own (b,o') (ae hg)
     obtain⟨y,hy,hxy⟩:=aI.1 he
     simp only[aH]at hxy
     obtain⟨rfl,rfl,rfl⟩:=hxy
     obtain⟨h0,hp⟩:=hp;obtain rfl:rr=b:=h0
     have hrun:(Sem.setObj rr o k).run P w=k.run P { w with heap:=w.heap.setIfInBounds rr o }:=by
      simp only[Sem.run,hb]
     rw[hrun]
     obtain⟨hsub,w2,Ch,JB,rF,JG⟩:=ih hs _ y.1 y.2.1 y.2.2 hy hp _ (AI hw hg) (fun j=>by simpa using hn j)
     exact⟨fun j hj=>hsub j (bk _ hj),w2,Ch,JB,rF,(A4 hg (hsub i (bl ..))).trans JG⟩
    ·cases he
 | program k ih=>intro hs x a' x' p he hp w hw hn;simp only[ex]at he;simp only[Sem.run];exact ih P hs x a' x' p he hp w hw hn
 | mark m k ih=>intro hs x a' x' p he hp w hw hn;simp only[ex]at he;simp only[Sem.run];exact ih hs x a' x' p he hp w hw hn
 | choose q k ih=>
  intro hs x a' x' p he hp w hw hn
  simp only[ex]at he
  split at he
  ·rename_i hq
   simp only[Sem.run,hq,if_true]
   exact ih 0 hs x a' x' p he hp w hw hn
  ·cases he
 | freeze a n k ih=>intro hs x a' x' p he;simp[ex]at he
 | sys c k ih=>intro hs x a' x' p he;simp[ex]at he
 | halt hh=>intro hs x a' x' p he;simp[ex]at he
end Go.Sx
end
section
namespace Go.Sx
open Go
inductive EV where
  | val (v:Value)
  | gd (c want:Bool) (v:Value)
def EV.now:EV→Value
  | .val v=>v
  | .gd c want v=>if (c==want)=true then v else undef
def EV.raw:EV→Value
  | .val v=>v
  | .gd _ _ v=>v
abbrev Env:=List (Nat×EV)
class Dfr (n:Nat) where
  ds:List Deferred
instance (n:Nat):Dfr n:=⟨[]⟩
def pins (f:Func):List Nat:=f.results.toList.filterMap fun
  | .cell a _=>some a
  | .tmp _=>none
def qx (f:Func):Option Tmp→Bool
  | some d=>!(pins f).contains d
  | none=>true
class Pan (f:Func) where
  NZ:List PanicEntry→Act→World→Prop
  put:∀c a d v w,qx f d=true→NZ c (a.put d v) w→NZ c a w
instance (f:Func):Pan f:=⟨fun _ _ _=>False,fun _ _ _ _ _ _ h=>h⟩
structure Ag (n:Nat) [Dfr n] (E:Env) (a:Act):Prop where
  defers:a.defers=Dfr.ds n
  size:a.tmps.size=n
  look:∀t ev,E.lookup t=some ev→a.tmps[t]?=some ev.now
def Env.put (E:Env) (dst:Option Tmp) (ev:EV):Env:=match dst with
  | some d=>(d,ev)::E
  | none=>E
def nT (n:Nat):Option Tmp→Bool
  | some d=>Nat.blt d n
  | none=>true
theorem lookup_cons_self {α:Type} (k:Nat) (v:α) (l:List (Nat×α)):((k,v)::l).lookup k=some v:=by simp[kO]
theorem mJ {α:Type} {j k:Nat} (v:α) (l:List (Nat×α)) (h:j≠k):((k,v)::l).lookup j=l.lookup j:=by
  have:(j==k)=false:=by simpa using h
  simp[kO,this]
theorem Ag.put {n:Nat} [Dfr n] {E:Env} {a:Act} (h:Ag n E a) {dst:Option Tmp} (hd:nT n dst=true) (ev:EV):Ag n (E.put dst ev) (a.put dst ev.now):=by
  cases dst with
  | none=>exact h
  | some d=>
    have hlt:d<n:=Nat.lt_of_succ_le (bP hd)
    refine⟨h.defers,by simp[Act.put,h.size],fun t e he=>?_⟩
    simp only[Act.put,Env.put]at he ⊢
    by_cases ht:t=d
    · subst ht
      rw[lookup_cons_self]at he
      obtain rfl:=dG he
      simp[h.size,hlt]
    · rw[mJ _ _ ht]at he
      rw[iv,if_neg (Ne.symm ht)]
      exact h.look t e he
theorem Ag.sub {n:Nat} [Dfr n] {E E':Env} {a:Act} (h:Ag n E a) (hs:∀t ev,E'.lookup t=some ev→E.lookup t=some ev):Ag n E' a:=
  ⟨h.defers,h.size,fun t ev he=>h.look t ev (hs t ev he)⟩
def nB (E:Env):List Nat→Env
  | []=>[]
  | t::ts=>match E.lookup t with
    | some ev=>(t,ev)::nB E ts
    | none=>nB E ts
theorem oe (E:Env):∀(ts:List Nat) (t:Nat) (ev:EV),(nB E ts).lookup t=some ev→E.lookup t=some ev
  | [],t,ev,h=>by simp[nB]at h
  | u::ts,t,ev,h=>by
    simp only[nB]at h
    split at h
    · rename_i e he
      by_cases htu:t=u
      · subst htu;rw[lookup_cons_self]at h;rw[he];exact h
      · rw[mJ _ _ htu]at h;exact oe E ts t ev h
    · exact oe E ts t ev h
inductive O3 where
  | ok
  | need (p:Ob)
  | bad
def MD (E:Env) (cd:Option (Bool×Bool)):Operand→O3
  | .tmp t=>match E.lookup t with
    | some (.val _)=>.ok
    | some (.gd c want _)=>match cd with
      | some (c',want')=>if want==want' then .need (.bb c c')else .bad
      | none=>.bad
    | none=>.bad
  | _=>.ok
def jN (E:Env) (cd:Option (Bool×Bool)):List Operand→Option (List Ob)
  | []=>some []
  | x::xs=>match MD E cd x with
    | .ok=>jN E cd xs
    | .need p=>(jN E cd xs).map fun q=>p::q
    | .bad=>none
def mG (E:Env):Operand→Value
  | .tmp t=>match E.lookup t with
    | some ev=>ev.raw
    | none=>undef
  | .const v=>v
  | .global g=>.pointer (some ⟨g,0,none⟩)
  | .func f=>.func (.func f) #[] #[]
theorem eG {n:Nat} [Dfr n] {E:Env} {a:Act} (h:Ag n E a) {cd:Option (Bool×Bool)} (hcd:∀c w,cd=some (c,w)→c=w):∀(xs:List Operand) (p:List Ob),jN E cd xs=some p→th p →
    ∀x∈xs,a.eval x=mG E x
  | [],_,_,_,x,hx=>by cases hx
  | y::ys,p,hp,hq,x,hx=>by
    simp only[jN]at hp
    have head:∀t ev,E.lookup t=some ev→ev.now=ev.raw→a.eval (.tmp t)=mG E (.tmp t):=fun t ev he hr=>by
      simp[Act.eval,mG,he,h.look t ev he,hr]
    split at hp
    · rename_i hok
      rcases cE.1 hx with rfl|hx
      · cases x with
        | tmp t=>
          simp only[MD]at hok
          split at hok
          · rename_i v he;exact head t _ he rfl
          · split at hok
            · split at hok <;> cases hok
            · cases hok
          · cases hok
        | const v=>rfl
        | global g=>rfl
        | func f=>rfl
      · exact eG h hcd ys p hp hq x hx
    · rename_i q hok
      obtain⟨q',LO,rfl⟩:=aI.1 hp
      rcases cE.1 hx with rfl|hx
      · cases x with
        | tmp t=>
          simp only[MD]at hok
          split at hok
          · cases hok
          · rename_i c want v he
            split at hok
            · rename_i c' want'
              split at hok
              · rename_i Wr
                injection hok with hok
                subst hok
                have h1:c=c':=hq.1
                have h2:=hcd c' want' rfl
                have h3:want=want':=by simpa using Wr
                exact head t _ he (by simp[EV.now,EV.raw,h1,h2,h3])
              · cases hok
            · cases hok
          · cases hok
        | const v=>cases hok
        | global g=>cases hok
        | func f=>cases hok
      · exact eG h hcd ys q' LO hq.2 x hx
    · cases hp
def NI (ρ:Operand→Value):Option Operand→Option (Option Int)
  | none=>some none
  | some x=>match ρ x with
    | .int _ i=>some (some i)
    | _=>none
theorem nG {ρ:Operand→Value} {x:Option Operand} (h:NI ρ x=some none):x=none:=by
  cases x with
  | none=>rfl
  | some y=>
    simp only[NI]at h
    split at h <;> simp at h
theorem nF {ρ:Operand→Value} {x:Option Operand} {i:Int} (h:NI ρ x=some (some i)):∃y k,x=some y∧ρ y=.int k i:=by
  cases x with
  | none=>simp[NI]at h
  | some y=>
    simp only[NI]at h
    split at h
    · rename_i k j hy
      simp only[az]at h
      subst h
      exact⟨y,k,rfl,hy⟩
    · cases h
def R3 (P:Program) (ρ:Operand→Value) (full:Bool):Op→Option (Value×List Ob)
  | .slice t x lo hi none=>match NI ρ lo,NI ρ hi with
    | some l,some h=>match ρ x with
      | .slice a len cap=>match P.underlying t with
        | some (.slice e)=>match P.info? e with
          | some inf=>match l,h with
            | none,none=>some (.slice a len cap,[])
            | none,some h=>some (.slice a h.toNat cap,[.pp (0≤h),.pp (h≤cap)])
            | some l,none=>if full then some (.slice a 0 0,[.pp (l=cap),.pp (len=cap)])else match a with
              | some ⟨b,off,none⟩=>some (.slice (some ⟨b,off+l.toNat*inf.size,none⟩) (len - l.toNat) (cap - l.toNat),[.pp (0≤l),.pp (l≤len),.pp (l<cap)])
              | _=>none
            | some l,some h=>match a with
              | some ⟨b,off,none⟩=>some (.slice (some ⟨b,off+l.toNat*inf.size,none⟩) (h.toNat - l.toNat) (cap - l.toNat),[.pp (0≤l),.pp (l≤h),.pp (h≤cap),.pp (l<cap)])
              | _=>none
          | none=>none
        | _=>none
      | .string s=>match P.underlying t with
        | some .string=>match l,h with
          | none,none=>some (.string (s.extract 0 s.size),[])
          | none,some h=>some (.string (s.extract 0 h.toNat),[.pp (0≤h),.pp (h≤s.size)])
          | some l,none=>some (.string (s.extract l.toNat s.size),[.pp (0≤l),.pp (l≤s.size)])
          | some l,some h=>some (.string (s.extract l.toNat h.toNat),[.pp (0≤l),.pp (l≤h),.pp (h≤s.size)])
        | _=>none
      | _=>none
    | _,_=>none
  | _=>none
theorem rU (b off n:Nat):(⟨b,off,none⟩:Addr).add n=⟨b,off+n,none⟩:=by
  unfold Addr.add
  split
  · rename_i h0;rw[h0];rfl
  · rfl
theorem k8 {P:Program} {k:IntKind} {i:Int} {y:Nat} {c:BoundsCode} {w:World} (h0:0≤i) (h1:i≤y):(Instr.sliceBound (.int k i) y c).run P w=.ok i.toNat w:=by
  simp[Instr.sliceBound,asIntOf,h0,h1]
theorem vT (a:Addr):a.add 0=a:=by simp[Addr.add]
theorem zx {P:Program} {ρ:Operand→Value} {full:Bool} {o:Oper} {v:Value} {p:List Ob} (h:R3 P ρ full o.op=some (v,p)) (hp:th p) (w:World) :
    (execOp ρ o).run P w=.ok (.value v) w:=by
  unfold R3 at h
  split at h
  case h_2=>cases h
  rename_i t x lo hi hop
  split at h
  case h_2=>cases h
  rename_i l hh hl LU
  split at h
  · rename_i a len cap hx
    split at h
    case h_2=>cases h
    rename_i e hu
    split at h
    case h_2=>cases h
    rename_i inf hi'
    have hsz:(sizeOf e).run P w=.ok inf.size w:=by simp[sizeOf,typeInfo,hi']
    split at h
    · obtain rfl:=nG hl
      obtain rfl:=nG LU
      simp only[az,aH]at h
      obtain⟨rfl,rfl⟩:=h
      cases a <;> simp[execOp,hop,hx,Instr.sliceAt,Instr.slice,Instr.sliceBounds,run_underlying hu,hsz,vT]
    · rename_i h'
      obtain rfl:=nG hl
      obtain⟨y,k,rfl,hy⟩:=nF LU
      simp only[az,aH]at h
      obtain⟨rfl,rfl⟩:=h
      have h0:=hp.1
      have h1:=hp.2.1
      simp only[Ob.ok]at h0 h1
      cases a <;> simp[execOp,hop,hx,hy,Instr.sliceAt,Instr.slice,Instr.sliceBounds,run_underlying hu,hsz,k8 h0 h1,vT]
    · rename_i l'
      obtain rfl:=nG LU
      obtain⟨y,k,rfl,hy⟩:=nF hl
      split at h
      · simp only[az,aH]at h
        obtain⟨rfl,rfl⟩:=h
        have h0:=hp.1
        have h1:=hp.2.1
        simp only[Ob.ok]at h0 h1
        subst h0 h1
        have hb:∀c,(Instr.sliceBound (.int k (len:Int)) len c).run P w=.ok len w:=fun c=>by rw[k8 (by omega) (by omega)];simp
        simp[execOp,hop,hx,hy,Instr.sliceAt,Instr.slice,Instr.sliceBounds,run_underlying hu,hsz,hb]
      · split at h
        case h_2=>cases h
        rename_i b off
        simp only[az,aH]at h
        obtain⟨rfl,rfl⟩:=h
        have h0:=hp.1
        have h1:=hp.2.1
        have h2:=hp.2.2.1
        simp only[Ob.ok]at h0 h1 h2
        have hne:¬cap=l'.toNat:=by omega
        simp[execOp,hop,hx,hy,Instr.sliceAt,Instr.slice,Instr.sliceBounds,run_underlying hu,hsz,k8 h0 h1,hne,rU]
    · rename_i l' h'
      obtain⟨y,k,rfl,hy⟩:=nF hl
      obtain⟨y2,k2,rfl,Jx⟩:=nF LU
      split at h
      case h_2=>cases h
      rename_i b off
      simp only[az,aH]at h
      obtain⟨rfl,rfl⟩:=h
      have h0:=hp.1
      have h1:=hp.2.1
      have h2:=hp.2.2.1
      have h3:=hp.2.2.2.1
      simp only[Ob.ok]at h0 h1 h2 h3
      have hne:¬cap=l'.toNat:=by omega
      have h4:l'≤(h'.toNat:Int):=by omega
      simp[execOp,hop,hx,hy,Jx,Instr.sliceAt,Instr.slice,Instr.sliceBounds,run_underlying hu,hsz,k8 (show 0≤h' by omega) h2,k8 h0 h4,hne,rU]
  · rename_i s hx
    split at h
    case h_2=>cases h
    rename_i hu
    split at h
    · obtain rfl:=nG hl
      obtain rfl:=nG LU
      simp only[az,aH]at h
      obtain⟨rfl,rfl⟩:=h
      simp[execOp,hop,hx,Instr.sliceAt,Instr.slice,Instr.sliceBounds,run_underlying hu]
    · rename_i h'
      obtain rfl:=nG hl
      obtain⟨y,k,rfl,hy⟩:=nF LU
      simp only[az,aH]at h
      obtain⟨rfl,rfl⟩:=h
      have h0:=hp.1
      have h1:=hp.2.1
      simp only[Ob.ok]at h0 h1
      simp[execOp,hop,hx,hy,Instr.sliceAt,Instr.slice,Instr.sliceBounds,run_underlying hu,k8 h0 h1]
    · rename_i l'
      obtain rfl:=nG LU
      obtain⟨y,k,rfl,hy⟩:=nF hl
      simp only[az,aH]at h
      obtain⟨rfl,rfl⟩:=h
      have h0:=hp.1
      have h1:=hp.2.1
      simp only[Ob.ok]at h0 h1
      simp[execOp,hop,hx,hy,Instr.sliceAt,Instr.slice,Instr.sliceBounds,run_underlying hu,k8 h0 h1]
    · rename_i l' h'
      obtain⟨y,k,rfl,hy⟩:=nF hl
      obtain⟨y2,k2,rfl,Jx⟩:=nF LU
      simp only[az,aH]at h
      obtain⟨rfl,rfl⟩:=h
      have h0:=hp.1
      have h1:=hp.2.1
      have h2:=hp.2.2.1
      simp only[Ob.ok]at h0 h1 h2
      have h4:l'≤(h'.toNat:Int):=by omega
      simp[execOp,hop,hx,hy,Jx,Instr.sliceAt,Instr.slice,Instr.sliceBounds,run_underlying hu,k8 (show 0≤h' by omega) h2,k8 h0 h4]
  · cases h
def QL (P:Program) (op:BinOp) (t:TypeId) (x y:Operand) (a b v:Value):Prop:=∀w,(eqGuard op t x y a b).run P w=.ok () w∧(binOp op t a b).run P w=.ok v w
def Tr (P:Program) (ρ:Operand→Value) (o:Oper) (ov:Nat) (hs:List Hn):Option (Value×List Ob):=
  match ov with
  | 1=>match o.op with
    | .binOp op _ x y _=>match ρ x,ρ y with
      | .int k a,.int k' b=>if k=k' then match op with
        | .add=>some (.int k (a+b),[.pp (k.wrap (a+b)=a+b)])
        | .sub=>some (.int k (a - b),[.pp (k.wrap (a - b)=a - b)])
        | .mul=>some (.int k (a*b),[.pp (k.wrap (a*b)=a*b)])
        | _=>none
        else none
      | _,_=>none
    | _=>none
  | 2=>match o.op with
    | .indexAddr t x ix=>match ρ x,ρ ix with
      | .slice (some ⟨b,off,none⟩) len _,.int _ i=>match P.underlying t with
        | some (.slice e)=>match P.info? e with
          | some inf=>some (.pointer (some ⟨b,off+i.toNat*inf.size,none⟩),[.pp (0≤i),.pp (i<len)])
          | none=>none
        | _=>none
      | _,_=>none
    | _=>none
  | 4=>R3 P ρ false o.op
  | 5=>R3 P ρ true o.op
  | 6=>match s9 P [] [] (execOp ρ o) []with
    | some (.value (.bool b),p)=>some (.bool true,p++[.pp (b=true)])
    | _=>none
  | 7=>match s9 P [] [] (execOp ρ o) []with
    | some (.value (.bool b),p)=>some (.bool false,p++[.pp (b=false)])
    | _=>none
  | 9=>match hs with
    | .r _ (some v)::_=>some (v,[.pp (∀w,(execOp ρ o).run P w=.ok (.value v) w)])
    | _=>none
  | 10=>match hs with
    | .r _ (some v)::_=>match o.op with
      | .binOp op t x y _=>some (v,[.pp (QL P op t x y (ρ x) (ρ y) v)])
      | _=>none
    | _=>none
  | _=>none
theorem Fz {P:Program} {ρ:Operand→Value} {o:Oper} {ov:Nat} {hs:List Hn} {v:Value} {p:List Ob} (h:Tr P ρ o ov hs=some (v,p)) (hp:th p) (w:World) :
    (execOp ρ o).run P w=.ok (.value v) w:=by
  unfold Tr at h
  split at h
  · split at h
    · rename_i op t x y yt hop
      split at h
      · rename_i k a k' b hx hy
        split at h
        · rename_i hk
          subst hk
          split at h <;> first
            | (simp only[az,aH]at h
               obtain⟨rfl,rfl⟩:=h
               have h0:=hp.1
               simp only[Ob.ok]at h0
               simp[execOp,hop,hx,hy,eqGuard,binOp,Op.intArith,h0,bind,Sem.bind,pure])
            | cases h
        · cases h
      · cases h
    · cases h
  · split at h
    · rename_i t x ix hop
      split at h
      · rename_i b off len cap k i hx Sf
        split at h
        · rename_i e hu
          split at h
          · rename_i inf hi
            simp only[az,aH]at h
            obtain⟨rfl,rfl⟩:=h
            have DG:(⟨b,off,none⟩:Addr).add (i.toNat*inf.size)=⟨b,off+i.toNat*inf.size,none⟩:=by
              unfold Addr.add
              split
              · rename_i h0;rw[h0];rfl
              · rfl
            have h0:=hp.1
            have h1:=hp.2.1
            simp only[Ob.ok]at h0 h1
            simp[execOp,hop,hx,Sf,Instr.indexAt,asIntOf,run_underlying hu,sizeOf,typeInfo,hi,h0,h1,DG]
          · cases h
        · cases h
      · cases h
    · cases h
  · exact zx h hp w
  · exact zx h hp w
  all_goals first
    | (split at h
       · rename_i b q hb
         simp only[az,aH]at h
         obtain⟨rfl,rfl⟩:=h
         obtain⟨hp1,hp2⟩:=gj hp
         have h3:=hp2.1
         simp only[Ob.ok]at h3
         subst h3
         exact sE _ _ _ _ hb hp1 w (by simp[used])
       · cases h)
    | skip
  · split at h
    · simp only[az,aH]at h
      obtain⟨rfl,rfl⟩:=h
      exact hp.1 w
    · cases h
  · split at h
    · split at h
      · rename_i op t x y yt hop
        simp only[az,aH]at h
        obtain⟨rfl,rfl⟩:=h
        have h0:=hp.1
        simp only[Ob.ok]at h0
        obtain⟨h1,h2⟩:=h0 w
        simp only[execOp,hop,Sem.run_bind,Sem.run_pure,Result.andThen_ok,h1,h2]
      · cases h
    · cases h
  · cases h
def rd (P:Program) (ρ:Operand→Value) (o:Oper) (ov:Nat) (h r:List (Nat×Obj)) (hs:List Hn):Option (Value×List Ob):=
  match ov with
  | 0=>match s9 P h r (execOp ρ o) hs with
    | some (.value v,p)=>some (v,p)
    | _=>none
  | _=>Tr P ρ o ov hs
theorem HC {P:Program} {ρ:Operand→Value} {o:Oper} {ov:Nat} {h r:List (Nat×Obj)} {hs:List Hn} {v:Value} {p:List Ob} (he:rd P ρ o ov h r hs=some (v,p)) (hp:th p)
    (w:World) (hw:Hp (used h r hs) w):(execOp ρ o).run P w=.ok (.value v) w:=by
  unfold rd at he
  split at he
  · split at he
    · rename_i v' p' hx
      simp only[az,aH]at he
      obtain⟨rfl,rfl⟩:=he
      exact sE _ hs _ _ hx hp w hw
    · cases he
  · exact Fz he hp w
def zX:Op→Bool
  | .select ..=>true
  | _=>false
def guardOf (E:Env) (ops:Array Oper) (j:Nat):Option Bool:=match ops[j]? with
  | some oj=>match oj.dst with
    | some d=>match E.lookup d with
      | some (.val (.bool c))=>some c
      | _=>none
    | none=>none
  | none=>none
theorem ki {n:Nat} [Dfr n] {E:Env} {a:Act} (h:Ag n E a) {ops:Array Oper} {j:Nat} {c:Bool} (hg:guardOf E ops j=some c):yielded ops a.tmps j=some c:=by
  unfold guardOf at hg
  split at hg
  · rename_i oj hj
    split at hg
    · rename_i d hd
      split at hg
      · rename_i c' he
        obtain rfl:=dG hg
        have:=h.look d _ he
        simp[yielded,hj,hd,this,EV.now]
      · cases hg
    · cases hg
  · cases hg
def wM (E:Env) (ops:Array Oper) (j:Nat):Bool:=match ops[j]? with
  | some oj=>match oj.dst with
    | some d=>match E.lookup d with
      | some (.val (.tuple c))=>c.isEmpty
      | _=>false
    | none=>false
  | none=>false
theorem sQ {n:Nat} [Dfr n] {E:Env} {a:Act} (h:Ag n E a) {ops:Array Oper} {j:Nat} (hu:wM E ops j=true):yielded ops a.tmps j=none:=by
  unfold wM at hu
  split at hu
  · rename_i oj hj
    split at hu
    · rename_i d hd
      split at hu
      · rename_i c he
        have:=h.look d _ he
        simp[yielded,hj,hd,this,EV.now]
      · cases hu
    · cases hu
  · cases hu
def HG (E:Env):Op→Option (Value×List Ob)
  | .pick (.tmp tc) (.const (.bool true)) (.tmp tb)=>match E.lookup tc,E.lookup tb with
    | some (.val (.bool c)),some (.gd c' false (.bool b))=>some (.bool (c||b),[.bb c' c])
    | _,_=>none
  | .pick (.tmp tc) (.tmp ta) (.const (.bool false))=>match E.lookup tc,E.lookup ta with
    | some (.val (.bool c)),some (.gd c' true (.bool b))=>some (.bool (c&&b),[.bb c' c])
    | _,_=>none
  | _=>none
theorem BZ {P:Program} {n:Nat} [Dfr n] {E:Env} {a:Act} (h:Ag n E a) {o:Oper} {v:Value} {p:List Ob} (he:HG E o.op=some (v,p)) (hp:th p) (w:World):(execOp a.eval o).run P w=.ok (.value v) w:=by
  unfold HG at he
  split at he
  · rename_i tc tb hop
    split at he
    · rename_i c c' b h1 h2
      simp only[az,aH]at he
      obtain⟨rfl,rfl⟩:=he
      obtain rfl:c'=c:=hp.1
      have e1:=h.look _ _ h1
      have e2:=h.look _ _ h2
      cases c' <;> simp[execOp,hop,Act.eval,e1,e2,EV.now,asBool]
    · cases he
  · rename_i tc ta hop
    split at he
    · rename_i c c' b h1 h2
      simp only[az,aH]at he
      obtain⟨rfl,rfl⟩:=he
      obtain rfl:c'=c:=hp.1
      have e1:=h.look _ _ h1
      have e2:=h.look _ _ h2
      cases c' <;> simp[execOp,hop,Act.eval,e1,e2,EV.now,asBool]
    · cases he
  · cases he
def QU (P:Program) (E:Env) (o:Oper) (cd:Option (Bool×Bool)) (ov:Nat) (h r:List (Nat×Obj)) (hs:List Hn):Option (Value×List Ob):=
  if zX o.op then none else match ov with
  | 3=>HG E o.op
  | _=>match jN E cd o.op.operands.toList with
    | some q=>match rd P (mG E) o ov h r hs with
      | some (v,p)=>some (v,q++p)
      | none=>none
    | none=>none
theorem vP {P:Program} {n:Nat} [Dfr n] {E:Env} {a:Act} (hA:Ag n E a) {o:Oper} {cd:Option (Bool×Bool)} (hcd:∀c w,cd=some (c,w)→c=w) {ov:Nat} {h r:List (Nat×Obj)} {hs:List Hn} {v:Value} {p:List Ob}
    (he:QU P E o cd ov h r hs=some (v,p)) (hp:th p) (w:World) (hw:Hp (used h r hs) w):(execOp a.eval o).run P w=.ok (.value v) w:=by
  unfold QU at he
  split at he
  · cases he
  rename_i hsel
  split at he
  · exact BZ hA he hp w
  · split at he
    · rename_i q hq
      split at he
      · rename_i v' p' hrd
        simp only[az,aH]at he
        obtain⟨rfl,rfl⟩:=he
        rw[execOp_congr (ρ':=mG E) o (fun cs b hc=>by rw[hc]at hsel;exact hsel rfl) (fun x hx=>eG hA hcd _ _ hq (gj hp).1 x (by simpa using hx))]
        exact HC hrd (gj hp).2 w hw
      · cases he
    · cases he
def xo (P:Program) (n:Nat) (ops:Array Oper) (h r:List (Nat×Obj)) (E:Env) (i:Nat) (hs:List Hn) (m ov:Nat):Option (Env×List Ob):=
  match ops[i]? with
  | none=>none
  | some o=>if nT n o.dst then match o.guard with
    | none=>match QU P E o none ov h r hs with
      | some (v,p)=>some (E.put o.dst (.val v),p)
      | none=>none
    | some (j,want)=>match guardOf E ops j with
      | none=>if wM E ops j then some (E.put o.dst (.val undef),[])else none
      | some c=>match m with
        | 0=>match QU P E o (some (c,want)) ov h r hs with
          | some (v,p)=>some (E.put o.dst (.val v),.bb c want::p)
          | none=>none
        | 1=>some (E.put o.dst (.val undef),[.bb c (!want)])
        | _=>match QU P E o (some (c,want)) ov h r hs with
          | some (v,p)=>some (E.put o.dst (.gd c want v),p.map (Ob.under c want))
          | none=>none
    else none
theorem BI {P:Program} {n:Nat} [Dfr n] {ops:Array Oper} {h r:List (Nat×Obj)} {E E':Env} {i:Nat} {hs:List Hn} {m ov:Nat} {p:List Ob} (he:xo P n ops h r E i hs m ov=some (E',p)) (hp:th p)
    {a:Act} (hA:Ag n E a):∃o v,ops[i]?=some o∧YieldsIf P ops (Hp (used h r hs)) o v a∧Ag n E' (a.put o.dst v):=by
  unfold xo at he
  split at he
  · cases he
  rename_i o ho
  split at he
  case isFalse=>cases he
  rename_i hd
  split at he
  · rename_i hg
    split at he
    · rename_i v p' hx
      simp only[az,aH]at he
      obtain⟨rfl,rfl⟩:=he
      exact⟨o,v,ho,.inl ⟨by simp[Region.wanted,hg],fun w hw=>vP hA (fun c w h=>by cases h) hx hp w hw⟩,hA.put hd (.val v)⟩
    · cases he
  · rename_i j want hg
    split at he
    · split at he
      · rename_i hu
        simp only[az,aH]at he
        obtain⟨rfl,rfl⟩:=he
        exact⟨o,undef,ho,.inr ⟨by simp[Region.wanted,hg,sQ hA hu],rfl⟩,hA.put hd (.val undef)⟩
      · cases he
    rename_i c hc
    have hy:=ki hA hc
    split at he
    · split at he
      · rename_i v p' hx
        simp only[az,aH]at he
        obtain⟨rfl,rfl⟩:=he
        obtain⟨vl,hp⟩:=hp
        simp only[Ob.ok]at vl
        exact⟨o,v,ho,.inl ⟨by simp[Region.wanted,hg,hy,vl],fun w hw=>vP hA (fun c' w h=>by injection h with h;injection h with h1 h2;rw[←h1,←h2];exact vl) hx hp w hw⟩,hA.put hd (.val v)⟩
      · cases he
    · simp only[az,aH]at he
      obtain⟨rfl,rfl⟩:=he
      have hne:c≠want:=by have h0:c=!want:=hp.1;subst h0;cases want <;> simp
      exact⟨o,undef,ho,.inr ⟨by simp[Region.wanted,hg,hy,hne],rfl⟩,hA.put hd (.val undef)⟩
    · split at he
      · rename_i v p' hx
        simp only[az,aH]at he
        obtain⟨rfl,rfl⟩:=he
        refine⟨o,(EV.gd c want v).now,ho,?_,hA.put hd (.gd c want v)⟩
        by_cases vl:c=want
        · refine .inl ⟨by simp[Region.wanted,hg,hy,vl],fun w hw=>?_⟩
          have:=vP hA (fun c' w h=>by injection h with h;injection h with h1 h2;rw[←h1,←h2];exact vl) hx (Ap vl hp) w hw
          rw[this]
          simp[EV.now,vl]
        · exact .inr ⟨by simp[Region.wanted,hg,hy,vl],by simp[EV.now,vl]⟩
      · cases he
def Sl (P:Program) (nu:Nat→Nat) (E:Env) (o:Oper) (cd:Option (Bool×Bool)) (r:List (Nat×Obj)) (hs:List Hn) (x:XS):Option (Value×XS×List Ob):=
  if zX o.op then none else match jN E cd o.op.operands.toList with
    | some q=>match ex P nu r (execOp (mG E) o) hs { x with wr:=[] }with
      | some (.value v,x',p)=>some (v,x',q++p)
      | some (.skip,x',p)=>some (undef,x',q++p)
      | _=>none
    | none=>none
theorem Ae {P:Program} {nu:Nat→Nat} {n:Nat} [Dfr n] {E:Env} {a:Act} (hA:Ag n E a) {o:Oper} {cd:Option (Bool×Bool)} (hcd:∀c w,cd=some (c,w)→c=w) {r:List (Nat×Obj)} {hs:List Hn} {x x':XS} {v:Value} {p:List Ob}
    (he:Sl P nu E o cd r hs x=some (v,x',p)) (hp:th p) {w:World} (hw:wA x.h r w) (hn:Nu nu x.k w) {K:Act→World→Prop} {Q:Exit→Act→World→Prop}
    (h:∀w',wA x'.h r w'→Nu nu x'.k w'→wU x.h x'.h x'.wr w w'→K (a.put o.dst v) w'):o.wp P a w K Q:=by
  unfold Sl at he
  split at he
  · cases he
  rename_i hsel
  split at he
  case h_2=>cases he
  rename_i q hq
  have pF:th q→execOp a.eval o=execOp (mG E) o:=fun LO=>execOp_congr o (fun cs b hc=>by rw[hc]at hsel;exact hsel rfl) (fun x hx=>eG hA hcd _ _ hq LO x (by simpa using hx))
  split at he
  · rename_i v' Ss p' hx
    simp only[az,aH]at he
    obtain⟨rfl,rfl,rfl⟩:=he
    obtain⟨_,w',hrun,ho,hn',hd⟩:=Cn _ hs _ _ _ _ hx (gj hp).2 w hw hn
    unfold Oper.wp
    rw[pF (gj hp).1,hrun]
    exact h w' ho hn' hd
  · rename_i Ss p' hx
    simp only[az,aH]at he
    obtain⟨rfl,rfl,rfl⟩:=he
    obtain⟨_,w',hrun,ho,hn',hd⟩:=Cn _ hs _ _ _ _ hx (gj hp).2 w hw hn
    unfold Oper.wp
    rw[pF (gj hp).1,hrun]
    exact h w' ho hn' hd
  · cases he
def G9 (P:Program) (n:Nat) (nu:Nat→Nat) (ops:Array Oper) (r:List (Nat×Obj)) (E:Env) (x:XS) (i:Nat) (hs:List Hn) (m:Nat):Option (Env×XS×List Ob):=
  match ops[i]? with
  | none=>none
  | some o=>if nT n o.dst then match o.guard with
    | none=>match Sl P nu E o none r hs x with
      | some (v,x',p)=>some (E.put o.dst (.val v),x',p)
      | none=>none
    | some (j,want)=>match guardOf E ops j with
      | none=>if wM E ops j then some (E.put o.dst (.val undef),{ x with wr:=[] },[])else none
      | some c=>match m with
        | 0=>match Sl P nu E o (some (c,want)) r hs x with
          | some (v,x',p)=>some (E.put o.dst (.val v),x',.bb c want::p)
          | none=>none
        | _=>some (E.put o.dst (.val undef),{ x with wr:=[] },[.bb c (!want)])
    else none
theorem BH {P:Program} {nu:Nat→Nat} {n:Nat} [Dfr n] {ops:Array Oper} {r:List (Nat×Obj)} {E E':Env} {x x':XS} {i:Nat} {hs:List Hn} {m:Nat} {p:List Ob} (he:G9 P n nu ops r E x i hs m=some (E',x',p)) (hp:th p)
    {a:Act} (hA:Ag n E a) {w:World} (hw:wA x.h r w) (hn:Nu nu x.k w) {K:Act→World→Prop} {Q:Exit→Act→World→Prop}
    (h:∀a' w',Ag n E' a'→wA x'.h r w'→Nu nu x'.k w'→wU x.h x'.h x'.wr w w'→K a' w'):wpOp P ops Q i K a w:=by
  unfold G9 at he
  split at he
  · cases he
  rename_i o ho
  split at he
  case isFalse=>cases he
  rename_i hd
  unfold wpOp
  simp only[ho]
  split at he
  · rename_i hg
    split at he
    · rename_i v Ss p' hx
      simp only[az,aH]at he
      obtain⟨rfl,rfl,rfl⟩:=he
      rw[if_pos (by simp[Region.wanted,hg])]
      exact .inl (Ae hA (fun c w h=>by cases h) hx hp hw hn fun w' h1 h2 h3=>h _ w' (hA.put hd (.val v)) h1 h2 h3)
    · cases he
  · rename_i j want hg
    split at he
    · split at he
      · rename_i hu
        simp only[az,aH]at he
        obtain⟨rfl,rfl,rfl⟩:=he
        rw[if_neg (by simp[Region.wanted,hg,sQ hA hu])]
        exact h _ w (hA.put hd (.val undef)) hw hn (wU.refl _ _ _)
      · cases he
    rename_i c hc
    have hy:=ki hA hc
    split at he
    · split at he
      · rename_i v Ss p' hx
        simp only[az,aH]at he
        obtain⟨rfl,rfl,rfl⟩:=he
        obtain⟨vl,hp⟩:=hp
        simp only[Ob.ok]at vl
        rw[if_pos (by simp[Region.wanted,hg,hy,vl])]
        exact .inl (Ae hA (fun c' w h=>by injection h with h;injection h with h1 h2;rw[←h1,←h2];exact vl) hx hp hw hn fun w' h1 h2 h3=>h _ w' (hA.put hd (.val v)) h1 h2 h3)
      · cases he
    · simp only[az,aH]at he
      obtain⟨rfl,rfl,rfl⟩:=he
      have hne:c≠want:=by have h0:c=!want:=hp.1;subst h0;cases want <;> simp
      rw[if_neg (by simp[Region.wanted,hg,hy,hne])]
      exact h _ w (hA.put hd (.val undef)) hw hn (wU.refl _ _ _)
end Go.Sx
end
section
namespace Go.Sx
open Go
inductive Pl where
 | rd (i:Nat) (hs:List Hn) (m ov:Nat)
 | wr (i:Nat) (hs:List Hn) (m:Nat)
def Pl.key:Pl→Nat×Bool
 | .rd i _ _ _=>(i,true)
 | .wr i _ _=>(i,false)
def ME (L0:Nat) (Wp:List (Nat×List Nat)) (hs:List Hn):Bool:=
 Wp.isEmpty||hs.all fun hn=>match hn with
  | .o i _=>Nat.blt i L0&&Wp.all (fun y=>!y.2.contains i)
  | .r _ _=>true
def okW (L0:Nat) (ps:Option (List Nat)) (wr:List Nat):Bool:=match ps with
 | none=>wr.isEmpty
 | some ps=>wr.all fun p=>ps.contains p||po L0 p
def run (P:Program) (n:Nat) (nu:Nat→Nat) (ops:Array Oper) (r:List (Nat×Obj)) (L0:Nat) (ck:Bool):List Pl→List (Nat×List Nat)→Env→XS→Option (Env×XS×List (Nat×List Nat)×List Ob)
 | [],Wp,E,x=>some (E,x,Wp,[])
 | .rd i hs m ov::pl,Wp,E,x=>if !ck||ME L0 (Wp.filter fun y=>!later ops i 3 y.1) hs then match xo P n ops x.h r E i hs m ov with
  | some (E',p)=>match run P n nu ops r L0 ck pl Wp E' x with
   | some (E2,x2,W2,q)=>some (E2,x2,W2,p++q)
   | none=>none
  | none=>none
  else none
 | .wr i hs m::pl,Wp,E,x=>match G9 P n nu ops r E x i hs m with
  | some (E',x',p)=>if !ck||okW L0 (Wp.lookup i) x'.wr then match run P n nu ops r L0 ck pl (Wp.filter (·.1 != i)) E' x' with
   | some (E2,x2,W2,q)=>some (E2,x2,W2,p++q)
   | none=>none
   else none
  | none=>none
structure RI (Hd:List Nat) (B L0:Nat) (h r:List (Nat×Obj)) (w:World):Prop where
 old:∀i:Nat,i<L0→∀x,h[i]?=some x→x.1<B∧x.1∉Hd
 ro:∀x∈r,x.1<B∧x.1∉Hd
 len:L0≤h.length
 size:B≤w.heap.size
def kp (Hd:List Nat) (h:List (Nat×Obj)) (Wp:List (Nat×List Nat)):List (Nat×List Nat):=Wp.map fun y=>(y.1,(y.2.filterMap fun p=>(h[p]?).map (·.1))++Hd)
def oT (L0:Nat) (Wp:List (Nat×List Nat)):Bool:=Wp.all fun y=>y.2.all fun p=>Nat.blt p L0
theorem Bd {a b:Nat} (h:Nat.blt a b=true):a<b:=Nat.lt_of_succ_le (bP h)
theorem RI.kE {Hd:List Nat} {B L0:Nat} {h h' r:List (Nat×Obj)} {w w':World} {wr:List Nat} (H:RI Hd B L0 h r w) (d:wU h h' wr w w'):RI Hd B L0 h' r w':=by
 refine⟨fun i hi x hx=>?_,H.ro,aZ H.len d.len,aZ H.size d.size⟩
 have:=d.ids i (ej hi H.len)
 rw[hx]at this
 cases hh:h[i]? with
 | none=>rw[hh]at this;cases this
 | some y=>
  rw[hh]at this
  simp only[dU,az]at this
  rw[this]
  exact H.old i hi y hh
theorem mN {α β:Type} (f g:α→Option β):∀l:List α,(∀x∈l,f x=g x)→l.filterMap f=l.filterMap g
 | [],_=>rfl
 | x::l,h=>by
  rw[lE,lE,h x (bl ..),mN f g l fun y hy=>h y (bk _ hy)]
theorem xX {Hd:List Nat} {L0:Nat} {h h':List (Nat×Obj)} {w w':World} {wr:List Nat} (hl:L0≤h.length) (d:wU h h' wr w w'):∀(Wp:List (Nat×List Nat)),oT L0 Wp=true→kp Hd h' Wp=kp Hd h Wp:=by
 intro Wp hok
 unfold kp
 refine cB fun y hy=>?_
 congr 2
 have h1:=dF.1 hok y hy
 exact mN _ _ _ fun p hp=>d.ids p (ej (Bd (dF.1 h1 p hp)) hl)
theorem FB {Hd:List Nat} {B L0:Nat} {h r:List (Nat×Obj)} {w:World} (H:wA h r w) (R:RI Hd B L0 h r w) {Wp:List (Nat×List Nat)} {hs:List Hn} (hok:ME L0 Wp hs=true) :
  ∀y∈kp Hd h Wp,∀x∈used h r hs,x.1<B∧x.1∉y.2:=by
 intro y hy x hx
 obtain⟨z,hz,rfl⟩:=aB.1 hy
 simp only[ME,j8]at hok
 rcases hok with hok|hok
 ·rw[List.isEmpty_iff]at hok
  rw[hok]at hz
  cases hz
 ·obtain⟨hn,WY,hg⟩:=dV.1 hx
  have h1:=dF.1 hok hn WY
  cases hn with
  | o i v=>
   simp only[bT]at h1
   obtain⟨hlt,hall⟩:=h1
   simp only[Hn.get]at hg
   have hlt:=Bd hlt
   refine⟨(R.old i hlt x hg).1,fun hm=>?_⟩
   replace hm:=(au.1 hm).resolve_right (R.old i hlt x hg).2
   obtain⟨p,hp,hpe⟩:=dV.1 hm
   have h2:=dF.1 hall z hz
   have hne:p≠i:=by rintro rfl;simp[hp]at h2
   obtain⟨u,hu,TE⟩:=aI.1 hpe
   have h3:(h.map (·.1))[p]?=some x.1:=by simp[hu,TE]
   have h4:(h.map (·.1))[i]?=some x.1:=by simp[hg]
   have pS:p<(h.map (·.1)).length:=(ai.1 h3).1
   exact hne ((dQ pS H.nodup).1 (h3.trans h4.symm))
  | r i v=>
   simp only[Hn.get]at hg
   have TA:=ae hg
   refine⟨(R.ro x TA).1,fun hm=>H.apart x TA ?_⟩
   replace hm:=(au.1 hm).resolve_right (R.ro x TA).2
   obtain⟨p,hp,hpe⟩:=dV.1 hm
   obtain⟨u,hu,TE⟩:=aI.1 hpe
   rw[←TE]
   exact aB.2 ⟨u,ae hu,rfl⟩
theorem sy {Hd:List Nat} {B L0:Nat} {h r:List (Nat×Obj)} {w:World} (p:Nat→Bool) (H:wA h r w) (R:RI Hd B L0 h r w) {Wp:List (Nat×List Nat)} {hs:List Hn} (hok:ME L0 (Wp.filter fun y=>!p y.1) hs=true) :
  ∀y∈kp Hd h Wp,p y.1=true∨∀x∈used h r hs,x.1<B∧x.1∉y.2:=by
 intro y hy
 cases hp:p y.1 with
 | true=>exact .inl rfl
 | false=>
  obtain⟨z,hz,rfl⟩:=aB.1 hy
  simp only at hp
  exact .inr (FB H R hok _ (aB.2 ⟨z,aP.2 ⟨hz,by simp[hp]⟩,rfl⟩))
theorem ny (Hd:List Nat) (h:List (Nat×Obj)) (i:Nat):∀Wp:List (Nat×List Nat),(kp Hd h Wp).lookup i=(Wp.lookup i).map fun ps=>(ps.filterMap fun p=>(h[p]?).map (·.1))++Hd
 | []=>rfl
 | (k,ps)::Wp=>by
  by_cases hk:i=k
  ·subst hk;simp[kp,kO]
  ·have:(i==k)=false:=by simpa using hk
   have ih:=ny Hd h i Wp
   simp only[kp,cj,kO,this]at ih ⊢
   exact ih
theorem jP (Hd:List Nat) (h:List (Nat×Obj)) (i:Nat):∀Wp:List (Nat×List Nat),(kp Hd h Wp).filter (·.1 != i)=kp Hd h (Wp.filter (·.1 != i)):=by
 intro Wp
 simp only[kp,lU]
 rfl
theorem gT {L0 i:Nat} {Wp:List (Nat×List Nat)} (h:oT L0 Wp=true):oT L0 (Wp.filter (·.1 != i))=true:=by
 refine dF.2 fun y hy=>dF.1 h y ((aP.1 hy).1)
theorem vB {Hd:List Nat} {B L0:Nat} {h h':List (Nat×Obj)} {w w':World} {wr:List Nat} (d:wU h h' wr w w') {Wp:List (Nat×List Nat)} {i:Nat} (hok:okW L0 (Wp.lookup i) wr=true) (hfresh:∀j:Nat,L0≤j→∀x,h[j]?=some x→B≤x.1) :
  BG B ((kp Hd h Wp).lookup i) w w':=by
 intro b hb hl
 rw[ny]at hl
 cases hW:Wp.lookup i with
 | none=>
  rw[hW]at hok
  have:wr=[]:=by simpa [okW,List.isEmpty_iff]using hok
  exact d.block b hb fun j hj=>by rw[this]at hj;cases hj
 | some ps=>
  rw[hW]at hok hl
  obtain⟨VO,Xb⟩:=hl _ rfl
  refine d.block b hb fun j hj o ho=>?_
  have h1:=dF.1 hok j hj
  simp only[j8]at h1
  rcases h1 with h1|h1
  ·exact Xb (ig _ (dV.2 ⟨j,by simpa using h1,by simp[ho]⟩))
  ·have:=hfresh j (bP h1) _ ho
   simp only at this
   omega
def Lh (B L0:Nat) (h:List (Nat×Obj)):Prop:=∀j:Nat,L0≤j→∀x,h[j]?=some x→B≤x.1
theorem Lh.kE {B L0:Nat} {h h':List (Nat×Obj)} {w w':World} {wr:List Nat} (H:Lh B L0 h) (hs:B≤w.heap.size) (d:wU h h' wr w w'):Lh B L0 h':=by
 intro j hj x hx
 rcases dP j h.length with hl|hl
 ·have:=d.ids j hl
  rw[hx]at this
  cases hh:h[j]? with
  | none=>rw[hh]at this;cases this
  | some y=>
   rw[hh]at this
   simp only[dU,az]at this
   rw[this]
   exact H j hj y hh
 ·exact aZ hs (d.fresh j hl x hx)
structure Dd (h h':List (Nat×Obj)) (w w':World):Prop where
 os:w'.os=w.os
 tape:w'.tape=w.tape
 output:w'.output=w.output
 size:w.heap.size≤w'.heap.size
 block:∀b,b<w.heap.size→b∉h.map (·.1)→w'.heap[b]?=w.heap[b]?
 ids:∀i:Nat,i<h.length→(h'[i]?).map (·.1)=(h[i]?).map (·.1)
 len:h.length≤h'.length
 fresh:∀i:Nat,h.length≤i→∀x,h'[i]?=some x→w.heap.size≤x.1
 drawn:w.drawn≤w'.drawn
theorem wU.dd {h h':List (Nat×Obj)} {w w':World} {wr:List Nat} (d:wU h h' wr w w'):Dd h h' w w':=
 ⟨d.os,d.tape,d.output,d.size,fun b hb hn=>d.block b hb fun _ _ _ ho=>hn (aB.2 ⟨_,ae ho,rfl⟩),d.ids,d.len,d.fresh,d.drawn⟩
theorem Dd.refl (h:List (Nat×Obj)) (w:World):Dd h h w w:=(wU.refl h [] w).dd
theorem Dd.trans {h1 h2 h3:List (Nat×Obj)} {a b c:World} (d:Dd h1 h2 a b) (e:Dd h2 h3 b c):Dd h1 h3 a c:=by
 have back:∀i x,h2[i]?=some x→i<h1.length→x.1∈h1.map (·.1):=by
  intro i x hx hl
  have h:=d.ids i hl
  rw[hx]at h
  cases EF:h1[i]? with
  | none=>rw[EF]at h;cases h
  | some y=>
   rw[EF]at h
   simp only[dU,az]at h
   rw[h]
   exact aB.2 ⟨y,ae EF,rfl⟩
 refine⟨e.os.trans d.os,e.tape.trans d.tape,e.output.trans d.output,aZ d.size e.size,fun x hx hn=>?_,fun i hi=>?_,aZ d.len e.len,fun i hi x hx=>?_,aZ d.drawn e.drawn⟩
 ·refine(e.block x (ej hx d.size) fun hm=>?_).trans (d.block x hx hn)
  obtain⟨y,hy,rfl⟩:=aB.1 hm
  obtain⟨i,hi⟩:=aJ hy
  rcases dP i h1.length with hl|hl
  ·exact hn (back i y hi hl)
  ·have:=d.fresh i hl _ hi
   omega
 ·rw[e.ids i (ej hi d.len),d.ids i hi]
 ·rcases dP i h2.length with hl|hl
  ·have h:=e.ids i hl
   rw[hx]at h
   cases FX:h2[i]? with
   | none=>rw[FX]at h;cases h
   | some y=>
    rw[FX]at h
    simp only[dU,az]at h
    rw[h]
    exact d.fresh i hi y FX
  ·exact aZ d.size (e.fresh i hl x hx)
theorem AF {Hd:List Nat} {P:Program} {n:Nat} [Dfr n] {nu:Nat→Nat} {ops:Array Oper} {r:List (Nat×Obj)} {Q:Exit→Act→World→Prop} {B L0:Nat} {ck:Bool} {rest:List (Nat×Bool)} :
  ∀(pl:List Pl) (Wp:List (Nat×List Nat)) (E:Env) (x:XS) (E':Env) (x':XS) (Of:List (Nat×List Nat)) (p:List Ob),run P n nu ops r L0 ck pl Wp E x=some (E',x',Of,p)→th p→oT L0 Wp=true →
  ∀a w,Ag n E a→wA x.h r w→Nu nu x.k w→RI Hd B L0 x.h r w→Lh B L0 x.h →
  (∀a' w',Ag n E' a'→wA x'.h r w'→Nu nu x'.k w'→RI Hd B L0 x'.h r w'→Lh B L0 x'.h→Dd x.h x'.h w w'→oT L0 Of=true→PW P ops Q B ck rest (kp Hd x'.h Of) a' w') →
  PW P ops Q B ck (pl.map Pl.key++rest) (kp Hd x.h Wp) a w
 | [],Wp,E,x,E',x',Of,p,he,_,hW,a,w,hA,hO,hN,hR,hF,K=>by
  simp only[run,az,aH]at he
  obtain⟨rfl,rfl,rfl,rfl⟩:=he
  exact K a w hA hO hN hR hF (Dd.refl _ _) hW
 | .rd i hs m ov::pl,Wp,E,x,E',x',Of,p,he,hp,hW,a,w,hA,hO,hN,hR,hF,K=>by
  simp only[run]at he
  split at he
  case isFalse=>cases he
  rename_i hok
  split at he
  case h_2=>cases he
  rename_i E1 p1 h1
  split at he
  case h_2=>cases he
  rename_i E2 x2 W2 q h2
  simp only[az,aH]at he
  obtain⟨rfl,rfl,rfl,rfl⟩:=he
  obtain⟨hp1,hp2⟩:=gj hp
  obtain⟨o,v,ho,hy,Up⟩:=BI h1 hp1 hA
  have Kt:Hp (used x.h r hs) w:=fun y hy=>by
   obtain⟨hn,_,hg⟩:=dV.1 hy
   exact hO.get hg
  exact⟨o,v,used x.h r hs,ho,hy,Kt,fun uQ y hy=>sy (fun j=>later ops i 3 j) hO hR (by simpa [uQ]using hok) y hy,AF pl Wp E1 x _ _ _ q h2 hp2 hW _ w Up hO hN hR hF K⟩
 | .wr i hs m::pl,Wp,E,x,E',x',Of,p,he,hp,hW,a,w,hA,hO,hN,hR,hF,K=>by
  simp only[run]at he
  split at he
  case h_2=>cases he
  rename_i E1 x1 p1 h1
  split at he
  case isFalse=>cases he
  rename_i hok
  split at he
  case h_2=>cases he
  rename_i E2 x2 W2 q h2
  simp only[az,aH]at he
  obtain⟨rfl,rfl,rfl,rfl⟩:=he
  obtain⟨hp1,hp2⟩:=gj hp
  simp only[cj,iO,Pl.key,PW]
  refine BH h1 hp1 hA hO hN fun a' w' Up Xj Xl d=>⟨fun uQ=>vB d (by simpa [uQ]using hok) hF,?_⟩
  rw[jP,←xX hR.len d _ (gT hW)]
  exact AF pl _ E1 x1 _ _ _ q h2 hp2 (gT hW) a' w' Up Xj Xl (hR.kE d) (hF.kE hR.size d)
   fun a2 w2 b1 b2 b3 b4 b5 b6 b7=>K a2 w2 b1 b2 b3 b4 b5 (d.dd.trans b6) b7
inductive Sk where
 | skip
 | rg (id:Nat) (draw:Bool)
 | seq (a b:Sk)
 | cond (c:Operand) (a b:Sk)
 | block (id:Nat) (b:Sk)
 | loop (b:Sk)
 | exit (id:Nat)
 | ret
def rL (id:Nat):Code→Option (Array Oper)
 | .region i ops _=>if lR i id then some ops else none
 | .seq a b=>match rL id a with
  | some x=>some x
  | none=>rL id b
 | .cond _ a b=>match rL id a with
  | some x=>some x
  | none=>rL id b
 | .block _ b=>rL id b
 | .loop b=>rL id b
 | .scope b=>rL id b
 | _=>none
def bS (f:Func) (id:Nat):Array Oper:=match f.body with
 | some c=>(rL id c).getD #[]
 | none=>#[]
def Sk.code (f:Func):Sk→Code
 | .skip=>.skip
 | .rg id d=>.region id (bS f id) d
 | .seq a b=>.seq (a.code f) (b.code f)
 | .cond c a b=>.cond c (a.code f) (b.code f)
 | .block id b=>.block id (b.code f)
 | .loop b=>.loop (b.code f)
 | .exit id=>.exit id
 | .ret=>.ret
inductive oR where
 | c (s:Sk)
 | eb (id:Nat)
 | back (I:Nat→Act→World→Prop) (m:Nat)
def mq (P:Program) (f:Func) [Pan f] (R:Act→World→Prop):List oR→Exit→Act→World→Prop
 | [],.normal,a,w=>R a w
 | [],.ret,a,w=>R a w
 | [],.panic c,a,w=>Pan.NZ f c a w
 | [],_,_,_=>False
 | .c s::k,.normal,a,w=>(s.code f).wp P (mq P f R k) a w
 | .c _::k,e,a,w=>mq P f R k e a w
 | .eb id::k,.exit id',a,w=>if id'=id then mq P f R k .normal a w else mq P f R k (.exit id') a w
 | .eb _::k,e,a,w=>mq P f R k e a w
 | .back I m::_,.normal,a,w=>∃m',m'<m∧I m' a w
 | .back _ _::k,e,a,w=>mq P f R k e a w
theorem ug {P:Program} {f:Func} [Pan f] {R:Act→World→Prop}:∀(k:List oR) (c:List PanicEntry) (a:Act) (w:World),mq P f R k (.panic c) a w↔Pan.NZ f c a w
 | [],_,_,_=>Iff.rfl
 | .c _::k,c,a,w=>by simp only[mq];exact ug k c a w
 | .eb _::k,c,a,w=>by simp only[mq];exact ug k c a w
 | .back _ _::k,c,a,w=>by simp only[mq];exact ug k c a w
theorem GO {P:Program} {f:Func} [Pan f] {R:Act→World→Prop} {k:List oR} {c:List PanicEntry} {a:Act} {d:Option Tmp} {v:Value} {w:World} (hd:qx f d=true) (h:mq P f R k (.panic c) (a.put d v) w):mq P f R k (.panic c) a w:=
 (ug k c a w).2 (Pan.put c a d v w hd ((ug k c _ w).1 h))
theorem pI {P:Program} {f:Func} {R:Act→World→Prop}:∀(k:List oR) (c:List PanicEntry) (a:Act) (w:World),¬mq P f R k (.panic c) a w
 | [],_,_,_=>fun h=>(show False from h)
 | .c _::k,c,a,w=>by simp only[mq];exact pI k c a w
 | .eb _::k,c,a,w=>by simp only[mq];exact pI k c a w
 | .back _ _::k,c,a,w=>by simp only[mq];exact pI k c a w
theorem wL {P:Program} {f:Func} [Pan f] {R:Act→World→Prop}:∀(k:List oR) (a:Act) (w:World),R a w→mq P f R k .ret a w
 | [],_,_,h=>h
 | .c _::k,a,w,h=>by simp only[mq];exact wL k a w h
 | .eb _::k,a,w,h=>by simp only[mq];exact wL k a w h
 | .back _ _::k,a,w,h=>by simp only[mq];exact wL k a w h
def BV (id:Nat):List oR→Option (List oR)
 | []=>none
 | .eb i::k=>if lR i id then some k else BV id k
 | _::k=>BV id k
theorem uh {P:Program} {f:Func} [Pan f] {R:Act→World→Prop} {id:Nat}:∀(k k':List oR) (a:Act) (w:World),BV id k=some k'→mq P f R k' .normal a w→mq P f R k (.exit id) a w
 | [],_,_,_,h,_=>by cases h
 | .c _::k,k',a,w,h,hh=>by simp only[mq];exact uh k k' a w h hh
 | .back _ _::k,k',a,w,h,hh=>by simp only[mq];exact uh k k' a w h hh
 | .eb i::k,k',a,w,h,hh=>by
  simp only[BV]at h
  split at h
  ·rename_i he
   obtain rfl:=dG h
   have:id=i:=(dR he).symm
   simp only[mq]
   rw[if_pos this]
   exact hh
  ·rename_i he
   have:id≠i:=fun e=>he (by rw[e];exact Nat.beq_refl i)
   simp only[mq]
   rw[if_neg this]
   exact uh k k' a w h hh
end Go.Sx
end
section
namespace Go.Sx
open Go
structure Row (cur:Array Value) (cap n size:Nat) (xs:List Value):Prop where
 len:xs.length=n*size
 Ei:cur.size=cap*size
 le:n≤cap
 max:cap≤maxLen
 take:cur.toList.take (n*size)=xs
theorem Row.at {cur:Array Value} {cap n size:Nat} {xs:List Value} (h:Row cur cap n size xs) {j:Nat} (hj:j<n*size):cur[j]?=xs[j]?:=by
 rw[←h.take,cL,if_pos hj]
 simp
theorem Row.zero (size:Nat) (cur:Array Value) (h:cur.size=0:=by rfl):Row cur 0 0 size []:=⟨by simp,by simpa using h,aX _,eo _,by simp⟩
theorem Row.full {cs:Array Value} {n size:Nat} (hs:cs.size=n*size) (hm:n≤maxLen):Row cs n n size cs.toList:=
 ⟨by simpa using hs,hs,aX _,hm,by rw[br];simp[hs]⟩
inductive D where
 | v (x:Value)
 | sl (k:Nat) (rows:List (List D))
 | ptr (ds:List D)
 | obj (o:Obj)
 | all (l:List (Value×D))
inductive cm (w:World) (S:Nat→Prop):Value→D→Prop
 | v {x:Value} (h:x.oneCell'=true):cm w S x (.v x)
 | nil {a:Option Addr} {c k:Nat}:cm w S (.slice a 0 c) (.sl k [])
 | sl {b off cap k:Nat} {cs:Array Value} {e:TypeId} {fz:Nat×Nat} {rows:List (List D)} (u:Nat→Nat→Value) (hb:w.heap[b]?=some (.cells cs e fz)) (hS:S b) (hc:rows.length≤cap) (hk:0<k)
   (hl:∀row∈rows,row.length=k) (hcell:∀(i j:Nat),i<rows.length→j<k→cs[off+(i*k+j)]?=some (u i j))
   (mL:∀(i j:Nat) (row:List D) (d:D),rows[i]?=some row→row[j]?=some d→cm w S (u i j) d):cm w S (.slice (some ⟨b,off,none⟩) rows.length cap) (.sl k rows)
 | ptr {b off:Nat} {cs:Array Value} {e:TypeId} {fz:Nat×Nat} {ds:List D} (u:Nat→Value) (hb:w.heap[b]?=some (.cells cs e fz)) (hS:S b) (hcell:∀j:Nat,j<ds.length→cs[off+j]?=some (u j))
   (mL:∀(j:Nat) (d:D),ds[j]?=some d→cm w S (u j) d):cm w S (.pointer (some ⟨b,off,none⟩)) (.ptr ds)
 | obj {a:Addr} {o:Obj} (hb:w.heap[a.block]?=some o) (hS:S a.block):cm w S (.pointer (some a)) (.obj o)
 | all {l:List (Value×D)} (h:∀y∈l,cm w S y.1 y.2):cm w S .nilIface (.all l)
theorem cm.one {w:World} {S:Nat→Prop} {x:Value} {d:D} (h:cm w S x d):x.oneCell'=true:=by
 cases h with
 | v h=>exact h
 | nil=>rfl
 | sl=>rfl
 | ptr=>rfl
 | obj=>rfl
 | all=>rfl
theorem cm.plain {w:World} {S:Nat→Prop} {x y:Value} (h:cm w S x (.v y)):x=y:=by cases h;rfl
theorem cm.mono {w w':World} {S S':Nat→Prop} {x:Value} {d:D} (h:cm w S x d) (hS:∀b,S b→b<w.heap.size→S' b∧w'.heap[b]?=w.heap[b]?):cm w' S' x d:=by
 induction h with
 | v h=>exact .v h
 | nil=>exact .nil
 | sl u hb hs hc hk hl hcell _ ih=>
  have hlt:=(bJ.1 hb).1
  exact .sl u ((hS _ hs hlt).2.trans hb) (hS _ hs hlt).1 hc hk hl hcell ih
 | ptr u hb hs hcell _ ih=>
  have hlt:=(bJ.1 hb).1
  exact .ptr u ((hS _ hs hlt).2.trans hb) (hS _ hs hlt).1 hcell ih
 | obj hb hs=>
  have hlt:=(bJ.1 hb).1
  exact .obj ((hS _ hs hlt).2.trans hb) (hS _ hs hlt).1
 | all _ ih=>exact .all ih
theorem cm.part {w:World} {S:Nat→Prop} {x:Value} {l:List (Value×D)} (h:cm w S x (.all l)):∀y∈l,cm w S y.1 y.2:=by
 cases h with
 | all h=>exact h
theorem cm.form {w:World} {S:Nat→Prop} {x:Value} {k:Nat} {rows:List (List D)} (h:cm w S x (.sl k rows)):∃a c,x=.slice a rows.length c∧rows.length≤c+rows.length:=by
 cases h with
 | nil=>exact⟨_,_,rfl,by omega⟩
 | sl=>exact⟨_,_,rfl,by omega⟩
theorem cm.cells {w:World} {S:Nat→Prop} {x:Value} {k:Nat} {rows:List (List D)} (h:cm w S x (.sl k rows)) (hne:rows≠[]) :
  ∃b off cap cs e fz,x=.slice (some ⟨b,off,none⟩) rows.length cap∧w.heap[b]?=some (.cells cs e fz)∧S b∧rows.length≤cap∧0<k∧(∀row∈rows,row.length=k) ∧
   ∃news:List Value,news.length=rows.length*k∧(∀(j:Nat) u,news[j]?=some u→cs[off+j]?=some u)∧(∀u∈news,u.oneCell'=true) ∧
    ∀(i j:Nat) (row:List D) (d:D),rows[i]?=some row→row[j]?=some d→∃u,news[i*k+j]?=some u∧cm w S u d:=by
 cases h with
 | nil=>exact absurd rfl hne
 | sl u hb hS hc hk hl hcell mL=>
  rename_i b off cap cs e fz
  refine⟨b,off,cap,cs,e,fz,rfl,hb,hS,hc,hk,hl,(bD (rows.length*k)).map (fun q=>u (q / k) (q % k)),by simp,?_,?_,?_⟩
  ·intro j x hx
   rw[aF]at hx
   obtain⟨q,hq,rfl⟩:=aI.1 hx
   have hlt:j<rows.length*k:=by simpa using(ai.1 hq).1
   have Qd:q=j:=by rw[ew hlt]at hq;exact(dG hq).symm
   subst Qd
   have h1:q / k<rows.length:=jl (by rw[fN];exact hlt)
   have h2:=hcell (q / k) (q % k) h1 (l8 _ hk)
   rwa[fN,lV]at h2
  ·intro x hx
   obtain⟨q,hq,rfl⟩:=aB.1 hx
   have hlt:=dX.1 hq
   have h1:q / k<rows.length:=jl (by rw[fN];exact hlt)
   have hrow:(rows[q / k]'h1).length=k:=hl _ (cz h1)
   have h2:q % k<(rows[q / k]'h1).length:=by rw[hrow];exact l8 _ hk
   exact(mL (q / k) (q % k) _ _ (ak h1) (ak h2)).one
  ·intro i j row d hi hj
   have vM:=(ai.1 hi).1
   have oP:j<k:=by
    rw[←hl row (ae hi)]
    exact(ai.1 hj).1
   refine⟨u i j,?_,mL i j row d hi hj⟩
   have hlt:i*k+j<rows.length*k:=by
    calc i*k+j<i*k+k:=by omega
     _=(i+1)*k:=by rw[jR,nK]
     _≤rows.length*k:=cD k vM
   rw[aF,ew hlt]
   have h1:(i*k+j) / k=i:=by
    rw[fN,Nat.mul_add_div hk,Nat.div_eq_of_lt oP,dZ]
   have h2:(i*k+j) % k=j:=by
    rw[fN,Nat.mul_add_mod,Nat.mod_eq_of_lt oP]
   simp[h1,h2]
theorem cm.HM {w:World} {S:Nat→Prop} {g cap:Nat} {cur:Array Value} {e:TypeId} {fz:Nat×Nat} {k:Nat} {xs:List Value} {rows:List (List D)} (hg:w.heap[g]?=some (.cells cur e fz)) (hS:S g) (hr:Row cur cap rows.length k xs) (hk:0<k)
  (hl:∀row∈rows,row.length=k) (mL:∀(i j:Nat) (row:List D) (d:D),rows[i]?=some row→row[j]?=some d→∃u,xs[i*k+j]?=some u∧cm w S u d):cm w S (.slice (some ⟨g,0,none⟩) rows.length cap) (.sl k rows):=by
 refine .sl (fun i j=>xs.getD (i*k+j) undef) hg hS hr.le hk hl (fun i j hi hj=>?_) (fun i j row d h1 h2=>?_)
 ·have hlt:i*k+j<rows.length*k:=by
   calc i*k+j<i*k+k:=by omega
    _=(i+1)*k:=by rw[jR,nK]
    _≤rows.length*k:=cD k hi
  rw[aK,hr.at hlt]
  have:i*k+j<xs.length:=by rw[hr.len];exact hlt
  simp[aO,ak this]
 ·obtain⟨u,hu,TK⟩:=mL i j row d h1 h2
  simpa [aO,hu]using TK
theorem cm.fr {w w':World} {M:List Nat} {S:Nat→Prop} {x:Value} {d:D} (h:cm w S x d) (hf:Fr M w w') (hS:∀b∈M,¬S b):cm w' S x d:=
 h.mono fun b hb hlt=>⟨hb,hf.block b hlt fun hm=>hS b hm hb⟩
theorem cm.wide {w:World} {S S':Nat→Prop} {x:Value} {d:D} (h:cm w S x d) (hS:∀b,S b→b<w.heap.size→S' b):cm w S' x d:=
 h.mono fun b hb hlt=>⟨hS b hb hlt,rfl⟩
structure Chunk where
 P:World→(Nat→Prop)→List Nat→Prop
 mono:∀{w w':World} {S S':Nat→Prop} {fp:List Nat},P w S fp→(∀b∈fp,w'.heap[b]?=w.heap[b]?)→(∀b,S b→b<w.heap.size→S' b∧w'.heap[b]?=w.heap[b]?)→P w' S' fp
def mV (w:World) (S:Nat→Prop):List Chunk→List (List Nat)→Prop
 | [],[]=>True
 | c::cs,fp::aU=>c.P w S fp∧mV w S cs aU
 | _,_=>False
theorem mV.mono {w w':World} {S S':Nat→Prop}:∀{cs:List Chunk} {aU:List (List Nat)},mV w S cs aU→(∀b∈aU.flatten,w'.heap[b]?=w.heap[b]?)→(∀b,S b→b<w.heap.size→S' b∧w'.heap[b]?=w.heap[b]?)→mV w' S' cs aU
 | [],[],_,_,_=>trivial
 | c::cs,fp::aU,h,hb,hS=>⟨c.mono h.1 (fun b hm=>hb b (by simp[hm])) hS,mV.mono h.2 (fun b hm=>hb b (by simp only[cr,au];exact .inr hm)) hS⟩
 | [],_::_,h,_,_=>h.elim
 | _::_,[],h,_,_=>h.elim
theorem mV.len {w:World} {S:Nat→Prop}:∀{cs:List Chunk} {aU:List (List Nat)},mV w S cs aU→cs.length=aU.length
 | [],[],_=>rfl
 | c::cs,fp::aU,h=>by simp[mV.len h.2]
 | [],_::_,h=>h.elim
 | _::_,[],h=>h.elim
theorem mV.app {w:World} {S:Nat→Prop}:∀{cs:List Chunk} {aU:List (List Nat)} {Bq:List Chunk} {Cl:List (List Nat)},mV w S cs aU→mV w S Bq Cl→mV w S (cs++Bq) (aU++Cl)
 | [],[],_,_,_,h2=>h2
 | _::_,_::_,_,_,h,h2=>⟨h.1,mV.app h.2 h2⟩
 | [],_::_,_,_,h,_=>h.elim
 | _::_,[],_,_,h,_=>h.elim
theorem mV.split {w:World} {S:Nat→Prop}:∀{cs Bq:List Chunk} {aU:List (List Nat)},mV w S (cs++Bq) aU→∃f1 f2,aU=f1++f2∧mV w S cs f1∧mV w S Bq f2
 | [],_,aU,h=>⟨[],aU,rfl,trivial,h⟩
 | c::cs,Bq,fp::aU,h=>by
  obtain⟨f1,f2,rfl,h1,h2⟩:=mV.split h.2
  exact⟨fp::f1,f2,rfl,⟨h.1,h1⟩,h2⟩
 | _::_,_,[],h=>h.elim
theorem mV.at {w:World} {S:Nat→Prop}:∀{cs:List Chunk} {aU:List (List Nat)} {i:Nat} {c:Chunk},mV w S cs aU→cs[i]?=some c→∃fp,aU[i]?=some fp∧c.P w S fp
 | c::cs,fp::aU,0,x,h,hx=>by
  simp only[aV,az]at hx
  subst hx
  exact⟨fp,rfl,h.1⟩
 | c::cs,fp::aU,i+1,x,h,hx=>by
  simp only[eU]at hx
  obtain⟨XD,h1,h2⟩:=mV.at h.2 hx
  exact⟨XD,by simpa using h1,h2⟩
 | [],_,_,_,_,hx=>by simp at hx
 | _::_,[],_,_,h,_=>h.elim
theorem mV.set {w:World} {S:Nat→Prop} {c:Chunk} {fp:List Nat} (hc:c.P w S fp):∀{cs:List Chunk} {aU:List (List Nat)} {i:Nat},mV w S cs aU→mV w S (cs.set i c) (aU.set i fp)
 | _::_,_::_,0,h=>⟨hc,h.2⟩
 | _::_,_::_,_+1,h=>⟨h.1,mV.set hc h.2⟩
 | [],[],_,_=>trivial
 | [],_::_,_,h=>h.elim
 | _::_,[],_,h=>h.elim
theorem mV.erase {w:World} {S:Nat→Prop}:∀{cs:List Chunk} {aU:List (List Nat)} {i:Nat},mV w S cs aU→mV w S (cs.eraseIdx i) (aU.eraseIdx i)
 | _::_,_::_,0,h=>h.2
 | _::_,_::_,_+1,h=>⟨h.1,mV.erase h.2⟩
 | [],[],_,_=>trivial
 | [],_::_,_,h=>h.elim
 | _::_,[],_,h=>h.elim
structure fQ where
 S:Nat→Prop
 C:List Chunk
 G:List (Value×D)
def Sd (Y:fQ) (h:List (Nat×Obj)) (aU:List (List Nat)):Nat→Prop:=fun b=>Y.S b∧b∉h.map (·.1)∧b∉aU.flatten
structure Jt (Y:fQ) (h r:List (Nat×Obj)) (F:List (List Nat×World)) (w:World) (aU:List (List Nat)):Prop where
 kF:mV w (Sd Y h aU) Y.C aU
 nodup:aU.flatten.Nodup
 mw:∀b∈aU.flatten,b∉h.map (·.1)
 apart:∀x∈r,x.1∉aU.flatten
 may:∀f∈F,∀b∈aU.flatten,b∈f.1∨f.2.heap.size≤b
 lt:∀b∈aU.flatten,b<w.heap.size
 own:∀x∈h,Y.S x.1
 kT:∀b∈aU.flatten,Y.S b
 top:∀b,w.heap.size≤b→Y.S b
 g:∀x∈Y.G,cm w (Sd Y h aU) x.1 x.2
theorem Dd.old {h h':List (Nat×Obj)} {w w':World} (d:Dd h h' w w') {x:Nat×Obj} (hx:x∈h'):x.1∈h.map (·.1)∨w.heap.size≤x.1:=by
 obtain⟨i,hi⟩:=aJ hx
 rcases dP i h.length with hl|hl
 ·have:=d.ids i hl
  rw[hi]at this
  cases hh:h[i]? with
  | none=>rw[hh]at this;cases this
  | some y=>
   rw[hh]at this
   simp only[dU,az]at this
   rw[this]
   exact .inl (aB.2 ⟨y,ae hh,rfl⟩)
 ·exact .inr (d.fresh i hl x hi)
theorem Jt.go {Y:fQ} {h h' r:List (Nat×Obj)} {F:List (List Nat×World)} {w w':World} {aU:List (List Nat)} (H:Jt Y h r F w aU) (d:Dd h h' w w'):Jt Y h' r F w' aU:=by
 have hS:∀b,Sd Y h aU b→b<w.heap.size→Sd Y h' aU b∧w'.heap[b]?=w.heap[b]?:=fun b hb hlt=>by
  refine⟨⟨hb.1,fun hm=>?_,hb.2.2⟩,d.block b hlt hb.2.1⟩
  obtain⟨x,hx,rfl⟩:=aB.1 hm
  rcases d.old hx with h1|h1
  ·exact hb.2.1 h1
  ·omega
 refine⟨H.kF.mono (fun b hb=>d.block b (H.lt b hb) (H.mw b hb)) hS,H.nodup,fun b hb hm=>?_,H.apart,H.may,fun b hb=>ej (H.lt b hb) d.size,fun x hx=>?_,H.kT,fun b hb=>H.top b (aZ d.size hb),fun x hx=>(H.g x hx).mono hS⟩
 ·obtain⟨x,hx,rfl⟩:=aB.1 hm
  rcases d.old hx with h1|h1
  ·exact H.mw _ hb h1
  ·have:=H.lt _ hb
   omega
 ·rcases d.old hx with h1|h1
  ·obtain⟨y,hy,he⟩:=aB.1 h1
   rw[←he]
   exact H.own y hy
  ·exact H.top _ h1
structure nH (n:Nat) [Dfr n] (E:Env) (h r:List (Nat×Obj)) (F:List (List Nat×World)) (Y:fQ) (a:Act) (w:World) (aU:List (List Nat)):Prop where
 ag:Ag n E a
 own:wA h r w
 fr:∀f∈F,Fr f.1 f.2 w
 may:∀f∈F,∀x∈h,x.1∈f.1∨f.2.heap.size≤x.1
 gh:Jt Y h r F w aU
def St (n:Nat) [Dfr n] (E:Env) (h r:List (Nat×Obj)) (F:List (List Nat×World)) (Y:fQ) (a:Act) (w:World):Prop:=∃aU,nH n E h r F Y a w aU
theorem nH.go {n:Nat} [Dfr n] {E E':Env} {h h' r:List (Nat×Obj)} {F:List (List Nat×World)} {Y:fQ} {a a':Act} {w w':World} {aU:List (List Nat)} (H:nH n E h r F Y a w aU) (hA:Ag n E' a') (hO:wA h' r w') (d:Dd h h' w w'):nH n E' h' r F Y a' w' aU:=by
 refine⟨hA,hO,fun f hf=>?_,fun f hf x hx=>?_,H.gh.go d⟩
 ·have hfr:=H.fr f hf
  refine⟨d.os.trans hfr.os,d.tape.trans hfr.tape,d.output.trans hfr.output,aZ hfr.size d.size,fun b hb hn=>?_,aZ hfr.drawn d.drawn⟩
  refine(d.block b (ej hb hfr.size) fun hm=>?_).trans (hfr.block b hb hn)
  obtain⟨x,hx,rfl⟩:=aB.1 hm
  rcases H.may f hf x hx with h1|h1
  ·exact hn h1
  ·omega
 ·rcases d.old hx with h1|h1
  ·obtain⟨y,hy,he⟩:=aB.1 h1
   rw[←he]
   exact H.may f hf y hy
  ·exact .inr (aZ (H.fr f hf).size h1)
theorem nH.st {n:Nat} [Dfr n] {E:Env} {h r:List (Nat×Obj)} {F:List (List Nat×World)} {Y:fQ} {a:Act} {w:World} {aU:List (List Nat)} (H:nH n E h r F Y a w aU):St n E h r F Y a w:=⟨aU,H⟩
section Wd
variable {n:Nat} [Dfr n] {E:Env} {h r:List (Nat×Obj)} {F:List (List Nat×World)} {Y:fQ} {a:Act} {w:World} (s:St n E h r F Y a w)
include s
theorem St.ag:Ag n E a:=s.choose_spec.ag
theorem St.own:wA h r w:=s.choose_spec.own
theorem St.fr:∀f∈F,Fr f.1 f.2 w:=s.choose_spec.fr
theorem St.may:∀f∈F,∀x∈h,x.1∈f.1∨f.2.heap.size≤x.1:=s.choose_spec.may
theorem St.at (i:Nat) {b:Nat} {o:Obj} (hi:h[i]?=some (b,o)):w.heap[b]?=some o:=s.own.own _ (ae hi)
end Wd
def J (P:Program) (f:Func) [Pan f] (R:Act→World→Prop) (n:Nat) [Dfr n] (k:List oR) (E:Env) (h r:List (Nat×Obj)) (F:List (List Nat×World)) (Y:fQ):Prop:=
 ∀a w,St n E h r F Y a w→mq P f R k .normal a w
def JR (P:Program) (f:Func) [Pan f] (R:Act→World→Prop) (n:Nat) [Dfr n] (ops:Array Oper) (L0:Nat) (ck:Bool) (fb:List (Nat×Bool)) (Wp:List (Nat×List Nat)) (k:List oR) (E:Env) (h r:List (Nat×Obj)) (F:List (List Nat×World)) (Y:fQ):Prop:=
 ∀B Hd aU a w,nH n E h r F Y a w aU→(∀b∈aU.flatten,b∈Hd∨B≤b)→RI Hd B L0 h r w→Lh B L0 h→oT L0 Wp=true→PW P ops (mq P f R k) B ck fb (kp Hd h Wp) a w
theorem xL {p:Nat→Prop} (h:∃m,p m):∃m,p m∧∀k,p k→m≤k:=by
 obtain⟨m,hm⟩:=h
 induction m using Nat.strongRecOn with
 | _ m ih=>
  by_cases hk:∃k,k<m∧p k
  ·obtain⟨k,hlt,hp⟩:=hk
   exact ih k hlt hp
  ·exact⟨m,hm,fun k hp=>Nat.le_of_not_lt fun hlt=>hk ⟨k,hlt,hp⟩⟩
noncomputable def least {p:Nat→Prop} (h:∃m,p m):Nat:=(xL h).choose
theorem Dv {p:Nat→Prop} (h:∃m,p m):p (least h):=(xL h).choose_spec.1
theorem least_le {p:Nat→Prop} (h:∃m,p m) {k:Nat} (hk:p k):least h≤k:=(xL h).choose_spec.2 k hk
section rules
variable {P:Program} {f:Func} [Pan f] {R:Act→World→Prop} {n:Nat} [Dfr n] {k:List oR} {E E':Env} {h h' r:List (Nat×Obj)} {F:List (List Nat×World)} {Y:fQ}
theorem aq {x y:Sk} (H:J P f R n (.c x::.c y::k) E h r F Y):J P f R n (.c (.seq x y)::k) E h r F Y:=fun a w hs=>by
 have:=H a w hs
 simp only[mq,Sk.code]at this ⊢
 refine wp_seq (wp_mono this fun e a w hq=>?_)
 cases e <;> exact hq
theorem aG (H:J P f R n k E h r F Y):J P f R n (.c .skip::k) E h r F Y:=fun a w hs=>wp_skip (H a w hs)
theorem aM {id:Nat} {b:Sk} (H:J P f R n (.c b::.eb id::k) E h r F Y):J P f R n (.c (.block id b)::k) E h r F Y:=fun a w hs=>by
 have:=H a w hs
 simp only[mq,Sk.code]at this ⊢
 refine wp_block (wp_mono this fun e a w hq=>?_)
 cases e <;> exact hq
theorem eu {id:Nat} (H:J P f R n k E h r F Y):J P f R n (.eb id::k) E h r F Y:=fun a w hs=>H a w hs
theorem dO {id:Nat} {k':List oR} (hk:BV id k=some k') (H:J P f R n k' E h r F Y):J P f R n (.c (.exit id)::k) E h r F Y:=fun a w hs=>
 wp_exit (uh k k' a w hk (H a w hs))
theorem RX (H:∀a w,St n E h r F Y a w→R a w):J P f R n (.c .ret::k) E h r F Y:=fun a w hs=>wp_ret (wL k a w (H a w hs))
theorem yO {c:Operand} {x y:Sk} {t:Bool} (hc:jN E none [c]=some []) (hv:mG E c=.bool t) (ht:t=true→J P f R n (.c x::k) E h r F Y) (hf:t=false→J P f R n (.c y::k) E h r F Y) :
  J P f R n (.c (.cond c x y)::k) E h r F Y:=fun a w s=>by
 have he:a.eval c=.bool t:=(eG s.ag (fun c w h=>by cases h) [c] [] hc trivial c (bl ..)).trans hv
 simp only[mq,Sk.code]
 exact wp_cond_split he (fun h=>by have:=ht h a w s;simpa only[mq]using this) (fun h=>by have:=hf h a w s;simpa only[mq]using this)
theorem Jg {c:Operand} {x y:Sk} (hc:jN E none [c]=some []) (hv:mG E c=.bool true) (ht:J P f R n (.c x::k) E h r F Y):J P f R n (.c (.cond c x y)::k) E h r F Y:=
 yO hc hv (fun _=>ht) fun h=>by cases h
theorem Jh {c:Operand} {x y:Sk} (hc:jN E none [c]=some []) (hv:mG E c=.bool false) (ht:J P f R n (.c y::k) E h r F Y):J P f R n (.c (.cond c x y)::k) E h r F Y:=
 yO hc hv (fun h=>by cases h) fun _=>ht
theorem Jf {b:Sk} (I:Nat→Act→World→Prop) (h0:∀a w,St n E h r F Y a w→∃m,I m a w)
  (round:∀m a w,I m a w→mq P f R (.c b::.back I m::k) .normal a w):J P f R n (.c (.loop b)::k) E h r F Y:=fun a w s=>by
 classical
 simp only[mq,Sk.code]
 refine wp_loop (fun a w=>∃m,I m a w) (fun a w=>if h:∃m,I m a w then least h else 0) (h0 a w s) fun a w hI=>?_
 have hr:=round (least hI) a w (Dv hI)
 simp only[mq]at hr
 refine wp_mono hr fun e a' w' hq=>?_
 cases e with
 | normal=>
  obtain⟨m',hlt,Uo⟩:=hq
  refine⟨⟨m',Uo⟩,?_⟩
  have h1:∃m,I m a' w':=⟨m',Uo⟩
  simp only[dif_pos hI,dif_pos h1]
  exact Nat.lt_of_le_of_lt (least_le h1 Uo) hlt
 | _=>exact hq
end rules
end Go.Sx
end
