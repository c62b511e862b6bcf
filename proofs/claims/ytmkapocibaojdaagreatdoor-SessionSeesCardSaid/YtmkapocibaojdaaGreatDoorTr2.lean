/- Part 2 of the texts of a claim: Tx6 Mn Tx7. -/
import Derived.KernelRfl
import Derived.Test.YtmkapocibaojdaaGreatDoorTr1
open Array renaming getD_eq_getD_getElem? → dB, getElem?_append → iY, getElem?_eq_some_iff → bJ, replicate → lS
open Bool renaming and_eq_true → bT, not_eq_true' → kD
open List renaming append_nil → bf, eq_nil_of_length_eq_zero → ct, eraseIdx_sublist → cG, filterMap_cons → lE, flatten_append → bj, flatten_cons → cr, getElem?_append_left → bz, getElem?_append_right → bt, getElem?_cons_succ → eU, getElem?_cons_zero → aV, getElem?_eq_getElem → ak, getElem?_eq_none → cO, getElem?_eq_some_iff → ai, getElem?_inj → dQ, getElem?_map → aF, getElem?_of_mem → aJ, getElem_mem → cz, length_cons → eF, map_cons → cj, mem_append → au, mem_append_left → ig, mem_append_right → fW, mem_cons → cE, mem_eraseIdx_iff_getElem? → c9, mem_filter → aP, mem_filterMap → dV, mem_flatten → cK, mem_map → aB, mem_of_getElem? → ae, mem_singleton → ay, nodup_append → be, nodup_cons → jf, nodup_range → jJ, range → bD
open Nat renaming add_mul → jR, beq → lR, ble → po, div_add_mod → lV, div_lt_of_lt_mul → jl, eq_of_beq_eq_true → dR, eq_zero_or_pos → iX, le_of_ble_eq_true → bP, le_refl → aX, le_trans → aZ, lt_of_lt_of_le → ej, lt_or_ge → dP, mod_lt → l8, mul_comm → fN, mul_le_mul_right → cD, one_mul → nK
open Option renaming map_eq_some_iff → aI
open Option.some renaming inj → dG, injEq → az
open Prod.mk renaming inj → kP, injEq → aH
section
namespace Go.Sx
open Go
def pick {α:Type} (l:List α) (ps:List Nat):List α:=ps.filterMap fun i=>l[i]?
theorem rj {α:Type} {l l':List α} {ps:List Nat} (h:pick l ps=l'):∀y∈l',y∈l:=fun y hy=>by
 rw[←h]at hy
 obtain⟨i,_,hi⟩:=dV.1 hy
 exact ae hi
theorem xC {α β:Type} {g:α→β} {l:List α}:∀{ps:List Nat} {l':List α},pick l ps=l'→ps.Nodup→(l.map g).Nodup→(l'.map g).Nodup
 | [],l',h,_,_=>by
  rw[←h]
  simp[pick]
 | i::ps,l',h,hp,hn=>by
  have hp2:=jf.1 hp
  have ih:=xC (g:=g) (l:=l) (ps:=ps) rfl hp2.2 hn
  rw[←h]
  unfold pick
  rw[lE]
  split
  ·exact ih
  ·rename_i x hx
   rw[cj,jf]
   refine⟨fun hm=>?_,ih⟩
   obtain⟨y,hy,hxy⟩:=aB.1 hm
   obtain⟨j,hj,T4⟩:=dV.1 hy
   have h1:(l.map g)[i]?=some (g x):=by rw[aF,hx];rfl
   have h2:(l.map g)[j]?=some (g x):=by rw[aF,T4,←hxy];rfl
   have hl:i<(l.map g).length:=(ai.1 h1).1
   have:=(dQ hl hn).1 (h1.trans h2.symm)
   subst this
   exact hp2.1 hj
theorem J9 {r:List (Nat×Obj)} {w:World} (h:∀x∈r,w.heap[x.1]?=some x.2):wA [] r w:=⟨by simp[Hp],by simp,h,by simp⟩
def LC (f:Func) (id:Nat):Bool:=(pins f).isEmpty||(bS f id).all fun o=>qx f o.dst
theorem Dm {f:Func} {id:Nat} (h:LC f id=true) {i:Nat} {o:Oper} (ho:(bS f id)[i]?=some o):qx f o.dst=true:=by
 rcases Bool.or_eq_true_iff.1 h with h|h
 ·unfold qx
  split
  ·rw[List.isEmpty_iff.1 h];rfl
  ·rfl
 ·obtain⟨hi,rfl⟩:=bJ.1 ho
  exact Array.all_eq_true.1 h i hi
def o5 (f:Func) (id:Nat) (d:Bool) (fb:List (Nat×Bool)):Bool:=
 if d then Region.noSelect (bS f id)&&lR fb.length (bS f id).size&&nL (bS f id) fb (lS (bS f id).size false)&&LC f id else fb.map (·.1)==bD (bS f id).size
def ef (P:Program) (n:Nat) (nu:Nat→Nat) (f:Func) (id L0:Nat) (ck:Bool) (pl:List Pl) (Wp:List (Nat×List Nat)) (E:Env) (h r:List (Nat×Obj)) (keep:List Nat):Option (Env×List (Nat×Obj)×List Ob×List (Nat×List Nat)):=
 match run P n nu (bS f id) r L0 ck pl Wp E ⟨h,0,[]⟩with
 | some (E',x',W',p)=>some (nB E' keep,x'.h,p,W')
 | none=>none
section rules
variable {P:Program} {f:Func} [Pan f] {R:Act→World→Prop} {n:Nat} [Dfr n] {k:List oR} {E E':Env} {h h' r:List (Nat×Obj)} {F:List (List Nat×World)} {Y:fQ}
theorem cm.drew {w:World} {S:Nat→Prop} {x:Value} {d:D} (h:cm w S x d):cm { w with drawn:=w.drawn+1 } S x d:=h.mono fun _ hb _=>⟨hb,rfl⟩
theorem nH.drew {a:Act} {w:World} {aU:List (List Nat)} (s:nH n E h r F Y a w aU):nH n E h r F Y a { w with drawn:=w.drawn+1 } aU:=
 ⟨s.ag,⟨s.own.own,s.own.nodup,s.own.ro,s.own.apart⟩,fun f hf=>(s.fr f hf).drew,s.may,
  ⟨s.gh.kF.mono (fun _ _=>rfl) (fun _ hb _=>⟨hb,rfl⟩),s.gh.nodup,s.gh.mw,s.gh.apart,s.gh.may,s.gh.lt,s.gh.own,s.gh.kT,s.gh.top,fun x hx=>(s.gh.g x hx).drew⟩⟩
theorem yS (hm:P.follows .mixedOrders=true) {id:Nat} {d:Bool} (fb:List (Nat×Bool)) (Wp:List (Nat×List Nat)) (hok:o5 f id d fb=true) (Ix:oT h.length Wp=true)
  (H:JR P f R n (bS f id) h.length d fb Wp k E h r F Y):J P f R n (.c (.rg id d)::k) E h r F Y:=fun a w ⟨aU,s⟩=>by
 have key:∀w,nH n E h r F Y a w aU→PW P (bS f id) (mq P f R k) w.heap.size d fb (kp aU.flatten h Wp) a w:=fun w s=>
  H w.heap.size aU.flatten aU a w s (fun b hb=>.inl hb) ⟨fun i _ x hx=>⟨s.own.own.lt (ae hx),fun hm=>s.gh.mw _ hm (aB.2 ⟨x,ae hx,rfl⟩)⟩,fun x hx=>⟨s.own.ro.lt hx,s.gh.apart x hx⟩,aX _,aX _⟩
   (fun j hj x hx=>by rw[cO hj]at hx;cases hx) Ix
 simp only[mq,Sk.code]
 cases d with
 | true=>
  simp only[o5,if_true,bT]at hok
  obtain⟨⟨⟨h1,h2⟩,h3⟩,h4⟩:=hok
  exact wX hm h1 (fun i o ho c a v w hq=>GO (Dm h4 ho) hq) fb _ (dR h2) h3 (key _ s.drew)
 | false=>
  simp only[o5,Bool.false_eq_true,if_false,beq_iff_eq]at hok
  exact wY fb _ hok (key w s)
theorem aC {ops:Array Oper} {L0:Nat} {ck:Bool} {Wp:List (Nat×List Nat)} (H:J P f R n k E h r F Y):JR P f R n ops L0 ck [] Wp k E h r F Y:=fun _ _ aU a w s _ _ _ _=>H a w ⟨aU,s⟩
def ow (x:Option (Env×List (Nat×Obj)×List Ob×List (Nat×List Nat))):List Nat×List Bool×List (Option Nat):=match x with
 | some y=>AN y.2.2.1
 | none=>([],[],[])
def ou (x:Option (Env×List (Nat×Obj)×List Ob×List (Nat×List Nat))):List Nat×List Bool×List (Option Nat):=match x with
 | some y=>AM y.2.2.1
 | none=>([],[],[])
def packed (x:Option (Env×List (Nat×Obj)×List Ob×List (Nat×List Nat))):Option (Env×List (Nat×Obj)×List Prop×List (Nat×List Nat)):=match x with
 | some y=>some (y.1,y.2.1,Kb y.2.2.1,y.2.2.2)
 | none=>none
theorem yQ {id L0:Nat} {ck:Bool} {Wp:List (Nat×List Nat)} {rest:List (Nat×Bool)} (pl:List Pl) (keep:List Nat) {E1:(Nat→Nat)→Env} {h1:(Nat→Nat)→List (Nat×Obj)} {p1:(Nat→Nat)→List Prop} {W1:List (Nat×List Nat)}
  (hr:∀nu,(packed (ef P n nu f id L0 ck pl Wp E h r keep),ow (ef P n nu f id L0 ck pl Wp E h r keep))=(some (E1 nu,h1 nu,p1 nu,W1),ou (ef P n nu f id L0 ck pl Wp E h r keep))) (hp:∀nu,vh (p1 nu))
  (H:∀nu,JR P f R n (bS f id) L0 ck rest W1 k (E1 nu) (h1 nu) r F Y):JR P f R n (bS f id) L0 ck (pl.map Pl.key++rest) Wp k E h r F Y:=by
 intro B Hd aU a w s hH hR hN hW
 obtain⟨h2,h3⟩:=kP (hr (fun j=>w.heap.size+j))
 unfold ef at h2 h3
 split at h2
 ·rename_i E' x' W' p hrun
  rw[hrun]at h3
  simp only[packed,az,aH]at h2
  obtain⟨e1,e2,e3,e4⟩:=h2
  refine AF pl Wp E ⟨h,0,[]⟩ E' x' W' p hrun (oM p h3 (by rw[e3];exact hp _)) hW a w s.ag s.own (fun j=>by simp) hR hN fun a' w' hA hO _ Oc Od hd Nw=>?_
  rw[e4]at Nw ⊢
  rw[e2]at hO Oc Od hd ⊢
  exact H _ B Hd aU a' w' (s.go (hA.sub (by rw[←e1];exact oe E' keep)) hO hd) hH Oc Od Nw
 ·cases h2
theorem wB (hm:P.follows .mixedOrders=true) {id:Nat} {d:Bool} (pl:List Pl) (Wp:List (Nat×List Nat)) (keep:List Nat) {E1:(Nat→Nat)→Env} {h1:(Nat→Nat)→List (Nat×Obj)} {p1:(Nat→Nat)→List Prop} {W1:List (Nat×List Nat)}
  (hok:(o5 f id d (pl.map Pl.key)&&oT h.length Wp)=true)
  (hr:∀nu,(packed (ef P n nu f id h.length d pl Wp E h r keep),ow (ef P n nu f id h.length d pl Wp E h r keep))=(some (E1 nu,h1 nu,p1 nu,W1),ou (ef P n nu f id h.length d pl Wp E h r keep))) (hp:∀nu,vh (p1 nu))
  (H:∀nu,J P f R n k (E1 nu) (h1 nu) r F Y):J P f R n (.c (.rg id d)::k) E h r F Y:=by
 obtain⟨WJ,JB⟩:=(bT _ _ ▸ hok:_∧_)
 refine yS hm (pl.map Pl.key) Wp WJ JB ?_
 have:=yQ (rest:=[]) pl keep hr hp fun nu=>aC (H nu)
 rwa[bf]at this
def lD (P:Program) (n:Nat) (ops:Array Oper) (h r:List (Nat×Obj)) (E:Env) (i:Nat) (hs:List Hn):Option (FuncId×Array Value×Option Tmp×List Ob):=
 match ops[i]? with
 | none=>none
 | some o=>if nT n o.dst&&!zX o.op then match (match o.guard with
   | none=>some (none,[])
   | some (j,want)=>(guardOf E ops j).map fun c=>(some (c,want),[.bb c want]))with
  | none=>none
  | some (cd,g)=>match jN E cd o.op.operands.toList with
   | none=>none
   | some q=>match s9 P h r (execOp (mG E) o) hs with
    | some (.enter fid args,p)=>some (fid,args,o.dst,g++(q++p))
    | _=>none
  else none
theorem u0 {ops:Array Oper} {i:Nat} {hs:List Hn} {fid:FuncId} {args:Array Value} {dst:Option Tmp} {p:List Ob} (he:lD P n ops h r E i hs=some (fid,args,dst,p)) (hp:th p)
  {a:Act} {w:World} {aU:List (List Nat)} (s:nH n E h r F Y a w aU) {K:Act→World→Prop} {Q:Exit→Act→World→Prop}
  (C:Calls P fid args w fun e w'=>∃v,e=.returned v∧∀E',E'=E.put dst (.val v)→∀a',Ag n E' a'→K a' w'):wpOp P ops Q i K a w:=by
 unfold lD at he
 split at he
 ·cases he
 rename_i o ho
 split at he
 case isFalse=>cases he
 rename_i hd
 simp only[bT,kD]at hd
 split at he
 ·cases he
 rename_i cd g hg
 split at he
 ·cases he
 rename_i q hq
 split at he
 case h_2=>cases he
 rename_i XE args' p' hx
 simp only[az,aH]at he
 obtain⟨rfl,rfl,rfl,rfl⟩:=he
 obtain⟨hg1,hp⟩:=gj hp
 obtain⟨wF,hp1⟩:=gj hp
 have rC:Region.wanted o (yielded ops a.tmps)=true∧∀c wn,cd=some (c,wn)→c=wn:=by
  cases hgd:o.guard with
  | none=>
   rw[hgd]at hg
   simp only[az,aH]at hg
   refine⟨by simp[Region.wanted,hgd],fun c wn h=>?_⟩
   rw[←hg.1]at h
   cases h
  | some y=>
   obtain⟨j,want⟩:=y
   rw[hgd]at hg
   obtain⟨c,hc,It⟩:=aI.1 hg
   simp only[aH]at It
   obtain⟨rfl,rfl⟩:=It
   have hy:=ki s.ag hc
   have vl:c=want:=hg1.1
   refine⟨by simp[Region.wanted,hgd,hy,vl],fun c' wn h=>?_⟩
   injection h with h
   injection h with h1 h2
   rw[←h1,←h2]
   exact vl
 unfold wpOp
 simp only[ho]
 rw[if_pos rC.1]
 refine .inl ?_
 unfold Oper.wp
 have pF:execOp a.eval o=execOp (mG E) o:=execOp_congr o (fun cs b hc=>by have:=hd.2;rw[hc]at this;cases this) (fun x hx=>eG s.ag rC.2 _ _ hq wF x (by simpa using hx))
 rw[pF,sE _ hs _ _ hx hp1 w fun y hy=>by
  obtain⟨hn,_,hg⟩:=dV.1 hy
  exact s.own.get hg]
 rw[Oper.upon_enter]
 refine C.mono fun e w' hh=>?_
 obtain⟨v,rfl,hk⟩:=hh
 exact hk _ rfl _ (s.ag.put hd.1 (.val v))
def zh (x:Option (FuncId×Array Value×Option Tmp×List Ob)):Option (FuncId×Array Value×Option Tmp)×(List Nat×List Bool×List (Option Nat))×Nat:=match x with
 | some y=>(some (y.1,y.2.1,y.2.2.1),AN y.2.2.2,(Kb y.2.2.2).length)
 | none=>(none,([],[],[]),0)
def ur (x:Option (FuncId×Array Value×Option Tmp×List Ob)):List Nat×List Bool×List (Option Nat):=match x with
 | some y=>AM y.2.2.2
 | none=>([],[],[])
theorem yD {x:Option (FuncId×Array Value×Option Tmp×List Ob)} {fid:FuncId} {args:Array Value} {dst:Option Tmp} (h:zh x=(some (fid,args,dst),ur x,0)):∃p,x=some (fid,args,dst,p)∧th p:=by
 cases x with
 | none=>simp[zh]at h
 | some y=>
  obtain⟨a,b,c,p⟩:=y
  simp only[zh,ur,aH,az]at h
  obtain⟨⟨rfl,rfl,rfl⟩,h2,h3⟩:=h
  refine⟨p,rfl,oM p h2 ?_⟩
  rw[ct h3]
  trivial
def sK (S:Nat→Prop) (M:List Nat) (w:World):Nat→Prop:=fun b=>S b∨b∈M∨w.heap.size≤b
def l5 (S:Nat→Prop) (M:List Nat) (w:World) (aU:List (List Nat)):Nat→Prop:=fun b=>sK S M w b∧b∉aU.flatten
def Pre (w:World) (S:Nat→Prop) (M:List Nat) (C:List Chunk):Prop:=
 ∃aU,mV w S C aU∧M=aU.flatten∧M.Nodup∧∀b∈M,b<w.heap.size∧¬S b
theorem Pre.none (w:World) (S:Nat→Prop):Pre w S [] []:=⟨[],trivial,rfl,by simp,by simp⟩
def gl (w:World) (S:Nat→Prop) (G:List (Value×D)):Prop:=∀x∈G,cm w S x.1 x.2
theorem gl.at {w:World} {S:Nat→Prop} {G:List (Value×D)} (h:gl w S G) (p:Nat) {v:Value} {d:D} (hp:G[p]?=some (v,d)):cm w S v d:=h _ (ae hp)
theorem gl.nil (w:World) (S:Nat→Prop):gl w S []:=fun _ h=>by cases h
theorem gl.cons {w:World} {S:Nat→Prop} {G:List (Value×D)} {v:Value} {d:D} (h:cm w S v d) (hG:gl w S G):gl w S ((v,d)::G):=fun x hx=>by
 rcases cE.1 hx with rfl|hx
 ·exact h
 ·exact hG x hx
structure cQ (M:List Nat) (w:World) (S:Nat→Prop) (w':World) (e:Ending) (v:Value) (C:List Chunk) (G:List (Value×D)):Prop where
 ret:e=.returned v
 fr:Fr M w w'
 gh:∃aU,mV w' (l5 S M w aU) C aU∧aU.flatten.Nodup∧(∀b∈aU.flatten,(b∈M∨w.heap.size≤b)∧b<w'.heap.size)∧∀x∈G,cm w' (l5 S M w aU) x.1 x.2
def others (n:Nat) (cs:List Nat):List Nat:=(bD n).filter fun i=>!cs.contains i
def o4 (C:List Chunk) (cs:List Nat):List Chunk:=pick C (others C.length cs)
theorem su {α:Type} (l:List α) (i:Nat) (ps:List Nat):pick l (i::ps)=(l[i]?).toList++pick l ps:=by
 unfold pick
 rw[lE]
 cases l[i]? <;> rfl
theorem uy {α:Type} (l:List α) (ps qs:List Nat):pick l (ps++qs)=pick l ps++pick l qs:=by simp[pick]
theorem mV.pick {w:World} {S:Nat→Prop} {cs:List Chunk} {aU:List (List Nat)} (h:mV w S cs aU):∀ps:List Nat,mV w S (pick cs ps) (pick aU ps)
 | []=>trivial
 | i::ps=>by
  have ih:=mV.pick h ps
  rw[su,su]
  cases hc:cs[i]? with
  | none=>
   have:aU[i]?=none:=by
    rw[List.getElem?_eq_none_iff]at hc ⊢
    rw[←h.len];exact hc
   rw[this]
   exact ih
  | some c=>
   obtain⟨fp,h1,h2⟩:=h.at hc
   rw[h1]
   exact⟨h2,ih⟩
theorem qH {aU:List (List Nat)} (h:aU.flatten.Nodup):∀{i j:Nat} {x y:List Nat} {b:Nat},aU[i]?=some x→aU[j]?=some y→b∈x→b∈y→i=j:=by
 induction aU with
 | nil=>intro i j x y b hi;simp at hi
 | cons fp aU ih=>
  rw[cr,be]at h
  obtain⟨h1,h2,h3⟩:=h
  intro i j x y b hi hj hx hy
  have hin:∀{k:Nat} {z:List Nat},aU[k]?=some z→b∈z→b∈aU.flatten:=fun hk hz=>cK.2 ⟨_,ae hk,hz⟩
  cases i with
  | zero=>
   cases j with
   | zero=>rfl
   | succ j=>
    simp only[aV,az,eU]at hi hj
    subst hi
    exact absurd rfl (h3 b hx b (hin hj hy))
  | succ i=>
   cases j with
   | zero=>
    simp only[aV,az,eU]at hi hj
    subst hj
    exact absurd rfl (h3 b hy b (hin hi hx))
   | succ j=>
    simp only[eU]at hi hj
    rw[ih h2 hi hj hx hy]
theorem kg {aU:List (List Nat)} {ps:List Nat} {b:Nat} (h:b∈(pick aU ps).flatten):∃i∈ps,∃x,aU[i]?=some x∧b∈x:=by
 obtain⟨x,hx,hb⟩:=cK.1 h
 obtain⟨i,hi,he⟩:=dV.1 hx
 exact⟨i,hi,x,he,hb⟩
theorem bu {aU:List (List Nat)} {ps:List Nat} {b:Nat} (h:b∈(pick aU ps).flatten):b∈aU.flatten:=by
 obtain⟨i,_,x,hx,hb⟩:=kg h
 exact cK.2 ⟨x,ae hx,hb⟩
theorem fI {aU:List (List Nat)} (h:aU.flatten.Nodup):∀{ps:List Nat},ps.Nodup→(pick aU ps).flatten.Nodup
 | [],_=>by simp[pick]
 | i::ps,hp=>by
  have hp:=jf.1 hp
  rw[su,bj,be]
  refine⟨?_,fI h hp.2,fun b hb c hc hbc=>?_⟩
  ·cases hi:aU[i]? with
   | none=>simp
   | some x=>
    have hx:=ae hi
    obtain⟨l1,l2,rfl⟩:=List.append_of_mem hx
    rw[bj,cr]at h
    have:=(be.1 (be.1 h).2.1).1
    simpa using this
  ·subst hbc
   cases hi:aU[i]? with
   | none=>rw[hi]at hb;simp at hb
   | some x=>
    rw[hi]at hb
    simp at hb
    obtain⟨j,hj,y,hy,hby⟩:=kg hc
    have:=qH h hi hy hb hby
    subst this
    exact hp.1 hj
theorem xD {n:Nat} [Dfr n] {cs:List Nat} {i:Nat} (h:i∈others n cs):i∉cs:=by
 unfold others at h
 have:=(aP.1 h).2
 simpa using this
theorem AJ (n:Nat) (cs:List Nat):(others n cs).Nodup:=jJ.filter _
theorem Hv {Y:fQ} {h r:List (Nat×Obj)} {F:List (List Nat×World)} {w w':World} {aU gE:List (List Nat)} {cs:List Nat} (H:Jt Y h r F w aU) (hO:wA h r w)
  (_:∀b∈gE.flatten,(b∈(pick aU cs).flatten∨w.heap.size≤b)∧b<w'.heap.size):∀b,l5 (Sd Y h aU) (pick aU cs).flatten w gE b→Sd Y h (pick aU (others aU.length cs)++gE) b:=by
 intro b hb
 have hh:b∉h.map (·.1)∧b∉(pick aU (others aU.length cs)).flatten∧Y.S b:=by
  rcases hb.1 with h1|h1|h1
  ·exact⟨h1.2.1,fun hm=>h1.2.2 (bu hm),h1.1⟩
  ·refine⟨H.mw b (bu h1),fun hm=>?_,H.kT b (bu h1)⟩
   obtain⟨i,hi,x,hx,KG⟩:=kg h1
   obtain⟨j,hj,y,hy,hby⟩:=kg hm
   have:=qH H.nodup hx hy KG hby
   subst this
   exact xD hj hi
  ·refine⟨fun hm=>?_,fun hm=>?_,H.top b h1⟩
   ·obtain⟨x,hx,rfl⟩:=aB.1 hm
    have:=hO.own.lt hx
    omega
   ·have:=H.lt b (bu hm)
    omega
 refine⟨hh.2.2,hh.1,fun hm=>?_⟩
 rw[bj]at hm
 rcases au.1 hm with hm|hm
 ·exact hh.2.1 hm
 ·exact hb.2 hm
theorem Pre.of {a:Act} {w:World} {aU:List (List Nat)} (s:nH n E h r F Y a w aU) {cs:List Nat} (hcs:cs.Nodup):Pre w (Sd Y h aU) (pick aU cs).flatten (pick Y.C cs):=
 ⟨pick aU cs,s.gh.kF.pick cs,rfl,fI s.gh.nodup hcs,fun b hb=>⟨s.gh.lt b (bu hb),fun hS=>hS.2.2 (bu hb)⟩⟩
theorem nH.called {a a':Act} {w w':World} {aU:List (List Nat)} {cs:List Nat} {e:Ending} {v:Value} {C':List Chunk} {G':List (Value×D)} (s:nH n E h r F Y a w aU)
  (hA:Ag n E' a') (hR:cQ (pick aU cs).flatten w (Sd Y h aU) w' e v C' G') :
  ∃gE,(∀b∈gE.flatten,b∈(pick aU cs).flatten∨w.heap.size≤b)∧nH n E' h r F ⟨Y.S,pick Y.C (others Y.C.length cs)++C',Y.G++G'⟩ a' w' (pick aU (others aU.length cs)++gE):=by
 obtain⟨_,hf,gE,hC,hn,h3,hG⟩:=hR
 have H:=s.gh
 have hS:=Hv (cs:=cs) (gE:=gE) (w':=w') H s.own h3
 have hnew:∀b,b∈gE.flatten→b<w.heap.size→b∈(pick aU cs).flatten:=fun b hb hlt=>by
  rcases(h3 b hb).1 with h|h
  ·exact h
  ·omega
 have hM:∀b,b∉aU.flatten→b∉(pick aU cs).flatten:=fun b hb hm=>hb (bu hm)
 have QG:∀b,Sd Y h aU b→b<w.heap.size→Sd Y h (pick aU (others aU.length cs)++gE) b∧w'.heap[b]?=w.heap[b]?:=fun b hb hlt=>
  ⟨hS b ⟨.inl hb,fun hm=>hb.2.2 (bu (hnew b hm hlt))⟩,hf.block b hlt (hM b hb.2.2)⟩
 have sY:∀b∈(pick aU (others aU.length cs)).flatten,b∉(pick aU cs).flatten:=fun b hb hm=>by
  obtain⟨i,hi,x,hx,KG⟩:=kg hm
  obtain⟨j,hj,y,hy,hby⟩:=kg hb
  have:=qH H.nodup hx hy KG hby
  subst this
  exact xD hj hi
 have hall:∀b∈(pick aU (others aU.length cs)++gE).flatten,b∈aU.flatten∨w.heap.size≤b:=fun b hb=>by
  rw[bj]at hb
  rcases au.1 hb with hb|hb
  ·exact .inl (bu hb)
  ·exact(h3 b hb).1.imp bu id
 refine⟨gE,fun b hb=>(h3 b hb).1,hA,⟨fun x hx=>?_,s.own.nodup,fun x hx=>?_,s.own.apart⟩,fun f wP=>?_,s.may,?_⟩
 ·refine(hf.block _ (s.own.own.lt hx) fun hm=>?_).trans (s.own.own x hx)
  exact H.mw _ (bu hm) (aB.2 ⟨x,hx,rfl⟩)
 ·exact(hf.block _ (s.own.ro.lt hx) fun hm=>H.apart x hx (bu hm)).trans (s.own.ro x hx)
 ·refine(s.fr f wP).trans (K:=f.1) hf (fun x hx=>hx) fun x hx=>?_
  rcases H.may f wP x (bu hx)with h1|h1
  ·exact .inl h1
  ·exact .inr h1
 ·refine⟨?_,?_,fun b hb hm=>?_,fun x hx hm=>?_,fun f wP b hb=>?_,fun b hb=>?_,H.own,fun b hb=>?_,fun b hb=>H.top b (aZ hf.size hb),fun x hx=>?_⟩
  ·refine mV.app ?_ ?_
   ·have hl:Y.C.length=aU.length:=H.kF.len
    rw[hl]
    exact(H.kF.pick _).mono (fun b hb=>hf.block b (H.lt b (bu hb)) (sY b hb)) QG
   ·exact hC.mono (fun _ _=>rfl) fun b hb _=>⟨hS b hb,rfl⟩
  ·rw[bj,be]
   refine⟨fI H.nodup (AJ _ _),hn,fun x hx y hy hxy=>?_⟩
   subst hxy
   exact sY x hx (hnew x hy (H.lt x (bu hx)))
  ·rcases hall b hb with h1|h1
   ·exact H.mw b h1 hm
   ·obtain⟨x,hx,rfl⟩:=aB.1 hm
    have:=s.own.own.lt hx
    omega
  ·rcases hall _ hm with h1|h1
   ·exact H.apart x hx h1
   ·have:=s.own.ro.lt hx
    omega
  ·rcases hall b hb with h1|h1
   ·exact H.may f wP b h1
   ·exact .inr (aZ (s.fr f wP).size h1)
  ·rw[bj]at hb
   rcases au.1 hb with hb|hb
   ·exact ej (H.lt b (bu hb)) hf.size
   ·exact(h3 b hb).2
  ·rcases hall b hb with h1|h1
   ·exact H.kT b h1
   ·exact H.top b h1
  ·rcases au.1 hx with hx|hx
   ·exact(H.g x hx).mono QG
   ·exact(hG x hx).mono fun b hb _=>⟨hS b hb,rfl⟩
theorem Jo {id L0 i:Nat} {ck:Bool} {Wp:List (Nat×List Nat)} {rest:List (Nat×Bool)} (hs:List Hn) (cs:List Nat) (fid:FuncId) (args:Array Value) (dst:Option Tmp)
  (he:zh (lD P n (bS f id) h r E i hs)=(some (fid,args,dst),ur (lD P n (bS f id) h r E i hs),0)) (hok:(!ck||(Wp.lookup i).isSome||cs.isEmpty)=true) (hcs:cs.Nodup)
  (C:∀w S M,Pre w S M (pick Y.C cs)→gl w S Y.G→(cs=[]→M=[])→Calls P fid args w fun e w'=>∃v C' G',cQ M w S w' e v C' G' ∧
   JR P f R n (bS f id) L0 ck rest (Wp.filter (·.1 != i)) k (E.put dst (.val v)) h r F ⟨Y.S,o4 Y.C cs++C',Y.G++G'⟩) :
  JR P f R n (bS f id) L0 ck ((i,false)::rest) Wp k E h r F Y:=by
 obtain⟨p,he,hp⟩:=yD he
 intro B Hd aU a w s hH hR hN hW
 simp only[PW]
 refine u0 he hp s ((C w (Sd Y h aU) (pick aU cs).flatten (Pre.of s hcs) s.gh.g (fun h=>by rw[h];simp[pick])).mono fun e w' hh=>?_)
 obtain⟨v,C',G',wH,H⟩:=hh
 have hf:=wH.fr
 refine⟨v,wH.ret,fun E' hE a' hA=>⟨fun uQ b hb hl=>?_,?_⟩⟩
 ·refine hf.block b hb fun hm=>?_
  have qU:=bu hm
  cases LW:Wp.lookup i with
  | none=>
   rw[LW,uQ]at hok
   simp at hok
   subst hok
   simp[pick]at hm
  | some ps=>
   rw[ny,LW]at hl
   obtain⟨h1,h2⟩:=hl _ rfl
   rcases hH b qU with h3|h3
   ·exact h2 (fW _ h3)
   ·omega
 ·subst hE
  rw[jP]
  obtain⟨gE,h3,s'⟩:=s.called (cs:=cs) hA wH
  refine H B Hd _ a' w' s' (fun b hb=>?_) ⟨hR.old,hR.ro,hR.len,aZ hR.size hf.size⟩ hN (gT hW)
  rw[bj]at hb
  rcases au.1 hb with hb|hb
  ·exact hH b (bu hb)
  ·rcases h3 b hb with h1|h1
   ·exact hH b (bu h1)
   ·exact .inr (aZ hR.size h1)
theorem cn {S0:Nat→Prop} {C0:List Chunk} {G0:List (Value×D)} {id L0 i:Nat} {ck:Bool} {Wp:List (Nat×List Nat)} {rest:List (Nat×Bool)} (hs:List Hn) (cs:List Nat) (fid:FuncId) (args:Array Value) (dst:Option Tmp)
  (he:zh (lD P n (bS f id) h r E i hs)=(some (fid,args,dst),ur (lD P n (bS f id) h r E i hs),0)) (hok:(!ck||(Wp.lookup i).isSome||cs.isEmpty)=true) (hcs:cs.Nodup)
  (C:∀w S M,Pre w S M (pick C0 cs)→gl w S G0→(cs=[]→M=[])→Calls P fid args w fun e w'=>∃v C' G',cQ M w S w' e v C' G' ∧
   JR P f R n (bS f id) L0 ck rest (Wp.filter (·.1 != i)) k (E.put dst (.val v)) h r F ⟨S0,o4 C0 cs++C',G0++G'⟩) :
  JR P f R n (bS f id) L0 ck ((i,false)::rest) Wp k E h r F ⟨S0,C0,G0⟩:=Jo (Y:=⟨S0,C0,G0⟩) hs cs fid args dst he hok hcs C
theorem uz {α:Type}:∀l:List α,pick l (bD l.length)=l
 | []=>rfl
 | x::l=>by
  have ih:=uz l
  rw[eF,List.range_succ_eq_map,su]
  unfold pick at ih ⊢
  rw[List.filterMap_map]
  have h2:((fun i=>(x::l)[i]?)∘Nat.succ)=fun i=>l[i]?:=by
   funext i
   simp
  rw[h2,ih]
  simp
theorem Gw {id L0 i:Nat} {ck:Bool} {Wp:List (Nat×List Nat)} {rest:List (Nat×Bool)} (hs:List Hn) (fid:FuncId) (args:Array Value) (dst:Option Tmp)
  (he:zh (lD P n (bS f id) h r E i hs)=(some (fid,args,dst),ur (lD P n (bS f id) h r E i hs),0))
  (C:∀w S,gl w S Y.G→Calls P fid args w fun e w'=>∃v C' G',cQ [] w S w' e v C' G' ∧
   JR P f R n (bS f id) L0 ck rest (Wp.filter (·.1 != i)) k (E.put dst (.val v)) h r F ⟨Y.S,Y.C++C',Y.G++G'⟩) :
  JR P f R n (bS f id) L0 ck ((i,false)::rest) Wp k E h r F Y:=by
 refine cn hs [] fid args dst he (by simp) (by simp) fun w S M _ hG hM=>?_
 obtain rfl:=hM rfl
 refine(C w S hG).mono fun e w' ⟨v,C',G',hR,H⟩=>⟨v,C',G',hR,?_⟩
 have:pick Y.C (others Y.C.length [])=Y.C:=by
  have h1:others Y.C.length []=bD Y.C.length:=by simp[others]
  rw[h1,uz]
 unfold o4
 rw[this]
 exact H
theorem Jn {S0:Nat→Prop} {C0:List Chunk} {G0:List (Value×D)} {id L0 i:Nat} {ck:Bool} {Wp:List (Nat×List Nat)} {rest:List (Nat×Bool)} (hs:List Hn) (fid:FuncId) (args:Array Value) (dst:Option Tmp)
  (he:zh (lD P n (bS f id) h r E i hs)=(some (fid,args,dst),ur (lD P n (bS f id) h r E i hs),0))
  (C:∀w S,gl w S G0→Calls P fid args w fun e w'=>∃v C' G',cQ [] w S w' e v C' G' ∧
   JR P f R n (bS f id) L0 ck rest (Wp.filter (·.1 != i)) k (E.put dst (.val v)) h r F ⟨S0,C0++C',G0++G'⟩) :
  JR P f R n (bS f id) L0 ck ((i,false)::rest) Wp k E h r F ⟨S0,C0,G0⟩:=Gw (Y:=⟨S0,C0,G0⟩) hs fid args dst he C
def uU:Nat→List Value→Env
 | _,[]=>[]
 | i,v::vs=>(i,.val v)::uU (i+1) vs
theorem yo:∀(vs:List Value) (i t:Nat) (ev:EV),(uU i vs).lookup t=some ev→∃j v,t=i+j∧vs[j]?=some v∧ev=.val v
 | [],i,t,ev,h=>by simp[uU]at h
 | v::vs,i,t,ev,h=>by
  simp only[uU]at h
  by_cases ht:t=i
  ·subst ht
   rw[lookup_cons_self]at h
   exact⟨0,v,rfl,rfl,(dG h).symm⟩
  ·rw[mJ _ _ ht]at h
   obtain⟨j,u,h1,h2,h3⟩:=yo vs (i+1) t ev h
   exact⟨j+1,u,by omega,by simpa using h2,h3⟩
def Di (P:Program) (fn:Func) (Rr:Ending→World→Prop) (a:Act) (w:World):Prop:=a.defers=[]∧∃v,(results fn a.tmps).run P w=.ok v w∧Rr (.returned v) w
theorem IW {n:Nat} {fid:FuncId} {fn:Func} {sk:Sk} {args:List Value} {w:World} {S:Nat→Prop} {M:List Nat} {C:List Chunk} {G:List (Value×D)} {Rr:Ending→World→Prop} (hf:P.funcs[fid]?=some fn) (hb:fn.body=some (sk.code fn)) (hn:fn.ntmps=n) (hle:po args.length n=true)
  (hpre:Pre w S M C) (hG:gl w S G) (pn:Pan fn) (M7:∀c a w,pn.NZ c a w→a.defers=[]∧Rr (.panicked c) w) (H:J P fn (Di P fn Rr) n [.c sk] (uU 0 args) [] [] [(M,w)] ⟨sK S M w,C,G⟩):Calls P fid args.toArray w Rr:=by
 subst hn
 have hle:=bP hle
 obtain⟨aU,hC,rfl,hnd,hM⟩:=hpre
 have hS:∀b,S b→Sd ⟨sK S aU.flatten w,C,G⟩ [] aU b:=fun b hb=>⟨.inl hb,by simp,fun hm=>(hM b hm).2 hb⟩
 refine calls_of_wp hf hb ?_
 have hA:Ag fn.ntmps (uU 0 args) { tmps:=args.toArray++lS (fn.ntmps - args.toArray.size) undef,defers:=[] }:=by
  refine⟨rfl,by simp;omega,fun t ev he=>?_⟩
  obtain⟨j,v,h1,h2,h3⟩:=yo args 0 t ev he
  obtain rfl:t=j:=by omega
  subst h3
  have hj:t<args.length:=(ai.1 h2).1
  simp[iY,hj,EV.now]
  simpa [ak hj]using h2
 have:=H _ w ⟨aU,hA,J9 (by simp),by simp[Fr.refl],by simp,⟨hC.mono (fun _ _=>rfl) fun b hb _=>⟨hS b hb,rfl⟩,hnd,by simp,by simp,by simp only[ay];rintro f rfl b hb;exact .inl hb,fun b hb=>(hM b hb).1,by simp,fun b hb=>.inr (.inl hb),fun b hb=>.inr (.inr hb),fun x hx=>(hG x hx).mono fun b hb _=>⟨hS b hb,rfl⟩⟩⟩
 simp only[mq]at this
 refine wp_mono this fun e a w' hq=>?_
 cases e with
 | normal=>exact hq
 | ret=>exact hq
 | exit id=>exact absurd hq (by simp[mq])
 | goto l=>exact absurd hq (by simp[mq])
 | panic c=>exact M7 c a w' hq
 | outgrown=>exact absurd hq (by simp[mq])
theorem EK {n:Nat} {fid:FuncId} {fn:Func} {sk:Sk} {args:List Value} {w:World} {S:Nat→Prop} {M:List Nat} {C:List Chunk} {G:List (Value×D)} {Rr:Ending→World→Prop} (hf:P.funcs[fid]?=some fn) (hb:fn.body=some (sk.code fn)) (hn:fn.ntmps=n) (hle:po args.length n=true)
  (hpre:Pre w S M C) (hG:gl w S G) (H:J P fn (Di P fn Rr) n [.c sk] (uU 0 args) [] [] [(M,w)] ⟨sK S M w,C,G⟩):Calls P fid args.toArray w Rr:=
 IW hf hb hn hle hpre hG inferInstance (fun _ _ _ h=>(show False from h).elim) H
theorem St.ret {F:List (List Nat×World)} {C C':List Chunk} {G G':List (Value×D)} {S:Nat→Prop} {M:List Nat} {w0:World} {a:Act} {w:World} {v:Value} (s:St n E h r F ⟨sK S M w0,C,G⟩ a w) (hF:(M,w0)∈F) (cs gs:List Nat)
  (hC:pick C cs=C') (hG:pick G gs=G') (hcs:cs.Nodup:=by decide):cQ M w0 S w (.returned v) v C' G':=by
 obtain⟨aU,s⟩:=s
 subst hC hG
 have hS:∀b,Sd ⟨sK S M w0,C,G⟩ h aU b→l5 S M w0 (pick aU cs) b:=fun b hb=>⟨hb.1,fun hm=>hb.2.2 (bu hm)⟩
 refine⟨rfl,s.fr _ hF,pick aU cs,(s.gh.kF.pick cs).mono (fun _ _=>rfl) fun b hb _=>⟨hS b hb,rfl⟩,fI s.gh.nodup hcs,fun b hb=>⟨?_,s.gh.lt b (bu hb)⟩,fun x hx=>?_⟩
 ·exact s.gh.may _ hF b (bu hb)
 ·exact(s.gh.g x (rj rfl x hx)).mono fun b hb _=>⟨hS b hb,rfl⟩
def Tm (E:Env):ResultVar→Sem Value
 | .tmp t=>pure (mG E (.tmp t))
 | .cell a t=>do loadVar t (← asAddr (mG E (.tmp a)))
def Tn (E:Env):ResultVar→Bool
 | .tmp t=>match E.lookup t with
  | some (.val _)=>true
  | _=>false
 | .cell t _=>match E.lookup t with
  | some (.val _)=>true
  | _=>false
def Dj (P:Program) (E:Env) (h r:List (Nat×Obj)):List ResultVar→List (List Hn)→Option (List Value×List Ob)
 | [],_=>some ([],[])
 | rv::Mv,hs::hss=>if Tn E rv then match s9 P h r (Tm E rv) hs with
  | some (v,p)=>match Dj P E h r Mv hss with
   | some (vs,q)=>some (v::vs,p++q)
   | none=>none
  | none=>none
  else none
 | _::_,[]=>none
def Fq (P:Program) (fn:Func) (E:Env) (h r:List (Nat×Obj)) (hss:List (List Hn)):Option (Value×List Ob):=
 match Dj P E h r fn.results.toList hss with
 | some ([v],p)=>some (v,p)
 | some (vs,p)=>some (.tuple vs.toArray,p)
 | none=>none
theorem xz {a:Act} {w:World} (s:St n E h r F Y a w):∀(Mv:List ResultVar) (hss:List (List Hn)) (vs:List Value) (p:List Ob),Dj P E h r Mv hss=some (vs,p)→th p →
  (Mv.mapM (fun
   | .tmp t=>pure (a.tmps.getD t undef)
   | .cell ad t=>do loadVar t (← asAddr (a.tmps.getD ad undef)):ResultVar→Sem Value)).run P w=.ok vs w
 | [],_,vs,p,he,_=>by
  simp only[Dj,az,aH]at he
  rw[←he.1]
  simp
 | rv::Mv,[],vs,p,he,_=>by simp[Dj]at he
 | rv::Mv,hs::hss,vs,p,he,hp=>by
  simp only[Dj]at he
  split at he
  case isFalse=>cases he
  rename_i hok
  split at he
  case h_2=>cases he
  rename_i v p1 h1
  split at he
  case h_2=>cases he
  rename_i vs' q h2
  simp only[az,aH]at he
  obtain⟨rfl,rfl⟩:=he
  obtain⟨hp1,hp2⟩:=gj hp
  have ih:=xz s Mv hss vs' q h2 hp2
  have hv:=sE _ hs _ _ h1 hp1 w fun y hy=>by
   obtain⟨hn,_,hg⟩:=dV.1 hy
   exact s.own.get hg
  have hsame:∀t:Nat,(match E.lookup t with|some (.val _)=>true|_=>false)=true→a.tmps.getD t undef=mG E (.tmp t):=by
   intro t ht
   split at ht
   ·rename_i u hu
    have:=s.ag.look t _ hu
    simp[mG,hu,EV.raw,dB,this,EV.now]
   ·cases ht
  rw[List.mapM_cons,Sem.run_bind]
  cases rv with
  | tmp t=>
   have e1:=hsame t hok
   simp only[Tm]at hv
   simp only[e1,hv,Result.andThen_ok,Sem.run_bind,ih,Sem.run_pure]
  | cell ad t=>
   have e1:=hsame ad hok
   simp only[Tm]at hv
   simp only[e1,hv,Result.andThen_ok,Sem.run_bind,ih,Sem.run_pure]
omit [Pan f] in
theorem Dh {n:Nat} {Rr:Ending→World→Prop} {hss:List (List Hn)} {v:Value} {p:List Ob} (he:Fq P f E h r hss=some (v,p)) (hp:th p) {a:Act} {w:World} (s:St n E h r F Y a w) (hR:Rr (.returned v) w):Di P f Rr a w:=by
 refine⟨s.ag.defers,v,?_,hR⟩
 unfold Fq at he
 have key:∀vs q,Dj P E h r f.results.toList hss=some (vs,q)→th q→(if hh:vs.toArray.size=1 then vs.toArray[0]else Value.tuple vs.toArray)=v→(results f a.tmps).run P w=.ok v w:=fun vs q h1 h2 h3=>by
  have:=xz s f.results.toList hss vs q h1 h2
  unfold results
  rw[Array.mapM_eq_mapM_toList]
  rw[Sem.run_bind,←bind_pure_comp,Sem.run_bind]
  refine Eq.trans (congrArg (fun x:Result (List Value)=>(x.andThen fun a w'=>Sem.run P (pure a.toArray) w').andThen fun a w'=>Sem.run P (pure (if h:a.size=1 then a[0]else Value.tuple a)) w') this) ?_
  simp only[Result.andThen_ok,Sem.run_pure]
  rw[h3]
 split at he
 ·rename_i u q h1
  simp only[az,aH]at he
  obtain⟨rfl,rfl⟩:=he
  exact key [u] q h1 hp (by simp)
 ·rename_i vs q hne h1
  simp only[az,aH]at he
  obtain⟨rfl,rfl⟩:=he
  refine key vs q h1 hp ?_
  rw[dif_neg]
  intro hl
  obtain⟨u,hu⟩:=List.length_eq_one_iff.1 (show vs.length=1 by simpa using hl)
  exact hne u hu
 ·cases he
def IV (x:Option (Value×List Ob)):Option Value×(List Nat×List Bool×List (Option Nat))×Nat:=match x with
 | some y=>(some y.1,AN y.2,(Kb y.2).length)
 | none=>(none,([],[],[]),0)
def Eb (x:Option (Value×List Ob)):List Nat×List Bool×List (Option Nat):=match x with
 | some y=>AM y.2
 | none=>([],[],[])
theorem DU {x:Option (Value×List Ob)} {v:Value} (h:IV x=(some v,Eb x,0)):∃p,x=some (v,p)∧th p:=by
 cases x with
 | none=>simp[IV]at h
 | some y=>
  obtain⟨a,p⟩:=y
  simp only[IV,Eb,aH,az]at h
  obtain⟨rfl,h2,h3⟩:=h
  refine⟨p,rfl,oM p h2 ?_⟩
  rw[ct h3]
  trivial
theorem I8 {n:Nat} {Rr:Ending→World→Prop} (hss:List (List Hn)) (v:Value) (he:IV (Fq P f E h r hss)=(some v,Eb (Fq P f E h r hss),0)) (H:∀a w,St n E h r F Y a w→Rr (.returned v) w) :
  J P f (Di P f Rr) n (.c .ret::k) E h r F Y:=by
 obtain⟨p,he,hp⟩:=DU he
 exact RX fun a w s=>Dh he hp s (H a w s)
theorem Bi {c:Operand} {x y:Sk} (t:Bool) (hc:jN E none [c]=some []) (hv:mG E c=.bool t) (h0:t=true) (ht:J P f R n (.c x::k) E h r F Y):J P f R n (.c (.cond c x y)::k) E h r F Y:=
 yO hc hv (fun _=>ht) fun h=>by rw[h0]at h;cases h
theorem Lp {c:Operand} {x y:Sk} (t:Bool) (hc:jN E none [c]=some []) (hv:mG E c=.bool t) (h0:t=false) (ht:J P f R n (.c y::k) E h r F Y):J P f R n (.c (.cond c x y)::k) E h r F Y:=
 yO hc hv (fun h=>by rw[h0]at h;cases h) fun _=>ht
theorem wrap_i64 {x:Int} (h1:-9223372036854775808≤x) (h2:x≤9223372036854775807):IntKind.i64.wrap x=x:=by
 rw[IntKind.wrap_i64]
 omega
end rules
end Go.Sx
end
section
namespace Go.Sx
open Go
abbrev nI (x:Int):Value:=.int .i64 x
abbrev zI (i:Nat) (x:Int):Nat×EV:=(i,.val (.int .i64 x))
abbrev zS (i:Nat) (a:Option Addr) (n c:Nat):Nat×EV:=(i,.val (.slice a n c))
abbrev zP (i b:Nat):Nat×EV:=(i,.val (.pointer (some ⟨b,0,none⟩)))
abbrev zB (i:Nat) (b:Bool):Nat×EV:=(i,.val (.bool b))
abbrev zV (i:Nat) (v:Value):Nat×EV:=(i,.val v)
abbrev zR (i:Nat):Pl:=.rd i [] 0 0
abbrev sA (b o:Nat):Option Addr:=some ⟨b,o,none⟩
section
variable {P:Program} {f:Func} [Pan f] {R:Act→World→Prop} {n:Nat} [Dfr n] {k:List oR} {E:Env} {h r:List (Nat×Obj)} {F:List (List Nat×World)} {Y:fQ}
theorem cF {c:Operand} {x y:Sk} (ht:J P f R n (.c y::k) E h r F Y) (hc:jN E none [c]=some []:=by kernel_rfl) (hv:mG E c=.bool false:=by kernel_rfl):J P f R n (.c (.cond c x y)::k) E h r F Y:=Jh hc hv ht
theorem gR {c:Operand} {x y:Sk} (ht:J P f R n (.c x::k) E h r F Y) (hc:jN E none [c]=some []:=by kernel_rfl) (hv:mG E c=.bool true:=by kernel_rfl):J P f R n (.c (.cond c x y)::k) E h r F Y:=Jg hc hv ht
theorem cC {c:Operand} {x y:Sk} {t:Bool} (ht:t=true→J P f R n (.c x::k) E h r F Y) (hf:t=false→J P f R n (.c y::k) E h r F Y) (hc:jN E none [c]=some []:=by kernel_rfl) (hv:mG E c=.bool t:=by kernel_rfl):J P f R n (.c (.cond c x y)::k) E h r F Y:=yO hc hv ht hf
end
end Go.Sx
end
section
namespace Go.Sx
open Go
structure gv (w:World) (S:Nat→Prop) (xs:List Value) (k:Nat) (rows:List (List D)):Prop where
 len:∀row∈rows,row.length=k
 El:∀(i j:Nat) (row:List D) (d:D),rows[i]?=some row→row[j]?=some d→∃u,xs[i*k+j]?=some u∧cm w S u d
theorem gv.mono {w w':World} {S S':Nat→Prop} {xs:List Value} {k:Nat} {rows:List (List D)} (h:gv w S xs k rows) (hS:∀b,S b→b<w.heap.size→S' b∧w'.heap[b]?=w.heap[b]?):gv w' S' xs k rows:=
 ⟨h.len,fun i j row d h1 h2=>by
  obtain⟨u,h3,h4⟩:=h.El i j row d h1 h2
  exact⟨u,h3,h4.mono hS⟩⟩
theorem xW {i j k n:Nat} (hi:i<n) (hj:j<k):i*k+j<n*k:=by
 calc i*k+j<i*k+k:=by omega
  _=(i+1)*k:=by rw[jR,nK]
  _≤n*k:=cD k hi
theorem gv.app {w:World} {S:Nat→Prop} {xs ys:List Value} {k:Nat} {rows LB:List (List D)} (h:gv w S xs k rows) (hl:xs.length=rows.length*k) (h2:gv w S ys k LB):gv w S (xs++ys) k (rows++LB):=by
 refine⟨fun row hr=>?_,fun i j row d hi hj=>?_⟩
 ·rcases au.1 hr with hr|hr
  ·exact h.len row hr
  ·exact h2.len row hr
 ·have T5:=(ai.1 hj).1
  rcases dP i rows.length with hlt|hge
  ·rw[bz hlt]at hi
   obtain⟨u,hu,hr⟩:=h.El i j row d hi hj
   have EC:j<k:=by rw[←h.len row (ae hi)];exact T5
   refine⟨u,?_,hr⟩
   rw[bz (by rw[hl];exact xW hlt EC)]
   exact hu
  ·rw[bt hge]at hi
   obtain⟨u,hu,hr⟩:=h2.El _ j row d hi hj
   refine⟨u,?_,hr⟩
   have e:i*k+j=rows.length*k+((i - rows.length)*k+j):=by
    rw[Nat.sub_mul]
    have:=cD k hge
    omega
   rw[e,bt (by rw[hl];omega),hl,Nat.add_sub_cancel_left]
   exact hu
theorem gv.nil (w:World) (S:Nat→Prop) (xs:List Value) (k:Nat):gv w S xs k []:=⟨by simp,by simp⟩
theorem gv.one {w:World} {S:Nat→Prop} {xs:List Value} {k:Nat} {rows:List (List D)} (h:gv w S xs k rows) (hl:xs.length=rows.length*k):∀u∈xs,u.oneCell'=true:=by
 intro u hu
 obtain⟨q,hq⟩:=aJ hu
 have hlt:q<rows.length*k:=by rw[←hl];exact(ai.1 hq).1
 have hk:0<k:=by
  rcases iX k with h0|h0
  ·subst h0;simp at hlt
  ·exact h0
 have h1:q / k<rows.length:=jl (by rw[fN];exact hlt)
 have h2:q % k<(rows[q / k]'h1).length:=by rw[h.len _ (cz h1)];exact l8 _ hk
 obtain⟨u',h3,h4⟩:=h.El (q / k) (q % k) _ _ (ak h1) (ak h2)
 rw[fN,lV,hq]at h3
 cases h3
 exact h4.one
def bL (b:Nat) (o:Obj):Chunk where
 P w _ fp:=fp=[b]∧w.heap[b]?=some o
 mono:=by
  intro w w' S S' fp h hb _
  exact⟨h.1,(hb b (by rw[h.1];simp)).trans h.2⟩
def aT (v:Value) (e k:Nat) (rows:List (List D)):Chunk where
 P w S fp:=0<k∧((rows=[]∧v=.slice none 0 0∧fp=[])∨∃g cap cur xs,v=.slice (some ⟨g,0,none⟩) rows.length cap∧fp=[g]∧w.heap[g]?=some (.cells cur e (0,0))∧Row cur cap rows.length k xs∧gv w S xs k rows)
 mono:=fun⟨hk,h⟩ hb hS=>⟨hk,by
  rcases h with h|⟨g,cap,cur,xs,h1,h2,h3,h4,h5⟩
  ·exact .inl h
  ·exact .inr ⟨g,cap,cur,xs,h1,h2,(hb _ (by rw[h2];simp)).trans h3,h4,h5.mono hS⟩⟩
def rR (p:Prop):Chunk where
 P _ _ fp:=fp=[]∧p
 mono:=fun h _ _=>h
def cA (cs:List Chunk):Chunk where
 P w S fp:=∃aU:List (List Nat),fp=aU.flatten∧mV w S cs aU
 mono:=by
  intro w w' S S' fp h hb hS
  obtain⟨aU,h1,h2⟩:=h
  exact⟨aU,h1,h2.mono (fun b hm=>hb b (by rw[h1];exact hm)) hS⟩
def IY {α:Type} (f:α→Chunk):Chunk where
 P w S fp:=∃x,(f x).P w S fp
 mono:=fun⟨x,h⟩ hb hS=>⟨x,(f x).mono h hb hS⟩
def Chunk.eqv (c c':Chunk):Prop:=∀w S fp,c.P w S fp→c'.P w S fp
theorem kG {α:Type} {l:List α} {i:Nat} {x:α} (h:l[i]?=some x):l.set i x=l:=by
 obtain⟨hi,he⟩:=ai.1 h
 subst he
 exact List.set_getElem_self hi
def nP {α:Type} (h r:List (Nat×Obj)) (F:List (List Nat×World)) (Y:fQ) (p:α→Prop) (Y':α→fQ):Prop:=
 ∀w aU,wA h r w→Jt Y h r F w aU→∃x gE,p x∧(∀b∈gE.flatten,b∈aU.flatten)∧Jt (Y' x) h r F w gE
section steps
variable {P:Program} {f:Func} [Pan f] {R:Act→World→Prop} {n:Nat} [Dfr n] {kk:List oR} {E:Env} {h r:List (Nat×Obj)} {F:List (List Nat×World)} {Y Y2:fQ} {α:Type} {p:α→Prop} {Y':α→fQ}
theorem b9 (hs:nP h r F Y p Y') (H:∀x,p x→J P f R n kk E h r F (Y' x)):J P f R n kk E h r F Y:=fun a w ⟨aU,s⟩=>by
 obtain⟨x,gE,hp,_,hg⟩:=hs w aU s.own s.gh
 exact H x hp a w ⟨gE,s.ag,s.own,s.fr,s.may,hg⟩
theorem Lq {ops:Array Oper} {L0:Nat} {ck:Bool} {fb:List (Nat×Bool)} {Wp:List (Nat×List Nat)} (hs:nP h r F Y p Y') (H:∀x,p x→JR P f R n ops L0 ck fb Wp kk E h r F (Y' x)):JR P f R n ops L0 ck fb Wp kk E h r F Y:=fun B Hd aU a w s hH hR hN hW=>by
 obtain⟨x,gE,hp,hsub,hg⟩:=hs w aU s.own s.gh
 exact H x hp B Hd gE a w ⟨s.ag,s.own,s.fr,s.may,hg⟩ (fun b hb=>hH b (hsub b hb)) hR hN hW
theorem bH (hs:nP h r F Y (fun _:Unit=>True) fun _=>Y2) (H:J P f R n kk E h r F Y2):J P f R n kk E h r F Y:=b9 hs fun _ _=>H
theorem Jk {ops:Array Oper} {L0:Nat} {ck:Bool} {fb:List (Nat×Bool)} {Wp:List (Nat×List Nat)} (hs:nP h r F Y (fun _:Unit=>True) fun _=>Y2) (H:JR P f R n ops L0 ck fb Wp kk E h r F Y2):JR P f R n ops L0 ck fb Wp kk E h r F Y:=Lq hs fun _ _=>H
theorem St.jz {a:Act} {w:World} (s:St n E h r F Y a w) (hs:nP h r F Y (fun _:Unit=>True) fun _=>Y2):St n E h r F Y2 a w:=by
 obtain⟨aU,s⟩:=s
 obtain⟨x,gE,hp,_,hg⟩:=hs w aU s.own s.gh
 exact⟨gE,s.ag,s.own,s.fr,s.may,hg⟩
theorem kJ {aU:List (List Nat)} {i b:Nat} (h:b∈(aU.eraseIdx i).flatten):∃j x,j≠i∧aU[j]?=some x∧b∈x:=by
 obtain⟨x,hx,hb⟩:=cK.1 h
 obtain⟨j,hj,he⟩:=c9.1 hx
 exact⟨j,x,hj,he,hb⟩
theorem c7 {aU:List (List Nat)} {i b:Nat} (h:b∈(aU.eraseIdx i).flatten):b∈aU.flatten:=by
 obtain⟨j,x,_,h1,h2⟩:=kJ h
 exact cK.2 ⟨x,ae h1,h2⟩
theorem gH {aU gE:List (List Nat)} (h:aU.flatten.Nodup) (hs:gE.Sublist aU):gE.flatten.Nodup:=by
 induction hs with
 | slnil=>exact h
 | cons x _ ih=>exact ih (be.1 (by simpa using h)).2.1
 | cons_cons x hs ih=>
  rw[cr,be]at h ⊢
  refine⟨h.1,ih h.2.1,fun a ha b hb=>h.2.2 a ha b ?_⟩
  obtain⟨y,hy,hby⟩:=cK.1 hb
  exact cK.2 ⟨y,hs.subset hy,hby⟩
theorem Jt.less {w:World} {aU gE:List (List Nat)} {C':List Chunk} {G':List (Value×D)} (H:Jt Y h r F w aU) (hsub:∀b∈gE.flatten,b∈aU.flatten) (hnd:gE.flatten.Nodup)
  (hC:mV w (Sd Y h gE) C' gE) (hG:∀x∈G',cm w (Sd Y h gE) x.1 x.2):Jt ⟨Y.S,C',G'⟩ h r F w gE:=
 ⟨hC,hnd,fun b hb=>H.mw b (hsub b hb),fun x hx hm=>H.apart x hx (hsub _ hm),fun f hf b hb=>H.may f hf b (hsub b hb),fun b hb=>H.lt b (hsub b hb),H.own,fun b hb=>H.kT b (hsub b hb),H.top,hG⟩
theorem mQ {aU gE:List (List Nat)} (hsub:∀b∈gE.flatten,b∈aU.flatten) {b:Nat} (h':Sd Y h aU b):Sd Y h gE b:=⟨h'.1,h'.2.1,fun hm=>h'.2.2 (hsub b hm)⟩
theorem BE (i:Nat) {v:Value} {e k:Nat} {rows:List (List D)} (hi:Y.C[i]?=some (aT v e k rows)):nP h r F Y (fun _:Unit=>True) fun _=>⟨Y.S,Y.C.eraseIdx i,Y.G++[(v,.sl k rows)]⟩:=by
 intro w aU hO H
 obtain⟨fp,og,hk,hP⟩:=H.kF.at hi
 have hS:∀b,Sd Y h aU b→Sd Y h (aU.eraseIdx i) b:=fun b hb=>mQ (fun b hb=>c7 hb) hb
 refine⟨(),aU.eraseIdx i,trivial,fun b hb=>c7 hb,H.less (fun b hb=>c7 hb) (gH H.nodup (cG _ _)) (H.kF.erase.mono (fun _ _=>rfl) fun b hb _=>⟨hS b hb,rfl⟩) fun x hx=>?_⟩
 rcases au.1 hx with hx|hx
 ·exact(H.g x hx).mono fun b hb _=>⟨hS b hb,rfl⟩
 ·rw[ay]at hx
  subst hx
  rcases hP with ⟨rfl,rfl,_⟩|⟨g,cap,cur,xs,rfl,rfl,hg,hrow,hR⟩
  ·exact .nil
  ·refine cm.HM hg ?_ hrow hk hR.len fun i j row d h1 h2=>?_
   ·have hm:g∈aU.flatten:=cK.2 ⟨[g],ae og,by simp⟩
    refine⟨H.kT g hm,H.mw g hm,fun qU=>?_⟩
    obtain⟨j,x,hj,hx,WZ⟩:=kJ qU
    exact hj (qH H.nodup hx og WZ (by simp))
   ·obtain⟨u,hu,hr⟩:=hR.El i j row d h1 h2
    exact⟨u,hu,hr.mono fun b hb _=>⟨hS b hb,rfl⟩⟩
theorem dg {S0:Nat→Prop} {C0:List Chunk} {G0:List (Value×D)} (i:Nat) {v:Value} {e k:Nat} {rows:List (List D)} (hi:C0[i]?=some (aT v e k rows)):nP h r F ⟨S0,C0,G0⟩ (fun _:Unit=>True) fun _=>⟨S0,C0.eraseIdx i,G0++[(v,.sl k rows)]⟩:=BE (Y:=⟨S0,C0,G0⟩) i hi
theorem E0 (cs gs:List Nat) {C':List Chunk} {G':List (Value×D)} (hC:pick Y.C cs=C') (hG:pick Y.G gs=G') (hcs:cs.Nodup:=by decide):nP h r F Y (fun _:Unit=>True) fun _=>⟨Y.S,C',G'⟩:=by
 intro w aU hO H
 subst hC hG
 have hS:∀b,Sd Y h aU b→Sd Y h (pick aU cs) b:=fun b hb=>mQ (fun b hb=>bu hb) hb
 exact⟨(),pick aU cs,trivial,fun b hb=>bu hb,H.less (fun b hb=>bu hb) (fI H.nodup hcs) ((H.kF.pick cs).mono (fun _ _=>rfl) fun b hb _=>⟨hS b hb,rfl⟩) fun x hx=>(H.g x (rj rfl x hx)).mono fun b hb _=>⟨hS b hb,rfl⟩⟩
theorem G5 {S0:Nat→Prop} {C0:List Chunk} {G0:List (Value×D)} (cs gs:List Nat) {C':List Chunk} {G':List (Value×D)} (hC:pick C0 cs=C') (hG:pick G0 gs=G') (hcs:cs.Nodup:=by decide):nP h r F ⟨S0,C0,G0⟩ (fun _:Unit=>True) fun _=>⟨S0,C',G'⟩:=E0 (Y:=⟨S0,C0,G0⟩) cs gs hC hG hcs
theorem G7 (c:Chunk) (hc:∀w S,c.P w S []):nP h r F Y (fun _:Unit=>True) fun _=>⟨Y.S,Y.C++[c],Y.G⟩:=by
 intro w aU hO H
 have e:(aU++[[]]).flatten=aU.flatten:=by simp
 refine⟨(),aU++[[]],trivial,fun b hb=>by rwa[e]at hb,H.less (fun b hb=>by rwa[e]at hb) (by rw[e];exact H.nodup) ?_ fun x hx=>(H.g x hx).mono fun b hb _=>⟨mQ (fun b hb=>by rwa[e]at hb) hb,rfl⟩⟩
 exact(H.kF.app (show mV w (Sd Y h aU) [c] [[]] from⟨hc w _,trivial⟩)).mono (fun _ _=>rfl) fun b hb _=>⟨mQ (fun b hb=>by rwa[e]at hb) hb,rfl⟩
theorem oW {S0:Nat→Prop} {C0:List Chunk} {G0:List (Value×D)} (c:Chunk) (hc:∀w S,c.P w S []):nP h r F ⟨S0,C0,G0⟩ (fun _:Unit=>True) fun _=>⟨S0,C0++[c],G0⟩:=G7 (Y:=⟨S0,C0,G0⟩) c hc
theorem G8 (e k:Nat) (hk:0<k:=by decide):nP h r F Y (fun _:Unit=>True) fun _=>⟨Y.S,Y.C++[aT (.slice none 0 0) e k []],Y.G⟩:=oW _ fun _ _=>⟨hk,.inl ⟨rfl,rfl,rfl⟩⟩
theorem Ed {S0:Nat→Prop} {C0:List Chunk} {G0:List (Value×D)} (e k:Nat) (hk:0<k:=by decide):nP h r F ⟨S0,C0,G0⟩ (fun _:Unit=>True) fun _=>⟨S0,C0++[aT (.slice none 0 0) e k []],G0⟩:=G8 (Y:=⟨S0,C0,G0⟩) e k hk
theorem E5 {β:Type} (enc:β→List D) (e k:Nat) (hk:0<k:=by decide):nP h r F Y (fun _:Unit=>True) fun _=>⟨Y.S,Y.C++[aT (.slice none 0 0) e k (([]:List β).map enc)],Y.G⟩:=Ed e k hk
theorem fO {S0:Nat→Prop} {C0:List Chunk} {G0:List (Value×D)} {β:Type} (enc:β→List D) (e k:Nat) (hk:0<k:=by decide):nP h r F ⟨S0,C0,G0⟩ (fun _:Unit=>True) fun _=>⟨S0,C0++[aT (.slice none 0 0) e k (([]:List β).map enc)],G0⟩:=E5 (Y:=⟨S0,C0,G0⟩) enc e k hk
theorem E3 {v:Value} {d:D} (hf:∀w S,(∀x∈Y.G,cm w S x.1 x.2)→cm w S v d):nP h r F Y (fun _:Unit=>True) fun _=>⟨Y.S,Y.C,Y.G++[(v,d)]⟩:=by
 intro w aU hO H
 refine⟨(),aU,trivial,fun _ hb=>hb,H.less (fun _ hb=>hb) H.nodup H.kF fun x hx=>?_⟩
 rcases au.1 hx with hx|hx
 ·exact H.g x hx
 ·rw[ay]at hx
  subst hx
  exact hf w _ H.g
theorem fB {S0:Nat→Prop} {C0:List Chunk} {G0:List (Value×D)} {v:Value} {d:D} (hf:∀w S,(∀x∈G0,cm w S x.1 x.2)→cm w S v d):nP h r F ⟨S0,C0,G0⟩ (fun _:Unit=>True) fun _=>⟨S0,C0,G0++[(v,d)]⟩:=E3 (Y:=⟨S0,C0,G0⟩) hf
theorem ij {S0:Nat→Prop} {C0:List Chunk} {G0:List (Value×D)} (p:Nat) (qs:List Nat) {v:Value} {l l':List (Value×D)} (hp:G0[p]?=some (v,.all l)) (hl:pick l qs=l'):nP h r F ⟨S0,C0,G0⟩ (fun _:Unit=>True) fun _=>⟨S0,C0,G0++l'⟩:=by
 intro w aU hO H
 refine⟨(),aU,trivial,fun _ hb=>hb,H.less (fun _ hb=>hb) H.nodup H.kF fun x hx=>?_⟩
 rcases au.1 hx with hx|hx
 ·exact H.g x hx
 ·exact(H.g _ (ae hp)).part x (rj hl x hx)
theorem rf {p:Prop} (hp:∀w aU,Jt Y h r F w aU→p):nP h r F Y (fun _:Unit=>p) fun _=>Y:=fun w aU _ H=>⟨(),aU,hp w aU H,fun _ hb=>hb,H⟩
theorem E4 (i:Nat) {c c':Chunk} (hi:Y.C[i]?=some c) (hc:c.eqv c'):nP h r F Y (fun _:Unit=>True) fun _=>⟨Y.S,Y.C.set i c',Y.G⟩:=by
 intro w aU hO H
 obtain⟨fp,og,hP⟩:=H.kF.at hi
 have hs:=H.kF.set (hc _ _ _ hP) (i:=i)
 have e:aU.set i fp=aU:=kG og
 rw[e]at hs
 exact⟨(),aU,trivial,fun _ hb=>hb,H.less (fun _ hb=>hb) H.nodup hs H.g⟩
theorem j4 {S0:Nat→Prop} {C0:List Chunk} {G0:List (Value×D)} (i:Nat) {c c':Chunk} (hi:C0[i]?=some c) (hc:c.eqv c'):nP h r F ⟨S0,C0,G0⟩ (fun _:Unit=>True) fun _=>⟨S0,C0.set i c',G0⟩:=E4 (Y:=⟨S0,C0,G0⟩) i hi hc
theorem G6 (i:Nat) {β:Type} {g:β→Chunk} (hi:Y.C[i]?=some (IY g)):nP h r F Y (fun _:β=>True) fun x=>⟨Y.S,Y.C.set i (g x),Y.G⟩:=by
 intro w aU hO H
 obtain⟨fp,og,x,hP⟩:=H.kF.at hi
 have hs:=H.kF.set hP (i:=i)
 have e:aU.set i fp=aU:=kG og
 rw[e]at hs
 exact⟨x,aU,trivial,fun _ hb=>hb,H.less (fun _ hb=>hb) H.nodup hs H.g⟩
theorem Ax {S0:Nat→Prop} {C0:List Chunk} {G0:List (Value×D)} (i:Nat) {β:Type} {g:β→Chunk} (hi:C0[i]?=some (IY g)):nP h r F ⟨S0,C0,G0⟩ (fun _:β=>True) fun x=>⟨S0,C0.set i (g x),G0⟩:=G6 (Y:=⟨S0,C0,G0⟩) i hi
theorem EZ (i:Nat) {p:Prop} (hi:Y.C[i]?=some (rR p)):nP h r F Y (fun _:Unit=>p) fun _=>⟨Y.S,Y.C.eraseIdx i,Y.G⟩:=by
 intro w aU hO H
 obtain⟨fp,og,_,hp⟩:=H.kF.at hi
 exact⟨(),aU.eraseIdx i,hp,fun b hb=>c7 hb,H.less (fun b hb=>c7 hb) (gH H.nodup (cG _ _)) (H.kF.erase.mono (fun _ _=>rfl) fun b hb _=>⟨mQ (fun b hb=>c7 hb) hb,rfl⟩) fun x hx=>(H.g x hx).mono fun b hb _=>⟨mQ (fun b hb=>c7 hb) hb,rfl⟩⟩
theorem xl {S0:Nat→Prop} {C0:List Chunk} {G0:List (Value×D)} (i:Nat) {p:Prop} (hi:C0[i]?=some (rR p)):nP h r F ⟨S0,C0,G0⟩ (fun _:Unit=>p) fun _=>⟨S0,C0.eraseIdx i,G0⟩:=EZ (Y:=⟨S0,C0,G0⟩) i hi
theorem EY (i:Nat) {cs:List Chunk} (hi:Y.C[i]?=some (cA cs)):nP h r F Y (fun _:Unit=>True) fun _=>⟨Y.S,Y.C.eraseIdx i++cs,Y.G⟩:=by
 intro w aU hO H
 obtain⟨fp,og,Cl,rfl,hP⟩:=H.kF.at hi
 have hmem:∀b,b∈Cl.flatten→b∈aU.flatten:=fun b hb=>cK.2 ⟨_,ae og,hb⟩
 have hsub:∀b,b∈(aU.eraseIdx i++Cl).flatten→b∈aU.flatten:=fun b hb=>by
  rw[bj]at hb
  rcases au.1 hb with hb|hb
  ·exact c7 hb
  ·exact hmem b hb
 have hS:∀b,Sd Y h aU b→Sd Y h (aU.eraseIdx i++Cl) b:=fun b hb=>mQ hsub hb
 have hnd:Cl.flatten.Nodup:=by
  obtain⟨l1,l2,rfl⟩:=List.append_of_mem (ae og)
  have:=H.nodup
  rw[bj,cr]at this
  exact(be.1 (be.1 this).2.1).1
 refine⟨(),aU.eraseIdx i++Cl,trivial,hsub,H.less hsub ?_ ((H.kF.erase.app hP).mono (fun _ _=>rfl) fun b hb _=>⟨hS b hb,rfl⟩) fun x hx=>(H.g x hx).mono fun b hb _=>⟨hS b hb,rfl⟩⟩
 rw[bj,be]
 refine⟨gH H.nodup (cG _ _),hnd,fun a ha b hb hab=>?_⟩
 subst hab
 obtain⟨j,x,hj,hx,Xd⟩:=kJ ha
 exact hj (qH H.nodup hx og Xd hb)
theorem xk {S0:Nat→Prop} {C0:List Chunk} {G0:List (Value×D)} (i:Nat) {cs:List Chunk} (hi:C0[i]?=some (cA cs)):nP h r F ⟨S0,C0,G0⟩ (fun _:Unit=>True) fun _=>⟨S0,C0.eraseIdx i++cs,G0⟩:=EY (Y:=⟨S0,C0,G0⟩) i hi
theorem EN {a:Option Addr} {m c e k:Nat} {rows:List (List D)} {w:World} {S:Nat→Prop} {fp:List Nat} (hP:(aT (.slice a m c) e k rows).P w S fp):m=rows.length:=by
 rcases hP.2 with ⟨rfl,h1,_⟩|⟨g,cap,cur,xs,h1,_⟩
 ·cases h1;rfl
 ·cases h1;rfl
theorem cm.pA {w:World} {S:Nat→Prop} {a:Option Addr} {m c k:Nat} {rows:List (List D)} (h:cm w S (.slice a m c) (.sl k rows)):m=rows.length:=by
 cases h <;> rfl
theorem BF (i:Nat) {a:Option Addr} {m c e k:Nat} {rows:List (List D)} (hi:Y.C[i]?=some (aT (.slice a m c) e k rows)):nP h r F Y (fun _:Unit=>m=rows.length) fun _=>Y:=
 rf fun w aU H=>by
  obtain⟨fp,_,hP⟩:=H.kF.at hi
  exact EN hP
theorem eC {S0:Nat→Prop} {C0:List Chunk} {G0:List (Value×D)} (i:Nat) {a:Option Addr} {m c e k:Nat} {rows:List (List D)} (hi:C0[i]?=some (aT (.slice a m c) e k rows)):nP h r F ⟨S0,C0,G0⟩ (fun _:Unit=>m=rows.length) fun _=>⟨S0,C0,G0⟩:=BF (Y:=⟨S0,C0,G0⟩) i hi
theorem BC (i:Nat) {a:Option Addr} {m c k:Nat} {rows:List (List D)} (hi:Y.G[i]?=some (.slice a m c,.sl k rows)):nP h r F Y (fun _:Unit=>m=rows.length) fun _=>Y:=
 rf fun _ _ H=>(H.g _ (ae hi)).pA
theorem jY {S0:Nat→Prop} {C0:List Chunk} {G0:List (Value×D)} (i:Nat) {a:Option Addr} {m c k:Nat} {rows:List (List D)} (hi:G0[i]?=some (.slice a m c,.sl k rows)):nP h r F ⟨S0,C0,G0⟩ (fun _:Unit=>m=rows.length) fun _=>⟨S0,C0,G0⟩:=BC (Y:=⟨S0,C0,G0⟩) i hi
end steps
def inst:List D→List (Option Addr×Nat)→List Value
 | [],_=>[]
 | .v x::ds,ls=>x::inst ds ls
 | .sl _ rows::ds,l::ls=>.slice l.1 rows.length l.2::inst ds ls
 | .sl _ rows::ds,[]=>.slice none rows.length 0::inst ds []
 | .ptr _::ds,l::ls=>.pointer l.1::inst ds ls
 | .ptr _::ds,[]=>.pointer none::inst ds []
 | .obj _::ds,l::ls=>.pointer l.1::inst ds ls
 | .obj _::ds,[]=>.pointer none::inst ds []
 | .all _::ds,ls=>.nilIface::inst ds ls
def deep:List D→List (Option Addr×Nat)→List (Value×D)
 | [],_=>[]
 | .v _::ds,ls=>deep ds ls
 | .sl k rows::ds,l::ls=>(.slice l.1 rows.length l.2,.sl k rows)::deep ds ls
 | .sl _ _::ds,[]=>deep ds []
 | .ptr d::ds,l::ls=>(.pointer l.1,.ptr d)::deep ds ls
 | .ptr _::ds,[]=>deep ds []
 | .obj o::ds,l::ls=>(.pointer l.1,.obj o)::deep ds ls
 | .obj _::ds,[]=>deep ds []
 | .all _::ds,ls=>deep ds ls
def uw:List D→Nat
 | []=>0
 | .v _::ds=>uw ds
 | .sl _ _::ds=>uw ds+1
 | .ptr _::ds=>uw ds+1
 | .obj _::ds=>uw ds+1
 | .all _::ds=>uw ds
theorem nW {w:World} {S:Nat→Prop}:∀(ds:List D) (u:Nat→Value),(∀j d,ds[j]?=some d→cm w S (u j) d)→∃ls,ls.length=uw ds∧(∀(j:Nat) x,(inst ds ls)[j]?=some x→x=u j)∧∀y∈deep ds ls,cm w S y.1 y.2
 | [],u,_=>⟨[],rfl,by simp[inst],by simp[deep]⟩
 | .v y::ds,u,h=>by
  obtain⟨ls,h1,h2,h3⟩:=nW ds (fun j=>u (j+1)) fun j d hd=>h (j+1) d (by simpa using hd)
  refine⟨ls,h1,fun j x hx=>?_,h3⟩
  cases j with
  | zero=>
   simp only[inst,aV,az]at hx
   rw[←hx]
   exact(h 0 _ rfl).plain.symm
  | succ j=>exact h2 j x (by simpa [inst]using hx)
 | .all l::ds,u,h=>by
  obtain⟨ls,h1,h2,h3⟩:=nW ds (fun j=>u (j+1)) fun j d hd=>h (j+1) d (by simpa using hd)
  refine⟨ls,h1,fun j x hx=>?_,h3⟩
  cases j with
  | zero=>
   simp only[inst,aV,az]at hx
   have h0:=h 0 _ rfl
   rw[←hx]
   generalize u 0=y at h0
   cases h0
   rfl
  | succ j=>exact h2 j x (by simpa [inst]using hx)
 | .sl k rows::ds,u,h=>by
  obtain⟨ls,h1,h2,h3⟩:=nW ds (fun j=>u (j+1)) fun j d hd=>h (j+1) d (by simpa using hd)
  have h0:=h 0 _ rfl
  obtain⟨a,c,hu,_⟩:=h0.form
  refine⟨(a,c)::ls,by simp[uw,h1],fun j x hx=>?_,fun y hy=>?_⟩
  ·cases j with
   | zero=>
    simp only[inst,aV,az]at hx
    rw[←hx,hu]
   | succ j=>exact h2 j x (by simpa [inst]using hx)
  ·simp only[deep,cE]at hy
   rcases hy with rfl|hy
   ·rw[←hu];exact h0
   ·exact h3 y hy
 | .ptr dd::ds,u,h=>by
  obtain⟨ls,h1,h2,h3⟩:=nW ds (fun j=>u (j+1)) fun j d hd=>h (j+1) d (by simpa using hd)
  have h0:=h 0 _ rfl
  obtain⟨a,hu⟩:∃a,u 0=.pointer a:=by
   generalize u 0=x at h0
   cases h0
   exact⟨_,rfl⟩
  refine⟨(a,0)::ls,by simp[uw,h1],fun j x hx=>?_,fun y hy=>?_⟩
  ·cases j with
   | zero=>
    simp only[inst,aV,az]at hx
    rw[←hx,hu]
   | succ j=>exact h2 j x (by simpa [inst]using hx)
  ·simp only[deep,cE]at hy
   rcases hy with rfl|hy
   ·rw[←hu];exact h0
   ·exact h3 y hy
 | .obj dd::ds,u,h=>by
  obtain⟨ls,h1,h2,h3⟩:=nW ds (fun j=>u (j+1)) fun j d hd=>h (j+1) d (by simpa using hd)
  have h0:=h 0 _ rfl
  obtain⟨a,hu⟩:∃a,u 0=.pointer a:=by
   generalize u 0=x at h0
   cases h0
   exact⟨_,rfl⟩
  refine⟨(a,0)::ls,by simp[uw,h1],fun j x hx=>?_,fun y hy=>?_⟩
  ·cases j with
   | zero=>
    simp only[inst,aV,az]at hx
    rw[←hx,hu]
   | succ j=>exact h2 j x (by simpa [inst]using hx)
  ·simp only[deep,cE]at hy
   rcases hy with rfl|hy
   ·rw[←hu];exact h0
   ·exact h3 y hy
theorem jD:∀(ds:List D) (ls:List (Option Addr×Nat)),(inst ds ls).length=ds.length
 | [],ls=>by simp[inst]
 | .v _::ds,ls=>by simp[inst,jD ds]
 | .sl _ _::ds,[]=>by simp[inst,jD ds]
 | .sl _ _::ds,_::_=>by simp[inst,jD ds]
 | .ptr _::ds,[]=>by simp[inst,jD ds]
 | .ptr _::ds,_::_=>by simp[inst,jD ds]
 | .obj _::ds,[]=>by simp[inst,jD ds]
 | .obj _::ds,_::_=>by simp[inst,jD ds]
 | .all _::ds,ls=>by simp[inst,jD ds]
section reads
variable {P:Program} {f:Func} [Pan f] {R:Act→World→Prop} {n:Nat} [Dfr n] {kk:List oR} {E:Env} {h r:List (Nat×Obj)} {F:List (List Nat×World)} {Y:fQ}
theorem I9 (p:Nat) {a:Option Addr} {m c k:Nat} {rows:List (List D)} (hG:Y.G[p]?=some (.slice a m c,.sl k rows)) (i:Nat) {row:List D} (hrow:rows[i]?=some row)
  (H:∀b off cs e fz ls,a=some ⟨b,off,none⟩→ls.length=uw row→(∀(j:Nat) u,(inst row ls)[j]?=some u→cs[off+i*k+j]?=some u)→J P f R n kk E h (r++[(b,.cells cs e fz)]) F ⟨Y.S,Y.C,Y.G++deep row ls⟩):J P f R n kk E h r F Y:=by
 intro a0 w ⟨aU,s⟩
 have hR:=s.gh.g _ (ae hG)
 have hlt:=(ai.1 hrow).1
 cases hR with
 | nil=>simp at hlt
 | sl u hb hS hc hk hl hcell mL=>
  rename_i b off cs e fz
  obtain⟨ls,h1,h2,h3⟩:=nW row (u i) fun j d hd=>mL i j row d hrow hd
  refine H b off cs e fz ls rfl h1 (fun j x hx=>?_) a0 w ⟨aU,s.ag,⟨s.own.own,s.own.nodup,fun x hx=>?_,fun x hx=>?_⟩,s.fr,s.may,⟨s.gh.kF,s.gh.nodup,s.gh.mw,fun x hx=>?_,s.gh.may,s.gh.lt,s.gh.own,s.gh.kT,s.gh.top,fun x hx=>?_⟩⟩
  ·have hj:j<row.length:=by
    have h4:=(ai.1 hx).1
    rw[jD]at h4
    exact h4
   rw[h2 j x hx,Nat.add_assoc]
   exact hcell i j hlt (by rw[←hl row (ae hrow)];exact hj)
  ·rcases au.1 hx with hx|hx
   ·exact s.own.ro x hx
   ·rw[ay]at hx;subst hx;exact hb
  ·rcases au.1 hx with hx|hx
   ·exact s.own.apart x hx
   ·rw[ay]at hx;subst hx;exact hS.2.1
  ·rcases au.1 hx with hx|hx
   ·exact s.gh.apart x hx
   ·rw[ay]at hx;subst hx;exact hS.2.2
  ·rcases au.1 hx with hx|hx
   ·exact s.gh.g x hx
   ·exact h3 x hx
theorem wT {S0:Nat→Prop} {C0:List Chunk} {G0:List (Value×D)} (p:Nat) {a:Option Addr} {m c k:Nat} {rows:List (List D)} (hG:G0[p]?=some (.slice a m c,.sl k rows)) (i:Nat) {row:List D} (hrow:rows[i]?=some row)
  (H:∀b off cs e fz ls,a=some ⟨b,off,none⟩→ls.length=uw row→(∀(j:Nat) u,(inst row ls)[j]?=some u→cs[off+i*k+j]?=some u)→J P f R n kk E h (r++[(b,.cells cs e fz)]) F ⟨S0,C0,G0++deep row ls⟩):J P f R n kk E h r F ⟨S0,C0,G0⟩:=I9 (Y:=⟨S0,C0,G0⟩) p hG i hrow H
theorem Jc (p:Nat) {a:Option Addr} {m c k:Nat} {rows:List (List D)} (hG:Y.G[p]?=some (.slice a m c,.sl k rows)) (i:Nat) {row:List D} (hrow:rows[i]?=some row) (hs:uw row=0)
  (H:∀b off cs e fz,a=some ⟨b,off,none⟩→(∀(j:Nat) u,(inst row [])[j]?=some u→cs[off+i*k+j]?=some u)→J P f R n kk E h (r++[(b,.cells cs e fz)]) F ⟨Y.S,Y.C,Y.G++deep row []⟩):J P f R n kk E h r F Y:=
 wT p hG i hrow fun b off cs e fz ls h1 h2 h3=>by
  rw[hs]at h2
  match ls,h2,h3 with
  | [],_,h3=>exact H b off cs e fz h1 h3
theorem gr {S0:Nat→Prop} {C0:List Chunk} {G0:List (Value×D)} (p:Nat) {a:Option Addr} {m c k:Nat} {rows:List (List D)} (hG:G0[p]?=some (.slice a m c,.sl k rows)) (i:Nat) {row:List D} (hrow:rows[i]?=some row) (hs:uw row=0)
  (H:∀b off cs e fz,a=some ⟨b,off,none⟩→(∀(j:Nat) u,(inst row [])[j]?=some u→cs[off+i*k+j]?=some u)→J P f R n kk E h (r++[(b,.cells cs e fz)]) F ⟨S0,C0,G0++deep row []⟩):J P f R n kk E h r F ⟨S0,C0,G0⟩:=Jc (Y:=⟨S0,C0,G0⟩) p hG i hrow hs H
theorem Jb (p:Nat) {a:Option Addr} {m c k:Nat} {rows:List (List D)} (hG:Y.G[p]?=some (.slice a m c,.sl k rows)) (i:Nat) {row:List D} (hrow:rows[i]?=some row) (hs:uw row=1)
  (H:∀b off cs e fz a1 c1,a=some ⟨b,off,none⟩→(∀(j:Nat) u,(inst row [(a1,c1)])[j]?=some u→cs[off+i*k+j]?=some u)→J P f R n kk E h (r++[(b,.cells cs e fz)]) F ⟨Y.S,Y.C,Y.G++deep row [(a1,c1)]⟩):J P f R n kk E h r F Y:=
 wT p hG i hrow fun b off cs e fz ls h1 h2 h3=>by
  rw[hs]at h2
  match ls,h2,h3 with
  | [(a1,c1)],_,h3=>exact H b off cs e fz a1 c1 h1 h3
theorem j0 {S0:Nat→Prop} {C0:List Chunk} {G0:List (Value×D)} (p:Nat) {a:Option Addr} {m c k:Nat} {rows:List (List D)} (hG:G0[p]?=some (.slice a m c,.sl k rows)) (i:Nat) {row:List D} (hrow:rows[i]?=some row) (hs:uw row=1)
  (H:∀b off cs e fz a1 c1,a=some ⟨b,off,none⟩→(∀(j:Nat) u,(inst row [(a1,c1)])[j]?=some u→cs[off+i*k+j]?=some u)→J P f R n kk E h (r++[(b,.cells cs e fz)]) F ⟨S0,C0,G0++deep row [(a1,c1)]⟩):J P f R n kk E h r F ⟨S0,C0,G0⟩:=Jb (Y:=⟨S0,C0,G0⟩) p hG i hrow hs H
theorem Ja (p:Nat) {a:Option Addr} {m c k:Nat} {rows:List (List D)} (hG:Y.G[p]?=some (.slice a m c,.sl k rows)) (i:Nat) {row:List D} (hrow:rows[i]?=some row) (hs:uw row=2)
  (H:∀b off cs e fz a1 c1 a2 c2,a=some ⟨b,off,none⟩→(∀(j:Nat) u,(inst row [(a1,c1),(a2,c2)])[j]?=some u→cs[off+i*k+j]?=some u)→J P f R n kk E h (r++[(b,.cells cs e fz)]) F ⟨Y.S,Y.C,Y.G++deep row [(a1,c1),(a2,c2)]⟩):J P f R n kk E h r F Y:=
 wT p hG i hrow fun b off cs e fz ls h1 h2 h3=>by
  rw[hs]at h2
  match ls,h2,h3 with
  | [(a1,c1),(a2,c2)],_,h3=>exact H b off cs e fz a1 c1 a2 c2 h1 h3
theorem Bh {S0:Nat→Prop} {C0:List Chunk} {G0:List (Value×D)} (p:Nat) {a:Option Addr} {m c k:Nat} {rows:List (List D)} (hG:G0[p]?=some (.slice a m c,.sl k rows)) (i:Nat) {row:List D} (hrow:rows[i]?=some row) (hs:uw row=2)
  (H:∀b off cs e fz a1 c1 a2 c2,a=some ⟨b,off,none⟩→(∀(j:Nat) u,(inst row [(a1,c1),(a2,c2)])[j]?=some u→cs[off+i*k+j]?=some u)→J P f R n kk E h (r++[(b,.cells cs e fz)]) F ⟨S0,C0,G0++deep row [(a1,c1),(a2,c2)]⟩):J P f R n kk E h r F ⟨S0,C0,G0⟩:=Ja (Y:=⟨S0,C0,G0⟩) p hG i hrow hs H
theorem Lj (p:Nat) {x:Option Addr} {ds:List D} (hG:Y.G[p]?=some (.pointer x,.ptr ds))
  (H:∀b off cs e fz ls,x=some ⟨b,off,none⟩→ls.length=uw ds→(∀(j:Nat) u,(inst ds ls)[j]?=some u→cs[off+j]?=some u)→J P f R n kk E h (r++[(b,.cells cs e fz)]) F ⟨Y.S,Y.C,Y.G++deep ds ls⟩):J P f R n kk E h r F Y:=by
 intro a0 w ⟨aU,s⟩
 have hR:=s.gh.g _ (ae hG)
 cases hR with
 | ptr u hb hS hcell mL=>
  rename_i b off cs e fz
  obtain⟨ls,h1,h2,h3⟩:=nW ds u mL
  refine H b off cs e fz ls rfl h1 (fun j x hx=>?_) a0 w ⟨aU,s.ag,⟨s.own.own,s.own.nodup,fun x hx=>?_,fun x hx=>?_⟩,s.fr,s.may,⟨s.gh.kF,s.gh.nodup,s.gh.mw,fun x hx=>?_,s.gh.may,s.gh.lt,s.gh.own,s.gh.kT,s.gh.top,fun x hx=>?_⟩⟩
  ·have hj:=(ai.1 hx).1
   rw[jD]at hj
   rw[h2 j x hx]
   exact hcell j hj
  ·rcases au.1 hx with hx|hx
   ·exact s.own.ro x hx
   ·rw[ay]at hx;subst hx;exact hb
  ·rcases au.1 hx with hx|hx
   ·exact s.own.apart x hx
   ·rw[ay]at hx;subst hx;exact hS.2.1
  ·rcases au.1 hx with hx|hx
   ·exact s.gh.apart x hx
   ·rw[ay]at hx;subst hx;exact hS.2.2
  ·rcases au.1 hx with hx|hx
   ·exact s.gh.g x hx
   ·exact h3 x hx
theorem Jd {S0:Nat→Prop} {C0:List Chunk} {G0:List (Value×D)} (p:Nat) {x:Option Addr} {ds:List D} (hG:G0[p]?=some (.pointer x,.ptr ds))
  (H:∀b off cs e fz ls,x=some ⟨b,off,none⟩→ls.length=uw ds→(∀(j:Nat) u,(inst ds ls)[j]?=some u→cs[off+j]?=some u)→J P f R n kk E h (r++[(b,.cells cs e fz)]) F ⟨S0,C0,G0++deep ds ls⟩):J P f R n kk E h r F ⟨S0,C0,G0⟩:=Lj (Y:=⟨S0,C0,G0⟩) p hG H
theorem Lm (p:Nat) {b:Nat} {v:Value} (hG:Y.G[p]?=some (.pointer (some ⟨b,0,none⟩),.ptr [.v v]))
  (H:∀cs e fz,cs[0]?=some v→J P f R n kk E h (r++[(b,.cells cs e fz)]) F Y):J P f R n kk E h r F Y:=
 Jd p hG fun b' off cs e fz ls h1 h2 h3=>by
  cases h1
  have:Y.G++deep [D.v v] ls=Y.G:=by simp[deep]
  rw[this]
  exact H cs e fz (by have:=h3 0 v rfl;simpa using this)
theorem di {S0:Nat→Prop} {C0:List Chunk} {G0:List (Value×D)} (p:Nat) {b:Nat} {v:Value} (hG:G0[p]?=some (.pointer (some ⟨b,0,none⟩),.ptr [.v v]))
  (H:∀cs e fz,cs[0]?=some v→J P f R n kk E h (r++[(b,.cells cs e fz)]) F ⟨S0,C0,G0⟩):J P f R n kk E h r F ⟨S0,C0,G0⟩:=Lm (Y:=⟨S0,C0,G0⟩) p hG H
theorem Vg (r':List (Nat×Obj)) (hs:∀x∈r',x∈r) (H:J P f R n kk E h r' F Y):J P f R n kk E h r F Y:=fun a w ⟨aU,s⟩=>
 H a w ⟨aU,s.ag,⟨s.own.own,s.own.nodup,fun x hx=>s.own.ro x (hs x hx),fun x hx=>s.own.apart x (hs x hx)⟩,s.fr,s.may,⟨s.gh.kF,s.gh.nodup,s.gh.mw,fun x hx=>s.gh.apart x (hs x hx),s.gh.may,s.gh.lt,s.gh.own,s.gh.kT,s.gh.top,s.gh.g⟩⟩
theorem Gs (p:Nat) {b off:Nat} {m c k:Nat} {rows:List (List D)} (hG:Y.G[p]?=some (.slice (some ⟨b,off,none⟩) m c,.sl k rows)) (q:Nat) {cs:Array Value} {e:TypeId} {fz:Nat×Nat} (hq:r[q]?=some (b,.cells cs e fz)) (i:Nat) {row:List D} (hrow:rows[i]?=some row)
  (H:∀ls,ls.length=uw row→(∀(j:Nat) u,(inst row ls)[j]?=some u→cs[off+i*k+j]?=some u)→J P f R n kk E h r F ⟨Y.S,Y.C,Y.G++deep row ls⟩):J P f R n kk E h r F Y:=by
 intro a0 w ⟨aU,s⟩
 have GI:=s.own.ro _ (ae hq)
 refine wT p hG i hrow (fun b2 pN Bq e2 IC ls ha hls hc=>?_) a0 w ⟨aU,s⟩
 cases ha
 intro a1 w1 s1
 have h1:=s1.own.ro (b,.cells cs e fz) (ig _ (ae hq))
 have h2:=s1.own.ro (b,.cells Bq e2 IC) (fW _ (by simp))
 rw[h1]at h2
 cases h2
 exact Vg r (fun x hx=>ig _ hx) (H ls hls hc) a1 w1 s1
theorem yP {S0:Nat→Prop} {C0:List Chunk} {G0:List (Value×D)} (p:Nat) {b off:Nat} {m c k:Nat} {rows:List (List D)} (hG:G0[p]?=some (.slice (some ⟨b,off,none⟩) m c,.sl k rows)) (q:Nat) {cs:Array Value} {e:TypeId} {fz:Nat×Nat} (hq:r[q]?=some (b,.cells cs e fz)) (i:Nat) {row:List D} (hrow:rows[i]?=some row)
  (H:∀ls,ls.length=uw row→(∀(j:Nat) u,(inst row ls)[j]?=some u→cs[off+i*k+j]?=some u)→J P f R n kk E h r F ⟨S0,C0,G0++deep row ls⟩):J P f R n kk E h r F ⟨S0,C0,G0⟩:=Gs (Y:=⟨S0,C0,G0⟩) p hG q hq i hrow H
theorem Gv (p:Nat) {b off:Nat} {m c k:Nat} {rows:List (List D)} (hG:Y.G[p]?=some (.slice (some ⟨b,off,none⟩) m c,.sl k rows)) (q:Nat) {cs:Array Value} {e:TypeId} {fz:Nat×Nat} (hq:r[q]?=some (b,.cells cs e fz)) (i:Nat) {row:List D} (hrow:rows[i]?=some row) (hs:uw row=0)
  (H:(∀(j:Nat) u,(inst row [])[j]?=some u→cs[off+i*k+j]?=some u)→J P f R n kk E h r F ⟨Y.S,Y.C,Y.G++deep row []⟩):J P f R n kk E h r F Y:=
 yP p hG q hq i hrow fun ls h2 h3=>by
  rw[hs]at h2
  match ls,h2,h3 with
  | [],_,h3=>exact H h3
theorem CR {S0:Nat→Prop} {C0:List Chunk} {G0:List (Value×D)} (p:Nat) {b off:Nat} {m c k:Nat} {rows:List (List D)} (hG:G0[p]?=some (.slice (some ⟨b,off,none⟩) m c,.sl k rows)) (q:Nat) {cs:Array Value} {e:TypeId} {fz:Nat×Nat} (hq:r[q]?=some (b,.cells cs e fz)) (i:Nat) {row:List D} (hrow:rows[i]?=some row) (hs:uw row=0)
  (H:(∀(j:Nat) u,(inst row [])[j]?=some u→cs[off+i*k+j]?=some u)→J P f R n kk E h r F ⟨S0,C0,G0++deep row []⟩):J P f R n kk E h r F ⟨S0,C0,G0⟩:=Gv (Y:=⟨S0,C0,G0⟩) p hG q hq i hrow hs H
theorem Gu (p:Nat) {b off:Nat} {m c k:Nat} {rows:List (List D)} (hG:Y.G[p]?=some (.slice (some ⟨b,off,none⟩) m c,.sl k rows)) (q:Nat) {cs:Array Value} {e:TypeId} {fz:Nat×Nat} (hq:r[q]?=some (b,.cells cs e fz)) (i:Nat) {row:List D} (hrow:rows[i]?=some row) (hs:uw row=1)
  (H:∀a1 c1,(∀(j:Nat) u,(inst row [(a1,c1)])[j]?=some u→cs[off+i*k+j]?=some u)→J P f R n kk E h r F ⟨Y.S,Y.C,Y.G++deep row [(a1,c1)]⟩):J P f R n kk E h r F Y:=
 yP p hG q hq i hrow fun ls h2 h3=>by
  rw[hs]at h2
  match ls,h2,h3 with
  | [(a1,c1)],_,h3=>exact H a1 c1 h3
theorem Jj {S0:Nat→Prop} {C0:List Chunk} {G0:List (Value×D)} (p:Nat) {b off:Nat} {m c k:Nat} {rows:List (List D)} (hG:G0[p]?=some (.slice (some ⟨b,off,none⟩) m c,.sl k rows)) (q:Nat) {cs:Array Value} {e:TypeId} {fz:Nat×Nat} (hq:r[q]?=some (b,.cells cs e fz)) (i:Nat) {row:List D} (hrow:rows[i]?=some row) (hs:uw row=1)
  (H:∀a1 c1,(∀(j:Nat) u,(inst row [(a1,c1)])[j]?=some u→cs[off+i*k+j]?=some u)→J P f R n kk E h r F ⟨S0,C0,G0++deep row [(a1,c1)]⟩):J P f R n kk E h r F ⟨S0,C0,G0⟩:=Gu (Y:=⟨S0,C0,G0⟩) p hG q hq i hrow hs H
theorem Gt (p:Nat) {b off:Nat} {m c k:Nat} {rows:List (List D)} (hG:Y.G[p]?=some (.slice (some ⟨b,off,none⟩) m c,.sl k rows)) (q:Nat) {cs:Array Value} {e:TypeId} {fz:Nat×Nat} (hq:r[q]?=some (b,.cells cs e fz)) (i:Nat) {row:List D} (hrow:rows[i]?=some row) (hs:uw row=2)
  (H:∀a1 c1 a2 c2,(∀(j:Nat) u,(inst row [(a1,c1),(a2,c2)])[j]?=some u→cs[off+i*k+j]?=some u)→J P f R n kk E h r F ⟨Y.S,Y.C,Y.G++deep row [(a1,c1),(a2,c2)]⟩):J P f R n kk E h r F Y:=
 yP p hG q hq i hrow fun ls h2 h3=>by
  rw[hs]at h2
  match ls,h2,h3 with
  | [(a1,c1),(a2,c2)],_,h3=>exact H a1 c1 a2 c2 h3
theorem Ji {S0:Nat→Prop} {C0:List Chunk} {G0:List (Value×D)} (p:Nat) {b off:Nat} {m c k:Nat} {rows:List (List D)} (hG:G0[p]?=some (.slice (some ⟨b,off,none⟩) m c,.sl k rows)) (q:Nat) {cs:Array Value} {e:TypeId} {fz:Nat×Nat} (hq:r[q]?=some (b,.cells cs e fz)) (i:Nat) {row:List D} (hrow:rows[i]?=some row) (hs:uw row=2)
  (H:∀a1 c1 a2 c2,(∀(j:Nat) u,(inst row [(a1,c1),(a2,c2)])[j]?=some u→cs[off+i*k+j]?=some u)→J P f R n kk E h r F ⟨S0,C0,G0++deep row [(a1,c1),(a2,c2)]⟩):J P f R n kk E h r F ⟨S0,C0,G0⟩:=Gt (Y:=⟨S0,C0,G0⟩) p hG q hq i hrow hs H
theorem nH.Qh {a:Act} {w:World} {aU:List (List Nat)} (s:nH n E h r F Y a w aU) (ps:List Nat) {h':List (Nat×Obj)} (hh:pick h ps=h') (hps:ps.Nodup):nH n E h' r F Y a w aU:=by
 subst hh
 have hm:∀x∈pick h ps,x∈h:=fun x hx=>rj rfl x hx
 have kT:∀b,b∈(pick h ps).map (·.1)→b∈h.map (·.1):=fun b hb=>by
  obtain⟨x,hx,rfl⟩:=aB.1 hb
  exact aB.2 ⟨x,hm x hx,rfl⟩
 have hS:∀b,Sd Y h aU b→Sd Y (pick h ps) aU b:=fun b hb=>⟨hb.1,fun hx=>hb.2.1 (kT b hx),hb.2.2⟩
 exact⟨s.ag,⟨fun x hx=>s.own.own x (hm x hx),xC rfl hps s.own.nodup,s.own.ro,fun x hx hb=>s.own.apart x hx (kT _ hb)⟩,s.fr,fun f hf x hx=>s.may f hf x (hm x hx),
  ⟨s.gh.kF.mono (fun _ _=>rfl) fun b hb _=>⟨hS b hb,rfl⟩,s.gh.nodup,fun b hb hx=>s.gh.mw b hb (kT b hx),s.gh.apart,s.gh.may,s.gh.lt,fun x hx=>s.gh.own x (hm x hx),s.gh.kT,s.gh.top,fun x hx=>(s.gh.g x hx).mono fun b hb _=>⟨hS b hb,rfl⟩⟩⟩
theorem nH.dY {a:Act} {w:World} {aU:List (List Nat)} (s:nH n E h r F Y a w aU) (p:Nat) {b:Nat} {o:Obj} (hp:h[p]?=some (b,o)):∃gE,nH n E (h.eraseIdx p) r F ⟨Y.S,Y.C++[bL b o],Y.G⟩ a w gE:=by
 have hm:∀x∈h.eraseIdx p,x∈h:=fun x hx=>(cG h p).subset hx
 have kT:∀c,c∈(h.eraseIdx p).map (·.1)→c∈h.map (·.1):=fun c hc=>by
  obtain⟨x,hx,rfl⟩:=aB.1 hc
  exact aB.2 ⟨x,hm x hx,rfl⟩
 have hnot:b∉(h.eraseIdx p).map (·.1):=fun hc=>by
  obtain⟨x,hx,MW⟩:=aB.1 hc
  obtain⟨j,hj,he⟩:=c9.1 hx
  have h1:(h.map (·.1))[j]?=some b:=by simp[he,MW]
  have h2:(h.map (·.1))[p]?=some b:=by simp[hp]
  exact hj ((dQ (ai.1 h1).1 s.own.nodup).1 (h1.trans h2.symm))
 have yg:(b,o)∈h:=ae hp
 have e:(aU++[[b]]).flatten=aU.flatten++[b]:=by simp
 have hS:∀c,Sd Y h aU c→Sd Y (h.eraseIdx p) (aU++[[b]]) c:=fun c hc=>⟨hc.1,fun hx=>hc.2.1 (kT c hx),fun hx=>by
  rw[e]at hx
  rcases au.1 hx with hx|hx
  ·exact hc.2.2 hx
  ·rw[ay]at hx
   subst hx
   exact hc.2.1 (aB.2 ⟨_,yg,rfl⟩)⟩
 have hin:∀c,c∈(aU++[[b]]).flatten→c∈aU.flatten∨c=b:=fun c hc=>by
  rw[e]at hc
  simpa using hc
 refine⟨aU++[[b]],s.ag,⟨fun x hx=>s.own.own x (hm x hx),((cG h p).map _).nodup s.own.nodup,s.own.ro,fun x hx hc=>s.own.apart x hx (kT _ hc)⟩,s.fr,fun f hf x hx=>s.may f hf x (hm x hx),
  ⟨(s.gh.kF.mono (fun _ _=>rfl) fun c hc _=>⟨hS c hc,rfl⟩).app ⟨⟨rfl,s.own.own _ yg⟩,trivial⟩,?_,fun c hc hx=>?_,fun x hx hc=>?_,fun f hf c hc=>?_,fun c hc=>?_,fun x hx=>s.gh.own x (hm x hx),fun c hc=>?_,s.gh.top,fun x hx=>(s.gh.g x hx).mono fun c hc _=>⟨hS c hc,rfl⟩⟩⟩
 ·rw[e,be]
  refine⟨s.gh.nodup,by simp,fun x hx y hy hxy=>?_⟩
  simp at hy
  subst hy hxy
  exact s.gh.mw _ hx (aB.2 ⟨_,yg,rfl⟩)
 ·rcases hin c hc with h1|rfl
  ·exact s.gh.mw c h1 (kT c hx)
  ·exact hnot hx
 ·rcases hin _ hc with h1|h1
  ·exact s.gh.apart x hx h1
  ·exact s.own.apart x hx (aB.2 ⟨_,yg,h1.symm⟩)
 ·rcases hin c hc with h1|rfl
  ·exact s.gh.may f hf c h1
  ·exact s.may f hf _ yg
 ·rcases hin c hc with h1|rfl
  ·exact s.gh.lt c h1
  ·exact s.own.own.lt yg
 ·rcases hin c hc with h1|rfl
  ·exact s.gh.kT c h1
  ·exact s.gh.own _ yg
theorem Ll (p:Nat) {b:Nat} {o:Obj} (hp:h[p]?=some (b,o)) (H:J P f R n kk E (h.eraseIdx p) r F ⟨Y.S,Y.C++[bL b o],Y.G⟩):J P f R n kk E h r F Y:=fun a w ⟨_,s⟩=>by
 obtain⟨gE,s'⟩:=s.dY p hp
 exact H a w ⟨gE,s'⟩
theorem js {S0:Nat→Prop} {C0:List Chunk} {G0:List (Value×D)} (p:Nat) {b:Nat} {o:Obj} (hp:h[p]?=some (b,o)) (H:J P f R n kk E (h.eraseIdx p) r F ⟨S0,C0++[bL b o],G0⟩):J P f R n kk E h r F ⟨S0,C0,G0⟩:=Ll (Y:=⟨S0,C0,G0⟩) p hp H
theorem St.dY {a:Act} {w:World} (s:St n E h r F Y a w) (p:Nat) {b:Nat} {o:Obj} (hp:h[p]?=some (b,o)):St n E (h.eraseIdx p) r F ⟨Y.S,Y.C++[bL b o],Y.G⟩ a w:=by
 obtain⟨_,s⟩:=s
 exact s.dY p hp
theorem Li (i:Nat) {b:Nat} {o:Obj} (hi:Y.C[i]?=some (bL b o)) (H:J P f R n kk E (h++[(b,o)]) r F ⟨Y.S,Y.C.eraseIdx i,Y.G⟩):J P f R n kk E h r F Y:=fun a w ⟨aU,s⟩=>by
 obtain⟨fp,og,rfl,hb⟩:=s.gh.kF.at hi
 have hm:b∈aU.flatten:=cK.2 ⟨_,ae og,by simp⟩
 have hnb:b∉(aU.eraseIdx i).flatten:=fun hc=>by
  obtain⟨j,x,hj,hx,KG⟩:=kJ hc
  exact hj (qH s.gh.nodup hx og KG (by simp))
 have sM:(h++[(b,o)]).map (·.1)=h.map (·.1)++[b]:=by simp
 have hS:∀c,Sd Y h aU c→Sd Y (h++[(b,o)]) (aU.eraseIdx i) c:=fun c hc=>⟨hc.1,fun hx=>by
  rw[sM]at hx
  rcases au.1 hx with hx|hx
  ·exact hc.2.1 hx
  ·rw[ay]at hx
   subst hx
   exact hc.2.2 hm,fun hx=>hc.2.2 (c7 hx)⟩
 have hin:∀x∈h++[(b,o)],x∈h∨x=(b,o):=fun x hx=>by simpa using hx
 refine H a w ⟨aU.eraseIdx i,s.ag,⟨fun x hx=>?_,?_,s.own.ro,fun x hx hc=>?_⟩,s.fr,fun f hf x hx=>?_,
  ⟨s.gh.kF.erase.mono (fun _ _=>rfl) fun c hc _=>⟨hS c hc,rfl⟩,gH s.gh.nodup (cG _ _),fun c hc hx=>?_,fun x hx hc=>s.gh.apart x hx (c7 hc),fun f hf c hc=>s.gh.may f hf c (c7 hc),fun c hc=>s.gh.lt c (c7 hc),fun x hx=>?_,fun c hc=>s.gh.kT c (c7 hc),s.gh.top,fun x hx=>(s.gh.g x hx).mono fun c hc _=>⟨hS c hc,rfl⟩⟩⟩
 ·rcases hin x hx with h1|rfl
  ·exact s.own.own x h1
  ·exact hb
 ·rw[sM,be]
  refine⟨s.own.nodup,by simp,fun x hx y hy hxy=>?_⟩
  simp at hy
  subst hy hxy
  exact s.gh.mw _ hm hx
 ·rw[sM]at hc
  rcases au.1 hc with hc|hc
  ·exact s.own.apart x hx hc
  ·rw[ay]at hc
   exact s.gh.apart x hx (by rw[hc];exact hm)
 ·rcases hin x hx with h1|rfl
  ·exact s.may f hf x h1
  ·exact s.gh.may f hf _ hm
 ·rw[sM]at hx
  rcases au.1 hx with hx|hx
  ·exact s.gh.mw c (c7 hc) hx
  ·rw[ay]at hx
   subst hx
   exact hnb hc
 ·rcases hin x hx with h1|rfl
  ·exact s.gh.own x h1
  ·exact s.gh.kT _ hm
theorem fh {S0:Nat→Prop} {C0:List Chunk} {G0:List (Value×D)} (i:Nat) {b:Nat} {o:Obj} (hi:C0[i]?=some (bL b o)) (H:J P f R n kk E (h++[(b,o)]) r F ⟨S0,C0.eraseIdx i,G0⟩):J P f R n kk E h r F ⟨S0,C0,G0⟩:=Li (Y:=⟨S0,C0,G0⟩) i hi H
end reads
def Inv {α:Type} (n:Nat) [Dfr n] (E:α→Env) (h:α→List (Nat×Obj)) (S:Nat→Prop) (C:α→List Chunk) (G:α→List (Value×D)) (m:α→Nat) (ok:α→Prop) (r:List (Nat×Obj)) (F:List (List Nat×World)):Nat→Act→World→Prop:=
 fun j a w=>∃x,ok x∧m x=j∧St n (E x) (h x) r F ⟨S,C x,G x⟩ a w
section loops
variable {P:Program} {f:Func} [Pan f] {R:Act→World→Prop} {n:Nat} [Dfr n] {kk:List oR} {E:Env} {h r:List (Nat×Obj)} {F:List (List Nat×World)} {Y:fQ} {α:Type}
theorem St.cut {a:Act} {w:World} (s:St n E h r F Y a w) (ts ps cs gs:List Nat) {E':Env} {h' r':List (Nat×Obj)} {C':List Chunk} {G':List (Value×D)} (hE:nB E ts=E') (hh:pick h ps=h') (hC:pick Y.C cs=C') (hG:pick Y.G gs=G') (hr:∀x∈r',x∈r) (hps:ps.Nodup) (hcs:cs.Nodup) :
  St n E' h' r' F ⟨Y.S,C',G'⟩ a w:=by
 have s1:=s.jz (G5 cs gs hC hG hcs)
 obtain⟨aU,s⟩:=s1
 have s:=s.Qh ps hh hps
 subst hE
 exact⟨aU,s.ag.sub (oe E ts),⟨s.own.own,s.own.nodup,fun x hx=>s.own.ro x (hr x hx),fun x hx=>s.own.apart x (hr x hx)⟩,s.fr,s.may,⟨s.gh.kF,s.gh.nodup,s.gh.mw,fun x hx=>s.gh.apart x (hr x hx),s.gh.may,s.gh.lt,s.gh.own,s.gh.kT,s.gh.top,s.gh.g⟩⟩
theorem NU (ts ps cs gs:List Nat) {E':Env} {h':List (Nat×Obj)} {C':List Chunk} {G':List (Value×D)} (hE:nB E ts=E') (hh:pick h ps=h') (hC:pick Y.C cs=C') (hG:pick Y.G gs=G') (H:J P f R n kk E' h' [] F ⟨Y.S,C',G'⟩) (hps:ps.Nodup:=by decide) (hcs:cs.Nodup:=by decide):J P f R n kk E h r F Y:=fun a w s=>
 H a w (s.cut ts ps cs gs hE hh hC hG (by simp) hps hcs)
theorem vf {S0:Nat→Prop} {C0:List Chunk} {G0:List (Value×D)} (ts ps cs gs:List Nat) {E':Env} {h':List (Nat×Obj)} {C':List Chunk} {G':List (Value×D)} (hE:nB E ts=E') (hh:pick h ps=h') (hC:pick C0 cs=C') (hG:pick G0 gs=G') (H:J P f R n kk E' h' [] F ⟨S0,C',G'⟩) (hps:ps.Nodup:=by decide) (hcs:cs.Nodup:=by decide):J P f R n kk E h r F ⟨S0,C0,G0⟩:=NU (Y:=⟨S0,C0,G0⟩) ts ps cs gs hE hh hC hG H hps hcs
theorem EP {b:Sk} (H:∀I,J P f R n (.c b::.back I 0::kk) E h r F Y):J P f R n (.c (.loop b)::kk) E h r F Y:=
 Jf (fun j a w=>j=0∧St n E h r F Y a w) (fun _ _ s=>⟨0,rfl,s⟩) fun j a w ⟨hj,s⟩=>by
  subst hj
  exact H _ a w s
theorem Je {b:Sk} (Ex:α→Env) (hx:α→List (Nat×Obj)) (Cx:α→List Chunk) (Gx:α→List (Value×D)) (m:α→Nat) (ok:α→Prop) (x0:α) (ts ps cs gs:List Nat) (hok:ok x0) (hE:nB E ts=Ex x0) (hh:pick h ps=hx x0) (hC:pick Y.C cs=Cx x0) (hG:pick Y.G gs=Gx x0)
  (round:∀x,ok x→J P f R n (.c b::.back (Inv n Ex hx Y.S Cx Gx m ok r F) (m x)::kk) (Ex x) (hx x) r F ⟨Y.S,Cx x,Gx x⟩) (hps:ps.Nodup:=by decide) (hcs:cs.Nodup:=by decide):J P f R n (.c (.loop b)::kk) E h r F Y:=
 Jf (Inv n Ex hx Y.S Cx Gx m ok r F) (fun a w s=>⟨m x0,x0,hok,rfl,s.cut ts ps cs gs hE hh hC hG (fun _ hx=>hx) hps hcs⟩) fun j a w ⟨x,WG,hj,s⟩=>by
  subst hj
  exact round x WG a w s
theorem cU {S0:Nat→Prop} {C0:List Chunk} {G0:List (Value×D)} {b:Sk} (Ex:α→Env) (hx:α→List (Nat×Obj)) (Cx:α→List Chunk) (Gx:α→List (Value×D)) (m:α→Nat) (ok:α→Prop) (x0:α) (ts ps cs gs:List Nat) (hok:ok x0) (hE:nB E ts=Ex x0) (hh:pick h ps=hx x0) (hC:pick C0 cs=Cx x0) (hG:pick G0 gs=Gx x0)
  (round:∀x,ok x→J P f R n (.c b::.back (Inv n Ex hx S0 Cx Gx m ok r F) (m x)::kk) (Ex x) (hx x) r F ⟨S0,Cx x,Gx x⟩) (hps:ps.Nodup:=by decide) (hcs:cs.Nodup:=by decide):J P f R n (.c (.loop b)::kk) E h r F ⟨S0,C0,G0⟩:=Je (Y:=⟨S0,C0,G0⟩) Ex hx Cx Gx m ok x0 ts ps cs gs hok hE hh hC hG round hps hcs
theorem bC {Ex:α→Env} {hx:α→List (Nat×Obj)} {Cx:α→List Chunk} {Gx:α→List (Value×D)} {m:α→Nat} {ok:α→Prop} {S:Nat→Prop} {r0:List (Nat×Obj)} {j:Nat} (x:α) (ts ps cs gs:List Nat) (hok:ok x) (hm:m x<j) (hE:nB E ts=Ex x) (hh:pick h ps=hx x) (hC:pick Y.C cs=Cx x) (hG:pick Y.G gs=Gx x) (hS:Y.S=S:=by rfl)
  (hr:∀y∈r0,y∈r:=by simp) (hps:ps.Nodup:=by decide) (hcs:cs.Nodup:=by decide):J P f R n (.back (Inv n Ex hx S Cx Gx m ok r0 F) j::kk) E h r F Y:=fun a w s=>by
 subst hS
 simp only[mq]
 exact⟨m x,hm,x,hok,rfl,s.cut ts ps cs gs hE hh hC hG hr hps hcs⟩
end loops
end Go.Sx
end
