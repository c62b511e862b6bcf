/- Part 2 of the texts of a claim: Tx6 Mn Tx7. -/
import Derived.KernelRfl
import Derived.Test.YtmkapocibaojdaaGreatDoorTs1
section
namespace Go.Sx
open Go
def pick {α:Type} (l:List α) (ps:List Nat):List α:=ps.filterMap fun i=>l[i]?
theorem pick_mem {α:Type} {l l':List α} {ps:List Nat} (h:pick l ps=l'):∀y∈l',y∈l:=fun y hy=>by
 rw[←h]at hy
 obtain⟨i,_,hi⟩:=List.mem_filterMap.1 hy
 exact List.mem_of_getElem? hi
theorem pick_nodup {α β:Type} {g:α→β} {l:List α}:∀{ps:List Nat} {l':List α},pick l ps=l'→ps.Nodup→(l.map g).Nodup→(l'.map g).Nodup
 | [],l',h,_,_=>by
  rw[←h]
  simp[pick]
 | i::ps,l',h,hp,hn=>by
  have hp2:=List.nodup_cons.1 hp
  have ih:=pick_nodup (g:=g) (l:=l) (ps:=ps) rfl hp2.2 hn
  rw[←h]
  unfold pick
  rw[List.filterMap_cons]
  split
  ·exact ih
  ·rename_i x hx
   rw[List.map_cons,List.nodup_cons]
   refine⟨fun hm=>?_,ih⟩
   obtain⟨y,hy,hxy⟩:=List.mem_map.1 hm
   obtain⟨j,hj,hjy⟩:=List.mem_filterMap.1 hy
   have h1:(l.map g)[i]?=some (g x):=by rw[List.getElem?_map,hx];rfl
   have h2:(l.map g)[j]?=some (g x):=by rw[List.getElem?_map,hjy,←hxy];rfl
   have hl:i<(l.map g).length:=(List.getElem?_eq_some_iff.1 h1).1
   have:=(List.getElem?_inj hl hn).1 (h1.trans h2.symm)
   subst this
   exact hp2.1 hj
theorem own_nil {r:List (Nat×Obj)} {w:World} (h:∀x∈r,w.heap[x.1]?=some x.2):Own [] r w:=⟨by simp[Hp],by simp,h,by simp⟩
def pinOk (f:Func) (id:Nat):Bool:=(pins f).isEmpty||(rgOf f id).all fun o=>pinFree f o.dst
theorem pinOk_spec {f:Func} {id:Nat} (h:pinOk f id=true) {i:Nat} {o:Oper} (ho:(rgOf f id)[i]?=some o):pinFree f o.dst=true:=by
 rcases Bool.or_eq_true_iff.1 h with h|h
 ·unfold pinFree
  split
  ·rw[List.isEmpty_iff.1 h];rfl
  ·rfl
 ·obtain⟨hi,rfl⟩:=Array.getElem?_eq_some_iff.1 ho
  exact Array.all_eq_true.1 h i hi
def regOk (f:Func) (id:Nat) (d:Bool) (plan:List (Nat×Bool)):Bool:=
 if d then Region.noSelect (rgOf f id)&&Nat.beq plan.length (rgOf f id).size&&planOk (rgOf f id) plan (Array.replicate (rgOf f id).size false)&&pinOk f id else plan.map (·.1)==List.range (rgOf f id).size
def runReg (P:Program) (n:Nat) (nu:Nat→Nat) (f:Func) (id L0:Nat) (ck:Bool) (pl:List Pl) (Wp:List (Nat×List Nat)) (E:Env) (h r:List (Nat×Obj)) (keep:List Nat):Option (Env×List (Nat×Obj)×List Ob×List (Nat×List Nat)):=
 match run P n nu (rgOf f id) r L0 ck pl Wp E ⟨h,0,[]⟩with
 | some (E',x',W',p)=>some (keepE E' keep,x'.h,p,W')
 | none=>none
section rules
variable {P:Program} {f:Func} [Pan f] {R:Act→World→Prop} {n:Nat} [Dfr n] {k:List Itm} {E E':Env} {h h' r:List (Nat×Obj)} {F:List (List Nat×World)} {Y:Ghost}
theorem Rep.drew {w:World} {S:Nat→Prop} {x:Value} {d:D} (h:Rep w S x d):Rep { w with drawn:=w.drawn+1 } S x d:=h.mono fun _ hb _=>⟨hb,rfl⟩
theorem StF.drew {a:Act} {w:World} {fps:List (List Nat)} (s:StF n E h r F Y a w fps):StF n E h r F Y a { w with drawn:=w.drawn+1 } fps:=
 ⟨s.ag,⟨s.own.own,s.own.nodup,s.own.ro,s.own.apart⟩,fun f hf=>(s.fr f hf).drew,s.may,
  ⟨s.gh.chs.mono (fun _ _=>rfl) (fun _ hb _=>⟨hb,rfl⟩),s.gh.nodup,s.gh.disj,s.gh.apart,s.gh.may,s.gh.lt,s.gh.own,s.gh.hid,s.gh.top,fun x hx=>(s.gh.g x hx).drew⟩⟩
theorem JR_begin (hm:P.follows .mixedOrders=true) {id:Nat} {d:Bool} (plan:List (Nat×Bool)) (Wp:List (Nat×List Nat)) (hok:regOk f id d plan=true) (hWp:okWp h.length Wp=true)
  (H:JR P f R n (rgOf f id) h.length d plan Wp k E h r F Y):J P f R n (.c (.rg id d)::k) E h r F Y:=fun a w ⟨fps,s⟩=>by
 have key:∀w,StF n E h r F Y a w fps→PW P (rgOf f id) (wpK P f R k) w.heap.size d plan (idsW fps.flatten h Wp) a w:=fun w s=>
  H w.heap.size fps.flatten fps a w s (fun b hb=>.inl hb) ⟨fun i _ x hx=>⟨s.own.own.lt (List.mem_of_getElem? hx),fun hm=>s.gh.disj _ hm (List.mem_map.2 ⟨x,List.mem_of_getElem? hx,rfl⟩)⟩,fun x hx=>⟨s.own.ro.lt hx,s.gh.apart x hx⟩,Nat.le_refl _,Nat.le_refl _⟩
   (fun j hj x hx=>by rw[List.getElem?_eq_none hj]at hx;cases hx) hWp
 simp only[wpK,Sk.code]
 cases d with
 | true=>
  simp only[regOk,if_true,Bool.and_eq_true]at hok
  obtain⟨⟨⟨h1,h2⟩,h3⟩,h4⟩:=hok
  exact wp_region_plan hm h1 (fun i o ho c a v w hq=>wpK_pput (pinOk_spec h4 ho) hq) plan _ (Nat.eq_of_beq_eq_true h2) h3 (key _ s.drew)
 | false=>
  simp only[regOk,Bool.false_eq_true,if_false,beq_iff_eq]at hok
  exact wp_region_line plan _ hok (key w s)
theorem JR_end {ops:Array Oper} {L0:Nat} {ck:Bool} {Wp:List (Nat×List Nat)} (H:J P f R n k E h r F Y):JR P f R n ops L0 ck [] Wp k E h r F Y:=fun _ _ fps a w s _ _ _ _=>H a w ⟨fps,s⟩
def trivL (x:Option (Env×List (Nat×Obj)×List Ob×List (Nat×List Nat))):List Nat×List Bool×List (Option Nat):=match x with
 | some y=>obL y.2.2.1
 | none=>([],[],[])
def trivR (x:Option (Env×List (Nat×Obj)×List Ob×List (Nat×List Nat))):List Nat×List Bool×List (Option Nat):=match x with
 | some y=>obR y.2.2.1
 | none=>([],[],[])
def packed (x:Option (Env×List (Nat×Obj)×List Ob×List (Nat×List Nat))):Option (Env×List (Nat×Obj)×List Prop×List (Nat×List Nat)):=match x with
 | some y=>some (y.1,y.2.1,obP y.2.2.1,y.2.2.2)
 | none=>none
theorem JR_run {id L0:Nat} {ck:Bool} {Wp:List (Nat×List Nat)} {rest:List (Nat×Bool)} (pl:List Pl) (keep:List Nat) {E1:(Nat→Nat)→Env} {h1:(Nat→Nat)→List (Nat×Obj)} {p1:(Nat→Nat)→List Prop} {W1:List (Nat×List Nat)}
  (hr:∀nu,(packed (runReg P n nu f id L0 ck pl Wp E h r keep),trivL (runReg P n nu f id L0 ck pl Wp E h r keep))=(some (E1 nu,h1 nu,p1 nu,W1),trivR (runReg P n nu f id L0 ck pl Wp E h r keep))) (hp:∀nu,AllP (p1 nu))
  (H:∀nu,JR P f R n (rgOf f id) L0 ck rest W1 k (E1 nu) (h1 nu) r F Y):JR P f R n (rgOf f id) L0 ck (pl.map Pl.key++rest) Wp k E h r F Y:=by
 intro B Hd fps a w s hH hR hN hW
 obtain⟨h2,h3⟩:=Prod.mk.inj (hr (fun j=>w.heap.size+j))
 unfold runReg at h2 h3
 split at h2
 ·rename_i E' x' W' p hrun
  rw[hrun]at h3
  simp only[packed,Option.some.injEq,Prod.mk.injEq]at h2
  obtain⟨e1,e2,e3,e4⟩:=h2
  refine run_PW pl Wp E ⟨h,0,[]⟩ E' x' W' p hrun (All_of p h3 (by rw[e3];exact hp _)) hW a w s.ag s.own (fun j=>by simp) hR hN fun a' w' hA hO _ hR' hN' hd hW'=>?_
  rw[e4]at hW' ⊢
  rw[e2]at hO hR' hN' hd ⊢
  exact H _ B Hd fps a' w' (s.go (hA.sub (by rw[←e1];exact keepE_sub E' keep)) hO hd) hH hR' hN' hW'
 ·cases h2
theorem J_reg (hm:P.follows .mixedOrders=true) {id:Nat} {d:Bool} (pl:List Pl) (Wp:List (Nat×List Nat)) (keep:List Nat) {E1:(Nat→Nat)→Env} {h1:(Nat→Nat)→List (Nat×Obj)} {p1:(Nat→Nat)→List Prop} {W1:List (Nat×List Nat)}
  (hok:(regOk f id d (pl.map Pl.key)&&okWp h.length Wp)=true)
  (hr:∀nu,(packed (runReg P n nu f id h.length d pl Wp E h r keep),trivL (runReg P n nu f id h.length d pl Wp E h r keep))=(some (E1 nu,h1 nu,p1 nu,W1),trivR (runReg P n nu f id h.length d pl Wp E h r keep))) (hp:∀nu,AllP (p1 nu))
  (H:∀nu,J P f R n k (E1 nu) (h1 nu) r F Y):J P f R n (.c (.rg id d)::k) E h r F Y:=by
 obtain⟨ho1,ho2⟩:=(Bool.and_eq_true _ _ ▸ hok:_∧_)
 refine JR_begin hm (pl.map Pl.key) Wp ho1 ho2 ?_
 have:=JR_run (rest:=[]) pl keep hr hp fun nu=>JR_end (H nu)
 rwa[List.append_nil]at this
def callOf (P:Program) (n:Nat) (ops:Array Oper) (h r:List (Nat×Obj)) (E:Env) (i:Nat) (hs:List Hn):Option (FuncId×Array Value×Option Tmp×List Ob):=
 match ops[i]? with
 | none=>none
 | some o=>if dstOk n o.dst&&!isSel o.op then match (match o.guard with
   | none=>some (none,[])
   | some (j,want)=>(guardOf E ops j).map fun c=>(some (c,want),[.bb c want]))with
  | none=>none
  | some (cd,g)=>match opsOk E cd o.op.operands.toList with
   | none=>none
   | some q=>match exr P h r (execOp (rho E) o) hs with
    | some (.enter fid args,p)=>some (fid,args,o.dst,g++(q++p))
    | _=>none
  else none
theorem callOf_sound {ops:Array Oper} {i:Nat} {hs:List Hn} {fid:FuncId} {args:Array Value} {dst:Option Tmp} {p:List Ob} (he:callOf P n ops h r E i hs=some (fid,args,dst,p)) (hp:All p)
  {a:Act} {w:World} {fps:List (List Nat)} (s:StF n E h r F Y a w fps) {K:Act→World→Prop} {Q:Exit→Act→World→Prop}
  (C:Calls P fid args w fun e w'=>∃v,e=.returned v∧∀E',E'=E.put dst (.val v)→∀a',Ag n E' a'→K a' w'):wpOp P ops Q i K a w:=by
 unfold callOf at he
 split at he
 ·cases he
 rename_i o ho
 split at he
 case isFalse=>cases he
 rename_i hd
 simp only[Bool.and_eq_true,Bool.not_eq_true']at hd
 split at he
 ·cases he
 rename_i cd g hg
 split at he
 ·cases he
 rename_i q hq
 split at he
 case h_2=>cases he
 rename_i fid' args' p' hx
 simp only[Option.some.injEq,Prod.mk.injEq]at he
 obtain⟨rfl,rfl,rfl,rfl⟩:=he
 obtain⟨hg1,hp⟩:=All_append hp
 obtain⟨hq1,hp1⟩:=All_append hp
 have hwant:Region.wanted o (yielded ops a.tmps)=true∧∀c wn,cd=some (c,wn)→c=wn:=by
  cases hgd:o.guard with
  | none=>
   rw[hgd]at hg
   simp only[Option.some.injEq,Prod.mk.injEq]at hg
   refine⟨by simp[Region.wanted,hgd],fun c wn h=>?_⟩
   rw[←hg.1]at h
   cases h
  | some y=>
   obtain⟨j,want⟩:=y
   rw[hgd]at hg
   obtain⟨c,hc,hcg⟩:=Option.map_eq_some_iff.1 hg
   simp only[Prod.mk.injEq]at hcg
   obtain⟨rfl,rfl⟩:=hcg
   have hy:=guardOf_sound s.ag hc
   have hcw:c=want:=hg1.1
   refine⟨by simp[Region.wanted,hgd,hy,hcw],fun c' wn h=>?_⟩
   injection h with h
   injection h with h1 h2
   rw[←h1,←h2]
   exact hcw
 unfold wpOp
 simp only[ho]
 rw[if_pos hwant.1]
 refine .inl ?_
 unfold Oper.wp
 have hcongr:execOp a.eval o=execOp (rho E) o:=execOp_congr o (fun cs b hc=>by have:=hd.2;rw[hc]at this;cases this) (fun x hx=>opsOk_sound s.ag hwant.2 _ _ hq hq1 x (by simpa using hx))
 rw[hcongr,exr_sound _ hs _ _ hx hp1 w fun y hy=>by
  obtain⟨hn,_,hg⟩:=List.mem_filterMap.1 hy
  exact s.own.get hg]
 rw[Oper.upon_enter]
 refine C.mono fun e w' hh=>?_
 obtain⟨v,rfl,hk⟩:=hh
 exact hk _ rfl _ (s.ag.put hd.1 (.val v))
def chkC (x:Option (FuncId×Array Value×Option Tmp×List Ob)):Option (FuncId×Array Value×Option Tmp)×(List Nat×List Bool×List (Option Nat))×Nat:=match x with
 | some y=>(some (y.1,y.2.1,y.2.2.1),obL y.2.2.2,(obP y.2.2.2).length)
 | none=>(none,([],[],[]),0)
def trivC (x:Option (FuncId×Array Value×Option Tmp×List Ob)):List Nat×List Bool×List (Option Nat):=match x with
 | some y=>obR y.2.2.2
 | none=>([],[],[])
theorem chkC_sound {x:Option (FuncId×Array Value×Option Tmp×List Ob)} {fid:FuncId} {args:Array Value} {dst:Option Tmp} (h:chkC x=(some (fid,args,dst),trivC x,0)):∃p,x=some (fid,args,dst,p)∧All p:=by
 cases x with
 | none=>simp[chkC]at h
 | some y=>
  obtain⟨a,b,c,p⟩:=y
  simp only[chkC,trivC,Prod.mk.injEq,Option.some.injEq]at h
  obtain⟨⟨rfl,rfl,rfl⟩,h2,h3⟩:=h
  refine⟨p,rfl,All_of p h2 ?_⟩
  rw[List.eq_nil_of_length_eq_zero h3]
  trivial
def newS (S:Nat→Prop) (M:List Nat) (w:World):Nat→Prop:=fun b=>S b∨b∈M∨w.heap.size≤b
def retS (S:Nat→Prop) (M:List Nat) (w:World) (fps:List (List Nat)):Nat→Prop:=fun b=>newS S M w b∧b∉fps.flatten
def Pre (w:World) (S:Nat→Prop) (M:List Nat) (C:List Chunk):Prop:=
 ∃fps,Chs w S C fps∧M=fps.flatten∧M.Nodup∧∀b∈M,b<w.heap.size∧¬S b
theorem Pre.none (w:World) (S:Nat→Prop):Pre w S [] []:=⟨[],trivial,rfl,by simp,by simp⟩
def AllG (w:World) (S:Nat→Prop) (G:List (Value×D)):Prop:=∀x∈G,Rep w S x.1 x.2
theorem AllG.at {w:World} {S:Nat→Prop} {G:List (Value×D)} (h:AllG w S G) (p:Nat) {v:Value} {d:D} (hp:G[p]?=some (v,d)):Rep w S v d:=h _ (List.mem_of_getElem? hp)
theorem AllG.nil (w:World) (S:Nat→Prop):AllG w S []:=fun _ h=>by cases h
theorem AllG.cons {w:World} {S:Nat→Prop} {G:List (Value×D)} {v:Value} {d:D} (h:Rep w S v d) (hG:AllG w S G):AllG w S ((v,d)::G):=fun x hx=>by
 rcases List.mem_cons.1 hx with rfl|hx
 ·exact h
 ·exact hG x hx
structure Ret (M:List Nat) (w:World) (S:Nat→Prop) (w':World) (e:Ending) (v:Value) (C:List Chunk) (G:List (Value×D)):Prop where
 ret:e=.returned v
 fr:Fr M w w'
 gh:∃fps,Chs w' (retS S M w fps) C fps∧fps.flatten.Nodup∧(∀b∈fps.flatten,(b∈M∨w.heap.size≤b)∧b<w'.heap.size)∧∀x∈G,Rep w' (retS S M w fps) x.1 x.2
def others (n:Nat) (cs:List Nat):List Nat:=(List.range n).filter fun i=>!cs.contains i
def restC (C:List Chunk) (cs:List Nat):List Chunk:=pick C (others C.length cs)
theorem pick_cons {α:Type} (l:List α) (i:Nat) (ps:List Nat):pick l (i::ps)=(l[i]?).toList++pick l ps:=by
 unfold pick
 rw[List.filterMap_cons]
 cases l[i]? <;> rfl
theorem pick_app {α:Type} (l:List α) (ps qs:List Nat):pick l (ps++qs)=pick l ps++pick l qs:=by simp[pick]
theorem Chs.pick {w:World} {S:Nat→Prop} {cs:List Chunk} {fps:List (List Nat)} (h:Chs w S cs fps):∀ps:List Nat,Chs w S (pick cs ps) (pick fps ps)
 | []=>trivial
 | i::ps=>by
  have ih:=Chs.pick h ps
  rw[pick_cons,pick_cons]
  cases hc:cs[i]? with
  | none=>
   have:fps[i]?=none:=by
    rw[List.getElem?_eq_none_iff]at hc ⊢
    rw[←h.len];exact hc
   rw[this]
   exact ih
  | some c=>
   obtain⟨fp,h1,h2⟩:=h.at hc
   rw[h1]
   exact⟨h2,ih⟩
theorem flat_at {fps:List (List Nat)} (h:fps.flatten.Nodup):∀{i j:Nat} {x y:List Nat} {b:Nat},fps[i]?=some x→fps[j]?=some y→b∈x→b∈y→i=j:=by
 induction fps with
 | nil=>intro i j x y b hi;simp at hi
 | cons fp fps ih=>
  rw[List.flatten_cons,List.nodup_append]at h
  obtain⟨h1,h2,h3⟩:=h
  intro i j x y b hi hj hx hy
  have hin:∀{k:Nat} {z:List Nat},fps[k]?=some z→b∈z→b∈fps.flatten:=fun hk hz=>List.mem_flatten.2 ⟨_,List.mem_of_getElem? hk,hz⟩
  cases i with
  | zero=>
   cases j with
   | zero=>rfl
   | succ j=>
    simp only[List.getElem?_cons_zero,Option.some.injEq,List.getElem?_cons_succ]at hi hj
    subst hi
    exact absurd rfl (h3 b hx b (hin hj hy))
  | succ i=>
   cases j with
   | zero=>
    simp only[List.getElem?_cons_zero,Option.some.injEq,List.getElem?_cons_succ]at hi hj
    subst hj
    exact absurd rfl (h3 b hy b (hin hi hx))
   | succ j=>
    simp only[List.getElem?_cons_succ]at hi hj
    rw[ih h2 hi hj hx hy]
theorem mem_pick_flat {fps:List (List Nat)} {ps:List Nat} {b:Nat} (h:b∈(pick fps ps).flatten):∃i∈ps,∃x,fps[i]?=some x∧b∈x:=by
 obtain⟨x,hx,hb⟩:=List.mem_flatten.1 h
 obtain⟨i,hi,he⟩:=List.mem_filterMap.1 hx
 exact⟨i,hi,x,he,hb⟩
theorem pick_flat_sub {fps:List (List Nat)} {ps:List Nat} {b:Nat} (h:b∈(pick fps ps).flatten):b∈fps.flatten:=by
 obtain⟨i,_,x,hx,hb⟩:=mem_pick_flat h
 exact List.mem_flatten.2 ⟨x,List.mem_of_getElem? hx,hb⟩
theorem pick_flat_nodup {fps:List (List Nat)} (h:fps.flatten.Nodup):∀{ps:List Nat},ps.Nodup→(pick fps ps).flatten.Nodup
 | [],_=>by simp[pick]
 | i::ps,hp=>by
  have hp:=List.nodup_cons.1 hp
  rw[pick_cons,List.flatten_append,List.nodup_append]
  refine⟨?_,pick_flat_nodup h hp.2,fun b hb c hc hbc=>?_⟩
  ·cases hi:fps[i]? with
   | none=>simp
   | some x=>
    have hx:=List.mem_of_getElem? hi
    obtain⟨l1,l2,rfl⟩:=List.append_of_mem hx
    rw[List.flatten_append,List.flatten_cons]at h
    have:=(List.nodup_append.1 (List.nodup_append.1 h).2.1).1
    simpa using this
  ·subst hbc
   cases hi:fps[i]? with
   | none=>rw[hi]at hb;simp at hb
   | some x=>
    rw[hi]at hb
    simp at hb
    obtain⟨j,hj,y,hy,hby⟩:=mem_pick_flat hc
    have:=flat_at h hi hy hb hby
    subst this
    exact hp.1 hj
theorem others_not {n:Nat} [Dfr n] {cs:List Nat} {i:Nat} (h:i∈others n cs):i∉cs:=by
 unfold others at h
 have:=(List.mem_filter.1 h).2
 simpa using this
theorem others_nodup (n:Nat) (cs:List Nat):(others n cs).Nodup:=List.nodup_range.filter _
theorem retS_all {Y:Ghost} {h r:List (Nat×Obj)} {F:List (List Nat×World)} {w w':World} {fps fps':List (List Nat)} {cs:List Nat} (H:GhF Y h r F w fps) (hO:Own h r w)
  (h3:∀b∈fps'.flatten,(b∈(pick fps cs).flatten∨w.heap.size≤b)∧b<w'.heap.size):∀b,retS (Sd Y h fps) (pick fps cs).flatten w fps' b→Sd Y h (pick fps (others fps.length cs)++fps') b:=by
 intro b hb
 have hh:b∉h.map (·.1)∧b∉(pick fps (others fps.length cs)).flatten∧Y.S b:=by
  rcases hb.1 with h1|h1|h1
  ·exact⟨h1.2.1,fun hm=>h1.2.2 (pick_flat_sub hm),h1.1⟩
  ·refine⟨H.disj b (pick_flat_sub h1),fun hm=>?_,H.hid b (pick_flat_sub h1)⟩
   obtain⟨i,hi,x,hx,hbx⟩:=mem_pick_flat h1
   obtain⟨j,hj,y,hy,hby⟩:=mem_pick_flat hm
   have:=flat_at H.nodup hx hy hbx hby
   subst this
   exact others_not hj hi
  ·refine⟨fun hm=>?_,fun hm=>?_,H.top b h1⟩
   ·obtain⟨x,hx,rfl⟩:=List.mem_map.1 hm
    have:=hO.own.lt hx
    omega
   ·have:=H.lt b (pick_flat_sub hm)
    omega
 refine⟨hh.2.2,hh.1,fun hm=>?_⟩
 rw[List.flatten_append]at hm
 rcases List.mem_append.1 hm with hm|hm
 ·exact hh.2.1 hm
 ·exact hb.2 hm
theorem Pre.of {a:Act} {w:World} {fps:List (List Nat)} (s:StF n E h r F Y a w fps) {cs:List Nat} (hcs:cs.Nodup):Pre w (Sd Y h fps) (pick fps cs).flatten (pick Y.C cs):=
 ⟨pick fps cs,s.gh.chs.pick cs,rfl,pick_flat_nodup s.gh.nodup hcs,fun b hb=>⟨s.gh.lt b (pick_flat_sub hb),fun hS=>hS.2.2 (pick_flat_sub hb)⟩⟩
theorem StF.called {a a':Act} {w w':World} {fps:List (List Nat)} {cs:List Nat} {e:Ending} {v:Value} {C':List Chunk} {G':List (Value×D)} (s:StF n E h r F Y a w fps)
  (hA:Ag n E' a') (hR:Ret (pick fps cs).flatten w (Sd Y h fps) w' e v C' G') :
  ∃fps',(∀b∈fps'.flatten,b∈(pick fps cs).flatten∨w.heap.size≤b)∧StF n E' h r F ⟨Y.S,pick Y.C (others Y.C.length cs)++C',Y.G++G'⟩ a' w' (pick fps (others fps.length cs)++fps'):=by
 obtain⟨_,hf,fps',hC,hn,h3,hG⟩:=hR
 have H:=s.gh
 have hS:=retS_all (cs:=cs) (fps':=fps') (w':=w') H s.own h3
 have hnew:∀b,b∈fps'.flatten→b<w.heap.size→b∈(pick fps cs).flatten:=fun b hb hlt=>by
  rcases(h3 b hb).1 with h|h
  ·exact h
  ·omega
 have hM:∀b,b∉fps.flatten→b∉(pick fps cs).flatten:=fun b hb hm=>hb (pick_flat_sub hm)
 have hOld:∀b,Sd Y h fps b→b<w.heap.size→Sd Y h (pick fps (others fps.length cs)++fps') b∧w'.heap[b]?=w.heap[b]?:=fun b hb hlt=>
  ⟨hS b ⟨.inl hb,fun hm=>hb.2.2 (pick_flat_sub (hnew b hm hlt))⟩,hf.block b hlt (hM b hb.2.2)⟩
 have hrest:∀b∈(pick fps (others fps.length cs)).flatten,b∉(pick fps cs).flatten:=fun b hb hm=>by
  obtain⟨i,hi,x,hx,hbx⟩:=mem_pick_flat hm
  obtain⟨j,hj,y,hy,hby⟩:=mem_pick_flat hb
  have:=flat_at H.nodup hx hy hbx hby
  subst this
  exact others_not hj hi
 have hall:∀b∈(pick fps (others fps.length cs)++fps').flatten,b∈fps.flatten∨w.heap.size≤b:=fun b hb=>by
  rw[List.flatten_append]at hb
  rcases List.mem_append.1 hb with hb|hb
  ·exact .inl (pick_flat_sub hb)
  ·exact(h3 b hb).1.imp pick_flat_sub id
 refine⟨fps',fun b hb=>(h3 b hb).1,hA,⟨fun x hx=>?_,s.own.nodup,fun x hx=>?_,s.own.apart⟩,fun f hf'=>?_,s.may,?_⟩
 ·refine(hf.block _ (s.own.own.lt hx) fun hm=>?_).trans (s.own.own x hx)
  exact H.disj _ (pick_flat_sub hm) (List.mem_map.2 ⟨x,hx,rfl⟩)
 ·exact(hf.block _ (s.own.ro.lt hx) fun hm=>H.apart x hx (pick_flat_sub hm)).trans (s.own.ro x hx)
 ·refine(s.fr f hf').trans (K:=f.1) hf (fun x hx=>hx) fun x hx=>?_
  rcases H.may f hf' x (pick_flat_sub hx)with h1|h1
  ·exact .inl h1
  ·exact .inr h1
 ·refine⟨?_,?_,fun b hb hm=>?_,fun x hx hm=>?_,fun f hf' b hb=>?_,fun b hb=>?_,H.own,fun b hb=>?_,fun b hb=>H.top b (Nat.le_trans hf.size hb),fun x hx=>?_⟩
  ·refine Chs.app ?_ ?_
   ·have hl:Y.C.length=fps.length:=H.chs.len
    rw[hl]
    exact(H.chs.pick _).mono (fun b hb=>hf.block b (H.lt b (pick_flat_sub hb)) (hrest b hb)) hOld
   ·exact hC.mono (fun _ _=>rfl) fun b hb _=>⟨hS b hb,rfl⟩
  ·rw[List.flatten_append,List.nodup_append]
   refine⟨pick_flat_nodup H.nodup (others_nodup _ _),hn,fun x hx y hy hxy=>?_⟩
   subst hxy
   exact hrest x hx (hnew x hy (H.lt x (pick_flat_sub hx)))
  ·rcases hall b hb with h1|h1
   ·exact H.disj b h1 hm
   ·obtain⟨x,hx,rfl⟩:=List.mem_map.1 hm
    have:=s.own.own.lt hx
    omega
  ·rcases hall _ hm with h1|h1
   ·exact H.apart x hx h1
   ·have:=s.own.ro.lt hx
    omega
  ·rcases hall b hb with h1|h1
   ·exact H.may f hf' b h1
   ·exact .inr (Nat.le_trans (s.fr f hf').size h1)
  ·rw[List.flatten_append]at hb
   rcases List.mem_append.1 hb with hb|hb
   ·exact Nat.lt_of_lt_of_le (H.lt b (pick_flat_sub hb)) hf.size
   ·exact(h3 b hb).2
  ·rcases hall b hb with h1|h1
   ·exact H.hid b h1
   ·exact H.top b h1
  ·rcases List.mem_append.1 hx with hx|hx
   ·exact(H.g x hx).mono hOld
   ·exact(hG x hx).mono fun b hb _=>⟨hS b hb,rfl⟩
theorem JR_call0 {id L0 i:Nat} {ck:Bool} {Wp:List (Nat×List Nat)} {rest:List (Nat×Bool)} (hs:List Hn) (cs:List Nat) (fid:FuncId) (args:Array Value) (dst:Option Tmp)
  (he:chkC (callOf P n (rgOf f id) h r E i hs)=(some (fid,args,dst),trivC (callOf P n (rgOf f id) h r E i hs),0)) (hok:(!ck||(Wp.lookup i).isSome||cs.isEmpty)=true) (hcs:cs.Nodup)
  (C:∀w S M,Pre w S M (pick Y.C cs)→AllG w S Y.G→(cs=[]→M=[])→Calls P fid args w fun e w'=>∃v C' G',Ret M w S w' e v C' G' ∧
   JR P f R n (rgOf f id) L0 ck rest (Wp.filter (·.1 != i)) k (E.put dst (.val v)) h r F ⟨Y.S,restC Y.C cs++C',Y.G++G'⟩) :
  JR P f R n (rgOf f id) L0 ck ((i,false)::rest) Wp k E h r F Y:=by
 obtain⟨p,he,hp⟩:=chkC_sound he
 intro B Hd fps a w s hH hR hN hW
 simp only[PW]
 refine callOf_sound he hp s ((C w (Sd Y h fps) (pick fps cs).flatten (Pre.of s hcs) s.gh.g (fun h=>by rw[h];simp[pick])).mono fun e w' hh=>?_)
 obtain⟨v,C',G',hRet,H⟩:=hh
 have hf:=hRet.fr
 refine⟨v,hRet.ret,fun E' hE a' hA=>⟨fun hck b hb hl=>?_,?_⟩⟩
 ·refine hf.block b hb fun hm=>?_
  have hm2:=pick_flat_sub hm
  cases hWl:Wp.lookup i with
  | none=>
   rw[hWl,hck]at hok
   simp at hok
   subst hok
   simp[pick]at hm
  | some ps=>
   rw[lookup_idsW,hWl]at hl
   obtain⟨h1,h2⟩:=hl _ rfl
   rcases hH b hm2 with h3|h3
   ·exact h2 (List.mem_append_right _ h3)
   ·omega
 ·subst hE
  rw[filter_idsW]
  obtain⟨fps',h3,s'⟩:=s.called (cs:=cs) hA hRet
  refine H B Hd _ a' w' s' (fun b hb=>?_) ⟨hR.old,hR.ro,hR.len,Nat.le_trans hR.size hf.size⟩ hN (okWp_filter hW)
  rw[List.flatten_append]at hb
  rcases List.mem_append.1 hb with hb|hb
  ·exact hH b (pick_flat_sub hb)
  ·rcases h3 b hb with h1|h1
   ·exact hH b (pick_flat_sub h1)
   ·exact .inr (Nat.le_trans hR.size h1)
theorem JR_call {S0:Nat→Prop} {C0:List Chunk} {G0:List (Value×D)} {id L0 i:Nat} {ck:Bool} {Wp:List (Nat×List Nat)} {rest:List (Nat×Bool)} (hs:List Hn) (cs:List Nat) (fid:FuncId) (args:Array Value) (dst:Option Tmp)
  (he:chkC (callOf P n (rgOf f id) h r E i hs)=(some (fid,args,dst),trivC (callOf P n (rgOf f id) h r E i hs),0)) (hok:(!ck||(Wp.lookup i).isSome||cs.isEmpty)=true) (hcs:cs.Nodup)
  (C:∀w S M,Pre w S M (pick C0 cs)→AllG w S G0→(cs=[]→M=[])→Calls P fid args w fun e w'=>∃v C' G',Ret M w S w' e v C' G' ∧
   JR P f R n (rgOf f id) L0 ck rest (Wp.filter (·.1 != i)) k (E.put dst (.val v)) h r F ⟨S0,restC C0 cs++C',G0++G'⟩) :
  JR P f R n (rgOf f id) L0 ck ((i,false)::rest) Wp k E h r F ⟨S0,C0,G0⟩:=JR_call0 (Y:=⟨S0,C0,G0⟩) hs cs fid args dst he hok hcs C
theorem pick_all {α:Type}:∀l:List α,pick l (List.range l.length)=l
 | []=>rfl
 | x::l=>by
  have ih:=pick_all l
  rw[List.length_cons,List.range_succ_eq_map,pick_cons]
  unfold pick at ih ⊢
  rw[List.filterMap_map]
  have h2:((fun i=>(x::l)[i]?)∘Nat.succ)=fun i=>l[i]?:=by
   funext i
   simp
  rw[h2,ih]
  simp
theorem JR_callp0 {id L0 i:Nat} {ck:Bool} {Wp:List (Nat×List Nat)} {rest:List (Nat×Bool)} (hs:List Hn) (fid:FuncId) (args:Array Value) (dst:Option Tmp)
  (he:chkC (callOf P n (rgOf f id) h r E i hs)=(some (fid,args,dst),trivC (callOf P n (rgOf f id) h r E i hs),0))
  (C:∀w S,AllG w S Y.G→Calls P fid args w fun e w'=>∃v C' G',Ret [] w S w' e v C' G' ∧
   JR P f R n (rgOf f id) L0 ck rest (Wp.filter (·.1 != i)) k (E.put dst (.val v)) h r F ⟨Y.S,Y.C++C',Y.G++G'⟩) :
  JR P f R n (rgOf f id) L0 ck ((i,false)::rest) Wp k E h r F Y:=by
 refine JR_call hs [] fid args dst he (by simp) (by simp) fun w S M _ hG hM=>?_
 obtain rfl:=hM rfl
 refine(C w S hG).mono fun e w' ⟨v,C',G',hR,H⟩=>⟨v,C',G',hR,?_⟩
 have:pick Y.C (others Y.C.length [])=Y.C:=by
  have h1:others Y.C.length []=List.range Y.C.length:=by simp[others]
  rw[h1,pick_all]
 unfold restC
 rw[this]
 exact H
theorem JR_callp {S0:Nat→Prop} {C0:List Chunk} {G0:List (Value×D)} {id L0 i:Nat} {ck:Bool} {Wp:List (Nat×List Nat)} {rest:List (Nat×Bool)} (hs:List Hn) (fid:FuncId) (args:Array Value) (dst:Option Tmp)
  (he:chkC (callOf P n (rgOf f id) h r E i hs)=(some (fid,args,dst),trivC (callOf P n (rgOf f id) h r E i hs),0))
  (C:∀w S,AllG w S G0→Calls P fid args w fun e w'=>∃v C' G',Ret [] w S w' e v C' G' ∧
   JR P f R n (rgOf f id) L0 ck rest (Wp.filter (·.1 != i)) k (E.put dst (.val v)) h r F ⟨S0,C0++C',G0++G'⟩) :
  JR P f R n (rgOf f id) L0 ck ((i,false)::rest) Wp k E h r F ⟨S0,C0,G0⟩:=JR_callp0 (Y:=⟨S0,C0,G0⟩) hs fid args dst he C
def envOf:Nat→List Value→Env
 | _,[]=>[]
 | i,v::vs=>(i,.val v)::envOf (i+1) vs
theorem envOf_look:∀(vs:List Value) (i t:Nat) (ev:EV),(envOf i vs).lookup t=some ev→∃j v,t=i+j∧vs[j]?=some v∧ev=.val v
 | [],i,t,ev,h=>by simp[envOf]at h
 | v::vs,i,t,ev,h=>by
  simp only[envOf]at h
  by_cases ht:t=i
  ·subst ht
   rw[lookup_cons_self]at h
   exact⟨0,v,rfl,rfl,(Option.some.inj h).symm⟩
  ·rw[lookup_cons_ne _ _ ht]at h
   obtain⟨j,u,h1,h2,h3⟩:=envOf_look vs (i+1) t ev h
   exact⟨j+1,u,by omega,by simpa using h2,h3⟩
def retR (P:Program) (fn:Func) (Rr:Ending→World→Prop) (a:Act) (w:World):Prop:=a.defers=[]∧∃v,(results fn a.tmps).run P w=.ok v w∧Rr (.returned v) w
theorem calls_JX {n:Nat} {fid:FuncId} {fn:Func} {sk:Sk} {args:List Value} {w:World} {S:Nat→Prop} {M:List Nat} {C:List Chunk} {G:List (Value×D)} {Rr:Ending→World→Prop} (hf:P.funcs[fid]?=some fn) (hb:fn.body=some (sk.code fn)) (hn:fn.ntmps=n) (hle:Nat.ble args.length n=true)
  (hpre:Pre w S M C) (hG:AllG w S G) (pn:Pan fn) (hpn:∀c a w,pn.pan c a w→a.defers=[]∧Rr (.panicked c) w) (H:J P fn (retR P fn Rr) n [.c sk] (envOf 0 args) [] [] [(M,w)] ⟨newS S M w,C,G⟩):Calls P fid args.toArray w Rr:=by
 subst hn
 have hle:=Nat.le_of_ble_eq_true hle
 obtain⟨fps,hC,rfl,hnd,hM⟩:=hpre
 have hS:∀b,S b→Sd ⟨newS S fps.flatten w,C,G⟩ [] fps b:=fun b hb=>⟨.inl hb,by simp,fun hm=>(hM b hm).2 hb⟩
 refine calls_of_wp hf hb ?_
 have hA:Ag fn.ntmps (envOf 0 args) { tmps:=args.toArray++Array.replicate (fn.ntmps - args.toArray.size) undef,defers:=[] }:=by
  refine⟨rfl,by simp;omega,fun t ev he=>?_⟩
  obtain⟨j,v,h1,h2,h3⟩:=envOf_look args 0 t ev he
  obtain rfl:t=j:=by omega
  subst h3
  have hj:t<args.length:=(List.getElem?_eq_some_iff.1 h2).1
  simp[Array.getElem?_append,hj,EV.now]
  simpa [List.getElem?_eq_getElem hj]using h2
 have:=H _ w ⟨fps,hA,own_nil (by simp),by simp[Fr.refl],by simp,⟨hC.mono (fun _ _=>rfl) fun b hb _=>⟨hS b hb,rfl⟩,hnd,by simp,by simp,by simp only[List.mem_singleton];rintro f rfl b hb;exact .inl hb,fun b hb=>(hM b hb).1,by simp,fun b hb=>.inr (.inl hb),fun b hb=>.inr (.inr hb),fun x hx=>(hG x hx).mono fun b hb _=>⟨hS b hb,rfl⟩⟩⟩
 simp only[wpK]at this
 refine wp_mono this fun e a w' hq=>?_
 cases e with
 | normal=>exact hq
 | ret=>exact hq
 | exit id=>exact absurd hq (by simp[wpK])
 | goto l=>exact absurd hq (by simp[wpK])
 | panic c=>exact hpn c a w' hq
 | outgrown=>exact absurd hq (by simp[wpK])
theorem calls_J {n:Nat} {fid:FuncId} {fn:Func} {sk:Sk} {args:List Value} {w:World} {S:Nat→Prop} {M:List Nat} {C:List Chunk} {G:List (Value×D)} {Rr:Ending→World→Prop} (hf:P.funcs[fid]?=some fn) (hb:fn.body=some (sk.code fn)) (hn:fn.ntmps=n) (hle:Nat.ble args.length n=true)
  (hpre:Pre w S M C) (hG:AllG w S G) (H:J P fn (retR P fn Rr) n [.c sk] (envOf 0 args) [] [] [(M,w)] ⟨newS S M w,C,G⟩):Calls P fid args.toArray w Rr:=
 calls_JX hf hb hn hle hpre hG inferInstance (fun _ _ _ h=>(show False from h).elim) H
theorem St.ret {F:List (List Nat×World)} {C C':List Chunk} {G G':List (Value×D)} {S:Nat→Prop} {M:List Nat} {w0:World} {a:Act} {w:World} {v:Value} (s:St n E h r F ⟨newS S M w0,C,G⟩ a w) (hF:(M,w0)∈F) (cs gs:List Nat)
  (hC:pick C cs=C') (hG:pick G gs=G') (hcs:cs.Nodup:=by decide):Ret M w0 S w (.returned v) v C' G':=by
 obtain⟨fps,s⟩:=s
 subst hC hG
 have hS:∀b,Sd ⟨newS S M w0,C,G⟩ h fps b→retS S M w0 (pick fps cs) b:=fun b hb=>⟨hb.1,fun hm=>hb.2.2 (pick_flat_sub hm)⟩
 refine⟨rfl,s.fr _ hF,pick fps cs,(s.gh.chs.pick cs).mono (fun _ _=>rfl) fun b hb _=>⟨hS b hb,rfl⟩,pick_flat_nodup s.gh.nodup hcs,fun b hb=>⟨?_,s.gh.lt b (pick_flat_sub hb)⟩,fun x hx=>?_⟩
 ·exact s.gh.may _ hF b (pick_flat_sub hb)
 ·exact(s.gh.g x (pick_mem rfl x hx)).mono fun b hb _=>⟨hS b hb,rfl⟩
def rvS (E:Env):ResultVar→Sem Value
 | .tmp t=>pure (rho E (.tmp t))
 | .cell a t=>do loadVar t (← asAddr (rho E (.tmp a)))
def rvOk (E:Env):ResultVar→Bool
 | .tmp t=>match E.lookup t with
  | some (.val _)=>true
  | _=>false
 | .cell t _=>match E.lookup t with
  | some (.val _)=>true
  | _=>false
def retL (P:Program) (E:Env) (h r:List (Nat×Obj)):List ResultVar→List (List Hn)→Option (List Value×List Ob)
 | [],_=>some ([],[])
 | rv::rvs,hs::hss=>if rvOk E rv then match exr P h r (rvS E rv) hs with
  | some (v,p)=>match retL P E h r rvs hss with
   | some (vs,q)=>some (v::vs,p++q)
   | none=>none
  | none=>none
  else none
 | _::_,[]=>none
def retV (P:Program) (fn:Func) (E:Env) (h r:List (Nat×Obj)) (hss:List (List Hn)):Option (Value×List Ob):=
 match retL P E h r fn.results.toList hss with
 | some ([v],p)=>some (v,p)
 | some (vs,p)=>some (.tuple vs.toArray,p)
 | none=>none
theorem retL_sound {a:Act} {w:World} (s:St n E h r F Y a w):∀(rvs:List ResultVar) (hss:List (List Hn)) (vs:List Value) (p:List Ob),retL P E h r rvs hss=some (vs,p)→All p →
  (rvs.mapM (fun
   | .tmp t=>pure (a.tmps.getD t undef)
   | .cell ad t=>do loadVar t (← asAddr (a.tmps.getD ad undef)):ResultVar→Sem Value)).run P w=.ok vs w
 | [],_,vs,p,he,_=>by
  simp only[retL,Option.some.injEq,Prod.mk.injEq]at he
  rw[←he.1]
  simp
 | rv::rvs,[],vs,p,he,_=>by simp[retL]at he
 | rv::rvs,hs::hss,vs,p,he,hp=>by
  simp only[retL]at he
  split at he
  case isFalse=>cases he
  rename_i hok
  split at he
  case h_2=>cases he
  rename_i v p1 h1
  split at he
  case h_2=>cases he
  rename_i vs' q h2
  simp only[Option.some.injEq,Prod.mk.injEq]at he
  obtain⟨rfl,rfl⟩:=he
  obtain⟨hp1,hp2⟩:=All_append hp
  have ih:=retL_sound s rvs hss vs' q h2 hp2
  have hv:=exr_sound _ hs _ _ h1 hp1 w fun y hy=>by
   obtain⟨hn,_,hg⟩:=List.mem_filterMap.1 hy
   exact s.own.get hg
  have hsame:∀t:Nat,(match E.lookup t with|some (.val _)=>true|_=>false)=true→a.tmps.getD t undef=rho E (.tmp t):=by
   intro t ht
   split at ht
   ·rename_i u hu
    have:=s.ag.look t _ hu
    simp[rho,hu,EV.raw,Array.getD_eq_getD_getElem?,this,EV.now]
   ·cases ht
  rw[List.mapM_cons,Sem.run_bind]
  cases rv with
  | tmp t=>
   have e1:=hsame t hok
   simp only[rvS]at hv
   simp only[e1,hv,Result.andThen_ok,Sem.run_bind,ih,Sem.run_pure]
  | cell ad t=>
   have e1:=hsame ad hok
   simp only[rvS]at hv
   simp only[e1,hv,Result.andThen_ok,Sem.run_bind,ih,Sem.run_pure]
omit [Pan f] in
theorem retV_sound {n:Nat} {Rr:Ending→World→Prop} {hss:List (List Hn)} {v:Value} {p:List Ob} (he:retV P f E h r hss=some (v,p)) (hp:All p) {a:Act} {w:World} (s:St n E h r F Y a w) (hR:Rr (.returned v) w):retR P f Rr a w:=by
 refine⟨s.ag.defers,v,?_,hR⟩
 unfold retV at he
 have key:∀vs q,retL P E h r f.results.toList hss=some (vs,q)→All q→(if hh:vs.toArray.size=1 then vs.toArray[0]else Value.tuple vs.toArray)=v→(results f a.tmps).run P w=.ok v w:=fun vs q h1 h2 h3=>by
  have:=retL_sound s f.results.toList hss vs q h1 h2
  unfold results
  rw[Array.mapM_eq_mapM_toList]
  rw[Sem.run_bind,←bind_pure_comp,Sem.run_bind]
  refine Eq.trans (congrArg (fun x:Result (List Value)=>(x.andThen fun a w'=>Sem.run P (pure a.toArray) w').andThen fun a w'=>Sem.run P (pure (if h:a.size=1 then a[0]else Value.tuple a)) w') this) ?_
  simp only[Result.andThen_ok,Sem.run_pure]
  rw[h3]
 split at he
 ·rename_i u q h1
  simp only[Option.some.injEq,Prod.mk.injEq]at he
  obtain⟨rfl,rfl⟩:=he
  exact key [u] q h1 hp (by simp)
 ·rename_i vs q hne h1
  simp only[Option.some.injEq,Prod.mk.injEq]at he
  obtain⟨rfl,rfl⟩:=he
  refine key vs q h1 hp ?_
  rw[dif_neg]
  intro hl
  obtain⟨u,hu⟩:=List.length_eq_one_iff.1 (show vs.length=1 by simpa using hl)
  exact hne u hu
 ·cases he
def chkV (x:Option (Value×List Ob)):Option Value×(List Nat×List Bool×List (Option Nat))×Nat:=match x with
 | some y=>(some y.1,obL y.2,(obP y.2).length)
 | none=>(none,([],[],[]),0)
def trivV (x:Option (Value×List Ob)):List Nat×List Bool×List (Option Nat):=match x with
 | some y=>obR y.2
 | none=>([],[],[])
theorem chkV_sound {x:Option (Value×List Ob)} {v:Value} (h:chkV x=(some v,trivV x,0)):∃p,x=some (v,p)∧All p:=by
 cases x with
 | none=>simp[chkV]at h
 | some y=>
  obtain⟨a,p⟩:=y
  simp only[chkV,trivV,Prod.mk.injEq,Option.some.injEq]at h
  obtain⟨rfl,h2,h3⟩:=h
  refine⟨p,rfl,All_of p h2 ?_⟩
  rw[List.eq_nil_of_length_eq_zero h3]
  trivial
theorem J_return {n:Nat} {Rr:Ending→World→Prop} (hss:List (List Hn)) (v:Value) (he:chkV (retV P f E h r hss)=(some v,trivV (retV P f E h r hss),0)) (H:∀a w,St n E h r F Y a w→Rr (.returned v) w) :
  J P f (retR P f Rr) n (.c .ret::k) E h r F Y:=by
 obtain⟨p,he,hp⟩:=chkV_sound he
 exact J_ret fun a w s=>retV_sound he hp s (H a w s)
theorem J_condT {c:Operand} {x y:Sk} (t:Bool) (hc:opsOk E none [c]=some []) (hv:rho E c=.bool t) (h0:t=true) (ht:J P f R n (.c x::k) E h r F Y):J P f R n (.c (.cond c x y)::k) E h r F Y:=
 J_cond hc hv (fun _=>ht) fun h=>by rw[h0]at h;cases h
theorem J_condF {c:Operand} {x y:Sk} (t:Bool) (hc:opsOk E none [c]=some []) (hv:rho E c=.bool t) (h0:t=false) (ht:J P f R n (.c y::k) E h r F Y):J P f R n (.c (.cond c x y)::k) E h r F Y:=
 J_cond hc hv (fun h=>by rw[h0]at h;cases h) fun _=>ht
theorem wrap_i64 {x:Int} (h1:-9223372036854775808≤x) (h2:x≤9223372036854775807):IntKind.i64.wrap x=x:=by
 rw[IntKind.wrap_i64]
 omega
end rules
end Go.Sx
end
section
namespace Go.Sx
open Go
abbrev nI (x:Int):Value:=.int .i64 x
abbrev zI (i:Nat) (x:Int):Nat×EV:=(i,.val (.int .i64 x))
abbrev zS (i:Nat) (a:Option Addr) (n c:Nat):Nat×EV:=(i,.val (.slice a n c))
abbrev zP (i b:Nat):Nat×EV:=(i,.val (.pointer (some ⟨b,0,none⟩)))
abbrev zB (i:Nat) (b:Bool):Nat×EV:=(i,.val (.bool b))
abbrev zV (i:Nat) (v:Value):Nat×EV:=(i,.val v)
abbrev zR (i:Nat):Pl:=.rd i [] 0 0
abbrev sA (b o:Nat):Option Addr:=some ⟨b,o,none⟩
section
variable {P:Program} {f:Func} [Pan f] {R:Act→World→Prop} {n:Nat} [Dfr n] {k:List Itm} {E:Env} {h r:List (Nat×Obj)} {F:List (List Nat×World)} {Y:Ghost}
theorem cF {c:Operand} {x y:Sk} (ht:J P f R n (.c y::k) E h r F Y) (hc:opsOk E none [c]=some []:=by kernel_rfl) (hv:rho E c=.bool false:=by kernel_rfl):J P f R n (.c (.cond c x y)::k) E h r F Y:=J_cond_f hc hv ht
theorem cTt {c:Operand} {x y:Sk} (ht:J P f R n (.c x::k) E h r F Y) (hc:opsOk E none [c]=some []:=by kernel_rfl) (hv:rho E c=.bool true:=by kernel_rfl):J P f R n (.c (.cond c x y)::k) E h r F Y:=J_cond_t hc hv ht
theorem cC {c:Operand} {x y:Sk} {t:Bool} (ht:t=true→J P f R n (.c x::k) E h r F Y) (hf:t=false→J P f R n (.c y::k) E h r F Y) (hc:opsOk E none [c]=some []:=by kernel_rfl) (hv:rho E c=.bool t:=by kernel_rfl):J P f R n (.c (.cond c x y)::k) E h r F Y:=J_cond hc hv ht hf
end
end Go.Sx
end
section
namespace Go.Sx
open Go
structure RowsAt (w:World) (S:Nat→Prop) (xs:List Value) (k:Nat) (rows:List (List D)):Prop where
 len:∀row∈rows,row.length=k
 rep:∀(i j:Nat) (row:List D) (d:D),rows[i]?=some row→row[j]?=some d→∃u,xs[i*k+j]?=some u∧Rep w S u d
theorem RowsAt.mono {w w':World} {S S':Nat→Prop} {xs:List Value} {k:Nat} {rows:List (List D)} (h:RowsAt w S xs k rows) (hS:∀b,S b→b<w.heap.size→S' b∧w'.heap[b]?=w.heap[b]?):RowsAt w' S' xs k rows:=
 ⟨h.len,fun i j row d h1 h2=>by
  obtain⟨u,h3,h4⟩:=h.rep i j row d h1 h2
  exact⟨u,h3,h4.mono hS⟩⟩
theorem idx_lt {i j k n:Nat} (hi:i<n) (hj:j<k):i*k+j<n*k:=by
 calc i*k+j<i*k+k:=by omega
  _=(i+1)*k:=by rw[Nat.add_mul,Nat.one_mul]
  _≤n*k:=Nat.mul_le_mul_right k hi
theorem RowsAt.app {w:World} {S:Nat→Prop} {xs ys:List Value} {k:Nat} {rows rows2:List (List D)} (h:RowsAt w S xs k rows) (hl:xs.length=rows.length*k) (h2:RowsAt w S ys k rows2):RowsAt w S (xs++ys) k (rows++rows2):=by
 refine⟨fun row hr=>?_,fun i j row d hi hj=>?_⟩
 ·rcases List.mem_append.1 hr with hr|hr
  ·exact h.len row hr
  ·exact h2.len row hr
 ·have hjr:=(List.getElem?_eq_some_iff.1 hj).1
  rcases Nat.lt_or_ge i rows.length with hlt|hge
  ·rw[List.getElem?_append_left hlt]at hi
   obtain⟨u,hu,hr⟩:=h.rep i j row d hi hj
   have hjk:j<k:=by rw[←h.len row (List.mem_of_getElem? hi)];exact hjr
   refine⟨u,?_,hr⟩
   rw[List.getElem?_append_left (by rw[hl];exact idx_lt hlt hjk)]
   exact hu
  ·rw[List.getElem?_append_right hge]at hi
   obtain⟨u,hu,hr⟩:=h2.rep _ j row d hi hj
   refine⟨u,?_,hr⟩
   have e:i*k+j=rows.length*k+((i - rows.length)*k+j):=by
    rw[Nat.sub_mul]
    have:=Nat.mul_le_mul_right k hge
    omega
   rw[e,List.getElem?_append_right (by rw[hl];omega),hl,Nat.add_sub_cancel_left]
   exact hu
theorem RowsAt.nil (w:World) (S:Nat→Prop) (xs:List Value) (k:Nat):RowsAt w S xs k []:=⟨by simp,by simp⟩
theorem RowsAt.one {w:World} {S:Nat→Prop} {xs:List Value} {k:Nat} {rows:List (List D)} (h:RowsAt w S xs k rows) (hl:xs.length=rows.length*k):∀u∈xs,u.oneCell'=true:=by
 intro u hu
 obtain⟨q,hq⟩:=List.getElem?_of_mem hu
 have hlt:q<rows.length*k:=by rw[←hl];exact(List.getElem?_eq_some_iff.1 hq).1
 have hk:0<k:=by
  rcases Nat.eq_zero_or_pos k with h0|h0
  ·subst h0;simp at hlt
  ·exact h0
 have h1:q / k<rows.length:=Nat.div_lt_of_lt_mul (by rw[Nat.mul_comm];exact hlt)
 have h2:q % k<(rows[q / k]'h1).length:=by rw[h.len _ (List.getElem_mem h1)];exact Nat.mod_lt _ hk
 obtain⟨u',h3,h4⟩:=h.rep (q / k) (q % k) _ _ (List.getElem?_eq_getElem h1) (List.getElem?_eq_getElem h2)
 rw[Nat.mul_comm,Nat.div_add_mod,hq]at h3
 cases h3
 exact h4.one
def cObj (b:Nat) (o:Obj):Chunk where
 P w _ fp:=fp=[b]∧w.heap[b]?=some o
 mono:=by
  intro w w' S S' fp h hb _
  exact⟨h.1,(hb b (by rw[h.1];simp)).trans h.2⟩
def cAcc (v:Value) (e k:Nat) (rows:List (List D)):Chunk where
 P w S fp:=0<k∧((rows=[]∧v=.slice none 0 0∧fp=[])∨∃g cap cur xs,v=.slice (some ⟨g,0,none⟩) rows.length cap∧fp=[g]∧w.heap[g]?=some (.cells cur e (0,0))∧Row cur cap rows.length k xs∧RowsAt w S xs k rows)
 mono:=fun⟨hk,h⟩ hb hS=>⟨hk,by
  rcases h with h|⟨g,cap,cur,xs,h1,h2,h3,h4,h5⟩
  ·exact .inl h
  ·exact .inr ⟨g,cap,cur,xs,h1,h2,(hb _ (by rw[h2];simp)).trans h3,h4,h5.mono hS⟩⟩
def cPure (p:Prop):Chunk where
 P _ _ fp:=fp=[]∧p
 mono:=fun h _ _=>h
def cStar (cs:List Chunk):Chunk where
 P w S fp:=∃fps:List (List Nat),fp=fps.flatten∧Chs w S cs fps
 mono:=by
  intro w w' S S' fp h hb hS
  obtain⟨fps,h1,h2⟩:=h
  exact⟨fps,h1,h2.mono (fun b hm=>hb b (by rw[h1];exact hm)) hS⟩
def cExi {α:Type} (f:α→Chunk):Chunk where
 P w S fp:=∃x,(f x).P w S fp
 mono:=fun⟨x,h⟩ hb hS=>⟨x,(f x).mono h hb hS⟩
def Chunk.eqv (c c':Chunk):Prop:=∀w S fp,c.P w S fp→c'.P w S fp
theorem set_same {α:Type} {l:List α} {i:Nat} {x:α} (h:l[i]?=some x):l.set i x=l:=by
 obtain⟨hi,he⟩:=List.getElem?_eq_some_iff.1 h
 subst he
 exact List.set_getElem_self hi
def Stp {α:Type} (h r:List (Nat×Obj)) (F:List (List Nat×World)) (Y:Ghost) (p:α→Prop) (Y':α→Ghost):Prop:=
 ∀w fps,Own h r w→GhF Y h r F w fps→∃x fps',p x∧(∀b∈fps'.flatten,b∈fps.flatten)∧GhF (Y' x) h r F w fps'
section steps
variable {P:Program} {f:Func} [Pan f] {R:Act→World→Prop} {n:Nat} [Dfr n] {kk:List Itm} {E:Env} {h r:List (Nat×Obj)} {F:List (List Nat×World)} {Y Y2:Ghost} {α:Type} {p:α→Prop} {Y':α→Ghost}
theorem J_stpx (hs:Stp h r F Y p Y') (H:∀x,p x→J P f R n kk E h r F (Y' x)):J P f R n kk E h r F Y:=fun a w ⟨fps,s⟩=>by
 obtain⟨x,fps',hp,_,hg⟩:=hs w fps s.own s.gh
 exact H x hp a w ⟨fps',s.ag,s.own,s.fr,s.may,hg⟩
theorem JR_stpx {ops:Array Oper} {L0:Nat} {ck:Bool} {plan:List (Nat×Bool)} {Wp:List (Nat×List Nat)} (hs:Stp h r F Y p Y') (H:∀x,p x→JR P f R n ops L0 ck plan Wp kk E h r F (Y' x)):JR P f R n ops L0 ck plan Wp kk E h r F Y:=fun B Hd fps a w s hH hR hN hW=>by
 obtain⟨x,fps',hp,hsub,hg⟩:=hs w fps s.own s.gh
 exact H x hp B Hd fps' a w ⟨s.ag,s.own,s.fr,s.may,hg⟩ (fun b hb=>hH b (hsub b hb)) hR hN hW
theorem J_stp (hs:Stp h r F Y (fun _:Unit=>True) fun _=>Y2) (H:J P f R n kk E h r F Y2):J P f R n kk E h r F Y:=J_stpx hs fun _ _=>H
theorem JR_stp {ops:Array Oper} {L0:Nat} {ck:Bool} {plan:List (Nat×Bool)} {Wp:List (Nat×List Nat)} (hs:Stp h r F Y (fun _:Unit=>True) fun _=>Y2) (H:JR P f R n ops L0 ck plan Wp kk E h r F Y2):JR P f R n ops L0 ck plan Wp kk E h r F Y:=JR_stpx hs fun _ _=>H
theorem St.stp {a:Act} {w:World} (s:St n E h r F Y a w) (hs:Stp h r F Y (fun _:Unit=>True) fun _=>Y2):St n E h r F Y2 a w:=by
 obtain⟨fps,s⟩:=s
 obtain⟨x,fps',hp,_,hg⟩:=hs w fps s.own s.gh
 exact⟨fps',s.ag,s.own,s.fr,s.may,hg⟩
theorem mem_erase_flat {fps:List (List Nat)} {i b:Nat} (h:b∈(fps.eraseIdx i).flatten):∃j x,j≠i∧fps[j]?=some x∧b∈x:=by
 obtain⟨x,hx,hb⟩:=List.mem_flatten.1 h
 obtain⟨j,hj,he⟩:=List.mem_eraseIdx_iff_getElem?.1 hx
 exact⟨j,x,hj,he,hb⟩
theorem erase_flat_sub {fps:List (List Nat)} {i b:Nat} (h:b∈(fps.eraseIdx i).flatten):b∈fps.flatten:=by
 obtain⟨j,x,_,h1,h2⟩:=mem_erase_flat h
 exact List.mem_flatten.2 ⟨x,List.mem_of_getElem? h1,h2⟩
theorem nodup_sublist_flat {fps fps':List (List Nat)} (h:fps.flatten.Nodup) (hs:fps'.Sublist fps):fps'.flatten.Nodup:=by
 induction hs with
 | slnil=>exact h
 | cons x _ ih=>exact ih (List.nodup_append.1 (by simpa using h)).2.1
 | cons_cons x hs ih=>
  rw[List.flatten_cons,List.nodup_append]at h ⊢
  refine⟨h.1,ih h.2.1,fun a ha b hb=>h.2.2 a ha b ?_⟩
  obtain⟨y,hy,hby⟩:=List.mem_flatten.1 hb
  exact List.mem_flatten.2 ⟨y,hs.subset hy,hby⟩
theorem GhF.less {w:World} {fps fps':List (List Nat)} {C':List Chunk} {G':List (Value×D)} (H:GhF Y h r F w fps) (hsub:∀b∈fps'.flatten,b∈fps.flatten) (hnd:fps'.flatten.Nodup)
  (hC:Chs w (Sd Y h fps') C' fps') (hG:∀x∈G',Rep w (Sd Y h fps') x.1 x.2):GhF ⟨Y.S,C',G'⟩ h r F w fps':=
 ⟨hC,hnd,fun b hb=>H.disj b (hsub b hb),fun x hx hm=>H.apart x hx (hsub _ hm),fun f hf b hb=>H.may f hf b (hsub b hb),fun b hb=>H.lt b (hsub b hb),H.own,fun b hb=>H.hid b (hsub b hb),H.top,hG⟩
theorem Sd_sub {fps fps':List (List Nat)} (hsub:∀b∈fps'.flatten,b∈fps.flatten) {b:Nat} (h':Sd Y h fps b):Sd Y h fps' b:=⟨h'.1,h'.2.1,fun hm=>h'.2.2 (hsub b hm)⟩
theorem stp_freeze0 (i:Nat) {v:Value} {e k:Nat} {rows:List (List D)} (hi:Y.C[i]?=some (cAcc v e k rows)):Stp h r F Y (fun _:Unit=>True) fun _=>⟨Y.S,Y.C.eraseIdx i,Y.G++[(v,.sl k rows)]⟩:=by
 intro w fps hO H
 obtain⟨fp,hfp,hk,hP⟩:=H.chs.at hi
 have hS:∀b,Sd Y h fps b→Sd Y h (fps.eraseIdx i) b:=fun b hb=>Sd_sub (fun b hb=>erase_flat_sub hb) hb
 refine⟨(),fps.eraseIdx i,trivial,fun b hb=>erase_flat_sub hb,H.less (fun b hb=>erase_flat_sub hb) (nodup_sublist_flat H.nodup (List.eraseIdx_sublist _ _)) (H.chs.erase.mono (fun _ _=>rfl) fun b hb _=>⟨hS b hb,rfl⟩) fun x hx=>?_⟩
 rcases List.mem_append.1 hx with hx|hx
 ·exact(H.g x hx).mono fun b hb _=>⟨hS b hb,rfl⟩
 ·rw[List.mem_singleton]at hx
  subst hx
  rcases hP with ⟨rfl,rfl,_⟩|⟨g,cap,cur,xs,rfl,rfl,hg,hrow,hR⟩
  ·exact .nil
  ·refine Rep.of_row hg ?_ hrow hk hR.len fun i j row d h1 h2=>?_
   ·have hm:g∈fps.flatten:=List.mem_flatten.2 ⟨[g],List.mem_of_getElem? hfp,by simp⟩
    refine⟨H.hid g hm,H.disj g hm,fun hm2=>?_⟩
    obtain⟨j,x,hj,hx,hgx⟩:=mem_erase_flat hm2
    exact hj (flat_at H.nodup hx hfp hgx (by simp))
   ·obtain⟨u,hu,hr⟩:=hR.rep i j row d h1 h2
    exact⟨u,hu,hr.mono fun b hb _=>⟨hS b hb,rfl⟩⟩
theorem stp_freeze {S0:Nat→Prop} {C0:List Chunk} {G0:List (Value×D)} (i:Nat) {v:Value} {e k:Nat} {rows:List (List D)} (hi:C0[i]?=some (cAcc v e k rows)):Stp h r F ⟨S0,C0,G0⟩ (fun _:Unit=>True) fun _=>⟨S0,C0.eraseIdx i,G0++[(v,.sl k rows)]⟩:=stp_freeze0 (Y:=⟨S0,C0,G0⟩) i hi
theorem stp_pick0 (cs gs:List Nat) {C':List Chunk} {G':List (Value×D)} (hC:pick Y.C cs=C') (hG:pick Y.G gs=G') (hcs:cs.Nodup:=by decide):Stp h r F Y (fun _:Unit=>True) fun _=>⟨Y.S,C',G'⟩:=by
 intro w fps hO H
 subst hC hG
 have hS:∀b,Sd Y h fps b→Sd Y h (pick fps cs) b:=fun b hb=>Sd_sub (fun b hb=>pick_flat_sub hb) hb
 exact⟨(),pick fps cs,trivial,fun b hb=>pick_flat_sub hb,H.less (fun b hb=>pick_flat_sub hb) (pick_flat_nodup H.nodup hcs) ((H.chs.pick cs).mono (fun _ _=>rfl) fun b hb _=>⟨hS b hb,rfl⟩) fun x hx=>(H.g x (pick_mem rfl x hx)).mono fun b hb _=>⟨hS b hb,rfl⟩⟩
theorem stp_pick {S0:Nat→Prop} {C0:List Chunk} {G0:List (Value×D)} (cs gs:List Nat) {C':List Chunk} {G':List (Value×D)} (hC:pick C0 cs=C') (hG:pick G0 gs=G') (hcs:cs.Nodup:=by decide):Stp h r F ⟨S0,C0,G0⟩ (fun _:Unit=>True) fun _=>⟨S0,C',G'⟩:=stp_pick0 (Y:=⟨S0,C0,G0⟩) cs gs hC hG hcs
theorem stp_add0 (c:Chunk) (hc:∀w S,c.P w S []):Stp h r F Y (fun _:Unit=>True) fun _=>⟨Y.S,Y.C++[c],Y.G⟩:=by
 intro w fps hO H
 have e:(fps++[[]]).flatten=fps.flatten:=by simp
 refine⟨(),fps++[[]],trivial,fun b hb=>by rwa[e]at hb,H.less (fun b hb=>by rwa[e]at hb) (by rw[e];exact H.nodup) ?_ fun x hx=>(H.g x hx).mono fun b hb _=>⟨Sd_sub (fun b hb=>by rwa[e]at hb) hb,rfl⟩⟩
 exact(H.chs.app (show Chs w (Sd Y h fps) [c] [[]] from⟨hc w _,trivial⟩)).mono (fun _ _=>rfl) fun b hb _=>⟨Sd_sub (fun b hb=>by rwa[e]at hb) hb,rfl⟩
theorem stp_add {S0:Nat→Prop} {C0:List Chunk} {G0:List (Value×D)} (c:Chunk) (hc:∀w S,c.P w S []):Stp h r F ⟨S0,C0,G0⟩ (fun _:Unit=>True) fun _=>⟨S0,C0++[c],G0⟩:=stp_add0 (Y:=⟨S0,C0,G0⟩) c hc
theorem stp_acc0 (e k:Nat) (hk:0<k:=by decide):Stp h r F Y (fun _:Unit=>True) fun _=>⟨Y.S,Y.C++[cAcc (.slice none 0 0) e k []],Y.G⟩:=stp_add _ fun _ _=>⟨hk,.inl ⟨rfl,rfl,rfl⟩⟩
theorem stp_acc {S0:Nat→Prop} {C0:List Chunk} {G0:List (Value×D)} (e k:Nat) (hk:0<k:=by decide):Stp h r F ⟨S0,C0,G0⟩ (fun _:Unit=>True) fun _=>⟨S0,C0++[cAcc (.slice none 0 0) e k []],G0⟩:=stp_acc0 (Y:=⟨S0,C0,G0⟩) e k hk
theorem stp_accm0 {β:Type} (enc:β→List D) (e k:Nat) (hk:0<k:=by decide):Stp h r F Y (fun _:Unit=>True) fun _=>⟨Y.S,Y.C++[cAcc (.slice none 0 0) e k (([]:List β).map enc)],Y.G⟩:=stp_acc e k hk
theorem stp_accm {S0:Nat→Prop} {C0:List Chunk} {G0:List (Value×D)} {β:Type} (enc:β→List D) (e k:Nat) (hk:0<k:=by decide):Stp h r F ⟨S0,C0,G0⟩ (fun _:Unit=>True) fun _=>⟨S0,C0++[cAcc (.slice none 0 0) e k (([]:List β).map enc)],G0⟩:=stp_accm0 (Y:=⟨S0,C0,G0⟩) enc e k hk
theorem stp_fact0 {v:Value} {d:D} (hf:∀w S,(∀x∈Y.G,Rep w S x.1 x.2)→Rep w S v d):Stp h r F Y (fun _:Unit=>True) fun _=>⟨Y.S,Y.C,Y.G++[(v,d)]⟩:=by
 intro w fps hO H
 refine⟨(),fps,trivial,fun _ hb=>hb,H.less (fun _ hb=>hb) H.nodup H.chs fun x hx=>?_⟩
 rcases List.mem_append.1 hx with hx|hx
 ·exact H.g x hx
 ·rw[List.mem_singleton]at hx
  subst hx
  exact hf w _ H.g
theorem stp_fact {S0:Nat→Prop} {C0:List Chunk} {G0:List (Value×D)} {v:Value} {d:D} (hf:∀w S,(∀x∈G0,Rep w S x.1 x.2)→Rep w S v d):Stp h r F ⟨S0,C0,G0⟩ (fun _:Unit=>True) fun _=>⟨S0,C0,G0++[(v,d)]⟩:=stp_fact0 (Y:=⟨S0,C0,G0⟩) hf
theorem stp_all {S0:Nat→Prop} {C0:List Chunk} {G0:List (Value×D)} (p:Nat) (qs:List Nat) {v:Value} {l l':List (Value×D)} (hp:G0[p]?=some (v,.all l)) (hl:pick l qs=l'):Stp h r F ⟨S0,C0,G0⟩ (fun _:Unit=>True) fun _=>⟨S0,C0,G0++l'⟩:=by
 intro w fps hO H
 refine⟨(),fps,trivial,fun _ hb=>hb,H.less (fun _ hb=>hb) H.nodup H.chs fun x hx=>?_⟩
 rcases List.mem_append.1 hx with hx|hx
 ·exact H.g x hx
 ·exact(H.g _ (List.mem_of_getElem? hp)).part x (pick_mem hl x hx)
theorem stp_know {p:Prop} (hp:∀w fps,GhF Y h r F w fps→p):Stp h r F Y (fun _:Unit=>p) fun _=>Y:=fun w fps _ H=>⟨(),fps,hp w fps H,fun _ hb=>hb,H⟩
theorem stp_conv0 (i:Nat) {c c':Chunk} (hi:Y.C[i]?=some c) (hc:c.eqv c'):Stp h r F Y (fun _:Unit=>True) fun _=>⟨Y.S,Y.C.set i c',Y.G⟩:=by
 intro w fps hO H
 obtain⟨fp,hfp,hP⟩:=H.chs.at hi
 have hs:=H.chs.set (hc _ _ _ hP) (i:=i)
 have e:fps.set i fp=fps:=set_same hfp
 rw[e]at hs
 exact⟨(),fps,trivial,fun _ hb=>hb,H.less (fun _ hb=>hb) H.nodup hs H.g⟩
theorem stp_conv {S0:Nat→Prop} {C0:List Chunk} {G0:List (Value×D)} (i:Nat) {c c':Chunk} (hi:C0[i]?=some c) (hc:c.eqv c'):Stp h r F ⟨S0,C0,G0⟩ (fun _:Unit=>True) fun _=>⟨S0,C0.set i c',G0⟩:=stp_conv0 (Y:=⟨S0,C0,G0⟩) i hi hc
theorem stp_exi0 (i:Nat) {β:Type} {g:β→Chunk} (hi:Y.C[i]?=some (cExi g)):Stp h r F Y (fun _:β=>True) fun x=>⟨Y.S,Y.C.set i (g x),Y.G⟩:=by
 intro w fps hO H
 obtain⟨fp,hfp,x,hP⟩:=H.chs.at hi
 have hs:=H.chs.set hP (i:=i)
 have e:fps.set i fp=fps:=set_same hfp
 rw[e]at hs
 exact⟨x,fps,trivial,fun _ hb=>hb,H.less (fun _ hb=>hb) H.nodup hs H.g⟩
theorem stp_exi {S0:Nat→Prop} {C0:List Chunk} {G0:List (Value×D)} (i:Nat) {β:Type} {g:β→Chunk} (hi:C0[i]?=some (cExi g)):Stp h r F ⟨S0,C0,G0⟩ (fun _:β=>True) fun x=>⟨S0,C0.set i (g x),G0⟩:=stp_exi0 (Y:=⟨S0,C0,G0⟩) i hi
theorem stp_pure0 (i:Nat) {p:Prop} (hi:Y.C[i]?=some (cPure p)):Stp h r F Y (fun _:Unit=>p) fun _=>⟨Y.S,Y.C.eraseIdx i,Y.G⟩:=by
 intro w fps hO H
 obtain⟨fp,hfp,_,hp⟩:=H.chs.at hi
 exact⟨(),fps.eraseIdx i,hp,fun b hb=>erase_flat_sub hb,H.less (fun b hb=>erase_flat_sub hb) (nodup_sublist_flat H.nodup (List.eraseIdx_sublist _ _)) (H.chs.erase.mono (fun _ _=>rfl) fun b hb _=>⟨Sd_sub (fun b hb=>erase_flat_sub hb) hb,rfl⟩) fun x hx=>(H.g x hx).mono fun b hb _=>⟨Sd_sub (fun b hb=>erase_flat_sub hb) hb,rfl⟩⟩
theorem stp_pure {S0:Nat→Prop} {C0:List Chunk} {G0:List (Value×D)} (i:Nat) {p:Prop} (hi:C0[i]?=some (cPure p)):Stp h r F ⟨S0,C0,G0⟩ (fun _:Unit=>p) fun _=>⟨S0,C0.eraseIdx i,G0⟩:=stp_pure0 (Y:=⟨S0,C0,G0⟩) i hi
theorem stp_star0 (i:Nat) {cs:List Chunk} (hi:Y.C[i]?=some (cStar cs)):Stp h r F Y (fun _:Unit=>True) fun _=>⟨Y.S,Y.C.eraseIdx i++cs,Y.G⟩:=by
 intro w fps hO H
 obtain⟨fp,hfp,fps2,rfl,hP⟩:=H.chs.at hi
 have hmem:∀b,b∈fps2.flatten→b∈fps.flatten:=fun b hb=>List.mem_flatten.2 ⟨_,List.mem_of_getElem? hfp,hb⟩
 have hsub:∀b,b∈(fps.eraseIdx i++fps2).flatten→b∈fps.flatten:=fun b hb=>by
  rw[List.flatten_append]at hb
  rcases List.mem_append.1 hb with hb|hb
  ·exact erase_flat_sub hb
  ·exact hmem b hb
 have hS:∀b,Sd Y h fps b→Sd Y h (fps.eraseIdx i++fps2) b:=fun b hb=>Sd_sub hsub hb
 have hnd:fps2.flatten.Nodup:=by
  obtain⟨l1,l2,rfl⟩:=List.append_of_mem (List.mem_of_getElem? hfp)
  have:=H.nodup
  rw[List.flatten_append,List.flatten_cons]at this
  exact(List.nodup_append.1 (List.nodup_append.1 this).2.1).1
 refine⟨(),fps.eraseIdx i++fps2,trivial,hsub,H.less hsub ?_ ((H.chs.erase.app hP).mono (fun _ _=>rfl) fun b hb _=>⟨hS b hb,rfl⟩) fun x hx=>(H.g x hx).mono fun b hb _=>⟨hS b hb,rfl⟩⟩
 rw[List.flatten_append,List.nodup_append]
 refine⟨nodup_sublist_flat H.nodup (List.eraseIdx_sublist _ _),hnd,fun a ha b hb hab=>?_⟩
 subst hab
 obtain⟨j,x,hj,hx,hax⟩:=mem_erase_flat ha
 exact hj (flat_at H.nodup hx hfp hax hb)
theorem stp_star {S0:Nat→Prop} {C0:List Chunk} {G0:List (Value×D)} (i:Nat) {cs:List Chunk} (hi:C0[i]?=some (cStar cs)):Stp h r F ⟨S0,C0,G0⟩ (fun _:Unit=>True) fun _=>⟨S0,C0.eraseIdx i++cs,G0⟩:=stp_star0 (Y:=⟨S0,C0,G0⟩) i hi
theorem acc_len {a:Option Addr} {m c e k:Nat} {rows:List (List D)} {w:World} {S:Nat→Prop} {fp:List Nat} (hP:(cAcc (.slice a m c) e k rows).P w S fp):m=rows.length:=by
 rcases hP.2 with ⟨rfl,h1,_⟩|⟨g,cap,cur,xs,h1,_⟩
 ·cases h1;rfl
 ·cases h1;rfl
theorem Rep.slen {w:World} {S:Nat→Prop} {a:Option Addr} {m c k:Nat} {rows:List (List D)} (h:Rep w S (.slice a m c) (.sl k rows)):m=rows.length:=by
 cases h <;> rfl
theorem stp_acclen0 (i:Nat) {a:Option Addr} {m c e k:Nat} {rows:List (List D)} (hi:Y.C[i]?=some (cAcc (.slice a m c) e k rows)):Stp h r F Y (fun _:Unit=>m=rows.length) fun _=>Y:=
 stp_know fun w fps H=>by
  obtain⟨fp,_,hP⟩:=H.chs.at hi
  exact acc_len hP
theorem stp_acclen {S0:Nat→Prop} {C0:List Chunk} {G0:List (Value×D)} (i:Nat) {a:Option Addr} {m c e k:Nat} {rows:List (List D)} (hi:C0[i]?=some (cAcc (.slice a m c) e k rows)):Stp h r F ⟨S0,C0,G0⟩ (fun _:Unit=>m=rows.length) fun _=>⟨S0,C0,G0⟩:=stp_acclen0 (Y:=⟨S0,C0,G0⟩) i hi
theorem stp_replen0 (i:Nat) {a:Option Addr} {m c k:Nat} {rows:List (List D)} (hi:Y.G[i]?=some (.slice a m c,.sl k rows)):Stp h r F Y (fun _:Unit=>m=rows.length) fun _=>Y:=
 stp_know fun w fps H=>(H.g _ (List.mem_of_getElem? hi)).slen
theorem stp_replen {S0:Nat→Prop} {C0:List Chunk} {G0:List (Value×D)} (i:Nat) {a:Option Addr} {m c k:Nat} {rows:List (List D)} (hi:G0[i]?=some (.slice a m c,.sl k rows)):Stp h r F ⟨S0,C0,G0⟩ (fun _:Unit=>m=rows.length) fun _=>⟨S0,C0,G0⟩:=stp_replen0 (Y:=⟨S0,C0,G0⟩) i hi
end steps
def inst:List D→List (Option Addr×Nat)→List Value
 | [],_=>[]
 | .v x::ds,ls=>x::inst ds ls
 | .sl _ rows::ds,l::ls=>.slice l.1 rows.length l.2::inst ds ls
 | .sl _ rows::ds,[]=>.slice none rows.length 0::inst ds []
 | .ptr _::ds,l::ls=>.pointer l.1::inst ds ls
 | .ptr _::ds,[]=>.pointer none::inst ds []
 | .obj _::ds,l::ls=>.pointer l.1::inst ds ls
 | .obj _::ds,[]=>.pointer none::inst ds []
 | .all _::ds,ls=>.nilIface::inst ds ls
def deep:List D→List (Option Addr×Nat)→List (Value×D)
 | [],_=>[]
 | .v _::ds,ls=>deep ds ls
 | .sl k rows::ds,l::ls=>(.slice l.1 rows.length l.2,.sl k rows)::deep ds ls
 | .sl _ _::ds,[]=>deep ds []
 | .ptr d::ds,l::ls=>(.pointer l.1,.ptr d)::deep ds ls
 | .ptr _::ds,[]=>deep ds []
 | .obj o::ds,l::ls=>(.pointer l.1,.obj o)::deep ds ls
 | .obj _::ds,[]=>deep ds []
 | .all _::ds,ls=>deep ds ls
def sls:List D→Nat
 | []=>0
 | .v _::ds=>sls ds
 | .sl _ _::ds=>sls ds+1
 | .ptr _::ds=>sls ds+1
 | .obj _::ds=>sls ds+1
 | .all _::ds=>sls ds
theorem inst_ex {w:World} {S:Nat→Prop}:∀(ds:List D) (u:Nat→Value),(∀j d,ds[j]?=some d→Rep w S (u j) d)→∃ls,ls.length=sls ds∧(∀(j:Nat) x,(inst ds ls)[j]?=some x→x=u j)∧∀y∈deep ds ls,Rep w S y.1 y.2
 | [],u,_=>⟨[],rfl,by simp[inst],by simp[deep]⟩
 | .v y::ds,u,h=>by
  obtain⟨ls,h1,h2,h3⟩:=inst_ex ds (fun j=>u (j+1)) fun j d hd=>h (j+1) d (by simpa using hd)
  refine⟨ls,h1,fun j x hx=>?_,h3⟩
  cases j with
  | zero=>
   simp only[inst,List.getElem?_cons_zero,Option.some.injEq]at hx
   rw[←hx]
   exact(h 0 _ rfl).plain.symm
  | succ j=>exact h2 j x (by simpa [inst]using hx)
 | .all l::ds,u,h=>by
  obtain⟨ls,h1,h2,h3⟩:=inst_ex ds (fun j=>u (j+1)) fun j d hd=>h (j+1) d (by simpa using hd)
  refine⟨ls,h1,fun j x hx=>?_,h3⟩
  cases j with
  | zero=>
   simp only[inst,List.getElem?_cons_zero,Option.some.injEq]at hx
   have h0:=h 0 _ rfl
   rw[←hx]
   generalize u 0=y at h0
   cases h0
   rfl
  | succ j=>exact h2 j x (by simpa [inst]using hx)
 | .sl k rows::ds,u,h=>by
  obtain⟨ls,h1,h2,h3⟩:=inst_ex ds (fun j=>u (j+1)) fun j d hd=>h (j+1) d (by simpa using hd)
  have h0:=h 0 _ rfl
  obtain⟨a,c,hu,_⟩:=h0.form
  refine⟨(a,c)::ls,by simp[sls,h1],fun j x hx=>?_,fun y hy=>?_⟩
  ·cases j with
   | zero=>
    simp only[inst,List.getElem?_cons_zero,Option.some.injEq]at hx
    rw[←hx,hu]
   | succ j=>exact h2 j x (by simpa [inst]using hx)
  ·simp only[deep,List.mem_cons]at hy
   rcases hy with rfl|hy
   ·rw[←hu];exact h0
   ·exact h3 y hy
 | .ptr dd::ds,u,h=>by
  obtain⟨ls,h1,h2,h3⟩:=inst_ex ds (fun j=>u (j+1)) fun j d hd=>h (j+1) d (by simpa using hd)
  have h0:=h 0 _ rfl
  obtain⟨a,hu⟩:∃a,u 0=.pointer a:=by
   generalize u 0=x at h0
   cases h0
   exact⟨_,rfl⟩
  refine⟨(a,0)::ls,by simp[sls,h1],fun j x hx=>?_,fun y hy=>?_⟩
  ·cases j with
   | zero=>
    simp only[inst,List.getElem?_cons_zero,Option.some.injEq]at hx
    rw[←hx,hu]
   | succ j=>exact h2 j x (by simpa [inst]using hx)
  ·simp only[deep,List.mem_cons]at hy
   rcases hy with rfl|hy
   ·rw[←hu];exact h0
   ·exact h3 y hy
 | .obj dd::ds,u,h=>by
  obtain⟨ls,h1,h2,h3⟩:=inst_ex ds (fun j=>u (j+1)) fun j d hd=>h (j+1) d (by simpa using hd)
  have h0:=h 0 _ rfl
  obtain⟨a,hu⟩:∃a,u 0=.pointer a:=by
   generalize u 0=x at h0
   cases h0
   exact⟨_,rfl⟩
  refine⟨(a,0)::ls,by simp[sls,h1],fun j x hx=>?_,fun y hy=>?_⟩
  ·cases j with
   | zero=>
    simp only[inst,List.getElem?_cons_zero,Option.some.injEq]at hx
    rw[←hx,hu]
   | succ j=>exact h2 j x (by simpa [inst]using hx)
  ·simp only[deep,List.mem_cons]at hy
   rcases hy with rfl|hy
   ·rw[←hu];exact h0
   ·exact h3 y hy
theorem inst_len:∀(ds:List D) (ls:List (Option Addr×Nat)),(inst ds ls).length=ds.length
 | [],ls=>by simp[inst]
 | .v _::ds,ls=>by simp[inst,inst_len ds]
 | .sl _ _::ds,[]=>by simp[inst,inst_len ds]
 | .sl _ _::ds,_::_=>by simp[inst,inst_len ds]
 | .ptr _::ds,[]=>by simp[inst,inst_len ds]
 | .ptr _::ds,_::_=>by simp[inst,inst_len ds]
 | .obj _::ds,[]=>by simp[inst,inst_len ds]
 | .obj _::ds,_::_=>by simp[inst,inst_len ds]
 | .all _::ds,ls=>by simp[inst,inst_len ds]
section reads
variable {P:Program} {f:Func} [Pan f] {R:Act→World→Prop} {n:Nat} [Dfr n] {kk:List Itm} {E:Env} {h r:List (Nat×Obj)} {F:List (List Nat×World)} {Y:Ghost}
theorem J_readl0 (p:Nat) {a:Option Addr} {m c k:Nat} {rows:List (List D)} (hG:Y.G[p]?=some (.slice a m c,.sl k rows)) (i:Nat) {row:List D} (hrow:rows[i]?=some row)
  (H:∀b off cs e fz ls,a=some ⟨b,off,none⟩→ls.length=sls row→(∀(j:Nat) u,(inst row ls)[j]?=some u→cs[off+i*k+j]?=some u)→J P f R n kk E h (r++[(b,.cells cs e fz)]) F ⟨Y.S,Y.C,Y.G++deep row ls⟩):J P f R n kk E h r F Y:=by
 intro a0 w ⟨fps,s⟩
 have hR:=s.gh.g _ (List.mem_of_getElem? hG)
 have hlt:=(List.getElem?_eq_some_iff.1 hrow).1
 cases hR with
 | nil=>simp at hlt
 | sl u hb hS hc hk hl hcell hrep=>
  rename_i b off cs e fz
  obtain⟨ls,h1,h2,h3⟩:=inst_ex row (u i) fun j d hd=>hrep i j row d hrow hd
  refine H b off cs e fz ls rfl h1 (fun j x hx=>?_) a0 w ⟨fps,s.ag,⟨s.own.own,s.own.nodup,fun x hx=>?_,fun x hx=>?_⟩,s.fr,s.may,⟨s.gh.chs,s.gh.nodup,s.gh.disj,fun x hx=>?_,s.gh.may,s.gh.lt,s.gh.own,s.gh.hid,s.gh.top,fun x hx=>?_⟩⟩
  ·have hj:j<row.length:=by
    have h4:=(List.getElem?_eq_some_iff.1 hx).1
    rw[inst_len]at h4
    exact h4
   rw[h2 j x hx,Nat.add_assoc]
   exact hcell i j hlt (by rw[←hl row (List.mem_of_getElem? hrow)];exact hj)
  ·rcases List.mem_append.1 hx with hx|hx
   ·exact s.own.ro x hx
   ·rw[List.mem_singleton]at hx;subst hx;exact hb
  ·rcases List.mem_append.1 hx with hx|hx
   ·exact s.own.apart x hx
   ·rw[List.mem_singleton]at hx;subst hx;exact hS.2.1
  ·rcases List.mem_append.1 hx with hx|hx
   ·exact s.gh.apart x hx
   ·rw[List.mem_singleton]at hx;subst hx;exact hS.2.2
  ·rcases List.mem_append.1 hx with hx|hx
   ·exact s.gh.g x hx
   ·exact h3 x hx
theorem J_readl {S0:Nat→Prop} {C0:List Chunk} {G0:List (Value×D)} (p:Nat) {a:Option Addr} {m c k:Nat} {rows:List (List D)} (hG:G0[p]?=some (.slice a m c,.sl k rows)) (i:Nat) {row:List D} (hrow:rows[i]?=some row)
  (H:∀b off cs e fz ls,a=some ⟨b,off,none⟩→ls.length=sls row→(∀(j:Nat) u,(inst row ls)[j]?=some u→cs[off+i*k+j]?=some u)→J P f R n kk E h (r++[(b,.cells cs e fz)]) F ⟨S0,C0,G0++deep row ls⟩):J P f R n kk E h r F ⟨S0,C0,G0⟩:=J_readl0 (Y:=⟨S0,C0,G0⟩) p hG i hrow H
theorem J_read00 (p:Nat) {a:Option Addr} {m c k:Nat} {rows:List (List D)} (hG:Y.G[p]?=some (.slice a m c,.sl k rows)) (i:Nat) {row:List D} (hrow:rows[i]?=some row) (hs:sls row=0)
  (H:∀b off cs e fz,a=some ⟨b,off,none⟩→(∀(j:Nat) u,(inst row [])[j]?=some u→cs[off+i*k+j]?=some u)→J P f R n kk E h (r++[(b,.cells cs e fz)]) F ⟨Y.S,Y.C,Y.G++deep row []⟩):J P f R n kk E h r F Y:=
 J_readl p hG i hrow fun b off cs e fz ls h1 h2 h3=>by
  rw[hs]at h2
  match ls,h2,h3 with
  | [],_,h3=>exact H b off cs e fz h1 h3
theorem J_read0 {S0:Nat→Prop} {C0:List Chunk} {G0:List (Value×D)} (p:Nat) {a:Option Addr} {m c k:Nat} {rows:List (List D)} (hG:G0[p]?=some (.slice a m c,.sl k rows)) (i:Nat) {row:List D} (hrow:rows[i]?=some row) (hs:sls row=0)
  (H:∀b off cs e fz,a=some ⟨b,off,none⟩→(∀(j:Nat) u,(inst row [])[j]?=some u→cs[off+i*k+j]?=some u)→J P f R n kk E h (r++[(b,.cells cs e fz)]) F ⟨S0,C0,G0++deep row []⟩):J P f R n kk E h r F ⟨S0,C0,G0⟩:=J_read00 (Y:=⟨S0,C0,G0⟩) p hG i hrow hs H
theorem J_read10 (p:Nat) {a:Option Addr} {m c k:Nat} {rows:List (List D)} (hG:Y.G[p]?=some (.slice a m c,.sl k rows)) (i:Nat) {row:List D} (hrow:rows[i]?=some row) (hs:sls row=1)
  (H:∀b off cs e fz a1 c1,a=some ⟨b,off,none⟩→(∀(j:Nat) u,(inst row [(a1,c1)])[j]?=some u→cs[off+i*k+j]?=some u)→J P f R n kk E h (r++[(b,.cells cs e fz)]) F ⟨Y.S,Y.C,Y.G++deep row [(a1,c1)]⟩):J P f R n kk E h r F Y:=
 J_readl p hG i hrow fun b off cs e fz ls h1 h2 h3=>by
  rw[hs]at h2
  match ls,h2,h3 with
  | [(a1,c1)],_,h3=>exact H b off cs e fz a1 c1 h1 h3
theorem J_read1 {S0:Nat→Prop} {C0:List Chunk} {G0:List (Value×D)} (p:Nat) {a:Option Addr} {m c k:Nat} {rows:List (List D)} (hG:G0[p]?=some (.slice a m c,.sl k rows)) (i:Nat) {row:List D} (hrow:rows[i]?=some row) (hs:sls row=1)
  (H:∀b off cs e fz a1 c1,a=some ⟨b,off,none⟩→(∀(j:Nat) u,(inst row [(a1,c1)])[j]?=some u→cs[off+i*k+j]?=some u)→J P f R n kk E h (r++[(b,.cells cs e fz)]) F ⟨S0,C0,G0++deep row [(a1,c1)]⟩):J P f R n kk E h r F ⟨S0,C0,G0⟩:=J_read10 (Y:=⟨S0,C0,G0⟩) p hG i hrow hs H
theorem J_read20 (p:Nat) {a:Option Addr} {m c k:Nat} {rows:List (List D)} (hG:Y.G[p]?=some (.slice a m c,.sl k rows)) (i:Nat) {row:List D} (hrow:rows[i]?=some row) (hs:sls row=2)
  (H:∀b off cs e fz a1 c1 a2 c2,a=some ⟨b,off,none⟩→(∀(j:Nat) u,(inst row [(a1,c1),(a2,c2)])[j]?=some u→cs[off+i*k+j]?=some u)→J P f R n kk E h (r++[(b,.cells cs e fz)]) F ⟨Y.S,Y.C,Y.G++deep row [(a1,c1),(a2,c2)]⟩):J P f R n kk E h r F Y:=
 J_readl p hG i hrow fun b off cs e fz ls h1 h2 h3=>by
  rw[hs]at h2
  match ls,h2,h3 with
  | [(a1,c1),(a2,c2)],_,h3=>exact H b off cs e fz a1 c1 a2 c2 h1 h3
theorem J_read2 {S0:Nat→Prop} {C0:List Chunk} {G0:List (Value×D)} (p:Nat) {a:Option Addr} {m c k:Nat} {rows:List (List D)} (hG:G0[p]?=some (.slice a m c,.sl k rows)) (i:Nat) {row:List D} (hrow:rows[i]?=some row) (hs:sls row=2)
  (H:∀b off cs e fz a1 c1 a2 c2,a=some ⟨b,off,none⟩→(∀(j:Nat) u,(inst row [(a1,c1),(a2,c2)])[j]?=some u→cs[off+i*k+j]?=some u)→J P f R n kk E h (r++[(b,.cells cs e fz)]) F ⟨S0,C0,G0++deep row [(a1,c1),(a2,c2)]⟩):J P f R n kk E h r F ⟨S0,C0,G0⟩:=J_read20 (Y:=⟨S0,C0,G0⟩) p hG i hrow hs H
theorem J_ptrl0 (p:Nat) {x:Option Addr} {ds:List D} (hG:Y.G[p]?=some (.pointer x,.ptr ds))
  (H:∀b off cs e fz ls,x=some ⟨b,off,none⟩→ls.length=sls ds→(∀(j:Nat) u,(inst ds ls)[j]?=some u→cs[off+j]?=some u)→J P f R n kk E h (r++[(b,.cells cs e fz)]) F ⟨Y.S,Y.C,Y.G++deep ds ls⟩):J P f R n kk E h r F Y:=by
 intro a0 w ⟨fps,s⟩
 have hR:=s.gh.g _ (List.mem_of_getElem? hG)
 cases hR with
 | ptr u hb hS hcell hrep=>
  rename_i b off cs e fz
  obtain⟨ls,h1,h2,h3⟩:=inst_ex ds u hrep
  refine H b off cs e fz ls rfl h1 (fun j x hx=>?_) a0 w ⟨fps,s.ag,⟨s.own.own,s.own.nodup,fun x hx=>?_,fun x hx=>?_⟩,s.fr,s.may,⟨s.gh.chs,s.gh.nodup,s.gh.disj,fun x hx=>?_,s.gh.may,s.gh.lt,s.gh.own,s.gh.hid,s.gh.top,fun x hx=>?_⟩⟩
  ·have hj:=(List.getElem?_eq_some_iff.1 hx).1
   rw[inst_len]at hj
   rw[h2 j x hx]
   exact hcell j hj
  ·rcases List.mem_append.1 hx with hx|hx
   ·exact s.own.ro x hx
   ·rw[List.mem_singleton]at hx;subst hx;exact hb
  ·rcases List.mem_append.1 hx with hx|hx
   ·exact s.own.apart x hx
   ·rw[List.mem_singleton]at hx;subst hx;exact hS.2.1
  ·rcases List.mem_append.1 hx with hx|hx
   ·exact s.gh.apart x hx
   ·rw[List.mem_singleton]at hx;subst hx;exact hS.2.2
  ·rcases List.mem_append.1 hx with hx|hx
   ·exact s.gh.g x hx
   ·exact h3 x hx
theorem J_ptrl {S0:Nat→Prop} {C0:List Chunk} {G0:List (Value×D)} (p:Nat) {x:Option Addr} {ds:List D} (hG:G0[p]?=some (.pointer x,.ptr ds))
  (H:∀b off cs e fz ls,x=some ⟨b,off,none⟩→ls.length=sls ds→(∀(j:Nat) u,(inst ds ls)[j]?=some u→cs[off+j]?=some u)→J P f R n kk E h (r++[(b,.cells cs e fz)]) F ⟨S0,C0,G0++deep ds ls⟩):J P f R n kk E h r F ⟨S0,C0,G0⟩:=J_ptrl0 (Y:=⟨S0,C0,G0⟩) p hG H
theorem J_glob0 (p:Nat) {b:Nat} {v:Value} (hG:Y.G[p]?=some (.pointer (some ⟨b,0,none⟩),.ptr [.v v]))
  (H:∀cs e fz,cs[0]?=some v→J P f R n kk E h (r++[(b,.cells cs e fz)]) F Y):J P f R n kk E h r F Y:=
 J_ptrl p hG fun b' off cs e fz ls h1 h2 h3=>by
  cases h1
  have:Y.G++deep [D.v v] ls=Y.G:=by simp[deep]
  rw[this]
  exact H cs e fz (by have:=h3 0 v rfl;simpa using this)
theorem J_glob {S0:Nat→Prop} {C0:List Chunk} {G0:List (Value×D)} (p:Nat) {b:Nat} {v:Value} (hG:G0[p]?=some (.pointer (some ⟨b,0,none⟩),.ptr [.v v]))
  (H:∀cs e fz,cs[0]?=some v→J P f R n kk E h (r++[(b,.cells cs e fz)]) F ⟨S0,C0,G0⟩):J P f R n kk E h r F ⟨S0,C0,G0⟩:=J_glob0 (Y:=⟨S0,C0,G0⟩) p hG H
theorem J_ro (r':List (Nat×Obj)) (hs:∀x∈r',x∈r) (H:J P f R n kk E h r' F Y):J P f R n kk E h r F Y:=fun a w ⟨fps,s⟩=>
 H a w ⟨fps,s.ag,⟨s.own.own,s.own.nodup,fun x hx=>s.own.ro x (hs x hx),fun x hx=>s.own.apart x (hs x hx)⟩,s.fr,s.may,⟨s.gh.chs,s.gh.nodup,s.gh.disj,fun x hx=>s.gh.apart x (hs x hx),s.gh.may,s.gh.lt,s.gh.own,s.gh.hid,s.gh.top,s.gh.g⟩⟩
theorem J_againl0 (p:Nat) {b off:Nat} {m c k:Nat} {rows:List (List D)} (hG:Y.G[p]?=some (.slice (some ⟨b,off,none⟩) m c,.sl k rows)) (q:Nat) {cs:Array Value} {e:TypeId} {fz:Nat×Nat} (hq:r[q]?=some (b,.cells cs e fz)) (i:Nat) {row:List D} (hrow:rows[i]?=some row)
  (H:∀ls,ls.length=sls row→(∀(j:Nat) u,(inst row ls)[j]?=some u→cs[off+i*k+j]?=some u)→J P f R n kk E h r F ⟨Y.S,Y.C,Y.G++deep row ls⟩):J P f R n kk E h r F Y:=by
 intro a0 w ⟨fps,s⟩
 have hb1:=s.own.ro _ (List.mem_of_getElem? hq)
 refine J_readl p hG i hrow (fun b2 off2 cs2 e2 fz2 ls ha hls hc=>?_) a0 w ⟨fps,s⟩
 cases ha
 intro a1 w1 s1
 have h1:=s1.own.ro (b,.cells cs e fz) (List.mem_append_left _ (List.mem_of_getElem? hq))
 have h2:=s1.own.ro (b,.cells cs2 e2 fz2) (List.mem_append_right _ (by simp))
 rw[h1]at h2
 cases h2
 exact J_ro r (fun x hx=>List.mem_append_left _ hx) (H ls hls hc) a1 w1 s1
theorem J_againl {S0:Nat→Prop} {C0:List Chunk} {G0:List (Value×D)} (p:Nat) {b off:Nat} {m c k:Nat} {rows:List (List D)} (hG:G0[p]?=some (.slice (some ⟨b,off,none⟩) m c,.sl k rows)) (q:Nat) {cs:Array Value} {e:TypeId} {fz:Nat×Nat} (hq:r[q]?=some (b,.cells cs e fz)) (i:Nat) {row:List D} (hrow:rows[i]?=some row)
  (H:∀ls,ls.length=sls row→(∀(j:Nat) u,(inst row ls)[j]?=some u→cs[off+i*k+j]?=some u)→J P f R n kk E h r F ⟨S0,C0,G0++deep row ls⟩):J P f R n kk E h r F ⟨S0,C0,G0⟩:=J_againl0 (Y:=⟨S0,C0,G0⟩) p hG q hq i hrow H
theorem J_again00 (p:Nat) {b off:Nat} {m c k:Nat} {rows:List (List D)} (hG:Y.G[p]?=some (.slice (some ⟨b,off,none⟩) m c,.sl k rows)) (q:Nat) {cs:Array Value} {e:TypeId} {fz:Nat×Nat} (hq:r[q]?=some (b,.cells cs e fz)) (i:Nat) {row:List D} (hrow:rows[i]?=some row) (hs:sls row=0)
  (H:(∀(j:Nat) u,(inst row [])[j]?=some u→cs[off+i*k+j]?=some u)→J P f R n kk E h r F ⟨Y.S,Y.C,Y.G++deep row []⟩):J P f R n kk E h r F Y:=
 J_againl p hG q hq i hrow fun ls h2 h3=>by
  rw[hs]at h2
  match ls,h2,h3 with
  | [],_,h3=>exact H h3
theorem J_again0 {S0:Nat→Prop} {C0:List Chunk} {G0:List (Value×D)} (p:Nat) {b off:Nat} {m c k:Nat} {rows:List (List D)} (hG:G0[p]?=some (.slice (some ⟨b,off,none⟩) m c,.sl k rows)) (q:Nat) {cs:Array Value} {e:TypeId} {fz:Nat×Nat} (hq:r[q]?=some (b,.cells cs e fz)) (i:Nat) {row:List D} (hrow:rows[i]?=some row) (hs:sls row=0)
  (H:(∀(j:Nat) u,(inst row [])[j]?=some u→cs[off+i*k+j]?=some u)→J P f R n kk E h r F ⟨S0,C0,G0++deep row []⟩):J P f R n kk E h r F ⟨S0,C0,G0⟩:=J_again00 (Y:=⟨S0,C0,G0⟩) p hG q hq i hrow hs H
theorem J_again10 (p:Nat) {b off:Nat} {m c k:Nat} {rows:List (List D)} (hG:Y.G[p]?=some (.slice (some ⟨b,off,none⟩) m c,.sl k rows)) (q:Nat) {cs:Array Value} {e:TypeId} {fz:Nat×Nat} (hq:r[q]?=some (b,.cells cs e fz)) (i:Nat) {row:List D} (hrow:rows[i]?=some row) (hs:sls row=1)
  (H:∀a1 c1,(∀(j:Nat) u,(inst row [(a1,c1)])[j]?=some u→cs[off+i*k+j]?=some u)→J P f R n kk E h r F ⟨Y.S,Y.C,Y.G++deep row [(a1,c1)]⟩):J P f R n kk E h r F Y:=
 J_againl p hG q hq i hrow fun ls h2 h3=>by
  rw[hs]at h2
  match ls,h2,h3 with
  | [(a1,c1)],_,h3=>exact H a1 c1 h3
theorem J_again1 {S0:Nat→Prop} {C0:List Chunk} {G0:List (Value×D)} (p:Nat) {b off:Nat} {m c k:Nat} {rows:List (List D)} (hG:G0[p]?=some (.slice (some ⟨b,off,none⟩) m c,.sl k rows)) (q:Nat) {cs:Array Value} {e:TypeId} {fz:Nat×Nat} (hq:r[q]?=some (b,.cells cs e fz)) (i:Nat) {row:List D} (hrow:rows[i]?=some row) (hs:sls row=1)
  (H:∀a1 c1,(∀(j:Nat) u,(inst row [(a1,c1)])[j]?=some u→cs[off+i*k+j]?=some u)→J P f R n kk E h r F ⟨S0,C0,G0++deep row [(a1,c1)]⟩):J P f R n kk E h r F ⟨S0,C0,G0⟩:=J_again10 (Y:=⟨S0,C0,G0⟩) p hG q hq i hrow hs H
theorem J_again20 (p:Nat) {b off:Nat} {m c k:Nat} {rows:List (List D)} (hG:Y.G[p]?=some (.slice (some ⟨b,off,none⟩) m c,.sl k rows)) (q:Nat) {cs:Array Value} {e:TypeId} {fz:Nat×Nat} (hq:r[q]?=some (b,.cells cs e fz)) (i:Nat) {row:List D} (hrow:rows[i]?=some row) (hs:sls row=2)
  (H:∀a1 c1 a2 c2,(∀(j:Nat) u,(inst row [(a1,c1),(a2,c2)])[j]?=some u→cs[off+i*k+j]?=some u)→J P f R n kk E h r F ⟨Y.S,Y.C,Y.G++deep row [(a1,c1),(a2,c2)]⟩):J P f R n kk E h r F Y:=
 J_againl p hG q hq i hrow fun ls h2 h3=>by
  rw[hs]at h2
  match ls,h2,h3 with
  | [(a1,c1),(a2,c2)],_,h3=>exact H a1 c1 a2 c2 h3
theorem J_again2 {S0:Nat→Prop} {C0:List Chunk} {G0:List (Value×D)} (p:Nat) {b off:Nat} {m c k:Nat} {rows:List (List D)} (hG:G0[p]?=some (.slice (some ⟨b,off,none⟩) m c,.sl k rows)) (q:Nat) {cs:Array Value} {e:TypeId} {fz:Nat×Nat} (hq:r[q]?=some (b,.cells cs e fz)) (i:Nat) {row:List D} (hrow:rows[i]?=some row) (hs:sls row=2)
  (H:∀a1 c1 a2 c2,(∀(j:Nat) u,(inst row [(a1,c1),(a2,c2)])[j]?=some u→cs[off+i*k+j]?=some u)→J P f R n kk E h r F ⟨S0,C0,G0++deep row [(a1,c1),(a2,c2)]⟩):J P f R n kk E h r F ⟨S0,C0,G0⟩:=J_again20 (Y:=⟨S0,C0,G0⟩) p hG q hq i hrow hs H
theorem StF.hpick {a:Act} {w:World} {fps:List (List Nat)} (s:StF n E h r F Y a w fps) (ps:List Nat) {h':List (Nat×Obj)} (hh:pick h ps=h') (hps:ps.Nodup):StF n E h' r F Y a w fps:=by
 subst hh
 have hm:∀x∈pick h ps,x∈h:=fun x hx=>pick_mem rfl x hx
 have hid:∀b,b∈(pick h ps).map (·.1)→b∈h.map (·.1):=fun b hb=>by
  obtain⟨x,hx,rfl⟩:=List.mem_map.1 hb
  exact List.mem_map.2 ⟨x,hm x hx,rfl⟩
 have hS:∀b,Sd Y h fps b→Sd Y (pick h ps) fps b:=fun b hb=>⟨hb.1,fun hx=>hb.2.1 (hid b hx),hb.2.2⟩
 exact⟨s.ag,⟨fun x hx=>s.own.own x (hm x hx),pick_nodup rfl hps s.own.nodup,s.own.ro,fun x hx hb=>s.own.apart x hx (hid _ hb)⟩,s.fr,fun f hf x hx=>s.may f hf x (hm x hx),
  ⟨s.gh.chs.mono (fun _ _=>rfl) fun b hb _=>⟨hS b hb,rfl⟩,s.gh.nodup,fun b hb hx=>s.gh.disj b hb (hid b hx),s.gh.apart,s.gh.may,s.gh.lt,fun x hx=>s.gh.own x (hm x hx),s.gh.hid,s.gh.top,fun x hx=>(s.gh.g x hx).mono fun b hb _=>⟨hS b hb,rfl⟩⟩⟩
theorem StF.hide {a:Act} {w:World} {fps:List (List Nat)} (s:StF n E h r F Y a w fps) (p:Nat) {b:Nat} {o:Obj} (hp:h[p]?=some (b,o)):∃fps',StF n E (h.eraseIdx p) r F ⟨Y.S,Y.C++[cObj b o],Y.G⟩ a w fps':=by
 have hm:∀x∈h.eraseIdx p,x∈h:=fun x hx=>(List.eraseIdx_sublist h p).subset hx
 have hid:∀c,c∈(h.eraseIdx p).map (·.1)→c∈h.map (·.1):=fun c hc=>by
  obtain⟨x,hx,rfl⟩:=List.mem_map.1 hc
  exact List.mem_map.2 ⟨x,hm x hx,rfl⟩
 have hnot:b∉(h.eraseIdx p).map (·.1):=fun hc=>by
  obtain⟨x,hx,hxb⟩:=List.mem_map.1 hc
  obtain⟨j,hj,he⟩:=List.mem_eraseIdx_iff_getElem?.1 hx
  have h1:(h.map (·.1))[j]?=some b:=by simp[he,hxb]
  have h2:(h.map (·.1))[p]?=some b:=by simp[hp]
  exact hj ((List.getElem?_inj (List.getElem?_eq_some_iff.1 h1).1 s.own.nodup).1 (h1.trans h2.symm))
 have hbm:(b,o)∈h:=List.mem_of_getElem? hp
 have e:(fps++[[b]]).flatten=fps.flatten++[b]:=by simp
 have hS:∀c,Sd Y h fps c→Sd Y (h.eraseIdx p) (fps++[[b]]) c:=fun c hc=>⟨hc.1,fun hx=>hc.2.1 (hid c hx),fun hx=>by
  rw[e]at hx
  rcases List.mem_append.1 hx with hx|hx
  ·exact hc.2.2 hx
  ·rw[List.mem_singleton]at hx
   subst hx
   exact hc.2.1 (List.mem_map.2 ⟨_,hbm,rfl⟩)⟩
 have hin:∀c,c∈(fps++[[b]]).flatten→c∈fps.flatten∨c=b:=fun c hc=>by
  rw[e]at hc
  simpa using hc
 refine⟨fps++[[b]],s.ag,⟨fun x hx=>s.own.own x (hm x hx),((List.eraseIdx_sublist h p).map _).nodup s.own.nodup,s.own.ro,fun x hx hc=>s.own.apart x hx (hid _ hc)⟩,s.fr,fun f hf x hx=>s.may f hf x (hm x hx),
  ⟨(s.gh.chs.mono (fun _ _=>rfl) fun c hc _=>⟨hS c hc,rfl⟩).app ⟨⟨rfl,s.own.own _ hbm⟩,trivial⟩,?_,fun c hc hx=>?_,fun x hx hc=>?_,fun f hf c hc=>?_,fun c hc=>?_,fun x hx=>s.gh.own x (hm x hx),fun c hc=>?_,s.gh.top,fun x hx=>(s.gh.g x hx).mono fun c hc _=>⟨hS c hc,rfl⟩⟩⟩
 ·rw[e,List.nodup_append]
  refine⟨s.gh.nodup,by simp,fun x hx y hy hxy=>?_⟩
  simp at hy
  subst hy hxy
  exact s.gh.disj _ hx (List.mem_map.2 ⟨_,hbm,rfl⟩)
 ·rcases hin c hc with h1|rfl
  ·exact s.gh.disj c h1 (hid c hx)
  ·exact hnot hx
 ·rcases hin _ hc with h1|h1
  ·exact s.gh.apart x hx h1
  ·exact s.own.apart x hx (List.mem_map.2 ⟨_,hbm,h1.symm⟩)
 ·rcases hin c hc with h1|rfl
  ·exact s.gh.may f hf c h1
  ·exact s.may f hf _ hbm
 ·rcases hin c hc with h1|rfl
  ·exact s.gh.lt c h1
  ·exact s.own.own.lt hbm
 ·rcases hin c hc with h1|rfl
  ·exact s.gh.hid c h1
  ·exact s.gh.own _ hbm
theorem J_hide0 (p:Nat) {b:Nat} {o:Obj} (hp:h[p]?=some (b,o)) (H:J P f R n kk E (h.eraseIdx p) r F ⟨Y.S,Y.C++[cObj b o],Y.G⟩):J P f R n kk E h r F Y:=fun a w ⟨_,s⟩=>by
 obtain⟨fps',s'⟩:=s.hide p hp
 exact H a w ⟨fps',s'⟩
theorem J_hide {S0:Nat→Prop} {C0:List Chunk} {G0:List (Value×D)} (p:Nat) {b:Nat} {o:Obj} (hp:h[p]?=some (b,o)) (H:J P f R n kk E (h.eraseIdx p) r F ⟨S0,C0++[cObj b o],G0⟩):J P f R n kk E h r F ⟨S0,C0,G0⟩:=J_hide0 (Y:=⟨S0,C0,G0⟩) p hp H
theorem St.hide {a:Act} {w:World} (s:St n E h r F Y a w) (p:Nat) {b:Nat} {o:Obj} (hp:h[p]?=some (b,o)):St n E (h.eraseIdx p) r F ⟨Y.S,Y.C++[cObj b o],Y.G⟩ a w:=by
 obtain⟨_,s⟩:=s
 exact s.hide p hp
theorem J_show0 (i:Nat) {b:Nat} {o:Obj} (hi:Y.C[i]?=some (cObj b o)) (H:J P f R n kk E (h++[(b,o)]) r F ⟨Y.S,Y.C.eraseIdx i,Y.G⟩):J P f R n kk E h r F Y:=fun a w ⟨fps,s⟩=>by
 obtain⟨fp,hfp,rfl,hb⟩:=s.gh.chs.at hi
 have hm:b∈fps.flatten:=List.mem_flatten.2 ⟨_,List.mem_of_getElem? hfp,by simp⟩
 have hnb:b∉(fps.eraseIdx i).flatten:=fun hc=>by
  obtain⟨j,x,hj,hx,hbx⟩:=mem_erase_flat hc
  exact hj (flat_at s.gh.nodup hx hfp hbx (by simp))
 have hids:(h++[(b,o)]).map (·.1)=h.map (·.1)++[b]:=by simp
 have hS:∀c,Sd Y h fps c→Sd Y (h++[(b,o)]) (fps.eraseIdx i) c:=fun c hc=>⟨hc.1,fun hx=>by
  rw[hids]at hx
  rcases List.mem_append.1 hx with hx|hx
  ·exact hc.2.1 hx
  ·rw[List.mem_singleton]at hx
   subst hx
   exact hc.2.2 hm,fun hx=>hc.2.2 (erase_flat_sub hx)⟩
 have hin:∀x∈h++[(b,o)],x∈h∨x=(b,o):=fun x hx=>by simpa using hx
 refine H a w ⟨fps.eraseIdx i,s.ag,⟨fun x hx=>?_,?_,s.own.ro,fun x hx hc=>?_⟩,s.fr,fun f hf x hx=>?_,
  ⟨s.gh.chs.erase.mono (fun _ _=>rfl) fun c hc _=>⟨hS c hc,rfl⟩,nodup_sublist_flat s.gh.nodup (List.eraseIdx_sublist _ _),fun c hc hx=>?_,fun x hx hc=>s.gh.apart x hx (erase_flat_sub hc),fun f hf c hc=>s.gh.may f hf c (erase_flat_sub hc),fun c hc=>s.gh.lt c (erase_flat_sub hc),fun x hx=>?_,fun c hc=>s.gh.hid c (erase_flat_sub hc),s.gh.top,fun x hx=>(s.gh.g x hx).mono fun c hc _=>⟨hS c hc,rfl⟩⟩⟩
 ·rcases hin x hx with h1|rfl
  ·exact s.own.own x h1
  ·exact hb
 ·rw[hids,List.nodup_append]
  refine⟨s.own.nodup,by simp,fun x hx y hy hxy=>?_⟩
  simp at hy
  subst hy hxy
  exact s.gh.disj _ hm hx
 ·rw[hids]at hc
  rcases List.mem_append.1 hc with hc|hc
  ·exact s.own.apart x hx hc
  ·rw[List.mem_singleton]at hc
   exact s.gh.apart x hx (by rw[hc];exact hm)
 ·rcases hin x hx with h1|rfl
  ·exact s.may f hf x h1
  ·exact s.gh.may f hf _ hm
 ·rw[hids]at hx
  rcases List.mem_append.1 hx with hx|hx
  ·exact s.gh.disj c (erase_flat_sub hc) hx
  ·rw[List.mem_singleton]at hx
   subst hx
   exact hnb hc
 ·rcases hin x hx with h1|rfl
  ·exact s.gh.own x h1
  ·exact s.gh.hid _ hm
theorem J_show {S0:Nat→Prop} {C0:List Chunk} {G0:List (Value×D)} (i:Nat) {b:Nat} {o:Obj} (hi:C0[i]?=some (cObj b o)) (H:J P f R n kk E (h++[(b,o)]) r F ⟨S0,C0.eraseIdx i,G0⟩):J P f R n kk E h r F ⟨S0,C0,G0⟩:=J_show0 (Y:=⟨S0,C0,G0⟩) i hi H
end reads
def Inv {α:Type} (n:Nat) [Dfr n] (E:α→Env) (h:α→List (Nat×Obj)) (S:Nat→Prop) (C:α→List Chunk) (G:α→List (Value×D)) (m:α→Nat) (ok:α→Prop) (r:List (Nat×Obj)) (F:List (List Nat×World)):Nat→Act→World→Prop:=
 fun j a w=>∃x,ok x∧m x=j∧St n (E x) (h x) r F ⟨S,C x,G x⟩ a w
section loops
variable {P:Program} {f:Func} [Pan f] {R:Act→World→Prop} {n:Nat} [Dfr n] {kk:List Itm} {E:Env} {h r:List (Nat×Obj)} {F:List (List Nat×World)} {Y:Ghost} {α:Type}
theorem St.cut {a:Act} {w:World} (s:St n E h r F Y a w) (ts ps cs gs:List Nat) {E':Env} {h' r':List (Nat×Obj)} {C':List Chunk} {G':List (Value×D)} (hE:keepE E ts=E') (hh:pick h ps=h') (hC:pick Y.C cs=C') (hG:pick Y.G gs=G') (hr:∀x∈r',x∈r) (hps:ps.Nodup) (hcs:cs.Nodup) :
  St n E' h' r' F ⟨Y.S,C',G'⟩ a w:=by
 have s1:=s.stp (stp_pick cs gs hC hG hcs)
 obtain⟨fps,s⟩:=s1
 have s:=s.hpick ps hh hps
 subst hE
 exact⟨fps,s.ag.sub (keepE_sub E ts),⟨s.own.own,s.own.nodup,fun x hx=>s.own.ro x (hr x hx),fun x hx=>s.own.apart x (hr x hx)⟩,s.fr,s.may,⟨s.gh.chs,s.gh.nodup,s.gh.disj,fun x hx=>s.gh.apart x (hr x hx),s.gh.may,s.gh.lt,s.gh.own,s.gh.hid,s.gh.top,s.gh.g⟩⟩
theorem J_loop1 {b:Sk} (H:∀I,J P f R n (.c b::.back I 0::kk) E h r F Y):J P f R n (.c (.loop b)::kk) E h r F Y:=
 J_loop (fun j a w=>j=0∧St n E h r F Y a w) (fun _ _ s=>⟨0,rfl,s⟩) fun j a w ⟨hj,s⟩=>by
  subst hj
  exact H _ a w s
theorem J_loopx0 {b:Sk} (Ex:α→Env) (hx:α→List (Nat×Obj)) (Cx:α→List Chunk) (Gx:α→List (Value×D)) (m:α→Nat) (ok:α→Prop) (x0:α) (ts ps cs gs:List Nat) (hok:ok x0) (hE:keepE E ts=Ex x0) (hh:pick h ps=hx x0) (hC:pick Y.C cs=Cx x0) (hG:pick Y.G gs=Gx x0)
  (round:∀x,ok x→J P f R n (.c b::.back (Inv n Ex hx Y.S Cx Gx m ok r F) (m x)::kk) (Ex x) (hx x) r F ⟨Y.S,Cx x,Gx x⟩) (hps:ps.Nodup:=by decide) (hcs:cs.Nodup:=by decide):J P f R n (.c (.loop b)::kk) E h r F Y:=
 J_loop (Inv n Ex hx Y.S Cx Gx m ok r F) (fun a w s=>⟨m x0,x0,hok,rfl,s.cut ts ps cs gs hE hh hC hG (fun _ hx=>hx) hps hcs⟩) fun j a w ⟨x,hox,hj,s⟩=>by
  subst hj
  exact round x hox a w s
theorem J_loopx {S0:Nat→Prop} {C0:List Chunk} {G0:List (Value×D)} {b:Sk} (Ex:α→Env) (hx:α→List (Nat×Obj)) (Cx:α→List Chunk) (Gx:α→List (Value×D)) (m:α→Nat) (ok:α→Prop) (x0:α) (ts ps cs gs:List Nat) (hok:ok x0) (hE:keepE E ts=Ex x0) (hh:pick h ps=hx x0) (hC:pick C0 cs=Cx x0) (hG:pick G0 gs=Gx x0)
  (round:∀x,ok x→J P f R n (.c b::.back (Inv n Ex hx S0 Cx Gx m ok r F) (m x)::kk) (Ex x) (hx x) r F ⟨S0,Cx x,Gx x⟩) (hps:ps.Nodup:=by decide) (hcs:cs.Nodup:=by decide):J P f R n (.c (.loop b)::kk) E h r F ⟨S0,C0,G0⟩:=J_loopx0 (Y:=⟨S0,C0,G0⟩) Ex hx Cx Gx m ok x0 ts ps cs gs hok hE hh hC hG round hps hcs
theorem J_backx {Ex:α→Env} {hx:α→List (Nat×Obj)} {Cx:α→List Chunk} {Gx:α→List (Value×D)} {m:α→Nat} {ok:α→Prop} {S:Nat→Prop} {r0:List (Nat×Obj)} {j:Nat} (x:α) (ts ps cs gs:List Nat) (hok:ok x) (hm:m x<j) (hE:keepE E ts=Ex x) (hh:pick h ps=hx x) (hC:pick Y.C cs=Cx x) (hG:pick Y.G gs=Gx x) (hS:Y.S=S:=by rfl)
  (hr:∀y∈r0,y∈r:=by simp) (hps:ps.Nodup:=by decide) (hcs:cs.Nodup:=by decide):J P f R n (.back (Inv n Ex hx S Cx Gx m ok r0 F) j::kk) E h r F Y:=fun a w s=>by
 subst hS
 simp only[wpK]
 exact⟨m x,hm,x,hok,rfl,s.cut ts ps cs gs hE hh hC hG hr hps hcs⟩
end loops
end Go.Sx
end
