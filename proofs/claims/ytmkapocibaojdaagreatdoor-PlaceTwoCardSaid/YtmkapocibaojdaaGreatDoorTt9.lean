/- Part 9 of the texts of a claim: Tx21 Tx22 Tx23 Tx24 Tx25 OwnT Ver PlP HearP Way Hear Ord Ref2. -/
import Derived.Recover
import Derived.Lib.AppendStr
import Derived.Laws.IdiomStrings
import Derived.Laws.Concat
import Derived.KernelRfl
import Derived.Test.YtmkapocibaojdaaGreatDoorTt8
section
namespace Go.Sx
open Go
section fork3
variable {P:Program} {ops:Array Oper} {Q:Exit→Act→World→Prop}
def planR (ops:Array Oper):List (Nat×Bool)→Array Bool→Option (Array Bool)
 | [],listed=>some listed
 | (i,true)::rest,listed=>if ((Region.ready .any ops listed).contains i&&Region.free .any ops listed i)=true then planR ops rest (listed.setIfInBounds i true)else none
 | (_,false)::_,_=>none
def plan3 (ops:Array Oper) (rs:List (Nat×Bool)) (i:Nat) (q1 q2:List (Nat×Bool)) (j:Nat) (q3:List (Nat×Bool)) (listed:Array Bool):Bool:=match planR ops rs listed with
 | some l=>Region.ready .any ops l==[i,j]&&planF ops 0 q1 q2 (l.setIfInBounds i true)&&planOk ops q3 (l.setIfInBounds j true)
 | none=>false
def Both (P:Program) (ops:Array Oper) (Q:Exit→Act→World→Prop) (B i:Nat) (q1 q2:List (Nat×Bool)) (W:List (Nat×List Nat)) (a:Act) (w:World):Prop:=
 wpOp P ops Q i (fun a' w'=>BG B (W.lookup i) w w'∧PW P ops Q B true q1 (W.filter (·.1 != i)) a' w'∧PW P ops Q B true q2 (W.filter (·.1 != i)) a' w') a w
theorem wpAnyG_of_fork3 (hs:Region.noSelect ops=true) (hQ:∀(i:Nat) (o:Oper),ops[i]?=some o→∀c a v w,Q (.panic c) (a.put o.dst v) w→Q (.panic c) a w) {B:Nat} (W0:Nat→Option (List Nat)) {i j:Nat} {q1 q2 q3:List (Nat×Bool)} (hl2:q2.length=q1.length) (hl3:q3.length=q1.length) (W:List (Nat×List Nat)) :
  ∀(rs:List (Nat×Bool)) (listed:Array Bool) (a:Act) (w:World),plan3 ops rs i q1 q2 j q3 listed=true→Down .any ops listed→(∀j,listed.getD j true=false→W.lookup j=W0 j) →
   PW P ops (fun _ a w=>Both P ops Q B i q1 q2 W a w∧PW P ops Q B true ((j,false)::q3) W a w) B true rs W a w→wpAnyG P .any ops Q B W0 (rs.length+(q1.length+1)) listed a w
 | [],listed,a,w,hp,hdown,hW,h=>by
  simp only[plan3,planR,Bool.and_eq_true,beq_iff_eq]at hp
  obtain⟨⟨hr,hF⟩,hp3⟩:=hp
  obtain⟨h1,h2⟩:=h
  have hi:i∈Region.ready .any ops listed:=by rw[hr];simp
  have hj:j∈Region.ready .any ops listed:=by rw[hr];simp
  rw[List.length_nil,Nat.zero_add]
  refine⟨fun h0=>absurd h0 (by rw[hr];simp),fun k hk=>?_⟩
  rw[hr]at hk
  rcases List.mem_cons.1 hk with rfl|hk
  ·have hun:listed.getD k true=false:=(mem_ready.1 hi).1
   refine wpOp_mono (fun a' w' hh=>⟨?_,?_⟩) h1
   ·rw[←hW k hun]
    exact hh.1
   ·refine wpAnyG_of_fork hs hQ W0 0 q1 q2 _ _ _ _ hF hl2 (hdown.list hi) (fun l hl=>?_) hh.2.1 hh.2.2
    obtain⟨hkl,hl2⟩:=unlisted_after hl
    rw[lookup_filter_ne k l (Ne.symm hkl)]
    exact hW l hl2
  ·obtain rfl:=List.mem_singleton.1 hk
   have:=step_write hs hQ W0 hj hp3 hdown hW h2
   rw[hl3]at this
   exact this
 | (r,true)::rs,listed,a,w,hp,hdown,hW,h=>by
  have hp':((Region.ready .any ops listed).contains r&&Region.free .any ops listed r)=true∧plan3 ops rs i q1 q2 j q3 (listed.setIfInBounds r true)=true:=by
   simp only[plan3,planR]at hp ⊢
   split at hp
   ·rename_i l hl
    split at hl
    ·rename_i hc
     exact⟨hc,by rw[hl];exact hp⟩
    ·cases hl
   ·cases hp
  obtain⟨hc,hp'⟩:=hp'
  rw[Bool.and_eq_true]at hc
  obtain⟨hr,hf⟩:=hc
  obtain⟨o,v,us,ho,hy,hS,hd,hrest⟩:=h
  rw[List.length_cons,Nat.add_right_comm]
  refine wpAnyG_first (us:=us) ho (Region.noSelect_spec hs) (fun c a w=>hQ _ _ ho c a v w) (rs.length+(q1.length+1)) listed a w ?_ hdown (by simpa using hr) hy hS ?_
  ·intro k ok hok hki hun hno
   refine⟨Region.free_spec ho hf k ok hok hki hun hno,fun l hl=>?_⟩
   rw[←hW k hun]at hl
   exact hd rfl _ (mem_of_lookup hl)
  ·exact wpAnyG_of_fork3 hs hQ W0 hl2 hl3 W rs _ _ _ hp' (hdown.list (by simpa using hr)) (fun k hk=>hW k (unlisted_after hk).2) hrest
 | (_,false)::_,_,_,_,hp,_,_,_=>by simp[plan3,planR]at hp
def fork3Ok (ops:Array Oper) (rs:List (Nat×Bool)) (i:Nat) (q1 q2:List (Nat×Bool)) (j:Nat) (q3:List (Nat×Bool)):Bool:=
 Region.noSelect ops&&Nat.beq (rs.length+(q1.length+1)) ops.size&&Nat.beq q2.length q1.length&&Nat.beq q3.length q1.length&&plan3 ops rs i q1 q2 j q3 (Array.replicate ops.size false)
theorem wp_region_fork3 {id:Nat} {a:Act} {w:World} (hm:P.follows .mixedOrders=true) (hQ:∀(i:Nat) (o:Oper),ops[i]?=some o→∀c a v w,Q (.panic c) (a.put o.dst v) w→Q (.panic c) a w) {rs:List (Nat×Bool)} {i j:Nat} {q1 q2 q3:List (Nat×Bool)} (W:List (Nat×List Nat)) (hok:fork3Ok ops rs i q1 q2 j q3=true) {B:Nat}
  (h:PW P ops (fun _ a w=>Both P ops Q B i q1 q2 W a w∧PW P ops Q B true ((j,false)::q3) W a w) B true rs W a { w with drawn:=w.drawn+1 }):(Code.region id ops true).wp P Q a w:=by
 simp only[fork3Ok,Bool.and_eq_true]at hok
 obtain⟨⟨⟨⟨hs,hl1⟩,hl2⟩,hl3⟩,hp⟩:=hok
 have hlen:=Nat.eq_of_beq_eq_true hl1
 refine wp_region_any hm (wpAny_of_G (B:=B) (W:=fun j=>W.lookup j) _ _ _ _ ?_)
 rw[←hlen]
 rw[←hlen]at hp
 refine wpAnyG_of_fork3 hs hQ _ (Nat.eq_of_beq_eq_true hl2) (Nat.eq_of_beq_eq_true hl3) W rs _ _ _ hp (fun j o ho hl=>?_) (fun _ _=>rfl) h
 have hlt:=(Array.getElem?_eq_some_iff.1 ho).1
 rw[hlen]at hl
 simp[hlt]at hl
end fork3
section rule
variable {P:Program} {f:Func} {R:Act→World→Prop} {n:Nat} {k:List Itm} {E:Env} {h r:List (Nat×Obj)} {F:List (List Nat×World)} {Y:Ghost}
def JR2 (P:Program) (f:Func) (R:Act→World→Prop) (n:Nat) (ops:Array Oper) (L0:Nat) (i:Nat) (q1 q2:List (Nat×Bool)) (Wp:List (Nat×List Nat)) (k:List Itm) (E:Env) (h r:List (Nat×Obj)) (F:List (List Nat×World)) (Y:Ghost):Prop:=
 ∀B Hd fps a w,StF n E h r F Y a w fps→(∀b∈fps.flatten,b∈Hd∨B≤b)→RI Hd B L0 h r w→New B L0 h→okWp L0 Wp=true→Both P ops (wpK P f R k) B i q1 q2 (idsW Hd h Wp) a w
theorem J_fork3 (hm:P.follows .mixedOrders=true) {id:Nat} (pl:List Pl) (i j:Nat) (q1 q2 q3:List (Nat×Bool)) (Wp:List (Nat×List Nat)) (keep:List Nat) {E1:(Nat→Nat)→Env} {p1:(Nat→Nat)→List Prop} (hok:fork3Ok (rgOf f id) (pl.map Pl.key) i q1 q2 j q3=true) (hWp:okWp h.length Wp=true)
  (hr:∀nu,(packed (runReg P n nu f id h.length true pl Wp E h r keep),trivL (runReg P n nu f id h.length true pl Wp E h r keep))=(some (E1 nu,h,p1 nu,Wp),trivR (runReg P n nu f id h.length true pl Wp E h r keep))) (hp:∀nu,AllP (p1 nu))
  (H1:∀nu,JR2 P f R n (rgOf f id) h.length i q1 q2 Wp k (E1 nu) h r F Y) (H3:∀nu,JR P f R n (rgOf f id) h.length true ((j,false)::q3) Wp k (E1 nu) h r F Y):J P f R n (.c (.rg id true)::k) E h r F Y:=fun a w ⟨fps,s0⟩=>by
 have s:=s0.drew
 have hH:∀b∈fps.flatten,b∈fps.flatten∨w.heap.size≤b:=fun b hb=>.inl hb
 have hR:RI fps.flatten w.heap.size h.length h r { w with drawn:=w.drawn+1 }:=⟨fun i _ x hx=>⟨s0.own.own.lt (List.mem_of_getElem? hx),fun hm=>s0.gh.disj _ hm (List.mem_map.2 ⟨x,List.mem_of_getElem? hx,rfl⟩)⟩,fun x hx=>⟨s0.own.ro.lt hx,s0.gh.apart x hx⟩,Nat.le_refl _,Nat.le_refl _⟩
 have hN:New w.heap.size h.length h:=fun j hj x hx=>by rw[List.getElem?_eq_none hj]at hx;cases hx
 simp only[wpK,Sk.code]
 refine wp_region_fork3 (B:=w.heap.size) (rs:=pl.map Pl.key) hm (fun i o ho c a v w hq=>absurd hq (wpK_panic _ _ _ _)) (idsW fps.flatten h Wp) hok ?_
 obtain⟨h2,h3⟩:=Prod.mk.inj (hr (fun j=>w.heap.size+j))
 unfold runReg at h2 h3
 split at h2
 ·rename_i E' x' W' p hrun
  rw[hrun]at h3
  simp only[packed,Option.some.injEq,Prod.mk.injEq]at h2
  obtain⟨e1,e2,e3,e4⟩:=h2
  have key:=run_PW (Q:=fun _ a w'=>Both P (rgOf f id) (wpK P f R k) w.heap.size i q1 q2 (idsW fps.flatten h Wp) a w'∧PW P (rgOf f id) (wpK P f R k) w.heap.size true ((j,false)::q3) (idsW fps.flatten h Wp) a w') (rest:=[]) pl Wp E ⟨h,0,[]⟩ E' x' W' p hrun (All_of p h3 (by rw[e3];exact hp _)) hWp a { w with drawn:=w.drawn+1 } s.ag s.own (fun j=>by simp) hR hN fun a' w' hA hO _ hR' hN' hd hW'=>?_
  ·rw[List.append_nil]at key
   exact key
  ·rw[e2]at hO hR' hN' hd
   have hA':Ag n (E1 fun j=>w.heap.size+j) a':=hA.sub (by rw[←e1];exact keepE_sub E' keep)
   have s':=s.go hA' hO hd
   exact⟨H1 _ w.heap.size fps.flatten fps a' w' s' hH hR' hN' hWp,H3 _ w.heap.size fps.flatten fps a' w' s' hH hR' hN' hWp⟩
 ·cases h2
end rule
end Go.Sx
end
section
namespace Go.Sx
open Go
section reads
variable {P:Program} {f:Func} {R:Act→World→Prop} {n:Nat} {kk:List Itm} {E:Env} {h r:List (Nat×Obj)} {F:List (List Nat×World)}
theorem StF.show {Y:Ghost} {a:Act} {w:World} {fps:List (List Nat)} (s:StF n E h r F Y a w fps) (i:Nat) {b:Nat} {o:Obj} (hi:Y.C[i]?=some (cObj b o)):StF n E (h++[(b,o)]) r F ⟨Y.S,Y.C.eraseIdx i,Y.G⟩ a w (fps.eraseIdx i):=by
 obtain⟨fp,hfp,rfl,hb⟩:=s.gh.chs.at hi
 have hm:b∈fps.flatten:=List.mem_flatten.2 ⟨_,List.mem_of_getElem? hfp,by simp⟩
 have hnb:b∉(fps.eraseIdx i).flatten:=fun hc=>by
  obtain⟨j,x,hj,hx,hbx⟩:=mem_erase_flat hc
  exact hj (flat_at s.gh.nodup hx hfp hbx (by simp))
 have hids:(h++[(b,o)]).map (·.1)=h.map (·.1)++[b]:=by simp
 have hS:∀c,Sd Y h fps c→Sd Y (h++[(b,o)]) (fps.eraseIdx i) c:=fun c hc=>⟨hc.1,fun hx=>by
  rw[hids]at hx
  rcases List.mem_append.1 hx with hx|hx
  ·exact hc.2.1 hx
  ·rw[List.mem_singleton]at hx
   subst hx
   exact hc.2.2 hm,fun hx=>hc.2.2 (erase_flat_sub hx)⟩
 have hin:∀x∈h++[(b,o)],x∈h∨x=(b,o):=fun x hx=>by simpa using hx
 refine⟨s.ag,⟨fun x hx=>?_,?_,s.own.ro,fun x hx hc=>?_⟩,s.fr,fun f hf x hx=>?_,
  ⟨s.gh.chs.erase.mono (fun _ _=>rfl) fun c hc _=>⟨hS c hc,rfl⟩,nodup_sublist_flat s.gh.nodup (List.eraseIdx_sublist _ _),fun c hc hx=>?_,fun x hx hc=>s.gh.apart x hx (erase_flat_sub hc),fun f hf c hc=>s.gh.may f hf c (erase_flat_sub hc),fun c hc=>s.gh.lt c (erase_flat_sub hc),fun x hx=>?_,fun c hc=>s.gh.hid c (erase_flat_sub hc),s.gh.top,fun x hx=>(s.gh.g x hx).mono fun c hc _=>⟨hS c hc,rfl⟩⟩⟩
 ·rcases hin x hx with h1|rfl
  ·exact s.own.own x h1
  ·exact hb
 ·rw[hids,List.nodup_append]
  refine⟨s.own.nodup,by simp,fun x hx y hy hxy=>?_⟩
  simp at hy
  subst hy hxy
  exact s.gh.disj _ hm hx
 ·rw[hids]at hc
  rcases List.mem_append.1 hc with hc|hc
  ·exact s.own.apart x hx hc
  ·rw[List.mem_singleton]at hc
   exact s.gh.apart x hx (by rw[hc];exact hm)
 ·rcases hin x hx with h1|rfl
  ·exact s.may f hf x h1
  ·exact s.gh.may f hf _ hm
 ·rw[hids]at hx
  rcases List.mem_append.1 hx with hx|hx
  ·exact s.gh.disj c (erase_flat_sub hc) hx
  ·rw[List.mem_singleton]at hx
   subst hx
   exact hnb hc
 ·rcases hin x hx with h1|rfl
  ·exact s.gh.own x h1
  ·exact s.gh.hid _ hm
end reads
end Go.Sx
end
section
namespace Go.Sx
open Go
section
variable {P:Program} {f:Func} [Pan f] {R:Act→World→Prop} {n:Nat} [Dfr n] {k:List Itm} {E:Env} {h r:List (Nat×Obj)} {F:List (List Nat×World)} {Y:Ghost}
theorem JN {S0:Nat→Prop} {C0:List Chunk} {G0:List (Value×D)} {ops:Array Oper} {L0:Nat} {ck:Bool} {plan:List (Nat×Bool)} {Wp:List (Nat×List Nat)} (C':List Chunk) (H:JR P f R n ops L0 ck plan Wp k E h r F ⟨S0,C',G0⟩) (hC:C0=C':=by kernel_rfl):JR P f R n ops L0 ck plan Wp k E h r F ⟨S0,C0,G0⟩:=by
 subst hC
 exact H
end
def leaveR (P:Program) (fn:Func) (Rr:Ending→World→Prop) (u:FrameMode) (a:Act) (w:World):Prop:=∀tmps:Array Value,tmps.size=a.tmps.size→(∀p∈pins fn,tmps.getD p undef=a.tmps.getD p undef)→Leaves P fn tmps Rr a.defers u w
theorem pins_put {fn:Func} {a:Act} {d:Option Tmp} {v:Value} (hd:pinFree fn d=true):∀p∈pins fn,(a.put d v).tmps.getD p undef=a.tmps.getD p undef:=by
 intro p hp
 cases d with
 | none=>rfl
 | some d=>
  have hne:d≠p:=by
   rintro rfl
   simp[pinFree,hp]at hd
  simp only[Act.put,Array.getD_eq_getD_getElem?,Array.getElem?_setIfInBounds,if_neg hne]
@[reducible] def panLeave (P:Program) (fn:Func) (Rr:Ending→World→Prop):Pan fn where
 pan c a w:=leaveR P fn Rr (.panicking c) a w
 put c a d v w hd h tmps hs ht:=by
  have:=h tmps (hs.trans (by cases d <;> simp[Act.put])) fun p hp=>(ht p hp).trans (pins_put hd p hp).symm
  cases d <;> exact this
theorem St.frame {n n':Nat} [Dfr n] [Dfr n'] {E E':Env} {h r:List (Nat×Obj)} {F:List (List Nat×World)} {Y:Ghost} {a a':Act} {w:World} (s:St n E h r F Y a w) (hA:Ag n' E' a'):St n' E' h r F Y a' w:=by
 obtain⟨fps,s⟩:=s
 exact⟨fps,hA,s.own,s.fr,s.may,s.gh⟩
theorem keepE_look (E:Env) {t:Nat} {ev:EV}:∀ts:List Nat,(keepE E ts).lookup t=some ev→t∈ts
 | [],h=>by cases h
 | u::ts,h=>by
  unfold keepE at h
  split at h
  ·by_cases ht:t=u
   ·subst ht
    exact List.mem_cons_self ..
   ·rw[lookup_cons_ne _ _ ht]at h
    exact List.mem_cons_of_mem _ (keepE_look E ts h)
  ·exact List.mem_cons_of_mem _ (keepE_look E ts h)
theorem Ag.pinned {n:Nat} {inst:Dfr n} {fn:Func} {E:Env} {a:Act} {tmps:Array Value} (hA:@Ag n inst E a) (hs:tmps.size=a.tmps.size) (ht:∀p∈pins fn,tmps.getD p undef=a.tmps.getD p undef):@Ag n (instDfr n) (keepE E (pins fn)) ⟨tmps,[]⟩:=by
 refine @Ag.mk n (instDfr n) _ _ rfl (hs.trans hA.size) fun t ev he=>?_
 have h1:=keepE_look E _ he
 have h2:=hA.look t ev (keepE_sub E _ t ev he)
 have h3:=ht t h1
 have hlt:t<a.tmps.size:=(Array.getElem?_eq_some_iff.1 h2).1
 have hlt2:t<tmps.size:=by omega
 simp only[Array.getD_eq_getD_getElem?,h2,Array.getElem?_eq_getElem hlt2,Option.getD_some]at h3
 rw[Array.getElem?_eq_getElem hlt2,h3]
end Go.Sx
end
section
namespace Go.Sx
open Go
def cBox {α:Type} (p:α→Prop) (G:α→List (Value×D)) (C:α→List Chunk):Chunk where
 P w S fp:=∃x fps,fp=fps.flatten∧p x∧(∀y∈G x,Rep w S y.1 y.2)∧Chs w S (C x) fps
 mono:=by
  intro w w' S S' fp h hb hS
  obtain⟨x,fps,h1,h2,h3,h4⟩:=h
  exact⟨x,fps,h1,h2,fun y hy=>(h3 y hy).mono hS,h4.mono (fun b hm=>hb b (by rw[h1];exact hm)) hS⟩
section boxes
variable {h r:List (Nat×Obj)} {F:List (List Nat×World)}
theorem stp_openbox {S0:Nat→Prop} {C0:List Chunk} {G0:List (Value×D)} (q:Nat) {α:Type} {p:α→Prop} {G:α→List (Value×D)} {C:α→List Chunk} (hq:C0[q]?=some (cBox p G C)) :
  Stp h r F ⟨S0,C0,G0⟩ p fun x=>⟨S0,C0.eraseIdx q++C x,G0++G x⟩:=by
 intro w fps hO H
 obtain⟨fp,hfp,x,fpsI,rfl,hp,hG,hP⟩:=H.chs.at hq
 have hperm:(fps.eraseIdx q++fpsI).flatten.Perm fps.flatten:=by
  rw[List.flatten_append]
  exact List.perm_append_comm.trans (flat_out hfp).symm
 have hsub:∀b∈(fps.eraseIdx q++fpsI).flatten,b∈fps.flatten:=fun b hb=>hperm.mem_iff.1 hb
 have hS:∀b,Sd ⟨S0,C0,G0⟩ h fps b→Sd ⟨S0,C0,G0⟩ h (fps.eraseIdx q++fpsI) b:=fun b hb=>Sd_sub hsub hb
 refine⟨x,_,hp,hsub,H.less hsub (hperm.nodup_iff.2 H.nodup) ((H.chs.erase.app hP).mono (fun _ _=>rfl) fun b hb _=>⟨hS b hb,rfl⟩) fun y hy=>?_⟩
 rcases List.mem_append.1 hy with hy|hy
 ·exact(H.g y hy).mono fun b hb _=>⟨hS b hb,rfl⟩
 ·exact(hG y hy).mono fun b hb _=>⟨hS b hb,rfl⟩
theorem others_app_nodup (n:Nat) {ps:List Nat} (hnd:ps.Nodup):(others n ps++ps).Nodup:=by
 rw[List.nodup_append]
 refine⟨List.Nodup.sublist List.filter_sublist List.nodup_range,hnd,fun x hx y hy hxy=>?_⟩
 subst hxy
 simp[others]at hx
 exact hx.2 hy
theorem stp_closebox {S0:Nat→Prop} {C0:List Chunk} {G0:List (Value×D)} (ps:List Nat) {α:Type} {p:α→Prop} {G:α→List (Value×D)} {C:α→List Chunk} (x:α) (hC:pick C0 ps=C x) (hG:∀y∈G x,y∈G0) (hp:p x) (hnd:ps.Nodup:=by decide) :
  Stp h r F ⟨S0,C0,G0⟩ (fun _:Unit=>True) fun _=>⟨S0,restC C0 ps++[cBox p G C],G0⟩:=by
 intro w fps hO H
 have hE:(pick fps (others C0.length ps)++[(pick fps ps).flatten]).flatten=(pick fps (others C0.length ps++ps)).flatten:=by
  rw[pick_app,List.flatten_append,List.flatten_append]
  simp
 have hsub:∀b∈(pick fps (others C0.length ps)++[(pick fps ps).flatten]).flatten,b∈fps.flatten:=fun b hb=>by
  rw[hE]at hb
  exact pick_flat_sub hb
 have hS:∀b,Sd ⟨S0,C0,G0⟩ h fps b→Sd ⟨S0,C0,G0⟩ h (pick fps (others C0.length ps)++[(pick fps ps).flatten]) b:=fun b hb=>Sd_sub hsub hb
 have hj:Chs w (Sd ⟨S0,C0,G0⟩ h fps) [cBox p G C] [(pick fps ps).flatten]:=
  ⟨⟨x,_,rfl,hp,fun y hy=>H.g y (hG y hy),hC ▸ H.chs.pick ps⟩,trivial⟩
 refine⟨(),_,trivial,hsub,H.less hsub ?_ (((H.chs.pick _).app hj).mono (fun _ _=>rfl) fun b hb _=>⟨hS b hb,rfl⟩) fun y hy=>(H.g y hy).mono fun b hb _=>⟨hS b hb,rfl⟩⟩
 rw[hE]
 exact pick_flat_nodup H.nodup (others_app_nodup _ hnd)
end boxes
end Go.Sx
end
section
namespace Go.Sx
open Go
section frames
variable {w w':World} {S:Nat→Prop} {M M1:List Nat} {e:Ending} {v:Value} {C C1 C2:List Chunk} {G G0:List (Value×D)}
theorem Pre.no (h:Pre w S M C):∀b∈M,¬S b:=fun b hb=>by
 obtain⟨_,_,_,_,h4⟩:=h
 exact(h4 b hb).2
theorem Ret.more (h:Ret M w S w' e v C G) (hM:∀b∈M,¬S b) (hG:AllG w S G0):Ret M w S w' e v C (G++G0):=by
 obtain⟨h1,h2,fps,h3,h4,h5,h6⟩:=h
 refine⟨h1,h2,fps,h3,h4,h5,fun x hx=>?_⟩
 rcases List.mem_append.1 hx with hx|hx
 ·exact h6 x hx
 ·refine(hG x hx).mono fun b hb hlt=>⟨⟨.inl hb,fun hf=>?_⟩,h2.block b hlt fun hm=>hM b hm hb⟩
  rcases(h5 b hf).1 with h7|h7
  ·exact hM b h7 hb
  ·omega
theorem Ret.less (h:Ret M w S w' e v C G) (hG:∀x∈G0,x∈G):Ret M w S w' e v C G0:=by
 obtain⟨h1,h2,fps,h3,h4,h5,h6⟩:=h
 exact⟨h1,h2,fps,h3,h4,h5,fun x hx=>h6 x (hG x hx)⟩
theorem Pre.open {α:Type} {p:α→Prop} {Gx:α→List (Value×D)} {Cx:α→List Chunk} (h:Pre w S M (cBox p Gx Cx::C)):∃x,p x∧AllG w S (Gx x)∧Pre w S M (Cx x++C):=by
 obtain⟨fps,hc,rfl,hn,hs⟩:=h
 match fps,hc with
 | _::fps,⟨⟨x,fi,rfl,hp,hG,hC⟩,hr⟩=>exact⟨x,hp,hG,fi++fps,hC.app hr,by simp,hn,hs⟩
theorem Ret.close {α:Type} {p:α→Prop} {Gx:α→List (Value×D)} {Cx:α→List Chunk} (x:α) (h:Ret M w S w' e v (Cx x++C) G) (hp:p x) (hG:∀y∈Gx x,y∈G):Ret M w S w' e v (cBox p Gx Cx::C) G:=by
 obtain⟨h1,h2,fps,h3,h4,h5,h6⟩:=h
 obtain⟨f1,f2,rfl,h7,h8⟩:=h3.split
 have he:(f1.flatten::f2).flatten=(f1++f2).flatten:=by simp
 have hr:retS S M w (f1.flatten::f2)=retS S M w (f1++f2):=by unfold retS;rw[he]
 refine⟨h1,h2,f1.flatten::f2,?_,by rw[he];exact h4,by rw[he];exact h5,by rw[hr];exact h6⟩
 rw[hr]
 exact⟨⟨x,f1,rfl,hp,fun y hy=>h6 y (hG y hy),h7⟩,h8⟩
theorem Chs.perm {cs cs':List Chunk} (hp:cs.Perm cs'):∀{fps:List (List Nat)},Chs w S cs fps→∃fps',fps'.flatten.Perm fps.flatten∧Chs w S cs' fps':=by
 induction hp with
 | nil=>exact fun{fps} h=>⟨fps,.refl _,h⟩
 | cons c _ ih=>
  intro fps h
  match fps,h with
  | fp::fps,⟨h1,h2⟩=>
   obtain⟨f',hp,h3⟩:=ih h2
   exact⟨fp::f',by simpa using hp.append_left fp,h1,h3⟩
 | swap a b _=>
  intro fps h
  match fps,h with
  | f1::f2::fps,⟨h1,h2,h3⟩=>exact⟨f2::f1::fps,by simp only[List.flatten_cons,←List.append_assoc];exact List.perm_append_comm.append_right _,h2,h1,h3⟩
 | trans _ _ ih1 ih2=>
  intro fps h
  obtain⟨f1,hp1,h1⟩:=ih1 h
  obtain⟨f2,hp2,h2⟩:=ih2 h1
  exact⟨f2,hp2.trans hp1,h2⟩
theorem Pre.perm {C':List Chunk} (h:Pre w S M C) (hp:C.Perm C'):∃M',M'.Perm M∧Pre w S M' C':=by
 obtain⟨fps,hc,rfl,hn,hs⟩:=h
 obtain⟨f',hp',hc'⟩:=hc.perm hp
 exact⟨_,hp',f',hc',rfl,hp'.nodup_iff.2 hn,fun b hb=>hs b (hp'.mem_iff.1 hb)⟩
theorem retS_eq {M':List Nat} {f f':List (List Nat)} (hM:∀b,b∈M'↔b∈M) (hf:∀b,b∈f'.flatten↔b∈f.flatten):retS S M' w f'=retS S M w f:=by
 funext b
 simp only[retS,newS,hM,hf]
theorem Ret.perm {C':List Chunk} {M':List Nat} (h:Ret M w S w' e v C G) (hp:C.Perm C') (hM:M'.Perm M):Ret M' w S w' e v C' G:=by
 obtain⟨h1,h2,fps,h3,h4,h5,h6⟩:=h
 obtain⟨f',hp',hc'⟩:=h3.perm hp
 have hr:retS S M' w f'=retS S M w fps:=retS_eq (fun b=>hM.mem_iff) fun b=>hp'.mem_iff
 refine⟨h1,h2.mono fun x hx=>.inl (hM.mem_iff.2 hx),f',by rw[hr];exact hc',hp'.nodup_iff.2 h4,fun b hb=>?_,by rw[hr];exact h6⟩
 rw[hM.mem_iff]
 exact h5 b (hp'.mem_iff.1 hb)
theorem Pre.part (h:Pre w S M (C1++C2)):∃M1,Pre w S M1 C1∧∀{w':World} {e:Ending} {v:Value} {C':List Chunk} {G:List (Value×D)},Ret M1 w S w' e v C' G→Ret M w S w' e v (C'++C2) G:=by
 obtain⟨fps,hc,rfl,hn,hs⟩:=h
 obtain⟨f1,f2,rfl,hc1,hc2⟩:=hc.split
 rw[List.flatten_append]at hn hs
 obtain⟨hn1,hn2,hn3⟩:=List.nodup_append.1 hn
 refine⟨f1.flatten,⟨f1,hc1,rfl,hn1,fun b hb=>hs b (List.mem_append.2 (.inl hb))⟩,?_⟩
 intro w' e v C' G h
 obtain⟨h1,h2,fps,h3,h4,h5,h6⟩:=h
 have hout:∀b∈f2.flatten,b∉f1.flatten∧b<w.heap.size∧¬S b:=fun b hb=>⟨fun hm=>hn3 b hm b hb rfl,hs b (List.mem_append.2 (.inr hb))⟩
 have hS:∀b,retS S f1.flatten w fps b→b<w'.heap.size→retS S (f1++f2).flatten w (fps++f2) b∧w'.heap[b]?=w'.heap[b]?:=fun b hb _=>by
  obtain⟨hb1,hb2⟩:=hb
  refine⟨⟨?_,?_⟩,rfl⟩
  ·rcases hb1 with h|h|h
   ·exact .inl h
   ·exact .inr (.inl (by rw[List.flatten_append];exact List.mem_append.2 (.inl h)))
   ·exact .inr (.inr h)
  ·rw[List.flatten_append]
   intro hm
   rcases List.mem_append.1 hm with hm|hm
   ·exact hb2 hm
   ·obtain⟨ha,hb,hc⟩:=hout b hm
    rcases hb1 with h|h|h
    ·exact hc h
    ·exact ha h
    ·omega
 have hfr:Fr f1.flatten w w':=h2
 refine⟨h1,h2.mono fun x hx=>.inl (by rw[List.flatten_append];exact List.mem_append.2 (.inl hx)),fps++f2,?_,?_,?_,?_⟩
 ·refine(h3.mono (fun _ _=>rfl) hS).app (hc2.mono (fun b hb=>hfr.block b (hout b hb).2.1 (hout b hb).1) fun b hb hlt=>⟨⟨.inl hb,?_⟩,hfr.block b hlt fun hm=>(hs b (List.mem_append.2 (.inl hm))).2 hb⟩)
  rw[List.flatten_append]
  intro hm
  rcases List.mem_append.1 hm with hm|hm
  ·rcases(h5 b hm).1 with h|h
   ·exact(hs b (List.mem_append.2 (.inl h))).2 hb
   ·omega
  ·exact(hout b hm).2.2 hb
 ·rw[List.flatten_append]
  refine List.nodup_append.2 ⟨h4,hn2,fun a ha b hb hab=>?_⟩
  subst hab
  rcases(h5 a ha).1 with h|h
  ·exact(hout a hb).1 h
  ·have:=(hout a hb).2.1
   omega
 ·intro b hb
  rw[List.flatten_append]at hb ⊢
  rcases List.mem_append.1 hb with hb|hb
  ·obtain⟨h7,h8⟩:=h5 b hb
   exact⟨h7.imp (fun h=>List.mem_append.2 (.inl h)) id,h8⟩
  ·exact⟨.inl (List.mem_append.2 (.inr hb)),Nat.lt_of_lt_of_le (hout b hb).2.1 hfr.size⟩
 ·exact fun x hx=>(h6 x hx).mono hS
theorem Pre.star {cs:List Chunk} (h:Pre w S M (cStar cs::C)):Pre w S M (cs++C):=by
 obtain⟨fps,hc,rfl,hn,hs⟩:=h
 match fps,hc with
 | _::fps,⟨⟨fi,rfl,hC⟩,hr⟩=>exact⟨fi++fps,hC.app hr,by simp,hn,hs⟩
theorem Ret.star {cs:List Chunk} (h:Ret M w S w' e v (cs++C) G):Ret M w S w' e v (cStar cs::C) G:=by
 obtain⟨h1,h2,fps,h3,h4,h5,h6⟩:=h
 obtain⟨f1,f2,rfl,h7,h8⟩:=h3.split
 have he:(f1.flatten::f2).flatten=(f1++f2).flatten:=by simp
 have hr:retS S M w (f1.flatten::f2)=retS S M w (f1++f2):=by unfold retS;rw[he]
 refine⟨h1,h2,f1.flatten::f2,?_,by rw[he];exact h4,by rw[he];exact h5,by rw[hr];exact h6⟩
 rw[hr]
 exact⟨⟨f1,rfl,h7⟩,h8⟩
theorem set_perm {α:Type} {c':α}:∀{cs:List α} {i:Nat},i<cs.length→(c'::cs.eraseIdx i).Perm (cs.set i c')
 | _::_,0,_=>.refl _
 | a::cs,i+1,h=>(List.Perm.swap a c' _).trans ((set_perm (Nat.lt_of_succ_lt_succ h)).cons a)
theorem Pre.take {cs:List Chunk} {i:Nat} {c:Chunk} (h:Pre w S M (cStar cs::C)) (hi:cs[i]?=some c):∃M1,Pre w S M1 [c]∧∀{w':World} {e:Ending} {v:Value} {c':Chunk} {C2:List Chunk} {G:List (Value×D)},Ret M1 w S w' e v (c'::C2) G→Ret M w S w' e v (cStar (cs.set i c')::C++C2) G:=by
 obtain⟨hl,he⟩:=List.getElem?_eq_some_iff.1 hi
 have h0:=set_perm (c':=c) hl
 rw[←he,List.set_getElem_self]at h0
 rw[he]at h0
 obtain⟨M',hM,h2⟩:=h.star.perm (C':=[c]++(cs.eraseIdx i++C)) (by simpa using h0.symm.append_right C)
 obtain⟨M1,h3,h4⟩:=h2.part
 refine⟨M1,h3,fun{w' e v c' C2 G} hr=>?_⟩
 refine((h4 hr).perm (C':=cs.set i c'++(C++C2)) ?_ hM.symm).star
 have h5:=set_perm (c':=c') hl
 have h7:(C2++(cs.eraseIdx i++C)).Perm (cs.eraseIdx i++(C++C2)):=by
  rw[←List.append_assoc (cs.eraseIdx i)]
  exact List.perm_append_comm
 exact(List.Perm.cons c' h7).trans (h5.append_right _)
theorem Pre.open1 {α:Type} {p:α→Prop} {Gx:α→List (Value×D)} {Cx:α→List Chunk} (h:Pre w S M [cBox p Gx Cx]):∃x,p x∧AllG w S (Gx x)∧Pre w S M (Cx x):=by
 obtain⟨x,h1,h2,h3⟩:=h.open
 exact⟨x,h1,h2,by rwa[List.append_nil]at h3⟩
theorem Ret.close1g {α:Type} {p:α→Prop} {Gx:α→List (Value×D)} {Cx:α→List Chunk} (x:α) (h:Ret M w S w' e v (Cx x) G) (hp:p x) (hG:∀y∈Gx x,y∈G):Ret M w S w' e v [cBox p Gx Cx] G:=
 Ret.close x (by rwa[List.append_nil]) hp hG
theorem Ret.close1 {α:Type} {p:α→Prop} {Gx:α→List (Value×D)} {Cx:α→List Chunk} (x:α) (h:Ret M w S w' e v (Cx x) G) (hp:p x) (hG:AllG w S (Gx x)) (hM:∀b∈M,¬S b):Ret M w S w' e v [cBox p Gx Cx] G:=
 ((h.more hM hG).close1g x hp fun y hy=>List.mem_append.2 (.inr hy)).less fun x hx=>List.mem_append.2 (.inl hx)
theorem Pre.part1 {c:Chunk} (h:Pre w S M (c::C)):∃M1,Pre w S M1 [c]∧∀{w':World} {e:Ending} {v:Value} {c':Chunk} {G:List (Value×D)},Ret M1 w S w' e v [c'] G→Ret M w S w' e v (c'::C) G:=by
 obtain⟨M1,h1,h2⟩:=Pre.part (C1:=[c]) h
 exact⟨M1,h1,fun hR=>h2 hR⟩
theorem AllG.zero (h:AllG w S G):AllG (zero w) S G:=fun x hx=>(h x hx).mono fun _ hb _=>⟨hb,rfl⟩
theorem Ret.add (h:Ret M w S w' e v C G) (c:Chunk) (hc:∀w S,c.P w S []):Ret M w S w' e v (C++[c]) G:=by
 obtain⟨h1,h2,fps,h3,h4,h5,h6⟩:=h
 have he:(fps++[[]]).flatten=fps.flatten:=by simp
 have hr:retS S M w (fps++[[]])=retS S M w fps:=by unfold retS;rw[he]
 refine⟨h1,h2,fps++[[]],?_,by rw[he];exact h4,by rw[he];exact h5,by rw[hr];exact h6⟩
 rw[hr]
 exact h3.app ⟨hc _ _,trivial⟩
theorem Ret.unstar {cs:List Chunk} (h:Ret M w S w' e v (cStar cs::C) G):Ret M w S w' e v (cs++C) G:=by
 obtain⟨h1,h2,fps,h3,h4,h5,h6⟩:=h
 match fps,h3 with
 | _::fps,⟨⟨fi,rfl,hC⟩,hr⟩=>
  have he:(fi++fps).flatten=(fi.flatten::fps).flatten:=by simp
  have hq:retS S M w (fi++fps)=retS S M w (fi.flatten::fps):=by unfold retS;rw[he]
  refine⟨h1,h2,fi++fps,?_,by rw[he];exact h4,by rw[he];exact h5,by rw[hq];exact h6⟩
  rw[hq]
  exact hC.app hr
theorem Ret.push {c:Chunk} {cs:List Chunk} (h:Ret M w S w' e v [c,cStar cs] G):Ret M w S w' e v [cStar (cs++[c])] G:=by
 have h1:=(h.perm (C':=[cStar cs,c]) (List.Perm.swap _ _ _) (.refl M)).unstar
 exact Ret.star (by simpa using h1)
theorem Pre.frame (h:Pre w S M C):∀{w':World} {e:Ending} {v:Value} {C':List Chunk} {G:List (Value×D)},Ret [] w S w' e v C' G→Ret M w S w' e v (C'++C) G:=by
 obtain⟨M1,h1,h2⟩:=Pre.part (C1:=[]) (C2:=C) h
 obtain⟨fps,hc,rfl,_⟩:=h1
 match fps,hc with
 | [],_=>exact fun{_ _ _ _ _} hR=>h2 hR
theorem Ret.freeze {u:Value} {t k:Nat} {rows:List (List D)} (h:Ret M w S w' e v (cAcc u t k rows::C) G):Ret M w S w' e v C (G++[(u,.sl k rows)]):=by
 obtain⟨h1,h2,fps,h3,h4,h5,h6⟩:=h
 match fps,h3 with
 | fp::fps,⟨⟨hk,hP⟩,hr⟩=>
  rw[List.flatten_cons]at h4 h5
  obtain⟨hn1,hn2,hn3⟩:=List.nodup_append.1 h4
  have hsub:∀b,retS S M w (fp::fps) b→retS S M w fps b:=fun b hb=>⟨hb.1,fun hm=>hb.2 (by rw[List.flatten_cons,List.mem_append];exact .inr hm)⟩
  refine⟨h1,h2,fps,hr.mono (fun _ _=>rfl) fun b hb _=>⟨hsub b hb,rfl⟩,hn2,fun b hb=>h5 b (List.mem_append.2 (.inr hb)),fun x hx=>?_⟩
  rcases List.mem_append.1 hx with hx|hx
  ·exact(h6 x hx).mono fun b hb _=>⟨hsub b hb,rfl⟩
  ·rw[List.mem_singleton]at hx
   subst hx
   rcases hP with ⟨rfl,rfl,_⟩|⟨g,cap,cur,xs,rfl,rfl,hg,hrow,hR⟩
   ·exact .nil
   ·refine Rep.of_row hg ⟨.inr (h5 g (by simp)).1,fun hm=>hn3 g (by simp) g hm rfl⟩ hrow hk hR.len fun i j row d h1 h2=>?_
    obtain⟨u,hu,hr⟩:=hR.rep i j row d h1 h2
    exact⟨u,hu,hr.mono fun b hb _=>⟨hsub b hb,rfl⟩⟩
end frames
end Go.Sx
end
section
namespace Go.Proofs.YtmkapocibaojdaaGreatDoor
open Go Go.Sx
set_option maxHeartbeats 4000000 in
theorem vOwnC {w0:World} {S:Nat→Prop} {a1 a2:Option Addr} {n1 c1 n2 c2:Nat} {c:ComT} (h1:Rep w0 S (.slice a1 n1 c1) (dInts c.when)) (h2:Rep w0 S (.slice a2 n2 c2) (.sl 7 (c.ops.map eOp))) (hl1:c.when.length≤1000000) (hl2:c.ops.length≤1000000) (hl3:∀o∈c.ops,o.dots.length≤1000000) :
  Calls Tryz.prog 84 #[.agg #[.slice a1 n1 c1,.int .i64 c.place,.slice a2 n2 c2]] w0 fun e w'=>∃u1 d1 u2 d2,Ret [] w0 S w' e (.agg #[.slice u1 n1 d1,.int .i64 c.place,.slice u2 n2 d2]) [cAcc (.slice u1 n1 d1) 3 1 (c.when.map eI),cAcc (.slice u2 n2 d2) 55 7 (c.ops.map eOp)] []:=by
 obtain rfl:=rep_ints_len h1
 have e2:=h2.slen
 rw[List.length_map]at e2
 subst e2
 refine epG Tryz.func84 bd84 (args:=[.agg #[.slice a1 c.when.length c1,.int .i64 c.place,.slice a2 c.ops.length c2]]) (G:=[(_,dInts c.when),(_,.sl 7 (c.ops.map eOp))]) (by kernel_rfl) (.cons h1 (.cons h2 (.nil _ _))) ?_
 refine Zv [.wr 0 [] 0,.wr 1 [] 0] [] [0] (fun nu1=>[zP 1 (nu1 0),zP 2 (nu1 1)]) o0 (fun nu1=>[(nu1 0,.cells #[.slice a1 c.when.length c1,nI c.place,.slice a2 c.ops.length c2] 35 (0,0)),(nu1 1,.cells #[.slice none 0 0,nI 0,.slice none 0 0] 35 (0,0))]) (fun nu1=>?_)
 refine jS [(0,true),(1,true),(2,false),(3,true),(4,false)] [] ?_
 refine Ya [zR 0,.rd 1 [.o 0 none] 0 0] [] [zS 5 a1 c.when.length c1] ?_
 refine Yc 101 #[.slice a1 c.when.length c1] (some 6) fun w S hG=>?_
 refine(cloneInts (hG.at 0 rfl) hl1).mono ?_
 rintro e1 w1 ⟨u1,d1,hR⟩
 refine⟨_,_,_,hR,?_⟩
 try simp only[aQ]
 refine Ym [zR 3,.wr 4 [.o 0 none] 0] [6,5] (fun _=>[]) (fun _=>[(0,.cells #[.slice u1 c.when.length d1,nI c.place,.slice a2 c.ops.length c2] 35 (0,0))]) o0 [] (fun _=>?_)
 refine JR_end ?_
 refine jS [(0,true),(1,true),(2,false),(3,true),(4,false)] [] ?_
 refine Ya [zR 0,.rd 1 [.o 0 none] 0 0] [] [zS 9 a2 c.ops.length c2] ?_
 refine Yc 142 #[.slice a2 c.ops.length c2] (some 10) fun w S hG=>?_
 refine(cloneOps (hG.at 1 rfl) hl2).mono ?_
 rintro e3 w3 ⟨u2,d2,hR⟩
 refine⟨_,_,_,hR,?_⟩
 try simp only[aQ]
 refine Ym [zR 3,.wr 4 [.o 0 none] 0] [10,9] (fun _=>[]) (fun _=>[(0,.cells #[.slice u1 c.when.length d1,nI c.place,.slice u2 c.ops.length d2] 35 (0,0))]) o0 [] (fun _=>?_)
 refine JR_end (J_seq ?_)
 refine Zs [zR 0,.rd 1 [.o 0 none] 0 0,zR 2,zR 3] [] [zI 14 (↑c.ops.length:Int),zI 15 0] ?_
 refine J_block ?_
 refine J_loopx (fun i:Int=>[zP 1 (nu1 0),zP 2 (nu1 1),zI 14 (↑c.ops.length:Int),zI 15 i]) (fun i:Int=>[(nu1 0,.cells #[.slice u1 c.when.length d1,nI c.place,.slice u2 c.ops.length d2] 35 (0,0)),(nu1 1,.cells #[.slice none 0 0,nI 0,.slice none 0 0] 35 (0,0))]) (fun i:Int=>[cAcc (.slice u1 c.when.length d1) 3 1 (List.map eI c.when),cAcc (.slice u2 c.ops.length d2) 55 7 (List.map eOp c.ops)]) (fun i:Int=>[(.slice a1 c.when.length c1,(dInts c.when)),(.slice a2 c.ops.length c2,(D.sl 7 (List.map eOp c.ops)))]) (fun i:Int=>(c.ops.length - i).toNat) (fun i:Int=>(0≤i∧i≤c.ops.length)) 0 [1,2,14,15] [0,1] [0,1] [0,1] ?_ (by kernel_rfl) rfl rfl rfl ?_
 ·exact⟨by omega,by omega⟩
 rintro i ⟨hi0,hi⟩
 refine Zs [zR 0] [] [zB 16 (decide (i<(↑c.ops.length:Int)))] ?_
 refine J_seq ?_
 refine cC (t:=decide (i<(↑c.ops.length:Int))) (fun hlt=>?_) (fun hlt=>?_)
 ·have hlt2:i<c.ops.length:=by simpa using hlt
  obtain⟨o,ho⟩:∃o,c.ops[i.toNat]?=some o:=⟨_,List.getElem?_eq_getElem (by omega)⟩
  refine J_openacc 1 rfl (by intro h0;rw[List.map_eq_nil_iff]at h0;rw[h0]at ho;simp at ho) fun g cur xs hu _ _ hrow=>?_
  subst hu
  refine J_stpx (stp_readrows 1 rfl i.toNat (map_at ho)) fun ls hls=>?_
  obtain⟨hls1,hls2⟩:=hls
  obtain⟨⟨da,dc⟩,rfl⟩:∃l0,ls=[l0]:=List.length_eq_one_iff.1 hls1
  have hcur:cur[0+i.toNat*7+6]?=some (.slice da (o.dots.map eDot).length dc):=by rw[Nat.zero_add];exact hrow.atx (hls2 6 _ rfl)
  have hsz:0+i.toNat*7+6+1≤cur.size:=(Array.getElem?_eq_some_iff.1 hcur).1
  try simp only[aQ]
  refine J_skip ?_
  try simp only[aQ]
  refine J_seq ?_
  try simp only[aQ]
  refine J_block ?_
  try simp only[aQ]
  refine J_seq ?_
  try simp only[aQ]
  refine Za [zR 0,zR 1] [16] [zI 3 i] ?_
  try simp only[aQ]
  refine jT [(0,true),(1,true),(2,true),(3,true),(4,true),(5,true),(6,true),(7,true),(8,true),(9,false),(10,true),(11,true),(12,false)] [(12,[2])] ?_
  refine Yp [zR 0,.rd 1 [.o 0 none] 0 0,zR 2,zR 3,.rd 4 [.o 0 none] 0 0,zR 5,.rd 6 [] 0 2,zR 7,.rd 8 [.o 2 (some (.slice da ((List.map eDot o.dots).length) dc))] 0 0] [] [zS 19 (sA g 0) c.ops.length d2,zI 20 i,zS 26 da ((List.map eDot o.dots).length) dc] (oC hi0 (oC hlt2 (oC hcur oN))) ?_
  refine Yc 143 #[.slice da ((List.map eDot o.dots).length) dc] (some 27) fun w S hG=>?_
  refine(cloneDots (xs:=o.dots) (hG.at 2 rfl) (hl3 o (List.mem_of_getElem? ho))).mono ?_
  rintro e4 w4 ⟨u3,d3,hR⟩
  refine⟨_,_,_,hR,?_⟩
  try simp only[aQ]
  refine Yn [.rd 10 [] 0 2,zR 11,.wr 12 [.o 2 (some (.slice u3 ((List.map eDot o.dots).length) d3))] 0] [27,19,20,26] (fun _=>[]) (fun _=>[(2,.cells (cur.setIfInBounds (0+i.toNat*7+6) (Value.slice u3 (List.map eDot o.dots).length d3)) 55 (0,0))]) o0 [] (fun _=>(oC hi0 (oC hlt2 (oC (show(Value.slice u3 (List.map eDot o.dots).length d3).oneCell'=true from ?_) (oC (show(0:Nat)+i.toNat*7+(6:Nat)<cur.size from by omega) oN))))) (fun _=>?_)
  ·rfl
  try simp only[aQ]
  refine JR_end ?_
  try simp only[aQ]
  refine J_eb ?_
  try simp only[aQ]
  refine Zp [.rd 0 [] 0 1,zR 1] [] [zI 15 (i+1)] (oC (show IntKind.i64.wrap (i+1)=i+1 from wrap_i64 (by omega) (by omega)) oN) ?_
  try simp only[aQ]
  refine J_stp (stp_freeze 2 rfl) ?_
  have hsame:(List.map eOp c.ops).set i.toNat ((eOp o).set 6 (.sl 3 (o.dots.map eDot)))=List.map eOp c.ops:=set_same (map_at ho)
  refine J_stp (stp_setrows 1 3 i.toNat 6 rfl hrow.len (map_at ho) (by decide) rfl) ?_
  rw[hsame]
  refine J_hide 2 rfl ?_
  have hrow2:Row (cur.setIfInBounds (0+i.toNat*7+6) (.slice u3 (o.dots.map eDot).length d3)) d2 (c.ops.map eOp).length 7 (xs.set (i.toNat*7+6) (.slice u3 (o.dots.map eDot).length d3)):=by rw[Nat.zero_add];exact hrow.set1 _ _
  refine J_stp (stp_closeacc 2 1 rfl rfl hrow2 (by decide)) ?_
  rw[show(List.map eOp c.ops).length=c.ops.length from List.length_map ..]
  refine J_backx (i+1) [1,2,14,15] [0,1] [0,1] [0,1] ?_ ?_ (by kernel_rfl) rfl rfl rfl
  ·exact⟨by omega,by omega⟩
  ·omega
 ·refine J_exit rfl ?_
  refine Zv [.rd 0 (hnO 0 3) 0 0,.wr 1 (hnO 1 3) 0] [(1,[1])] [16,1,14,15] (fun _=>[]) (fun _=>[(1,.cells #[.slice u1 c.when.length d1,nI c.place,.slice u2 c.ops.length d2] 35 (0,0))]) o0 (fun _=>?_)
  refine Yr [(hnO 1 3)] (.agg #[.slice u1 c.when.length d1,nI c.place,.slice u2 c.ops.length d2]) fun a w s=>?_
  exact⟨_,_,_,_,s.ret (by simp) [0,1] [] rfl rfl⟩
set_option maxHeartbeats 4000000 in
theorem vOwn {w0:World} {S:Nat→Prop} {a1 a2:Option Addr} {n1 c1 n2 c2:Nat} {c:ComT} (h1:Rep w0 S (.slice a1 n1 c1) (dInts c.when)) (h2:Rep w0 S (.slice a2 n2 c2) (.sl 7 (c.ops.map eOp))) (hl1:c.when.length≤1000000) (hl2:c.ops.length≤1000000) (hl3:∀o∈c.ops,o.dots.length≤1000000) :
  Calls Tryz.prog 84 #[.agg #[.slice a1 n1 c1,.int .i64 c.place,.slice a2 n2 c2]] w0 fun e w'=>∃u1 d1 u2 d2,Ret [] w0 S w' e (.agg #[.slice u1 n1 d1,.int .i64 c.place,.slice u2 n2 d2]) [] [(.slice u1 n1 d1,dInts c.when),(.slice u2 n2 d2,.sl 7 (c.ops.map eOp))]:=
 (vOwnC h1 h2 hl1 hl2 hl3).mono fun e w' ⟨_,_,_,_,hR⟩=>⟨_,_,_,_,hR.freeze.freeze⟩
set_option maxHeartbeats 4000000 in
theorem sOwn {w0:World} {S:Nat→Prop} {a1 a2:Option Addr} {n1 c1 n2 c2:Nat} {m:MsgT} (h1:Rep w0 S (.slice a1 n1 c1) (dInts m.c.when)) (h2:Rep w0 S (.slice a2 n2 c2) (.sl 7 (m.c.ops.map eOp))) (hl1:m.c.when.length≤1000000) (hl2:m.c.ops.length≤1000000) (hl3:∀o∈m.c.ops,o.dots.length≤1000000) :
  Calls Tryz.prog 153 #[.agg #[.int .i64 m.fm,.int .i64 m.to,.int .i64 m.shard,.int .i64 m.seq,.int .i64 m.time,.bool m.beat,.slice a1 n1 c1,.int .i64 m.c.place,.slice a2 n2 c2]] w0 fun e w'=>∃u1 d1 u2 d2,
   Ret [] w0 S w' e (.agg #[.int .i64 m.fm,.int .i64 m.to,.int .i64 m.shard,.int .i64 m.seq,.int .i64 m.time,.bool m.beat,.slice u1 n1 d1,.int .i64 m.c.place,.slice u2 n2 d2]) [] [(.slice u1 n1 d1,dInts m.c.when),(.slice u2 n2 d2,.sl 7 (m.c.ops.map eOp))]:=by
 refine epG Tryz.func153 bd153 (args:=[.agg #[.int .i64 m.fm,.int .i64 m.to,.int .i64 m.shard,.int .i64 m.seq,.int .i64 m.time,.bool m.beat,.slice a1 n1 c1,.int .i64 m.c.place,.slice a2 n2 c2]]) (G:=[(_,dInts m.c.when),(_,.sl 7 (m.c.ops.map eOp))]) (by kernel_rfl) (.cons h1 (.cons h2 (.nil _ _))) ?_
 refine Zv [.wr 0 [] 0,.wr 1 [] 0] [] [0] (fun nu1=>[zP 1 (nu1 0),zP 2 (nu1 1)]) o0 (fun nu1=>[(nu1 0,.cells #[nI m.fm,nI m.to,nI m.shard,nI m.seq,nI m.time,.bool m.beat,.slice a1 n1 c1,nI m.c.place,.slice a2 n2 c2] 62 (0,0)),(nu1 1,.cells #[nI 0,nI 0,nI 0,nI 0,nI 0,.bool false,.slice none 0 0,nI 0,.slice none 0 0] 62 (0,0))]) (fun nu1=>?_)
 refine jS [(0,true),(1,true),(2,false),(3,true),(4,false)] [] ?_
 refine Ya [zR 0,.rd 1 (hnO 0 3) 0 0] [] [zV 4 (.agg #[.slice a1 n1 c1,nI m.c.place,.slice a2 n2 c2])] ?_
 refine Yc 84 #[.agg #[.slice a1 n1 c1,nI m.c.place,.slice a2 n2 c2]] (some 5) fun w S hG=>?_
 refine(vOwn (c:=m.c) (hG.at 0 rfl) (hG.at 1 rfl) hl1 hl2 hl3).mono ?_
 rintro e1 w1 ⟨u1,d1,u2,d2,hR⟩
 refine⟨_,_,_,hR,?_⟩
 try simp only[aQ]
 refine Ym [zR 3,.wr 4 (hnO 0 3) 0] [5,4] (fun _=>[]) (fun _=>[(0,.cells #[nI m.fm,nI m.to,nI m.shard,nI m.seq,nI m.time,.bool m.beat,.slice u1 n1 d1,nI m.c.place,.slice u2 n2 d2] 62 (0,0))]) o0 [] (fun _=>?_)
 refine JR_end ?_
 refine Zv [.rd 0 (hnO 0 9) 0 0,.wr 1 (hnO 1 9) 0] [(1,[1])] [1] (fun _=>[]) (fun _=>[(1,.cells #[nI m.fm,nI m.to,nI m.shard,nI m.seq,nI m.time,.bool m.beat,.slice u1 n1 d1,nI m.c.place,.slice u2 n2 d2] 62 (0,0))]) o0 (fun _=>?_)
 refine Yr [(hnO 1 9)] (.agg #[nI m.fm,nI m.to,nI m.shard,nI m.seq,nI m.time,.bool m.beat,.slice u1 n1 d1,nI m.c.place,.slice u2 n2 d2]) fun a w s=>?_
 exact⟨u1,d1,u2,d2,s.ret (by simp) [] [2,3] rfl rfl⟩
end Go.Proofs.YtmkapocibaojdaaGreatDoor
end
section
namespace Go.Sx
open Go
structure PutT where
 when:List Int
 place:Int
 op:OpT
def oneC (p:PutT):ComT:=⟨p.when,p.place,[p.op]⟩
def dotP (p:PutT):DotT:=⟨p.place,p.when.getD p.place.toNat 0,p.op.no⟩
def keyC (L:List PutT) (key:ByteArray):List ComT:=(L.filter fun p=>decide (p.op.key=key)).map oneC
end Go.Sx
namespace Go.Proofs.YtmkapocibaojdaaGreatDoor
open Go Go.Sx
theorem rowG_zero {G:List (Value×D)}:∀n:Nat,RowG G (List.replicate n (.int .i64 0)) ((List.replicate n (0:Int)).map eI).flatten
 | 0=>trivial
 | n+1=>⟨.inl ⟨rfl,rfl⟩,rowG_zero n⟩
set_option maxHeartbeats 4000000 in
theorem newFin {nn:Nat} {E:Env} {S:Nat→Prop} {w0:World} {a:Act} {w:World} {g:Value×D} {c0 c1 c2 c3:Nat} (n:Nat) {cs:Array Value} {v:Value} (s:St nn E [(c0,.cells cs 3 (0,0)),(c1,.map #[] 0),(c2,.map #[] 0),(c3,.cells #[.int .i64 n,.slice (some ⟨c0,0,none⟩) n n,.map (some c1),.map (some c2)] 218 (0,0))] [] [([],w0)] ⟨newS S [] w0,[],[g]⟩ a w) (hR:RowG [g] cs.toList ((List.replicate n (0:Int)).map eI).flatten) :
  Ret [] w0 S w (.returned v) v [cObj c3 (.cells #[.int .i64 n,.slice (some ⟨c0,0,none⟩) n n,.map (some c1),.map (some c2)] 218 (0,0)),cObj c1 (.map #[] 0),cStar [],cMapG c2 okDot (dotSet [])] [(.slice (some ⟨c0,0,none⟩) n n,dInts (List.replicate n 0))]:=by
 obtain⟨fps,s⟩:=s
 have s1:=s.data (cap:=n) (rows:=(List.replicate n (0:Int)).map eI) (size:=1) 0 rfl (by decide) (by intro row h;obtain⟨x,_,rfl⟩:=List.mem_map.1 h;rfl) (by simp) hR
 rw[show((List.replicate n (0:Int)).map eI).length=n by simp]at s1
 have s2:=St.hide ⟨_,s1⟩ 2 rfl
 have s3:=s2.hide 0 rfl
 have s4:=s3.stp (stp_add (cStar []) star_nil)
 have s5:=s4.hide 0 rfl
 have s6:=s5.stp (stp_conv 3 rfl (mapg_eqv ((MapG.empty okDot).congr dotSet_nil)))
 exact s6.ret (by simp) [0,1,2,3] [1] rfl rfl
set_option maxHeartbeats 4000000 in
theorem vNew {w:World} {S:Nat→Prop} {er:Nat→Addr} {eb:Nat→Array Value×TypeId} {p:Int} (hC:Rep w S .nilIface (dC er eb)) :
  Calls Tryz.prog 57 #[.int .i64 p] w fun e w'=>((p<1∨6<p)∧Ret [] w S w' e (.tuple #[.pointer none,.iface 390 (.pointer (some (er 2)))]) [] []) ∨
   ((1≤p∧p≤6)∧∃b ba mk md,Ret [] w S w' e (.tuple #[.pointer (some ⟨b,0,none⟩),.nilIface]) [cObj b (.cells #[.int .i64 p,.slice (some ⟨ba,0,none⟩) p.toNat p.toNat,.map (some mk),.map (some md)] 218 (0,0)),cObj mk (.map #[] 0),cStar [],cMapG md okDot (dotSet [])] [(.slice (some ⟨ba,0,none⟩) p.toNat p.toNat,dInts (List.replicate p.toNat 0))]):=by
 refine epG Tryz.func57 bd57 (args:=[.int .i64 p]) (S:=S) (G:=[(_,dC er eb)]) (by kernel_rfl) (.cons hC (.nil _ _)) ?_
 by_cases h1:p<1
 ·refine J_stp (stp_all 0 [1] rfl rfl) ?_
  refine J_glob 1 rfl (fun csg1 tyg1 fzg1 hglob1=>?_)
  try simp only[aQ]
  refine Zs [zR 0,zR 1] [] [zV 2 (.pointer none),zV 3 .nilIface] ?_
  refine J_seq ?_
  refine Zt [zR 0,.rd 1 [] 0 6,zR 2,.rd 3 [] 1 0,.rd 4 [] 1 0,zR 5] [] [zB 9 true] (oC (show decide (p<(1:Int))=true from by simp;omega) oN) ?_
  refine cTt ?_
  refine Zt [.rd 0 [.r 0 (some (.iface 390 (.pointer (some (er 2)))))] 0 0,zR 1,zR 2] [9] [zV 3 (.iface 390 (.pointer (some (er 2))))] (oC hglob1 oN) ?_
  refine Yr [[],[]] (.tuple #[.pointer none,.iface 390 (.pointer (some (er 2)))]) fun a w s=>?_
  exact .inl ⟨.inl h1,s.ret (by simp) [] [] rfl rfl⟩
 by_cases h6:6<p
 ·refine J_stp (stp_all 0 [1] rfl rfl) ?_
  refine J_glob 1 rfl (fun csg1 tyg1 fzg1 hglob1=>?_)
  try simp only[aQ]
  refine Zs [zR 0,zR 1] [] [zV 2 (.pointer none),zV 3 .nilIface] ?_
  refine J_seq ?_
  refine Zt [zR 0,.rd 1 [] 0 7,zR 2,zR 3,.rd 4 [] 0 6,zR 5] [] [zB 9 true] (oC (show decide (p<(1:Int))=false from by simp;omega) (oC (show decide (p>(6:Int))=true from by simp;omega) oN)) ?_
  refine cTt ?_
  refine Zt [.rd 0 [.r 0 (some (.iface 390 (.pointer (some (er 2)))))] 0 0,zR 1,zR 2] [9] [zV 3 (.iface 390 (.pointer (some (er 2))))] (oC hglob1 oN) ?_
  refine Yr [[],[]] (.tuple #[.pointer none,.iface 390 (.pointer (some (er 2)))]) fun a w s=>?_
  exact .inl ⟨.inr h6,s.ret (by simp) [] [] rfl rfl⟩
 obtain⟨n,rfl⟩:∃n:Nat,p=n:=⟨p.toNat,by omega⟩
 refine Zs [zR 0,zR 1] [] [zV 2 (.pointer none),zV 3 .nilIface] ?_
 refine J_seq ?_
 refine Zt [zR 0,.rd 1 [] 0 7,zR 2,zR 3,.rd 4 [] 0 7,zR 5] [] [zB 9 false] (oC (show decide ((↑n:Int)<(1:Int))=false from by simp;omega) (oC (show decide ((↑n:Int)>(6:Int))=false from by simp;omega) oN)) ?_
 refine cF ?_
 refine J_skip (J_seq ?_)
 rcases(by omega:n=1∨n=2∨n=3∨n=4∨n=5∨n=6)with rfl|rfl|rfl|rfl|rfl|rfl
 ·refine Zm [.rd 0 [] 0 0,.rd 1 [] 0 0,.wr 2 [] 0,.wr 3 [] 0,.wr 4 [] 0,.rd 5 [] 0 0,.wr 6 [] 0,.rd 7 [] 0 0,.rd 8 [] 0 0] [] [9,0] (fun nu1=>[(2,.val (.pointer (some (⟨nu1 3,0,none⟩))))]) o0 (fun nu1=>[(nu1 0,.cells #[.int .i64 0] 3 (0,0)),(nu1 1,Obj.map #[] 0),(nu1 2,Obj.map #[] 0),(nu1 3,.cells #[.int .i64 1,.slice (some (⟨nu1 0,0,none⟩)) 1 1,.map (some (nu1 1)),.map (some (nu1 2))] 218 (0,0))]) (fun nu1=>?_)
  refine Yr [[],[]] (.tuple #[.pointer (sA (nu1 3) 0),.nilIface]) fun a w s=>?_
  exact .inr ⟨by omega,_,_,_,_,newFin 1 s (rowG_zero 1)⟩
 ·refine Zm [.rd 0 [] 0 0,.rd 1 [] 0 0,.wr 2 [] 0,.wr 3 [] 0,.wr 4 [] 0,.rd 5 [] 0 0,.wr 6 [] 0,.rd 7 [] 0 0,.rd 8 [] 0 0] [] [9,0] (fun nu1=>[(2,.val (.pointer (some (⟨nu1 3,0,none⟩))))]) o0 (fun nu1=>[(nu1 0,.cells #[.int .i64 0,.int .i64 0] 3 (0,0)),(nu1 1,Obj.map #[] 0),(nu1 2,Obj.map #[] 0),(nu1 3,.cells #[.int .i64 2,.slice (some (⟨nu1 0,0,none⟩)) 2 2,.map (some (nu1 1)),.map (some (nu1 2))] 218 (0,0))]) (fun nu1=>?_)
  refine Yr [[],[]] (.tuple #[.pointer (sA (nu1 3) 0),.nilIface]) fun a w s=>?_
  exact .inr ⟨by omega,_,_,_,_,newFin 2 s (rowG_zero 2)⟩
 ·refine Zm [.rd 0 [] 0 0,.rd 1 [] 0 0,.wr 2 [] 0,.wr 3 [] 0,.wr 4 [] 0,.rd 5 [] 0 0,.wr 6 [] 0,.rd 7 [] 0 0,.rd 8 [] 0 0] [] [9,0] (fun nu1=>[(2,.val (.pointer (some (⟨nu1 3,0,none⟩))))]) o0 (fun nu1=>[(nu1 0,.cells #[.int .i64 0,.int .i64 0,.int .i64 0] 3 (0,0)),(nu1 1,Obj.map #[] 0),(nu1 2,Obj.map #[] 0),(nu1 3,.cells #[.int .i64 3,.slice (some (⟨nu1 0,0,none⟩)) 3 3,.map (some (nu1 1)),.map (some (nu1 2))] 218 (0,0))]) (fun nu1=>?_)
  refine Yr [[],[]] (.tuple #[.pointer (sA (nu1 3) 0),.nilIface]) fun a w s=>?_
  exact .inr ⟨by omega,_,_,_,_,newFin 3 s (rowG_zero 3)⟩
 ·refine Zm [.rd 0 [] 0 0,.rd 1 [] 0 0,.wr 2 [] 0,.wr 3 [] 0,.wr 4 [] 0,.rd 5 [] 0 0,.wr 6 [] 0,.rd 7 [] 0 0,.rd 8 [] 0 0] [] [9,0] (fun nu1=>[(2,.val (.pointer (some (⟨nu1 3,0,none⟩))))]) o0 (fun nu1=>[(nu1 0,.cells #[.int .i64 0,.int .i64 0,.int .i64 0,.int .i64 0] 3 (0,0)),(nu1 1,Obj.map #[] 0),(nu1 2,Obj.map #[] 0),(nu1 3,.cells #[.int .i64 4,.slice (some (⟨nu1 0,0,none⟩)) 4 4,.map (some (nu1 1)),.map (some (nu1 2))] 218 (0,0))]) (fun nu1=>?_)
  refine Yr [[],[]] (.tuple #[.pointer (sA (nu1 3) 0),.nilIface]) fun a w s=>?_
  exact .inr ⟨by omega,_,_,_,_,newFin 4 s (rowG_zero 4)⟩
 ·refine Zm [.rd 0 [] 0 0,.rd 1 [] 0 0,.wr 2 [] 0,.wr 3 [] 0,.wr 4 [] 0,.rd 5 [] 0 0,.wr 6 [] 0,.rd 7 [] 0 0,.rd 8 [] 0 0] [] [9,0] (fun nu1=>[(2,.val (.pointer (some (⟨nu1 3,0,none⟩))))]) o0 (fun nu1=>[(nu1 0,.cells #[.int .i64 0,.int .i64 0,.int .i64 0,.int .i64 0,.int .i64 0] 3 (0,0)),(nu1 1,Obj.map #[] 0),(nu1 2,Obj.map #[] 0),(nu1 3,.cells #[.int .i64 5,.slice (some (⟨nu1 0,0,none⟩)) 5 5,.map (some (nu1 1)),.map (some (nu1 2))] 218 (0,0))]) (fun nu1=>?_)
  refine Yr [[],[]] (.tuple #[.pointer (sA (nu1 3) 0),.nilIface]) fun a w s=>?_
  exact .inr ⟨by omega,_,_,_,_,newFin 5 s (rowG_zero 5)⟩
 ·refine Zm [.rd 0 [] 0 0,.rd 1 [] 0 0,.wr 2 [] 0,.wr 3 [] 0,.wr 4 [] 0,.rd 5 [] 0 0,.wr 6 [] 0,.rd 7 [] 0 0,.rd 8 [] 0 0] [] [9,0] (fun nu1=>[(2,.val (.pointer (some (⟨nu1 3,0,none⟩))))]) o0 (fun nu1=>[(nu1 0,.cells #[.int .i64 0,.int .i64 0,.int .i64 0,.int .i64 0,.int .i64 0,.int .i64 0] 3 (0,0)),(nu1 1,Obj.map #[] 0),(nu1 2,Obj.map #[] 0),(nu1 3,.cells #[.int .i64 6,.slice (some (⟨nu1 0,0,none⟩)) 6 6,.map (some (nu1 1)),.map (some (nu1 2))] 218 (0,0))]) (fun nu1=>?_)
  refine Yr [[],[]] (.tuple #[.pointer (sA (nu1 3) 0),.nilIface]) fun a w s=>?_
  exact .inr ⟨by omega,_,_,_,_,newFin 6 s (rowG_zero 6)⟩
end Go.Proofs.YtmkapocibaojdaaGreatDoor
end
section
namespace Go.Sx
open Go
structure SndT where
 fm:Int
 to:Int
 sh:Int
 q:Int
 t:Int
 l:List MsgT
structure RcvT where
 fm:Int
 to:Int
 sh:Int
 q:Int
 t:Int
 l:List MsgT
def rowP (id shards k:Nat):List (Nat×Nat):=if k=id then []else (List.range shards).map fun i=>(k,i)
def rowsP (id shards k:Nat):List (List (Nat×Nat)):=(List.range k).map (rowP id shards)
def pairsP (id shards k:Nat):List (Nat×Nat):=(rowsP id shards k).flatten
theorem pairsP_succ (id shards k:Nat):pairsP id shards (k+1)=pairsP id shards k++rowP id shards k:=by
 simp[pairsP,rowsP,List.range_succ]
theorem rowP_length (id shards k:Nat):(rowP id shards k).length=if k=id then 0 else shards:=by
 unfold rowP
 split <;> simp
theorem rowP_succ (id j k:Nat) (h:k≠id):rowP id (j+1) k=rowP id j k++[(k,j)]:=by
 simp[rowP,h,List.range_succ]
theorem flat_pos {α:Type}:∀{rows:List (List α)} {k i:Nat} {r:List α},rows[k]?=some r→i<r.length→rows.flatten[((rows.take k).map List.length).sum+i]?=r[i]?
 | [],k,i,r,h,_=>by simp at h
 | x::rows,0,i,r,h,hi=>by
  simp only[List.getElem?_cons_zero,Option.some.injEq]at h
  subst h
  simp[List.getElem?_append,hi]
 | x::rows,k+1,i,r,h,hi=>by
  simp only[List.getElem?_cons_succ]at h
  have ih:=flat_pos h hi
  simp only[List.flatten_cons,List.take_succ_cons,List.map_cons,List.sum_cons]
  rw[List.getElem?_append_right (by omega),←ih]
  congr 1
  omega
def posP (id shards k:Nat):Nat:=(pairsP id shards k).length
theorem posP_zero (id shards:Nat):posP id shards 0=0:=rfl
theorem posP_succ (id shards k:Nat):posP id shards (k+1)=posP id shards k+if k=id then 0 else shards:=by
 rw[posP,pairsP_succ,List.length_append,rowP_length]
 rfl
theorem posP_le (id shards k:Nat):posP id shards k≤k*shards:=by
 induction k with
 | zero=>simp[posP_zero]
 | succ k ih=>
  rw[posP_succ,Nat.add_mul,Nat.one_mul]
  split <;> omega
def RowsOk {α:Type} (id shards places:Nat) (rows:List (List α)):Prop:=rows.map List.length=(rowsP id shards places).map List.length
theorem RowsOk.nil {α:Type} (id shards:Nat):RowsOk (α:=α) id shards 0 []:=rfl
theorem RowsOk.snoc {α:Type} {id shards k:Nat} {rows:List (List α)} {r:List α} (h:RowsOk id shards k rows) (hr:r.length=if k=id then 0 else shards):RowsOk id shards (k+1) (rows++[r]):=by
 unfold RowsOk at h ⊢
 rw[List.map_append,h]
 simp[rowsP,List.range_succ,rowP_length,hr]
theorem RowsOk.len {α:Type} {id shards places:Nat} {rows:List (List α)} (h:RowsOk id shards places rows):rows.length=places:=by
 have:=congrArg List.length h
 simpa [rowsP]using this
theorem RowsOk.flen {α:Type} {id shards places:Nat} {rows:List (List α)} (h:RowsOk id shards places rows):rows.flatten.length=posP id shards places:=by
 rw[posP,pairsP,List.length_flatten,List.length_flatten,h]
theorem RowsOk.row {α:Type} {id shards places:Nat} {rows:List (List α)} (h:RowsOk id shards places rows) {k:Nat} {r:List α} (hr:rows[k]?=some r):r.length=if k=id then 0 else shards:=by
 have hk:k<places:=by
  have:=(List.getElem?_eq_some_iff.1 hr).1
  have:=h.len
  omega
 have e1:(rows.map List.length)[k]?=some r.length:=by rw[List.getElem?_map,hr];rfl
 rw[show rows.map List.length=_ from h,List.getElem?_map]at e1
 have e2:(rowsP id shards places)[k]?=some (rowP id shards k):=by simp[rowsP,hk]
 rw[e2,Option.map_some,rowP_length]at e1
 exact(Option.some.inj e1).symm
theorem take_posP {α:Type} {id shards places:Nat} {rows:List (List α)} (h:RowsOk id shards places rows) {k:Nat} (hk:k≤places):((rows.take k).map List.length).sum=posP id shards k:=by
 rw[posP,pairsP,List.length_flatten,List.map_take,show rows.map List.length=_ from h,←List.map_take]
 congr 2
 rw[rowsP,←List.map_take,List.take_range,Nat.min_eq_left hk,rowsP]
theorem RowsOk.at {α:Type} {id shards places:Nat} {rows:List (List α)} (h:RowsOk id shards places rows) {k i:Nat} {r:List α} (hr:rows[k]?=some r) {b:α} (hb:r[i]?=some b):rows.flatten[posP id shards k+i]?=some b:=by
 have hi:=(List.getElem?_eq_some_iff.1 hb).1
 have hk:k<places:=by
  have:=(List.getElem?_eq_some_iff.1 hr).1
  have:=h.len
  omega
 rw[←take_posP h (Nat.le_of_lt hk),flat_pos hr hi,hb]
theorem pairsP_at {id shards places k i:Nat} (hk:k<places) (hne:k≠id) (hi:i<shards):(pairsP id shards places)[posP id shards k+i]?=some (k,i):=by
 have h:RowsOk id shards places (rowsP id shards places):=rfl
 exact h.at (k:=k) (i:=i) (r:=rowP id shards k) (by simp[rowsP,hk]) (by simp[rowP,hne,hi])
theorem pairsP_split {id shards places k:Nat} (hk:k<places):∃B,pairsP id shards places=pairsP id shards k++rowP id shards k++B∧∀y∈B,k<y.1:=by
 obtain⟨d,rfl⟩:∃d,places=k+1+d:=⟨places - (k+1),by omega⟩
 clear hk
 induction d with
 | zero=>exact⟨[],by rw[Nat.add_zero,pairsP_succ,List.append_nil],by simp⟩
 | succ d ih=>
  obtain⟨B,hB,hlt⟩:=ih
  refine⟨B++rowP id shards (k+1+d),by rw[←Nat.add_assoc,pairsP_succ,hB,List.append_assoc],fun y hy=>?_⟩
  rcases List.mem_append.1 hy with hy|hy
  ·exact hlt y hy
  ·unfold rowP at hy
   split at hy
   ·cases hy
   ·obtain⟨i,_,rfl⟩:=List.mem_map.1 hy
    show k<k+1+d
    omega
theorem pairsP_nodup (id shards:Nat):∀k,(pairsP id shards k).Nodup∧∀p∈pairsP id shards k,p.1<k
 | 0=>by simp[pairsP,rowsP]
 | k+1=>by
  obtain⟨h1,h2⟩:=pairsP_nodup id shards k
  rw[pairsP_succ]
  have h3:(rowP id shards k).Nodup:=by
   unfold rowP
   split
   ·simp
   ·exact List.Pairwise.map (fun i=>(k,i)) (fun a b (h:a≠b) e=>h (by simpa using e)) List.nodup_range
  have h4:∀p∈rowP id shards k,p.1=k:=by
   intro p hp
   unfold rowP at hp
   split at hp
   ·cases hp
   ·obtain⟨i,_,rfl⟩:=List.mem_map.1 hp
    rfl
  refine⟨List.nodup_append.2 ⟨h1,h3,fun a ha b hb hab=>?_⟩,fun p hp=>?_⟩
  ·subst hab
   have:=h2 a ha
   have:=h4 a hb
   omega
  ·rcases List.mem_append.1 hp with hp|hp
   ·have:=h2 p hp
    omega
   ·have:=h4 p hp
    omega
def minT (l:List Int):Int:=l.tail.foldl (fun m a=>if a<m then a else m) (l.headD 0)
theorem minT_snoc {l:List Int} (h:l≠[]) (a:Int):minT (l++[a])=if a<minT l then a else minT l:=by
 cases l with
 | nil=>exact absurd rfl h
 | cons b l=>simp[minT,List.foldl_append]
theorem minT_mem {l:List Int} (h:l≠[]):minT l∈l:=by
 have:∀n (l:List Int),l.length=n→l≠[]→minT l∈l:=by
  intro n
  induction n with
  | zero=>intro l hl hn;exact absurd (List.length_eq_zero_iff.1 hl) hn
  | succ n ih=>
   intro l hl hn
   rw[←List.dropLast_concat_getLast hn]
   by_cases h0:l.dropLast=[]
   ·rw[h0]
    simp[minT]
   ·rw[minT_snoc h0]
    split
    ·simp
    ·exact List.mem_append.2 (.inl (ih _ (by rw[List.length_dropLast];omega) h0))
 exact this _ l rfl h
theorem part_eq {α:Type} {id shards places k:Nat} {l:List α} {f:α→Nat×Nat} (h:l.map f=pairsP id shards places) (hk:k<places):(l.drop (posP id shards k)).take (rowP id shards k).length=l.filter fun x=>decide ((f x).1=k):=by
 obtain⟨B,hB,hlt⟩:=pairsP_split (id:=id) (shards:=shards) hk
 rw[hB]at h
 obtain⟨l1,l2,rfl,h1,h2⟩:=List.map_eq_append_iff.1 h
 obtain⟨l3,l4,rfl,h3,h4⟩:=List.map_eq_append_iff.1 h1
 have e1:l3.length=posP id shards k:=by rw[posP,←h3,List.length_map]
 have e2:l4.length=(rowP id shards k).length:=by rw[←h4,List.length_map]
 have f1:l3.filter (fun x=>decide ((f x).1=k))=[]:=List.filter_eq_nil_iff.2 fun x hx=>by
  have:=(pairsP_nodup id shards k).2 (f x) (by rw[←h3];exact List.mem_map.2 ⟨x,hx,rfl⟩)
  simp
  omega
 have f2:l4.filter (fun x=>decide ((f x).1=k))=l4:=List.filter_eq_self.2 fun x hx=>by
  have hm:f x∈rowP id shards k:=by rw[←h4];exact List.mem_map.2 ⟨x,hx,rfl⟩
  unfold rowP at hm
  split at hm
  ·cases hm
  ·obtain⟨i,_,hi⟩:=List.mem_map.1 hm
   rw[←hi]
   simp
 have f3:l2.filter (fun x=>decide ((f x).1=k))=[]:=List.filter_eq_nil_iff.2 fun x hx=>by
  have:=hlt (f x) (by rw[←h2];exact List.mem_map.2 ⟨x,hx,rfl⟩)
  simp
  omega
 rw[List.filter_append,List.filter_append,f1,f2,f3,List.append_nil,List.nil_append,List.append_assoc,←e1,List.drop_left,←e2,List.take_left]
structure PlT where
 id:Nat
 places:Nat
 shards:Nat
 clock:Int
 base:List Int
 L:List PutT
 ss:List SndT
 rs:List RcvT
def PlT.pair (s:SndT):Nat×Nat:=(s.to.toNat,s.sh.toNat)
def PlT.pairR (s:RcvT):Nat×Nat:=(s.fm.toNat,s.sh.toNat)
end Go.Sx
end
section
namespace Go.Sx
open Go
def kept (L:List MsgT) (k:Int):Option MsgT:=L.find? fun m=>m.seq==k
def dropK (L:List MsgT) (k:Int):List MsgT:=L.eraseP fun m=>m.seq==k
def Dist (L:List MsgT):Prop:=(L.map (·.seq)).Nodup
theorem kept_seq {L:List MsgT} {k:Int} {m:MsgT} (h:kept L k=some m):m.seq=k:=by
 have:=List.find?_some h
 simpa using this
theorem kept_mem {L:List MsgT} {k:Int} {m:MsgT} (h:kept L k=some m):m∈L:=List.mem_of_find?_eq_some h
theorem kept_none {L:List MsgT} {k:Int}:kept L k=none↔∀m∈L,m.seq≠k:=by
 unfold kept
 rw[List.find?_eq_none]
 simp
theorem dropK_len {L:List MsgT} {k:Int} {m:MsgT} (h:kept L k=some m):(dropK L k).length+1=L.length:=by
 unfold dropK
 have hm:=kept_mem h
 have hs:=kept_seq h
 rw[List.length_eraseP_of_mem hm (by simpa using hs)]
 have:0<L.length:=List.length_pos_of_mem hm
 omega
theorem dropK_sub (L:List MsgT) (k:Int):(dropK L k).Sublist L:=List.eraseP_sublist
theorem Dist.drop {L:List MsgT} (h:Dist L) (k:Int):Dist (dropK L k):=((dropK_sub L k).map _).nodup h
theorem Dist.app {L:List MsgT} (h:Dist L) {m:MsgT} (hm:kept L m.seq=none):Dist (L++[m]):=by
 unfold Dist
 rw[List.map_append,List.nodup_append]
 refine⟨h,by simp,fun a ha b hb=>?_⟩
 obtain⟨x,hx,rfl⟩:=List.mem_map.1 ha
 simp at hb
 subst hb
 exact kept_none.1 hm x hx
theorem kept_app {L:List MsgT} {m:MsgT} (hm:kept L m.seq=none) (k:Int):kept (L++[m]) k=if m.seq=k then some m else kept L k:=by
 unfold kept at hm ⊢
 rw[List.find?_append]
 by_cases hk:m.seq=k
 ·subst hk
  simp[hm]
 ·simp[hk]
theorem kept_drop {L:List MsgT} (h:Dist L) (k j:Int):kept (dropK L k) j=if k=j then none else kept L j:=by
 induction L with
 | nil=>simp[dropK,kept]
 | cons m L ih=>
  have hd:Dist L:=(List.nodup_cons.1 h).2
  have hn:m.seq∉L.map (·.seq):=(List.nodup_cons.1 h).1
  by_cases hk:m.seq=k
  ·have e:dropK (m::L) k=L:=by simp[dropK,hk]
   rw[e]
   by_cases hj:k=j
   ·subst hj
    rw[if_pos rfl,kept_none]
    intro x hx hxk
    exact hn (List.mem_map.2 ⟨x,hx,by rw[hxk,hk]⟩)
   ·rw[if_neg hj]
    have:¬m.seq=j:=by rw[hk];exact hj
    simp[kept,this]
  ·have e:dropK (m::L) k=m::dropK L k:=by simp[dropK,hk]
   rw[e]
   by_cases hmj:m.seq=j
   ·have:¬k=j:=by rw[←hmj];exact fun h=>hk h.symm
    simp[kept,hmj,this]
   ·have e1:kept (m::dropK L k) j=kept (dropK L k) j:=by simp[kept,hmj]
    have e2:kept (m::L) j=kept L j:=by simp[kept,hmj]
    rw[e1,e2,ih hd]
def drain:Nat→List MsgT→Int→Int→List MsgT×List MsgT×Int×Int
 | 0,L,q,t=>([],L,q,t)
 | n+1,L,q,t=>match kept L (q+1)with
  | none=>([],L,q,t)
  | some m=>(m::(drain n (dropK L (q+1)) (q+1) m.time).1,(drain n (dropK L (q+1)) (q+1) m.time).2)
def drainAll (L:List MsgT) (q t:Int):List MsgT×List MsgT×Int×Int:=drain (L.length+1) L q t
theorem drain_none {L:List MsgT} {q t:Int} (h:kept L (q+1)=none):drainAll L q t=([],L,q,t):=by
 unfold drainAll drain
 rw[h]
theorem drain_some {L:List MsgT} {q t:Int} {m:MsgT} (h:kept L (q+1)=some m):drainAll L q t=(m::(drainAll (dropK L (q+1)) (q+1) m.time).1,(drainAll (dropK L (q+1)) (q+1) m.time).2):=by
 unfold drainAll
 rw[drain,h,dropK_len h]
structure RecT where
 L:List MsgT
 q:Int
 t:Int
def hearT (fm to shard:Int) (r:RecT) (m:MsgT):Nat×List MsgT×RecT:=
 if m.fm≠fm∨m.to≠to∨m.shard≠shard then (3,[],r)
 else if m.seq<1∨m.time<0∨1099511627776<m.time then (2,[],r)
 else if m.seq≤r.q then (0,[],r)
 else if 201<m.seq - r.q then (7,[],r)
 else
  let L1:=match kept r.L m.seq with
   | none=>r.L++[m]
   | some _=>r.L
  let d:=drainAll L1 r.q r.t
  (0,d.1,⟨d.2.1,d.2.2.1,d.2.2.2⟩)
def KL (L:List MsgT):Value→Option (List D)
 | .int .i64 k=>(kept L k).map eMsg
 | _=>none
theorem KL_nil:KL []=fun _=>none:=by
 funext x
 unfold KL
 split <;> rfl
theorem KL_put {L:List MsgT} {m:MsgT} (h:kept L m.seq=none):kput (KL L) (.int .i64 m.seq) (eMsg m)=KL (L++[m]):=by
 funext x
 unfold kput
 split
 ·rename_i he
  subst he
  simp only[KL]
  rw[kept_app h,if_pos rfl]
  rfl
 ·rename_i hne
  unfold KL
  split
  ·rename_i k
   rw[kept_app h,if_neg]
   intro he
   exact hne (by rw[he])
  ·rfl
theorem KL_del {L:List MsgT} (hd:Dist L) (k:Int):kdel (KL L) (.int .i64 k)=KL (dropK L k):=by
 funext x
 unfold kdel
 split
 ·rename_i he
  subst he
  simp only[KL]
  rw[kept_drop hd,if_pos rfl]
  rfl
 ·rename_i hne
  unfold KL
  split
  ·rename_i j
   rw[kept_drop hd,if_neg]
   intro he
   exact hne (by rw[he])
  ·rfl
end Go.Sx
namespace Go.Proofs.YtmkapocibaojdaaGreatDoor
open Go Go.Sx
theorem len2 {α:Type} {l:List α} (h:l.length=2):∃x y,l=[x,y]:=by
 match l,h with
 | [x,y],_=>exact⟨x,y,rfl⟩
def Fit (m:MsgT):Prop:=m.c.when.length≤1000000∧m.c.ops.length≤1000000∧∀o∈m.c.ops,o.dots.length≤1000000
abbrev mAgg (m:MsgT) (v1 v2:Value):Value:=.agg #[.int .i64 m.fm,.int .i64 m.to,.int .i64 m.shard,.int .i64 m.seq,.int .i64 m.time,.bool m.beat,v1,.int .i64 m.c.place,v2]
end Go.Proofs.YtmkapocibaojdaaGreatDoor
end
section
namespace Go.Proofs.YtmkapocibaojdaaGreatDoor
open Go Go.Sx
def wayErr (fm to sh:Int):Nat:=if fm<0∨6≤fm∨to<0∨6≤to∨sh<0∨6≤sh then 2 else if fm=to then 3 else 0
set_option maxHeartbeats 4000000 in
theorem newWay {w0:World} {S:Nat→Prop} {er:Nat→Addr} {fm to sh:Int} (hE:AllG w0 S (globs er)) :
  Calls Tryz.prog 122 #[.int .i64 fm,.int .i64 to,.int .i64 sh] w0 fun e w'=>
   (wayErr fm to sh≠0∧Ret [] w0 S w' e (.tuple #[.agg #[.int .i64 0,.int .i64 0,.int .i64 0],errV 390 er (wayErr fm to sh)]) [] []) ∨
   (wayErr fm to sh=0∧Ret [] w0 S w' e (.tuple #[.agg #[.int .i64 fm,.int .i64 to,.int .i64 sh],.nilIface]) [] []):=by
 refine epG Tryz.func122 bd122 (args:=[.int .i64 fm,.int .i64 to,.int .i64 sh]) (G:=globs er) (by kernel_rfl) hE ?_
 refine J_glob 1 rfl (fun csg1 tyg1 fzg1 hglob1=>?_)
 refine J_glob 2 rfl (fun csg2 tyg2 fzg2 hglob2=>?_)
 refine Zv [.wr 0 [] 0,zR 1] [] [] (fun nu1=>[zP 6 (nu1 0),zV 7 .nilIface]) o0 (fun nu1=>[(nu1 0,.cells #[nI 0,nI 0,nI 0] 220 (0,0))]) (fun nu1=>?_)
 refine J_seq ?_
 refine Zs (Rds 0 3++[.rd 3 [] 2 0,.rd 4 [] 2 0,.rd 5 [] 0 3,zR 6,.rd 7 [] 2 0,.rd 8 [] 2 0,.rd 9 [] 0 3,zR 10,.rd 11 [] 2 0,.rd 12 [] 2 0,.rd 13 [] 0 3,zR 14,.rd 15 [] 2 0,.rd 16 [] 2 0,.rd 17 [] 0 3,zR 18,.rd 19 [] 2 0,.rd 20 [] 2 0,.rd 21 [] 0 3]) [] [zB 29 (decide (fm<0)||decide (fm≥6)||decide (to<0)||decide (to≥6)||decide (sh<0)||decide (sh≥6))] ?_
 refine cC (t:=decide (fm<0)||decide (fm≥6)||decide (to<0)||decide (to≥6)||decide (sh<0)||decide (sh≥6)) (fun hb=>?_) (fun hb=>?_)
 ·have e1:wayErr fm to sh=2:=by rw[wayErr,if_pos (by simp at hb;omega)]
  refine Zu [zR 0,.rd 1 [.r 0 (some (.iface 390 (.pointer (some (er 2)))))] 0 0,.wr 2 (hnO 0 3) 0,zR 3] [(2,[0])] [29] (fun _=>[zV 7 (.iface 390 (.pointer (some (er 2))))]) o0 o0 (fun _=>(oC hglob1 oN)) (fun _=>?_)
  refine Yr [(hnO 0 3),[]] (.tuple #[.agg #[nI 0,nI 0,nI 0],.iface 390 (.pointer (some (er 2)))]) fun a w s=>?_
  refine .inl ⟨by rw[e1];decide,?_⟩
  rw[e1]
  exact s.ret (by simp) [] [] rfl rfl
 ·have hn:¬(fm<0∨6≤fm∨to<0∨6≤to∨sh<0∨6≤sh):=by simp at hb;omega
  refine J_skip (J_seq ?_)
  refine Zs (Rds 0 3) [29] [zB 34 (fm==to)] ?_
  refine cC (t:=fm==to) (fun hs=>?_) (fun hs=>?_)
  ·have e1:wayErr fm to sh=3:=by rw[wayErr,if_neg hn,if_pos (by simpa using hs)]
   refine Zu [zR 0,.rd 1 [.r 1 (some (.iface 390 (.pointer (some (er 3)))))] 0 0,.wr 2 (hnO 0 3) 0,zR 3] [(2,[0])] [34] (fun _=>[zV 7 (.iface 390 (.pointer (some (er 3))))]) o0 o0 (fun _=>(oC hglob2 oN)) (fun _=>?_)
   refine Yr [(hnO 0 3),[]] (.tuple #[.agg #[nI 0,nI 0,nI 0],.iface 390 (.pointer (some (er 3)))]) fun a w s=>?_
   refine .inl ⟨by rw[e1];decide,?_⟩
   rw[e1]
   exact s.ret (by simp) [] [] rfl rfl
  ·have e1:wayErr fm to sh=0:=by rw[wayErr,if_neg hn,if_neg (by simpa using hs)]
   refine J_skip ?_
   refine Zv (Rds 0 4++[.wr 4 (hnO 0 3) 0,zR 5]) [(4,[0])] [34,0,1,2] (fun _=>[]) (fun _=>[(0,.cells #[nI fm,nI to,nI sh] 220 (0,0))]) o0 (fun _=>?_)
   refine Yr [(hnO 0 3),[]] (.tuple #[.agg #[nI fm,nI to,nI sh],.nilIface]) fun a w s=>?_
   exact .inr ⟨e1,s.ret (by simp) [] [] rfl rfl⟩
set_option maxHeartbeats 4000000 in
theorem newReceiver {w0:World} {S:Nat→Prop} {er:Nat→Addr} {fm to sh:Int} (hE:AllG w0 S (globs er)) (h0:wayErr fm to sh=0) :
  Calls Tryz.prog 59 #[.int .i64 fm,.int .i64 to,.int .i64 sh] w0 fun e w'=>∃b mb,
   Ret [] w0 S w' e (.tuple #[.pointer (some ⟨b,0,none⟩),.nilIface]) [cObj b (.cells #[.int .i64 fm,.int .i64 to,.int .i64 sh,.int .i64 0,.int .i64 0,.map (some mb)] 227 (0,0)),cMap mb (.int .i64) (KL [])] []:=by
 refine epG Tryz.func59 bd59 (args:=[.int .i64 fm,.int .i64 to,.int .i64 sh]) (G:=globs er) (by kernel_rfl) hE ?_
 refine Zs [zR 0,zR 1] [] [zV 6 (.pointer none),zV 7 .nilIface] ?_
 refine jS [(0,true),(1,true),(2,true),(3,false),(4,true),(5,true),(6,true),(7,false),(8,false),(9,true)] [] ?_
 refine Ya (Rds 0 3) [0,1,2] [zI 11 fm,zI 12 to,zI 13 sh] ?_
 refine Yc 122 #[nI fm,nI to,nI sh] (some 14) fun w S hG=>?_
 refine(newWay (hG.pick [0,1,2] rfl)).mono ?_
 rintro e1 w1 (⟨h1,hR⟩|⟨h1,hR⟩)
 ·exact absurd h0 h1
 refine⟨_,_,_,hR,?_⟩
 try simp only[aQ]
 refine Ym (Rds 4 7++[.wr 7 [] 0,.wr 8 (hnO 0 3) 0,zR 9]) [14,11,12,13] (fun nu1=>[zP 8 (nu1 0),zV 9 .nilIface]) o0 (fun nu1=>[(nu1 0,.cells #[nI fm,nI to,nI sh] 220 (0,0))]) [] (fun nu1=>?_)
 refine JR_end (J_seq ?_)
 refine Zs [zR 0,zR 1] [] [zB 18 false] ?_
 refine cF ?_
 refine J_skip ?_
 refine Zv [.rd 0 (hnO 0 3) 0 0,.wr 1 [] 0,zR 2,.wr 3 [] 0,zR 4,zR 5] [] [18,8,9] (fun nu2=>[zP 6 (nu2 1)]) o0 (fun nu2=>[(nu2 0,Obj.map #[] 0),(nu2 1,.cells #[nI fm,nI to,nI sh,nI 0,nI 0,.map (some (nu2 0))] 227 (0,0))]) (fun nu2=>?_)
 refine Yr [[],[]] (.tuple #[.pointer (sA (nu2 1) 0),.nilIface]) fun a w s=>?_
 have s1:=((s.hide 2 rfl).hide 1 rfl).stp (stp_conv 1 rfl (map0_eqv _ _ (.int .i64)))
 rw[KL_nil]
 exact⟨_,_,s1.ret (by simp) [0,1] [] rfl rfl⟩
end Go.Proofs.YtmkapocibaojdaaGreatDoor
end
section
namespace Go.Proofs.YtmkapocibaojdaaGreatDoor
open Go Go.Sx
section
variable {h r:List (Nat×Obj)} {F:List (List Nat×World)}
theorem stp_keptnone {S0:Nat→Prop} {C0:List Chunk} {G0:List (Value×D)} (q:Nat) {g:Value→Option Value} {K:Value→Option (List D)} (hq:C0[q]?=some (cKept g K)) (key:Value) (hK:K key=none):Stp h r F ⟨S0,C0,G0⟩ (fun _:Unit=>g key=none) fun _=>⟨S0,C0,G0⟩:=by
 intro w fps hO H
 obtain⟨fp,hfp,_,hP⟩:=H.chs.at hq
 exact⟨(),fps,hP.1 key hK,fun _ hb=>hb,H⟩
end
structure HearS where
 a:Option Addr
 k:Nat
 c:Nat
 out:List MsgT
 L:List MsgT
 q:Int
 t:Int
 es:Array MapEntry
 clock:Nat
 g:Value→Option Value
abbrev rCells (fm to sh q t:Int) (mb:Nat):Obj:=.cells #[.int .i64 fm,.int .i64 to,.int .i64 sh,.int .i64 q,.int .i64 t,.map (some mb)] 227 (0,0)
set_option maxHeartbeats 8000000 in
theorem hear {w0:World} {S:Nat→Prop} {M:List Nat} {er:Nat→Addr} {eb:Nat→Array Value×TypeId} {b mb:Nat} {fm to sh q t:Int} {L:List MsgT} {m:MsgT} {a1 a2:Option Addr} {n1 c1 n2 c2:Nat} (hC:Rep w0 S .nilIface (dC er eb))
  (hP:Pre w0 S M [cObj b (rCells fm to sh q t mb),cMap mb (.int .i64) (KL L)]) (hd:Dist L) (h1:Rep w0 S (.slice a1 n1 c1) (dInts m.c.when)) (h2:Rep w0 S (.slice a2 n2 c2) (.sl 7 (m.c.ops.map eOp))) (hl1:m.c.when.length≤1000000) (hl2:m.c.ops.length≤1000000) (hl3:∀o∈m.c.ops,o.dots.length≤1000000)
  (hq0:0≤q) (hq1:q+L.length<1000000) (hms:-9223372036854775808≤m.seq∧m.seq≤9223372036854775807) :
  Calls Tryz.prog 92 #[.pointer (some ⟨b,0,none⟩),mAgg m (.slice a1 n1 c1) (.slice a2 n2 c2)] w0 fun e w'=>∃a' n' c' v,
   Ret M w0 S w' e (.tuple #[.slice a' n' c',v]) [cObj b (rCells fm to sh (hearT fm to sh ⟨L,q,t⟩ m).2.2.q (hearT fm to sh ⟨L,q,t⟩ m).2.2.t mb),cMap mb (.int .i64) (KL (hearT fm to sh ⟨L,q,t⟩ m).2.2.L)] [(.slice a' n' c',.sl 9 ((hearT fm to sh ⟨L,q,t⟩ m).2.1.map eMsg))] ∧
   ErrIs 390 er (hearT fm to sh ⟨L,q,t⟩ m).1 v:=by
 refine enG Tryz.func92 bd92 (args:=[.pointer (some ⟨b,0,none⟩),mAgg m (.slice a1 n1 c1) (.slice a2 n2 c2)]) (S:=S) (C:=[cObj b (rCells fm to sh q t mb),cMap mb (.int .i64) (KL L)]) (G:=[(_,dC er eb),(_,dInts m.c.when),(_,.sl 7 (m.c.ops.map eOp))]) (by kernel_rfl) hP (.cons hC (.cons h1 (.cons h2 (.nil _ _)))) ?_
 refine J_show 0 rfl ?_
 refine J_openmap 0 rfl fun es clock g hm=>?_
 refine J_stp (stp_all 0 [1,2,6] rfl rfl) ?_
 refine J_glob 3 rfl (fun csg1 tyg1 fzg1 hglob1=>?_)
 refine J_glob 4 rfl (fun csg2 tyg2 fzg2 hglob2=>?_)
 refine J_glob 5 rfl (fun csg3 tyg3 fzg3 hglob3=>?_)
 try simp only[aQ]
 refine J_seq ?_
 try simp only[aQ]
 refine Zm [.wr 0 [] 0,zR 1,zR 2] [] [1] (fun nu1=>[zP 3 (nu1 0),zS 4 none 0 0,zV 5 .nilIface]) o0 (fun nu1=>[(nu1 0,.cells #[nI m.fm,nI m.to,nI m.shard,nI m.seq,nI m.time,.bool m.beat,.slice a1 n1 c1,nI m.c.place,.slice a2 n2 c2] 62 (0,0))]) (fun nu1=>?_)
 try simp only[aQ]
 refine J_seq ?_
 try simp only[aQ]
 refine J_block ?_
 try simp only[aQ]
 refine J_seq ?_
 try simp only[aQ]
 refine Za ([zR 0,.rd 1 [.o 2 none] 0 0]++Rds 2 6++[.rd 6 [.o 0 none] 0 0,zR 7,zR 8,.rd 9 [] 2 0,.rd 10 [.o 2 none] 2 0,.rd 11 [] 2 0,.rd 12 [] 2 0,.rd 13 [] 2 0,.rd 14 [] 2 0,.rd 15 [.o 0 none] 2 0,.rd 16 [] 2 0,.rd 17 [] 0 3,zR 18,.rd 19 [] 2 0,.rd 20 [.o 2 none] 2 0,.rd 21 [] 2 0,.rd 22 [] 2 0,.rd 23 [] 2 0,.rd 24 [] 2 0,.rd 25 [.o 0 none] 2 0,.rd 26 [] 2 0,.rd 27 [] 0 3,zR 28]) [] [zB 10 (m.fm != fm||m.to != to||m.shard != sh)] ?_
 try simp only[aQ]
 refine cC (t:=m.fm != fm||m.to != to||m.shard != sh) (fun hw=>?_) (fun hw=>?_)
 ·have hT:hearT fm to sh ⟨L,q,t⟩ m=(3,[],⟨L,q,t⟩):=by
   rw[hearT,if_pos]
   simp at hw
   omega
  rw[hT]
  try simp only[aQ]
  refine J_seq ?_
  try simp only[aQ]
  refine Zp [.rd 0 [.r 1 (some (.iface 390 (.pointer (some (er 3)))))] 0 0,zR 1,zR 2] [10] [zV 5 (.iface 390 (.pointer (some (er 3))))] (oC hglob2 oN) ?_
  try simp only[aQ]
  refine Yr [[],[]] (.tuple #[.slice none 0 0,.iface 390 (.pointer (some (er 3)))]) fun a w s=>?_
  have s1:=(((s.hide 1 rfl).hide 0 rfl).stp (stp_closemap 1 0 rfl rfl hm)).stp (stp_fact (v:=.slice none 0 0) (d:=.sl 9 []) fun _ _ _=>.nil)
  exact⟨_,_,_,_,s1.ret (by simp) [0,1] [6] rfl rfl,.inr ⟨by decide,rfl⟩⟩
 ·have hw2:¬(m.fm≠fm∨m.to≠to∨m.shard≠sh):=by simp at hw;omega
  try simp only[aQ]
  refine J_seq ?_
  try simp only[aQ]
  refine Za [zR 0,.rd 1 [.o 2 none] 0 0,zR 2,zR 3,.rd 4 [] 2 0,.rd 5 [.o 2 none] 2 0,.rd 6 [] 2 0,.rd 7 [] 0 3,zR 8,.rd 9 [] 2 0,.rd 10 [.o 2 none] 2 0,.rd 11 [] 2 0,.rd 12 [] 0 3,zR 13] [10] [zB 40 (decide (m.seq<1)||decide (m.time<0)||decide (m.time>1099511627776))] ?_
  try simp only[aQ]
  refine cC (t:=decide (m.seq<1)||decide (m.time<0)||decide (m.time>1099511627776)) (fun hb=>?_) (fun hb=>?_)
  ·have hT:hearT fm to sh ⟨L,q,t⟩ m=(2,[],⟨L,q,t⟩):=by
    rw[hearT,if_neg hw2,if_pos]
    simp at hb
    omega
   rw[hT]
   try simp only[aQ]
   refine J_seq ?_
   try simp only[aQ]
   refine Zp [.rd 0 [.r 0 (some (.iface 390 (.pointer (some (er 2)))))] 0 0,zR 1,zR 2] [40] [zV 5 (.iface 390 (.pointer (some (er 2))))] (oC hglob1 oN) ?_
   try simp only[aQ]
   refine Yr [[],[]] (.tuple #[.slice none 0 0,.iface 390 (.pointer (some (er 2)))]) fun a w s=>?_
   have s1:=(((s.hide 1 rfl).hide 0 rfl).stp (stp_closemap 1 0 rfl rfl hm)).stp (stp_fact (v:=.slice none 0 0) (d:=.sl 9 []) fun _ _ _=>.nil)
   exact⟨_,_,_,_,s1.ret (by simp) [0,1] [6] rfl rfl,.inr ⟨by decide,rfl⟩⟩
  ·have hb2:¬(m.seq<1∨m.time<0∨1099511627776<m.time):=by simp at hb;omega
   try simp only[aQ]
   refine J_seq ?_
   try simp only[aQ]
   refine Za ([zR 0,.rd 1 [.o 2 none] 0 0]++Rds 2 5++[.rd 5 [.o 0 none] 0 0,zR 6,zR 7]) [40] [zB 55 (decide (m.seq≤q))] ?_
   try simp only[aQ]
   refine cC (t:=decide (m.seq≤q)) (fun ho=>?_) (fun ho=>?_)
   ·have hT:hearT fm to sh ⟨L,q,t⟩ m=(0,[],⟨L,q,t⟩):=by
     rw[hearT,if_neg hw2,if_neg hb2,if_pos (by simpa using ho)]
    rw[hT]
    try simp only[aQ]
    refine J_seq ?_
    try simp only[aQ]
    refine Za [zR 0,zR 1] [55] [] ?_
    try simp only[aQ]
    refine Yr [[],[]] (.tuple #[.slice none 0 0,.nilIface]) fun a w s=>?_
    have s1:=(((s.hide 1 rfl).hide 0 rfl).stp (stp_closemap 1 0 rfl rfl hm)).stp (stp_fact (v:=.slice none 0 0) (d:=.sl 9 []) fun _ _ _=>.nil)
    exact⟨_,_,_,_,s1.ret (by simp) [0,1] [6] rfl rfl,.inl ⟨rfl,rfl⟩⟩
   ·have ho2:q<m.seq:=by simpa using ho
    try simp only[aQ]
    refine J_seq ?_
    try simp only[aQ]
    refine Zp ([zR 0,.rd 1 [.o 2 none] 0 0]++Rds 2 5++[.rd 5 [.o 0 none] 0 0,.rd 6 [] 0 1,zR 7,zR 8]) [55] [zB 63 (decide (m.seq - q>201))] (oC (show IntKind.i64.wrap (m.seq - q)=m.seq - q from wrap_i64 (by omega) (by omega)) oN) ?_
    try simp only[aQ]
    refine cC (t:=decide (m.seq - q>201)) (fun hf=>?_) (fun hf=>?_)
    ·have hT:hearT fm to sh ⟨L,q,t⟩ m=(7,[],⟨L,q,t⟩):=by
      rw[hearT,if_neg hw2,if_neg hb2,if_neg (by simp;omega),if_pos (by simpa using hf)]
     rw[hT]
     try simp only[aQ]
     refine J_seq ?_
     try simp only[aQ]
     refine Zp [.rd 0 [.r 2 (some (.iface 390 (.pointer (some (er 7)))))] 0 0,zR 1,zR 2] [63] [zV 5 (.iface 390 (.pointer (some (er 7))))] (oC hglob3 oN) ?_
     try simp only[aQ]
     refine Yr [[],[]] (.tuple #[.slice none 0 0,.iface 390 (.pointer (some (er 7)))]) fun a w s=>?_
     have s1:=(((s.hide 1 rfl).hide 0 rfl).stp (stp_closemap 1 0 rfl rfl hm)).stp (stp_fact (v:=.slice none 0 0) (d:=.sl 9 []) fun _ _ _=>.nil)
     exact⟨_,_,_,_,s1.ret (by simp) [0,1] [6] rfl rfl,.inr ⟨by decide,rfl⟩⟩
    ·have hf2:¬201<m.seq - q:=by simp at hf;omega
     cases hk:kept L m.seq with
     | none=>
      refine J_stpx (stp_keptnone 0 rfl (.int .i64 m.seq) (by simp[KL,hk])) fun _ hg=>?_
      try simp only[aQ]
      refine J_skip ?_
      try simp only[aQ]
      refine J_eb ?_
      try simp only[aQ]
      refine J_seq ?_
      try simp only[aQ]
      refine J_seq ?_
      try simp only[aQ]
      refine jT [(0,true),(1,true),(2,true),(3,true),(4,true),(5,true),(6,true),(7,true),(8,true),(9,true),(10,false),(11,false),(12,true)] [(11,[])] ?_
      refine Ya (Rds 0 3++[.rd 3 [.o 0 none] 0 0,zR 4,.rd 5 [.o 2 none] 0 0]) [63] [zV 77 (.map (some mb)),zI 79 m.seq] ?_
      refine JR_lookr (.o 1 none) mb 225 3 62 (TypeDesc.int IntKind.i64) (.int .i64 m.seq) (.agg #[.int .i64 0,.int .i64 0,.int .i64 0,.int .i64 0,.int .i64 0,.bool false,.slice none 0 0,.int .i64 0,.slice none 0 0]) true (some 80) (by kernel_rfl) (by kernel_rfl) (by kernel_rfl) (by kernel_rfl) (by simp[MapKept.IsKey]) (by kernel_rfl) rfl hm (fun hno=>?_) (fun v hv=>?_)
      ·try simp only[aQ]
       refine Ym (Rds 7 10++[.wr 10 [] 0,.wr 11 (hnO 3 9) 0,zR 12]) [80,77,79] (fun nu2=>[zB 7 false]) o0 (fun nu2=>[(nu2 0,.cells #[nI 0,nI 0,nI 0,nI 0,nI 0,.bool false,.slice none 0 0,nI 0,.slice none 0 0] 62 (0,0))]) [] (fun nu2=>?_)
       try simp only[aQ]
       refine JR_end ?_
       try simp only[aQ]
       refine J_seq ?_
       try simp only[aQ]
       refine Za [zR 0,zR 1] [7] [zB 84 true] ?_
       try simp only[aQ]
       refine cTt ?_
       try simp only[aQ]
       refine jT [(0,true),(1,true),(2,true),(3,true),(4,true),(5,true),(6,true),(7,false),(8,false)] [(8,[1])] ?_
       refine Ya (Rds 0 3++[.rd 3 [.o 0 none] 0 0,zR 4,.rd 5 [.o 2 none] 0 0,.rd 6 (hnO 2 9) 0 0]) [84,3] [zV 88 (.map (some mb)),zI 90 m.seq,zV 91 (.agg #[nI m.fm,nI m.to,nI m.shard,nI m.seq,nI m.time,.bool m.beat,.slice a1 n1 c1,nI m.c.place,.slice a2 n2 c2])] ?_
       refine Yc 153 #[.agg #[nI m.fm,nI m.to,nI m.shard,nI m.seq,nI m.time,.bool m.beat,.slice a1 n1 c1,nI m.c.place,.slice a2 n2 c2]] (some 92) fun w S hG=>?_
       refine(sOwn (m:=m) (hG.at 1 rfl) (hG.at 2 rfl) hl1 hl2 hl3).mono ?_
       rintro e2 w2 ⟨u1,d1,u2,d2,hR⟩
       refine⟨_,_,_,hR,?_⟩
       try simp only[aQ]
       refine JR_put 1 mb 225 3 62 (TypeDesc.int IntKind.i64) (.int .i64 m.seq) (.agg #[.int .i64 m.fm,.int .i64 m.to,.int .i64 m.shard,.int .i64 m.seq,.int .i64 m.time,.bool m.beat,.slice u1 n1 d1,.int .i64 m.c.place,.slice u2 n2 d2]) none (by kernel_rfl) (by kernel_rfl) (by kernel_rfl) (by kernel_rfl) (by simp[MapKept.IsKey]) rfl hm (fun es2 clock2 hm2 hsz2=>?_)
       try simp only[aQ]
       refine JR_end ?_
       try simp only[aQ]
       refine J_block ?_
       try simp only[aQ]
       refine J_stp (stp_putkept 0 rfl (.int .i64 m.seq) (us:=[.int .i64 m.fm,.int .i64 m.to,.int .i64 m.shard,.int .i64 m.seq,.int .i64 m.time,.bool m.beat,.slice u1 n1 d1,.int .i64 m.c.place,.slice u2 n2 d2]) (row:=eMsg m) ⟨.inl ⟨rfl,rfl⟩,.inl ⟨rfl,rfl⟩,.inl ⟨rfl,rfl⟩,.inl ⟨rfl,rfl⟩,.inl ⟨rfl,rfl⟩,.inl ⟨rfl,rfl⟩,.inr (by simp),.inl ⟨rfl,rfl⟩,.inr (by simp),trivial⟩) ?_
       rw[KL_put hk]
       refine J_stp (stp_accm eMsg 62 9) ?_
       refine J_loopx (fun x:HearS=>[zP 0 b,zS 4 x.a x.k x.c,zV 5 .nilIface]) (fun x:HearS=>[(b,rCells fm to sh x.q x.t mb),(mb,.map x.es x.clock)]) (fun x:HearS=>[cKept x.g (KL x.L),cAcc (.slice x.a x.k x.c) 62 9 (x.out.map eMsg)]) (fun x:HearS=>[(.nilIface,(dC er eb))]) (fun x:HearS=>x.L.length) (fun x:HearS=>(MapOf (.int .i64) x.es x.g∧Dist x.L∧0≤x.q∧x.q+x.L.length≤1000000∧x.out.length+x.L.length≤1000000∧drainAll (L++[m]) q t=(x.out++(drainAll x.L x.q x.t).1,(drainAll x.L x.q x.t).2))) ⟨none,0,0,[],L++[m],q,t,es2,clock2,_⟩ [0,4,5] [0,1] [0,1] [0] ?_ (by kernel_rfl) rfl rfl rfl ?_
       ·exact⟨hm2,hd.app hk,hq0,by simp;omega,by simp;omega,by simp⟩
       rintro⟨a5,k5,c5,out,L5,q5,t5,es5,cl5,g5⟩ ⟨hm5,hd5,hq5,hb5,hlen5,hdr⟩
       dsimp only at hm5 hd5 hq5 hb5 hlen5 hdr ⊢
       refine J_stpx (stp_acclen 1 rfl) fun _ hk5=>?_
       rw[List.length_map]at hk5
       cases hkp:kept L5 (q5+1)with
       | none=>
        refine J_stpx (stp_keptnone 0 rfl (.int .i64 (q5+1)) (by simp[KL,hkp])) fun _ hg5=>?_
        refine J_block ?_
        refine jS [(0,true),(1,true),(2,true),(3,true),(4,true),(5,true),(6,true),(7,true),(8,true),(9,true),(10,true),(11,true),(12,true),(13,false),(14,false),(15,true)] [(14,[])] ?_
        refine Yp (Rds 0 3++[.rd 3 [.o 0 none] 0 0]++Rds 4 7++[.rd 7 [.o 0 none] 0 0,.rd 8 [] 0 1]) [] [zV 97 (.map (some mb)),zI 102 (q5+1)] (oC (show IntKind.i64.wrap (q5+1)=q5+1 from wrap_i64 (by omega) (by omega)) oN) ?_
        refine JR_lookr (.o 1 none) mb 225 3 62 (TypeDesc.int IntKind.i64) (.int .i64 (q5+1)) (.agg #[.int .i64 0,.int .i64 0,.int .i64 0,.int .i64 0,.int .i64 0,.bool false,.slice none 0 0,.int .i64 0,.slice none 0 0]) true (some 103) (by kernel_rfl) (by kernel_rfl) (by kernel_rfl) (by kernel_rfl) (by simp[MapKept.IsKey]) (by kernel_rfl) rfl hm5 (fun hno=>?_) (fun v hv=>?_)
        ·refine Ym (Rds 10 13++[.wr 13 [] 0,.wr 14 [.o 2 none,.o 2 none,.o 2 none,.o 2 none,.o 2 none,.o 2 none,.o 2 none,.o 2 none,.o 2 none] 0,.rd 15 [] 0 0]) [103,97,102] (fun nu3=>[(8,.val (.pointer (some (⟨nu3 0,0,none⟩)))),(9,.val (.bool false))]) o0 (fun nu3=>[(nu3 0,.cells #[.int .i64 0,.int .i64 0,.int .i64 0,.int .i64 0,.int .i64 0,.bool false,.slice none 0 0,.int .i64 0,.slice none 0 0] 62 (0,0))]) [] (fun nu3=>?_)
         refine JR_end (J_seq ?_)
         refine Zs [zR 0,zR 1] [] [zB 107 true] ?_
         refine cTt ?_
         refine Zs (Rds 0 3) [107] [] ?_
         refine Yr [[],[]] (.tuple #[.slice a5 k5 c5,.nilIface]) fun a w s=>?_
         have hT:hearT fm to sh ⟨L,q,t⟩ m=(0,out,⟨L5,q5,t5⟩):=by
          rw[hearT,if_neg hw2,if_neg hb2,if_neg (by simp;omega),if_neg (by simpa using hf2)]
          simp only[hk]
          rw[hdr,drain_none hkp]
          simp
         rw[hT]
         have s1:=((((s.hide 1 rfl).hide 0 rfl).stp (stp_closemap 2 0 rfl rfl hm5))).stp (stp_freeze 0 rfl)
         exact⟨_,_,_,_,s1.ret (by simp) [0,1] [1] rfl rfl,.inl ⟨rfl,rfl⟩⟩
        ·rw[hg5]at hv
         cases hv
       | some x=>
        have hxs:=kept_seq hkp
        refine J_stpx (stp_readkept 0 rfl (.int .i64 (q5+1)) (row:=eMsg x) (by simp[KL,hkp])) fun ls hls=>?_
        obtain⟨hls1,hls2⟩:=hls
        obtain⟨⟨xa,xc⟩,⟨ya,yc⟩,rfl⟩:∃l0 l1,ls=[l0,l1]:=len2 hls1
        try simp only[aQ]
        refine J_block ?_
        refine jS [(0,true),(1,true),(2,true),(3,true),(4,true),(5,true),(6,true),(7,true),(8,true),(9,true),(10,true),(11,true),(12,true),(13,false),(14,false),(15,true)] [(14,[])] ?_
        refine Yp (Rds 0 3++[.rd 3 [.o 0 none] 0 0]++Rds 4 7++[.rd 7 [.o 0 none] 0 0,.rd 8 [] 0 1]) [] [zV 97 (.map (some mb)),zI 102 (q5+1)] (oC (show IntKind.i64.wrap (q5+1)=q5+1 from wrap_i64 (by omega) (by omega)) oN) ?_
        refine JR_lookr (.o 1 none) mb 225 3 62 (TypeDesc.int IntKind.i64) (.int .i64 (q5+1)) (.agg #[.int .i64 0,.int .i64 0,.int .i64 0,.int .i64 0,.int .i64 0,.bool false,.slice none 0 0,.int .i64 0,.slice none 0 0]) true (some 103) (by kernel_rfl) (by kernel_rfl) (by kernel_rfl) (by kernel_rfl) (by simp[MapKept.IsKey]) (by kernel_rfl) rfl hm5 (fun hno=>?_) (fun v hv=>?_)
        ·rw[hls2]at hno
         cases hno
        ·rw[hls2]at hv
         cases hv
         refine Ym (Rds 10 13++[.wr 13 [] 0,.wr 14 (hnO 2 9) 0,zR 15]) [103,97,102] (fun nu3=>[zP 8 (nu3 0),zB 9 true]) o0 (fun nu3=>[(nu3 0,.cells #[nI x.fm,nI x.to,nI x.shard,nI x.seq,nI x.time,.bool x.beat,.slice (xa,xc).fst ((List.map eI x.c.when).length) xc,nI x.c.place,.slice (ya,yc).fst ((List.map eOp x.c.ops).length) yc] 62 (0,0))]) [] (fun nu3=>?_)
         refine JR_end (J_seq ?_)
         refine Zs [zR 0,zR 1] [] [zB 107 false] ?_
         refine cF ?_
         refine J_skip ?_
         refine jS [(0,true),(1,true),(2,true),(3,true),(4,true),(5,true),(6,false)] [(6,[1])] ?_
         refine Ya (Rds 0 3++[.rd 3 [.o 0 none] 0 0,zR 4,.rd 5 [.o 2 none] 0 0]) [107] [zV 112 (.map (some mb)),zI 114 x.seq] ?_
         refine JR_del 1 mb 225 3 62 (TypeDesc.int IntKind.i64) (.int .i64 x.seq) none (by kernel_rfl) (by kernel_rfl) (by kernel_rfl) (by kernel_rfl) (by simp[MapKept.IsKey]) rfl hm5 (fun es3 hm3 hsz3=>?_)
         refine JR_end ?_
         refine Zv (Rds 0 3++[.rd 3 [.o 2 none] 0 0,zR 4,.rd 5 [.o 2 none] 0 0,zR 6,zR 7,.wr 8 [.o 0 none] 0,zR 9,zR 10,.wr 11 [.o 0 none] 0]) [(8,[0]),(11,[0])] [] (fun _=>[]) (fun _=>[(0,.cells #[nI fm,nI to,nI sh,nI x.seq,nI x.time,.map (some mb)] 227 (0,0))]) o0 (fun _=>?_)
         refine jT [(0,true),(1,true),(2,false),(3,false),(4,true)] [] ?_
         refine Ym [zR 0,.rd 1 (hnO 2 9) 0 0,.wr 2 [] 0] [] (fun nu4=>[zS 125 a5 k5 c5,zS 127 (sA (nu4 0) 0) 1 1]) o0 (fun nu4=>[(nu4 0,.cells #[nI x.fm,nI x.to,nI x.shard,nI x.seq,nI x.time,.bool x.beat,.slice (xa,xc).fst ((List.map eI x.c.when).length) xc,nI x.c.place,.slice (ya,yc).fst ((List.map eOp x.c.ops).length) yc] 62 (0,0))]) [] (fun nu4=>?_)
         refine JR_appm 1 56 62 9 104 (.agg #[.int .i64 0,.int .i64 0,.int .i64 0,.int .i64 0,.int .i64 0,.bool false,.slice none 0 0,.int .i64 0,.slice none 0 0]) (a0:=a5) (len:=k5) (cap0:=c5) (ax:=(some (⟨nu4 0,0,none⟩))) (m:=1) (c:=1) (dst:=(some 128)) [x] (by kernel_rfl) (by kernel_rfl) (by kernel_rfl) (by kernel_rfl) rfl (by decide) rfl (fun _ _ _ s=>src_one s 3 rfl rfl ⟨.inl ⟨rfl,rfl⟩,⟨.inl ⟨rfl,rfl⟩,⟨.inl ⟨rfl,rfl⟩,⟨.inl ⟨rfl,rfl⟩,⟨.inl ⟨rfl,rfl⟩,⟨.inl ⟨rfl,rfl⟩,⟨.inr (.inl (List.mem_of_getElem? (i:=1) rfl)),⟨.inl ⟨rfl,rfl⟩,⟨.inr (.inl (List.mem_of_getElem? (i:=2) rfl)),trivial⟩⟩⟩⟩⟩⟩⟩⟩⟩) (by simp only[maxLen];omega) (by omega) (fun av1 cv1=>?_)
         try simp only[aQ]
         refine Ya [zR 4] [128,125,127] [zS 4 av1 (k5+1) cv1] ?_
         try simp only[aQ]
         refine JR_end ?_
         try simp only[aQ]
         refine J_eb ?_
         try simp only[aQ]
         refine J_stp (stp_delkept 0 rfl (.int .i64 x.seq)) ?_
         rw[KL_del hd5]
         have hdl:=dropK_len hkp
         refine J_backx ⟨av1,k5+1,cv1,out++[x],dropK L5 x.seq,x.seq,x.time,es3,cl5,_⟩ [0,4,5] [0,1] [0,1] [0] ?_ ?_ (by kernel_rfl) rfl rfl rfl
         ·refine⟨hm3,hd5.drop _,by simp only;omega,?_,?_,?_⟩
          ·rw[hxs]
           simp only
           omega
          ·rw[hxs]
           simp
           omega
          ·rw[hdr,drain_some hkp,hxs]
           simp
         ·rw[hxs]
          simp only
          omega
      ·rw[hg]at hv
       cases hv
     | some x0=>
      refine J_stpx (stp_readkept 0 rfl (.int .i64 m.seq) (row:=eMsg x0) (by simp[KL,hk])) fun ls0 hls0=>?_
      obtain⟨hls01,hls02⟩:=hls0
      obtain⟨⟨pa,pc⟩,⟨ra,rc⟩,rfl⟩:∃l0 l1,ls0=[l0,l1]:=len2 hls01
      try simp only[aQ]
      refine J_skip ?_
      try simp only[aQ]
      refine J_eb ?_
      try simp only[aQ]
      refine J_seq ?_
      try simp only[aQ]
      refine J_seq ?_
      try simp only[aQ]
      refine jT [(0,true),(1,true),(2,true),(3,true),(4,true),(5,true),(6,true),(7,true),(8,true),(9,true),(10,false),(11,false),(12,true)] [(11,[])] ?_
      refine Ya (Rds 0 3++[.rd 3 [.o 0 none] 0 0,zR 4,.rd 5 [.o 2 none] 0 0]) [63] [zV 77 (.map (some mb)),zI 79 m.seq] ?_
      refine JR_lookr (.o 1 none) mb 225 3 62 (TypeDesc.int IntKind.i64) (.int .i64 m.seq) (.agg #[.int .i64 0,.int .i64 0,.int .i64 0,.int .i64 0,.int .i64 0,.bool false,.slice none 0 0,.int .i64 0,.slice none 0 0]) true (some 80) (by kernel_rfl) (by kernel_rfl) (by kernel_rfl) (by kernel_rfl) (by simp[MapKept.IsKey]) (by kernel_rfl) rfl hm (fun hno=>?_) (fun v hv=>?_)
      ·rw[hls02]at hno
       cases hno
      ·rw[hls02]at hv
       cases hv
       try simp only[aQ]
       refine Ym (Rds 7 10++[.wr 10 [] 0,.wr 11 (hnO 3 9) 0,zR 12]) [80,77,79] (fun nu2=>[zB 7 true]) o0 (fun nu2=>[(nu2 0,.cells #[nI x0.fm,nI x0.to,nI x0.shard,nI x0.seq,nI x0.time,.bool x0.beat,.slice (pa,pc).fst ((List.map eI x0.c.when).length) pc,nI x0.c.place,.slice (ra,rc).fst ((List.map eOp x0.c.ops).length) rc] 62 (0,0))]) [] (fun nu2=>?_)
       try simp only[aQ]
       refine JR_end ?_
       try simp only[aQ]
       refine J_seq ?_
       try simp only[aQ]
       refine Za [zR 0,zR 1] [7] [zB 84 false] ?_
       try simp only[aQ]
       refine cF ?_
       try simp only[aQ]
       refine J_skip ?_
       try simp only[aQ]
       refine J_block ?_
       try simp only[aQ]
       refine J_stp (stp_accm eMsg 62 9) ?_
       refine J_loopx (fun x:HearS=>[zP 0 b,zS 4 x.a x.k x.c,zV 5 .nilIface]) (fun x:HearS=>[(b,rCells fm to sh x.q x.t mb),(mb,.map x.es x.clock)]) (fun x:HearS=>[cKept x.g (KL x.L),cAcc (.slice x.a x.k x.c) 62 9 (x.out.map eMsg)]) (fun x:HearS=>[(.nilIface,(dC er eb))]) (fun x:HearS=>x.L.length) (fun x:HearS=>(MapOf (.int .i64) x.es x.g∧Dist x.L∧0≤x.q∧x.q+x.L.length≤1000000∧x.out.length+x.L.length≤1000000∧drainAll (L) q t=(x.out++(drainAll x.L x.q x.t).1,(drainAll x.L x.q x.t).2))) ⟨none,0,0,[],L,q,t,es,clock,g⟩ [0,4,5] [0,1] [0,1] [0] ?_ (by kernel_rfl) rfl rfl rfl ?_
       ·exact⟨hm,hd,hq0,by simp;omega,by simp;omega,by simp⟩
       rintro⟨a5,k5,c5,out,L5,q5,t5,es5,cl5,g5⟩ ⟨hm5,hd5,hq5,hb5,hlen5,hdr⟩
       dsimp only at hm5 hd5 hq5 hb5 hlen5 hdr ⊢
       refine J_stpx (stp_acclen 1 rfl) fun _ hk5=>?_
       rw[List.length_map]at hk5
       cases hkp:kept L5 (q5+1)with
       | none=>
        refine J_stpx (stp_keptnone 0 rfl (.int .i64 (q5+1)) (by simp[KL,hkp])) fun _ hg5=>?_
        refine J_block ?_
        refine jS [(0,true),(1,true),(2,true),(3,true),(4,true),(5,true),(6,true),(7,true),(8,true),(9,true),(10,true),(11,true),(12,true),(13,false),(14,false),(15,true)] [(14,[])] ?_
        refine Yp (Rds 0 3++[.rd 3 [.o 0 none] 0 0]++Rds 4 7++[.rd 7 [.o 0 none] 0 0,.rd 8 [] 0 1]) [] [zV 97 (.map (some mb)),zI 102 (q5+1)] (oC (show IntKind.i64.wrap (q5+1)=q5+1 from wrap_i64 (by omega) (by omega)) oN) ?_
        refine JR_lookr (.o 1 none) mb 225 3 62 (TypeDesc.int IntKind.i64) (.int .i64 (q5+1)) (.agg #[.int .i64 0,.int .i64 0,.int .i64 0,.int .i64 0,.int .i64 0,.bool false,.slice none 0 0,.int .i64 0,.slice none 0 0]) true (some 103) (by kernel_rfl) (by kernel_rfl) (by kernel_rfl) (by kernel_rfl) (by simp[MapKept.IsKey]) (by kernel_rfl) rfl hm5 (fun hno=>?_) (fun v hv=>?_)
        ·refine Ym (Rds 10 13++[.wr 13 [] 0,.wr 14 [.o 2 none,.o 2 none,.o 2 none,.o 2 none,.o 2 none,.o 2 none,.o 2 none,.o 2 none,.o 2 none] 0,.rd 15 [] 0 0]) [103,97,102] (fun nu3=>[(8,.val (.pointer (some (⟨nu3 0,0,none⟩)))),(9,.val (.bool false))]) o0 (fun nu3=>[(nu3 0,.cells #[.int .i64 0,.int .i64 0,.int .i64 0,.int .i64 0,.int .i64 0,.bool false,.slice none 0 0,.int .i64 0,.slice none 0 0] 62 (0,0))]) [] (fun nu3=>?_)
         refine JR_end (J_seq ?_)
         refine Zs [zR 0,zR 1] [] [zB 107 true] ?_
         refine cTt ?_
         refine Zs (Rds 0 3) [107] [] ?_
         refine Yr [[],[]] (.tuple #[.slice a5 k5 c5,.nilIface]) fun a w s=>?_
         have hT:hearT fm to sh ⟨L,q,t⟩ m=(0,out,⟨L5,q5,t5⟩):=by
          rw[hearT,if_neg hw2,if_neg hb2,if_neg (by simp;omega),if_neg (by simpa using hf2)]
          simp only[hk]
          rw[hdr,drain_none hkp]
          simp
         rw[hT]
         have s1:=((((s.hide 1 rfl).hide 0 rfl).stp (stp_closemap 2 0 rfl rfl hm5))).stp (stp_freeze 0 rfl)
         exact⟨_,_,_,_,s1.ret (by simp) [0,1] [1] rfl rfl,.inl ⟨rfl,rfl⟩⟩
        ·rw[hg5]at hv
         cases hv
       | some x=>
        have hxs:=kept_seq hkp
        refine J_stpx (stp_readkept 0 rfl (.int .i64 (q5+1)) (row:=eMsg x) (by simp[KL,hkp])) fun ls hls=>?_
        obtain⟨hls1,hls2⟩:=hls
        obtain⟨⟨xa,xc⟩,⟨ya,yc⟩,rfl⟩:∃l0 l1,ls=[l0,l1]:=len2 hls1
        try simp only[aQ]
        refine J_block ?_
        refine jS [(0,true),(1,true),(2,true),(3,true),(4,true),(5,true),(6,true),(7,true),(8,true),(9,true),(10,true),(11,true),(12,true),(13,false),(14,false),(15,true)] [(14,[])] ?_
        refine Yp (Rds 0 3++[.rd 3 [.o 0 none] 0 0]++Rds 4 7++[.rd 7 [.o 0 none] 0 0,.rd 8 [] 0 1]) [] [zV 97 (.map (some mb)),zI 102 (q5+1)] (oC (show IntKind.i64.wrap (q5+1)=q5+1 from wrap_i64 (by omega) (by omega)) oN) ?_
        refine JR_lookr (.o 1 none) mb 225 3 62 (TypeDesc.int IntKind.i64) (.int .i64 (q5+1)) (.agg #[.int .i64 0,.int .i64 0,.int .i64 0,.int .i64 0,.int .i64 0,.bool false,.slice none 0 0,.int .i64 0,.slice none 0 0]) true (some 103) (by kernel_rfl) (by kernel_rfl) (by kernel_rfl) (by kernel_rfl) (by simp[MapKept.IsKey]) (by kernel_rfl) rfl hm5 (fun hno=>?_) (fun v hv=>?_)
        ·rw[hls2]at hno
         cases hno
        ·rw[hls2]at hv
         cases hv
         refine Ym (Rds 10 13++[.wr 13 [] 0,.wr 14 (hnO 2 9) 0,zR 15]) [103,97,102] (fun nu3=>[zP 8 (nu3 0),zB 9 true]) o0 (fun nu3=>[(nu3 0,.cells #[nI x.fm,nI x.to,nI x.shard,nI x.seq,nI x.time,.bool x.beat,.slice (xa,xc).fst ((List.map eI x.c.when).length) xc,nI x.c.place,.slice (ya,yc).fst ((List.map eOp x.c.ops).length) yc] 62 (0,0))]) [] (fun nu3=>?_)
         refine JR_end (J_seq ?_)
         refine Zs [zR 0,zR 1] [] [zB 107 false] ?_
         refine cF ?_
         refine J_skip ?_
         refine jS [(0,true),(1,true),(2,true),(3,true),(4,true),(5,true),(6,false)] [(6,[1])] ?_
         refine Ya (Rds 0 3++[.rd 3 [.o 0 none] 0 0,zR 4,.rd 5 [.o 2 none] 0 0]) [107] [zV 112 (.map (some mb)),zI 114 x.seq] ?_
         refine JR_del 1 mb 225 3 62 (TypeDesc.int IntKind.i64) (.int .i64 x.seq) none (by kernel_rfl) (by kernel_rfl) (by kernel_rfl) (by kernel_rfl) (by simp[MapKept.IsKey]) rfl hm5 (fun es3 hm3 hsz3=>?_)
         refine JR_end ?_
         refine Zv (Rds 0 3++[.rd 3 [.o 2 none] 0 0,zR 4,.rd 5 [.o 2 none] 0 0,zR 6,zR 7,.wr 8 [.o 0 none] 0,zR 9,zR 10,.wr 11 [.o 0 none] 0]) [(8,[0]),(11,[0])] [] (fun _=>[]) (fun _=>[(0,.cells #[nI fm,nI to,nI sh,nI x.seq,nI x.time,.map (some mb)] 227 (0,0))]) o0 (fun _=>?_)
         refine jT [(0,true),(1,true),(2,false),(3,false),(4,true)] [] ?_
         refine Ym [zR 0,.rd 1 (hnO 2 9) 0 0,.wr 2 [] 0] [] (fun nu4=>[zS 125 a5 k5 c5,zS 127 (sA (nu4 0) 0) 1 1]) o0 (fun nu4=>[(nu4 0,.cells #[nI x.fm,nI x.to,nI x.shard,nI x.seq,nI x.time,.bool x.beat,.slice (xa,xc).fst ((List.map eI x.c.when).length) xc,nI x.c.place,.slice (ya,yc).fst ((List.map eOp x.c.ops).length) yc] 62 (0,0))]) [] (fun nu4=>?_)
         refine JR_appm 1 56 62 9 104 (.agg #[.int .i64 0,.int .i64 0,.int .i64 0,.int .i64 0,.int .i64 0,.bool false,.slice none 0 0,.int .i64 0,.slice none 0 0]) (a0:=a5) (len:=k5) (cap0:=c5) (ax:=(some (⟨nu4 0,0,none⟩))) (m:=1) (c:=1) (dst:=(some 128)) [x] (by kernel_rfl) (by kernel_rfl) (by kernel_rfl) (by kernel_rfl) rfl (by decide) rfl (fun _ _ _ s=>src_one s 3 rfl rfl ⟨.inl ⟨rfl,rfl⟩,⟨.inl ⟨rfl,rfl⟩,⟨.inl ⟨rfl,rfl⟩,⟨.inl ⟨rfl,rfl⟩,⟨.inl ⟨rfl,rfl⟩,⟨.inl ⟨rfl,rfl⟩,⟨.inr (.inl (List.mem_of_getElem? (i:=1) rfl)),⟨.inl ⟨rfl,rfl⟩,⟨.inr (.inl (List.mem_of_getElem? (i:=2) rfl)),trivial⟩⟩⟩⟩⟩⟩⟩⟩⟩) (by simp only[maxLen];omega) (by omega) (fun av1 cv1=>?_)
         try simp only[aQ]
         refine Ya [zR 4] [128,125,127] [zS 4 av1 (k5+1) cv1] ?_
         try simp only[aQ]
         refine JR_end ?_
         try simp only[aQ]
         refine J_eb ?_
         try simp only[aQ]
         refine J_stp (stp_delkept 0 rfl (.int .i64 x.seq)) ?_
         rw[KL_del hd5]
         have hdl:=dropK_len hkp
         refine J_backx ⟨av1,k5+1,cv1,out++[x],dropK L5 x.seq,x.seq,x.time,es3,cl5,_⟩ [0,4,5] [0,1] [0,1] [0] ?_ ?_ (by kernel_rfl) rfl rfl rfl
         ·refine⟨hm3,hd5.drop _,by simp only;omega,?_,?_,?_⟩
          ·rw[hxs]
           simp only
           omega
          ·rw[hxs]
           simp
           omega
          ·rw[hdr,drain_some hkp,hxs]
           simp
         ·rw[hxs]
          simp only
          omega
end Go.Proofs.YtmkapocibaojdaaGreatDoor
end
section
namespace Go.Sx
open Go
section generic
variable {α:Type} (lt:α→α→Bool)
def insG (l:List α) (x:α):List α:=l.takeWhile (fun y=>lt y x)++x::l.dropWhile (fun y=>lt y x)
theorem insG_mem {l:List α} {x z:α}:z∈insG lt l x↔z=x∨z∈l:=by
 unfold insG
 have h:z∈l↔z∈l.takeWhile (fun y=>lt y x)∨z∈l.dropWhile (fun y=>lt y x):=by
  rw[←List.mem_append,List.takeWhile_append_dropWhile]
 rw[h,List.mem_append,List.mem_cons]
 constructor
 ·rintro(h|h|h)
  ·exact .inr (.inl h)
  ·exact .inl h
  ·exact .inr (.inr h)
 ·rintro(h|h|h)
  ·exact .inr (.inl h)
  ·exact .inl h
  ·exact .inr (.inr h)
theorem insG_sorted (tr:∀a b c,lt a b=true→lt b c=true→lt a c=true) {x:α}:∀{l:List α},(∀y∈l,lt y x=true∨lt x y=true)→(l.Pairwise fun a b=>lt a b=true)→(insG lt l x).Pairwise fun a b=>lt a b=true
 | [],_,_=>by simp[insG]
 | y::l,hx,h=>by
  have h1:=List.pairwise_cons.1 h
  unfold insG
  by_cases hy:lt y x=true
  ·rw[List.takeWhile_cons_of_pos (p:=fun y=>lt y x) hy,List.dropWhile_cons_of_pos (p:=fun y=>lt y x) hy,List.cons_append]
   refine List.pairwise_cons.2 ⟨fun z hz=>?_,insG_sorted tr (fun z hz=>hx z (List.mem_cons_of_mem _ hz)) h1.2⟩
   rcases(insG_mem lt).1 hz with rfl|hz
   ·exact hy
   ·exact h1.1 z hz
  ·rw[List.takeWhile_cons_of_neg (p:=fun y=>lt y x) hy,List.dropWhile_cons_of_neg (p:=fun y=>lt y x) hy,List.nil_append]
   have hxy:=(hx y (List.mem_cons_self ..)).resolve_left hy
   refine List.pairwise_cons.2 ⟨fun z hz=>?_,h⟩
   rcases List.mem_cons.1 hz with rfl|hz
   ·exact hxy
   ·exact tr _ _ _ hxy (h1.1 z hz)
theorem insG_fold (tr:∀a b c,lt a b=true→lt b c=true→lt a c=true):∀{raw p:List α},(p.Pairwise fun a b=>lt a b=true)→(∀a∈p,∀b∈raw,lt a b=true∨lt b a=true)→(raw.Pairwise fun a b=>lt a b=true∨lt b a=true) →
  ((raw.foldl (insG lt) p).Pairwise fun a b=>lt a b=true)∧∀z,z∈raw.foldl (insG lt) p↔z∈p∨z∈raw
 | [],p,hp,_,_=>⟨hp,fun z=>by simp⟩
 | x::raw,p,hp,hc,hr=>by
  have h1:=List.pairwise_cons.1 hr
  have h2:=insG_sorted lt tr (x:=x) (fun y hy=>hc y hy x (List.mem_cons_self ..)) hp
  obtain⟨h3,h4⟩:=insG_fold tr h2 (raw:=raw) (fun a ha b hb=>by
   rcases(insG_mem lt).1 ha with rfl|ha
   ·exact h1.1 b hb
   ·exact hc a ha b (List.mem_cons_of_mem _ hb)) h1.2
  refine⟨h3,fun z=>?_⟩
  rw[List.foldl_cons,h4,insG_mem,List.mem_cons]
  constructor
  ·rintro((h|h)|h)
   ·exact .inr (.inl h)
   ·exact .inl h
   ·exact .inr (.inr h)
  ·rintro(h|h|h)
   ·exact .inl (.inr h)
   ·exact .inl (.inl h)
   ·exact .inr h
theorem merge_strict (asy:∀a b,lt a b=true→lt b a=true→False) (ntr:∀a b c,lt b a=false→lt c b=false→lt c a=false) {l:List α} (hl:l.Pairwise fun a b=>lt a b=true∨lt b a=true) :
  (l.mergeSort fun x y=>!lt y x).Pairwise fun a b=>lt a b=true:=by
 have h1:=List.pairwise_mergeSort (le:=fun x y=>!lt y x) (fun a b c h1 h2=>by simp only[Bool.not_eq_true']at *;exact ntr a b c h1 h2) (fun a b=>by
  cases h:lt b a with
  | false=>rfl
  | true=>
   cases h2:lt a b with
   | false=>rfl
   | true=>exact(asy _ _ h h2).elim) l
 have h2:(l.mergeSort fun x y=>!lt y x).Pairwise fun a b=>lt a b=true∨lt b a=true:=
  (List.mergeSort_perm l _).symm.pairwise hl fun h=>h.symm
 refine(h1.and h2).imp fun{a b} h=>?_
 have h3:lt b a=false:=by simpa using h.1
 rcases h.2 with h4|h4
 ·exact h4
 ·rw[h3]at h4;cases h4
theorem ins_sort (tr:∀a b c,lt a b=true→lt b c=true→lt a c=true) (asy:∀a b,lt a b=true→lt b a=true→False) (ntr:∀a b c,lt b a=false→lt c b=false→lt c a=false) {l:List α} (hl:l.Pairwise fun a b=>lt a b=true∨lt b a=true) :
  l.foldl (insG lt) []=l.mergeSort fun x y=>!lt y x:=by
 obtain⟨h1,h2⟩:=insG_fold lt tr (raw:=l) (p:=[]) List.Pairwise.nil (by simp) hl
 refine eq_of_sorted (lt:=fun a b=>lt a b=true) asy h1 (merge_strict lt asy ntr hl) fun x=>?_
 rw[h2,List.mem_mergeSort]
 simp
end generic
theorem lex_ntr {xs ys zs:List Int} (h1:xs.length=ys.length) (h2:ys.length=zs.length) (h:¬lexC ys xs<0) (h':¬lexC zs ys<0):¬lexC zs xs<0:=fun hc=>by
 rcases lexC_tri h1 with h3|h3|h3
 ·rcases lexC_tri h2 with h4|h4|h4
  ·exact lexC_asymm (lexC_trans h3 h4) hc
  ·rw[h4]at h3
   exact lexC_asymm h3 hc
  ·exact h' h4
 ·rw[←h3]at h'
  exact h' hc
 ·exact h h3
theorem sort_done {l:List DoneT} (h:(l.map (·.d)).Nodup):l.foldl (insG doneLt) []=sortDone l:=by
 refine ins_sort doneLt (fun _ _ _=>doneLt_trans) (fun _ _=>doneLt_asymm) (fun a b c h1 h2=>?_) ((List.pairwise_map.1 h).imp fun{a b} hne=>?_)
 ·have h3:¬lexC (doneKey b) (doneKey a)<0:=fun hc=>by rw[doneLt_iff.2 hc]at h1;cases h1
  have h4:¬lexC (doneKey c) (doneKey b)<0:=fun hc=>by rw[doneLt_iff.2 hc]at h2;cases h2
  exact Bool.eq_false_iff.2 fun hc=>lex_ntr (xs:=doneKey a) (ys:=doneKey b) (zs:=doneKey c) rfl rfl h3 h4 (doneLt_iff.1 hc)
 ·rcases doneLt_tri a b with h1|h1|h1
  ·exact .inl h1
  ·exact absurd (doneKey_dot h1) hne
  ·exact .inr h1
end Go.Sx
end
section
namespace Go.Sx
open Go
theorem Rep.takeS {w:World} {S:Nat→Prop} {a:Option Addr} {n c k:Nat} {rows:List (List D)} (h:Rep w S (.slice a n c) (.sl k rows)) (i:Nat) (hi:i≤rows.length):Rep w S (.slice a i c) (.sl k (rows.take i)):=by
 cases h with
 | nil=>
  obtain rfl:i=0:=by simpa using hi
  exact .nil
 | sl u hb hS hc hk hl hcell hrep=>
  have:=Rep.sl (rows:=rows.take i) u hb hS (Nat.le_trans (by rw[List.length_take];exact Nat.min_le_right ..) hc) hk (fun row hr=>hl row (List.mem_of_mem_take hr)) (fun j q hj hq=>hcell j q (by rw[List.length_take]at hj;omega) hq) (fun j q row d hj hd=>hrep j q row d (by
   rw[List.getElem?_take]at hj
   split at hj
   ·exact hj
   ·cases hj) hd)
  have e:(rows.take i).length=i:=by rw[List.length_take];omega
  rw[e]at this
  exact this
theorem Rep.dropS {w:World} {S:Nat→Prop} {b off n c k:Nat} {rows:List (List D)} (h:Rep w S (.slice (some ⟨b,off,none⟩) n c) (.sl k rows)) (i:Nat) (hi:i≤rows.length):Rep w S (.slice (some ⟨b,off+i*k,none⟩) (n - i) (c - i)) (.sl k (rows.drop i)):=by
 cases h with
 | nil=>
  obtain rfl:i=0:=by simpa using hi
  exact .nil
 | sl u hb hS hc hk hl hcell hrep=>
  have:=Rep.sl (rows:=rows.drop i) (off:=off+i*k) (cap:=c - i) (fun j q=>u (i+j) q) hb hS (by rw[List.length_drop];omega) hk (fun row hr=>hl row (List.mem_of_mem_drop hr)) (fun j q hj hq=>by
   have h1:=hcell (i+j) q (by rw[List.length_drop]at hj;omega) hq
   rw[←h1,Nat.add_mul]
   congr 1
   omega) (fun j q row d hj hd=>hrep (i+j) q row d (by rw[List.getElem?_drop]at hj;exact hj) hd)
  rwa[List.length_drop]at this
theorem Rep.takeM {β:Type} {enc:β→List D} {l:List β} {w:World} {S:Nat→Prop} {a:Option Addr} {n c k:Nat} (h:Rep w S (.slice a n c) (.sl k (l.map enc))) (i:Nat) (hi:i≤l.length):Rep w S (.slice a i c) (.sl k ((l.take i).map enc)):=by
 rw[List.map_take]
 exact h.takeS i (by rw[List.length_map];exact hi)
theorem Rep.dropM {β:Type} {enc:β→List D} {l:List β} {w:World} {S:Nat→Prop} {b off n c k:Nat} (h:Rep w S (.slice (some ⟨b,off,none⟩) n c) (.sl k (l.map enc))) (i:Nat) (hi:i≤l.length):Rep w S (.slice (some ⟨b,off+i*k,none⟩) (n - i) (c - i)) (.sl k ((l.drop i).map enc)):=by
 rw[List.map_drop]
 exact h.dropS i (by rw[List.length_map];exact hi)
theorem Rep.cap {w:World} {S:Nat→Prop} {a:Option Addr} {n c k:Nat} {rows:List (List D)} (h:Rep w S (.slice a n c) (.sl k rows)):n≤c:=by
 cases h with
 | nil=>exact Nat.zero_le _
 | sl u hb hS hc=>exact hc
end Go.Sx
end
