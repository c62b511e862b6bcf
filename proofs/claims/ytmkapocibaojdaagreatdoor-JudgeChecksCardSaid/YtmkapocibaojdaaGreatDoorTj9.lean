/- Part 9 of the texts of a claim: Tx19 Tx22 Tx23 Tx24 Tx25 Ver Ord Ref2 Put PartP PartsV JudP JgA Tx28 JgB. -/
import Derived.Recover
import Derived.Lib.AppendStr
import Derived.Laws.IdiomStrings
import Derived.Laws.Concat
import Derived.KernelRfl
import Derived.Test.YtmkapocibaojdaaGreatDoorTj8
section
namespace Go.Sx
open Go
section fork
variable {P:Program} {ops:Array Oper} {Q:Exit→Act→World→Prop}
theorem yields_det {us us':List (Nat×Obj)} {o:Oper} {v v':Value} {a:Act} {w:World} (h:YieldsIf P ops (Hp us) o v a) (h':YieldsIf P ops (Hp us') o v' a) (hw:Hp us w) (hw':Hp us' w):v=v':=by
 rcases h with ⟨h1,h2⟩|⟨h1,h2⟩ <;> rcases h' with ⟨h3,h4⟩|⟨h3,h4⟩
 ·have:=(h2 w hw).symm.trans (h4 w hw')
  simpa using this
 ·rw[h1]at h3;cases h3
 ·rw[h1]at h3;cases h3
 ·rw[h2,h4]
def planF (ops:Array Oper):Nat→List (Nat×Bool)→List (Nat×Bool)→Array Bool→Bool
 | 0,(i,false)::r1,(j,false)::r2,listed=>Region.ready .any ops listed==[i,j]&&planOk ops r1 (listed.setIfInBounds i true)&&planOk ops r2 (listed.setIfInBounds j true)
 | m+1,(i,true)::r1,(j,true)::r2,listed=>Nat.beq i j&&(Region.ready .any ops listed).contains i&&Region.free .any ops listed i&&planF ops m r1 r2 (listed.setIfInBounds i true)
 | _,_,_,_=>false
theorem unlisted_after {listed:Array Bool} {i k:Nat} (hk:(listed.setIfInBounds i true).getD k true=false):i≠k∧listed.getD k true=false:=by
 have hik:i≠k:=by
  rintro rfl
  rcases Nat.lt_or_ge i listed.size with h'|h'
  ·simp[h']at hk
  ·simp[h']at hk
 rw[getD_set_ne true hik]at hk
 exact⟨hik,hk⟩
theorem step_write (hs:Region.noSelect ops=true) (hQ:∀(i:Nat) (o:Oper),ops[i]?=some o→∀c a v w,Q (.panic c) (a.put o.dst v) w→Q (.panic c) a w) {B:Nat} (W0:Nat→Option (List Nat)) {i:Nat} {rest:List (Nat×Bool)} {W:List (Nat×List Nat)} {listed:Array Bool} {a:Act} {w:World}
  (hr:i∈Region.ready .any ops listed) (hp:planOk ops rest (listed.setIfInBounds i true)=true) (hdown:Down .any ops listed) (hW:∀j,listed.getD j true=false→W.lookup j=W0 j) (h:PW P ops Q B true ((i,false)::rest) W a w) :
  wpOp P ops Q i (fun a' w'=>BG B (W0 i) w w'∧wpAnyG P .any ops Q B W0 rest.length (listed.setIfInBounds i true) a' w') a w:=by
 have hun:listed.getD i true=false:=(mem_ready.1 hr).1
 refine wpOp_mono (fun a' w' hh=>⟨?_,wpAnyG_of_plan hs hQ W0 rest (W.filter (·.1 != i)) _ _ _ hp (hdown.list hr) (fun k hk=>?_) hh.2⟩) h
 ·rw[←hW i hun];exact hh.1 rfl
 ·obtain⟨hik,hk2⟩:=unlisted_after hk
  rw[lookup_filter_ne i k (Ne.symm hik)]
  exact hW k hk2
theorem wpAnyG_of_fork (hs:Region.noSelect ops=true) (hQ:∀(i:Nat) (o:Oper),ops[i]?=some o→∀c a v w,Q (.panic c) (a.put o.dst v) w→Q (.panic c) a w) {B:Nat} (W0:Nat→Option (List Nat)) :
  ∀(m:Nat) (q1 q2:List (Nat×Bool)) (W:List (Nat×List Nat)) (listed:Array Bool) (a:Act) (w:World),planF ops m q1 q2 listed=true→q2.length=q1.length→Down .any ops listed →
   (∀j,listed.getD j true=false→W.lookup j=W0 j)→PW P ops Q B true q1 W a w→PW P ops Q B true q2 W a w→wpAnyG P .any ops Q B W0 q1.length listed a w
 | 0,(i,false)::r1,(j,false)::r2,W,listed,a,w,hp,hl,hdown,hW,h1,h2=>by
  simp only[planF,Bool.and_eq_true,beq_iff_eq]at hp
  obtain⟨⟨hr,hp1⟩,hp2⟩:=hp
  have hi:i∈Region.ready .any ops listed:=by rw[hr];simp
  have hj:j∈Region.ready .any ops listed:=by rw[hr];simp
  have hl2:r2.length=r1.length:=by simpa using hl
  refine⟨fun h0=>absurd h0 (by rw[hr];simp),fun k hk=>?_⟩
  rw[hr]at hk
  rcases List.mem_cons.1 hk with rfl|hk
  ·exact step_write hs hQ W0 hi hp1 hdown hW h1
  ·obtain rfl:=List.mem_singleton.1 hk
   have:=step_write hs hQ W0 hj hp2 hdown hW h2
   rw[hl2]at this
   exact this
 | m+1,(i,true)::r1,(j,true)::r2,W,listed,a,w,hp,hl,hdown,hW,h1,h2=>by
  simp only[planF,Bool.and_eq_true]at hp
  obtain⟨⟨⟨hij,hr⟩,hf⟩,hp'⟩:=hp
  obtain rfl:=Nat.eq_of_beq_eq_true hij
  obtain⟨o,v,us,ho,hy,hS,hd,hrest⟩:=h1
  obtain⟨o',v',us',ho',hy',hS',_,hrest'⟩:=h2
  rw[ho]at ho'
  cases ho'
  obtain rfl:=yields_det hy hy' hS hS'
  refine wpAnyG_first (us:=us) ho (Region.noSelect_spec hs) (fun c a w=>hQ _ _ ho c a v w) r1.length listed a w ?_ hdown (by simpa using hr) hy hS ?_
  ·intro k ok hok hki hun hno
   refine⟨Region.free_spec ho hf k ok hok hki hun hno,fun l hl=>?_⟩
   rw[←hW k hun]at hl
   exact hd rfl _ (mem_of_lookup hl)
  ·exact wpAnyG_of_fork hs hQ W0 m r1 r2 W _ _ _ hp' (by simpa using hl) (hdown.list (by simpa using hr)) (fun k hk=>hW k (unlisted_after hk).2) hrest hrest'
 | 0,[],_,_,_,_,_,hp,_,_,_,_,_=>by simp[planF]at hp
 | 0,(_,true)::_,_,_,_,_,_,hp,_,_,_,_,_=>by simp[planF]at hp
 | 0,(_,false)::_,[],_,_,_,_,hp,_,_,_,_,_=>by simp[planF]at hp
 | 0,(_,false)::_,(_,true)::_,_,_,_,_,hp,_,_,_,_,_=>by simp[planF]at hp
 | _+1,[],_,_,_,_,_,hp,_,_,_,_,_=>by simp[planF]at hp
 | _+1,(_,false)::_,_,_,_,_,_,hp,_,_,_,_,_=>by simp[planF]at hp
 | _+1,(_,true)::_,[],_,_,_,_,hp,_,_,_,_,_=>by simp[planF]at hp
 | _+1,(_,true)::_,(_,false)::_,_,_,_,_,hp,_,_,_,_,_=>by simp[planF]at hp
def forkOk (ops:Array Oper) (m:Nat) (q1 q2:List (Nat×Bool)):Bool:=
 Region.noSelect ops&&Nat.beq q1.length ops.size&&Nat.beq q2.length q1.length&&planF ops m q1 q2 (Array.replicate ops.size false)
theorem wp_region_fork {id:Nat} {a:Act} {w:World} (hm:P.follows .mixedOrders=true) (hQ:∀(i:Nat) (o:Oper),ops[i]?=some o→∀c a v w,Q (.panic c) (a.put o.dst v) w→Q (.panic c) a w) (m:Nat) (q1 q2:List (Nat×Bool)) (W:List (Nat×List Nat)) (hok:forkOk ops m q1 q2=true) {B:Nat}
  (h1:PW P ops Q B true q1 W a { w with drawn:=w.drawn+1 }) (h2:PW P ops Q B true q2 W a { w with drawn:=w.drawn+1 }):(Code.region id ops true).wp P Q a w:=by
 simp only[forkOk,Bool.and_eq_true]at hok
 obtain⟨⟨⟨hs,hl1⟩,hl2⟩,hp⟩:=hok
 have hlen:=Nat.eq_of_beq_eq_true hl1
 refine wp_region_any hm (wpAny_of_G (B:=B) (W:=fun j=>W.lookup j) _ _ _ _ ?_)
 rw[←hlen]
 rw[←hlen]at hp
 refine wpAnyG_of_fork hs hQ _ m q1 q2 W _ _ _ hp (Nat.eq_of_beq_eq_true hl2) (fun j o ho hl=>?_) (fun _ _=>rfl) h1 h2
 have hlt:=(Array.getElem?_eq_some_iff.1 ho).1
 rw[hlen]at hl
 simp[hlt]at hl
end fork
section rule
variable {P:Program} {f:Func} {R:Act→World→Prop} {n:Nat} {k:List Itm} {E:Env} {h r:List (Nat×Obj)} {F:List (List Nat×World)} {Y:Ghost}
theorem J_fork (hm:P.follows .mixedOrders=true) {id:Nat} (m:Nat) (q1 q2:List (Nat×Bool)) (Wp:List (Nat×List Nat)) (hok:forkOk (rgOf f id) m q1 q2=true) (hWp:okWp h.length Wp=true)
  (H1:JR P f R n (rgOf f id) h.length true q1 Wp k E h r F Y) (H2:JR P f R n (rgOf f id) h.length true q2 Wp k E h r F Y):J P f R n (.c (.rg id true)::k) E h r F Y:=fun a w ⟨fps,s⟩=>by
 have key:∀{q} (H:JR P f R n (rgOf f id) h.length true q Wp k E h r F Y) w,StF n E h r F Y a w fps→PW P (rgOf f id) (wpK P f R k) w.heap.size true q (idsW fps.flatten h Wp) a w:=fun H w s=>
  H w.heap.size fps.flatten fps a w s (fun b hb=>.inl hb) ⟨fun i _ x hx=>⟨s.own.own.lt (List.mem_of_getElem? hx),fun hm=>s.gh.disj _ hm (List.mem_map.2 ⟨x,List.mem_of_getElem? hx,rfl⟩)⟩,fun x hx=>⟨s.own.ro.lt hx,s.gh.apart x hx⟩,Nat.le_refl _,Nat.le_refl _⟩
   (fun j hj x hx=>by rw[List.getElem?_eq_none hj]at hx;cases hx) hWp
 simp only[wpK,Sk.code]
 exact wp_region_fork hm (fun i o ho c a v w hq=>absurd hq (wpK_panic _ _ _ _)) m q1 q2 _ hok (key H1 _ s.drew) (key H2 _ s.drew)
end rule
end Go.Sx
end
section
namespace Go.Sx
open Go
section reads
variable {P:Program} {f:Func} {R:Act→World→Prop} {n:Nat} {kk:List Itm} {E:Env} {h r:List (Nat×Obj)} {F:List (List Nat×World)}
theorem StF.show {Y:Ghost} {a:Act} {w:World} {fps:List (List Nat)} (s:StF n E h r F Y a w fps) (i:Nat) {b:Nat} {o:Obj} (hi:Y.C[i]?=some (cObj b o)):StF n E (h++[(b,o)]) r F ⟨Y.S,Y.C.eraseIdx i,Y.G⟩ a w (fps.eraseIdx i):=by
 obtain⟨fp,hfp,rfl,hb⟩:=s.gh.chs.at hi
 have hm:b∈fps.flatten:=List.mem_flatten.2 ⟨_,List.mem_of_getElem? hfp,by simp⟩
 have hnb:b∉(fps.eraseIdx i).flatten:=fun hc=>by
  obtain⟨j,x,hj,hx,hbx⟩:=mem_erase_flat hc
  exact hj (flat_at s.gh.nodup hx hfp hbx (by simp))
 have hids:(h++[(b,o)]).map (·.1)=h.map (·.1)++[b]:=by simp
 have hS:∀c,Sd Y h fps c→Sd Y (h++[(b,o)]) (fps.eraseIdx i) c:=fun c hc=>⟨hc.1,fun hx=>by
  rw[hids]at hx
  rcases List.mem_append.1 hx with hx|hx
  ·exact hc.2.1 hx
  ·rw[List.mem_singleton]at hx
   subst hx
   exact hc.2.2 hm,fun hx=>hc.2.2 (erase_flat_sub hx)⟩
 have hin:∀x∈h++[(b,o)],x∈h∨x=(b,o):=fun x hx=>by simpa using hx
 refine⟨s.ag,⟨fun x hx=>?_,?_,s.own.ro,fun x hx hc=>?_⟩,s.fr,fun f hf x hx=>?_,
  ⟨s.gh.chs.erase.mono (fun _ _=>rfl) fun c hc _=>⟨hS c hc,rfl⟩,nodup_sublist_flat s.gh.nodup (List.eraseIdx_sublist _ _),fun c hc hx=>?_,fun x hx hc=>s.gh.apart x hx (erase_flat_sub hc),fun f hf c hc=>s.gh.may f hf c (erase_flat_sub hc),fun c hc=>s.gh.lt c (erase_flat_sub hc),fun x hx=>?_,fun c hc=>s.gh.hid c (erase_flat_sub hc),s.gh.top,fun x hx=>(s.gh.g x hx).mono fun c hc _=>⟨hS c hc,rfl⟩⟩⟩
 ·rcases hin x hx with h1|rfl
  ·exact s.own.own x h1
  ·exact hb
 ·rw[hids,List.nodup_append]
  refine⟨s.own.nodup,by simp,fun x hx y hy hxy=>?_⟩
  simp at hy
  subst hy hxy
  exact s.gh.disj _ hm hx
 ·rw[hids]at hc
  rcases List.mem_append.1 hc with hc|hc
  ·exact s.own.apart x hx hc
  ·rw[List.mem_singleton]at hc
   exact s.gh.apart x hx (by rw[hc];exact hm)
 ·rcases hin x hx with h1|rfl
  ·exact s.may f hf x h1
  ·exact s.gh.may f hf _ hm
 ·rw[hids]at hx
  rcases List.mem_append.1 hx with hx|hx
  ·exact s.gh.disj c (erase_flat_sub hc) hx
  ·rw[List.mem_singleton]at hx
   subst hx
   exact hnb hc
 ·rcases hin x hx with h1|rfl
  ·exact s.gh.own x h1
  ·exact s.gh.hid _ hm
theorem others_last (m q:Nat) (hq:q<m):others (m+1) [m,q]=others m [q]:=by
 unfold others
 rw[List.range_succ,List.filter_append]
 have h1:([m]:List Nat).filter (fun i=>!([m,q]:List Nat).contains i)=[]:=by simp
 rw[h1,List.append_nil]
 refine List.filter_congr fun x hx=>?_
 have hxm:x<m:=List.mem_range.1 hx
 have:x≠m:=by omega
 simp[this]
theorem pick_appl {α:Type} {l:List α} (x:α) {is:List Nat} (h:∀i∈is,i<l.length):pick (l++[x]) is=pick l is:=by
 unfold pick
 induction is with
 | nil=>rfl
 | cons j r ih=>
  rw[List.filterMap_cons,List.filterMap_cons,List.getElem?_append_left (h j (List.mem_cons_self ..)),ih fun i hi=>h i (List.mem_cons_of_mem _ hi)]
theorem JR_callh {S0:Nat→Prop} {C0:List Chunk} {G0:List (Value×D)} {id L0 i:Nat} {ck:Bool} {Wp:List (Nat×List Nat)} {rest:List (Nat×Bool)} (hs:List Hn) (q:Nat) (fid:FuncId) (args:Array Value) (dst:Option Tmp) {b:Nat} {o:Obj} {c:Chunk}
  (he:chkC (callOf P n (rgOf f id) [(b,o)] r E i hs)=(some (fid,args,dst),trivC (callOf P n (rgOf f id) [(b,o)] r E i hs),0)) (hok:∃ps,Wp.lookup i=some ps∧0∈ps) (hq:C0[q]?=some c)
  (C:∀w S M,Pre w S M [cObj b o,c]→AllG w S G0→Calls P fid args w fun e w'=>∃v C' G',Ret M w S w' e v (cObj b o::C') G' ∧
   JR P f R n (rgOf f id) L0 ck rest (Wp.filter (·.1 != i)) kk (E.put dst (.val v)) [(b,o)] r F ⟨S0,restC C0 [q]++C',G0++G'⟩) :
  JR P f R n (rgOf f id) L0 ck ((i,false)::rest) Wp kk E [(b,o)] r F ⟨S0,C0,G0⟩:=by
 obtain⟨p,he,hp⟩:=chkC_sound he
 intro B Hd fps a w s hH hR hN hW
 simp only[PW]
 have s1:StF n E [] r F ⟨S0,C0++[cObj b o],G0⟩ a w (fps++[[b]]):=s.hide1 0 rfl
 have hql:q<C0.length:=(List.getElem?_eq_some_iff.1 hq).1
 have hlen:fps.length=C0.length:=s.gh.chs.len.symm
 have hpre:=Pre.of s1 (cs:=[C0.length,q]) (by simp;omega)
 have e1:pick (C0++[cObj b o]) [C0.length,q]=[cObj b o,c]:=by
  simp[pick,List.getElem?_append_left hql,hq]
 rw[show pick (Ghost.mk S0 (C0++[cObj b o]) G0).C [C0.length,q]=[cObj b o,c] from e1]at hpre
 have hM:∀x,x∈(pick (fps++[[b]]) [C0.length,q]).flatten→x=b∨x∈fps.flatten:=fun x hx=>by
  have:=pick_flat_sub hx
  simp at this
  rcases this with h1|h1
  ·obtain⟨l,h2,h3⟩:=h1
   exact .inr (List.mem_flatten.2 ⟨l,h2,h3⟩)
  ·exact .inl h1
 refine callOf_sound he hp s ((C w _ _ hpre s1.gh.g).mono fun e w' hh=>?_)
 obtain⟨v,C',G',hRet,H⟩:=hh
 have hf:=hRet.fr
 refine⟨v,hRet.ret,fun E' hE a' hA=>⟨fun hck x hx hl=>?_,?_⟩⟩
 ·refine hf.block x hx fun hm=>?_
  obtain⟨ps,hWl,h0⟩:=hok
  rw[lookup_idsW,hWl]at hl
  obtain⟨h1,h2⟩:=hl _ rfl
  rcases hM x hm with rfl|h3
  ·exact h2 (List.mem_append_left _ (List.mem_filterMap.2 ⟨0,h0,rfl⟩))
  ·rcases hH x h3 with h4|h4
   ·exact h2 (List.mem_append_right _ h4)
   ·omega
 ·subst hE
  rw[filter_idsW]
  obtain⟨fps',h3,s'⟩:=s1.called (cs:=[C0.length,q]) hA hRet
  have e2:pick (C0++[cObj b o]) (others (C0++[cObj b o]).length [C0.length,q])=restC C0 [q]:=by
   rw[List.length_append,List.length_singleton,others_last _ _ hql,pick_appl]
   ·rfl
   ·intro j hj
    exact List.mem_range.1 (List.mem_filter.1 hj).1
  rw[show pick (Ghost.mk S0 (C0++[cObj b o]) G0).C (others (Ghost.mk S0 (C0++[cObj b o]) G0).C.length [C0.length,q])=restC C0 [q] from e2]at s'
  have hi:(restC C0 [q]++cObj b o::C')[(restC C0 [q]).length]?=some (cObj b o):=by simp
  have s2:=s'.show _ hi
  have e3:(restC C0 [q]++cObj b o::C').eraseIdx (restC C0 [q]).length=restC C0 [q]++C':=by
   rw[List.eraseIdx_append_of_length_le (Nat.le_refl _)]
   simp
  rw[show(Ghost.mk S0 (restC C0 [q]++cObj b o::C') (G0++G')).C.eraseIdx (restC C0 [q]).length=restC C0 [q]++C' from e3]at s2
  refine H B Hd _ a' w' s2 (fun x hx=>?_) ⟨hR.old,hR.ro,hR.len,Nat.le_trans hR.size hf.size⟩ hN (okWp_filter hW)
  have hxb:x≠b:=fun he=>s2.gh.disj x hx (by simp[he])
  have hx2:=erase_flat_sub hx
  rw[List.flatten_append]at hx2
  have fin:x=b∨x∈fps.flatten→x∈Hd∨B≤x:=fun h=>h.elim (fun h=>absurd h hxb) (hH x)
  rcases List.mem_append.1 hx2 with h4|h4
  ·have:=pick_flat_sub h4
   rw[List.flatten_append]at this
   rcases List.mem_append.1 this with h5|h5
   ·exact hH x h5
   ·exact absurd (by simpa using h5) hxb
  ·rcases h3 x h4 with h5|h5
   ·exact fin (hM x h5)
   ·exact .inr (Nat.le_trans hR.size h5)
end reads
end Go.Sx
end
section
namespace Go.Sx
open Go
section
variable {P:Program} {f:Func} [Pan f] {R:Act→World→Prop} {n:Nat} [Dfr n] {k:List Itm} {E:Env} {h r:List (Nat×Obj)} {F:List (List Nat×World)} {Y:Ghost}
theorem JN {S0:Nat→Prop} {C0:List Chunk} {G0:List (Value×D)} {ops:Array Oper} {L0:Nat} {ck:Bool} {plan:List (Nat×Bool)} {Wp:List (Nat×List Nat)} (C':List Chunk) (H:JR P f R n ops L0 ck plan Wp k E h r F ⟨S0,C',G0⟩) (hC:C0=C':=by kernel_rfl):JR P f R n ops L0 ck plan Wp k E h r F ⟨S0,C0,G0⟩:=by
 subst hC
 exact H
end
def leaveR (P:Program) (fn:Func) (Rr:Ending→World→Prop) (u:FrameMode) (a:Act) (w:World):Prop:=∀tmps:Array Value,tmps.size=a.tmps.size→(∀p∈pins fn,tmps.getD p undef=a.tmps.getD p undef)→Leaves P fn tmps Rr a.defers u w
theorem pins_put {fn:Func} {a:Act} {d:Option Tmp} {v:Value} (hd:pinFree fn d=true):∀p∈pins fn,(a.put d v).tmps.getD p undef=a.tmps.getD p undef:=by
 intro p hp
 cases d with
 | none=>rfl
 | some d=>
  have hne:d≠p:=by
   rintro rfl
   simp[pinFree,hp]at hd
  simp only[Act.put,Array.getD_eq_getD_getElem?,Array.getElem?_setIfInBounds,if_neg hne]
@[reducible] def panLeave (P:Program) (fn:Func) (Rr:Ending→World→Prop):Pan fn where
 pan c a w:=leaveR P fn Rr (.panicking c) a w
 put c a d v w hd h tmps hs ht:=by
  have:=h tmps (hs.trans (by cases d <;> simp[Act.put])) fun p hp=>(ht p hp).trans (pins_put hd p hp).symm
  cases d <;> exact this
theorem St.frame {n n':Nat} [Dfr n] [Dfr n'] {E E':Env} {h r:List (Nat×Obj)} {F:List (List Nat×World)} {Y:Ghost} {a a':Act} {w:World} (s:St n E h r F Y a w) (hA:Ag n' E' a'):St n' E' h r F Y a' w:=by
 obtain⟨fps,s⟩:=s
 exact⟨fps,hA,s.own,s.fr,s.may,s.gh⟩
theorem keepE_look (E:Env) {t:Nat} {ev:EV}:∀ts:List Nat,(keepE E ts).lookup t=some ev→t∈ts
 | [],h=>by cases h
 | u::ts,h=>by
  unfold keepE at h
  split at h
  ·by_cases ht:t=u
   ·subst ht
    exact List.mem_cons_self ..
   ·rw[lookup_cons_ne _ _ ht]at h
    exact List.mem_cons_of_mem _ (keepE_look E ts h)
  ·exact List.mem_cons_of_mem _ (keepE_look E ts h)
theorem Ag.pinned {n:Nat} {inst:Dfr n} {fn:Func} {E:Env} {a:Act} {tmps:Array Value} (hA:@Ag n inst E a) (hs:tmps.size=a.tmps.size) (ht:∀p∈pins fn,tmps.getD p undef=a.tmps.getD p undef):@Ag n (instDfr n) (keepE E (pins fn)) ⟨tmps,[]⟩:=by
 refine @Ag.mk n (instDfr n) _ _ rfl (hs.trans hA.size) fun t ev he=>?_
 have h1:=keepE_look E _ he
 have h2:=hA.look t ev (keepE_sub E _ t ev he)
 have h3:=ht t h1
 have hlt:t<a.tmps.size:=(Array.getElem?_eq_some_iff.1 h2).1
 have hlt2:t<tmps.size:=by omega
 simp only[Array.getD_eq_getD_getElem?,h2,Array.getElem?_eq_getElem hlt2,Option.getD_some]at h3
 rw[Array.getElem?_eq_getElem hlt2,h3]
end Go.Sx
end
section
namespace Go.Sx
open Go
def cBox {α:Type} (p:α→Prop) (G:α→List (Value×D)) (C:α→List Chunk):Chunk where
 P w S fp:=∃x fps,fp=fps.flatten∧p x∧(∀y∈G x,Rep w S y.1 y.2)∧Chs w S (C x) fps
 mono:=by
  intro w w' S S' fp h hb hS
  obtain⟨x,fps,h1,h2,h3,h4⟩:=h
  exact⟨x,fps,h1,h2,fun y hy=>(h3 y hy).mono hS,h4.mono (fun b hm=>hb b (by rw[h1];exact hm)) hS⟩
end Go.Sx
end
section
namespace Go.Sx
open Go
section frames
variable {w w':World} {S:Nat→Prop} {M M1:List Nat} {e:Ending} {v:Value} {C C1 C2:List Chunk} {G G0:List (Value×D)}
theorem Pre.no (h:Pre w S M C):∀b∈M,¬S b:=fun b hb=>by
 obtain⟨_,_,_,_,h4⟩:=h
 exact(h4 b hb).2
theorem Ret.more (h:Ret M w S w' e v C G) (hM:∀b∈M,¬S b) (hG:AllG w S G0):Ret M w S w' e v C (G++G0):=by
 obtain⟨h1,h2,fps,h3,h4,h5,h6⟩:=h
 refine⟨h1,h2,fps,h3,h4,h5,fun x hx=>?_⟩
 rcases List.mem_append.1 hx with hx|hx
 ·exact h6 x hx
 ·refine(hG x hx).mono fun b hb hlt=>⟨⟨.inl hb,fun hf=>?_⟩,h2.block b hlt fun hm=>hM b hm hb⟩
  rcases(h5 b hf).1 with h7|h7
  ·exact hM b h7 hb
  ·omega
theorem Ret.less (h:Ret M w S w' e v C G) (hG:∀x∈G0,x∈G):Ret M w S w' e v C G0:=by
 obtain⟨h1,h2,fps,h3,h4,h5,h6⟩:=h
 exact⟨h1,h2,fps,h3,h4,h5,fun x hx=>h6 x (hG x hx)⟩
theorem Pre.open {α:Type} {p:α→Prop} {Gx:α→List (Value×D)} {Cx:α→List Chunk} (h:Pre w S M (cBox p Gx Cx::C)):∃x,p x∧AllG w S (Gx x)∧Pre w S M (Cx x++C):=by
 obtain⟨fps,hc,rfl,hn,hs⟩:=h
 match fps,hc with
 | _::fps,⟨⟨x,fi,rfl,hp,hG,hC⟩,hr⟩=>exact⟨x,hp,hG,fi++fps,hC.app hr,by simp,hn,hs⟩
theorem Chs.perm {cs cs':List Chunk} (hp:cs.Perm cs'):∀{fps:List (List Nat)},Chs w S cs fps→∃fps',fps'.flatten.Perm fps.flatten∧Chs w S cs' fps':=by
 induction hp with
 | nil=>exact fun{fps} h=>⟨fps,.refl _,h⟩
 | cons c _ ih=>
  intro fps h
  match fps,h with
  | fp::fps,⟨h1,h2⟩=>
   obtain⟨f',hp,h3⟩:=ih h2
   exact⟨fp::f',by simpa using hp.append_left fp,h1,h3⟩
 | swap a b _=>
  intro fps h
  match fps,h with
  | f1::f2::fps,⟨h1,h2,h3⟩=>exact⟨f2::f1::fps,by simp only[List.flatten_cons,←List.append_assoc];exact List.perm_append_comm.append_right _,h2,h1,h3⟩
 | trans _ _ ih1 ih2=>
  intro fps h
  obtain⟨f1,hp1,h1⟩:=ih1 h
  obtain⟨f2,hp2,h2⟩:=ih2 h1
  exact⟨f2,hp2.trans hp1,h2⟩
theorem Pre.perm {C':List Chunk} (h:Pre w S M C) (hp:C.Perm C'):∃M',M'.Perm M∧Pre w S M' C':=by
 obtain⟨fps,hc,rfl,hn,hs⟩:=h
 obtain⟨f',hp',hc'⟩:=hc.perm hp
 exact⟨_,hp',f',hc',rfl,hp'.nodup_iff.2 hn,fun b hb=>hs b (hp'.mem_iff.1 hb)⟩
theorem retS_eq {M':List Nat} {f f':List (List Nat)} (hM:∀b,b∈M'↔b∈M) (hf:∀b,b∈f'.flatten↔b∈f.flatten):retS S M' w f'=retS S M w f:=by
 funext b
 simp only[retS,newS,hM,hf]
theorem Ret.perm {C':List Chunk} {M':List Nat} (h:Ret M w S w' e v C G) (hp:C.Perm C') (hM:M'.Perm M):Ret M' w S w' e v C' G:=by
 obtain⟨h1,h2,fps,h3,h4,h5,h6⟩:=h
 obtain⟨f',hp',hc'⟩:=h3.perm hp
 have hr:retS S M' w f'=retS S M w fps:=retS_eq (fun b=>hM.mem_iff) fun b=>hp'.mem_iff
 refine⟨h1,h2.mono fun x hx=>.inl (hM.mem_iff.2 hx),f',by rw[hr];exact hc',hp'.nodup_iff.2 h4,fun b hb=>?_,by rw[hr];exact h6⟩
 rw[hM.mem_iff]
 exact h5 b (hp'.mem_iff.1 hb)
theorem Pre.part (h:Pre w S M (C1++C2)):∃M1,Pre w S M1 C1∧∀{w':World} {e:Ending} {v:Value} {C':List Chunk} {G:List (Value×D)},Ret M1 w S w' e v C' G→Ret M w S w' e v (C'++C2) G:=by
 obtain⟨fps,hc,rfl,hn,hs⟩:=h
 obtain⟨f1,f2,rfl,hc1,hc2⟩:=hc.split
 rw[List.flatten_append]at hn hs
 obtain⟨hn1,hn2,hn3⟩:=List.nodup_append.1 hn
 refine⟨f1.flatten,⟨f1,hc1,rfl,hn1,fun b hb=>hs b (List.mem_append.2 (.inl hb))⟩,?_⟩
 intro w' e v C' G h
 obtain⟨h1,h2,fps,h3,h4,h5,h6⟩:=h
 have hout:∀b∈f2.flatten,b∉f1.flatten∧b<w.heap.size∧¬S b:=fun b hb=>⟨fun hm=>hn3 b hm b hb rfl,hs b (List.mem_append.2 (.inr hb))⟩
 have hS:∀b,retS S f1.flatten w fps b→b<w'.heap.size→retS S (f1++f2).flatten w (fps++f2) b∧w'.heap[b]?=w'.heap[b]?:=fun b hb _=>by
  obtain⟨hb1,hb2⟩:=hb
  refine⟨⟨?_,?_⟩,rfl⟩
  ·rcases hb1 with h|h|h
   ·exact .inl h
   ·exact .inr (.inl (by rw[List.flatten_append];exact List.mem_append.2 (.inl h)))
   ·exact .inr (.inr h)
  ·rw[List.flatten_append]
   intro hm
   rcases List.mem_append.1 hm with hm|hm
   ·exact hb2 hm
   ·obtain⟨ha,hb,hc⟩:=hout b hm
    rcases hb1 with h|h|h
    ·exact hc h
    ·exact ha h
    ·omega
 have hfr:Fr f1.flatten w w':=h2
 refine⟨h1,h2.mono fun x hx=>.inl (by rw[List.flatten_append];exact List.mem_append.2 (.inl hx)),fps++f2,?_,?_,?_,?_⟩
 ·refine(h3.mono (fun _ _=>rfl) hS).app (hc2.mono (fun b hb=>hfr.block b (hout b hb).2.1 (hout b hb).1) fun b hb hlt=>⟨⟨.inl hb,?_⟩,hfr.block b hlt fun hm=>(hs b (List.mem_append.2 (.inl hm))).2 hb⟩)
  rw[List.flatten_append]
  intro hm
  rcases List.mem_append.1 hm with hm|hm
  ·rcases(h5 b hm).1 with h|h
   ·exact(hs b (List.mem_append.2 (.inl h))).2 hb
   ·omega
  ·exact(hout b hm).2.2 hb
 ·rw[List.flatten_append]
  refine List.nodup_append.2 ⟨h4,hn2,fun a ha b hb hab=>?_⟩
  subst hab
  rcases(h5 a ha).1 with h|h
  ·exact(hout a hb).1 h
  ·have:=(hout a hb).2.1
   omega
 ·intro b hb
  rw[List.flatten_append]at hb ⊢
  rcases List.mem_append.1 hb with hb|hb
  ·obtain⟨h7,h8⟩:=h5 b hb
   exact⟨h7.imp (fun h=>List.mem_append.2 (.inl h)) id,h8⟩
  ·exact⟨.inl (List.mem_append.2 (.inr hb)),Nat.lt_of_lt_of_le (hout b hb).2.1 hfr.size⟩
 ·exact fun x hx=>(h6 x hx).mono hS
theorem Pre.star {cs:List Chunk} (h:Pre w S M (cStar cs::C)):Pre w S M (cs++C):=by
 obtain⟨fps,hc,rfl,hn,hs⟩:=h
 match fps,hc with
 | _::fps,⟨⟨fi,rfl,hC⟩,hr⟩=>exact⟨fi++fps,hC.app hr,by simp,hn,hs⟩
theorem Ret.star {cs:List Chunk} (h:Ret M w S w' e v (cs++C) G):Ret M w S w' e v (cStar cs::C) G:=by
 obtain⟨h1,h2,fps,h3,h4,h5,h6⟩:=h
 obtain⟨f1,f2,rfl,h7,h8⟩:=h3.split
 have he:(f1.flatten::f2).flatten=(f1++f2).flatten:=by simp
 have hr:retS S M w (f1.flatten::f2)=retS S M w (f1++f2):=by unfold retS;rw[he]
 refine⟨h1,h2,f1.flatten::f2,?_,by rw[he];exact h4,by rw[he];exact h5,by rw[hr];exact h6⟩
 rw[hr]
 exact⟨⟨f1,rfl,h7⟩,h8⟩
theorem set_perm {α:Type} {c':α}:∀{cs:List α} {i:Nat},i<cs.length→(c'::cs.eraseIdx i).Perm (cs.set i c')
 | _::_,0,_=>.refl _
 | a::cs,i+1,h=>(List.Perm.swap a c' _).trans ((set_perm (Nat.lt_of_succ_lt_succ h)).cons a)
theorem Pre.take {cs:List Chunk} {i:Nat} {c:Chunk} (h:Pre w S M (cStar cs::C)) (hi:cs[i]?=some c):∃M1,Pre w S M1 [c]∧∀{w':World} {e:Ending} {v:Value} {c':Chunk} {C2:List Chunk} {G:List (Value×D)},Ret M1 w S w' e v (c'::C2) G→Ret M w S w' e v (cStar (cs.set i c')::C++C2) G:=by
 obtain⟨hl,he⟩:=List.getElem?_eq_some_iff.1 hi
 have h0:=set_perm (c':=c) hl
 rw[←he,List.set_getElem_self]at h0
 rw[he]at h0
 obtain⟨M',hM,h2⟩:=h.star.perm (C':=[c]++(cs.eraseIdx i++C)) (by simpa using h0.symm.append_right C)
 obtain⟨M1,h3,h4⟩:=h2.part
 refine⟨M1,h3,fun{w' e v c' C2 G} hr=>?_⟩
 refine((h4 hr).perm (C':=cs.set i c'++(C++C2)) ?_ hM.symm).star
 have h5:=set_perm (c':=c') hl
 have h7:(C2++(cs.eraseIdx i++C)).Perm (cs.eraseIdx i++(C++C2)):=by
  rw[←List.append_assoc (cs.eraseIdx i)]
  exact List.perm_append_comm
 exact(List.Perm.cons c' h7).trans (h5.append_right _)
theorem AllG.zero (h:AllG w S G):AllG (zero w) S G:=fun x hx=>(h x hx).mono fun _ hb _=>⟨hb,rfl⟩
theorem Ret.add (h:Ret M w S w' e v C G) (c:Chunk) (hc:∀w S,c.P w S []):Ret M w S w' e v (C++[c]) G:=by
 obtain⟨h1,h2,fps,h3,h4,h5,h6⟩:=h
 have he:(fps++[[]]).flatten=fps.flatten:=by simp
 have hr:retS S M w (fps++[[]])=retS S M w fps:=by unfold retS;rw[he]
 refine⟨h1,h2,fps++[[]],?_,by rw[he];exact h4,by rw[he];exact h5,by rw[hr];exact h6⟩
 rw[hr]
 exact h3.app ⟨hc _ _,trivial⟩
theorem Ret.unstar {cs:List Chunk} (h:Ret M w S w' e v (cStar cs::C) G):Ret M w S w' e v (cs++C) G:=by
 obtain⟨h1,h2,fps,h3,h4,h5,h6⟩:=h
 match fps,h3 with
 | _::fps,⟨⟨fi,rfl,hC⟩,hr⟩=>
  have he:(fi++fps).flatten=(fi.flatten::fps).flatten:=by simp
  have hq:retS S M w (fi++fps)=retS S M w (fi.flatten::fps):=by unfold retS;rw[he]
  refine⟨h1,h2,fi++fps,?_,by rw[he];exact h4,by rw[he];exact h5,by rw[hq];exact h6⟩
  rw[hq]
  exact hC.app hr
theorem Ret.push {c:Chunk} {cs:List Chunk} (h:Ret M w S w' e v [c,cStar cs] G):Ret M w S w' e v [cStar (cs++[c])] G:=by
 have h1:=(h.perm (C':=[cStar cs,c]) (List.Perm.swap _ _ _) (.refl M)).unstar
 exact Ret.star (by simpa using h1)
theorem Pre.frame (h:Pre w S M C):∀{w':World} {e:Ending} {v:Value} {C':List Chunk} {G:List (Value×D)},Ret [] w S w' e v C' G→Ret M w S w' e v (C'++C) G:=by
 obtain⟨M1,h1,h2⟩:=Pre.part (C1:=[]) (C2:=C) h
 obtain⟨fps,hc,rfl,_⟩:=h1
 match fps,hc with
 | [],_=>exact fun{_ _ _ _ _} hR=>h2 hR
theorem Ret.freeze {u:Value} {t k:Nat} {rows:List (List D)} (h:Ret M w S w' e v (cAcc u t k rows::C) G):Ret M w S w' e v C (G++[(u,.sl k rows)]):=by
 obtain⟨h1,h2,fps,h3,h4,h5,h6⟩:=h
 match fps,h3 with
 | fp::fps,⟨⟨hk,hP⟩,hr⟩=>
  rw[List.flatten_cons]at h4 h5
  obtain⟨hn1,hn2,hn3⟩:=List.nodup_append.1 h4
  have hsub:∀b,retS S M w (fp::fps) b→retS S M w fps b:=fun b hb=>⟨hb.1,fun hm=>hb.2 (by rw[List.flatten_cons,List.mem_append];exact .inr hm)⟩
  refine⟨h1,h2,fps,hr.mono (fun _ _=>rfl) fun b hb _=>⟨hsub b hb,rfl⟩,hn2,fun b hb=>h5 b (List.mem_append.2 (.inr hb)),fun x hx=>?_⟩
  rcases List.mem_append.1 hx with hx|hx
  ·exact(h6 x hx).mono fun b hb _=>⟨hsub b hb,rfl⟩
  ·rw[List.mem_singleton]at hx
   subst hx
   rcases hP with ⟨rfl,rfl,_⟩|⟨g,cap,cur,xs,rfl,rfl,hg,hrow,hR⟩
   ·exact .nil
   ·refine Rep.of_row hg ⟨.inr (h5 g (by simp)).1,fun hm=>hn3 g (by simp) g hm rfl⟩ hrow hk hR.len fun i j row d h1 h2=>?_
    obtain⟨u,hu,hr⟩:=hR.rep i j row d h1 h2
    exact⟨u,hu,hr.mono fun b hb _=>⟨hsub b hb,rfl⟩⟩
end frames
end Go.Sx
end
section
namespace Go.Sx
open Go
structure PutT where
 when:List Int
 place:Int
 op:OpT
def dotP (p:PutT):DotT:=⟨p.place,p.when.getD p.place.toNat 0,p.op.no⟩
end Go.Sx
end
section
namespace Go.Sx
open Go
section generic
variable {α:Type} (lt:α→α→Bool)
def insG (l:List α) (x:α):List α:=l.takeWhile (fun y=>lt y x)++x::l.dropWhile (fun y=>lt y x)
theorem insG_mem {l:List α} {x z:α}:z∈insG lt l x↔z=x∨z∈l:=by
 unfold insG
 have h:z∈l↔z∈l.takeWhile (fun y=>lt y x)∨z∈l.dropWhile (fun y=>lt y x):=by
  rw[←List.mem_append,List.takeWhile_append_dropWhile]
 rw[h,List.mem_append,List.mem_cons]
 constructor
 ·rintro(h|h|h)
  ·exact .inr (.inl h)
  ·exact .inl h
  ·exact .inr (.inr h)
 ·rintro(h|h|h)
  ·exact .inr (.inl h)
  ·exact .inl h
  ·exact .inr (.inr h)
theorem insG_sorted (tr:∀a b c,lt a b=true→lt b c=true→lt a c=true) {x:α}:∀{l:List α},(∀y∈l,lt y x=true∨lt x y=true)→(l.Pairwise fun a b=>lt a b=true)→(insG lt l x).Pairwise fun a b=>lt a b=true
 | [],_,_=>by simp[insG]
 | y::l,hx,h=>by
  have h1:=List.pairwise_cons.1 h
  unfold insG
  by_cases hy:lt y x=true
  ·rw[List.takeWhile_cons_of_pos (p:=fun y=>lt y x) hy,List.dropWhile_cons_of_pos (p:=fun y=>lt y x) hy,List.cons_append]
   refine List.pairwise_cons.2 ⟨fun z hz=>?_,insG_sorted tr (fun z hz=>hx z (List.mem_cons_of_mem _ hz)) h1.2⟩
   rcases(insG_mem lt).1 hz with rfl|hz
   ·exact hy
   ·exact h1.1 z hz
  ·rw[List.takeWhile_cons_of_neg (p:=fun y=>lt y x) hy,List.dropWhile_cons_of_neg (p:=fun y=>lt y x) hy,List.nil_append]
   have hxy:=(hx y (List.mem_cons_self ..)).resolve_left hy
   refine List.pairwise_cons.2 ⟨fun z hz=>?_,h⟩
   rcases List.mem_cons.1 hz with rfl|hz
   ·exact hxy
   ·exact tr _ _ _ hxy (h1.1 z hz)
theorem insG_fold (tr:∀a b c,lt a b=true→lt b c=true→lt a c=true):∀{raw p:List α},(p.Pairwise fun a b=>lt a b=true)→(∀a∈p,∀b∈raw,lt a b=true∨lt b a=true)→(raw.Pairwise fun a b=>lt a b=true∨lt b a=true) →
  ((raw.foldl (insG lt) p).Pairwise fun a b=>lt a b=true)∧∀z,z∈raw.foldl (insG lt) p↔z∈p∨z∈raw
 | [],p,hp,_,_=>⟨hp,fun z=>by simp⟩
 | x::raw,p,hp,hc,hr=>by
  have h1:=List.pairwise_cons.1 hr
  have h2:=insG_sorted lt tr (x:=x) (fun y hy=>hc y hy x (List.mem_cons_self ..)) hp
  obtain⟨h3,h4⟩:=insG_fold tr h2 (raw:=raw) (fun a ha b hb=>by
   rcases(insG_mem lt).1 ha with rfl|ha
   ·exact h1.1 b hb
   ·exact hc a ha b (List.mem_cons_of_mem _ hb)) h1.2
  refine⟨h3,fun z=>?_⟩
  rw[List.foldl_cons,h4,insG_mem,List.mem_cons]
  constructor
  ·rintro((h|h)|h)
   ·exact .inr (.inl h)
   ·exact .inl h
   ·exact .inr (.inr h)
  ·rintro(h|h|h)
   ·exact .inl (.inr h)
   ·exact .inl (.inl h)
   ·exact .inr h
theorem merge_strict (asy:∀a b,lt a b=true→lt b a=true→False) (ntr:∀a b c,lt b a=false→lt c b=false→lt c a=false) {l:List α} (hl:l.Pairwise fun a b=>lt a b=true∨lt b a=true) :
  (l.mergeSort fun x y=>!lt y x).Pairwise fun a b=>lt a b=true:=by
 have h1:=List.pairwise_mergeSort (le:=fun x y=>!lt y x) (fun a b c h1 h2=>by simp only[Bool.not_eq_true']at *;exact ntr a b c h1 h2) (fun a b=>by
  cases h:lt b a with
  | false=>rfl
  | true=>
   cases h2:lt a b with
   | false=>rfl
   | true=>exact(asy _ _ h h2).elim) l
 have h2:(l.mergeSort fun x y=>!lt y x).Pairwise fun a b=>lt a b=true∨lt b a=true:=
  (List.mergeSort_perm l _).symm.pairwise hl fun h=>h.symm
 refine(h1.and h2).imp fun{a b} h=>?_
 have h3:lt b a=false:=by simpa using h.1
 rcases h.2 with h4|h4
 ·exact h4
 ·rw[h3]at h4;cases h4
theorem ins_sort (tr:∀a b c,lt a b=true→lt b c=true→lt a c=true) (asy:∀a b,lt a b=true→lt b a=true→False) (ntr:∀a b c,lt b a=false→lt c b=false→lt c a=false) {l:List α} (hl:l.Pairwise fun a b=>lt a b=true∨lt b a=true) :
  l.foldl (insG lt) []=l.mergeSort fun x y=>!lt y x:=by
 obtain⟨h1,h2⟩:=insG_fold lt tr (raw:=l) (p:=[]) List.Pairwise.nil (by simp) hl
 refine eq_of_sorted (lt:=fun a b=>lt a b=true) asy h1 (merge_strict lt asy ntr hl) fun x=>?_
 rw[h2,List.mem_mergeSort]
 simp
theorem insG_at {x:α}:∀{l:List α} {k:Nat},(∀y∈l.take k,lt y x=true)→(∀y,l[k]?=some y→lt y x=false)→insG lt l x=l.take k++x::l.drop k
 | [],k,_,_=>by simp[insG]
 | y::l,0,_,h2=>by
  have hy:¬lt y x=true:=by rw[h2 y rfl];exact Bool.false_ne_true
  unfold insG
  rw[List.takeWhile_cons_of_neg (p:=fun y=>lt y x) hy,List.dropWhile_cons_of_neg (p:=fun y=>lt y x) hy]
  rfl
 | y::l,k+1,h1,h2=>by
  have hy:lt y x=true:=h1 y (by simp)
  have ih:=insG_at (l:=l) (k:=k) (fun z hz=>h1 z (by rw[List.take_succ_cons];exact List.mem_cons_of_mem _ hz)) (fun z hz=>h2 z (by rw[List.getElem?_cons_succ];exact hz))
  unfold insG at ih ⊢
  rw[List.takeWhile_cons_of_pos (p:=fun y=>lt y x) hy,List.dropWhile_cons_of_pos (p:=fun y=>lt y x) hy,List.cons_append,ih,List.take_succ_cons,List.drop_succ_cons,List.cons_append]
end generic
theorem enterB_at {s:ByteArray}:∀{l:List ByteArray} {k:Nat},(∀y∈l.take k,bLt y s=true)→(∀y,l[k]?=some y→bLt y s=false)→enterB l s=if l[k]?=some s then l else l.take k++s::l.drop k
 | [],k,_,_=>by simp[enterB]
 | y::l,0,_,h2=>by
  have hy:¬bLt y s=true:=by rw[h2 y rfl];exact Bool.false_ne_true
  unfold enterB
  rw[if_neg hy]
  by_cases he:y=s
  ·simp[he]
  ·rw[if_neg he,if_neg (by simp[he])]
   rfl
 | y::l,k+1,h1,h2=>by
  have hy:bLt y s=true:=h1 y (by simp)
  have ih:=enterB_at (l:=l) (k:=k) (fun z hz=>h1 z (by rw[List.take_succ_cons];exact List.mem_cons_of_mem _ hz)) (fun z hz=>h2 z (by rw[List.getElem?_cons_succ];exact hz))
  unfold enterB
  rw[if_pos hy,ih,List.getElem?_cons_succ]
  split
  ·rfl
  ·rw[List.take_succ_cons,List.drop_succ_cons,List.cons_append]
theorem lex_ntr {xs ys zs:List Int} (h1:xs.length=ys.length) (h2:ys.length=zs.length) (h:¬lexC ys xs<0) (h':¬lexC zs ys<0):¬lexC zs xs<0:=fun hc=>by
 rcases lexC_tri h1 with h3|h3|h3
 ·rcases lexC_tri h2 with h4|h4|h4
  ·exact lexC_asymm (lexC_trans h3 h4) hc
  ·rw[h4]at h3
   exact lexC_asymm h3 hc
  ·exact h' h4
 ·rw[←h3]at h'
  exact h' hc
 ·exact h h3
theorem sort_done {l:List DoneT} (h:(l.map (·.d)).Nodup):l.foldl (insG doneLt) []=sortDone l:=by
 refine ins_sort doneLt (fun _ _ _=>doneLt_trans) (fun _ _=>doneLt_asymm) (fun a b c h1 h2=>?_) ((List.pairwise_map.1 h).imp fun{a b} hne=>?_)
 ·have h3:¬lexC (doneKey b) (doneKey a)<0:=fun hc=>by rw[doneLt_iff.2 hc]at h1;cases h1
  have h4:¬lexC (doneKey c) (doneKey b)<0:=fun hc=>by rw[doneLt_iff.2 hc]at h2;cases h2
  exact Bool.eq_false_iff.2 fun hc=>lex_ntr (xs:=doneKey a) (ys:=doneKey b) (zs:=doneKey c) rfl rfl h3 h4 (doneLt_iff.1 hc)
 ·rcases doneLt_tri a b with h1|h1|h1
  ·exact .inl h1
  ·exact absurd (doneKey_dot h1) hne
  ·exact .inr h1
end Go.Sx
end
section
namespace Go.Sx
open Go
theorem Rep.takeS {w:World} {S:Nat→Prop} {a:Option Addr} {n c k:Nat} {rows:List (List D)} (h:Rep w S (.slice a n c) (.sl k rows)) (i:Nat) (hi:i≤rows.length):Rep w S (.slice a i c) (.sl k (rows.take i)):=by
 cases h with
 | nil=>
  obtain rfl:i=0:=by simpa using hi
  exact .nil
 | sl u hb hS hc hk hl hcell hrep=>
  have:=Rep.sl (rows:=rows.take i) u hb hS (Nat.le_trans (by rw[List.length_take];exact Nat.min_le_right ..) hc) hk (fun row hr=>hl row (List.mem_of_mem_take hr)) (fun j q hj hq=>hcell j q (by rw[List.length_take]at hj;omega) hq) (fun j q row d hj hd=>hrep j q row d (by
   rw[List.getElem?_take]at hj
   split at hj
   ·exact hj
   ·cases hj) hd)
  have e:(rows.take i).length=i:=by rw[List.length_take];omega
  rw[e]at this
  exact this
theorem Rep.dropS {w:World} {S:Nat→Prop} {b off n c k:Nat} {rows:List (List D)} (h:Rep w S (.slice (some ⟨b,off,none⟩) n c) (.sl k rows)) (i:Nat) (hi:i≤rows.length):Rep w S (.slice (some ⟨b,off+i*k,none⟩) (n - i) (c - i)) (.sl k (rows.drop i)):=by
 cases h with
 | nil=>
  obtain rfl:i=0:=by simpa using hi
  exact .nil
 | sl u hb hS hc hk hl hcell hrep=>
  have:=Rep.sl (rows:=rows.drop i) (off:=off+i*k) (cap:=c - i) (fun j q=>u (i+j) q) hb hS (by rw[List.length_drop];omega) hk (fun row hr=>hl row (List.mem_of_mem_drop hr)) (fun j q hj hq=>by
   have h1:=hcell (i+j) q (by rw[List.length_drop]at hj;omega) hq
   rw[←h1,Nat.add_mul]
   congr 1
   omega) (fun j q row d hj hd=>hrep (i+j) q row d (by rw[List.getElem?_drop]at hj;exact hj) hd)
  rwa[List.length_drop]at this
theorem Rep.takeM {β:Type} {enc:β→List D} {l:List β} {w:World} {S:Nat→Prop} {a:Option Addr} {n c k:Nat} (h:Rep w S (.slice a n c) (.sl k (l.map enc))) (i:Nat) (hi:i≤l.length):Rep w S (.slice a i c) (.sl k ((l.take i).map enc)):=by
 rw[List.map_take]
 exact h.takeS i (by rw[List.length_map];exact hi)
theorem Rep.dropM {β:Type} {enc:β→List D} {l:List β} {w:World} {S:Nat→Prop} {b off n c k:Nat} (h:Rep w S (.slice (some ⟨b,off,none⟩) n c) (.sl k (l.map enc))) (i:Nat) (hi:i≤l.length):Rep w S (.slice (some ⟨b,off+i*k,none⟩) (n - i) (c - i)) (.sl k ((l.drop i).map enc)):=by
 rw[List.map_drop]
 exact h.dropS i (by rw[List.length_map];exact hi)
theorem Rep.cap {w:World} {S:Nat→Prop} {a:Option Addr} {n c k:Nat} {rows:List (List D)} (h:Rep w S (.slice a n c) (.sl k rows)):n≤c:=by
 cases h with
 | nil=>exact Nat.zero_le _
 | sl u hb hS hc=>exact hc
theorem bytesLess_eq:∀a b:List UInt8,Op.bytesLess a b=decide (a<b)
 | _,[]=>by simp[Op.bytesLess]
 | [],_::_=>by simp[Op.bytesLess]
 | a::x,b::y=>by
  rw[Op.bytesLess,bytesLess_eq x y,Bool.eq_iff_iff]
  simp only[Bool.or_eq_true,Bool.and_eq_true,decide_eq_true_eq,beq_iff_eq,List.cons_lt_cons_iff]
theorem bytesLess_b (a b:ByteArray):Op.bytesLess a.toList b.toList=bLt a b:=bytesLess_eq _ _
def GoodS (a:Option Addr) (c:Nat):Prop:=(a=none∧c=0)∨∃b off,a=some ⟨b,off,none⟩
set_option maxHeartbeats 4000000 in
theorem acc_good {w:World} {S:Nat→Prop} {fp:List Nat} {v:Value} {e k:Nat} {rows:List (List D)} (hP:(cAcc v e k rows).P w S fp):∃a c,v=.slice a rows.length c∧GoodS a c:=by
 obtain⟨_,hP⟩:=hP
 rcases hP with ⟨h1,h2,_⟩|⟨g,cap,cur,xs,h2,_⟩
 ·subst h1
  exact⟨none,0,h2,.inl ⟨rfl,rfl⟩⟩
 ·exact⟨some ⟨g,0,none⟩,cap,h2,.inr ⟨g,0,rfl⟩⟩
theorem St.accgood {n:Nat} {E:Env} {h r:List (Nat×Obj)} {F:List (List Nat×World)} {S0:Nat→Prop} {C0:List Chunk} {G0:List (Value×D)} {ac:Act} {w:World} (s:St n E h r F ⟨S0,C0,G0⟩ ac w) (q:Nat) {a:Option Addr} {m c e k:Nat} {rows:List (List D)} (hq:C0[q]?=some (cAcc (.slice a m c) e k rows)):GoodS a c:=by
 obtain⟨_,s⟩:=s
 obtain⟨_,_,hP⟩:=s.gh.chs.at hq
 obtain⟨a',c',he,hg⟩:=acc_good hP
 simp only[Value.slice.injEq]at he
 obtain⟨rfl,_,rfl⟩:=he
 exact hg
theorem goneB_snoc (p:List DoneT) (y:DoneT) (t:ByteArray) (d:DotT):goneB (p++[y]) t d=(goneB p t d||(y.o.remove&&(decide (y.o.text=t)&&decide (d∈y.o.dots)))):=by
 simp[goneB]
end Go.Sx
namespace Go.Proofs.YtmkapocibaojdaaGreatDoor
open Go Go.Sx
theorem eqRun_eql_177 {x y:Operand} {a b c a' b' c':Int}:eqRun Tryz.prog .eql 177 x y (.agg #[.int .i64 a,.int .i64 b,.int .i64 c]) (.agg #[.int .i64 a',.int .i64 b',.int .i64 c']) (.bool (decide (a=a'∧b=b'∧c=c'))):=fun w=>by
 have h:(Op.equal 177 (.agg #[.int .i64 a,.int .i64 b,.int .i64 c]) (.agg #[.int .i64 a',.int .i64 b',.int .i64 c'])).run Tryz.prog w=.ok (decide (a=a'∧b=b'∧c=c')) w:=eqDot 9998 a b c a' b' c' w
 refine⟨?_,by simp only[binOp,Sem.run_bind,h,Result.andThen_ok,Sem.run_pure]⟩
 have hg:Tryz.prog.eqGuardType Tryz.prog.depth 177=false:=by kernel_rfl
 simp[eqGuard,hg]
set_option maxHeartbeats 4000000 in
theorem rLive {w:World} {S:Nat→Prop} {a:Option Addr} {n c:Nat} {l:List DoneT} {x:DoneT} {v:Value} (h:Rep w S (.slice a n c) (.sl 11 (l.map eDone))) (hl:l.length≤4000000) (hdl:∀y∈l,y.o.dots.length≤1000000) (ov:v.oneCell'=true) :
  Calls Tryz.prog 136 #[.slice a n c,doneA x v] w fun e w'=>Ret [] w S w' e (.bool (!x.o.remove&&!goneB l x.o.text x.d)) [] []:=by
 have e1:=h.slen
 rw[List.length_map]at e1
 subst e1
 refine epG Tryz.func136 bd136 (args:=[.slice a l.length c,doneA x v]) (S:=S) (G:=[(_,.sl 11 (l.map eDone))]) (by kernel_rfl) (.cons h (.nil _ _)) ?_
 refine Zv [.wr 0 [] 0,zR 1] [] [1] (fun nu1=>[zP 3 (nu1 0),zB 4 false]) o0 (fun nu1=>[(nu1 0,.cells #[nI x.o.no,.string x.o.key,nI x.o.kind,.string x.o.text,nI x.o.n,.bool x.o.remove,v,nI x.d.place,nI x.d.time,nI x.d.no,nI x.w] 244 (0,0))]) (fun nu1=>?_)
 refine J_seq ?_
 refine Zs [zR 0] [] [zI 5 0] ?_
 refine J_block ?_
 refine J_loopx (fun i:Int=>[zS 0 a l.length c,zP 3 (nu1 0),zB 4 false,zI 5 i]) (fun i:Int=>[(nu1 0,.cells #[nI x.o.no,.string x.o.key,nI x.o.kind,.string x.o.text,nI x.o.n,.bool x.o.remove,v,nI x.d.place,nI x.d.time,nI x.d.no,nI x.w] 244 (0,0))]) (fun i:Int=>[]) (fun i:Int=>[(.slice a l.length c,(D.sl 11 (List.map eDone l)))]) (fun i:Int=>(l.length - i).toNat) (fun i:Int=>(0≤i∧i≤l.length∧goneB (l.take i.toNat) x.o.text x.d=false)) 0 [0,3,4,5] [0] [] [0] ?_ (by kernel_rfl) rfl rfl rfl ?_
 ·exact⟨by simp,by simp,rfl⟩
 rintro i ⟨hi0,hi,hno⟩
 refine J_seq ?_
 refine Zs (Rds 0 4) [] [zB 10 (decide (i<(↑l.length:Int)))] ?_
 refine cC (t:=decide (i<(↑l.length:Int))) (fun hlt=>?_) (fun hlt=>?_)
 ·have hlt2:i<l.length:=by simpa using hlt
  obtain⟨y,hy⟩:∃y,l[i.toNat]?=some y:=⟨_,List.getElem?_eq_getElem (by omega)⟩
  have hdy:=hdl y (List.mem_of_getElem? hy)
  refine J_read1 0 rfl i.toNat (map_at hy) (by kernel_rfl) (fun b1 off1 cs1 ty1 fz1 a1_0 c1_0 ha1 hrd1=>?_)
  cases ha1
  have hrd1_0:=rd0 (hrd1 0 _ rfl)
  have hrd1_1:=hrd1 1 _ rfl
  have hrd1_2:=hrd1 2 _ rfl
  have hrd1_3:=hrd1 3 _ rfl
  have hrd1_4:=hrd1 4 _ rfl
  have hrd1_5:=hrd1 5 _ rfl
  have hrd1_6:=hrd1 6 _ rfl
  have hrd1_7:=hrd1 7 _ rfl
  have hrd1_8:=hrd1 8 _ rfl
  have hrd1_9:=hrd1 9 _ rfl
  have hrd1_10:=hrd1 10 _ rfl
  have next:(y.o.remove=true→y.o.text=x.o.text→x.d∉y.o.dots)→goneB (l.take (i+1).toNat) x.o.text x.d=false:=fun hh=>by
   rw[←take_snoc hi0 hy,goneB_snoc,hno,Bool.false_or]
   cases hr:y.o.remove with
   | false=>rfl
   | true=>
    by_cases ht:y.o.text=x.o.text
    ·rw[decide_eq_false (hh hr ht)]
     simp
    ·rw[decide_eq_false ht]
     rfl
  cases hr:y.o.remove with
  | false=>
   try simp only[aQ]
   refine J_skip (J_seq (J_block (J_seq ?_)))
   refine Zt [zR 0,zR 1,.rd 2 [] 0 2,zR 3,zR 4,.rd 5 [.r 0 (some (.bool y.o.remove))] 0 0,.rd 6 [] 0 6,zR 7,.rd 8 [] 1 0,.rd 9 [] 1 0,.rd 10 [] 1 0,.rd 11 [] 1 0,.rd 12 [] 1 0,.rd 13 [] 1 0,.rd 14 [] 1 0,.rd 15 [] 1 0,.rd 16 [] 1 0,.rd 17 [] 1 0,zR 18] [10] [zB 31 true] (oC hi0 (oC hlt2 (oC hrd1_5 (oC (show(!y.o.remove)=true from by simp;omega) oN)))) ?_
   refine cTt ?_
   refine J_exit rfl ?_
   refine Zp [zR 0,.rd 1 [] 0 1,zR 2] [31] [zI 5 (i+1)] (oC (show IntKind.i64.wrap (i+1)=i+1 from wrap_i64 (by omega) (by omega)) oN) ?_
   refine J_backx (i+1) [0,3,4,5] [0] [] [0] ?_ ?_ (by kernel_rfl) rfl rfl rfl
   ·exact⟨by omega,by omega,next fun h1=>by rw[hr]at h1;cases h1⟩
   ·omega
  | true=>
   by_cases ht:y.o.text=x.o.text
   ·have htb:(y.o.text.toList==x.o.text.toList)=true:=by rw[strEq,decide_eq_true ht]
    try simp only[aQ]
    refine J_skip (J_seq (J_block (J_seq ?_)))
    refine Zt ([zR 0,zR 1,.rd 2 [] 0 2,zR 3,zR 4,.rd 5 [.r 0 (some (.bool y.o.remove))] 0 0,.rd 6 [] 0 7]++Rds 7 10++[.rd 10 [] 0 2,zR 11,zR 12,.rd 13 [.r 0 (some (.string y.o.text))] 0 0,zR 14,zR 15,.rd 16 [.o 0 none] 0 0,.rd 17 [] 0 7,zR 18]) [10] [zB 31 false] (oC hi0 (oC hlt2 (oC hrd1_5 (oC (show(!y.o.remove)=false from by simp;omega) (oC hi0 (oC hlt2 (oC hrd1_3 (oC (show(!y.o.text.toList==x.o.text.toList)=false from by simp[*];done) oN)))))))) ?_
    refine cF ?_
    refine J_skip ?_
    refine Zs [zR 0] [31] [zI 6 0] ?_
    refine J_block ?_
    refine J_loopx (fun k:Int=>[zS 0 (sA b1 off1) l.length c,zP 3 (nu1 0),zB 4 false,zI 5 i,zI 6 k]) (fun k:Int=>[(nu1 0,.cells #[nI x.o.no,.string x.o.key,nI x.o.kind,.string x.o.text,nI x.o.n,.bool x.o.remove,v,nI x.d.place,nI x.d.time,nI x.d.no,nI x.w] 244 (0,0))]) (fun k:Int=>[]) (fun k:Int=>[(.slice (sA b1 off1) l.length c,(D.sl 11 (List.map eDone l))),(.slice (a1_0,c1_0).fst ((List.map eDot y.o.dots).length) c1_0,(D.sl 3 (List.map eDot y.o.dots)))]) (fun k:Int=>(y.o.dots.length - k).toNat) (fun k:Int=>(0≤k∧k≤y.o.dots.length∧∀z∈y.o.dots.take k.toNat,x.d≠z)) 0 [0,3,4,5,6] [0] [] [0,1] ?_ (by kernel_rfl) rfl rfl rfl ?_
    ·exact⟨by simp,by simp,by simp⟩
    rintro k ⟨hk0,hk,hkn⟩
    refine J_seq ?_
    refine Zt (Rds 0 3++[.rd 3 [] 0 2,zR 4,zR 5,.rd 6 [.r 0 (some (.slice (a1_0,c1_0).fst ((List.map eDot y.o.dots).length) c1_0))] 0 0,zR 7,zR 8]) [] [zB 40 (decide (k<(↑(List.map eDot y.o.dots).length:Int)))] (oC hi0 (oC hlt2 (oC hrd1_6 oN))) ?_
    refine cC (t:=decide (k<(↑(List.map eDot y.o.dots).length:Int))) (fun hlt1=>?_) (fun hlt1=>?_)
    ·have hlt3:k<y.o.dots.length:=by simpa using hlt1
     obtain⟨z,hz⟩:∃z,y.o.dots[k.toNat]?=some z:=⟨_,List.getElem?_eq_getElem (by omega)⟩
     refine J_read0 1 rfl k.toNat (map_at hz) (by kernel_rfl) (fun b2 off2 cs2 ty2 fz2 ha2 hrd2=>?_)
     cases ha2
     have hrd2_0:=rd0 (hrd2 0 _ rfl)
     have hrd2_1:=hrd2 1 _ rfl
     have hrd2_2:=hrd2 2 _ rfl
     try simp only[aQ]
     refine J_skip (J_seq (J_block ?_))
     refine Zt [zR 0,zR 1,.rd 2 [] 0 2,zR 3,zR 4,.rd 5 [.r 0 (some (.slice (sA b2 off2) ((List.map eDot y.o.dots).length) c1_0))] 0 0,zR 6,.rd 7 [] 0 2,.rd 8 [.r 1 (some (nI z.place)),.r 1 (some (nI z.time)),.r 1 (some (nI z.no))] 0 0,zR 9,.rd 10 (hnO 0 3) 0 0,.rd 11 [.r 0 (some (.bool (decide (z.place=x.d.place∧z.time=x.d.time∧z.no=x.d.no))))] 0 10] [40] [zB 54 (decide (z.place=x.d.place∧z.time=x.d.time∧z.no=x.d.no))] (oC hi0 (oC hlt2 (oC hrd1_6 (oC hk0 (oC (show k<(↑(List.map eDot y.o.dots).length:Int) from by simp;omega) (oC hrd2_0 (oC hrd2_1 (oC hrd2_2 (oC (show eqRun Tryz.prog .eql 177 (Operand.tmp 51) (Operand.tmp 53) (.agg #[nI z.place,nI z.time,nI z.no]) (.agg #[nI x.d.place,nI x.d.time,nI x.d.no]) (.bool (decide (z.place=x.d.place∧z.time=x.d.time∧z.no=x.d.no))) from eqRun_eql_177) oN))))))))) ?_
     refine cC (t:=decide (z.place=x.d.place∧z.time=x.d.time∧z.no=x.d.no)) (fun he=>?_) (fun he=>?_)
     ·have hzx:z=x.d:=by
       simp only[decide_eq_true_eq]at he
       cases z;cases hxd:x.d;simp_all
      have e:(!x.o.remove&&!goneB l x.o.text x.d)=false:=by
       have:goneB l x.o.text x.d=true:=by
        simp only[goneB,List.any_eq_true]
        refine⟨y,List.mem_of_getElem? hy,?_⟩
        rw[hr,decide_eq_true ht,decide_eq_true (by rw[←hzx];exact List.mem_of_getElem? hz)]
        rfl
       rw[this]
       simp
      rw[e]
      refine Zs [zR 0] [54] [] ?_
      refine Yr [[]] (.bool false) fun a w s=>?_
      exact s.ret (by simp) [] [] rfl rfl
     ·have hzx:x.d≠z:=fun h=>by subst h;simp at he
      refine J_skip (J_eb ?_)
      refine Zp [zR 0,.rd 1 [] 0 1,zR 2] [54] [zI 6 (k+1)] (oC (show IntKind.i64.wrap (k+1)=k+1 from wrap_i64 (by omega) (by omega)) oN) ?_
      refine J_backx (k+1) [0,3,4,5,6] [0] [] [0,1] ?_ ?_ (by kernel_rfl) rfl rfl rfl
      ·refine⟨by omega,by omega,fun q hq=>?_⟩
       rw[←take_snoc hk0 hz,List.mem_append,List.mem_singleton]at hq
       rcases hq with hq|rfl
       ·exact hkn q hq
       ·exact hzx
      ·omega
    ·have hkl:y.o.dots.take k.toNat=y.o.dots:=List.take_of_length_le (by simp at hlt1;omega)
     rw[hkl]at hkn
     refine J_exit rfl ?_
     refine J_eb ?_
     refine Zp [zR 0,.rd 1 [] 0 1,zR 2] [40] [zI 5 (i+1)] (oC (show IntKind.i64.wrap (i+1)=i+1 from wrap_i64 (by omega) (by omega)) oN) ?_
     refine J_backx (i+1) [0,3,4,5] [0] [] [0] ?_ ?_ (by kernel_rfl) rfl rfl rfl
     ·exact⟨by omega,by omega,next fun _ _ hm=>hkn _ hm rfl⟩
     ·omega
   ·have htb:(y.o.text.toList==x.o.text.toList)=false:=by rw[strEq,decide_eq_false ht]
    try simp only[aQ]
    refine J_skip (J_seq (J_block (J_seq ?_)))
    refine Zt ([zR 0,zR 1,.rd 2 [] 0 2,zR 3,zR 4,.rd 5 [.r 0 (some (.bool y.o.remove))] 0 0,.rd 6 [] 0 7]++Rds 7 10++[.rd 10 [] 0 2,zR 11,zR 12,.rd 13 [.r 0 (some (.string y.o.text))] 0 0,zR 14,zR 15,.rd 16 [.o 0 none] 0 0,.rd 17 [] 0 6,zR 18]) [10] [zB 31 true] (oC hi0 (oC hlt2 (oC hrd1_5 (oC (show(!y.o.remove)=false from by simp;omega) (oC hi0 (oC hlt2 (oC hrd1_3 (oC (show(!y.o.text.toList==x.o.text.toList)=true from by simp[*];done) oN)))))))) ?_
    refine cTt ?_
    refine J_exit rfl ?_
    refine Zp [zR 0,.rd 1 [] 0 1,zR 2] [31] [zI 5 (i+1)] (oC (show IntKind.i64.wrap (i+1)=i+1 from wrap_i64 (by omega) (by omega)) oN) ?_
    refine J_backx (i+1) [0,3,4,5] [0] [] [0] ?_ ?_ (by kernel_rfl) rfl rfl rfl
    ·exact⟨by omega,by omega,next fun _ h2=>absurd h2 ht⟩
    ·omega
 ·have hil:l.take i.toNat=l:=List.take_of_length_le (by simp at hlt;omega)
  rw[hil]at hno
  rw[hno]
  refine J_exit rfl ?_
  refine Zs [zR 0,zR 1,.rd 2 [.o 0 none] 0 0,zR 3,zR 4] [10,0,3,5] [zB 4 !x.o.remove] ?_
  refine Yr [[]] (.bool !x.o.remove) fun a w s=>?_
  have e:(!x.o.remove&&!false)=!x.o.remove:=by simp
  rw[e]
  exact s.ret (by simp) [] [] rfl rfl
set_option maxHeartbeats 4000000 in
theorem rEnter {w:World} {S:Nat→Prop} {a:Option Addr} {n c:Nat} {l:List ByteArray} {t:ByteArray} (h:Rep w S (.slice a n c) (dStrs l)) (hl:l.length≤4000000) (hg:GoodS a c) :
  Calls Tryz.prog 137 #[.slice a n c,.string t] w fun e w'=>∃ua un uc,Ret [] w S w' e (.slice ua un uc) [] [(.slice ua un uc,dStrs (enterB l t))]∧GoodS ua uc:=by
 have e1:=h.slen
 rw[List.length_map]at e1
 subst e1
 refine epG Tryz.func137 bd137 (args:=[.slice a l.length c,.string t]) (S:=S) (G:=[(_,dStrs l)]) (by kernel_rfl) (.cons h (.nil _ _)) ?_
 refine Zs [zR 0] [] [zS 4 none 0 0] ?_
 refine Zs [zR 0] [] [zI 5 0] ?_
 refine J_seq (J_block ?_)
 refine J_loopx (fun k:Int=>[zS 0 a l.length c,zV 1 (.string t),zS 4 none 0 0,zI 5 k]) (fun k:Int=>[]) (fun k:Int=>[]) (fun k:Int=>[(.slice a l.length c,(dStrs l))]) (fun k:Int=>(l.length - k).toNat) (fun k:Int=>(0≤k∧k≤l.length∧∀y∈l.take k.toNat,bLt y t=true)) 0 [0,1,4,5] [] [] [0] ?_ (by kernel_rfl) rfl rfl rfl ?_
 ·exact⟨by simp,by simp,by simp⟩
 rintro k ⟨hk0,hk,hkn⟩
 have hcap:=h.cap
 by_cases hlt:k<l.length
 ·obtain⟨x,hx⟩:∃x,l[k.toNat]?=some x:=⟨_,List.getElem?_eq_getElem (by omega)⟩
  refine J_read0 0 rfl k.toNat (map_at hx) (by kernel_rfl) (fun b1 off1 cs1 ty1 fz1 ha1 hrd1=>?_)
  cases ha1
  have hrd1_0:=rd0 (hrd1 0 _ rfl)
  cases hb:bLt x t with
  | true=>
   have hb2:Op.bytesLess x.toList t.toList=true:=by rw[bytesLess_b,hb]
   try simp only[aQ]
   refine J_seq ?_
   refine Zt (Rds 0 3++[.rd 3 [] 0 6]++Rds 4 7++[.rd 7 [] 0 2,.rd 8 [.r 0 (some (.string x))] 0 0,zR 9,.rd 10 [] 0 6,zR 11]) [] [zB 18 true] (oC (show decide (k<(↑l.length:Int))=true from by simp;omega) (oC hk0 (oC hlt (oC hrd1_0 (oC (show Op.bytesLess x.toList t.toList=true from by assumption) oN))))) ?_
   refine cTt ?_
   refine J_skip (J_block ?_)
   refine Zp [zR 0,.rd 1 [] 0 1,zR 2] [18] [zI 5 (k+1)] (oC (show IntKind.i64.wrap (k+1)=k+1 from wrap_i64 (by omega) (by omega)) oN) ?_
   refine J_eb ?_
   refine J_backx (k+1) [0,1,4,5] [] [] [0] ?_ ?_ (by kernel_rfl) rfl rfl rfl
   ·refine⟨by omega,by omega,fun y hy=>?_⟩
    rw[←take_snoc hk0 hx,List.mem_append,List.mem_singleton]at hy
    rcases hy with hy|rfl
    ·exact hkn y hy
    ·exact hb
   ·omega
  | false=>
   have hb2:Op.bytesLess x.toList t.toList=false:=by rw[bytesLess_b,hb]
   have hen:=enterB_at (s:=t) (k:=k.toNat) hkn fun y hy=>by rw[hx]at hy;cases hy;exact hb
   by_cases hxt:x=t
   ·have hq:(x.toList==t.toList)=true:=by rw[strEq,decide_eq_true hxt]
    try simp only[aQ]
    refine J_seq ?_
    refine Zt (Rds 0 3++[.rd 3 [] 0 6]++Rds 4 7++[.rd 7 [] 0 2,.rd 8 [.r 0 (some (.string x))] 0 0,zR 9,.rd 10 [] 0 7,zR 11]) [] [zB 18 false] (oC (show decide (k<(↑l.length:Int))=true from by simp;omega) (oC hk0 (oC hlt (oC hrd1_0 (oC (show Op.bytesLess x.toList t.toList=false from by assumption) oN))))) ?_
    refine cF ?_
    refine J_exit rfl ?_
    refine J_seq ?_
    refine Zt (Rds 0 3++[.rd 3 [] 0 6]++Rds 4 7++[.rd 7 [] 0 2,.rd 8 [.r 0 (some (.string x))] 0 0,zR 9,.rd 10 [] 0 6,zR 11]) [18] [zB 32 true] (oC (show decide (k<(↑l.length:Int))=true from by simp;omega) (oC hk0 (oC hlt (oC hrd1_0 (oC (show(x.toList==t.toList)=true from by assumption) oN))))) ?_
    refine cTt ?_
    refine Zs [zR 0,zR 1] [32] [zS 4 (sA b1 off1) l.length c] ?_
    refine Yr [[]] (.slice (sA b1 off1) l.length c) fun a w s=>?_
    rw[hen,if_pos (by rw[hx,hxt])]
    exact⟨_,_,_,s.ret (by simp) [] [0] rfl rfl,.inr ⟨_,_,rfl⟩⟩
   ·have hq:(x.toList==t.toList)=false:=by rw[strEq,decide_eq_false hxt]
    rw[if_neg (by rw[hx];exact fun hc=>hxt (Option.some.inj hc))]at hen
    rw[hen,show l.take k.toNat++t::l.drop k.toNat=l.take k.toNat++[t]++l.drop k.toNat by simp]
    try simp only[aQ]
    refine J_seq ?_
    refine Zt (Rds 0 3++[.rd 3 [] 0 6]++Rds 4 7++[.rd 7 [] 0 2,.rd 8 [.r 0 (some (.string x))] 0 0,zR 9,.rd 10 [] 0 7,zR 11]) [] [zB 18 false] (oC (show decide (k<(↑l.length:Int))=true from by simp;omega) (oC hk0 (oC hlt (oC hrd1_0 (oC (show Op.bytesLess x.toList t.toList=false from by assumption) oN))))) ?_
    refine cF ?_
    refine J_exit rfl ?_
    refine J_seq ?_
    refine Zt (Rds 0 3++[.rd 3 [] 0 6]++Rds 4 7++[.rd 7 [] 0 2,.rd 8 [.r 0 (some (.string x))] 0 0,zR 9,.rd 10 [] 0 7,zR 11]) [18] [zB 32 false] (oC (show decide (k<(↑l.length:Int))=true from by simp;omega) (oC hk0 (oC hlt (oC hrd1_0 (oC (show(x.toList==t.toList)=false from by assumption) oN))))) ?_
    refine cF ?_
    refine J_skip ?_
    refine Zs [zR 0] [32] [zS 6 none 0 0] ?_
    refine J_seq ?_
    refine J_stp (stp_fact fun w S H=>(H (_,_) (List.mem_of_getElem? (i:=0) rfl)).takeM k.toNat (by omega)) ?_
    refine J_stp (stp_accm eS 9 1) ?_
    refine Nm [cAcc (.slice none 0 0) 9 1 (List.map eS [])] ?_
    try simp only[aQ]
    refine jT [(0,true),(1,true),(2,true),(3,true),(4,false),(5,true)] [] ?_
    refine Yp (Rds 0 3++[.rd 3 [] 0 4]) [] [zS 34 none 0 0,zS 37 (sA b1 off1) k.toNat c] (oC hk0 (oC (show k≤(↑c:Int) from by omega) oN)) ?_
    refine JR_appm 0 51 9 1 16 (.string (ByteArray.mk #[])) (a0:=none) (len:=0) (cap0:=0) (ax:=(some (⟨b1,off1,none⟩))) (m:=k.toNat) (c:=c) (dst:=(some 38)) (List.take k.toNat l) (by kernel_rfl) (by kernel_rfl) (by kernel_rfl) (by kernel_rfl) rfl (by decide) rfl (fun _ _ _ s=>src_fact s 1 rfl (by decide)) (by simp only[maxLen];omega) (by omega) (fun av1 cv1=>?_)
    rw[Nat.zero_add]
    try simp only[aQ]
    refine Ya [zR 5] [38,34,37] [zS 6 av1 k.toNat cv1] ?_
    try simp only[aQ]
    refine JR_end ?_
    try simp only[aQ]
    refine J_seq ?_
    try simp only[aQ]
    refine jT [(0,true),(1,true),(2,false),(3,false),(4,true)] [] ?_
    refine Ym [zR 0,zR 1,.wr 2 [] 0] [1] (fun nu1=>[zS 39 av1 k.toNat cv1,zS 41 (sA (nu1 0) 0) 1 1]) o0 (fun nu1=>[(nu1 0,.cells #[.string t] 9 (0,0))]) [] (fun nu1=>?_)
    refine JR_appm 0 51 9 1 16 (.string (ByteArray.mk #[])) (a0:=av1) (len:=k.toNat) (cap0:=cv1) (ax:=(some (⟨nu1 0,0,none⟩))) (m:=1) (c:=1) (dst:=(some 42)) [t] (by kernel_rfl) (by kernel_rfl) (by kernel_rfl) (by kernel_rfl) rfl (by decide) rfl (fun _ _ _ s=>src_one s 0 rfl rfl ⟨.inl ⟨rfl,rfl⟩,trivial⟩) (by simp only[maxLen];omega) (by omega) (fun av2 cv2=>?_)
    try simp only[aQ]
    refine Ya [zR 4] [42,39,41] [zS 6 av2 (k.toNat+1) cv2] ?_
    try simp only[aQ]
    refine JR_end ?_
    try simp only[aQ]
    refine J_seq ?_
    try simp only[aQ]
    refine J_stp (stp_fact fun w S H=>(H (_,_) (List.mem_of_getElem? (i:=0) rfl)).dropM k.toNat (by omega)) ?_
    refine Nm [cAcc (.slice av2 (k.toNat+1) cv2) 9 1 (List.map eS (List.take k.toNat l++[t]))] ?_
    try simp only[aQ]
    refine jT [(0,true),(1,true),(2,true),(3,true),(4,false),(5,true)] [] ?_
    refine Yp (Rds 0 3++[.rd 3 [] 0 4]) [6,0,5] [zS 43 av2 (k.toNat+1) cv2,zS 46 (sA b1 (off1+k.toNat*1)) (l.length - k.toNat) (c - k.toNat)] (oC hk0 (oC hk (oC (show k<(↑c:Int) from by omega) oN))) ?_
    refine JR_appm 0 51 9 1 16 (.string (ByteArray.mk #[])) (a0:=av2) (len:=k.toNat+1) (cap0:=cv2) (ax:=(some (⟨b1,off1+k.toNat*1,none⟩))) (m:=l.length - k.toNat) (c:=c - k.toNat) (dst:=(some 47)) (List.drop k.toNat l) (by kernel_rfl) (by kernel_rfl) (by kernel_rfl) (by kernel_rfl) rfl (by decide) rfl (fun _ _ _ s=>src_fact s 2 rfl (by decide)) (by simp only[maxLen];omega) (by omega) (fun av3 cv3=>?_)
    try simp only[aQ]
    refine Ya [zR 5] [47,43,46] [zS 4 av3 (k.toNat+1+(l.length - k.toNat)) cv3] ?_
    try simp only[aQ]
    refine JR_end ?_
    try simp only[aQ]
    refine Yr [[]] (.slice av3 (k.toNat+1+(l.length - k.toNat)) cv3) fun a w s=>?_
    have hga:=s.accgood 0 rfl
    exact⟨_,_,_,(s.stp (stp_freeze 0 rfl)).ret (by simp) [] [3] rfl rfl,hga⟩
 ·have hen:=enterB_at (l:=l) (s:=t) (k:=k.toNat) hkn fun y hy=>by
   have:=(List.getElem?_eq_some_iff.1 hy).1
   omega
  rw[if_neg (by rw[List.getElem?_eq_none (by omega)];simp)]at hen
  rw[hen,show l.take k.toNat++t::l.drop k.toNat=l.take k.toNat++[t]++l.drop k.toNat by simp]
  refine J_seq ?_
  refine Zt (Rds 0 3++[.rd 3 [] 0 7,zR 4,.rd 5 [] 1 0,.rd 6 [] 1 0,.rd 7 [] 1 0,.rd 8 [] 1 0,.rd 9 [] 1 0,.rd 10 [] 1 0,zR 11]) [] [zB 18 false] (oC (show decide (k<(↑l.length:Int))=false from by simp;omega) oN) ?_
  refine cF ?_
  refine J_exit rfl ?_
  refine J_seq ?_
  refine Zt (Rds 0 3++[.rd 3 [] 0 7,zR 4,.rd 5 [] 1 0,.rd 6 [] 1 0,.rd 7 [] 1 0,.rd 8 [] 1 0,.rd 9 [] 1 0,.rd 10 [] 1 0,zR 11]) [18] [zB 32 false] (oC (show decide (k<(↑l.length:Int))=false from by simp;omega) oN) ?_
  refine cF ?_
  refine J_skip ?_
  refine Zs [zR 0] [32] [zS 6 none 0 0] ?_
  refine J_seq ?_
  refine J_stp (stp_fact fun w S H=>(H (_,_) (List.mem_of_getElem? (i:=0) rfl)).takeM k.toNat (by omega)) ?_
  refine J_stp (stp_accm eS 9 1) ?_
  refine Nm [cAcc (.slice none 0 0) 9 1 (List.map eS [])] ?_
  try simp only[aQ]
  refine jT [(0,true),(1,true),(2,true),(3,true),(4,false),(5,true)] [] ?_
  refine Yp (Rds 0 3++[.rd 3 [] 0 4]) [] [zS 34 none 0 0,zS 37 a k.toNat c] (oC hk0 (oC (show k≤(↑c:Int) from by omega) oN)) ?_
  refine JR_appm 0 51 9 1 16 (.string (ByteArray.mk #[])) (a0:=none) (len:=0) (cap0:=0) (ax:=a) (m:=k.toNat) (c:=c) (dst:=(some 38)) (List.take k.toNat l) (by kernel_rfl) (by kernel_rfl) (by kernel_rfl) (by kernel_rfl) rfl (by decide) rfl (fun _ _ _ s=>src_fact s 1 rfl (by decide)) (by simp only[maxLen];omega) (by omega) (fun av1 cv1=>?_)
  rw[Nat.zero_add]
  try simp only[aQ]
  refine Ya [zR 5] [38,34,37] [zS 6 av1 k.toNat cv1] ?_
  try simp only[aQ]
  refine JR_end ?_
  try simp only[aQ]
  refine J_seq ?_
  try simp only[aQ]
  refine jT [(0,true),(1,true),(2,false),(3,false),(4,true)] [] ?_
  refine Ym [zR 0,zR 1,.wr 2 [] 0] [1] (fun nu1=>[zS 39 av1 k.toNat cv1,zS 41 (sA (nu1 0) 0) 1 1]) o0 (fun nu1=>[(nu1 0,.cells #[.string t] 9 (0,0))]) [] (fun nu1=>?_)
  refine JR_appm 0 51 9 1 16 (.string (ByteArray.mk #[])) (a0:=av1) (len:=k.toNat) (cap0:=cv1) (ax:=(some (⟨nu1 0,0,none⟩))) (m:=1) (c:=1) (dst:=(some 42)) [t] (by kernel_rfl) (by kernel_rfl) (by kernel_rfl) (by kernel_rfl) rfl (by decide) rfl (fun _ _ _ s=>src_one s 0 rfl rfl ⟨.inl ⟨rfl,rfl⟩,trivial⟩) (by simp only[maxLen];omega) (by omega) (fun av2 cv2=>?_)
  try simp only[aQ]
  refine Ya [zR 4] [42,39,41] [zS 6 av2 (k.toNat+1) cv2] ?_
  try simp only[aQ]
  refine JR_end ?_
  try simp only[aQ]
  refine J_seq ?_
  try simp only[aQ]
  have hkl:k=l.length:=by omega
  have hnil:∀w S,Rep w S (.slice a 0 0) (dStrs (l.drop k.toNat)):=fun w S=>by
   rw[List.drop_of_length_le (by omega)]
   exact .nil
  by_cases hcl:l.length=c
  ·refine J_stp (stp_fact fun w S _=>hnil w S) ?_
   refine Nm [cAcc (.slice av2 (k.toNat+1) cv2) 9 1 (List.map eS (List.take k.toNat l++[t]))] ?_
   try simp only[aQ]
   refine jT [(0,true),(1,true),(2,true),(3,true),(4,false),(5,true)] [] ?_
   refine Yp (Rds 0 3++[.rd 3 [] 0 5]) [6,0,5] [zS 43 av2 (k.toNat+1) cv2,zS 46 a 0 0] (oC (show k=(↑c:Int) from by omega) (oC hcl oN)) ?_
   refine JR_appm 0 51 9 1 16 (.string (ByteArray.mk #[])) (a0:=av2) (len:=k.toNat+1) (cap0:=cv2) (ax:=a) (m:=0) (c:=0) (dst:=(some 47)) (List.drop k.toNat l) (by kernel_rfl) (by kernel_rfl) (by kernel_rfl) (by kernel_rfl) rfl (by decide) rfl (fun _ _ _ s=>src_fact s 2 rfl (by decide)) (by simp only[maxLen];omega) (by omega) (fun av3 cv3=>?_)
   try simp only[aQ]
   refine Ya [zR 5] [47,43,46] [zS 4 av3 (k.toNat+1) cv3] ?_
   try simp only[aQ]
   refine JR_end ?_
   try simp only[aQ]
   refine Yr [[]] (.slice av3 (k.toNat+1) cv3) fun a w s=>?_
   have hga:=s.accgood 0 rfl
   exact⟨_,_,_,(s.stp (stp_freeze 0 rfl)).ret (by simp) [] [3] rfl rfl,hga⟩
  ·rcases hg with ⟨rfl,rfl⟩|⟨b,off,rfl⟩
   ·omega
   ·refine J_stp (stp_fact fun w S H=>(H (_,_) (List.mem_of_getElem? (i:=0) rfl)).dropM k.toNat (by omega)) ?_
    refine Nm [cAcc (.slice av2 (k.toNat+1) cv2) 9 1 (List.map eS (List.take k.toNat l++[t]))] ?_
    try simp only[aQ]
    refine jT [(0,true),(1,true),(2,true),(3,true),(4,false),(5,true)] [] ?_
    refine Yp (Rds 0 3++[.rd 3 [] 0 4]) [6,0,5] [zS 43 av2 (k.toNat+1) cv2,zS 46 (sA b (off+k.toNat*1)) (l.length - k.toNat) (c - k.toNat)] (oC hk0 (oC hk (oC (show k<(↑c:Int) from by omega) oN))) ?_
    refine JR_appm 0 51 9 1 16 (.string (ByteArray.mk #[])) (a0:=av2) (len:=k.toNat+1) (cap0:=cv2) (ax:=(some (⟨b,off+k.toNat*1,none⟩))) (m:=l.length - k.toNat) (c:=c - k.toNat) (dst:=(some 47)) (List.drop k.toNat l) (by kernel_rfl) (by kernel_rfl) (by kernel_rfl) (by kernel_rfl) rfl (by decide) rfl (fun _ _ _ s=>src_fact s 2 rfl (by decide)) (by simp only[maxLen];omega) (by omega) (fun av3 cv3=>?_)
    try simp only[aQ]
    refine Ya [zR 5] [47,43,46] [zS 4 av3 (k.toNat+1+(l.length - k.toNat)) cv3] ?_
    try simp only[aQ]
    refine JR_end ?_
    try simp only[aQ]
    refine Yr [[]] (.slice av3 (k.toNat+1+(l.length - k.toNat)) cv3) fun a w s=>?_
    have hga:=s.accgood 0 rfl
    exact⟨_,_,_,(s.stp (stp_freeze 0 rfl)).ret (by simp) [] [3] rfl rfl,hga⟩
end Go.Proofs.YtmkapocibaojdaaGreatDoor
end
section
namespace Go.Proofs.YtmkapocibaojdaaGreatDoor
open Go Go.Sx
def putsOf (c:ComT) (l:List OpT):List PutT:=l.map fun o=>⟨c.when,c.place,o⟩
end Go.Proofs.YtmkapocibaojdaaGreatDoor
end
section
namespace Go.Proofs.YtmkapocibaojdaaGreatDoor
open Go Go.Sx
theorem opErrAt_iff {l:List OpT} {p:Int} {i:Nat} {o:OpT} (h:l[i]?=some o):opErrAt l p i=0↔opErr o p=0∧∀q,0<i→l[i - 1]?=some q→q.no<o.no:=by
 by_cases h0:opErr o p=0
 ·cases i with
  | zero=>exact⟨fun _=>⟨h0,fun q h=>absurd h (by omega)⟩,fun _=>opErrAt_first h h0⟩
  | succ i=>
   have hi:=(List.getElem?_eq_some_iff.1 h).1
   obtain⟨q,hq⟩:∃q,l[i]?=some q:=⟨_,List.getElem?_eq_getElem (by omega)⟩
   rw[opErrAt_next h hq h0]
   constructor
   ·intro h1
    refine⟨h0,fun q' _ hq'=>?_⟩
    rw[Nat.add_sub_cancel,hq]at hq'
    cases hq'
    split at h1
    ·cases h1
    ·omega
   ·rintro⟨_,h1⟩
    have:=h1 q (by omega) (by rw[Nat.add_sub_cancel];exact hq)
    rw[if_neg (by omega)]
 ·rw[opErrAt_own h h0]
  exact⟨fun h1=>absurd h1 h0,fun h1=>absurd h1.1 h0⟩
theorem ops_fine {l:List OpT} {p:Int}:(∀j,j<l.length→opErrAt l p j=0)↔(∀o∈l,opErr o p=0)∧l.Pairwise fun a b=>a.no<b.no:=by
 constructor
 ·intro h
  have h1:∀j (hj:j<l.length),opErr l[j] p=0∧∀q,0<j→l[j - 1]?=some q→q.no<l[j].no:=fun j hj=>(opErrAt_iff (List.getElem?_eq_getElem hj)).1 (h j hj)
  have h2:∀j (hj:j<l.length) i (hi:i<j),(l[i]'(by omega)).no<l[j].no:=by
   intro j
   induction j with
   | zero=>exact fun _ i hi=>absurd hi (by omega)
   | succ j ih=>
    intro hj i hi
    have h3:=(h1 (j+1) hj).2 (l[j]'(by omega)) (by omega) (by rw[Nat.add_sub_cancel];exact List.getElem?_eq_getElem _)
    rcases Nat.lt_or_ge i j with h4|h4
    ·exact Int.lt_trans (ih (by omega) i h4) h3
    ·obtain rfl:i=j:=by omega
     exact h3
  refine⟨fun o ho=>?_,List.pairwise_iff_getElem.2 fun i j hi hj hij=>h2 j hj i hij⟩
  obtain⟨j,hj,rfl⟩:=List.getElem_of_mem ho
  exact(h1 j hj).1
 ·rintro⟨h1,h2⟩ j hj
  refine(opErrAt_iff (List.getElem?_eq_getElem hj)).2 ⟨h1 _ (List.getElem_mem _),fun q h0 hq=>?_⟩
  obtain⟨hq1,rfl⟩:=List.getElem?_eq_some_iff.1 hq
  exact List.pairwise_iff_getElem.1 h2 (j - 1) j hq1 hj (by omega)
theorem right_pair {c:ComT} (h:(comFault c).code=0):c.ops.Pairwise fun a b=>a.no<b.no:=by
 have hr:=right_of h
 rw[←hr.op]at h
 exact(ops_fine.1 (opsFault_zero h)).2
theorem valFault_mk {key:ByteArray} {l:List ComT} (hk:nameOk key=true) (h:∀c∈l,(comFault c).code=0) (m:Nat) (hm:∀c∈l,c.when.length=m):(valFault key l).code=0:=by
 rw[valFault,if_neg (by simp[hk]),listFault_none fun j hj=>?_]
 have hj2:l[j]?=some l[j]:=List.getElem?_eq_getElem hj
 refine comErrAt_fine hj2 (h _ (List.getElem_mem _)) ?_
 rw[hm _ (List.getElem_mem _)]
 match l,hj,hm with
 | c::r,_,hm=>exact(hm c (List.mem_cons_self ..)).symm
structure PartOf (c' c:ComT):Prop where
 place:c'.place=c.place
 time:c'.when=c.when
 ne:c'.ops≠[]
 ops:c'.ops.Sublist c.ops
theorem mem_allDone {l:List ComT} {x:DoneT}:x∈allDone l↔∃c∈l,∃o∈c.ops,x=doneOf c o:=by
 unfold allDone
 rw[List.mem_flatMap]
 constructor
 ·rintro⟨c,hc,h⟩
  obtain⟨o,ho,rfl⟩:=List.mem_map.1 h
  exact⟨c,hc,o,ho,rfl⟩
 ·rintro⟨c,hc,o,ho,rfl⟩
  exact⟨c,hc,List.mem_map_of_mem ho⟩
theorem PartOf.done {c' c:ComT} (h:PartOf c' c) (o:OpT):doneOf c' o=doneOf c o:=by
 simp only[doneOf,dotOf,h.place,h.time]
def Apart (l:List ComT):Prop:=∀(i k:Nat) (c d:ComT),k<i→l[i]?=some c→l[k]?=some d→¬(d.place=c.place∧d.when.getD d.place.toNat 0=c.when.getD c.place.toNat 0)
theorem Apart.fun {l:List ComT} (h:Apart l) (hr:∀c∈l,(comFault c).code=0):∀x∈allDone l,∀y∈allDone l,x.d=y.d→x=y:=by
 intro x hx y hy he
 obtain⟨c,hc,o,ho,rfl⟩:=mem_allDone.1 hx
 obtain⟨d,hd,q,hq,rfl⟩:=mem_allDone.1 hy
 obtain⟨i,hi⟩:=List.getElem?_of_mem hc
 obtain⟨k,hk⟩:=List.getElem?_of_mem hd
 simp only[doneOf,dotOf,DotT.mk.injEq]at he
 obtain⟨e1,e2,e3⟩:=he
 have hik:i=k:=by
  rcases Nat.lt_trichotomy i k with hlt|heq|hlt
  ·exact absurd ⟨e1,e2⟩ (h k i d c hlt hk hi)
  ·exact heq
  ·exact absurd ⟨e1.symm,e2.symm⟩ (h i k c d hlt hi hk)
 subst hik
 rw[hi]at hk
 cases hk
 have hp:=right_pair (hr c hc)
 obtain⟨a,ha,rfl⟩:=List.getElem_of_mem ho
 obtain⟨b,hb,rfl⟩:=List.getElem_of_mem hq
 have hab:a=b:=by
  rcases Nat.lt_trichotomy a b with hlt|heq|hlt
  ·have:=List.pairwise_iff_getElem.1 hp a b ha hb hlt
   omega
  ·exact heq
  ·have:=List.pairwise_iff_getElem.1 hp b a hb ha hlt
   omega
 subst hab
 rfl
end Go.Proofs.YtmkapocibaojdaaGreatDoor
end
section
namespace Go.Proofs.YtmkapocibaojdaaGreatDoor
open Go Go.Sx
theorem dotP_puts (c:ComT) (l:List OpT):(putsOf c l).map dotP=l.map (dotOf c):=by
 rw[putsOf,List.map_map]
 rfl
structure CanPut (p:Nat) (base:List Int) (L:List PutT) (c:ComT):Prop where
 com:(comFault c).code=0
 len:c.when.length=p
 new:inL c.when base=false
 dots:∀o∈c.ops,dotOf c o∉L.map dotP
theorem dots_own {c:ComT} (h:(comFault c).code=0):(c.ops.map (dotOf c)).Nodup:=by
 rw[List.nodup_iff_pairwise_ne,List.pairwise_map]
 refine(right_pair h).imp fun{a b} hab he=>?_
 simp only[dotOf,DotT.mk.injEq]at he
 omega
theorem CanPut.nodup {p:Nat} {base:List Int} {L:List PutT} {c:ComT} (h:CanPut p base L c) (hn:(L.map dotP).Nodup):((L++putsOf c c.ops).map dotP).Nodup:=by
 rw[List.map_append,dotP_puts,List.nodup_append]
 refine⟨hn,dots_own h.com,fun x hx y hy he=>?_⟩
 subst he
 obtain⟨o,ho,rfl⟩:=List.mem_map.1 hy
 exact h.dots o ho hx
end Go.Proofs.YtmkapocibaojdaaGreatDoor
end
section
namespace Go.Sx
open Go
structure ReadT where
 key:ByteArray
 v:ValT
structure EvT where
 ses:Int
 place:Int
 at':List Int
 reads:List ReadT
 c:ComT
abbrev eRead (r:ReadT):List D:=[.v (.string r.key),dI r.v.kind,.v (.string r.v.text),dI r.v.n,dStrs r.v.set]
abbrev eEv (e:EvT):List D:=[dI e.ses,dI e.place,dInts e.at',.sl 5 (e.reads.map eRead),dInts e.c.when,dI e.c.place,.sl 7 (e.c.ops.map eOp)]
instance:DecidableEq ValT:=fun a b=>decidable_of_iff (a.kind=b.kind∧a.text=b.text∧a.n=b.n∧a.set=b.set) ⟨fun⟨h1,h2,h3,h4⟩=>by cases a;cases b;simp_all,fun h=>by subst h;exact⟨rfl,rfl,rfl,rfl⟩⟩
end Go.Sx
namespace Go.Proofs.YtmkapocibaojdaaGreatDoor
open Go Go.Sx
def shapeE (places:Int) (e:EvT):Nat:=
 if vecErr e.at'≠0∨(e.at'.length:Int)≠places∨vecErr e.c.when≠0∨(e.c.when.length:Int)≠places∨e.place<0∨places≤e.place then 3
 else if e.c.ops=[]then 0 else (comFault e.c).code
def lastSes (l:List EvT) (i:Nat) (s:Int):Option EvT:=((l.take i).filter fun e=>decide (e.ses=s)).getLast?
def lateE (l:List EvT) (i:Nat) (e:EvT):Bool:=match lastSes l i e.ses with
 | none=>false
 | some x=>!inL x.c.when e.at'
def comsE (l:List EvT):List ComT:=(l.map (·.c)).filter fun c=>!c.ops.isEmpty
def seenE (l:List EvT) (at':List Int):List ComT:=(comsE l).filter fun c=>inL c.when at'
def readE (seen:List ComT) (r:ReadT):Bool:=nameOk r.key&&decide (Sx.valOf r.key seen=r.v)
def eventE (l:List EvT) (i:Nat) (e:EvT):Nat:=if inL e.at' e.c.when=false then 2 else if lateE l i e then 9 else if (e.reads.all (readE (seenE l e.at')))then 0 else 8
def firstE (f:Nat→EvT→Nat):Nat→List EvT→FT
 | _,[]=>⟨0,-1⟩
 | i,e::l=>if f i e≠0 then ⟨f i e,i⟩else firstE f (i+1) l
def evFault (places:Int) (l:List EvT):FT:=
 if places<1∨6<places then ⟨2,-1⟩else if (firstE (fun _=>shapeE places) 0 l).code≠0 then firstE (fun _=>shapeE places) 0 l else firstE (fun i e=>eventE l i e) 0 l
theorem firstE_at {f:Nat→EvT→Nat}:∀{l:List EvT} {i j:Nat} {e:EvT},l[j]?=some e→f (i+j) e≠0→(∀k x,k<j→l[k]?=some x→f (i+k) x=0)→firstE f i l=⟨f (i+j) e,(i+j:Nat)⟩
 | a::l,i,0,e,h,h0,_=>by
  rw[List.getElem?_cons_zero]at h
  cases h
  rw[Nat.add_zero]at h0
  rw[firstE,if_pos (by simpa using h0)]
  rfl
 | a::l,i,j+1,e,h,h0,hk=>by
  have h1:=hk 0 a (by omega) rfl
  rw[Nat.add_zero]at h1
  rw[firstE,if_neg (by simpa using h1),firstE_at (j:=j) (e:=e) (by simpa using h) (by rw[show i+1+j=i+(j+1)by omega];exact h0) (fun k x hkj hx=>by rw[show i+1+k=i+(k+1)by omega];exact hk (k+1) x (by omega) (by simpa using hx)),show i+1+j=i+(j+1)by omega]
theorem firstE_none {f:Nat→EvT→Nat}:∀{l:List EvT} {i:Nat},(∀k x,l[k]?=some x→f (i+k) x=0)→firstE f i l=⟨0,-1⟩
 | [],_,_=>rfl
 | a::l,i,h=>by
  have h1:=h 0 a rfl
  rw[Nat.add_zero]at h1
  rw[firstE,if_neg (by simpa using h1)]
  exact firstE_none fun k x hx=>by rw[show i+1+k=i+(k+1)by omega];exact h (k+1) x (by simpa using hx)
def waitsE (l:List EvT) (done:List Bool) (i:Nat):Bool:=match l[i]? with
 | none=>false
 | some e=>(l.zip done).any fun q=>!q.2&&(!q.1.c.ops.isEmpty&&inL q.1.c.when e.at')
def roundE (l:List EvT) (done:List Bool):List Nat:=(List.range l.length).filter fun i=>!(done[i]?.getD true)&&!waitsE l done i
def markE (done:List Bool) (r:List Nat):List Bool:=r.foldl (fun d i=>d.set i true) done
def roundsE (l:List EvT):Nat→List Bool→Nat→List (List Nat)×Bool
 | 0,_,left=>([],decide (left=0))
 | n+1,done,left=>if left=0 then ([],true)else if roundE l done=[]then ([],false)else
   (roundE l done::(roundsE l n (markE done (roundE l done)) (left - (roundE l done).length)).1,(roundsE l n (markE done (roundE l done)) (left - (roundE l done).length)).2)
def cutE (l:List EvT) (e:EvT):Nat:=if twoErr e.c.when e.at'≠0 then twoErr e.c.when e.at' else if e.at'.length≠((l.head?).map (·.at'.length)).getD 0 then 3 else 0
def cutsE (l:List EvT):List (List Nat)×FT:=
 if (firstE (fun _=>cutE l) 0 l).code≠0 then ([],firstE (fun _=>cutE l) 0 l)else
 if (roundsE l l.length (l.map fun _=>false) l.length).2 then ((roundsE l l.length (l.map fun _=>false) l.length).1,⟨0,-1⟩)else ([],⟨10,-1⟩)
end Go.Proofs.YtmkapocibaojdaaGreatDoor
end
section
namespace Go.Proofs.YtmkapocibaojdaaGreatDoor
open Go Go.Sx
abbrev evA (e:EvT) (va vr vw vo:Value):Value:=.agg #[.int .i64 e.ses,.int .i64 e.place,va,vr,vw,.int .i64 e.c.place,vo]
set_option maxHeartbeats 4000000 in
theorem jShape {w:World} {S:Nat→Prop} {er:Nat→Addr} {eb:Nat→Array Value×TypeId} {e:EvT} {places:Int} {a1 a2 a3 a4:Option Addr} {n1 c1 n2 c2 n3 c3 n4 c4:Nat} (hC:Rep w S .nilIface (dC er eb)) (h1:Rep w S (.slice a1 n1 c1) (dInts e.at')) (h2:Rep w S (.slice a2 n2 c2) (dInts e.c.when)) (h3:Rep w S (.slice a3 n3 c3) (.sl 7 (e.c.ops.map eOp))) (l1:e.at'.length≤1000000) (l2:e.c.when.length≤1000000) (l3:e.c.ops.length≤1000000) :
  Calls Tryz.prog 112 #[.int .i64 places,evA e (.slice a1 n1 c1) (.slice a4 n4 c4) (.slice a2 n2 c2) (.slice a3 n3 c3)] w fun e' w'=>∃v,Ret [] w S w' e' v [] []∧ErrIs 390 er (shapeE places e) v:=by
 obtain rfl:=rep_ints_len h1
 obtain rfl:=rep_ints_len h2
 have e3:=h3.slen
 rw[List.length_map]at e3
 subst e3
 refine epG Tryz.func112 bd112 (args:=[.int .i64 places,evA e (.slice a1 e.at'.length c1) (.slice a4 n4 c4) (.slice a2 e.c.when.length c2) (.slice a3 e.c.ops.length c3)]) (S:=S) (G:=[(_,dC er eb),(_,dInts e.at'),(_,dInts e.c.when),(_,.sl 7 (e.c.ops.map eOp))]) (by kernel_rfl) (.cons hC (.cons h1 (.cons h2 (.cons h3 (.nil _ _))))) ?_
 refine J_stp (stp_all 0 [2] rfl rfl) ?_
 refine J_glob 4 rfl (fun csg1 tyg1 fzg1 hglob1=>?_)
 try simp only[aQ]
 refine Zv [.wr 0 [] 0,zR 1] [] [1] (fun nu1=>[zP 3 (nu1 0),zV 4 .nilIface]) o0 (fun nu1=>[(nu1 0,.cells #[nI e.ses,nI e.place,.slice a1 e.at'.length c1,.slice a4 n4 c4,.slice a2 e.c.when.length c2,nI e.c.place,.slice a3 e.c.ops.length c3] 200 (0,0))]) (fun nu1=>?_)
 refine J_seq ?_
 refine Zv [zR 0,.rd 1 [.o 0 none] 0 0,zR 2,zR 3,.rd 4 [.o 0 none] 0 0,.wr 5 [] 0,zR 6,zR 7] [] [] (fun nu2=>[zS 12 (sA (nu2 0) 0) 2 2,zI 13 2,zI 14 0]) o0 (fun nu2=>[(nu2 0,.cells #[.slice a1 e.at'.length c1,.slice a2 e.c.when.length c2] 32 (0,0))]) (fun nu2=>?_)
 refine J_block ?_
 refine J_loopx (fun i:Int=>[zI 0 places,zP 3 (nu1 0),zV 4 .nilIface,zS 12 (sA (nu2 0) 0) 2 2,zI 13 2,zI 14 i]) (fun i:Int=>[(nu1 0,.cells #[nI e.ses,nI e.place,.slice a1 e.at'.length c1,.slice a4 n4 c4,.slice a2 e.c.when.length c2,nI e.c.place,.slice a3 e.c.ops.length c3] 200 (0,0)),(nu2 0,.cells #[.slice a1 e.at'.length c1,.slice a2 e.c.when.length c2] 32 (0,0))]) (fun i:Int=>[]) (fun i:Int=>[(.nilIface,(dC er eb)),(.slice a1 e.at'.length c1,(dInts e.at')),(.slice a2 e.c.when.length c2,(dInts e.c.when)),(.slice a3 e.c.ops.length c3,(D.sl 7 (List.map eOp e.c.ops))),(.pointer (sA 1 0),(D.ptr [D.v (Value.iface 390 (Value.pointer (some (er 3))))]))]) (fun i:Int=>(2 - i).toNat) (fun i:Int=>(i=0∨(i=1∧vecErr e.at'=0∧(e.at'.length:Int)=places)∨(i=2∧(vecErr e.at'=0∧(e.at'.length:Int)=places)∧vecErr e.c.when=0∧(e.c.when.length:Int)=places))) 0 [0,3,4,12,13,14] [0,1] [] [0,1,2,3,4] ?_ (by kernel_rfl) rfl rfl rfl ?_
 ·exact .inl rfl
 rintro i (rfl|⟨rfl,h0⟩|⟨rfl,h0,h9⟩)
 ·refine J_seq ?_
  refine Za [zR 0] [] [zB 15 true] ?_
  refine J_seq ?_
  refine cTt ?_
  refine J_skip (J_seq (J_block ?_))
  refine Zs [zR 0,.rd 1 [.o 1 none] 0 0,zR 2] [15] [zS 6 a1 e.at'.length c1] ?_
  refine jS [(0,true),(1,false),(2,true),(3,true),(4,true),(5,true),(6,true),(7,true),(8,true)] [] ?_
  refine Ya [zR 0] [] [zS 18 a1 e.at'.length c1] ?_
  refine Yc 141 #[.slice a1 e.at'.length c1] (some 19) fun w S hG=>?_
  refine(vcheck (globs_of (hG.at 0 rfl)) (hG.at 1 rfl) l1).mono ?_
  rintro e2 w2 ⟨v,hR,⟨hv,rfl⟩|⟨hv,rfl⟩⟩
  ·refine⟨_,_,_,hR,?_⟩
   try simp only[aQ]
   refine Ya (Rds 2 9) [19,18] [zB 26 ((↑e.at'.length:Int) != places)] ?_
   refine JR_end ?_
   refine cC (t:=(↑e.at'.length:Int) != places) (fun hne=>?_) (fun hne=>?_)
   ·refine J_seq ?_
    refine Zp [.rd 0 [.r 0 (some (.iface 390 (.pointer (some (er 3)))))] 0 0,zR 1] [26] [zV 4 (.iface 390 (.pointer (some (er 3))))] (oC hglob1 oN) ?_
    refine Yr [[]] (.iface 390 (.pointer (some (er 3)))) fun a w s=>?_
    exact⟨_,s.ret (by simp) [] [] rfl rfl,.inr (by rw[shapeE,if_pos (by simp at hne;omega)];exact⟨by decide,rfl⟩)⟩
   ·refine J_skip ?_
    refine J_eb ?_
    refine Za [zR 0,zR 1] [26] [zI 14 1] ?_
    refine J_backx 1 [0,3,4,12,13,14] [0,1] [] [0,1,2,3,4] ?_ ?_ (by kernel_rfl) rfl rfl rfl
    ·exact .inr (.inl ⟨rfl,hv,by simpa using hne⟩)
    ·omega
  ·refine⟨_,_,_,hR,?_⟩
   try simp only[aQ]
   refine Ya [zR 2,zR 3,.rd 4 [] 1 0,.rd 5 [] 1 0,.rd 6 [] 1 0,.rd 7 [] 1 0,zR 8] [19,18] [zB 26 true] ?_
   refine JR_end ?_
   refine cTt ?_
   refine Zt [.rd 0 [.r 0 (some (.iface 390 (.pointer (some (er 3)))))] 0 0,zR 1] [26] [zV 4 (.iface 390 (.pointer (some (er 3))))] (oC hglob1 oN) ?_
   refine Yr [[]] (.iface 390 (.pointer (some (er 3)))) fun a w s=>?_
   exact⟨_,s.ret (by simp) [] [] rfl rfl,.inr (by rw[shapeE,if_pos (.inl hv)];exact⟨by decide,rfl⟩)⟩
 ·refine J_seq ?_
  refine Za [zR 0] [] [zB 15 true] ?_
  refine J_seq ?_
  refine cTt ?_
  refine J_skip (J_seq (J_block ?_))
  refine Zs [zR 0,.rd 1 [.o 1 none] 0 0,zR 2] [15] [zS 6 a2 e.c.when.length c2] ?_
  refine jS [(0,true),(1,false),(2,true),(3,true),(4,true),(5,true),(6,true),(7,true),(8,true)] [] ?_
  refine Ya [zR 0] [] [zS 18 a2 e.c.when.length c2] ?_
  refine Yc 141 #[.slice a2 e.c.when.length c2] (some 19) fun w S hG=>?_
  refine(vcheck (globs_of (hG.at 0 rfl)) (hG.at 2 rfl) l2).mono ?_
  rintro e2 w2 ⟨v,hR,⟨hv,rfl⟩|⟨hv,rfl⟩⟩
  ·refine⟨_,_,_,hR,?_⟩
   try simp only[aQ]
   refine Ya (Rds 2 9) [19,18] [zB 26 ((↑e.c.when.length:Int) != places)] ?_
   refine JR_end ?_
   refine cC (t:=(↑e.c.when.length:Int) != places) (fun hne=>?_) (fun hne=>?_)
   ·refine J_seq ?_
    refine Zp [.rd 0 [.r 0 (some (.iface 390 (.pointer (some (er 3)))))] 0 0,zR 1] [26] [zV 4 (.iface 390 (.pointer (some (er 3))))] (oC hglob1 oN) ?_
    refine Yr [[]] (.iface 390 (.pointer (some (er 3)))) fun a w s=>?_
    exact⟨_,s.ret (by simp) [] [] rfl rfl,.inr (by rw[shapeE,if_pos (by simp at hne;omega)];exact⟨by decide,rfl⟩)⟩
   ·refine J_skip ?_
    refine J_eb ?_
    refine Za [zR 0,zR 1] [26] [zI 14 2] ?_
    refine J_backx 2 [0,3,4,12,13,14] [0,1] [] [0,1,2,3,4] ?_ ?_ (by kernel_rfl) rfl rfl rfl
    ·exact .inr (.inr ⟨rfl,h0,hv,by simpa using hne⟩)
    ·omega
  ·refine⟨_,_,_,hR,?_⟩
   try simp only[aQ]
   refine Ya [zR 2,zR 3,.rd 4 [] 1 0,.rd 5 [] 1 0,.rd 6 [] 1 0,.rd 7 [] 1 0,zR 8] [19,18] [zB 26 true] ?_
   refine JR_end ?_
   refine cTt ?_
   refine Zt [.rd 0 [.r 0 (some (.iface 390 (.pointer (some (er 3)))))] 0 0,zR 1] [26] [zV 4 (.iface 390 (.pointer (some (er 3))))] (oC hglob1 oN) ?_
   refine Yr [[]] (.iface 390 (.pointer (some (er 3)))) fun a w s=>?_
   exact⟨_,s.ret (by simp) [] [] rfl rfl,.inr (by rw[shapeE,if_pos (.inr (.inr (.inl hv)))];exact⟨by decide,rfl⟩)⟩
 ·have hsh:¬(vecErr e.at'≠0∨(e.at'.length:Int)≠places∨vecErr e.c.when≠0∨(e.c.when.length:Int)≠places):=by omega
  by_cases hp0:e.place<0
  case pos=>
   refine Zs [zR 0] [] [zB 15 false] ?_
   refine J_seq ?_
   refine cF ?_
   refine J_exit rfl ?_
   refine J_seq ?_
   refine Zt [zR 0,.rd 1 [.o 0 none] 0 0,.rd 2 [] 0 6,zR 3,.rd 4 [] 1 0,.rd 5 [] 1 0,.rd 6 [] 1 0,.rd 7 [] 1 0,zR 8,zR 9,.rd 10 [] 1 0,.rd 11 [] 1 0,.rd 12 [] 1 0,.rd 13 [] 1 0,.rd 14 [] 1 0,zR 15] [15,12,13,14] [zB 44 true] (oC (show decide (e.place<(0:Int))=true from by simp;omega) oN) ?_
   refine cTt ?_
   refine J_seq ?_
   refine Zt [zR 0,.rd 1 [.o 0 none] 0 0,.rd 2 [] 0 6,zR 3,.rd 4 [] 1 0,.rd 5 [] 1 0,.rd 6 [] 1 0,.rd 7 [] 1 0,zR 8] [44,0] [zB 53 true] (oC (show decide (e.place<(0:Int))=true from by simp;omega) oN) ?_
   refine cTt ?_
   refine Zt [.rd 0 [.r 0 (some (.iface 390 (.pointer (some (er 3)))))] 0 0,zR 1] [53] [zV 4 (.iface 390 (.pointer (some (er 3))))] (oC hglob1 oN) ?_
   refine Yr [[]] (.iface 390 (.pointer (some (er 3)))) fun a w s=>?_
   exact⟨_,s.ret (by simp) [] [] rfl rfl,.inr (by rw[shapeE,if_pos (by omega)];exact⟨by decide,rfl⟩)⟩
  by_cases hp1:e.place≥places
  case pos=>
   refine Zs [zR 0] [] [zB 15 false] ?_
   refine J_seq ?_
   refine cF ?_
   refine J_exit rfl ?_
   refine J_seq ?_
   refine Zt [zR 0,.rd 1 [.o 0 none] 0 0,.rd 2 [] 0 7,zR 3,zR 4,.rd 5 [.o 0 none] 0 0,zR 6,.rd 7 [] 0 6,zR 8,zR 9,.rd 10 [] 1 0,.rd 11 [] 1 0,.rd 12 [] 1 0,.rd 13 [] 1 0,.rd 14 [] 1 0,zR 15] [15,12,13,14] [zB 44 true] (oC (show decide (e.place<(0:Int))=false from by simp;omega) (oC (show decide (e.place≥places)=true from by simp;omega) oN)) ?_
   refine cTt ?_
   refine J_seq ?_
   refine Zt [zR 0,.rd 1 [.o 0 none] 0 0,.rd 2 [] 0 7,zR 3,zR 4,.rd 5 [.o 0 none] 0 0,zR 6,.rd 7 [] 0 6,zR 8] [44,0] [zB 53 true] (oC (show decide (e.place<(0:Int))=false from by simp;omega) (oC (show decide (e.place≥places)=true from by simp;omega) oN)) ?_
   refine cTt ?_
   refine Zt [.rd 0 [.r 0 (some (.iface 390 (.pointer (some (er 3)))))] 0 0,zR 1] [53] [zV 4 (.iface 390 (.pointer (some (er 3))))] (oC hglob1 oN) ?_
   refine Yr [[]] (.iface 390 (.pointer (some (er 3)))) fun a w s=>?_
   exact⟨_,s.ret (by simp) [] [] rfl rfl,.inr (by rw[shapeE,if_pos (by omega)];exact⟨by decide,rfl⟩)⟩
  have hne:¬(vecErr e.at'≠0∨(e.at'.length:Int)≠places∨vecErr e.c.when≠0∨(e.c.when.length:Int)≠places∨e.place<0∨places≤e.place):=by omega
  by_cases ho:(e.c.ops.length:Int)=0
  case pos=>
   have ho2:e.c.ops=[]:=List.length_eq_zero_iff.1 (by omega)
   refine Zs [zR 0] [] [zB 15 false] ?_
   refine J_seq ?_
   refine cF ?_
   refine J_exit rfl ?_
   refine J_seq ?_
   refine Zt ([zR 0,.rd 1 [.o 0 none] 0 0,.rd 2 [] 0 7,zR 3,zR 4,.rd 5 [.o 0 none] 0 0,zR 6,.rd 7 [] 0 7]++Rds 8 12++[.rd 12 [.o 0 none] 0 0,zR 13,.rd 14 [] 0 6,zR 15]) [15,12,13,14] [zB 44 true] (oC (show decide (e.place<(0:Int))=false from by simp;omega) (oC (show decide (e.place≥places)=false from by simp;omega) (oC (show((↑e.c.ops.length:Int)==(0:Int))=true from by simp;omega) oN))) ?_
   refine cTt ?_
   refine J_seq ?_
   refine Zt [zR 0,.rd 1 [.o 0 none] 0 0,.rd 2 [] 0 7,zR 3,zR 4,.rd 5 [.o 0 none] 0 0,zR 6,.rd 7 [] 0 7,zR 8] [44,0] [zB 53 false] (oC (show decide (e.place<(0:Int))=false from by simp;omega) (oC (show decide (e.place≥places)=false from by simp;omega) oN)) ?_
   refine cF ?_
   refine J_skip ?_
   refine Zs [zR 0] [53] [] ?_
   refine Yr [[]] (.nilIface) fun a w s=>?_
   exact⟨_,s.ret (by simp) [] [] rfl rfl,.inl (by rw[shapeE,if_neg hne,if_pos ho2];exact⟨rfl,rfl⟩)⟩
  have ho2:e.c.ops≠[]:=fun h=>ho (by rw[h];rfl)
  have hsE:shapeE places e=(comFault e.c).code:=by rw[shapeE,if_neg hne,if_neg ho2]
  rw[hsE]
  refine Zs [zR 0] [] [zB 15 false] ?_
  refine J_seq ?_
  refine cF ?_
  refine J_exit rfl ?_
  refine J_seq ?_
  refine Zt ([zR 0,.rd 1 [.o 0 none] 0 0,.rd 2 [] 0 7,zR 3,zR 4,.rd 5 [.o 0 none] 0 0,zR 6,.rd 7 [] 0 7]++Rds 8 12++[.rd 12 [.o 0 none] 0 0,zR 13,.rd 14 [] 0 7,zR 15]) [15,12,13,14] [zB 44 false] (oC (show decide (e.place<(0:Int))=false from by simp;omega) (oC (show decide (e.place≥places)=false from by simp;omega) (oC (show((↑e.c.ops.length:Int)==(0:Int))=false from by simp;omega) oN))) ?_
  refine cF ?_
  refine J_skip ?_
  refine jS [(0,true),(1,true),(2,false),(3,false),(4,true)] [] ?_
  refine Ya [zR 0,.rd 1 (hnO 0 3) 0 0] [44,0,3] [zV 56 (.agg #[.slice a2 e.c.when.length c2,nI e.c.place,.slice a3 e.c.ops.length c3])] ?_
  refine Yc 85 #[.agg #[.slice a2 e.c.when.length c2,nI e.c.place,.slice a3 e.c.ops.length c3]] (some 57) fun w S hG=>?_
  refine(checkCommit (c:=e.c) (hG.at 0 rfl) (hG.at 2 rfl) (hG.at 3 rfl) l2 l3).mono ?_
  rintro e3 w3 (⟨ha,v,hR,hv⟩|⟨hf1,hf2,pb,hR⟩)
  ·refine⟨_,_,_,hR,?_⟩
   have hv1:v.oneCell'=true:=by rcases hv with ⟨_,rfl⟩|⟨_,rfl⟩ <;> rfl
   try simp only[aQ]
   refine Yc 164 #[v] (some 58) fun w S hG=>?_
   refine(bareE (hG.at 0 rfl) hv).mono ?_
   rintro e4 w4 hR
   refine⟨_,_,_,hR,?_⟩
   try simp only[aQ]
   refine Ya [zR 4] [58,57,56] [zV 4 v] ?_
   refine JR_end ?_
   refine Yr [[]] (v) fun a w s=>?_
   exact⟨_,s.ret (by simp) [] [] rfl rfl,hv⟩
  ·refine⟨_,_,_,hR,?_⟩
   try simp only[aQ]
   refine Yc 164 #[.iface 202 (.pointer (sA pb 0))] (some 58) fun w S hG=>?_
   refine(bareF (hG.at 0 rfl) (hG.at 5 rfl)).mono ?_
   rintro e4 w4 hR
   refine⟨_,_,_,hR,?_⟩
   try simp only[aQ]
   refine Ya [zR 4] [58,57,56] [zV 4 (.iface 390 (.pointer (some (er (comFault e.c).code))))] ?_
   refine JR_end ?_
   refine Yr [[]] (.iface 390 (.pointer (some (er (comFault e.c).code)))) fun a w s=>?_
   exact⟨_,s.ret (by simp) [] [] rfl rfl,.inr ⟨by omega,rfl⟩⟩
end Go.Proofs.YtmkapocibaojdaaGreatDoor
end
section
namespace Go.Sx
open Go
section reads
variable {P:Program} {f:Func} {R:Act→World→Prop} {n:Nat} {kk:List Itm} {E:Env} {h r:List (Nat×Obj)} {F:List (List Nat×World)}
theorem J_read4 {S0:Nat→Prop} {C0:List Chunk} {G0:List (Value×D)} (p:Nat) {a:Option Addr} {m c k:Nat} {rows:List (List D)} (hG:G0[p]?=some (.slice a m c,.sl k rows)) (i:Nat) {row:List D} (hrow:rows[i]?=some row) (hs:sls row=4)
  (H:∀b off cs e fz a1 c1 a2 c2 a3 c3 a4 c4,a=some ⟨b,off,none⟩→(∀(j:Nat) u,(inst row [(a1,c1),(a2,c2),(a3,c3),(a4,c4)])[j]?=some u→cs[off+i*k+j]?=some u)→J P f R n kk E h (r++[(b,.cells cs e fz)]) F ⟨S0,C0,G0++deep row [(a1,c1),(a2,c2),(a3,c3),(a4,c4)]⟩):J P f R n kk E h r F ⟨S0,C0,G0⟩:=
 J_readl p hG i hrow fun b off cs e fz ls h1 h2 h3=>by
  rw[hs]at h2
  match ls,h2,h3 with
  | [(a1,c1),(a2,c2),(a3,c3),(a4,c4)],_,h3=>exact H b off cs e fz a1 c1 a2 c2 a3 c3 a4 c4 h1 h3
theorem J_again4 {S0:Nat→Prop} {C0:List Chunk} {G0:List (Value×D)} (p:Nat) {b off:Nat} {m c k:Nat} {rows:List (List D)} (hG:G0[p]?=some (.slice (some ⟨b,off,none⟩) m c,.sl k rows)) (q:Nat) {cs:Array Value} {e:TypeId} {fz:Nat×Nat} (hq:r[q]?=some (b,.cells cs e fz)) (i:Nat) {row:List D} (hrow:rows[i]?=some row) (hs:sls row=4)
  (H:∀a1 c1 a2 c2 a3 c3 a4 c4,(∀(j:Nat) u,(inst row [(a1,c1),(a2,c2),(a3,c3),(a4,c4)])[j]?=some u→cs[off+i*k+j]?=some u)→J P f R n kk E h r F ⟨S0,C0,G0++deep row [(a1,c1),(a2,c2),(a3,c3),(a4,c4)]⟩):J P f R n kk E h r F ⟨S0,C0,G0⟩:=
 J_againl p hG q hq i hrow fun ls h2 h3=>by
  rw[hs]at h2
  match ls,h2,h3 with
  | [(a1,c1),(a2,c2),(a3,c3),(a4,c4)],_,h3=>exact H a1 c1 a2 c2 a3 c3 a4 c4 h3
end reads
end Go.Sx
end
section
namespace Go.Proofs.YtmkapocibaojdaaGreatDoor
open Go Go.Sx
set_option maxHeartbeats 4000000 in
theorem equalS {w:World} {S:Nat→Prop} {ua ub:Option Addr} {n m c d:Nat} {xs ys:List ByteArray} (ha:Rep w S (.slice ua n c) (dStrs xs)) (hb:Rep w S (.slice ub m d) (dStrs ys)) (hl:xs.length≤4000000) (hl2:ys.length≤4000000) :
  Calls Tryz.prog 207 #[.slice ua n c,.slice ub m d] w fun e w'=>Ret [] w S w' e (.bool (decide (xs=ys))) [] []:=by
 have e1:=ha.slen
 have e2:=hb.slen
 rw[List.length_map]at e1 e2
 subst e1 e2
 refine epG Tryz.func207 bd207 (args:=[.slice ua xs.length c,.slice ub ys.length d]) (S:=S) (G:=[(_,dStrs xs),(_,dStrs ys)]) (by kernel_rfl) (.cons ha (.cons hb (.nil _ _))) ?_
 refine Zs [zR 0] [] [zB 4 false] ?_
 refine J_seq ?_
 refine Zs (Rds 0 5) [] [zB 10 ((↑xs.length:Int) != (↑ys.length:Int))] ?_
 refine cC (t:=(↑xs.length:Int) != (↑ys.length:Int)) (fun hne=>?_) (fun hne=>?_)
 ·refine J_seq ?_
  refine Za [zR 0] [10] [] ?_
  refine Yr [[]] (.bool false) fun a w s=>?_
  rw[decide_eq_false (fun h=>by subst h;simp at hne)]
  exact s.ret (by simp) [] [] rfl rfl
 have hle:xs.length=ys.length:=by
  have h:(xs.length:Int)=ys.length:=by simpa using hne
  omega
 refine J_skip (J_seq ?_)
 refine Zs (Rds 0 3) [10] [zI 12 (↑xs.length:Int),zI 13 0] ?_
 refine J_block ?_
 refine J_loopx (fun i:Int=>[zS 0 ua xs.length c,zS 1 ub ys.length d,zB 4 false,zI 12 (↑xs.length:Int),zI 13 i]) (fun i:Int=>[]) (fun i:Int=>[]) (fun i:Int=>[(.slice ua xs.length c,(dStrs xs)),(.slice ub ys.length d,(dStrs ys))]) (fun i:Int=>(xs.length - i).toNat) (fun i:Int=>(0≤i∧i≤xs.length∧xs.take i.toNat=ys.take i.toNat)) 0 [0,1,4,12,13] [] [] [0,1] ?_ (by kernel_rfl) rfl rfl rfl ?_
 ·exact⟨by simp,by omega,by simp⟩
 rintro i ⟨hi0,hi,hno⟩
 refine Zs [zR 0] [] [zB 14 (decide (i<(↑xs.length:Int)))] ?_
 refine J_seq ?_
 refine cC (t:=decide (i<(↑xs.length:Int))) (fun hlt=>?_) (fun hlt=>?_)
 ·have hlt2:i<xs.length:=of_decide_eq_true hlt
  obtain⟨x,hx⟩:∃x,xs[i.toNat]?=some x:=⟨_,List.getElem?_eq_getElem (by omega)⟩
  obtain⟨y,hy⟩:∃y,ys[i.toNat]?=some y:=⟨_,List.getElem?_eq_getElem (by omega)⟩
  refine J_read0 0 rfl i.toNat (map_at hx) (by kernel_rfl) (fun b1 off1 cs1 ty1 fz1 ha1 hrd1=>?_)
  cases ha1
  have hrd1_0:=rd0 (hrd1 0 _ rfl)
  refine J_read0 1 rfl i.toNat (map_at hy) (by kernel_rfl) (fun b2 off2 cs2 ty2 fz2 ha2 hrd2=>?_)
  cases ha2
  have hrd2_0:=rd0 (hrd2 0 _ rfl)
  try simp only[aQ]
  refine J_skip (J_seq (J_block ?_))
  refine Zs [zR 0,zR 1] [14] [zI 5 i] ?_
  refine Zt [zR 0,zR 1,.rd 2 [] 0 2,.rd 3 [.r 0 (some (.string x))] 0 0,zR 4,zR 5,.rd 6 [] 0 2,.rd 7 [.r 1 (some (.string y))] 0 0,zR 8] [] [zB 24 (!x.toList==y.toList)] (oC hi0 (oC hlt2 (oC hrd1_0 (oC hi0 (oC (show i<(↑ys.length:Int) from by omega) (oC hrd2_0 oN)))))) ?_
  refine cC (t:=!x.toList==y.toList) (fun hxy=>?_) (fun hxy=>?_)
  ·have hxy2:x≠y:=fun h=>by subst h;simp at hxy
   refine Zs [zR 0] [24] [] ?_
   refine Yr [[]] (.bool false) fun a w s=>?_
   rw[decide_eq_false (fun h=>by subst h;rw[hx]at hy;exact hxy2 (Option.some.inj hy))]
   exact s.ret (by simp) [] [] rfl rfl
  ·have hxy2:x=y:=by
    have h1:x.toList=y.toList:=by simpa using hxy
    exact byte_inj h1
   refine J_skip (J_eb ?_)
   refine Zp [.rd 0 [] 0 1,zR 1] [24] [zI 13 (i+1)] (oC (show IntKind.i64.wrap (i+1)=i+1 from wrap_i64 (by omega) (by omega)) oN) ?_
   refine J_backx (i+1) [0,1,4,12,13] [] [] [0,1] ?_ ?_ (by kernel_rfl) rfl rfl rfl
   ·refine⟨by omega,by omega,?_⟩
    rw[←take_snoc hi0 hx,←take_snoc hi0 hy,hno,hxy2]
   ·omega
 ·have hie:i.toNat=xs.length:=by have:=of_decide_eq_false hlt;omega
  rw[hie,List.take_length,hle,List.take_length]at hno
  refine J_exit rfl ?_
  refine Zs [zR 0] [14,0,1,12,13] [zB 4 true] ?_
  refine Yr [[]] (.bool true) fun a w s=>?_
  rw[decide_eq_true hno]
  exact s.ret (by simp) [] [] rfl rfl
set_option maxHeartbeats 4000000 in
theorem jSame {w:World} {S:Nat→Prop} {ua ub:Option Addr} {n m c d:Nat} {v1 v2:ValT} (ha:Rep w S (.slice ua n c) (dStrs v1.set)) (hb:Rep w S (.slice ub m d) (dStrs v2.set)) (hl:v1.set.length≤4000000) (hl2:v2.set.length≤4000000) :
  Calls Tryz.prog 168 #[valA v1 (.slice ua n c),valA v2 (.slice ub m d)] w fun e w'=>Ret [] w S w' e (.bool (decide (v1=v2))) [] []:=by
 refine epG Tryz.func168 bd168 (args:=[valA v1 (.slice ua n c),valA v2 (.slice ub m d)]) (S:=S) (G:=[(_,dStrs v1.set),(_,dStrs v2.set)]) (by kernel_rfl) (.cons ha (.cons hb (.nil _ _))) ?_
 by_cases hk:v1.kind=v2.kind
 case neg=>
  refine Zv [.wr 0 [] 0,.wr 1 [] 0,zR 2] [] [0,1] (fun nu1=>[zP 2 (nu1 0),zP 3 (nu1 1),zB 4 false]) o0 (fun nu1=>[(nu1 0,.cells #[nI v1.kind,.string v1.text,nI v1.n,.slice ua n c] 64 (0,0)),(nu1 1,.cells #[nI v2.kind,.string v2.text,nI v2.n,.slice ub m d] 64 (0,0))]) (fun nu1=>?_)
  refine Zt [zR 0,.rd 1 [.o 0 none] 0 0,zR 2,.rd 3 [.o 1 none] 0 0,.rd 4 [] 0 7,zR 5,.rd 6 [] 1 0,.rd 7 [] 1 0,.rd 8 [] 1 0,.rd 9 [] 1 0,.rd 10 [] 1 0,zR 11,zR 12,.rd 13 [] 1 0,.rd 14 [] 1 0,.rd 15 [] 1 0,.rd 16 [] 1 0,.rd 17 [] 1 0,zR 18,zR 19,.rd 20 [] 1 0,.rd 21 [] 1 0,.rd 22 [] 1 0,.rd 23 [] 1 0,.wr 24 [] 1,zR 25,zR 26] [2,3] [] (oC (show(v1.kind==v2.kind)=false from by simp;omega) oN) ?_
  refine Yr [[]] (.bool false) fun a w s=>?_
  rw[decide_eq_false (fun h=>hk (by rw[h]))]
  exact s.ret (by simp) [] [] rfl rfl
 cases ht:(v1.text.toList==v2.text.toList)with
 | false=>
  refine Zv [.wr 0 [] 0,.wr 1 [] 0,zR 2] [] [0,1] (fun nu1=>[zP 2 (nu1 0),zP 3 (nu1 1),zB 4 false]) o0 (fun nu1=>[(nu1 0,.cells #[nI v1.kind,.string v1.text,nI v1.n,.slice ua n c] 64 (0,0)),(nu1 1,.cells #[nI v2.kind,.string v2.text,nI v2.n,.slice ub m d] 64 (0,0))]) (fun nu1=>?_)
  refine Zt [zR 0,.rd 1 [.o 0 none] 0 0,zR 2,.rd 3 [.o 1 none] 0 0,.rd 4 [] 0 6,zR 5,zR 6,.rd 7 [.o 0 none] 0 0,zR 8,.rd 9 [.o 1 none] 0 0,.rd 10 [] 0 7,zR 11,zR 12,.rd 13 [] 1 0,.rd 14 [] 1 0,.rd 15 [] 1 0,.rd 16 [] 1 0,.rd 17 [] 1 0,zR 18,zR 19,.rd 20 [] 1 0,.rd 21 [] 1 0,.rd 22 [] 1 0,.rd 23 [] 1 0,.wr 24 [] 1,zR 25,zR 26] [2,3] [] (oC (show(v1.kind==v2.kind)=true from by simp;omega) (oC (show(v1.text.toList==v2.text.toList)=false from by assumption) oN)) ?_
  refine Yr [[]] (.bool false) fun a w s=>?_
  rw[decide_eq_false (fun h=>by subst h;simp at ht)]
  exact s.ret (by simp) [] [] rfl rfl
 | true=>
 by_cases hn:v1.n=v2.n
 case neg=>
  refine Zv [.wr 0 [] 0,.wr 1 [] 0,zR 2] [] [0,1] (fun nu1=>[zP 2 (nu1 0),zP 3 (nu1 1),zB 4 false]) o0 (fun nu1=>[(nu1 0,.cells #[nI v1.kind,.string v1.text,nI v1.n,.slice ua n c] 64 (0,0)),(nu1 1,.cells #[nI v2.kind,.string v2.text,nI v2.n,.slice ub m d] 64 (0,0))]) (fun nu1=>?_)
  refine Zt ([zR 0,.rd 1 [.o 0 none] 0 0,zR 2,.rd 3 [.o 1 none] 0 0,.rd 4 [] 0 6,zR 5,zR 6,.rd 7 [.o 0 none] 0 0,zR 8,.rd 9 [.o 1 none] 0 0,.rd 10 [] 0 6]++Rds 11 14++[.rd 14 [.o 0 none] 0 0,zR 15,.rd 16 [.o 1 none] 0 0,.rd 17 [] 0 7,zR 18,zR 19,.rd 20 [] 1 0,.rd 21 [] 1 0,.rd 22 [] 1 0,.rd 23 [] 1 0,.wr 24 [] 1,zR 25,zR 26]) [2,3] [] (oC (show(v1.kind==v2.kind)=true from by simp;omega) (oC (show(v1.text.toList==v2.text.toList)=true from by assumption) (oC (show(v1.n==v2.n)=false from by simp;omega) oN))) ?_
  refine Yr [[]] (.bool false) fun a w s=>?_
  rw[decide_eq_false (fun h=>hn (by rw[h]))]
  exact s.ret (by simp) [] [] rfl rfl
 refine Zv [.wr 0 [] 0,.wr 1 [] 0,zR 2] [] [0,1] (fun nu1=>[zP 2 (nu1 0),zP 3 (nu1 1),zB 4 false]) o0 (fun nu1=>[(nu1 0,.cells #[nI v1.kind,.string v1.text,nI v1.n,.slice ua n c] 64 (0,0)),(nu1 1,.cells #[nI v2.kind,.string v2.text,nI v2.n,.slice ub m d] 64 (0,0))]) (fun nu1=>?_)
 refine jS [(0,true),(1,true),(2,true),(3,true),(4,true),(5,true),(6,true),(7,true),(8,true),(9,true),(10,true),(11,true),(12,true),(13,true),(14,true),(15,true),(16,true),(17,true),(18,true),(19,true),(20,true),(21,true),(22,true),(23,true),(24,false),(25,true),(26,true)] [] ?_
 refine Yp ([zR 0,.rd 1 [.o 0 none] 0 0,zR 2,.rd 3 [.o 1 none] 0 0,.rd 4 [] 0 6,zR 5,zR 6,.rd 7 [.o 0 none] 0 0,zR 8,.rd 9 [.o 1 none] 0 0,.rd 10 [] 0 6]++Rds 11 14++[.rd 14 [.o 0 none] 0 0,zR 15,.rd 16 [.o 1 none] 0 0,.rd 17 [] 0 6]++Rds 18 21++[.rd 21 [.o 0 none] 0 0,zR 22,.rd 23 [.o 1 none] 0 0]) [2,3] [zB 24 true,zS 26 ua n c,zS 28 ub m d] (oC (show(v1.kind==v2.kind)=true from by simp;omega) (oC (show(v1.text.toList==v2.text.toList)=true from by assumption) (oC (show(v1.n==v2.n)=true from by simp;omega) oN))) ?_
 refine Yc 207 #[.slice ua n c,.slice ub m d] (some 29) fun w S hG=>?_
 refine(equalS (hG.at 0 rfl) (hG.at 1 rfl) hl hl2).mono ?_
 rintro e1 w1 hR
 have hte:v1.text=v2.text:=byte_inj (by simpa using ht)
 have he:decide (v1.set=v2.set)=decide (v1=v2):=by
  by_cases hs:v1.set=v2.set
  ·rw[decide_eq_true hs,decide_eq_true (by cases v1;cases v2;simp_all)]
  ·rw[decide_eq_false hs,decide_eq_false (fun h=>hs (by rw[h]))]
 rw[he]at hR
 refine⟨_,_,_,hR,?_⟩
 try simp only[aQ]
 refine Ya [zR 25,zR 26] [29,24,26,28] [zB 4 (decide (v1=v2))] ?_
 refine JR_end ?_
 refine Yr [[]] (.bool (decide (v1=v2))) fun a w s=>?_
 exact s.ret (by simp) [] [] rfl rfl
theorem comsE_snoc {l:List EvT} {i:Int} {x:EvT} (hi:0≤i) (hx:l[i.toNat]?=some x):comsE (l.take (i+1).toNat)=if x.c.ops=[]then comsE (l.take i.toNat)else comsE (l.take i.toNat)++[x.c]:=by
 rw[←take_snoc hi hx,comsE,comsE,List.map_append,List.filter_append]
 split
 ·rename_i h
  simp[h]
 ·rename_i h
  simp[h]
set_option maxHeartbeats 4000000 in
theorem jCommits {w:World} {S:Nat→Prop} {ua:Option Addr} {n c:Nat} {l:List EvT} (h:Rep w S (.slice ua n c) (.sl 7 (l.map eEv))) (hl:l.length≤1000000) :
  Calls Tryz.prog 113 #[.slice ua n c] w fun e w'=>∃b m d,Ret [] w S w' e (.slice b m d) [] [(.slice b m d,.sl 3 ((comsE l).map eCom))]:=by
 have e1:=h.slen
 rw[List.length_map]at e1
 subst e1
 refine epG Tryz.func113 bd113 (args:=[.slice ua l.length c]) (S:=S) (G:=[(_,.sl 7 (l.map eEv))]) (by kernel_rfl) (.cons h (.nil _ _)) ?_
 refine J_stp (stp_accm eCom 35 3) ?_
 try simp only[aQ]
 refine Zs [zR 0] [] [zS 2 none 0 0] ?_
 refine Zs [zR 0] [] [zS 3 none 0 0] ?_
 refine J_seq ?_
 refine Zs (Rds 0 3) [0] [zS 6 ua l.length c,zI 7 (↑l.length:Int),zI 8 0] ?_
 refine J_block ?_
 refine J_loopx (fun z:AccI=>[zS 2 none 0 0,zS 3 z.a z.k z.c,zS 6 ua l.length c,zI 7 (↑l.length:Int),zI 8 z.i]) (fun z:AccI=>[]) (fun z:AccI=>[cAcc (.slice z.a z.k z.c) 35 3 ((comsE (l.take z.i.toNat)).map eCom)]) (fun z:AccI=>[(.slice ua l.length c,(D.sl 7 (List.map eEv l)))]) (fun z:AccI=>(l.length - z.i).toNat) (fun z:AccI=>(0≤z.i∧z.i≤l.length)) ⟨0,none,0,0⟩ [2,3,6,7,8] [] [0] [0] ?_ (by kernel_rfl) rfl rfl rfl ?_
 ·exact⟨by simp,by simp⟩
 rintro⟨i,av,k,cv⟩ ⟨hi0,hi⟩
 dsimp only at hi0 hi ⊢
 refine J_stpx (stp_acclen 0 rfl) fun _ hk=>?_
 have hk2:k≤l.length:=by
  rw[List.length_map,comsE]at hk
  have h1:=List.length_filter_le (fun c:ComT=>!c.ops.isEmpty) ((l.take i.toNat).map (·.c))
  rw[List.length_map,List.length_take]at h1
  omega
 refine Zs [zR 0] [] [zB 9 (decide (i<(↑l.length:Int)))] ?_
 refine J_seq ?_
 refine cC (t:=decide (i<(↑l.length:Int))) (fun hlt=>?_) (fun hlt=>?_)
 ·have hlt2:i<l.length:=of_decide_eq_true hlt
  obtain⟨x,hx⟩:∃x,l[i.toNat]?=some x:=⟨_,List.getElem?_eq_getElem (by omega)⟩
  have hsn:=comsE_snoc hi0 hx
  refine J_read4 0 rfl i.toNat (map_at hx) (by kernel_rfl) (fun b1 off1 cs1 ty1 fz1 a1_0 c1_0 a1_1 c1_1 a1_2 c1_2 a1_3 c1_3 ha1 hrd1=>?_)
  cases ha1
  have hrd1_0:=rd0 (hrd1 0 _ rfl)
  have hrd1_1:=hrd1 1 _ rfl
  have hrd1_2:=hrd1 2 _ rfl
  have hrd1_3:=hrd1 3 _ rfl
  have hrd1_4:=hrd1 4 _ rfl
  have hrd1_5:=hrd1 5 _ rfl
  have hrd1_6:=hrd1 6 _ rfl
  try simp only[aQ]
  refine J_skip (J_seq (J_block ?_))
  refine Zu [.rd 0 [] 0 2,.rd 1 [.r 0 (some (nI x.ses)),.r 0 (some (nI x.place)),.r 0 (some (.slice (a1_0,c1_0).fst ((List.map eI x.at').length) c1_0)),.r 0 (some (.slice (a1_1,c1_1).fst ((List.map eRead x.reads).length) c1_1)),.r 0 (some (.slice (a1_2,c1_2).fst ((List.map eI x.c.when).length) c1_2)),.r 0 (some (nI x.c.place)),.r 0 (some (.slice (a1_3,c1_3).fst ((List.map eOp x.c.ops).length) c1_3))] 0 0,.wr 2 [] 0,.wr 3 (hnO 0 7) 0] [(3,[])] [9] (fun nu1=>[zP 5 (nu1 0)]) o0 (fun nu1=>[(nu1 0,.cells #[nI x.ses,nI x.place,.slice (a1_0,c1_0).fst ((List.map eI x.at').length) c1_0,.slice (a1_1,c1_1).fst ((List.map eRead x.reads).length) c1_1,.slice (a1_2,c1_2).fst ((List.map eI x.c.when).length) c1_2,nI x.c.place,.slice (a1_3,c1_3).fst ((List.map eOp x.c.ops).length) c1_3] 200 (0,0))]) (fun nu1=>(oC hi0 (oC hlt2 (oC hrd1_0 (oC hrd1_1 (oC hrd1_2 (oC hrd1_3 (oC hrd1_4 (oC hrd1_5 (oC hrd1_6 oN)))))))))) (fun nu1=>?_)
  refine Zs [zR 0,zR 1,.rd 2 [.o 0 none] 0 0,zR 3,zR 4] [] [zB 16 (decide ((↑(List.map eOp x.c.ops).length:Int)>0))] ?_
  refine cC (t:=decide ((↑(List.map eOp x.c.ops).length:Int)>0)) (fun hop=>?_) (fun hop=>?_)
  ·have ho:x.c.ops≠[]:=fun h=>by rw[h]at hop;simp at hop
   rw[if_neg ho]at hsn
   refine jT [(0,true),(1,true),(2,true),(3,false),(4,false),(5,true)] [] ?_
   refine Ym [zR 0,zR 1,.rd 2 (hnO 0 3) 0 0,.wr 3 [] 0] [16] (fun nu2=>[zS 17 av k cv,zS 20 (sA (nu2 0) 0) 1 1]) o0 (fun nu2=>[(nu2 0,.cells #[.slice (a1_2,c1_2).fst ((List.map eI x.c.when).length) c1_2,nI x.c.place,.slice (a1_3,c1_3).fst ((List.map eOp x.c.ops).length) c1_3] 35 (0,0))]) [] (fun nu2=>?_)
   refine JR_appm 0 153 35 3 56 (.agg #[.slice none 0 0,.int .i64 0,.slice none 0 0]) (a0:=av) (len:=k) (cap0:=cv) (ax:=(some (⟨nu2 0,0,none⟩))) (m:=1) (c:=1) (dst:=(some 21)) [x.c] (by kernel_rfl) (by kernel_rfl) (by kernel_rfl) (by kernel_rfl) rfl (by decide) rfl (fun _ _ _ s=>src_one s 1 rfl rfl ⟨.inr (.inl (List.mem_of_getElem? (i:=3) rfl)),⟨.inl ⟨rfl,rfl⟩,⟨.inr (.inl (List.mem_of_getElem? (i:=4) rfl)),trivial⟩⟩⟩) (by simp only[maxLen];omega) (by omega) (fun av1 cv1=>?_)
   rw[←hsn]
   try simp only[aQ]
   refine Ya [zR 5] [21,17,20] [zS 3 av1 (k+1) cv1] ?_
   try simp only[aQ]
   refine JR_end ?_
   try simp only[aQ]
   refine J_eb ?_
   try simp only[aQ]
   refine Zp [.rd 0 [] 0 1,zR 1] [] [zI 8 (i+1)] (oC (show IntKind.i64.wrap (i+1)=i+1 from wrap_i64 (by omega) (by omega)) oN) ?_
   try simp only[aQ]
   refine J_backx ⟨i+1,_,k+1,_⟩ [2,3,6,7,8] [] [0] [0] ?_ ?_ (by kernel_rfl) rfl rfl rfl
   ·exact⟨by simp only;omega,by simp only;omega⟩
   ·simp only
    omega
  ·have ho:x.c.ops=[]:=List.length_eq_zero_iff.1 (by simpa using hop)
   rw[if_pos ho]at hsn
   refine J_skip (J_eb ?_)
   refine Zp [.rd 0 [] 0 1,zR 1] [16] [zI 8 (i+1)] (oC (show IntKind.i64.wrap (i+1)=i+1 from wrap_i64 (by omega) (by omega)) oN) ?_
   rw[←hsn]
   refine J_backx ⟨i+1,av,k,cv⟩ [2,3,6,7,8] [] [0] [0] ?_ ?_ (by kernel_rfl) rfl rfl rfl
   ·exact⟨by simp only;omega,by simp only;omega⟩
   ·simp only
    omega
 ·have hie:i.toNat=l.length:=by have:=of_decide_eq_false hlt;omega
  rw[hie,List.take_length]
  refine J_exit rfl ?_
  refine Zs [zR 0,zR 1] [9,3,6,7,8] [zS 2 av k cv] ?_
  refine Yr [[]] (.slice av k cv) fun a w s=>?_
  exact⟨_,_,_,(s.stp (stp_freeze 0 rfl)).ret (by simp) [] [1] rfl rfl⟩
end Go.Proofs.YtmkapocibaojdaaGreatDoor
end
