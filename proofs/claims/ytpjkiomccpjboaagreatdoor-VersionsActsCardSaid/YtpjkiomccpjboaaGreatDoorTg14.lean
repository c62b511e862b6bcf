/- Part 14 of the texts of a claim: Tx21 Copy RefV RefD DotsV BaseV VCheck Tx9. -/
import Derived.Stop.LaidErr
import Derived.Below
import Derived.Carry
import Derived.ChangeSame
import Derived.OpenShut
import Derived.ChangeSlices
import Derived.Test.YtpjkiomccpjboaaGreatDoorTg13
section
namespace Go.Sx
open Go
section fork3
variable {P:Program} {ops:Array Oper} {Q:Exit→Act→World→Prop}
def planR (ops:Array Oper):List (Nat×Bool)→Array Bool→Option (Array Bool)
 | [],listed=>some listed
 | (i,true)::rest,listed=>if ((Region.ready .any ops listed).contains i&&Region.free .any ops listed i)=true then planR ops rest (listed.setIfInBounds i true)else none
 | (_,false)::_,_=>none
def plan3 (ops:Array Oper) (rs:List (Nat×Bool)) (i:Nat) (q1 q2:List (Nat×Bool)) (j:Nat) (q3:List (Nat×Bool)) (listed:Array Bool):Bool:=match planR ops rs listed with
 | some l=>Region.ready .any ops l==[i,j]&&planF ops 0 q1 q2 (l.setIfInBounds i true)&&planOk ops q3 (l.setIfInBounds j true)
 | none=>false
def Both (P:Program) (ops:Array Oper) (Q:Exit→Act→World→Prop) (B i:Nat) (q1 q2:List (Nat×Bool)) (W:List (Nat×List Nat)) (a:Act) (w:World):Prop:=
 wpOp P ops Q i (fun a' w'=>BG B (W.lookup i) w w'∧PW P ops Q B true q1 (W.filter (·.1 != i)) a' w'∧PW P ops Q B true q2 (W.filter (·.1 != i)) a' w') a w
theorem wpAnyG_of_fork3 (hs:Region.noSelect ops=true) (hQ:∀c a d v w,Q (.panic c) (a.put d v) w→Q (.panic c) a w) {B:Nat} (W0:Nat→Option (List Nat)) {i j:Nat} {q1 q2 q3:List (Nat×Bool)} (hl2:q2.length=q1.length) (hl3:q3.length=q1.length) (W:List (Nat×List Nat)) :
  ∀(rs:List (Nat×Bool)) (listed:Array Bool) (a:Act) (w:World),plan3 ops rs i q1 q2 j q3 listed=true→Down .any ops listed→(∀j,listed.getD j true=false→W.lookup j=W0 j) →
   PW P ops (fun _ a w=>Both P ops Q B i q1 q2 W a w∧PW P ops Q B true ((j,false)::q3) W a w) B true rs W a w→wpAnyG P .any ops Q B W0 (rs.length+(q1.length+1)) listed a w
 | [],listed,a,w,hp,hdown,hW,h=>by
  simp only[plan3,planR,Bool.and_eq_true,beq_iff_eq]at hp
  obtain⟨⟨hr,hF⟩,hp3⟩:=hp
  obtain⟨h1,h2⟩:=h
  have hi:i∈Region.ready .any ops listed:=by rw[hr];simp
  have hj:j∈Region.ready .any ops listed:=by rw[hr];simp
  rw[List.length_nil,Nat.zero_add]
  refine⟨fun h0=>absurd h0 (by rw[hr];simp),fun k hk=>?_⟩
  rw[hr]at hk
  rcases List.mem_cons.1 hk with rfl|hk
  ·have hun:listed.getD k true=false:=(mem_ready.1 hi).1
   refine wpOp_mono (fun a' w' hh=>⟨?_,?_⟩) h1
   ·rw[←hW k hun]
    exact hh.1
   ·refine wpAnyG_of_fork hs hQ W0 0 q1 q2 _ _ _ _ hF hl2 (hdown.list hi) (fun l hl=>?_) hh.2.1 hh.2.2
    obtain⟨hkl,hl2⟩:=unlisted_after hl
    rw[lookup_filter_ne k l (Ne.symm hkl)]
    exact hW l hl2
  ·obtain rfl:=List.mem_singleton.1 hk
   have:=step_write hs hQ W0 hj hp3 hdown hW h2
   rw[hl3]at this
   exact this
 | (r,true)::rs,listed,a,w,hp,hdown,hW,h=>by
  have hp':((Region.ready .any ops listed).contains r&&Region.free .any ops listed r)=true∧plan3 ops rs i q1 q2 j q3 (listed.setIfInBounds r true)=true:=by
   simp only[plan3,planR]at hp ⊢
   split at hp
   ·rename_i l hl
    split at hl
    ·rename_i hc
     exact⟨hc,by rw[hl];exact hp⟩
    ·cases hl
   ·cases hp
  obtain⟨hc,hp'⟩:=hp'
  rw[Bool.and_eq_true]at hc
  obtain⟨hr,hf⟩:=hc
  obtain⟨o,v,us,ho,hy,hS,hd,hrest⟩:=h
  rw[List.length_cons,Nat.add_right_comm]
  refine wpAnyG_first (us:=us) ho (Region.noSelect_spec hs) (fun c a w=>hQ c a _ v w) (rs.length+(q1.length+1)) listed a w ?_ hdown (by simpa using hr) hy hS ?_
  ·intro k ok hok hki hun hno
   refine⟨Region.free_spec ho hf k ok hok hki hun hno,fun l hl=>?_⟩
   rw[←hW k hun]at hl
   exact hd rfl _ (mem_of_lookup hl)
  ·exact wpAnyG_of_fork3 hs hQ W0 hl2 hl3 W rs _ _ _ hp' (hdown.list (by simpa using hr)) (fun k hk=>hW k (unlisted_after hk).2) hrest
 | (_,false)::_,_,_,_,hp,_,_,_=>by simp[plan3,planR]at hp
def fork3Ok (ops:Array Oper) (rs:List (Nat×Bool)) (i:Nat) (q1 q2:List (Nat×Bool)) (j:Nat) (q3:List (Nat×Bool)):Bool:=
 Region.noSelect ops&&Nat.beq (rs.length+(q1.length+1)) ops.size&&Nat.beq q2.length q1.length&&Nat.beq q3.length q1.length&&plan3 ops rs i q1 q2 j q3 (Array.replicate ops.size false)
theorem wp_region_fork3 {id:Nat} {a:Act} {w:World} (hm:P.follows .mixedOrders=true) (hQ:∀c a d v w,Q (.panic c) (a.put d v) w→Q (.panic c) a w) {rs:List (Nat×Bool)} {i j:Nat} {q1 q2 q3:List (Nat×Bool)} (W:List (Nat×List Nat)) (hok:fork3Ok ops rs i q1 q2 j q3=true) {B:Nat}
  (h:PW P ops (fun _ a w=>Both P ops Q B i q1 q2 W a w∧PW P ops Q B true ((j,false)::q3) W a w) B true rs W a { w with drawn:=w.drawn+1 }):(Code.region id ops true).wp P Q a w:=by
 simp only[fork3Ok,Bool.and_eq_true]at hok
 obtain⟨⟨⟨⟨hs,hl1⟩,hl2⟩,hl3⟩,hp⟩:=hok
 have hlen:=Nat.eq_of_beq_eq_true hl1
 refine wp_region_any hm (wpAny_of_G (B:=B) (W:=fun j=>W.lookup j) _ _ _ _ ?_)
 rw[←hlen]
 rw[←hlen]at hp
 refine wpAnyG_of_fork3 hs hQ _ (Nat.eq_of_beq_eq_true hl2) (Nat.eq_of_beq_eq_true hl3) W rs _ _ _ hp (fun j o ho hl=>?_) (fun _ _=>rfl) h
 have hlt:=(Array.getElem?_eq_some_iff.1 ho).1
 rw[hlen]at hl
 simp[hlt]at hl
end fork3
section rule
variable {P:Program} {f:Func} {R:Act→World→Prop} {n:Nat} {k:List Itm} {E:Env} {h r:List (Nat×Obj)} {F:List (List Nat×World)} {Y:Ghost}
def JR2 (P:Program) (f:Func) (R:Act→World→Prop) (n:Nat) (ops:Array Oper) (L0:Nat) (i:Nat) (q1 q2:List (Nat×Bool)) (Wp:List (Nat×List Nat)) (k:List Itm) (E:Env) (h r:List (Nat×Obj)) (F:List (List Nat×World)) (Y:Ghost):Prop:=
 ∀B Hd fps a w,StF n E h r F Y a w fps→(∀b∈fps.flatten,b∈Hd∨B≤b)→RI Hd B L0 h r w→New B L0 h→okWp L0 Wp=true→Both P ops (wpK P f R k) B i q1 q2 (idsW Hd h Wp) a w
theorem J_fork3 (hm:P.follows .mixedOrders=true) {id:Nat} (pl:List Pl) (i j:Nat) (q1 q2 q3:List (Nat×Bool)) (Wp:List (Nat×List Nat)) (keep:List Nat) {E1:(Nat→Nat)→Env} {p1:(Nat→Nat)→List Prop} (hok:fork3Ok (rgOf f id) (pl.map Pl.key) i q1 q2 j q3=true) (hWp:okWp h.length Wp=true)
  (hr:∀nu,(packed (runReg P n nu f id h.length true pl Wp E h r keep),trivL (runReg P n nu f id h.length true pl Wp E h r keep))=(some (E1 nu,h,p1 nu,Wp),trivR (runReg P n nu f id h.length true pl Wp E h r keep))) (hp:∀nu,AllP (p1 nu))
  (H1:∀nu,JR2 P f R n (rgOf f id) h.length i q1 q2 Wp k (E1 nu) h r F Y) (H3:∀nu,JR P f R n (rgOf f id) h.length true ((j,false)::q3) Wp k (E1 nu) h r F Y):J P f R n (.c (.rg id true)::k) E h r F Y:=fun a w ⟨fps,s0⟩=>by
 have s:=s0.drew
 have hH:∀b∈fps.flatten,b∈fps.flatten∨w.heap.size≤b:=fun b hb=>.inl hb
 have hR:RI fps.flatten w.heap.size h.length h r { w with drawn:=w.drawn+1 }:=⟨fun i _ x hx=>⟨s0.own.own.lt (List.mem_of_getElem? hx),fun hm=>s0.gh.disj _ hm (List.mem_map.2 ⟨x,List.mem_of_getElem? hx,rfl⟩)⟩,fun x hx=>⟨s0.own.ro.lt hx,s0.gh.apart x hx⟩,Nat.le_refl _,Nat.le_refl _⟩
 have hN:New w.heap.size h.length h:=fun j hj x hx=>by rw[List.getElem?_eq_none hj]at hx;cases hx
 simp only[wpK,Sk.code]
 refine wp_region_fork3 (B:=w.heap.size) (rs:=pl.map Pl.key) hm (fun c a d v w hq=>absurd hq (wpK_panic _ _ _ _)) (idsW fps.flatten h Wp) hok ?_
 obtain⟨h2,h3⟩:=Prod.mk.inj (hr (fun j=>w.heap.size+j))
 unfold runReg at h2 h3
 split at h2
 ·rename_i E' x' W' p hrun
  rw[hrun]at h3
  simp only[packed,Option.some.injEq,Prod.mk.injEq]at h2
  obtain⟨e1,e2,e3,e4⟩:=h2
  have key:=run_PW (Q:=fun _ a w'=>Both P (rgOf f id) (wpK P f R k) w.heap.size i q1 q2 (idsW fps.flatten h Wp) a w'∧PW P (rgOf f id) (wpK P f R k) w.heap.size true ((j,false)::q3) (idsW fps.flatten h Wp) a w') (rest:=[]) pl Wp E ⟨h,0,[]⟩ E' x' W' p hrun (All_of p h3 (by rw[e3];exact hp _)) hWp a { w with drawn:=w.drawn+1 } s.ag s.own (fun j=>by simp) hR hN fun a' w' hA hO _ hR' hN' hd hW'=>?_
  ·rw[List.append_nil]at key
   exact key
  ·rw[e2]at hO hR' hN' hd
   have hA':Ag n (E1 fun j=>w.heap.size+j) a':=hA.sub (by rw[←e1];exact keepE_sub E' keep)
   have s':=s.go hA' hO hd
   exact⟨H1 _ w.heap.size fps.flatten fps a' w' s' hH hR' hN' hWp,H3 _ w.heap.size fps.flatten fps a' w' s' hH hR' hN' hWp⟩
 ·cases h2
theorem JR2_callp {S0:Nat→Prop} {C0:List Chunk} {G0:List (Value×D)} {id L0 i:Nat} {q1 q2:List (Nat×Bool)} {Wp:List (Nat×List Nat)} (hs:List Hn) (fid:FuncId) (args:Array Value) (dst:Option Tmp)
  (he:chkC (callOf P n (rgOf f id) h r E i hs)=(some (fid,args,dst),trivC (callOf P n (rgOf f id) h r E i hs),0))
  (C:∀w S,AllG w S G0→Calls P fid args w fun e w'=>∃v C' G',Ret [] w S w' e v C' G' ∧
   JR P f R n (rgOf f id) L0 true q1 (Wp.filter (·.1 != i)) k (E.put dst (.val v)) h r F ⟨S0,C0++C',G0++G'⟩∧JR P f R n (rgOf f id) L0 true q2 (Wp.filter (·.1 != i)) k (E.put dst (.val v)) h r F ⟨S0,C0++C',G0++G'⟩) :
  JR2 P f R n (rgOf f id) L0 i q1 q2 Wp k E h r F ⟨S0,C0,G0⟩:=by
 obtain⟨p,he,hp⟩:=chkC_sound he
 intro B Hd fps a w s hH hR hN hW
 refine callOf_sound he hp s ((C w (Sd ⟨S0,C0,G0⟩ h fps) s.gh.g).mono fun e w' hh=>?_)
 obtain⟨v,C',G',hRet,H1,H2⟩:=hh
 have hf:=hRet.fr
 refine⟨v,hRet.ret,fun E' hE a' hA=>⟨fun b hb hl=>hf.block b hb (by simp),?_⟩⟩
 subst hE
 rw[filter_idsW]
 have hRet':Ret (pick fps []).flatten w (Sd ⟨S0,C0,G0⟩ h fps) w' e v C' G':=hRet
 obtain⟨fps',h3,s'⟩:=s.called (cs:=[]) hA hRet'
 have hpk:pick C0 (others C0.length [])=C0:=by
  have h1:others C0.length []=List.range C0.length:=by simp[others]
  rw[h1,pick_all]
 rw[show(pick (Ghost.mk S0 C0 G0).C (others (Ghost.mk S0 C0 G0).C.length []))=C0 from hpk]at s'
 have hH':∀b∈(pick fps (others fps.length [])++fps').flatten,b∈Hd∨B≤b:=fun b hb=>by
  rw[List.flatten_append]at hb
  rcases List.mem_append.1 hb with hb|hb
  ·exact hH b (pick_flat_sub hb)
  ·rcases h3 b hb with h1|h1
   ·exact hH b (pick_flat_sub h1)
   ·exact .inr (Nat.le_trans hR.size h1)
 exact⟨H1 B Hd _ a' w' s' hH' ⟨hR.old,hR.ro,hR.len,Nat.le_trans hR.size hf.size⟩ hN (okWp_filter hW),H2 B Hd _ a' w' s' hH' ⟨hR.old,hR.ro,hR.len,Nat.le_trans hR.size hf.size⟩ hN (okWp_filter hW)⟩
end rule
end Go.Sx
end
section
namespace Go.Sx
open Go
structure CopyS where
 seen:Array Nat
 es:Array MapEntry
 clock:Nat
 ks:List ByteArray
 F:ByteArray→Value
end Go.Sx
namespace Go.Proofs.YtpjkiomccpjboaaGreatDoor
open Go Go.Sx
set_option maxHeartbeats 4000000 in
theorem acc_form {w:World} {S:Nat→Prop} {M:List Nat} {a:Option Addr} {n c e k:Nat} {rows:List (List D)} (hP:Pre w S M [cAcc (.slice a n c) e k rows]) (hne:rows≠[]):(∃g,a=some ⟨g,0,none⟩)∧n=rows.length:=by
 obtain⟨fps,hch,_⟩:=hP
 match fps,hch with
 | [fp],⟨⟨_,h⟩,_⟩=>
  rcases h with ⟨h,_⟩|⟨g,cap,cur,xs,h2,_⟩
  ·exact absurd h hne
  ·cases h2
   exact⟨⟨g,rfl⟩,rfl⟩
 | [],h=>exact h.elim
 | _::_::_,h=>exact h.2.elim
set_option maxHeartbeats 4000000 in
theorem cloneComs {w:World} {S:Nat→Prop} {M:List Nat} {a:Option Addr} {n c:Nat} {xs:List ComT} (hP:Pre w S M [cAcc (.slice a n c) 28 3 (xs.map eCom)]) (hne:xs≠[]) (hl:xs.length≤1000000) :
  Calls Tryz.prog 82 #[.slice a n c] w fun e w'=>∃a' c',Ret M w S w' e (.slice a' n c') [cAcc (.slice a n c) 28 3 (xs.map eCom),cAcc (.slice a' n c') 28 3 (xs.map eCom)] []:=by
 obtain⟨⟨g,rfl⟩,hn⟩:=acc_form hP (by simpa using hne)
 rw[List.length_map]at hn
 subst hn
 refine enG Tryz.func82 bd82 (args:=[.slice (some ⟨g,0,none⟩) xs.length c]) (S:=S) (G:=[]) (by kernel_rfl) hP (.nil _ _) ?_
 refine Zs [zR 0] [] [zS 2 none 0 0] ?_
 refine J_seq ?_
 refine Zs [zR 0,zR 1] [] [zB 4 false] ?_
 refine cF ?_
 refine J_skip ?_
 refine jS [(0,false),(1,true),(2,false),(3,true)] [] ?_
 refine Ym (id:=3) (rest:=[(2,false),(3,true)]) [.wr 0 [] 0,zR 1] [4,0] (fun nu1=>[zS 5 (sA (nu1 0) 0) 0 0,zS 6 (sA g 0) xs.length c]) (fun nu1=>[(nu1 0,.cells #[] 28 (0,0))]) [] (fun nu1=>?_)
 refine JR_acczm eCom 0 3 rfl (by kernel_rfl) (by decide) ?_
 refine JR_appm 1 43 28 3 56 (.agg #[.slice none 0 0,.int .i64 0,.slice none 0 0]) (a0:=(some (⟨nu1 0,0,none⟩))) (len:=0) (cap0:=0) (ax:=(some (⟨g,0,none⟩))) (m:=xs.length) (c:=c) (dst:=(some 7)) xs (by kernel_rfl) (by kernel_rfl) (by kernel_rfl) (by kernel_rfl) rfl (by decide) rfl (fun _ _ _ s=>src_acc s 0 rfl) (by simp only[maxLen];omega) (by omega) (fun av1 cv1=>?_)
 rw[Nat.zero_add]
 try simp only[aQ]
 refine Ya (id:=3) (rest:=[]) [zR 3] [7,5,6] [zS 2 av1 xs.length cv1] ?_
 try simp only[aQ]
 refine JR_end ?_
 try simp only[aQ]
 refine Yr [[]] (.slice av1 xs.length cv1) fun a w s=>?_
 exact⟨_,_,s.ret (by simp) [0,1] [] rfl rfl⟩
set_option maxHeartbeats 4000000 in
theorem alloc_keep (w:World) (o:Obj) {b:Nat} (h:b<w.heap.size):(w.alloc o).heap[b]?=w.heap[b]?:=by
 show(w.heap.push o)[b]?=_
 rw[Array.getElem?_push_lt h,Array.getElem?_eq_getElem h]
set_option maxHeartbeats 4000000 in
theorem alloc_last (w:World) (o:Obj):(w.alloc o).heap[w.heap.size]?=some o:=by
 show(w.heap.push o)[w.heap.size]?=_
 simp
set_option maxHeartbeats 4000000 in
theorem cloneMap {w:World} {S:Nat→Prop} {M:List Nat} {md:Nat} {ok:Value→Prop} {f:Value→Option Value} (hP:Pre w S M [cMapG md ok f]) :
  Calls Tryz.prog 81 #[.map (some md)] w fun e w'=>∃md',Ret M w S w' e (.map (some md')) [cMapG md ok f,cMapG md' ok f] []:=by
 obtain⟨fps,hch,rfl,hnd,hM⟩:=hP
 match fps,hch with
 | [fp],⟨⟨hfp,es,clock,hb,hm⟩,_⟩=>
  subst hfp
  have hlt:=(Array.getElem?_eq_some_iff.1 hb).1
  refine(AnyW.maps_Clone Tryz.cloneM md es clock w hb).mono ?_
  rintro e w' ⟨rfl,rfl⟩
  have hold:∀b,b<w.heap.size→(w.alloc (.map es clock)).heap[b]?=w.heap[b]?:=fun b hb=>alloc_keep w _ hb
  have hsz:(w.alloc (.map es clock)).heap.size=w.heap.size+1:=by
   show(w.heap.push _).size=_
   simp
  refine⟨w.heap.size,rfl,⟨rfl,rfl,rfl,by rw[hsz];omega,fun b hb2 _=>hold b hb2,Nat.le_refl _⟩,[[md],[w.heap.size]],⟨⟨rfl,es,clock,(hold md hlt).trans hb,hm⟩,⟨rfl,es,clock,alloc_last w _,hm⟩,trivial⟩,?_,fun b hb2=>?_,fun x hx=>by cases hx⟩
  ·simp
   omega
  ·simp only[List.flatten_cons,List.flatten_nil,List.append_nil,List.cons_append,List.nil_append,List.mem_cons,List.not_mem_nil,or_false]at hb2
   rcases hb2 with rfl|rfl
   ·exact⟨.inl (by simp),by rw[hsz];omega⟩
   ·exact⟨.inr (Nat.le_refl _),by rw[hsz];omega⟩
 | [],h=>exact h.elim
 | _::_::_,h=>exact h.2.elim
theorem left_key {es:Array MapEntry} {ks:List ByteArray} {F:ByteArray→Value} (hm:MapG (MapKept.IsKey .string) es (strG ks F)) {x:MapEntry} (hx:x∈es.toList):∃t,x.key=.string t∧t∈ks∧x.val=F t:=by
 have h1:=hm.key x hx
 have h2:=hm.val x hx
 cases hq:x.key <;> rw[hq]at h1 h2 <;> simp only[MapKept.IsKey]at h1
 rename_i t
 by_cases ht:t∈ks
 ·rw[strG_in ht]at h2
  exact⟨t,rfl,ht,(Option.some.inj h2).symm⟩
 ·rw[strG_out ht]at h2
  cases h2
theorem key_inj {l:List MapEntry} (hn:(l.map (·.key)).Nodup) {x e:MapEntry} (hx:x∈l) (he:e∈l) (h:x.key=e.key):x=e:=by
 obtain⟨i,hi⟩:=List.getElem?_of_mem hx
 obtain⟨j,hj⟩:=List.getElem?_of_mem he
 have hi2:(l.map (·.key))[i]?=some x.key:=by rw[List.getElem?_map,hi];rfl
 have hj2:(l.map (·.key))[j]?=some e.key:=by rw[List.getElem?_map,hj];rfl
 have hij:i=j:=(List.getElem?_inj (List.getElem?_eq_some_iff.1 hi2).1 hn).1 (hi2.trans (by rw[hj2,h]))
 subst hij
 rw[hi]at hj
 exact Option.some.inj hj
theorem seen_step {es:Array MapEntry} {clock:Nat} {ks ks2:List ByteArray} {F:ByteArray→Value} {seen:Array Nat} {en:MapEntry} {t:ByteArray} (hm:MapG (MapKept.IsKey .string) es (strG ks F)) (hst:MapKept.Stamped es clock) (hs:∀x∈es.toList,(seen.contains x.born=true↔keyB x.key∈ks2)) (he:en∈es.toList) (hk:en.key=.string t) :
  ∀x∈es.toList,((seen.push en.born).contains x.born=true↔keyB x.key∈ks2++[t]):=fun x hx=>by
 rw[contains_push,Bool.or_eq_true,hs x hx,List.mem_append,List.mem_singleton,beq_iff_eq]
 refine or_congr Iff.rfl ⟨fun h=>?_,fun h=>?_⟩
 ·rw[born_inj hst.2.1 hx he h,hk]
  rfl
 ·obtain⟨s,hs,_⟩:=left_key hm hx
  rw[hs]at h
  have hst':s=t:=h
  rw[key_inj hst.2.2 hx he (by rw[hs,hk,hst'])]
set_option maxHeartbeats 4000000 in
theorem copyRest {w:World} {S:Nat→Prop} {M:List Nat} {b mk md b2 mk2 md2:Nat} {ba ua:Option Addr} {p nb cb uc clock:Nat} {base:List Int} {es:Array MapEntry} {ks:List ByteArray} {F:ByteArray→Value} {L:List PutT} (hL:L.length≤1000000)
  (hm:MapG (MapKept.IsKey .string) es (strG ks F)) (hst:MapKept.Stamped es clock) (hnd:ks.Nodup) (hiff:∀t,t∈ks↔keyC L t≠[]) :
  J Tryz.prog Tryz.f46 (retR Tryz.prog Tryz.f46 fun e w'=>∃b2 mk2 md2 ua uc es2 clock2 ks2 F2,Ret M w S w' e (.pointer (some ⟨b2,0,none⟩)) (chV b mk md ba p nb cb clock es ks F L++chV b2 mk2 md2 ua p nb uc clock2 es2 ks2 F2 L) [(.slice ua nb uc,dInts base)] ∧
   MapG (MapKept.IsKey .string) es2 (strG ks2 F2)∧MapKept.Stamped es2 clock2∧ks2.Nodup∧∀t,t∈ks2↔keyC L t≠[]) Tryz.f46.ntmps [.c (.rg 2 false),.c (.block 0 (.loop (.seq (.rg 3 false) (.seq (.cond (.tmp 29) .skip (.exit 0)) (.block 1 (.seq (.rg 4 false) (.rg 5 true))))))),.c (.seq (.rg 6 false) .ret)]
   [(0,.val (.pointer (some ⟨b,0,none⟩))),(2,.val (.pointer none)),(3,.val (.pointer (some ⟨b2,0,none⟩)))] [(b,.cells #[.int .i64 (p:Nat),.slice ba nb cb,.map (some mk),.map (some md)] 133 (0,0)),(mk,.map es clock),(mk2,.map #[] 0),(b2,.cells #[.int .i64 (p:Nat),.slice ua nb uc,.map (some mk2),.map (some md2)] 133 (0,0))] [] [(M,w)]
   ⟨newS S M w,[cStar (ks.map fun t=>cAcc (F t) 28 3 ((keyC L t).map eCom)),cAcc (.slice ua nb uc) 3 1 (base.map eI),cMapG md okDot (dotSet (L.map dotP)),cMapG md2 okDot (dotSet (L.map dotP))],[(.slice ba nb cb,dInts base)]⟩:=by
 have hkl:=ks_len hm hnd
 refine J_stp (stp_freeze 1 rfl) ?_
 refine J_stp (stp_add (cStar (([]:List ByteArray).map fun t=>cAcc ((fun _:ByteArray=>Value.nilIface) t) 28 3 ((keyC L t).map eCom))) star_nil) ?_
 refine Nm [(cStar (List.map (fun t=>cAcc (F t) 28 3 (List.map eCom (keyC L t))) ks)),(cMapG md okDot (dotSet (List.map dotP L))),(cMapG md2 okDot (dotSet (List.map dotP L))),(cStar (List.map (fun t=>cAcc Value.nilIface 28 3 (List.map eCom (keyC L t))) []))] ?_
 try simp only[aQ]
 refine jT [(0,true),(1,true),(2,true),(3,true),(4,false)] [] ?_
 refine Ya (id:=2) (rest:=[(4,false)]) (Rds 0 3++[.rd 3 [.o 0 none] 0 0]) [0] [zV 26 (.map (some mk))] ?_
 refine JR_range (.o 1 none) mk 130 9 43 (some 27) (by kernel_rfl) (by kernel_rfl) (by kernel_rfl) rfl (fun bi1=>?_)
 refine JR_end (J_block ?_)
 have hm0:MapG (MapKept.IsKey .string) #[] (strG [] fun _=>.nilIface):=(MapG.empty _).congr fun k=>(strG_nil _ k).symm
 refine J_loopx (fun y:CopyS=>[zV 2 (.pointer none),zP 3 b2,zP 27 bi1]) (fun y:CopyS=>[(b,.cells #[nI (↑p:Int),.slice ba nb cb,.map (some mk),.map (some md)] 133 (0,0)),(mk,Obj.map es clock),(mk2,.map y.es y.clock),(b2,.cells #[nI (↑p:Int),.slice ua nb uc,.map (some mk2),.map (some md2)] 133 (0,0)),(bi1,.mapIter (some mk) clock y.seen clock)]) (fun y:CopyS=>[cStar (ks.map fun t=>cAcc (F t) 28 3 ((keyC L t).map eCom)),cMapG md okDot (dotSet (L.map dotP)),cMapG md2 okDot (dotSet (L.map dotP)),cStar (y.ks.map fun t=>cAcc (y.F t) 28 3 ((keyC L t).map eCom))]) (fun y:CopyS=>[(.slice ba nb cb,(dInts base)),(.slice ua nb uc,(D.sl 1 (List.map eI base)))]) (fun y:CopyS=>(leftOf es y.seen).size) (fun y:CopyS=>(MapG (MapKept.IsKey .string) y.es (strG y.ks y.F)∧MapKept.Stamped y.es y.clock∧y.ks.Nodup∧(∀t∈y.ks,t∈ks)∧∀x∈es.toList,(y.seen.contains x.born=true↔keyB x.key∈y.ks))) ⟨#[],#[],0,[],fun _=>.nilIface⟩ [2,3,27] [0,1,2,3,4] [0,1,2,3] [0,1] ?_ (by kernel_rfl) rfl rfl rfl ?_
 ·exact⟨hm0,MapKept.stamped_empty 0,by simp,by simp,by simp⟩
 rintro⟨seen,es2,clock2,ks2,F2⟩ ⟨hm2,hst2,hnd2,hsub,hseen⟩
 dsimp only at hm2 hst2 hnd2 hsub hseen ⊢
 refine jS [(0,false),(1,true)] [] ?_
 refine JR_next 4 _ (.o 1 none) _ (some 28) (by kernel_rfl) (by kernel_rfl) rfl rfl hst.1 (Nat.le_refl _) (fun hleft=>?_) (fun en hen=>?_)
 ·have hall:=all_seen es seen hleft
  have hiff2:∀t,t∈ks2↔keyC L t≠[]:=fun t=>by
   rw[←hiff t]
   refine⟨hsub t,fun ht=>?_⟩
   obtain⟨x,hx,rfl⟩:=List.mem_map.1 (hkl.mem_iff.2 ht)
   exact(hseen x hx).1 (hall x hx)
  refine Ya (id:=3) (rest:=[]) [zR 1] [28] [zB 29 false] ?_
  refine JR_end (J_seq ?_)
  refine cF ?_
  refine J_exit rfl ?_
  refine Zs [zR 0,zR 1] [29,3,27] [zP 2 b2] ?_
  refine Yr [[]] (.pointer (sA b2 0)) fun a w s=>?_
  exact⟨_,_,_,_,_,_,_,ks2,F2,((((s.hide 0 rfl).hide 0 rfl).hide 0 rfl).hide 0 rfl).ret (by simp) [4,5,0,1,7,6,3,2] [1] rfl rfl,hm2,hst2,hnd2,hiff2⟩
 ·obtain⟨hes,hns⟩:=mem_left hen
  obtain⟨t,hk,ht,hv⟩:=left_key hm hes
  obtain⟨i,hit⟩:=List.getElem?_of_mem ht
  have hshr:=left_shrinks es seen en hen
  have ht2:t∉ks2:=fun h=>by
   have:=(hseen en hes).2 (by rw[hk];exact h)
   rw[hns]at this
   cases this
  have hseen2:=seen_step hm hst hseen hes hk
  rw[hk,hv]
  refine Ya (id:=3) (rest:=[]) [zR 1] [28] [zB 29 true] ?_
  refine JR_end (J_seq ?_)
  refine cTt ?_
  refine J_skip (J_block ?_)
  refine jS [(0,false),(1,true),(2,true),(3,true),(4,true)] [] ?_
  refine JR_entry (.o 4 none) (.o 1 none) _ _ (some 30) (by kernel_rfl) rfl rfl hes hst.2.1 ?_
  rw[hk,hv]
  refine Ya (id:=4) (rest:=[]) (Rds 1 5) [30,29] [zV 4 (.string t),zV 5 (F t)] ?_
  refine JR_end ?_
  refine J_stp (stp_take (c:=cAcc (F t) 28 3 ((keyC L t).map eCom)) 0 i rfl (by rw[List.getElem?_map,hit];rfl)) ?_
  refine J_stpx (stp_accform 3 rfl) fun y hF=>?_
  obtain⟨av,nv,cv⟩:=y
  obtain⟨hF,hn⟩:=hF
  dsimp only at hF hn
  rw[hF]
  have hkc:=keyC_len L t
  refine Nm [(cMapG md okDot (dotSet (List.map dotP L))),(cMapG md2 okDot (dotSet (List.map dotP L))),(cStar (List.map (fun t=>cAcc (F2 t) 28 3 (List.map eCom (keyC L t))) ks2)),cAcc (.slice av nv cv) 28 3 (List.map eCom (keyC L t)),(cStar ((List.map (fun t=>cAcc (F t) 28 3 (List.map eCom (keyC L t))) ks).eraseIdx i))] ?_
  refine jT [(0,true),(1,true),(2,true),(3,true),(4,true),(5,true),(6,false),(7,false)] [(6,[]),(7,[2])] ?_
  refine Ya (id:=5) (rest:=[(6,false),(7,false)]) (Rds 0 3++[.rd 3 [.o 3 none] 0 0,zR 4,zR 5]) [] [zV 36 (.map (some mk2)),zV 37 (.string t),zS 38 av nv cv] ?_
  refine JR_call [] [3] 82 #[.slice av nv cv] (some 39) (by kernel_rfl) (by kernel_rfl) (by decide) (fun w S M hP hG _=>?_)
  refine(cloneComs (xs:=keyC L t) hP ((hiff t).1 ht) (by omega)).mono ?_
  rintro e3 w3 ⟨a3,c3,hR⟩
  refine⟨_,_,_,hR,?_⟩
  try simp only[aQ]
  refine JRg_puts 2 mk2 130 9 43 (MapKept.IsKey TypeDesc.string) (.string t) (.slice a3 nv c3) none (by kernel_rfl) (by kernel_rfl) (by kernel_rfl) keyOk_9 (by first|exact⟨_,_,_,rfl⟩|simp[MapKept.IsKey]) rfl hm2 (fun es3 clock3 hm3 hsz3 hst3=>?_)
  try simp only[aQ]
  refine JR_end ?_
  try simp only[aQ]
  refine J_eb ?_
  try simp only[aQ]
  refine Nm [(cMapG md okDot (dotSet (List.map dotP L))),(cMapG md2 okDot (dotSet (List.map dotP L))),(cStar (List.map (fun t=>cAcc (F2 t) 28 3 (List.map eCom (keyC L t))) ks2)),(cStar ((List.map (fun t=>cAcc (F t) 28 3 (List.map eCom (keyC L t))) ks).eraseIdx i)),cAcc (.slice av nv cv) 28 3 (List.map eCom (keyC L t)),cAcc (.slice a3 nv c3) 28 3 (List.map eCom (keyC L t))] ?_
  have hE1:(ks.map fun t=>cAcc (F t) 28 3 ((keyC L t).map eCom))[i]?=some (cAcc (.slice av nv cv) 28 3 ((keyC L t).map eCom)):=by
   rw[List.getElem?_map,hit]
   show some (cAcc (F t) _ 3 _)=_
   rw[hF]
  refine J_stp (stp_join 4 3 i (cs':=ks.map fun t=>cAcc (F t) 28 3 ((keyC L t).map eCom)) rfl rfl (by decide) hE1 rfl) ?_
  have hE2:=map_new (t:=t) (Q:=fun s=>cAcc (F2 s) 28 3 ((keyC L s).map eCom)) (Q':=fun s=>cAcc (upd F2 t (.slice a3 nv c3) s) 28 3 ((keyC L s).map eCom)) (ks:=ks2) fun s hs=>by
   have hne:s≠t:=fun he=>ht2 (he ▸ hs)
   show cAcc (upd F2 t (.slice a3 nv c3) s) _ 3 _=cAcc (F2 s) _ 3 _
   rw[upd_ne _ _ hne]
  refine Nm [(cMapG md okDot (dotSet (List.map dotP L))),(cMapG md2 okDot (dotSet (List.map dotP L))),(cStar (List.map (fun t=>cAcc (F2 t) 28 3 (List.map eCom (keyC L t))) ks2)),cAcc (.slice a3 nv c3) 28 3 (List.map eCom (keyC L t)),(cStar (List.map (fun t=>cAcc (F t) 28 3 (List.map eCom (keyC L t))) ks))] ?_
  refine J_stp (stp_join 3 2 ks2.length (cs':=(ks2++[t]).map fun s=>cAcc (upd F2 t (.slice a3 nv c3) s) 28 3 ((keyC L s).map eCom)) rfl rfl (by decide) (by
   rw[List.getElem?_map,show(ks2++[t])[ks2.length]?=some t by simp]
   show some (cAcc (upd F2 t (.slice a3 nv c3) t) _ 3 _)=_
   rw[upd_at]) hE2) ?_
  refine Nm [(cMapG md okDot (dotSet (List.map dotP L))),(cMapG md2 okDot (dotSet (List.map dotP L))),(cStar (List.map (fun t=>cAcc (F t) 28 3 (List.map eCom (keyC L t))) ks)),(cStar (List.map (fun s=>cAcc (upd F2 t (Value.slice a3 nv c3) s) 28 3 (List.map eCom (keyC L s))) (ks2++[t])))] ?_
  refine J_backx ⟨seen.push en.born,_,_,ks2++[t],upd F2 t (.slice a3 nv c3)⟩ [2,3,27] [0,1,2,3,4] [2,0,1,3] [0,1] ?_ ?_ (by kernel_rfl) rfl rfl rfl
  ·refine⟨hm3.congr (strG_new ht2),hst3 hst2,List.nodup_append.2 ⟨hnd2,by simp,fun a ha b hb=>?_⟩,fun s hs=>?_,hseen2⟩
   ·rw[List.mem_singleton]at hb
    subst hb
    exact fun he=>ht2 (by rw[←he];exact ha)
   ·rcases List.mem_append.1 hs with hs|hs
    ·exact hsub s hs
    ·rw[List.mem_singleton.1 hs]
     exact ht
  ·exact hshr
set_option maxHeartbeats 4000000 in
theorem vCopy {w:World} {S:Nat→Prop} {M:List Nat} {b mk md:Nat} {ba:Option Addr} {p nb cb clock:Nat} {base:List Int} {es:Array MapEntry} {ks:List ByteArray} {F:ByteArray→Value} {L:List PutT}
  (hP:Pre w S M (chV b mk md ba p nb cb clock es ks F L))
  (hb:Rep w S (.slice ba nb cb) (dInts base)) (hbl:base.length≤1000000) (hL:L.length≤1000000)
  (hm:MapG (MapKept.IsKey .string) es (strG ks F)) (hst:MapKept.Stamped es clock) (hnd:ks.Nodup) (hiff:∀t,t∈ks↔keyC L t≠[]) :
  Calls Tryz.prog 46 #[.pointer (some ⟨b,0,none⟩)] w fun e w'=>∃b2 mk2 md2 ua uc es2 clock2 ks2 F2,Ret M w S w' e (.pointer (some ⟨b2,0,none⟩)) (chV b mk md ba p nb cb clock es ks F L++chV b2 mk2 md2 ua p nb uc clock2 es2 ks2 F2 L) [(.slice ua nb uc,dInts base)] ∧
   MapG (MapKept.IsKey .string) es2 (strG ks2 F2)∧MapKept.Stamped es2 clock2∧ks2.Nodup∧∀t,t∈ks2↔keyC L t≠[]:=by
 refine enG Tryz.func46 bd46 (args:=[.pointer (some ⟨b,0,none⟩)]) (S:=S) (G:=[(_,dInts base)]) (by kernel_rfl) hP (.cons hb (.nil _ _)) ?_
 refine J_show 0 rfl ?_
 refine J_show 0 rfl ?_
 refine Zs [zR 0] [] [zV 2 (.pointer none)] ?_
 refine J_seq ?_
 refine J_fork3 mixed [.rd 0 [] 0 0,.rd 1 [] 0 0,.rd 2 [] 0 0,.rd 3 [.o 0 none] 0 0,.rd 4 [] 0 0,.rd 5 [] 0 0,.rd 6 [] 0 0,.rd 7 [.o 0 none] 0 0,.rd 10 [] 0 0,.rd 11 [] 0 0,.rd 12 [] 0 0,.rd 13 [.o 0 none] 0 0] 8 9 [(9,false),(14,false),(15,true),(16,false),(17,true)] [(14,false),(9,false),(15,true),(16,false),(17,true)] [(8,false),(14,false),(15,true),(16,false),(17,true)] [(14,[])] [0,2,9,13,19] (E1:=fun _=>[(0,.val (.pointer (some (⟨b,0,none⟩)))),(2,.val (.pointer none)),(9,.val (.int .i64 (↑p:Int))),(13,.val (.slice ba nb cb)),(19,.val (.map (some md)))]) (p1:=fun _=>[]) (by kernel_rfl) (by kernel_rfl) (fun _=>by kernel_rfl) (fun _=>trivial) (fun _=>?_) (fun _=>?_)
 ·refine JR2_callp [] 80 #[.slice ba nb cb] (some 14) (by kernel_rfl) fun w S hG=>?_
  refine(cloneInts (hG.at 0 rfl) hbl).mono ?_
  rintro e1 w1 ⟨ua,uc,hR⟩
  refine⟨_,_,_,hR,?_,?_⟩
  ·try simp only[aQ]
   refine Ym (id:=1) (rest:=[(14,false),(15,true),(16,false),(17,true)]) [.wr 9 [] 0] [13] (fun nu1=>[zV 15 (.map (some (nu1 0)))]) (fun nu1=>[(b,.cells #[nI (↑p:Int),.slice ba nb cb,.map (some mk),.map (some md)] 133 (0,0)),(mk,Obj.map es clock),(nu1 0,Obj.map #[] 0)]) [(14,[])] (fun nu1=>?_)
   try simp only[aQ]
   refine JR_call [] [1] 81 #[.map (some md)] (some 20) (by kernel_rfl) (by kernel_rfl) (by decide) (fun w S M hP hG _=>?_)
   refine(cloneMap hP).mono ?_
   rintro e2 w2 ⟨md2,hR⟩
   refine⟨_,_,_,hR,?_⟩
   try simp only[aQ]
   refine Ym (id:=1) (rest:=[]) [zR 15,.wr 16 [] 0,zR 17] [20,15,14,9,19] (fun nu2=>[zP 3 (nu2 0)]) (fun nu2=>[(b,.cells #[nI (↑p:Int),.slice ba nb cb,.map (some mk),.map (some md)] 133 (0,0)),(mk,Obj.map es clock),(nu1 0,Obj.map #[] 0),(nu2 0,.cells #[nI (↑p:Int),.slice ua nb uc,.map (some (nu1 0)),.map (some md2)] 133 (0,0))]) [] (fun nu2=>?_)
   try simp only[aQ]
   refine JR_end ?_
   try simp only[aQ]
   refine J_seq ?_
   try simp only[aQ]
   refine J_seq ?_
   try simp only[aQ]
   refine Nm [(cStar (List.map (fun t=>cAcc (F t) 28 3 (List.map eCom (keyC L t))) ks)),cAcc (.slice ua nb uc) 3 1 (List.map eI base),(cMapG md okDot (dotSet (List.map dotP L))),(cMapG md2 okDot (dotSet (List.map dotP L)))] ?_
   refine J_cut (E':=[zV 0 (.pointer (some ⟨b,0,none⟩)),zV 2 (.pointer none),zV 3 (.pointer (some ⟨nu2 0,0,none⟩))]) (h':=[_,_,_,_]) (C':=[_,_,_,_]) (G':=[_]) [0,2,3] [0,1,2,3] [0,1,2,3] [0] (by kernel_rfl) rfl rfl rfl ?_
   exact copyRest hL hm hst hnd hiff
  ·refine JR_call [] [1] 81 #[.map (some md)] (some 20) (by kernel_rfl) (by kernel_rfl) (by decide) (fun w S M hP hG _=>?_)
   refine(cloneMap hP).mono ?_
   rintro e2 w2 ⟨md2,hR⟩
   refine⟨_,_,_,hR,?_⟩
   try simp only[aQ]
   refine Ym (id:=1) (rest:=[]) [.wr 9 [] 0,zR 15,.wr 16 [] 0,zR 17] [20,14,9,13,19] (fun nu1=>[zP 3 (nu1 1)]) (fun nu1=>[(b,.cells #[nI (↑p:Int),.slice ba nb cb,.map (some mk),.map (some md)] 133 (0,0)),(mk,Obj.map es clock),(nu1 0,Obj.map #[] 0),(nu1 1,.cells #[nI (↑p:Int),.slice ua nb uc,.map (some (nu1 0)),.map (some md2)] 133 (0,0))]) [] (fun nu1=>?_)
   try simp only[aQ]
   refine JR_end ?_
   try simp only[aQ]
   refine J_seq ?_
   try simp only[aQ]
   refine J_seq ?_
   try simp only[aQ]
   refine Nm [(cStar (List.map (fun t=>cAcc (F t) 28 3 (List.map eCom (keyC L t))) ks)),cAcc (.slice ua nb uc) 3 1 (List.map eI base),(cMapG md okDot (dotSet (List.map dotP L))),(cMapG md2 okDot (dotSet (List.map dotP L)))] ?_
   refine J_cut (E':=[zV 0 (.pointer (some ⟨b,0,none⟩)),zV 2 (.pointer none),zV 3 (.pointer (some ⟨nu1 1,0,none⟩))]) (h':=[_,_,_,_]) (C':=[_,_,_,_]) (G':=[_]) [0,2,3] [0,1,2,3] [0,1,2,3] [0] (by kernel_rfl) rfl rfl rfl ?_
   exact copyRest hL hm hst hnd hiff
 ·refine Ym (id:=1) (rest:=[(8,false),(14,false),(15,true),(16,false),(17,true)]) [.wr 9 [] 0] [] (fun nu1=>[(15,.val (.map (some (nu1 0))))]) (fun nu1=>[(b,.cells #[.int .i64 (↑p:Int),.slice ba nb cb,.map (some mk),.map (some md)] 133 (0,0)),(mk,Obj.map es clock),(nu1 0,Obj.map #[] 0)]) [(14,[])] (fun nu1=>?_)
  refine Yc 80 #[.slice ba nb cb] (some 14) fun w S hG=>?_
  refine(cloneInts (hG.at 0 rfl) hbl).mono ?_
  rintro e1 w1 ⟨ua,uc,hR⟩
  refine⟨_,_,_,hR,?_⟩
  try simp only[aQ]
  refine JR_call [] [1] 81 #[.map (some md)] (some 20) (by kernel_rfl) (by kernel_rfl) (by decide) (fun w S M hP hG _=>?_)
  refine(cloneMap hP).mono ?_
  rintro e2 w2 ⟨md2,hR⟩
  refine⟨_,_,_,hR,?_⟩
  try simp only[aQ]
  refine Ym (id:=1) (rest:=[]) [zR 15,.wr 16 [] 0,zR 17] [20,14,15,9,13,19] (fun nu2=>[zP 3 (nu2 0)]) (fun nu2=>[(b,.cells #[nI (↑p:Int),.slice ba nb cb,.map (some mk),.map (some md)] 133 (0,0)),(mk,Obj.map es clock),(nu1 0,Obj.map #[] 0),(nu2 0,.cells #[nI (↑p:Int),.slice ua nb uc,.map (some (nu1 0)),.map (some md2)] 133 (0,0))]) [] (fun nu2=>?_)
  try simp only[aQ]
  refine JR_end ?_
  try simp only[aQ]
  refine J_seq ?_
  try simp only[aQ]
  refine J_seq ?_
  try simp only[aQ]
  refine Nm [(cStar (List.map (fun t=>cAcc (F t) 28 3 (List.map eCom (keyC L t))) ks)),cAcc (.slice ua nb uc) 3 1 (List.map eI base),(cMapG md okDot (dotSet (List.map dotP L))),(cMapG md2 okDot (dotSet (List.map dotP L)))] ?_
  refine J_cut (E':=[zV 0 (.pointer (some ⟨b,0,none⟩)),zV 2 (.pointer none),zV 3 (.pointer (some ⟨nu2 0,0,none⟩))]) (h':=[_,_,_,_]) (C':=[_,_,_,_]) (G':=[_]) [0,2,3] [0,1,2,3] [0,1,2,3] [0] (by kernel_rfl) rfl rfl rfl ?_
  exact copyRest hL hm hst hnd hiff
end Go.Proofs.YtpjkiomccpjboaaGreatDoor
end
section
namespace Go.Sx
open Go
theorem ofKey_kind {key:ByteArray} {l:List ComT} {x:DoneT} (h:x∈ofKey key l):x.o.kind=kindOf (opsOf key l):=by simpa using(List.mem_filter.1 h).2
def livesU (L P:List DoneT):List DoneT:=P.filter fun a=>!a.o.remove&&!goneB L a.o.text a.d
theorem livesU_snoc (L P:List DoneT) (x:DoneT):livesU L (P++[x])=livesU L P++if (!x.o.remove&&!goneB L x.o.text x.d)=true then [x]else []:=by
 rw[livesU,livesU,List.filter_append]
 congr 1
 cases hb:(!x.o.remove&&!goneB L x.o.text x.d) <;> simp[List.filter,hb]
structure ValS where
 i:Int
 kd:Int
 text:ByteArray
 n:Int
 set:List ByteArray
 a:Option Addr
 m:Nat
 c:Nat
structure DotR where
 i:Int
 a:Option Addr
 n:Nat
 c:Nat
end Go.Sx
namespace Go.Proofs.YtpjkiomccpjboaaGreatDoor
open Go Go.Sx
set_option maxHeartbeats 4000000 in
theorem rValueOf {w:World} {S:Nat→Prop} {a:Option Addr} {n c:Nat} {key:ByteArray} {l:List ComT} (h:Rep w S (.slice a n c) (.sl 3 (l.map eCom))) (hl:l.length≤300000) (hc:(valFault key l).code=0) :
  Calls Tryz.prog 28 #[.string key,.slice a n c] w fun e w'=>∃ua un uc,Ret [] w S w' e (valA (Sx.valOf key l) (.slice ua un uc)) [] [(.slice ua un uc,dStrs (Sx.valOf key l).set)]:=by
 refine epG Tryz.func28 bd28 (args:=[.string key,.slice a n c]) (S:=S) (G:=[(_,.sl 3 (l.map eCom))]) (by kernel_rfl) (.cons h (.nil _ _)) ?_
 have hf:(listFault l).code=0:=by
  have h1:=allRight hc
  rw[listFault_none h1.2]
 have hfin:∀x∈ofKey key l,(x.o.kind=1∨x.o.kind=2∨x.o.kind=3)∧(-1099511627776≤x.o.n∧x.o.n≤1099511627776)∧x.o.dots.length≤1000000:=fun x hx=>by
  obtain⟨p,hp⟩:=fine_mem hc (mem_ofKey hx)
  have:=opErr_fine hp
  omega
 have hlk:=ofKey_len hc
 refine Zv [.wr 0 [] 0] [] [] (fun nu1=>[zP 4 (nu1 0)]) (fun nu1=>[(nu1 0,.cells #[nI 0,.string (ByteArray.mk #[]),nI 0,.slice none 0 0] 47 (0,0))]) (fun nu1=>?_)
 refine jS [(0,true),(1,true),(2,false),(3,true)] [] ?_
 refine Ya (id:=1) (rest:=[(2,false),(3,true)]) [zR 0,zR 1] [0,1] [zV 10 (.string key),zS 11 a n c] ?_
 refine Yc 70 #[.string key,.slice a n c] (some 12) fun w S hG=>?_
 refine(rOpsOf (hG.at 0 rfl) hl hf).mono ?_
 rintro e1 w1 ⟨a1,n1,c1,hR⟩
 refine⟨_,_,_,hR,?_⟩
 try simp only[aQ]
 refine Ya (id:=1) (rest:=[]) [zR 3] [12,10,11] [zS 5 a1 n1 c1] ?_
 refine JR_end ?_
 refine Zv [zR 0,.wr 1 [] 0,.wr 2 (hnO 1 4) 0] [(2,[])] [] (fun nu2=>[zP 6 (nu2 0)]) (fun nu2=>[(nu1 0,.cells #[nI 0,.string (ByteArray.mk #[]),nI 0,.slice none 0 0] 47 (0,0)),(nu2 0,.cells #[nI 0,.string (ByteArray.mk #[]),nI 0,.slice none 0 0] 47 (0,0))]) (fun nu2=>?_)
 refine J_seq ?_
 refine Zs [zR 0] [] [zI 7 0] ?_
 refine J_block ?_
 refine J_stpx (stp_replen 1 rfl) fun _ hn1=>?_
 rw[List.length_map]at hn1
 subst hn1
 have hval:Sx.valOf key l=⟨kindOf (opsOf key l),if kindOf (opsOf key l)=1 then lastText (ofKey key l)else ByteArray.mk #[],if kindOf (opsOf key l)=2 then sumN (ofKey key l)else 0,if kindOf (opsOf key l)=3 then setOf ((livesU (ofKey key l) (ofKey key l)).map (·.o.text))else []⟩:=rfl
 have hemp:ofKey key l=[]→kindOf (opsOf key l)=0:=fun h0=>by
  cases ho:opsOf key l with
  | nil=>rfl
  | cons x r=>
   have:x∈ofKey key l:=List.mem_filter.2 ⟨by rw[ho];exact List.mem_cons_self ..,by rw[ho];simp[kindOf]⟩
   rw[h0]at this
   cases this
 have hkd:=fun(x:DoneT) (hx:x∈ofKey key l)=>ofKey_kind hx
 rw[hval]
 generalize kindOf (opsOf key l)=K at hkd hemp
 generalize ofKey key l=L at hfin hlk hkd hemp
 refine J_stp (stp_add (cRep (.slice none 0 0) (dStrs [])) fun _ _=>⟨rfl,.nil⟩) ?_
 refine Nm [(cRep (Value.slice none 0 0) (dStrs []))] ?_
 refine J_loopx (fun y:ValS=>[zP 4 (nu1 0),zS 5 a1 L.length c1,zP 6 (nu2 0),zI 7 y.i]) (fun y:ValS=>[(nu1 0,.cells #[nI 0,.string (ByteArray.mk #[]),nI 0,.slice none 0 0] 47 (0,0)),(nu2 0,.cells #[nI y.kd,.string y.text,nI y.n,.slice y.a y.m y.c] 47 (0,0))]) (fun y:ValS=>[cRep (.slice y.a y.m y.c) (dStrs y.set)]) (fun y:ValS=>[(.slice a n c,(D.sl 3 (List.map eCom l))),(.slice a1 L.length c1,(D.sl 11 (List.map eDone L)))]) (fun y:ValS=>(L.length - y.i).toNat) (fun y:ValS=>(0≤y.i∧y.i≤L.length∧y.kd=(if y.i=0 then 0 else K)∧y.text=(if K=1 then lastText (L.take y.i.toNat)else ByteArray.mk #[])∧y.n=(if K=2 then sumN (L.take y.i.toNat)else 0)∧y.set=(if K=3 then setOf ((livesU L (L.take y.i.toNat)).map (·.o.text))else [])∧GoodS y.a y.c)) ⟨0,0,ByteArray.mk #[],0,[],none,0,0⟩ [4,5,6,7] [0,1] [0] [0,1] ?_ (by kernel_rfl) rfl rfl rfl ?_
 ·exact⟨by simp,by simp,by simp,by split <;> rfl,by split <;> rfl,by split <;> rfl,.inl ⟨rfl,rfl⟩⟩
 rintro⟨i,kd,tx,m,st,av,mv,cv⟩ ⟨hi0,hi,hkd2,htx,hm,hst,hg⟩
 dsimp only at hi0 hi hkd2 htx hm hst hg ⊢
 refine J_seq ?_
 refine Zs (Rds 0 4) [] [zB 17 (decide (i<(↑L.length:Int)))] ?_
 refine cC (t:=decide (i<(↑L.length:Int))) (fun hlt=>?_) (fun hlt=>?_)
 ·have hlt2:i<L.length:=by simpa using hlt
  obtain⟨x,hx⟩:∃x,L[i.toNat]?=some x:=⟨_,List.getElem?_eq_getElem (by omega)⟩
  have hxm:=List.mem_of_getElem? hx
  have hxk:=hkd x hxm
  have hxf:=hfin x hxm
  have hs:=sumN_le (p:=L) (fun z hz=>(hfin z hz).2.1) i.toNat
  have hi1:¬i+1=0:=by omega
  refine J_read1 1 rfl i.toNat (map_at hx) (by kernel_rfl) (fun b1 off1 cs1 ty1 fz1 a1_0 c1_0 ha1 hrd1=>?_)
  cases ha1
  have hrd1_0:=rd0 (hrd1 0 _ rfl)
  have hrd1_1:=hrd1 1 _ rfl
  have hrd1_2:=hrd1 2 _ rfl
  have hrd1_3:=hrd1 3 _ rfl
  have hrd1_4:=hrd1 4 _ rfl
  have hrd1_5:=hrd1 5 _ rfl
  have hrd1_6:=hrd1 6 _ rfl
  have hrd1_7:=hrd1 7 _ rfl
  have hrd1_8:=hrd1 8 _ rfl
  have hrd1_9:=hrd1 9 _ rfl
  have hrd1_10:=hrd1 10 _ rfl
  by_cases h1:K=1
  ·have h2:¬K=2:=by omega
   have h3:¬K=3:=by omega
   rw[h1]at hxk
   rw[if_neg h2]at hm
   rw[if_neg h3]at hst
   try simp only[aQ]
   refine J_skip (J_seq (J_block ?_))
   refine Zu [zR 0,zR 1,.rd 2 [] 0 2,zR 3,.rd 4 [.r 0 (some (nI x.o.no)),.r 0 (some (.string x.o.key)),.r 0 (some (nI x.o.kind)),.r 0 (some (.string x.o.text)),.r 0 (some (nI x.o.n)),.r 0 (some (.bool x.o.remove)),.r 0 (some (.slice (a1_0,c1_0).fst ((List.map eDot x.o.dots).length) c1_0))] 0 0,.wr 5 [] 0,.wr 6 (hnO 2 7) 0] [(6,[])] [17] (fun nu3=>[zP 8 (nu3 0)]) (fun nu3=>[(nu1 0,.cells #[nI 0,.string (ByteArray.mk #[]),nI 0,.slice none 0 0] 47 (0,0)),(nu2 0,.cells #[nI kd,.string tx,nI m,.slice av mv cv] 47 (0,0)),(nu3 0,.cells #[nI x.o.no,.string x.o.key,nI x.o.kind,.string x.o.text,nI x.o.n,.bool x.o.remove,.slice (a1_0,c1_0).fst ((List.map eDot x.o.dots).length) c1_0] 24 (0,0))]) (fun nu3=>[0≤i,i<(↑L.length:Int),cs1[off1+i.toNat*11]?=some (nI x.o.no),cs1[off1+i.toNat*11+(1:Nat)]?=some (Value.string x.o.key),cs1[off1+i.toNat*11+(2:Nat)]?=some (nI x.o.kind),cs1[off1+i.toNat*11+(3:Nat)]?=some (Value.string x.o.text),cs1[off1+i.toNat*11+(4:Nat)]?=some (nI x.o.n),cs1[off1+i.toNat*11+(5:Nat)]?=some (Value.bool x.o.remove),cs1[off1+i.toNat*11+(6:Nat)]?=some (Value.slice (a1_0,c1_0).fst (List.map eDot x.o.dots).length (a1_0,c1_0).snd)]) (fun _=>⟨hi0,hlt2,hrd1_0,hrd1_1,hrd1_2,hrd1_3,hrd1_4,hrd1_5,hrd1_6,trivial⟩) (fun nu3=>?_)
   refine Zv [zR 0,.rd 1 [.o 2 none] 0 0,zR 2,.wr 3 [.o 1 none] 0] [(3,[1])] [] (fun _=>[]) (fun _=>[(nu1 0,.cells #[nI 0,.string (ByteArray.mk #[]),nI 0,.slice none 0 0] 47 (0,0)),(nu2 0,.cells #[nI x.o.kind,.string tx,nI m,.slice av mv cv] 47 (0,0)),(nu3 0,.cells #[nI x.o.no,.string x.o.key,nI x.o.kind,.string x.o.text,nI x.o.n,.bool x.o.remove,.slice (a1_0,c1_0).fst ((List.map eDot x.o.dots).length) c1_0] 24 (0,0))]) (fun _=>?_)
   refine Zs [zR 0,.rd 1 [.o 2 none] 0 0] [] [zI 29 x.o.kind] ?_
   refine J_block ?_
   refine Zt [.rd 0 [] 0 6,zR 1] [] [zB 30 true] [(x.o.kind==(1:Int))=true] ⟨by simp;omega,trivial⟩ ?_
   refine cTt ?_
   refine Zm [zR 0,.rd 1 [.o 2 none] 0 0,zR 2,.wr 3 [.o 1 none] 0] [(3,[1])] [30] (fun _=>[]) (fun _=>[(nu1 0,.cells #[nI 0,.string (ByteArray.mk #[]),nI 0,.slice none 0 0] 47 (0,0)),(nu2 0,.cells #[nI x.o.kind,.string x.o.text,nI m,.slice av mv cv] 47 (0,0)),(nu3 0,.cells #[nI x.o.no,.string x.o.key,nI x.o.kind,.string x.o.text,nI x.o.n,.bool x.o.remove,.slice (a1_0,c1_0).fst ((List.map eDot x.o.dots).length) c1_0] 24 (0,0))]) (fun _=>?_)
   refine J_eb (J_eb ?_)
   refine Zp [zR 0,.rd 1 [] 0 1,zR 2] [] [zI 7 (i+1)] [IntKind.i64.wrap (i+1)=i+1] ⟨wrap_i64 (by omega) (by omega),trivial⟩ ?_
   refine J_backx ⟨i+1,x.o.kind,x.o.text,m,st,_,_,_⟩ [4,5,6,7] [0,1] [0] [0,1] ?_ ?_ (by kernel_rfl) rfl rfl rfl
   ·refine⟨by simp only;omega,by simp only;omega,?_,?_,?_,?_,hg⟩
    ·dsimp only
     rw[if_neg hi1,h1,hxk]
    ·dsimp only
     rw[if_pos h1,←take_snoc hi0 hx,lastText_snoc]
    ·dsimp only
     rw[if_neg h2,hm]
    ·dsimp only
     rw[if_neg h3,hst]
   ·simp only
    omega
  ·rw[if_neg h1]at htx
   by_cases h2:K=2
   ·have h3:¬K=3:=by omega
    rw[h2]at hxk
    rw[if_pos h2]at hm
    rw[if_neg h3]at hst
    have hmb:-9223372036854775808≤m+x.o.n∧m+x.o.n≤9223372036854775807:=by omega
    try simp only[aQ]
    refine J_skip (J_seq (J_block ?_))
    refine Zu [zR 0,zR 1,.rd 2 [] 0 2,zR 3,.rd 4 [.r 0 (some (nI x.o.no)),.r 0 (some (.string x.o.key)),.r 0 (some (nI x.o.kind)),.r 0 (some (.string x.o.text)),.r 0 (some (nI x.o.n)),.r 0 (some (.bool x.o.remove)),.r 0 (some (.slice (a1_0,c1_0).fst ((List.map eDot x.o.dots).length) c1_0))] 0 0,.wr 5 [] 0,.wr 6 (hnO 2 7) 0] [(6,[])] [17] (fun nu3=>[zP 8 (nu3 0)]) (fun nu3=>[(nu1 0,.cells #[nI 0,.string (ByteArray.mk #[]),nI 0,.slice none 0 0] 47 (0,0)),(nu2 0,.cells #[nI kd,.string tx,nI m,.slice av mv cv] 47 (0,0)),(nu3 0,.cells #[nI x.o.no,.string x.o.key,nI x.o.kind,.string x.o.text,nI x.o.n,.bool x.o.remove,.slice (a1_0,c1_0).fst ((List.map eDot x.o.dots).length) c1_0] 24 (0,0))]) (fun nu3=>[0≤i,i<(↑L.length:Int),cs1[off1+i.toNat*11]?=some (nI x.o.no),cs1[off1+i.toNat*11+(1:Nat)]?=some (Value.string x.o.key),cs1[off1+i.toNat*11+(2:Nat)]?=some (nI x.o.kind),cs1[off1+i.toNat*11+(3:Nat)]?=some (Value.string x.o.text),cs1[off1+i.toNat*11+(4:Nat)]?=some (nI x.o.n),cs1[off1+i.toNat*11+(5:Nat)]?=some (Value.bool x.o.remove),cs1[off1+i.toNat*11+(6:Nat)]?=some (Value.slice (a1_0,c1_0).fst (List.map eDot x.o.dots).length (a1_0,c1_0).snd)]) (fun _=>⟨hi0,hlt2,hrd1_0,hrd1_1,hrd1_2,hrd1_3,hrd1_4,hrd1_5,hrd1_6,trivial⟩) (fun nu3=>?_)
    refine Zv [zR 0,.rd 1 [.o 2 none] 0 0,zR 2,.wr 3 [.o 1 none] 0] [(3,[1])] [] (fun _=>[]) (fun _=>[(nu1 0,.cells #[nI 0,.string (ByteArray.mk #[]),nI 0,.slice none 0 0] 47 (0,0)),(nu2 0,.cells #[nI x.o.kind,.string tx,nI m,.slice av mv cv] 47 (0,0)),(nu3 0,.cells #[nI x.o.no,.string x.o.key,nI x.o.kind,.string x.o.text,nI x.o.n,.bool x.o.remove,.slice (a1_0,c1_0).fst ((List.map eDot x.o.dots).length) c1_0] 24 (0,0))]) (fun _=>?_)
    refine Zs [zR 0,.rd 1 [.o 2 none] 0 0] [] [zI 29 x.o.kind] ?_
    refine J_block ?_
    refine Zt [.rd 0 [] 0 7,zR 1] [] [zB 30 false] [(x.o.kind==(1:Int))=false] ⟨by simp;omega,trivial⟩ ?_
    refine cF ?_
    refine Zt [.rd 0 [] 0 6,zR 1] [30] [zB 35 true] [(x.o.kind==(2:Int))=true] ⟨by simp;omega,trivial⟩ ?_
    refine cTt ?_
    refine Zn [zR 0,.rd 1 [.o 1 none] 0 0,zR 2,.rd 3 [.o 2 none] 0 0,.rd 4 [] 0 1,zR 5,.wr 6 [.o 1 none] 0] [(6,[1])] [35] (fun _=>[]) (fun _=>[(nu1 0,.cells #[nI 0,.string (ByteArray.mk #[]),nI 0,.slice none 0 0] 47 (0,0)),(nu2 0,.cells #[nI x.o.kind,.string tx,nI (m+x.o.n),.slice av mv cv] 47 (0,0)),(nu3 0,.cells #[nI x.o.no,.string x.o.key,nI x.o.kind,.string x.o.text,nI x.o.n,.bool x.o.remove,.slice (a1_0,c1_0).fst ((List.map eDot x.o.dots).length) c1_0] 24 (0,0))]) (fun _=>[IntKind.i64.wrap (m+x.o.n)=m+x.o.n]) (fun _=>⟨wrap_i64 (by omega) (by omega),trivial⟩) (fun _=>?_)
    refine J_eb (J_eb ?_)
    refine Zp [zR 0,.rd 1 [] 0 1,zR 2] [] [zI 7 (i+1)] [IntKind.i64.wrap (i+1)=i+1] ⟨wrap_i64 (by omega) (by omega),trivial⟩ ?_
    refine J_backx ⟨i+1,x.o.kind,tx,m+x.o.n,st,_,_,_⟩ [4,5,6,7] [0,1] [0] [0,1] ?_ ?_ (by kernel_rfl) rfl rfl rfl
    ·refine⟨by simp only;omega,by simp only;omega,?_,?_,?_,?_,hg⟩
     ·dsimp only
      rw[if_neg hi1,h2,hxk]
     ·dsimp only
      rw[if_neg h1,htx]
     ·dsimp only
      rw[if_pos h2,←take_snoc hi0 hx,sumN_snoc,hm]
     ·dsimp only
      rw[if_neg h3,hst]
    ·simp only
     omega
   ·have h3:K=3:=by omega
    rw[h3]at hxk
    rw[if_neg h2]at hm
    rw[if_pos h3]at hst
    have hsl:st.length≤4000000:=by
     rw[hst]
     refine Nat.le_trans (setOf_lenF _ _) ?_
     rw[List.length_nil,Nat.zero_add,List.length_map]
     refine Nat.le_trans (List.length_filter_le _ _) ?_
     rw[List.length_take]
     omega
    have hsn:=livesU_snoc L (L.take i.toNat) x
    rw[take_snoc hi0 hx]at hsn
    try simp only[aQ]
    refine J_skip (J_seq (J_block ?_))
    refine Zu [zR 0,zR 1,.rd 2 [] 0 2,zR 3,.rd 4 [.r 0 (some (nI x.o.no)),.r 0 (some (.string x.o.key)),.r 0 (some (nI x.o.kind)),.r 0 (some (.string x.o.text)),.r 0 (some (nI x.o.n)),.r 0 (some (.bool x.o.remove)),.r 0 (some (.slice (a1_0,c1_0).fst ((List.map eDot x.o.dots).length) c1_0))] 0 0,.wr 5 [] 0,.wr 6 (hnO 2 7) 0] [(6,[])] [17] (fun nu3=>[zP 8 (nu3 0)]) (fun nu3=>[(nu1 0,.cells #[nI 0,.string (ByteArray.mk #[]),nI 0,.slice none 0 0] 47 (0,0)),(nu2 0,.cells #[nI kd,.string tx,nI m,.slice av mv cv] 47 (0,0)),(nu3 0,.cells #[nI x.o.no,.string x.o.key,nI x.o.kind,.string x.o.text,nI x.o.n,.bool x.o.remove,.slice (a1_0,c1_0).fst ((List.map eDot x.o.dots).length) c1_0] 24 (0,0))]) (fun nu3=>[0≤i,i<(↑L.length:Int),cs1[off1+i.toNat*11]?=some (nI x.o.no),cs1[off1+i.toNat*11+(1:Nat)]?=some (Value.string x.o.key),cs1[off1+i.toNat*11+(2:Nat)]?=some (nI x.o.kind),cs1[off1+i.toNat*11+(3:Nat)]?=some (Value.string x.o.text),cs1[off1+i.toNat*11+(4:Nat)]?=some (nI x.o.n),cs1[off1+i.toNat*11+(5:Nat)]?=some (Value.bool x.o.remove),cs1[off1+i.toNat*11+(6:Nat)]?=some (Value.slice (a1_0,c1_0).fst (List.map eDot x.o.dots).length (a1_0,c1_0).snd)]) (fun _=>⟨hi0,hlt2,hrd1_0,hrd1_1,hrd1_2,hrd1_3,hrd1_4,hrd1_5,hrd1_6,trivial⟩) (fun nu3=>?_)
    refine Zv [zR 0,.rd 1 [.o 2 none] 0 0,zR 2,.wr 3 [.o 1 none] 0] [(3,[1])] [] (fun _=>[]) (fun _=>[(nu1 0,.cells #[nI 0,.string (ByteArray.mk #[]),nI 0,.slice none 0 0] 47 (0,0)),(nu2 0,.cells #[nI x.o.kind,.string tx,nI m,.slice av mv cv] 47 (0,0)),(nu3 0,.cells #[nI x.o.no,.string x.o.key,nI x.o.kind,.string x.o.text,nI x.o.n,.bool x.o.remove,.slice (a1_0,c1_0).fst ((List.map eDot x.o.dots).length) c1_0] 24 (0,0))]) (fun _=>?_)
    refine Zs [zR 0,.rd 1 [.o 2 none] 0 0] [] [zI 29 x.o.kind] ?_
    refine J_block ?_
    refine Zt [.rd 0 [] 0 7,zR 1] [] [zB 30 false] [(x.o.kind==(1:Int))=false] ⟨by simp;omega,trivial⟩ ?_
    refine cF ?_
    refine Zt [.rd 0 [] 0 7,zR 1] [30] [zB 35 false] [(x.o.kind==(2:Int))=false] ⟨by simp;omega,trivial⟩ ?_
    refine cF ?_
    refine Zt [.rd 0 [] 0 6,zR 1] [35] [zB 43 true] [(x.o.kind==(3:Int))=true] ⟨by simp;omega,trivial⟩ ?_
    refine cTt ?_
    refine jS [(0,true),(1,true),(2,true),(3,true),(4,true),(5,false),(6,true)] [] ?_
    refine Yp (id:=14) (rest:=[(5,false),(6,true)]) (Rds 0 3++[.rd 3 [] 0 2,.rd 4 [.r 0 (some (nI x.o.no)),.r 0 (some (.string x.o.key)),.r 0 (some (nI x.o.kind)),.r 0 (some (.string x.o.text)),.r 0 (some (nI x.o.n)),.r 0 (some (.bool x.o.remove)),.r 0 (some (.slice (a1_0,c1_0).fst ((List.map eDot x.o.dots).length) c1_0)),.r 0 (some (nI x.d.place)),.r 0 (some (nI x.d.time)),.r 0 (some (nI x.d.no)),.r 0 (some (nI x.w))] 0 0]) [43] [zS 45 (sA b1 off1) L.length c1,zV 49 (.agg #[nI x.o.no,.string x.o.key,nI x.o.kind,.string x.o.text,nI x.o.n,.bool x.o.remove,.slice (a1_0,c1_0).fst ((List.map eDot x.o.dots).length) c1_0,nI x.d.place,nI x.d.time,nI x.d.no,nI x.w])] [0≤i,i<(↑L.length:Int),cs1[off1+i.toNat*11]?=some (nI x.o.no),cs1[off1+i.toNat*11+(1:Nat)]?=some (Value.string x.o.key),cs1[off1+i.toNat*11+(2:Nat)]?=some (nI x.o.kind),cs1[off1+i.toNat*11+(3:Nat)]?=some (Value.string x.o.text),cs1[off1+i.toNat*11+(4:Nat)]?=some (nI x.o.n),cs1[off1+i.toNat*11+(5:Nat)]?=some (Value.bool x.o.remove),cs1[off1+i.toNat*11+(6:Nat)]?=some (Value.slice (a1_0,c1_0).fst (List.map eDot x.o.dots).length (a1_0,c1_0).snd),cs1[off1+i.toNat*11+(7:Nat)]?=some (nI x.d.place),cs1[off1+i.toNat*11+(8:Nat)]?=some (nI x.d.time),cs1[off1+i.toNat*11+(9:Nat)]?=some (nI x.d.no),cs1[off1+i.toNat*11+(10:Nat)]?=some (nI x.w)] ⟨hi0,hlt2,hrd1_0,hrd1_1,hrd1_2,hrd1_3,hrd1_4,hrd1_5,hrd1_6,hrd1_7,hrd1_8,hrd1_9,hrd1_10,trivial⟩ ?_
    refine Yc 71 #[.slice (sA b1 off1) L.length c1,.agg #[nI x.o.no,.string x.o.key,nI x.o.kind,.string x.o.text,nI x.o.n,.bool x.o.remove,.slice (a1_0,c1_0).fst ((List.map eDot x.o.dots).length) c1_0,nI x.d.place,nI x.d.time,nI x.d.no,nI x.w]] (some 50) fun w S hG=>?_
    refine(rLive (x:=x) (hG.at 1 rfl) (by omega) (fun y hy=>(hfin y hy).2.2) rfl).mono ?_
    rintro e2 w2 hR
    refine⟨_,_,_,hR,?_⟩
    cases hlv:(!x.o.remove&&!goneB L x.o.text x.d)with
    | false=>
     rw[hlv,if_neg (by decide),List.append_nil]at hsn
     try simp only[aQ]
     refine Ya (id:=14) (rest:=[]) [zR 6] [50,45,49] [zB 9 false] ?_
     refine JR_end ?_
     refine Zs [zR 0] [] [zB 51 false] ?_
     refine cF ?_
     refine J_skip (J_eb (J_eb ?_))
     refine Zp [zR 0,.rd 1 [] 0 1,zR 2] [51] [zI 7 (i+1)] [IntKind.i64.wrap (i+1)=i+1] ⟨wrap_i64 (by omega) (by omega),trivial⟩ ?_
     refine J_backx ⟨i+1,x.o.kind,tx,m,st,_,_,_⟩ [4,5,6,7] [0,1] [0] [0,1] ?_ ?_ (by kernel_rfl) rfl rfl rfl
     ·refine⟨by simp only;omega,by simp only;omega,?_,?_,?_,?_,hg⟩
      ·dsimp only
       rw[if_neg hi1,h3,hxk]
      ·dsimp only
       rw[if_neg h1,htx]
      ·dsimp only
       rw[if_neg h2,hm]
      ·dsimp only
       rw[if_pos h3,hst,hsn]
     ·simp only
      omega
    | true=>
     rw[hlv,if_pos rfl]at hsn
     try simp only[aQ]
     refine Ya (id:=14) (rest:=[]) [zR 6] [50,45,49] [zB 9 true] ?_
     refine JR_end ?_
     refine Zs [zR 0] [] [zB 51 true] ?_
     refine cTt ?_
     refine J_stp (stp_rep 0 rfl) ?_
     refine Nm [] ?_
     try simp only[aQ]
     refine jT [(0,true),(1,true),(2,true),(3,true),(4,false),(5,true),(6,false)] [] ?_
     refine Ya (id:=16) (rest:=[(4,false),(5,true),(6,false)]) [zR 0,.rd 1 [.o 1 none] 0 0,zR 2,.rd 3 [.o 2 none] 0 0] [51] [zS 53 av mv cv,zV 55 (.string x.o.text)] ?_
     refine Yc 72 #[.slice av mv cv,.string x.o.text] (some 56) fun w S hG=>?_
     refine(rEnter (t:=x.o.text) (hG.at 3 rfl) hsl hg).mono ?_
     rintro e3 w3 ⟨ua,un,uc,hR,hg2⟩
     refine⟨_,_,_,hR,?_⟩
     try simp only[aQ]
     refine Ym (id:=16) (rest:=[]) [zR 5,.wr 6 [.o 1 none] 0] [56,53,55] (fun _=>[]) (fun _=>[(nu1 0,.cells #[nI 0,.string (ByteArray.mk #[]),nI 0,.slice none 0 0] 47 (0,0)),(nu2 0,.cells #[nI x.o.kind,.string tx,nI m,.slice ua un uc] 47 (0,0)),(nu3 0,.cells #[nI x.o.no,.string x.o.key,nI x.o.kind,.string x.o.text,nI x.o.n,.bool x.o.remove,.slice a1_0 ((List.map eDot x.o.dots).length) c1_0] 24 (0,0))]) [] (fun _=>?_)
     refine JR_end (J_eb (J_eb ?_))
     refine Zp [zR 0,.rd 1 [] 0 1,zR 2] [] [zI 7 (i+1)] [IntKind.i64.wrap (i+1)=i+1] ⟨wrap_i64 (by omega) (by omega),trivial⟩ ?_
     refine J_stp (stp_keep 4 rfl) ?_
     refine Nm [(cRep (Value.slice ua un uc) (dStrs (enterB st x.o.text)))] ?_
     refine J_backx ⟨i+1,x.o.kind,tx,m,enterB st x.o.text,_,_,_⟩ [4,5,6,7] [0,1] [0] [0,1] ?_ ?_ (by kernel_rfl) rfl rfl rfl
     ·refine⟨by simp only;omega,by simp only;omega,?_,?_,?_,?_,hg2⟩
      ·dsimp only
       rw[if_neg hi1,h3,hxk]
      ·dsimp only
       rw[if_neg h1,htx]
      ·dsimp only
       rw[if_neg h2,hm]
      ·dsimp only
       rw[if_pos h3,hst,hsn,List.map_append,setOf,setOf,List.foldl_append]
       rfl
     ·simp only
      omega
 ·have hil:L.take i.toNat=L:=List.take_of_length_le (by simp at hlt;omega)
  rw[hil]at htx hm hst
  have hkK:kd=K:=by
   rw[hkd2]
   split
   ·exact(hemp (List.length_eq_zero_iff.1 (by simp at hlt;omega))).symm
   ·rfl
  refine J_exit rfl ?_
  refine Zv [.rd 0 (hnO 1 4) 0 0,.wr 1 (hnO 0 4) 0] [(1,[0])] [17,5,6,7] (fun _=>[]) (fun _=>[(nu1 0,.cells #[nI kd,.string tx,nI m,.slice av mv cv] 47 (0,0)),(nu2 0,.cells #[nI kd,.string tx,nI m,.slice av mv cv] 47 (0,0))]) (fun _=>?_)
  refine Yr [(hnO 0 4)] (.agg #[nI kd,.string tx,nI m,.slice av mv cv]) fun a w s=>?_
  rw[←htx,←hm,←hst,←hkK]
  exact⟨_,_,_,(s.stp (stp_rep 0 rfl)).ret (by simp) [] [2] rfl rfl⟩
end Go.Proofs.YtpjkiomccpjboaaGreatDoor
end
section
namespace Go.Sx
open Go
def dotsU (L P:List DoneT) (t:ByteArray):List DotT:=((livesU L P).filter fun a=>decide (a.o.text=t)).map (·.d)
theorem dotsU_snoc (L P:List DoneT) (t:ByteArray) (x:DoneT):dotsU L (P++[x]) t=dotsU L P t++if (!x.o.remove&&!goneB L x.o.text x.d)=true∧x.o.text=t then [x.d]else []:=by
 rw[dotsU,livesU_snoc,List.filter_append,List.map_append,dotsU]
 congr 1
 by_cases h1:(!x.o.remove&&!goneB L x.o.text x.d)=true
 ·by_cases h2:x.o.text=t
  ·rw[if_pos h1,if_pos ⟨h1,h2⟩]
   simp[List.filter,h2]
  ·rw[if_pos h1,if_neg fun h=>h2 h.2]
   simp[List.filter,h2]
 ·rw[if_neg h1,if_neg fun h=>h1 h.1]
  rfl
theorem dotsU_len (L P:List DoneT) (t:ByteArray):(dotsU L P t).length≤P.length:=by
 rw[dotsU,List.length_map]
 exact Nat.le_trans (List.length_filter_le _ _) (List.length_filter_le _ _)
def outD (K:Int) (L P:List DoneT) (t:ByteArray):List DotT:=if K=3 then (dotsU L P t).foldl (insG dotLt) []else []
theorem outD_len (K:Int) (L P:List DoneT) (t:ByteArray):(outD K L P t).length≤P.length:=by
 unfold outD
 split
 ·rw[insG_flen,List.length_nil,Nat.zero_add]
  exact dotsU_len L P t
 ·simp
end Go.Sx
namespace Go.Proofs.YtpjkiomccpjboaaGreatDoor
open Go Go.Sx
set_option maxHeartbeats 4000000 in
theorem rDotsOf {w:World} {S:Nat→Prop} {a:Option Addr} {n c:Nat} {key text:ByteArray} {l:List ComT} (h:Rep w S (.slice a n c) (.sl 3 (l.map eCom))) (hl:l.length≤300000) (hc:(valFault key l).code=0) :
  Calls Tryz.prog 30 #[.string key,.string text,.slice a n c] w fun e w'=>∃ua un uc,Ret [] w S w' e (.slice ua un uc) [] [(.slice ua un uc,.sl 3 ((dotsOf key text l).map eDot))]:=by
 refine epG Tryz.func30 bd30 (args:=[.string key,.string text,.slice a n c]) (S:=S) (G:=[(_,.sl 3 (l.map eCom))]) (by kernel_rfl) (.cons h (.nil _ _)) ?_
 have hf:(listFault l).code=0:=by
  have h1:=allRight hc
  rw[listFault_none h1.2]
 have hfin:∀x∈ofKey key l,x.o.dots.length≤1000000:=fun x hx=>by
  obtain⟨p,hp⟩:=fine_mem hc (mem_ofKey hx)
  have:=opErr_fine hp
  omega
 have hlk:=ofKey_len hc
 refine Zs [zR 0] [] [zS 6 none 0 0] ?_
 refine jS [(0,true),(1,true),(2,false),(3,true)] [] ?_
 refine Ya (id:=1) (rest:=[(2,false),(3,true)]) [zR 0,zR 1] [0,2] [zV 13 (.string key),zS 14 a n c] ?_
 refine Yc 70 #[.string key,.slice a n c] (some 15) fun w S hG=>?_
 refine(rOpsOf (hG.at 0 rfl) hl hf).mono ?_
 rintro e1 w1 ⟨a1,n1,c1,hR⟩
 refine⟨_,_,_,hR,?_⟩
 try simp only[aQ]
 refine Ya (id:=1) (rest:=[]) [zR 3] [15,13,14] [zS 7 a1 n1 c1] ?_
 refine JR_end ?_
 refine Zs [zR 0] [] [zS 8 none 0 0] ?_
 refine J_seq ?_
 refine Zs [zR 0] [] [zI 9 0] ?_
 refine J_block ?_
 refine J_stpx (stp_replen 1 rfl) fun _ hn1=>?_
 rw[List.length_map]at hn1
 subst hn1
 have hkd:=fun(x:DoneT) (hx:x∈ofKey key l)=>ofKey_kind hx
 have hdo:dotsOf key text l=outD (kindOf (opsOf key l)) (ofKey key l) (ofKey key l) text:=by
  unfold dotsOf outD
  split
  ·exact(sort_dots (textDots_nodup (ofKey_nodup key l) text)).symm
  ·rfl
 rw[hdo]
 generalize kindOf (opsOf key l)=K at hkd
 generalize ofKey key l=L at hfin hlk hkd
 refine J_stp (stp_add (cRep (.slice none 0 0) (.sl 3 (([]:List DotT).map eDot))) fun _ _=>⟨rfl,.nil⟩) ?_
 have e0:([]:List DotT)=outD K L [] text:=by
  unfold outD
  split <;> rfl
 rw[e0]
 refine Nm [(cRep (Value.slice none 0 0) (D.sl 3 (List.map eDot (outD K L [] text))))] ?_
 refine J_loopx (fun y:DotR=>[zV 1 (.string text),zS 6 none 0 0,zS 7 a1 L.length c1,zS 8 y.a y.n y.c,zI 9 y.i]) (fun y:DotR=>[]) (fun y:DotR=>[cRep (.slice y.a y.n y.c) (.sl 3 ((outD K L (L.take y.i.toNat) text).map eDot))]) (fun y:DotR=>[(.slice a n c,(D.sl 3 (List.map eCom l))),(.slice a1 L.length c1,(D.sl 11 (List.map eDone L)))]) (fun y:DotR=>(L.length - y.i).toNat) (fun y:DotR=>(0≤y.i∧y.i≤L.length∧GoodS y.a y.c)) ⟨0,none,0,0⟩ [1,6,7,8,9] [] [0] [0,1] ?_ (by kernel_rfl) rfl rfl rfl ?_
 ·exact⟨by simp,by simp,.inl ⟨rfl,rfl⟩⟩
 rintro⟨i,a2,n2,c2⟩ ⟨hi0,hi,hg2⟩
 dsimp only at hi0 hi hg2 ⊢
 refine J_seq ?_
 refine Zs (Rds 0 4) [] [zB 19 (decide (i<(↑L.length:Int)))] ?_
 refine cC (t:=decide (i<(↑L.length:Int))) (fun hlt=>?_) (fun hlt=>?_)
 ·have hlt2:i<L.length:=by simpa using hlt
  obtain⟨x,hx⟩:∃x,L[i.toNat]?=some x:=⟨_,List.getElem?_eq_getElem (by omega)⟩
  have hxk:=hkd x (List.mem_of_getElem? hx)
  have hsn:=dotsU_snoc L (L.take i.toNat) text x
  rw[take_snoc hi0 hx]at hsn
  have hO12:=outD_len K L (L.take i.toNat) text
  rw[List.length_take]at hO12
  have hskip:¬(K=3∧x.o.text=text∧(!x.o.remove&&!goneB L x.o.text x.d)=true)→outD K L (L.take i.toNat) text=outD K L (L.take (i+1).toNat) text:=fun hno=>by
   unfold outD
   by_cases h3:K=3
   ·rw[if_pos h3,if_pos h3,hsn,if_neg fun h=>hno ⟨h3,h.2,h.1⟩,List.append_nil]
   ·rw[if_neg h3,if_neg h3]
  refine J_read1 1 rfl i.toNat (map_at hx) (by kernel_rfl) (fun b1 off1 cs1 ty1 fz1 a1_0 c1_0 ha1 hrd1=>?_)
  cases ha1
  have hrd1_0:=rd0 (hrd1 0 _ rfl)
  have hrd1_1:=hrd1 1 _ rfl
  have hrd1_2:=hrd1 2 _ rfl
  have hrd1_3:=hrd1 3 _ rfl
  have hrd1_4:=hrd1 4 _ rfl
  have hrd1_5:=hrd1 5 _ rfl
  have hrd1_6:=hrd1 6 _ rfl
  have hrd1_7:=hrd1 7 _ rfl
  have hrd1_8:=hrd1 8 _ rfl
  have hrd1_9:=hrd1 9 _ rfl
  have hrd1_10:=hrd1 10 _ rfl
  try simp only[aQ]
  refine J_skip (J_seq (J_block ?_))
  refine jS [(0,true),(1,true),(2,true),(3,true),(4,true),(5,false),(6,true)] [] ?_
  refine Yp (id:=6) (rest:=[(5,false),(6,true)]) (Rds 0 3++[.rd 3 [] 0 2,.rd 4 [.r 0 (some (nI x.o.no)),.r 0 (some (.string x.o.key)),.r 0 (some (nI x.o.kind)),.r 0 (some (.string x.o.text)),.r 0 (some (nI x.o.n)),.r 0 (some (.bool x.o.remove)),.r 0 (some (.slice (a1_0,c1_0).fst ((List.map eDot x.o.dots).length) c1_0)),.r 0 (some (nI x.d.place)),.r 0 (some (nI x.d.time)),.r 0 (some (nI x.d.no)),.r 0 (some (nI x.w))] 0 0]) [19] [zS 22 (sA b1 off1) L.length c1,zV 26 (.agg #[nI x.o.no,.string x.o.key,nI x.o.kind,.string x.o.text,nI x.o.n,.bool x.o.remove,.slice (a1_0,c1_0).fst ((List.map eDot x.o.dots).length) c1_0,nI x.d.place,nI x.d.time,nI x.d.no,nI x.w])] [0≤i,i<(↑L.length:Int),cs1[off1+i.toNat*11]?=some (nI x.o.no),cs1[off1+i.toNat*11+(1:Nat)]?=some (Value.string x.o.key),cs1[off1+i.toNat*11+(2:Nat)]?=some (nI x.o.kind),cs1[off1+i.toNat*11+(3:Nat)]?=some (Value.string x.o.text),cs1[off1+i.toNat*11+(4:Nat)]?=some (nI x.o.n),cs1[off1+i.toNat*11+(5:Nat)]?=some (Value.bool x.o.remove),cs1[off1+i.toNat*11+(6:Nat)]?=some (Value.slice (a1_0,c1_0).fst (List.map eDot x.o.dots).length (a1_0,c1_0).snd),cs1[off1+i.toNat*11+(7:Nat)]?=some (nI x.d.place),cs1[off1+i.toNat*11+(8:Nat)]?=some (nI x.d.time),cs1[off1+i.toNat*11+(9:Nat)]?=some (nI x.d.no),cs1[off1+i.toNat*11+(10:Nat)]?=some (nI x.w)] ⟨hi0,hlt2,hrd1_0,hrd1_1,hrd1_2,hrd1_3,hrd1_4,hrd1_5,hrd1_6,hrd1_7,hrd1_8,hrd1_9,hrd1_10,trivial⟩ ?_
  refine Yc 71 #[.slice (sA b1 off1) L.length c1,.agg #[nI x.o.no,.string x.o.key,nI x.o.kind,.string x.o.text,nI x.o.n,.bool x.o.remove,.slice (a1_0,c1_0).fst ((List.map eDot x.o.dots).length) c1_0,nI x.d.place,nI x.d.time,nI x.d.no,nI x.w]] (some 27) fun w S hG=>?_
  refine(rLive (x:=x) (hG.at 1 rfl) (by omega) hfin rfl).mono ?_
  rintro e2 w2 hR
  refine⟨_,_,_,hR,?_⟩
  by_cases h3:K=3
  ·rw[h3]at hxk
   by_cases htt:x.o.text=text
   ·have hkb:(x.o.text.toList==text.toList)=true:=by rw[strEq,decide_eq_true htt]
    cases hlv:(!x.o.remove&&!goneB L x.o.text x.d)with
    | false=>
     rw[hskip (fun h=>by rw[hlv]at h;exact absurd h.2.2 (by decide))]
     try simp only[aQ]
     refine Ya (id:=6) (rest:=[]) [zR 6] [27,22,26] [zB 10 false] ?_
     refine JR_end (J_seq ?_)
     refine Zt ([zR 0,zR 1,.rd 2 [] 0 2,zR 3,zR 4,.rd 5 [.r 0 (some (nI x.o.kind))] 0 0,.rd 6 [] 0 7]++Rds 7 10++[.rd 10 [] 0 2,zR 11,zR 12,.rd 13 [.r 0 (some (.string x.o.text))] 0 0,zR 14,.rd 15 [] 0 7]++Rds 16 21) [] [zB 48 true] [0≤i,i<(↑L.length:Int),cs1[off1+i.toNat*11+(2:Nat)]?=some (nI x.o.kind),(x.o.kind != (3:Int))=false,0≤i,i<(↑L.length:Int),cs1[off1+i.toNat*11+(3:Nat)]?=some (Value.string x.o.text),(!x.o.text.toList==text.toList)=false] ⟨hi0,hlt2,hrd1_2,by simp;omega,hi0,hlt2,hrd1_3,by simp[*];done,trivial⟩ ?_
     refine cTt ?_
     refine J_exit rfl ?_
     refine Zp [zR 0,.rd 1 [] 0 1,zR 2] [48] [zI 9 (i+1)] [IntKind.i64.wrap (i+1)=i+1] ⟨wrap_i64 (by omega) (by omega),trivial⟩ ?_
     refine J_backx ⟨i+1,_,_,_⟩ [1,6,7,8,9] [] [0] [0,1] ?_ ?_ (by kernel_rfl) rfl rfl rfl
     ·exact⟨by simp only;omega,by simp only;omega,hg2⟩
     ·simp only
      omega
    | true=>
     have e6:insG dotLt (outD K L (L.take i.toNat) text) x.d=outD K L (L.take (i+1).toNat) text:=by
      unfold outD
      rw[if_pos h3,if_pos h3,hsn,if_pos ⟨hlv,htt⟩,List.foldl_append]
      rfl
     generalize outD K L (L.take i.toNat) text=OUT at hO12 e6
     try simp only[aQ]
     refine Ya (id:=6) (rest:=[]) [zR 6] [27,22,26] [zB 10 true] ?_
     refine JR_end (J_seq ?_)
     refine Zt ([zR 0,zR 1,.rd 2 [] 0 2,zR 3,zR 4,.rd 5 [.r 0 (some (nI x.o.kind))] 0 0,.rd 6 [] 0 7]++Rds 7 10++[.rd 10 [] 0 2,zR 11,zR 12,.rd 13 [.r 0 (some (.string x.o.text))] 0 0,zR 14,.rd 15 [] 0 7]++Rds 16 21) [] [zB 48 false] [0≤i,i<(↑L.length:Int),cs1[off1+i.toNat*11+(2:Nat)]?=some (nI x.o.kind),(x.o.kind != (3:Int))=false,0≤i,i<(↑L.length:Int),cs1[off1+i.toNat*11+(3:Nat)]?=some (Value.string x.o.text),(!x.o.text.toList==text.toList)=false] ⟨hi0,hlt2,hrd1_2,by simp;omega,hi0,hlt2,hrd1_3,by simp[*];done,trivial⟩ ?_
     refine cF ?_
     refine J_skip (J_seq ?_)
     refine J_stp (stp_rep 0 rfl) ?_
     refine Nm [] ?_
     try simp only[aQ]
     refine Za [zR 0] [48] [zI 11 0] ?_
     refine J_seq (J_block ?_)
     refine J_stpx (stp_replen 3 rfl) fun _ hn2=>?_
     rw[List.length_map]at hn2
     subst hn2
     refine J_stpx (stp_know (p:=OUT.length≤c2) fun _ _ H=>(H.g (_,_) (List.mem_of_getElem? (i:=3) rfl)).cap) fun _ hcap2=>?_
     refine J_loopx (fun k:Int=>[zV 1 (.string text),zS 6 none 0 0,zS 7 (sA b1 off1) L.length c1,zS 8 a2 OUT.length c2,zI 9 i,zB 10 true,zI 11 k]) (fun k:Int=>[]) (fun k:Int=>[]) (fun k:Int=>[(.slice a n c,(D.sl 3 (List.map eCom l))),(.slice (sA b1 off1) L.length c1,(D.sl 11 (List.map eDone L))),(.slice (a1_0,c1_0).fst ((List.map eDot x.o.dots).length) c1_0,(D.sl 3 (List.map eDot x.o.dots))),(.slice a2 OUT.length c2,(D.sl 3 (List.map eDot OUT)))]) (fun k:Int=>(OUT.length - k).toNat) (fun k:Int=>(0≤k∧k≤OUT.length∧∀z∈OUT.take k.toNat,dotLt z x.d=true)) 0 [1,6,7,8,9,10,11] [] [] [0,1,2,3] ?_ (by kernel_rfl) rfl rfl rfl ?_
     ·exact⟨by simp,by simp,by simp⟩
     rintro k ⟨hk0,hk,hkn⟩
     by_cases hlt5:k<OUT.length
     ·obtain⟨z,hz⟩:∃z,OUT[k.toNat]?=some z:=⟨_,List.getElem?_eq_getElem (by omega)⟩
      refine J_read0 3 rfl k.toNat (map_at hz) (by kernel_rfl) (fun b2 off2 cs2 ty2 fz2 ha2 hrd2=>?_)
      cases ha2
      have hrd2_0:=rd0 (hrd2 0 _ rfl)
      have hrd2_1:=hrd2 1 _ rfl
      have hrd2_2:=hrd2 2 _ rfl
      try simp only[aQ]
      refine J_seq ?_
      refine jS [(0,true),(1,true),(2,true),(3,true),(4,true),(5,true),(6,true),(7,true),(8,true),(9,true),(10,true),(11,true),(12,true),(13,true),(14,false),(15,true)] [] ?_
      refine Yp (id:=9) (rest:=[(14,false),(15,true)]) (Rds 0 3++[.rd 3 [] 0 6]++Rds 4 7++[.rd 7 [] 0 2,.rd 8 [.r 1 (some (nI z.place)),.r 1 (some (nI z.time)),.r 1 (some (nI z.no))] 0 0,zR 9,zR 10,.rd 11 [] 0 2,zR 12,.rd 13 [.r 0 (some (nI x.d.place)),.r 0 (some (nI x.d.time)),.r 0 (some (nI x.d.no))] 0 0]) [] [zB 53 true,zV 57 (.agg #[nI z.place,nI z.time,nI z.no]),zV 62 (.agg #[nI x.d.place,nI x.d.time,nI x.d.no])] [decide (k<(↑OUT.length:Int))=true,0≤k,k<(↑OUT.length:Int),cs2[off2+k.toNat*3]?=some (nI z.place),cs2[off2+k.toNat*3+(1:Nat)]?=some (nI z.time),cs2[off2+k.toNat*3+(2:Nat)]?=some (nI z.no),0≤i,i<(↑L.length:Int),cs1[off1+i.toNat*11+(7:Nat)]?=some (nI x.d.place),cs1[off1+i.toNat*11+(8:Nat)]?=some (nI x.d.time),cs1[off1+i.toNat*11+(9:Nat)]?=some (nI x.d.no)] ⟨by simp;omega,hk0,hlt5,hrd2_0,hrd2_1,hrd2_2,hi0,hlt2,hrd1_7,hrd1_8,hrd1_9,trivial⟩ ?_
      refine Yc 73 #[.agg #[nI z.place,nI z.time,nI z.no],.agg #[nI x.d.place,nI x.d.time,nI x.d.no]] (some 63) fun w S hG=>?_
      refine(rLessDot (w:=w) (S:=S) (x:=z) (y:=x.d)).mono ?_
      rintro e3 w3 hR
      refine⟨_,_,_,hR,?_⟩
      cases hzy:dotLt z x.d with
      | true=>
       try simp only[aQ]
       refine Ya (id:=9) (rest:=[]) [zR 15] [63,53,57,62] [zB 64 true] ?_
       refine JR_end ?_
       refine cTt ?_
       refine J_skip (J_block ?_)
       refine Zp [zR 0,.rd 1 [] 0 1,zR 2] [64] [zI 11 (k+1)] [IntKind.i64.wrap (k+1)=k+1] ⟨wrap_i64 (by omega) (by omega),trivial⟩ ?_
       refine J_eb ?_
       refine J_backx (k+1) [1,6,7,8,9,10,11] [] [] [0,1,2,3] ?_ ?_ (by kernel_rfl) rfl rfl rfl
       ·refine⟨by omega,by omega,fun q hq=>?_⟩
        rw[←take_snoc hk0 hz,List.mem_append,List.mem_singleton]at hq
        rcases hq with hq|rfl
        ·exact hkn q hq
        ·exact hzy
       ·omega
      | false=>
       have hins:=insG_at dotLt (l:=OUT) (x:=x.d) (k:=k.toNat) hkn fun q hq=>by rw[hz]at hq;cases hq;exact hzy
       rw[e6]at hins
       have e8:OUT.take k.toNat++[x.d]++OUT.drop k.toNat=outD K L (L.take (i+1).toNat) text:=by
        rw[List.append_assoc,List.singleton_append]
        exact hins.symm
       try simp only[aQ]
       refine Ya (id:=9) (rest:=[]) [zR 15] [63,53,57,62] [zB 64 false] ?_
       refine JR_end ?_
       refine cF ?_
       refine J_exit rfl ?_
       refine Zs [zR 0] [64] [zS 12 none 0 0] ?_
       refine J_seq ?_
       refine J_stp (stp_fact fun w S H=>(H (_,_) (List.mem_of_getElem? (i:=3) rfl)).takeM k.toNat (by omega)) ?_
       refine J_stp (stp_accm eDot 65 3) ?_
       refine Nm [cAcc (.slice none 0 0) 65 3 (List.map eDot [])] ?_
       try simp only[aQ]
       refine jT [(0,true),(1,true),(2,true),(3,true),(4,false),(5,true)] [] ?_
       refine Yp (id:=12) (rest:=[(4,false),(5,true)]) (Rds 0 3++[.rd 3 [] 0 4]) [] [zS 67 none 0 0,zS 70 (sA b2 off2) k.toNat c2] [0≤k,k≤(↑c2:Int)] ⟨hk0,by omega,trivial⟩ ?_
       refine JR_appm 0 22 65 3 24 (.agg #[.int .i64 0,.int .i64 0,.int .i64 0]) (a0:=none) (len:=0) (cap0:=0) (ax:=(some (⟨b2,off2,none⟩))) (m:=k.toNat) (c:=c2) (dst:=(some 71)) (List.take k.toNat OUT) (by kernel_rfl) (by kernel_rfl) (by kernel_rfl) (by kernel_rfl) rfl (by decide) rfl (fun _ _ _ s=>src_fact s 4 rfl (by decide)) (by simp only[maxLen];omega) (by omega) (fun av1 cv1=>?_)
       rw[Nat.zero_add]
       try simp only[aQ]
       refine Ya (id:=12) (rest:=[]) [zR 5] [71,67,70] [zS 12 av1 k.toNat cv1] ?_
       try simp only[aQ]
       refine JR_end ?_
       try simp only[aQ]
       refine J_seq ?_
       try simp only[aQ]
       refine J_again1 1 rfl 0 rfl i.toNat (map_at hx) (by kernel_rfl) (fun a3_0 c3_0 hrd3=>?_)
       have hrd3_0:=rd0 (hrd3 0 _ rfl)
       have hrd3_1:=hrd3 1 _ rfl
       have hrd3_2:=hrd3 2 _ rfl
       have hrd3_3:=hrd3 3 _ rfl
       have hrd3_4:=hrd3 4 _ rfl
       have hrd3_5:=hrd3 5 _ rfl
       have hrd3_6:=hrd3 6 _ rfl
       have hrd3_7:=hrd3 7 _ rfl
       have hrd3_8:=hrd3 8 _ rfl
       have hrd3_9:=hrd3 9 _ rfl
       have hrd3_10:=hrd3 10 _ rfl
       try simp only[aQ]
       refine jT [(0,true),(1,true),(2,true),(3,true),(4,true),(5,true),(6,false),(7,false),(8,true)] [] ?_
       refine Yn (id:=13) (rest:=[(7,false),(8,true)]) (Rds 0 3++[.rd 3 [] 0 2,zR 4,.rd 5 [.r 0 (some (nI x.d.place)),.r 0 (some (nI x.d.time)),.r 0 (some (nI x.d.no))] 0 0,.wr 6 [] 0]) [] (fun nu1=>[zS 72 av1 k.toNat cv1,zS 78 (sA (nu1 0) 0) 1 1]) (fun nu1=>[(nu1 0,.cells #[nI x.d.place,nI x.d.time,nI x.d.no] 65 (0,0))]) [] (fun nu1=>[0≤i,i<(↑L.length:Int),cs1[off1+i.toNat*11+(7:Nat)]?=some (nI x.d.place),cs1[off1+i.toNat*11+(8:Nat)]?=some (nI x.d.time),cs1[off1+i.toNat*11+(9:Nat)]?=some (nI x.d.no)]) (fun _=>⟨hi0,hlt2,hrd1_7,hrd1_8,hrd1_9,trivial⟩) (fun nu1=>?_)
       refine JR_appm 0 22 65 3 24 (.agg #[.int .i64 0,.int .i64 0,.int .i64 0]) (a0:=av1) (len:=k.toNat) (cap0:=cv1) (ax:=(some (⟨nu1 0,0,none⟩))) (m:=1) (c:=1) (dst:=(some 79)) [x.d] (by kernel_rfl) (by kernel_rfl) (by kernel_rfl) (by kernel_rfl) rfl (by decide) rfl (fun _ _ _ s=>src_one s 0 rfl rfl ⟨.inl ⟨rfl,rfl⟩,⟨.inl ⟨rfl,rfl⟩,⟨.inl ⟨rfl,rfl⟩,trivial⟩⟩⟩) (by simp only[maxLen];omega) (by omega) (fun av2 cv2=>?_)
       try simp only[aQ]
       refine Ya (id:=13) (rest:=[]) [zR 8] [79,72,78] [zS 12 av2 (k.toNat+1) cv2] ?_
       try simp only[aQ]
       refine JR_end ?_
       try simp only[aQ]
       refine J_stp (stp_fact fun w S H=>(H (_,_) (List.mem_of_getElem? (i:=3) rfl)).dropM k.toNat (by omega)) ?_
       refine Nm [cAcc (.slice av2 (k.toNat+1) cv2) 65 3 (List.map eDot (List.take k.toNat OUT++[x.d]))] ?_
       try simp only[aQ]
       refine jT [(0,true),(1,true),(2,true),(3,true),(4,false),(5,true)] [] ?_
       refine Yp (id:=14) (rest:=[(4,false),(5,true)]) (Rds 0 3++[.rd 3 [] 0 4]) [] [zS 80 av2 (k.toNat+1) cv2,zS 83 (sA b2 (off2+k.toNat*3)) (OUT.length - k.toNat) (c2 - k.toNat)] [0≤k,k≤(↑OUT.length:Int),k<(↑c2:Int)] ⟨hk0,hk,by omega,trivial⟩ ?_
       refine JR_appm 0 22 65 3 24 (.agg #[.int .i64 0,.int .i64 0,.int .i64 0]) (a0:=av2) (len:=k.toNat+1) (cap0:=cv2) (ax:=(some (⟨b2,off2+k.toNat*3,none⟩))) (m:=OUT.length - k.toNat) (c:=c2 - k.toNat) (dst:=(some 84)) (List.drop k.toNat OUT) (by kernel_rfl) (by kernel_rfl) (by kernel_rfl) (by kernel_rfl) rfl (by decide) rfl (fun _ _ _ s=>src_fact s 6 rfl (by decide)) (by simp only[maxLen];omega) (by omega) (fun av3 cv3=>?_)
       rw[e8]
       try simp only[aQ]
       refine Ya (id:=14) (rest:=[]) [zR 5] [84,80,83] [zS 8 av3 (k.toNat+1+(OUT.length - k.toNat)) cv3] ?_
       try simp only[aQ]
       refine JR_end ?_
       try simp only[aQ]
       refine J_eb ?_
       try simp only[aQ]
       refine Zp [zR 0,.rd 1 [] 0 1,zR 2] [] [zI 9 (i+1)] [IntKind.i64.wrap (i+1)=i+1] ⟨wrap_i64 (by omega) (by omega),trivial⟩ ?_
       try simp only[aQ]
       refine J_stpx (stp_good 0 rfl) fun _ hga=>?_
       refine J_stp (stp_freeze 0 rfl) ?_
       refine Nm [] ?_
       refine J_stp (stp_keep 7 rfl) ?_
       refine Nm [(cRep (Value.slice av3 (k.toNat+1+(OUT.length - k.toNat)) cv3) (D.sl 3 (List.map eDot (outD K L (List.take (i+1).toNat L) text))))] ?_
       refine J_backx ⟨i+1,_,_,_⟩ [1,6,7,8,9] [] [0] [0,1] ?_ ?_ (by kernel_rfl) rfl rfl rfl
       ·exact⟨by simp only;omega,by simp only;omega,hga⟩
       ·simp only
        omega
     ·have hins:=insG_at dotLt (l:=OUT) (x:=x.d) (k:=k.toNat) hkn fun q hq=>by
       have:=(List.getElem?_eq_some_iff.1 hq).1
       omega
      rw[e6]at hins
      have e8:OUT.take k.toNat++[x.d]++OUT.drop k.toNat=outD K L (L.take (i+1).toNat) text:=by
       rw[List.append_assoc,List.singleton_append]
       exact hins.symm
      refine J_seq ?_
      refine Zt (Rds 0 3++[.rd 3 [] 0 7,zR 4,.rd 5 [] 1 0,.rd 6 [] 1 0,.rd 7 [] 1 0,.rd 8 [] 1 0,.rd 9 [] 1 0,.rd 10 [] 1 0,.rd 11 [] 1 0,.rd 12 [] 1 0,.rd 13 [] 1 0,.wr 14 [] 1,zR 15]) [] [zB 64 false] [decide (k<(↑OUT.length:Int))=false] ⟨by simp;omega,trivial⟩ ?_
      refine cF ?_
      refine J_exit rfl ?_
      refine Zs [zR 0] [64] [zS 12 none 0 0] ?_
      refine J_seq ?_
      refine J_stp (stp_fact fun w S H=>(H (_,_) (List.mem_of_getElem? (i:=3) rfl)).takeM k.toNat (by omega)) ?_
      refine J_stp (stp_accm eDot 65 3) ?_
      refine Nm [cAcc (.slice none 0 0) 65 3 (List.map eDot [])] ?_
      try simp only[aQ]
      refine jT [(0,true),(1,true),(2,true),(3,true),(4,false),(5,true)] [] ?_
      refine Yp (id:=12) (rest:=[(4,false),(5,true)]) (Rds 0 3++[.rd 3 [] 0 4]) [] [zS 67 none 0 0,zS 70 a2 k.toNat c2] [0≤k,k≤(↑c2:Int)] ⟨hk0,by omega,trivial⟩ ?_
      refine JR_appm 0 22 65 3 24 (.agg #[.int .i64 0,.int .i64 0,.int .i64 0]) (a0:=none) (len:=0) (cap0:=0) (ax:=a2) (m:=k.toNat) (c:=c2) (dst:=(some 71)) (List.take k.toNat OUT) (by kernel_rfl) (by kernel_rfl) (by kernel_rfl) (by kernel_rfl) rfl (by decide) rfl (fun _ _ _ s=>src_fact s 4 rfl (by decide)) (by simp only[maxLen];omega) (by omega) (fun av1 cv1=>?_)
      rw[Nat.zero_add]
      try simp only[aQ]
      refine Ya (id:=12) (rest:=[]) [zR 5] [71,67,70] [zS 12 av1 k.toNat cv1] ?_
      try simp only[aQ]
      refine JR_end ?_
      try simp only[aQ]
      refine J_seq ?_
      try simp only[aQ]
      refine J_again1 1 rfl 0 rfl i.toNat (map_at hx) (by kernel_rfl) (fun a2_0 c2_0 hrd2=>?_)
      have hrd2_0:=rd0 (hrd2 0 _ rfl)
      have hrd2_1:=hrd2 1 _ rfl
      have hrd2_2:=hrd2 2 _ rfl
      have hrd2_3:=hrd2 3 _ rfl
      have hrd2_4:=hrd2 4 _ rfl
      have hrd2_5:=hrd2 5 _ rfl
      have hrd2_6:=hrd2 6 _ rfl
      have hrd2_7:=hrd2 7 _ rfl
      have hrd2_8:=hrd2 8 _ rfl
      have hrd2_9:=hrd2 9 _ rfl
      have hrd2_10:=hrd2 10 _ rfl
      try simp only[aQ]
      refine jT [(0,true),(1,true),(2,true),(3,true),(4,true),(5,true),(6,false),(7,false),(8,true)] [] ?_
      refine Yn (id:=13) (rest:=[(7,false),(8,true)]) (Rds 0 3++[.rd 3 [] 0 2,zR 4,.rd 5 [.r 0 (some (nI x.d.place)),.r 0 (some (nI x.d.time)),.r 0 (some (nI x.d.no))] 0 0,.wr 6 [] 0]) [] (fun nu1=>[zS 72 av1 k.toNat cv1,zS 78 (sA (nu1 0) 0) 1 1]) (fun nu1=>[(nu1 0,.cells #[nI x.d.place,nI x.d.time,nI x.d.no] 65 (0,0))]) [] (fun nu1=>[0≤i,i<(↑L.length:Int),cs1[off1+i.toNat*11+(7:Nat)]?=some (nI x.d.place),cs1[off1+i.toNat*11+(8:Nat)]?=some (nI x.d.time),cs1[off1+i.toNat*11+(9:Nat)]?=some (nI x.d.no)]) (fun _=>⟨hi0,hlt2,hrd1_7,hrd1_8,hrd1_9,trivial⟩) (fun nu1=>?_)
      refine JR_appm 0 22 65 3 24 (.agg #[.int .i64 0,.int .i64 0,.int .i64 0]) (a0:=av1) (len:=k.toNat) (cap0:=cv1) (ax:=(some (⟨nu1 0,0,none⟩))) (m:=1) (c:=1) (dst:=(some 79)) [x.d] (by kernel_rfl) (by kernel_rfl) (by kernel_rfl) (by kernel_rfl) rfl (by decide) rfl (fun _ _ _ s=>src_one s 0 rfl rfl ⟨.inl ⟨rfl,rfl⟩,⟨.inl ⟨rfl,rfl⟩,⟨.inl ⟨rfl,rfl⟩,trivial⟩⟩⟩) (by simp only[maxLen];omega) (by omega) (fun av2 cv2=>?_)
      try simp only[aQ]
      refine Ya (id:=13) (rest:=[]) [zR 8] [79,72,78] [zS 12 av2 (k.toNat+1) cv2] ?_
      try simp only[aQ]
      refine JR_end ?_
      try simp only[aQ]
      have hkl:k=OUT.length:=by omega
      have hnil:∀w S,Rep w S (.slice a2 0 0) (.sl 3 ((OUT.drop k.toNat).map eDot)):=fun w S=>by
       rw[List.drop_of_length_le (by omega)]
       exact .nil
      by_cases hcc:OUT.length=c2
      ·refine J_stp (stp_fact fun w S _=>hnil w S) ?_
       refine Nm [cAcc (.slice av2 (k.toNat+1) cv2) 65 3 (List.map eDot (List.take k.toNat OUT++[x.d]))] ?_
       try simp only[aQ]
       refine jT [(0,true),(1,true),(2,true),(3,true),(4,false),(5,true)] [] ?_
       refine Yp (id:=14) (rest:=[(4,false),(5,true)]) (Rds 0 3++[.rd 3 [] 0 5]) [] [zS 80 av2 (k.toNat+1) cv2,zS 83 a2 0 0] [k=(↑c2:Int),OUT.length=c2] ⟨by omega,hcc,trivial⟩ ?_
       refine JR_appm 0 22 65 3 24 (.agg #[.int .i64 0,.int .i64 0,.int .i64 0]) (a0:=av2) (len:=k.toNat+1) (cap0:=cv2) (ax:=a2) (m:=0) (c:=0) (dst:=(some 84)) (List.drop k.toNat OUT) (by kernel_rfl) (by kernel_rfl) (by kernel_rfl) (by kernel_rfl) rfl (by decide) rfl (fun _ _ _ s=>src_fact s 6 rfl (by decide)) (by simp only[maxLen];omega) (by omega) (fun av3 cv3=>?_)
       rw[e8]
       try simp only[aQ]
       refine Ya (id:=14) (rest:=[]) [zR 5] [84,80,83] [zS 8 av3 (k.toNat+1) cv3] ?_
       try simp only[aQ]
       refine JR_end ?_
       try simp only[aQ]
       refine J_eb ?_
       try simp only[aQ]
       refine Zp [zR 0,.rd 1 [] 0 1,zR 2] [] [zI 9 (i+1)] [IntKind.i64.wrap (i+1)=i+1] ⟨wrap_i64 (by omega) (by omega),trivial⟩ ?_
       try simp only[aQ]
       refine J_stpx (stp_good 0 rfl) fun _ hga=>?_
       refine J_stp (stp_freeze 0 rfl) ?_
       refine Nm [] ?_
       refine J_stp (stp_keep 7 rfl) ?_
       refine Nm [(cRep (Value.slice av3 (k.toNat+1+0) cv3) (D.sl 3 (List.map eDot (outD K L (List.take (i+1).toNat L) text))))] ?_
       refine J_backx ⟨i+1,_,_,_⟩ [1,6,7,8,9] [] [0] [0,1] ?_ ?_ (by kernel_rfl) rfl rfl rfl
       ·exact⟨by simp only;omega,by simp only;omega,hga⟩
       ·simp only
        omega
      ·rcases hg2 with ⟨rfl,rfl⟩|⟨b,off,rfl⟩
       ·omega
       ·refine J_stp (stp_fact fun w S H=>(H (_,_) (List.mem_of_getElem? (i:=3) rfl)).dropM k.toNat (by omega)) ?_
        refine Nm [cAcc (.slice av2 (k.toNat+1) cv2) 65 3 (List.map eDot (List.take k.toNat OUT++[x.d]))] ?_
        try simp only[aQ]
        refine jT [(0,true),(1,true),(2,true),(3,true),(4,false),(5,true)] [] ?_
        refine Yp (id:=14) (rest:=[(4,false),(5,true)]) (Rds 0 3++[.rd 3 [] 0 4]) [] [zS 80 av2 (k.toNat+1) cv2,zS 83 (sA b (off+k.toNat*3)) (OUT.length - k.toNat) (c2 - k.toNat)] [0≤k,k≤(↑OUT.length:Int),k<(↑c2:Int)] ⟨hk0,hk,by omega,trivial⟩ ?_
        refine JR_appm 0 22 65 3 24 (.agg #[.int .i64 0,.int .i64 0,.int .i64 0]) (a0:=av2) (len:=k.toNat+1) (cap0:=cv2) (ax:=(some (⟨b,off+k.toNat*3,none⟩))) (m:=OUT.length - k.toNat) (c:=c2 - k.toNat) (dst:=(some 84)) (List.drop k.toNat OUT) (by kernel_rfl) (by kernel_rfl) (by kernel_rfl) (by kernel_rfl) rfl (by decide) rfl (fun _ _ _ s=>src_fact s 6 rfl (by decide)) (by simp only[maxLen];omega) (by omega) (fun av3 cv3=>?_)
        rw[e8]
        try simp only[aQ]
        refine Ya (id:=14) (rest:=[]) [zR 5] [84,80,83] [zS 8 av3 (k.toNat+1+(OUT.length - k.toNat)) cv3] ?_
        try simp only[aQ]
        refine JR_end ?_
        try simp only[aQ]
        refine J_eb ?_
        try simp only[aQ]
        refine Zp [zR 0,.rd 1 [] 0 1,zR 2] [] [zI 9 (i+1)] [IntKind.i64.wrap (i+1)=i+1] ⟨wrap_i64 (by omega) (by omega),trivial⟩ ?_
        try simp only[aQ]
        refine J_stpx (stp_good 0 rfl) fun _ hga=>?_
        refine J_stp (stp_freeze 0 rfl) ?_
        refine Nm [] ?_
        refine J_stp (stp_keep 7 rfl) ?_
        refine Nm [(cRep (Value.slice av3 (k.toNat+1+(OUT.length - k.toNat)) cv3) (D.sl 3 (List.map eDot (outD K L (List.take (i+1).toNat L) text))))] ?_
        refine J_backx ⟨i+1,_,_,_⟩ [1,6,7,8,9] [] [0] [0,1] ?_ ?_ (by kernel_rfl) rfl rfl rfl
        ·exact⟨by simp only;omega,by simp only;omega,hga⟩
        ·simp only
         omega
   ·have hkb:(x.o.text.toList==text.toList)=false:=by rw[strEq,decide_eq_false htt]
    rw[hskip fun h=>htt h.2.1]
    try simp only[aQ]
    refine Ya (id:=6) (rest:=[]) [zR 6] [27,22,26] [zB 10 (!x.o.remove&&!goneB L x.o.text x.d)] ?_
    refine JR_end (J_seq ?_)
    refine Zt ([zR 0,zR 1,.rd 2 [] 0 2,zR 3,zR 4,.rd 5 [.r 0 (some (nI x.o.kind))] 0 0,.rd 6 [] 0 7]++Rds 7 10++[.rd 10 [] 0 2,zR 11,zR 12,.rd 13 [.r 0 (some (.string x.o.text))] 0 0,zR 14,.rd 15 [] 0 6,zR 16,zR 17,.rd 18 [] 1 0,.rd 19 [] 1 0,zR 20]) [] [zB 48 true] [0≤i,i<(↑L.length:Int),cs1[off1+i.toNat*11+(2:Nat)]?=some (nI x.o.kind),(x.o.kind != (3:Int))=false,0≤i,i<(↑L.length:Int),cs1[off1+i.toNat*11+(3:Nat)]?=some (Value.string x.o.text),(!x.o.text.toList==text.toList)=true] ⟨hi0,hlt2,hrd1_2,by simp;omega,hi0,hlt2,hrd1_3,by simp[*];done,trivial⟩ ?_
    refine cTt ?_
    refine J_exit rfl ?_
    refine Zp [zR 0,.rd 1 [] 0 1,zR 2] [48] [zI 9 (i+1)] [IntKind.i64.wrap (i+1)=i+1] ⟨wrap_i64 (by omega) (by omega),trivial⟩ ?_
    refine J_backx ⟨i+1,_,_,_⟩ [1,6,7,8,9] [] [0] [0,1] ?_ ?_ (by kernel_rfl) rfl rfl rfl
    ·exact⟨by simp only;omega,by simp only;omega,hg2⟩
    ·simp only
     omega
  ·have hxk3:¬x.o.kind=3:=by omega
   rw[hskip fun h=>h3 h.1]
   try simp only[aQ]
   refine Ya (id:=6) (rest:=[]) [zR 6] [27,22,26] [zB 10 (!x.o.remove&&!goneB L x.o.text x.d)] ?_
   refine JR_end (J_seq ?_)
   refine Zt [zR 0,zR 1,.rd 2 [] 0 2,zR 3,zR 4,.rd 5 [.r 0 (some (nI x.o.kind))] 0 0,.rd 6 [] 0 6,zR 7,.rd 8 [] 1 0,.rd 9 [] 1 0,.rd 10 [] 1 0,.rd 11 [] 1 0,.rd 12 [] 1 0,.rd 13 [] 1 0,.rd 14 [] 1 0,.rd 15 [] 1 0,zR 16,zR 17,.rd 18 [] 1 0,.rd 19 [] 1 0,zR 20] [] [zB 48 true] [0≤i,i<(↑L.length:Int),cs1[off1+i.toNat*11+(2:Nat)]?=some (nI x.o.kind),(x.o.kind != (3:Int))=true] ⟨hi0,hlt2,hrd1_2,by simp;omega,trivial⟩ ?_
   refine cTt ?_
   refine J_exit rfl ?_
   refine Zp [zR 0,.rd 1 [] 0 1,zR 2] [48] [zI 9 (i+1)] [IntKind.i64.wrap (i+1)=i+1] ⟨wrap_i64 (by omega) (by omega),trivial⟩ ?_
   refine J_backx ⟨i+1,_,_,_⟩ [1,6,7,8,9] [] [0] [0,1] ?_ ?_ (by kernel_rfl) rfl rfl rfl
   ·exact⟨by simp only;omega,by simp only;omega,hg2⟩
   ·simp only
    omega
 ·have hil:L.take i.toNat=L:=List.take_of_length_le (by simp at hlt;omega)
  rw[hil]
  refine J_exit rfl ?_
  refine Zs [zR 0,zR 1] [19,1,7,8,9] [zS 6 a2 n2 c2] ?_
  refine Yr [[]] (.slice a2 n2 c2) fun a w s=>?_
  exact⟨_,_,_,(s.stp (stp_rep 0 rfl)).ret (by simp) [] [2] rfl rfl⟩
end Go.Proofs.YtpjkiomccpjboaaGreatDoor
end
section
namespace Go.Proofs.YtpjkiomccpjboaaGreatDoor
open Go Go.Sx
set_option maxHeartbeats 4000000 in
theorem vVDots {w:World} {S:Nat→Prop} {M:List Nat} {er:Nat→Addr} {eb:Nat→Array Value×TypeId} {b mk md:Nat} {ba a1:Option Addr} {p nb cb n1 c1 clock:Nat} {base at':List Int} {es:Array MapEntry} {ks:List ByteArray} {F:ByteArray→Value} {L:List PutT} {key text:ByteArray} (hC:Rep w S .nilIface (dC er eb))
  (hP:Pre w S M (chV b mk md ba p nb cb clock es ks F L))
  (hb:Rep w S (.slice ba nb cb) (dInts base)) (hbv:vecErr base=0) (hbl:base.length=p) (h1:Rep w S (.slice a1 n1 c1) (dInts at')) (hl1:at'.length≤1000000) (hL:L.length≤300000) (hLr:∀q∈L,(comFault (oneC q)).code=0∧q.when.length=p)
  (hm:MapG (MapKept.IsKey .string) es (strG ks F)) (hnd:ks.Nodup) (hiff:∀t,t∈ks↔keyC L t≠[]) :
  Calls Tryz.prog 42 #[.pointer (some ⟨b,0,none⟩),.string key,.string text,.slice a1 n1 c1] w fun e w'=>
   (atErr p base key at'≠0∧Ret M w S w' e (.tuple #[.slice none 0 0,.iface 243 (.pointer (some (er (atErr p base key at'))))]) (chV b mk md ba p nb cb clock es ks F L) []) ∨
   (atErr p base key at'=0∧∃ua un uc,Ret M w S w' e (.tuple #[.slice ua un uc,.nilIface]) (chV b mk md ba p nb cb clock es ks F L) [(.slice ua un uc,.sl 3 ((dotsOf key text (withinC L key at')).map eDot))]):=by
 have hLv:∀q∈L,vecErr q.when=0∧q.when.length=p:=fun q hq=>⟨(right_of (hLr q hq).1).vec,(hLr q hq).2⟩
 have hvl:=vecErr_len hbv
 refine enG Tryz.func42 bd42 (args:=[.pointer (some ⟨b,0,none⟩),.string key,.string text,.slice a1 n1 c1]) (S:=S) (G:=[(_,dC er eb),(_,dInts at'),(_,dInts base)]) (by kernel_rfl) hP (.cons hC (.cons h1 (.cons hb (.nil _ _)))) ?_
 refine Zs [zR 0,zR 1] [] [zS 8 none 0 0,zV 9 .nilIface] ?_
 refine jS [(0,true),(1,true),(2,true),(3,false),(4,true),(5,true),(6,true),(7,true),(8,true)] [] ?_
 refine Ya (id:=1) (rest:=[(3,false),(4,true),(5,true),(6,true),(7,true),(8,true)]) (Rds 0 3) [0,3] [zP 13 b,zV 14 (.string key),zS 15 a1 n1 c1] ?_
 refine JR_call [] [0,1,2,3] 78 #[.pointer (some (⟨b,0,none⟩)),.string key,.slice a1 n1 c1] (some 16) (by kernel_rfl) (by kernel_rfl) (by decide) (fun w S M hP hG _=>?_)
 refine(vWithinK (key:=key) (hG.at 0 rfl) hP (hG.at 2 rfl) hbv hbl (hG.at 1 rfl) hl1 (by omega) hLv hm hnd hiff).mono ?_
 rintro e1 w1 (⟨hae,hR⟩|⟨hae,ua,un,uc,hR⟩)
 ·refine⟨_,_,_,hR,?_⟩
  try simp only[aQ]
  refine Ya (id:=1) (rest:=[]) (Rds 4 9) [16,13,14,15] [zS 10 none 0 0,zV 11 (.iface 243 (.pointer (some (er (atErr p base key at')))))] ?_
  try simp only[aQ]
  refine JR_end ?_
  try simp only[aQ]
  refine J_seq ?_
  try simp only[aQ]
  refine J_seq ?_
  try simp only[aQ]
  refine Za [zR 0,zR 1] [] [zB 20 true] ?_
  try simp only[aQ]
  refine cTt ?_
  try simp only[aQ]
  refine J_seq ?_
  try simp only[aQ]
  refine Za (Rds 0 3) [20,11] [zV 9 (.iface 243 (.pointer (some (er (atErr p base key at')))))] ?_
  try simp only[aQ]
  refine Yr [[],[]] (.tuple #[.slice none 0 0,.iface 243 (.pointer (some (er (atErr p base key at'))))]) fun a w s=>?_
  exact .inl ⟨hae,s.ret (by simp) [0,1,2,3] [] rfl rfl⟩
 ·have hnm:nameOk key=true:=by
   cases hn:nameOk key with
   | true=>rfl
   | false=>
    rw[atErr,if_pos hn]at hae
    cases hae
  have hvf:=withinC_fine (key:=key) (at':=at') hnm hLr
  have hwl:=withinC_len L key at'
  have hwm:∀x∈withinC L key at',x.when.length≤1000000∧x.ops.length≤1000000:=fun x hx=>by
   obtain⟨q,hq,rfl⟩:=mem_keyC (List.mem_filter.1 hx).1
   refine⟨?_,by simp[oneC]⟩
   show q.when.length≤1000000
   have:=(hLr q hq).2
   omega
  refine⟨_,_,_,hR,?_⟩
  try simp only[aQ]
  refine Ya (id:=1) (rest:=[]) (Rds 4 9) [16,13,14,15] [zS 10 ua un uc,zV 11 .nilIface] ?_
  try simp only[aQ]
  refine JR_end ?_
  try simp only[aQ]
  refine J_seq ?_
  try simp only[aQ]
  refine J_seq ?_
  try simp only[aQ]
  refine Za [zR 0,zR 1] [] [zB 20 false] ?_
  try simp only[aQ]
  refine cF ?_
  try simp only[aQ]
  refine J_skip ?_
  try simp only[aQ]
  refine J_seq ?_
  try simp only[aQ]
  refine jT [(0,true),(1,true),(2,true),(3,false),(4,true),(5,true),(6,true),(7,true)] [] ?_
  refine Ya (id:=4) (rest:=[(3,false),(4,true),(5,true),(6,true),(7,true)]) (Rds 0 3) [20,10,11,1,2] [zV 22 (.string key),zV 23 (.string text),zS 24 ua un uc] ?_
  refine Yc 23 #[.string key,.string text,.slice ua un uc] (some 25) fun w S hG=>?_
  refine(vDots (key:=key) (text:=text) (hG.at 0 rfl) (hG.at 3 rfl) (by omega) (fun x hx=>(hwm x hx).1) (fun x hx=>(hwm x hx).2)).mono ?_
  rintro e2 w2 (⟨hc,_⟩|⟨hc,va,vn,vc,hR⟩)
  ·exact absurd hvf hc
  refine⟨_,_,_,hR,?_⟩
  try simp only[aQ]
  refine Ya (id:=4) (rest:=[]) (Rds 4 8) [25,22,23,24] [zS 8 va vn vc] ?_
  try simp only[aQ]
  refine JR_end ?_
  try simp only[aQ]
  refine Yr [[],[]] (.tuple #[.slice va vn vc,.nilIface]) fun a w s=>?_
  exact .inr ⟨hae,_,_,_,s.ret (by simp) [0,1,2,3] [4] rfl rfl⟩
end Go.Proofs.YtpjkiomccpjboaaGreatDoor
end
section
namespace Go.Proofs.YtpjkiomccpjboaaGreatDoor
open Go Go.Sx
set_option maxHeartbeats 4000000 in
theorem vBase {w:World} {S:Nat→Prop} {M:List Nat} {b mk md:Nat} {ba:Option Addr} {p nb cb:Nat} {base:List Int}
  (hP:Pre w S M [cObj b (.cells #[.int .i64 p,.slice ba nb cb,.map (some mk),.map (some md)] 133 (0,0))])
  (hb:Rep w S (.slice ba nb cb) (dInts base)) (hbl:base.length≤1000000) :
  Calls Tryz.prog 49 #[.pointer (some ⟨b,0,none⟩)] w fun e w'=>∃ua uc,Ret M w S w' e (.slice ua nb uc) [cObj b (.cells #[.int .i64 p,.slice ba nb cb,.map (some mk),.map (some md)] 133 (0,0))] [(.slice ua nb uc,dInts base)]:=by
 refine enG Tryz.func49 bd49 (args:=[.pointer (some ⟨b,0,none⟩)]) (S:=S) (G:=[(_,dInts base)]) (by kernel_rfl) hP (.cons hb (.nil _ _)) ?_
 refine J_show 0 rfl ?_
 refine Zs [zR 0] [] [zS 2 none 0 0] ?_
 refine jS [(0,true),(1,true),(2,true),(3,true),(4,false),(5,true)] [] ?_
 refine Ya (id:=1) (rest:=[(4,false),(5,true)]) (Rds 0 3++[.rd 3 [.o 0 none] 0 0]) [0] [zS 6 ba nb cb] ?_
 refine Yc 80 #[.slice ba nb cb] (some 7) fun w S hG=>?_
 refine(cloneInts (hG.at 0 rfl) hbl).mono ?_
 rintro e1 w1 ⟨ua,uc,hR⟩
 refine⟨_,_,_,hR,?_⟩
 try simp only[aQ]
 refine Ya (id:=1) (rest:=[]) [zR 5] [7,6] [zS 2 ua nb uc] ?_
 try simp only[aQ]
 refine JR_end ?_
 try simp only[aQ]
 refine Yr [[]] (.slice ua nb uc) fun a w s=>?_
 exact⟨_,_,((s.stp (stp_freeze 0 rfl)).hide 0 rfl).ret (by simp) [0] [1] rfl rfl⟩
end Go.Proofs.YtpjkiomccpjboaaGreatDoor
end
section
namespace Go.Proofs.YtpjkiomccpjboaaGreatDoor
open Go Go.Sx
set_option maxHeartbeats 4000000 in
theorem faultedErr {w:World} {S:Nat→Prop} {er:Nat→Addr} {eb:Nat→Array Value×TypeId} {k:Nat} {a:Int} {v:Value} (hC:Rep w S .nilIface (dC er eb)) (hI:Inj er) (hk:k≤12) (hv:ErrIs 243 er k v) (ha:a = -1) :
  Calls Tryz.prog 16 #[v,.agg #[.int .i64 k,.int .i64 a]] w fun e w'=>Ret [] w S w' e (.bool true) [] []:=by
 subst ha
 have hv1:v.oneCell'=true:=by rcases hv with ⟨_,rfl⟩|⟨_,rfl⟩ <;> rfl
 refine epG Tryz.func16 bd16 (args:=[v,.agg #[.int .i64 k,.int .i64 (-1)]]) (G:=[(_,dC er eb)]) (by kernel_rfl) (.cons hC (.nil _ _)) ?_
 refine Zv [.wr 0 [] 0,zR 1] [] [1] (fun nu1=>[zP 3 (nu1 0),zB 4 false]) (fun nu1=>[(nu1 0,.cells #[nI (↑k:Int),nI (-1)] 40 (0,0))]) (fun nu1=>?_)
 refine jS [(0,true),(1,false),(2,true),(3,true),(4,true),(5,true),(6,true)] [] ?_
 refine Ya (id:=1) (rest:=[(1,false),(2,true),(3,true),(4,true),(5,true),(6,true)]) [zR 0] [0] [zV 8 v] ?_
 refine Yc 53 #[v] (some 9) fun w S hG=>?_
 refine(codeErr (hG.at 0 rfl) hI hk hv).mono ?_
 rintro e1 w1 hR
 refine⟨_,_,_,hR,?_⟩
 by_cases h0:k=0
 ·subst h0
  try simp only[aQ]
  refine Ya (id:=1) (rest:=[]) (Rds 2 7) [9,8] [zI 5 0,zI 6 (-1)] ?_
  refine JR_end ?_
  refine Zs ([zR 0,zR 1,.rd 2 [.o 0 none] 0 0]++Rds 3 8++[.rd 8 [] 1 0,.rd 9 [] 1 0,.rd 10 [] 1 0,.rd 11 [] 1 0]++Rds 12 15) [5,6,3] [zB 4 true] ?_
  refine Yr [[]] (.bool true) fun a w s=>?_
  exact s.ret (by simp) [] [] rfl rfl
 ·try simp only[aQ]
  refine Ya (id:=1) (rest:=[]) (Rds 2 7) [9,8] [zI 5 (↑k:Int),zI 6 (-1)] ?_
  refine JR_end ?_
  refine Zt ([zR 0,zR 1,.rd 2 [.o 0 none] 0 0,.rd 3 [] 0 6,zR 4,zR 5,.rd 6 [] 0 7]++Rds 7 10++[.rd 10 [.o 0 none] 0 0]++Rds 11 15) [5,6,3] [zB 4 true] [((↑k:Int)==(↑k:Int))=true,((↑k:Int)==(0:Int))=false] ⟨by simp,by simp;omega,trivial⟩ ?_
  refine Yr [[]] (.bool true) fun a w s=>?_
  exact s.ret (by simp) [] [] rfl rfl
set_option maxHeartbeats 4000000 in
theorem faultedAt {w:World} {S:Nat→Prop} {er:Nat→Addr} {eb:Nat→Array Value×TypeId} {k pb:Nat} {at':Int} (hC:Rep w S .nilIface (dC er eb)) (hI:Inj er) (h1:1≤k) (hk:k≤12) (hp:Rep w S (.pointer (some ⟨pb,0,none⟩)) (.ptr [.v (.int .i64 at'),.v (.iface 243 (.pointer (some (er k))))])) :
  Calls Tryz.prog 16 #[.iface 102 (.pointer (some ⟨pb,0,none⟩)),.agg #[.int .i64 k,.int .i64 at']] w fun e w'=>Ret [] w S w' e (.bool true) [] []:=by
 refine epG Tryz.func16 bd16 (args:=[.iface 102 (.pointer (some ⟨pb,0,none⟩)),.agg #[.int .i64 k,.int .i64 at']]) (G:=[(_,dC er eb),(_,.ptr [.v (.int .i64 at'),.v (.iface 243 (.pointer (some (er k))))])]) (by kernel_rfl) (.cons hC (.cons hp (.nil _ _))) ?_
 refine Zv [.wr 0 [] 0,zR 1] [] [1] (fun nu1=>[zP 3 (nu1 0),zB 4 false]) (fun nu1=>[(nu1 0,.cells #[nI (↑k:Int),nI at'] 40 (0,0))]) (fun nu1=>?_)
 refine jS [(0,true),(1,false),(2,true),(3,true),(4,true),(5,true),(6,true)] [] ?_
 refine Ya (id:=1) (rest:=[(1,false),(2,true),(3,true),(4,true),(5,true),(6,true)]) [zR 0] [0] [zV 8 (.iface 102 (.pointer (sA pb 0)))] ?_
 refine Yc 53 #[.iface 102 (.pointer (sA pb 0))] (some 9) fun w S hG=>?_
 refine(codeFault (hG.at 0 rfl) hI h1 hk (hG.at 1 rfl)).mono ?_
 rintro e1 w1 hR
 refine⟨_,_,_,hR,?_⟩
 have h0:¬k=0:=by omega
 try simp only[aQ]
 refine Ya (id:=1) (rest:=[]) (Rds 2 7) [9,8] [zI 5 (↑k:Int),zI 6 at'] ?_
 refine JR_end ?_
 refine Zt ([zR 0,zR 1,.rd 2 [.o 0 none] 0 0,.rd 3 [] 0 6,zR 4,zR 5,.rd 6 [] 0 7]++Rds 7 10++[.rd 10 [.o 0 none] 0 0,.rd 11 [] 0 6]++Rds 12 15) [5,6,3] [zB 4 true] [((↑k:Int)==(↑k:Int))=true,((↑k:Int)==(0:Int))=false,(at'==at')=true] ⟨by simp,by simp;omega,by simp,trivial⟩ ?_
 refine Yr [[]] (.bool true) fun a w s=>?_
 exact s.ret (by simp) [] [] rfl rfl
end Go.Proofs.YtpjkiomccpjboaaGreatDoor
namespace Go.Proofs.YtpjkiomccpjboaaGreatDoor
open Go Go.Sx
theorem heavyC_cases (c:ComT):heavyC c=0∨heavyC c=1:=by
 unfold heavyC
 split
 ·exact .inr rfl
 ·split
  ·exact .inr rfl
  ·exact .inl rfl
theorem heavyC_len {c:ComT} (h:heavyC c=0):c.when.length≤20∧c.ops.length≤20∧∀o∈c.ops,o.dots.length≤70:=by
 unfold heavyC at h
 split at h
 ·cases h
 ·split at h
  ·cases h
  ·rename_i h1 h2
   refine⟨by omega,by omega,fun o ho=>?_⟩
   have h3:heavyOp o=false:=by
    cases h4:heavyOp o with
    | false=>rfl
    | true=>exact absurd (List.any_eq_true.2 ⟨o,ho,h4⟩) h2
   simp[heavyOp]at h3
   omega
end Go.Proofs.YtpjkiomccpjboaaGreatDoor
end
section
namespace Go.Sx
open Go Go.RowKit Go.ChangeShapes Go.WideShapes
theorem Fr.below {w w':World} (h:Fr [] w w'):Below w.heap.size w w':=⟨h.os,h.tape,h.output,h.size,fun b hb=>h.block b hb (by simp)⟩
theorem cell_blk {w:World} {a:Addr} {v:Value} (h:w.cell? a=some v):∃cs ty fz,w.heap[a.block]?=some (.cells cs ty fz)∧a.spot=none∧cs[a.off]?=some v:=by
 unfold World.cell? at h
 split at h
 ·rename_i cs ty fz hb
  split at h
  ·cases h
  ·rename_i hs
   exact⟨cs,ty,fz,hb,by simpa using hs,h⟩
 ·cases h
section
variable {H:Type} {enc:TypeId×Value→H} {P:Program}
theorem rep_var {W:World} {n:String} {g:Nat} {x:Value} (hg:P.globalNamed n=some g) (h:W.var? P n=some #[x]) (hx:x.oneCell'=true):Rep W (fun _=>True) (.pointer (some ⟨g,0,none⟩)) (.ptr [.v x]):=by
 unfold World.var? at h
 simp only[hg,Option.bind_some]at h
 split at h
 ·rename_i cs ty fz hb
  cases h
  refine .ptr (fun _=>x) hb trivial (fun j hj=>?_) (fun j d hj=>?_)
  ·obtain rfl:j=0:=by simpa using hj
   rfl
  ·match j,hj with
   | 0,hj=>
    simp only[List.getElem?_cons_zero,Option.some.injEq]at hj
    subst hj
    exact .v hx
   | j+1,hj=>simp at hj
 ·cases h
theorem sents {W:World} {ti tp te ts:TypeId} {ms:Array (String×TypeId)} {nm:String} {f:Field} (hi:P.underlying ti=some (.interface ms)) (hrow:∀u,P.typeName? 3 u=some nm→u=tp)
  (hp:P.underlying tp=some (.pointer te)) (he:P.underlying te=some (.struct #[f])) (hft:f.type=ts) (hfo:f.offset=0) (hs:P.underlying ts=some .string) (hc:P.cellsOf te=1) (hcs:P.cellsOf ts=1) :
  ∀(ns:List (String×List UInt8)) (ps:List MemPlace),DataW.LaidVars P W (ns.map fun x=>(x.1,DataW.iface nm (.ptr (.agg [.lit (.string x.2)])))) ps →
   ns.all (fun x=>match P.globalNamed x.1 with
    | some g=>(P.globals[g]?).map (·.type)==some ti
    | none=>false)=true →
   (∀b off,MemPlace.cell b off∈ps→∀u v,W.cell? ⟨b,off,none⟩=some (.iface u v)→Value.okWide P W .any 0 u v) →
   ∃adz:List Addr,adz.length=ns.length∧(∀(i:Nat) x a,ns[i]?=some x→adz[i]?=some a→W.var? P x.1=some #[.iface tp (.pointer (some a))]∧a.spot=none)∧(adz.map fun a=>MemPlace.cell a.block a.off).Sublist ps
 | [],ps,_,_,_=>⟨[],rfl,by simp,by simp⟩
 | (n,text)::ns,ps,h,hg,hr=>by
  rw[List.map_cons]at h
  obtain⟨g0,t0,cs0,f0,p0,q0,hg0,ht0,hv0,hd0,hq,e0⟩:=h
  rw[List.all_cons,Bool.and_eq_true]at hg
  obtain⟨hg1,hg2⟩:=hg
  simp only[hg0,ht0,beq_iff_eq,Option.some.injEq]at hg1
  subst hg1 e0
  obtain⟨l0⟩:=cs0
  have ok0:∀u v,l0=[.iface u v]→Value.okWide P W .any 0 u v:=fun u v e=>by
   subst e
   exact hr g0 0 (by simp[MemPlace.row]) u v (by simpa using World.var?_cell hg0 hv0 0)
  obtain⟨a0,s0,rfl,hc0,hs0,hz0,rfl⟩:=errorString_of_trod hi hrow hp he hft hfo hs hc hcs hd0 ok0
  obtain⟨adz,h1,h2,h3⟩:=sents hi hrow hp he hft hfo hs hc hcs ns q0 hq hg2 fun b off hm=>hr b off (List.mem_append_right _ hm)
  obtain⟨_,_,_,_,hspot,_⟩:=cell_blk hc0
  refine⟨a0::adz,by simp[h1],fun i x a hx ha=>?_,?_⟩
  ·cases i with
   | zero=>
    simp only[List.getElem?_cons_zero,Option.some.injEq]at hx ha
    subst hx ha
    exact⟨hv0,hspot⟩
   | succ i=>
    simp only[List.getElem?_cons_succ]at hx ha
    exact h2 i x a hx ha
  ·rw[List.map_cons,List.append_assoc]
   refine(List.Sublist.cons_cons _ h3).trans (?_:List.Sublist _ (MemPlace.row a0 1++q0)) |>.trans (List.sublist_append_right _ _)
   simp[MemPlace.row]
theorem errs_of {W:World} {ti tp te ts:TypeId} {ms:Array (String×TypeId)} {nm:String} {f:Field} (hi:P.underlying ti=some (.interface ms)) (hrow:∀u,P.typeName? 3 u=some nm→u=tp)
  (hp:P.underlying tp=some (.pointer te)) (he:P.underlying te=some (.struct #[f])) (hft:f.type=ts) (hfo:f.offset=0) (hs:P.underlying ts=some .string) (hc:P.cellsOf te=1) (hcs:P.cellsOf ts=1)
  (ns:List (String×List UInt8)) (h:laidMet P (ns.map fun x=>(x.1,DataW.iface nm (.ptr (.agg [.lit (.string x.2)])))) W)
  (hg:ns.all (fun x=>match P.globalNamed x.1 with
    | some g=>(P.globals[g]?).map (·.type)==some ti
    | none=>false)=true) :
  ∃(er:Nat→Addr) (eb:Nat→Array Value×TypeId),(∀(i:Nat) x,ns[i]?=some x→W.var? P x.1=some #[.iface tp (.pointer (some (er (i+1))))]∧W.heap[(er (i+1)).block]?=some (.cells (eb (i+1)).1 (eb (i+1)).2 (0,0))) ∧
   ∀i j,1≤i→i≤ns.length→1≤j→j≤ns.length→er i=er j→i=j:=by
 obtain⟨ps,hv,hnd,hrows⟩:=h
 obtain⟨adz,h1,h2,h3⟩:=sents hi hrow hp he hft hfo hs hc hcs ns ps hv hg fun b off hm=>(hrows b off hm).2
 have hnd2:=h3.nodup hnd
 have key:∀i:Nat,i<ns.length→∃a,adz[i]?=some a:=fun i hi=>⟨_,List.getElem?_eq_getElem (by omega)⟩
 have hcell:∀(i:Nat) a,adz[i]?=some a→∃c:Array Value×TypeId,W.heap[a.block]?=some (.cells c.1 c.2 (0,0)):=fun i a ha=>by
  obtain⟨c,t,hct⟩:=(hrows a.block a.off (h3.subset (List.mem_map.2 ⟨a,List.mem_of_getElem? ha,rfl⟩))).1
  exact⟨(c,t),hct⟩
 classical
 refine⟨fun k=>adz.getD (k - 1) ⟨0,0,none⟩,fun k=>if hx:∃c:Array Value×TypeId,W.heap[(adz.getD (k - 1) ⟨0,0,none⟩).block]?=some (.cells c.1 c.2 (0,0))then hx.choose else (#[],0),fun i x hx=>?_,fun i j hi1 hi2 hj1 hj2 he=>?_⟩
 ·obtain⟨a,ha⟩:=key i (List.getElem?_eq_some_iff.1 hx).1
  have e:adz.getD (i+1 - 1) ⟨0,0,none⟩=a:=by simp[List.getD_eq_getElem?_getD,ha]
  have hh:=hcell i a ha
  simp only[e]
  refine⟨(h2 i x a hx ha).1,?_⟩
  rw[dif_pos hh]
  exact hh.choose_spec
 ·obtain⟨a,ha⟩:=key (i - 1) (by omega)
  obtain⟨b,hb⟩:=key (j - 1) (by omega)
  simp only[List.getD_eq_getElem?_getD,ha,hb,Option.getD_some]at he
  subst he
  have e1:(adz.map fun a=>MemPlace.cell a.block a.off)[i - 1]?=some (.cell a.block a.off):=by simp[ha]
  have e2:(adz.map fun a=>MemPlace.cell a.block a.off)[j - 1]?=some (.cell a.block a.off):=by simp[hb]
  have:=(List.getElem?_inj (List.getElem?_eq_some_iff.1 e1).1 hnd2).1 (e1.trans e2.symm)
  omega
theorem trodAll_again (hl:laidOutB P=true) {W W':World} {sp:Nat→Bool} (hb:Below W.heap.size W W'):∀{ts:List TypeId} {vs:List Value} {ds:List (DataW H)} {ps:List MemPlace},
  (∀t∈ts,P.readableRec t=true∧t<P.types.size)→DataW.TrodAll enc P W 0 (fun _=>true) true ts vs ds ps→(∀x∈ps,x.block<W.heap.size)→(∀x∈ps,sp x.block=true)→DataW.TrodAll enc P W' 0 sp true ts vs ds ps
 | [],vs,ds,ps,_,h,_,_=>by
  obtain⟨rfl,rfl,rfl⟩:=trodAll_nil h
  exact trodAll_mk0
 | t::ts,vs,ds,ps,ht,h,hlt,hsp=>by
  obtain⟨v,vs',d,ds',p,q,rfl,rfl,rfl,h0,h1⟩:=trodAll_cons h
  obtain⟨hr,hrow⟩:=ht t (List.mem_cons_self ..)
  refine trodAll_cons_mk (WideElems.Trod_stays hl hr hrow h0 (fun x hx=>hb.same (hlt x (List.mem_append_left _ hx))) fun x hx=>hsp x (List.mem_append_left _ hx)) ?_
  exact trodAll_again hl hb (fun t ht'=>ht t (List.mem_cons_of_mem _ ht')) h1 (fun x hx=>hlt x (List.mem_append_right _ hx)) fun x hx=>hsp x (List.mem_append_right _ hx)
theorem law_post {f:Func} {s:ChangeSpec} {apart fresh handsOn again:Bool} {W W':World} {args:Array Value} {ds gs:List (DataW H)} {before:List MemPlace} {tb:TypeId}
  (hl:laidOutB P=true) (hts:f.params.toList.all (fun t=>P.readableRec t&&Nat.blt t P.types.size)=true) (hb4:P.underlying tb=some .bool) (hrt:f.resultTypes = #[tb]) (hvs:s.vars=[])
  (hW:DataW.Whole enc P f.params.toList s.vars apart W args.toList ds gs before) (hfn:∀gs,gs=[]→s.fn H (ds++gs)={ results:=[.lit (.bool true)],args:=ds })
  (hb:Below W.heap.size W W'):s.post enc P f apart fresh handsOn again W args (.bool true) W':=by
 have hlt:∀x∈before,x.block<W.heap.size:=fun x hx=>hW.lt x hx
 have hold:∀x∈before,(fun b=>decide (b<W.heap.size)) x.block=true:=fun x hx=>by simpa using hlt x hx
 have hW':=hW
 obtain⟨p,q,hA,hV,hpq,hz,hn⟩:=hW'
 rw[hvs]at hV
 obtain⟨rfl,rfl⟩:=trodVars_none hV
 rw[List.append_nil]at hpq
 subst hpq
 have hfn:=hfn [] rfl
 have htt:∀t∈f.params.toList,P.readableRec t=true∧t<P.types.size:=fun t ht=>by
  have:=List.all_eq_true.1 hts t ht
  simp only[Bool.and_eq_true]at this
  exact⟨this.1,Nat.lt_of_succ_le (Nat.le_of_ble_eq_true this.2)⟩
 have hres:∀(b:Nat) (sp:Nat→Bool) (hd:Bool),DataW.TrodAll enc P W' b sp hd f.resultTypes.toList ((Value.bool true).resultList f.resultTypes.size) (s.fn H (ds++[])).results []:=fun b sp hd=>by
  rw[hfn,hrt]
  exact trodAll_mk1 ⟨1,by simp[DataW.trod,Value.cells,hb4]⟩
 have hargs:∀sp:Nat→Bool,(∀x∈before,sp x.block=true)→DataW.TrodAll enc P W' 0 sp true f.params.toList args.toList (s.fn H (ds++[])).args before:=fun sp hsp=>by
  rw[hfn]
  exact trodAll_again hl hb htt hA hlt hsp
 have hvars:∀sp:Nat→Bool,DataW.TrodVars enc P W' sp s.vars (s.fn H (ds++[])).vars []:=fun sp=>by
  rw[hvs,hfn]
  rfl
 refine⟨ds,[],before,[],before,[],hW,hres _ _ _,hargs _ hold,hvars _,World.keptBut_mono (fun x hx=>⟨hx,.inr (.inl hx)⟩) (hb.frame (·∈before)),fun _=>?_⟩
 refine⟨?_,_,_,([]++before)++[],⟨[]++before,[],trodAll_append (hargs _ (fun _ _=>rfl)) (hres _ _ _),hvars _,rfl,?_,?_⟩,?_⟩
 ·intro j t r hj hv
  rw[hrt]at hj hv
  match j,hj,hv with
  | 0,hj,hv=>
   simp[Value.resultList]at hj hv
   subst hj;subst hv
   simp[Value.okWide,hb4,Cell.okWide,Cell.ok]
  | j+1,hj,hv=>simp at hj
 ·intro b off hp
  have hin:MemPlace.cell b off∈before:=by simpa using hp
  rw[hb.frozen (hlt _ hin)]
  exact hz b off hin
 ·intro ha
  simpa using hn ha
 ·intro x hx _
  simpa using hx
end
end Go.Sx
end
