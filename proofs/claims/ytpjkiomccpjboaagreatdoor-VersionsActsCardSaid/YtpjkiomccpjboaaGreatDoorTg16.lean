/- Part 16 of the texts of a claim: OpenV Tx22 VActsT OfL VActsR VActsP. -/
import Derived.Test.YtpjkiomccpjboaaGreatDoorTg15
section
namespace Go.Sx
open Go
structure VActT where
 kind:ByteArray
 key:ByteArray
 text:ByteArray
 c:ComT
 at':List Int
end Go.Sx
namespace Go.Proofs.YtpjkiomccpjboaaGreatDoor
open Go Go.Sx
def eVAct (a:VActT):List D:=[.v (.string a.kind),.v (.string a.key),.v (.string a.text)]++eCom a.c++[dInts a.at']
structure OkVAct (a:VActT):Prop where
 kind:a.kind.size≤maxLen
 key:a.key.size≤maxLen
 text:a.text.size≤maxLen
 c:OkCom a.c
 at':(∀z∈a.at',Rng z)∧a.at'.length≤maxLen
section
variable {W:World}
theorem opVAct:Opens Tryz.prog W 75 7 eVAct OkVAct:=
 (Opens.struct Tryz.underlying75 (by kernel_rfl) (.cons opStr rfl (.cons opStr rfl (.cons opStr rfl (.cons opCom rfl (.cons opInts rfl .nil)))))).map (fun x=>⟨x.1,x.2.1,x.2.2.1,x.2.2.2.1,x.2.2.2.2.1⟩) (fun _=>rfl) fun _ h=>⟨h.1,h.2.1,h.2.2.1,h.2.2.2.1,h.2.2.2.2.1⟩
theorem opVActs:Opens Tryz.prog W 68 1 (fun l:List VActT=>[.sl 7 (l.map eVAct)]) (fun l=>(∀d∈l,OkVAct d)∧l.length≤maxLen):=.slice opVAct Tryz.underlying68 (by kernel_rfl) (by decide)
end
end Go.Proofs.YtpjkiomccpjboaaGreatDoor
end
section
namespace Go.Sx
open Go
section reads
variable {P:Program} {f:Func} {R:Act→World→Prop} {n:Nat} {kk:List Itm} {E:Env} {h r:List (Nat×Obj)} {F:List (List Nat×World)}
theorem J_read3 {S0:Nat→Prop} {C0:List Chunk} {G0:List (Value×D)} (p:Nat) {a:Option Addr} {m c k:Nat} {rows:List (List D)} (hG:G0[p]?=some (.slice a m c,.sl k rows)) (i:Nat) {row:List D} (hrow:rows[i]?=some row) (hs:sls row=3)
  (H:∀b off cs e fz a1 c1 a2 c2 a3 c3,a=some ⟨b,off,none⟩→(∀(j:Nat) u,(inst row [(a1,c1),(a2,c2),(a3,c3)])[j]?=some u→cs[off+i*k+j]?=some u)→J P f R n kk E h (r++[(b,.cells cs e fz)]) F ⟨S0,C0,G0++deep row [(a1,c1),(a2,c2),(a3,c3)]⟩):J P f R n kk E h r F ⟨S0,C0,G0⟩:=
 J_readl p hG i hrow fun b off cs e fz ls h1 h2 h3=>by
  rw[hs]at h2
  match ls,h2,h3 with
  | [(a1,c1),(a2,c2),(a3,c3)],_,h3=>exact H b off cs e fz a1 c1 a2 c2 a3 c3 h1 h3
theorem StF.show {Y:Ghost} {a:Act} {w:World} {fps:List (List Nat)} (s:StF n E h r F Y a w fps) (i:Nat) {b:Nat} {o:Obj} (hi:Y.C[i]?=some (cObj b o)):StF n E (h++[(b,o)]) r F ⟨Y.S,Y.C.eraseIdx i,Y.G⟩ a w (fps.eraseIdx i):=by
 obtain⟨fp,hfp,rfl,hb⟩:=s.gh.chs.at hi
 have hm:b∈fps.flatten:=List.mem_flatten.2 ⟨_,List.mem_of_getElem? hfp,by simp⟩
 have hnb:b∉(fps.eraseIdx i).flatten:=fun hc=>by
  obtain⟨j,x,hj,hx,hbx⟩:=mem_erase_flat hc
  exact hj (flat_at s.gh.nodup hx hfp hbx (by simp))
 have hids:(h++[(b,o)]).map (·.1)=h.map (·.1)++[b]:=by simp
 have hS:∀c,Sd Y h fps c→Sd Y (h++[(b,o)]) (fps.eraseIdx i) c:=fun c hc=>⟨hc.1,fun hx=>by
  rw[hids]at hx
  rcases List.mem_append.1 hx with hx|hx
  ·exact hc.2.1 hx
  ·rw[List.mem_singleton]at hx
   subst hx
   exact hc.2.2 hm,fun hx=>hc.2.2 (erase_flat_sub hx)⟩
 have hin:∀x∈h++[(b,o)],x∈h∨x=(b,o):=fun x hx=>by simpa using hx
 refine⟨s.ag,⟨fun x hx=>?_,?_,s.own.ro,fun x hx hc=>?_⟩,s.fr,fun f hf x hx=>?_,
  ⟨s.gh.chs.erase.mono (fun _ _=>rfl) fun c hc _=>⟨hS c hc,rfl⟩,nodup_sublist_flat s.gh.nodup (List.eraseIdx_sublist _ _),fun c hc hx=>?_,fun x hx hc=>s.gh.apart x hx (erase_flat_sub hc),fun f hf c hc=>s.gh.may f hf c (erase_flat_sub hc),fun c hc=>s.gh.lt c (erase_flat_sub hc),fun x hx=>?_,fun c hc=>s.gh.hid c (erase_flat_sub hc),s.gh.top,fun x hx=>(s.gh.g x hx).mono fun c hc _=>⟨hS c hc,rfl⟩⟩⟩
 ·rcases hin x hx with h1|rfl
  ·exact s.own.own x h1
  ·exact hb
 ·rw[hids,List.nodup_append]
  refine⟨s.own.nodup,by simp,fun x hx y hy hxy=>?_⟩
  simp at hy
  subst hy hxy
  exact s.gh.disj _ hm hx
 ·rw[hids]at hc
  rcases List.mem_append.1 hc with hc|hc
  ·exact s.own.apart x hx hc
  ·rw[List.mem_singleton]at hc
   exact s.gh.apart x hx (by rw[hc];exact hm)
 ·rcases hin x hx with h1|rfl
  ·exact s.may f hf x h1
  ·exact s.gh.may f hf _ hm
 ·rw[hids]at hx
  rcases List.mem_append.1 hx with hx|hx
  ·exact s.gh.disj c (erase_flat_sub hc) hx
  ·rw[List.mem_singleton]at hx
   subst hx
   exact hnb hc
 ·rcases hin x hx with h1|rfl
  ·exact s.gh.own x h1
  ·exact s.gh.hid _ hm
theorem others_last (m q:Nat) (hq:q<m):others (m+1) [m,q]=others m [q]:=by
 unfold others
 rw[List.range_succ,List.filter_append]
 have h1:([m]:List Nat).filter (fun i=>!([m,q]:List Nat).contains i)=[]:=by simp
 rw[h1,List.append_nil]
 refine List.filter_congr fun x hx=>?_
 have hxm:x<m:=List.mem_range.1 hx
 have:x≠m:=by omega
 simp[this]
theorem pick_appl {α:Type} {l:List α} (x:α) {is:List Nat} (h:∀i∈is,i<l.length):pick (l++[x]) is=pick l is:=by
 unfold pick
 induction is with
 | nil=>rfl
 | cons j r ih=>
  rw[List.filterMap_cons,List.filterMap_cons,List.getElem?_append_left (h j (List.mem_cons_self ..)),ih fun i hi=>h i (List.mem_cons_of_mem _ hi)]
theorem JR_callh {S0:Nat→Prop} {C0:List Chunk} {G0:List (Value×D)} {id L0 i:Nat} {ck:Bool} {Wp:List (Nat×List Nat)} {rest:List (Nat×Bool)} (hs:List Hn) (q:Nat) (fid:FuncId) (args:Array Value) (dst:Option Tmp) {b:Nat} {o:Obj} {c:Chunk}
  (he:chkC (callOf P n (rgOf f id) [(b,o)] r E i hs)=(some (fid,args,dst),trivC (callOf P n (rgOf f id) [(b,o)] r E i hs),0)) (hok:∃ps,Wp.lookup i=some ps∧0∈ps) (hq:C0[q]?=some c)
  (C:∀w S M,Pre w S M [cObj b o,c]→AllG w S G0→Calls P fid args w fun e w'=>∃v C' G',Ret M w S w' e v (cObj b o::C') G' ∧
   JR P f R n (rgOf f id) L0 ck rest (Wp.filter (·.1 != i)) kk (E.put dst (.val v)) [(b,o)] r F ⟨S0,restC C0 [q]++C',G0++G'⟩) :
  JR P f R n (rgOf f id) L0 ck ((i,false)::rest) Wp kk E [(b,o)] r F ⟨S0,C0,G0⟩:=by
 obtain⟨p,he,hp⟩:=chkC_sound he
 intro B Hd fps a w s hH hR hN hW
 simp only[PW]
 have s1:StF n E [] r F ⟨S0,C0++[cObj b o],G0⟩ a w (fps++[[b]]):=s.hide1 0 rfl
 have hql:q<C0.length:=(List.getElem?_eq_some_iff.1 hq).1
 have hlen:fps.length=C0.length:=s.gh.chs.len.symm
 have hpre:=Pre.of s1 (cs:=[C0.length,q]) (by simp;omega)
 have e1:pick (C0++[cObj b o]) [C0.length,q]=[cObj b o,c]:=by
  simp[pick,List.getElem?_append_left hql,hq]
 rw[show pick (Ghost.mk S0 (C0++[cObj b o]) G0).C [C0.length,q]=[cObj b o,c] from e1]at hpre
 have hM:∀x,x∈(pick (fps++[[b]]) [C0.length,q]).flatten→x=b∨x∈fps.flatten:=fun x hx=>by
  have:=pick_flat_sub hx
  simp at this
  rcases this with h1|h1
  ·obtain⟨l,h2,h3⟩:=h1
   exact .inr (List.mem_flatten.2 ⟨l,h2,h3⟩)
  ·exact .inl h1
 refine callOf_sound he hp s ((C w _ _ hpre s1.gh.g).mono fun e w' hh=>?_)
 obtain⟨v,C',G',hRet,H⟩:=hh
 have hf:=hRet.fr
 refine⟨v,hRet.ret,fun E' hE a' hA=>⟨fun hck x hx hl=>?_,?_⟩⟩
 ·refine hf.block x hx fun hm=>?_
  obtain⟨ps,hWl,h0⟩:=hok
  rw[lookup_idsW,hWl]at hl
  obtain⟨h1,h2⟩:=hl _ rfl
  rcases hM x hm with rfl|h3
  ·exact h2 (List.mem_append_left _ (List.mem_filterMap.2 ⟨0,h0,rfl⟩))
  ·rcases hH x h3 with h4|h4
   ·exact h2 (List.mem_append_right _ h4)
   ·omega
 ·subst hE
  rw[filter_idsW]
  obtain⟨fps',h3,s'⟩:=s1.called (cs:=[C0.length,q]) hA hRet
  have e2:pick (C0++[cObj b o]) (others (C0++[cObj b o]).length [C0.length,q])=restC C0 [q]:=by
   rw[List.length_append,List.length_singleton,others_last _ _ hql,pick_appl]
   ·rfl
   ·intro j hj
    exact List.mem_range.1 (List.mem_filter.1 hj).1
  rw[show pick (Ghost.mk S0 (C0++[cObj b o]) G0).C (others (Ghost.mk S0 (C0++[cObj b o]) G0).C.length [C0.length,q])=restC C0 [q] from e2]at s'
  have hi:(restC C0 [q]++cObj b o::C')[(restC C0 [q]).length]?=some (cObj b o):=by simp
  have s2:=s'.show _ hi
  have e3:(restC C0 [q]++cObj b o::C').eraseIdx (restC C0 [q]).length=restC C0 [q]++C':=by
   rw[List.eraseIdx_append_of_length_le (Nat.le_refl _)]
   simp
  rw[show(Ghost.mk S0 (restC C0 [q]++cObj b o::C') (G0++G')).C.eraseIdx (restC C0 [q]).length=restC C0 [q]++C' from e3]at s2
  refine H B Hd _ a' w' s2 (fun x hx=>?_) ⟨hR.old,hR.ro,hR.len,Nat.le_trans hR.size hf.size⟩ hN (okWp_filter hW)
  have hxb:x≠b:=fun he=>s2.gh.disj x hx (by simp[he])
  have hx2:=erase_flat_sub hx
  rw[List.flatten_append]at hx2
  have fin:x=b∨x∈fps.flatten→x∈Hd∨B≤x:=fun h=>h.elim (fun h=>absurd h hxb) (hH x)
  rcases List.mem_append.1 hx2 with h4|h4
  ·have:=pick_flat_sub h4
   rw[List.flatten_append]at this
   rcases List.mem_append.1 this with h5|h5
   ·exact hH x h5
   ·exact absurd (by simpa using h5) hxb
  ·rcases h3 x h4 with h5|h5
   ·exact fin (hM x h5)
   ·exact .inr (Nat.le_trans hR.size h5)
end reads
end Go.Sx
end
section
namespace Go.Proofs.YtpjkiomccpjboaaGreatDoor
open Go Go.Sx
theorem putFault_le (p:Nat) (base:List Int) (L:List PutT) (c:ComT):(putFault p base L c).code≤12:=by
 unfold putFault
 split
 ·exact comFault_code c
 ·split
  ·decide
  ·split
   ·decide
   ·refine scanF_code (fun i=>?_) _ _
    unfold exiAt
    split
    ·decide
    ·split <;> decide
set_option maxHeartbeats 8000000 in
theorem actTail {w0:World} {R:Act→World→Prop} {kr:List Itm} {S0:Nat→Prop} {er:Nat→Addr} {eb:Nat→Array Value×TypeId} {p n mb nl cl:Nat} {sl:Option Addr} {i:Int} {l:List VActT} {b mk md cb clock cm lk lc:Nat} {ba bm la:Option Addr} {es:Array MapEntry} {ks:List ByteArray} {Fk:ByteArray→Value} {base:List Int} {K:List ComT} (hI:Inj er) (hp1:1≤p) (hp6:p≤6) (hn:n≤40) (hK:ActsOk p n base K) (hm:MapG (MapKept.IsKey .string) es (strG ks Fk)) (hst:MapKept.Stamped es clock) (hnd:ks.Nodup) (hiff:∀t,t∈ks↔keyC (putsAll K) t≠[])
  (H:J Tryz.prog Tryz.f8 R Tryz.f8.ntmps (kr) [(0,.val (.int .i64 (p:Nat))),(1,.val (.slice sl nl cl)),(4,.val (.bool false)),(6,.val (.pointer (some ⟨b,0,none⟩))),(8,.val (.pointer (some ⟨mb,0,none⟩))),(9,.val (.int .i64 i))] [] [] [([],zero w0)] ⟨S0,[cObj b (.cells #[.int .i64 (p:Nat),.slice ba p cb,.map (some mk),.map (some md)] 133 (0,0)),cObj mk (.map es clock),cStar (ks.map fun t=>cAcc (Fk t) 28 3 ((keyC (putsAll K) t).map eCom)),cMapG md okDot (dotSet ((putsAll K).map dotP)),cObj mb (.cells #[.slice bm p cm,.slice la lk lc] 85 (0,0)),cAcc (.slice la lk lc) 28 3 (K.map eCom)],[(.nilIface,dC er eb),(.slice sl nl cl,.sl 7 (l.map eVAct)),(.slice bm p cm,dInts base),(.slice ba p cb,dInts base)]⟩) :
  J Tryz.prog Tryz.f8 R Tryz.f8.ntmps (.c (.rg 50 true)::.c (.cond (.tmp 256) (.seq (.rg 51 false) .ret) .skip)::kr) [(0,.val (.int .i64 (p:Nat))),(1,.val (.slice sl nl cl)),(4,.val (.bool false)),(6,.val (.pointer (some ⟨b,0,none⟩))),(8,.val (.pointer (some ⟨mb,0,none⟩))),(9,.val (.int .i64 i))] [] [] [([],zero w0)] ⟨S0,[cObj b (.cells #[.int .i64 (p:Nat),.slice ba p cb,.map (some mk),.map (some md)] 133 (0,0)),cObj mk (.map es clock),cStar (ks.map fun t=>cAcc (Fk t) 28 3 ((keyC (putsAll K) t).map eCom)),cMapG md okDot (dotSet ((putsAll K).map dotP)),cObj mb (.cells #[.slice bm p cm,.slice la lk lc] 85 (0,0)),cAcc (.slice la lk lc) 28 3 (K.map eCom)],[(.nilIface,dC er eb),(.slice sl nl cl,.sl 7 (l.map eVAct)),(.slice bm p cm,dInts base),(.slice ba p cb,dInts base)]⟩:=by
 have hpl:=hK.puts
 have hkl:=hK.few
 have hkeys:∀t∈ks,t.size≤1000000:=fun t ht=>by
  obtain⟨q,hq,rfl⟩:=key_of ((hiff t).1 ht)
  exact hK.key hq
 have hksl:=ks_len2 hnd hiff
 have hsl:(sortB ks).length=ks.length:=by simp[sortB,List.length_mergeSort]
 have hbl:=hK.len
 refine J_show 4 rfl ?_
 refine jT [(0,true),(2,true),(3,true),(4,true),(5,true),(1,false),(6,false),(7,true),(8,true),(9,true),(11,true),(10,false),(12,false),(13,false),(14,true),(15,true)] [(1,[]),(10,[]),(12,[0])] ?_
 refine Ya (id:=50) (rest:=[(1,false),(6,false),(7,true),(8,true),(9,true),(11,true),(10,false),(12,false),(13,false),(14,true),(15,true)]) ([zR 0]++Rds 2 5++[.rd 5 [.o 0 none] 0 0]) [] [zP 241 b,zP 243 mb,zP 244 mb,zP 245 mb,zS 246 bm p cm] ?_
 refine JR_call [] [0] 49 #[.pointer (some (⟨b,0,none⟩))] (some 242) (by kernel_rfl) (by kernel_rfl) (by decide) (fun w S M hP hG _=>?_)
 refine(vBase hP (hG.at 3 rfl) (by omega)).mono ?_
 rintro e1 w1 ⟨ua,uc,hR⟩
 refine⟨_,_,_,hR,?_⟩
 try simp only[aQ]
 refine Yc 48 #[.slice ua p uc,.slice bm p cm] (some 247) fun w S hG=>?_
 refine(sameInts (hG.at 4 rfl) (hG.at 2 rfl) (by omega)).mono ?_
 rintro e2 w2 hR
 rw[decide_eq_true rfl]at hR
 refine⟨_,_,_,hR,?_⟩
 try simp only[aQ]
 refine Ya (id:=50) (rest:=[(10,false),(12,false),(13,false),(14,true),(15,true)]) (Rds 7 10++[zR 11]) [] [zB 248 false,zB 249 false,zP 250 b,zP 252 mb] ?_
 try simp only[aQ]
 refine JR_callz [] [4,0,1,2] 50 #[.pointer (some (⟨b,0,none⟩))] (some 251) zero_all (by kernel_rfl) (by kernel_rfl) (by decide) (fun w S M hP hG _=>?_)
 refine(vVKeys (p:=p) (L:=putsAll K) hP hm hst hnd (by omega) hkeys).mono ?_
 rintro e3 w3 ⟨xa,xn,xc,hR⟩
 refine⟨_,_,_,hR,?_⟩
 try simp only[aQ]
 refine JR_callh [] 0 51 #[.pointer (some ⟨mb,0,none⟩)] (some 253) (by kernel_rfl) ⟨[0],rfl,by simp⟩ rfl (fun w S M hP hG=>?_)
 refine(rKeysV hP (by omega) (fun c hc=>by have:=(right_of (hK.ok c hc).1).o2;omega)).mono ?_
 rintro e4 w4 ⟨ya,yn,yc,hR⟩
 rw[keys_puts hnd hiff]at hR
 refine⟨_,_,_,hR,?_⟩
 try simp only[aQ]
 refine Yc 32 #[.slice xa xn xc,.slice ya yn yc] (some 254) fun w S hG=>?_
 refine(sameTexts_eq (l:=sortB ks) (hG.at 5 rfl) (hG.at 6 rfl) (by omega)).mono ?_
 rintro e5 w5 hR
 refine⟨_,_,_,hR,?_⟩
 try simp only[aQ]
 refine Ya (id:=50) (rest:=[]) [zR 14,zR 15] [] [zB 255 false,zB 256 false] ?_
 try simp only[aQ]
 refine JR_end ?_
 try simp only[aQ]
 refine cF ?_
 try simp only[aQ]
 refine J_skip ?_
 try simp only[aQ]
 refine J_hide 0 rfl ?_
 refine Nm [cObj b (.cells #[nI (↑p:Int),.slice ba p cb,.map (some mk),.map (some md)] 133 (0,0)),cObj mk (Obj.map es clock),(cStar (List.map (fun t=>cAcc (Fk t) 28 3 (List.map eCom (keyC (putsAll K) t))) ks)),(cMapG md okDot (dotSet (List.map dotP (putsAll K)))),cAcc (.slice la lk lc) 28 3 (List.map eCom K),cObj mb (.cells #[.slice bm p cm,.slice la lk lc] 85 (0,0))] ?_
 refine J_cut (E':=[zI 0 (p:Nat),zS 1 sl nl cl,zB 4 false,zV 6 (.pointer (some ⟨b,0,none⟩)),zV 8 (.pointer (some ⟨mb,0,none⟩)),zI 9 i]) (h':=[]) (C':=[_,_,_,_,_,_]) (G':=[_,_,_,_]) [0,1,4,6,8,9] [] [0,1,2,3,5,4] [0,1,2,3] (by kernel_rfl) rfl rfl rfl ?_
 exact H
set_option maxHeartbeats 8000000 in
theorem actPut {w0:World} {R:Act→World→Prop} {kr:List Itm} {S0:Nat→Prop} {er:Nat→Addr} {eb:Nat→Array Value×TypeId} {p n mb nl cl:Nat} {sl:Option Addr} {i:Int} {l:List VActT} {b mk md cb clock cm lk lc:Nat} {ba bm la:Option Addr} {es:Array MapEntry} {ks:List ByteArray} {Fk:ByteArray→Value} {base:List Int} {K:List ComT} {x:VActT} {ab n0 c0 n1 c1 n2 c2:Nat} {a0 a1 a2:Option Addr} (hI:Inj er) (hp1:1≤p) (hp6:p≤6) (hn:n≤40) (hK:ActsOk p n base K) (hm:MapG (MapKept.IsKey .string) es (strG ks Fk)) (hst:MapKept.Stamped es clock) (hnd:ks.Nodup) (hiff:∀t,t∈ks↔keyC (putsAll K) t≠[]) (hx0:n0=x.c.when.length) (hx1:n1=x.c.ops.length) (hx2:n2=x.at'.length) (hh:heavyC x.c=0) (hxk:x.key.size≤60) (hxa:x.at'.length≤20)
  (H:∀(base2:List Int) (K2:List ComT) (b2 mk2 md2 cb2 clock2 cm2 lk2 lc2:Nat) (ba2 bm2 la2:Option Addr) (es2:Array MapEntry) (ks2:List ByteArray) (Fk2:ByteArray→Value),ActsOk p (n+1) base2 K2→MapG (MapKept.IsKey .string) es2 (strG ks2 Fk2)→MapKept.Stamped es2 clock2→ks2.Nodup→(∀t,t∈ks2↔keyC (putsAll K2) t≠[])→J Tryz.prog Tryz.f8 R Tryz.f8.ntmps (.c (.rg 50 true)::.c (.cond (.tmp 256) (.seq (.rg 51 false) .ret) .skip)::kr) [(0,.val (.int .i64 (p:Nat))),(1,.val (.slice sl nl cl)),(4,.val (.bool false)),(6,.val (.pointer (some ⟨b2,0,none⟩))),(8,.val (.pointer (some ⟨mb,0,none⟩))),(9,.val (.int .i64 i))] [] [] [([],zero w0)] ⟨S0,[cObj b2 (.cells #[.int .i64 (p:Nat),.slice ba2 p cb2,.map (some mk2),.map (some md2)] 133 (0,0)),cObj mk2 (.map es2 clock2),cStar (ks2.map fun t=>cAcc (Fk2 t) 28 3 ((keyC (putsAll K2) t).map eCom)),cMapG md2 okDot (dotSet ((putsAll K2).map dotP)),cObj mb (.cells #[.slice bm2 p cm2,.slice la2 lk2 lc2] 85 (0,0)),cAcc (.slice la2 lk2 lc2) 28 3 (K2.map eCom)],[(.nilIface,dC er eb),(.slice sl nl cl,.sl 7 (l.map eVAct)),(.slice bm2 p cm2,dInts base2),(.slice ba2 p cb2,dInts base2)]⟩) :
  J Tryz.prog Tryz.f8 R Tryz.f8.ntmps (.c (.rg 24 true)::.c (.cond (.tmp 115) (.seq (.rg 25 false) .ret) .skip)::.eb 2::.c (.seq (.rg 50 true) (.cond (.tmp 256) (.seq (.rg 51 false) .ret) .skip))::kr) [(0,.val (.int .i64 (p:Nat))),(1,.val (.slice sl nl cl)),(4,.val (.bool false)),(6,.val (.pointer (some ⟨b,0,none⟩))),(8,.val (.pointer (some ⟨mb,0,none⟩))),(9,.val (.int .i64 i)),(10,.val (.pointer (some ⟨ab,0,none⟩)))] [(ab,.cells #[.string x.kind,.string x.key,.string x.text,.slice a0 n0 c0,.int .i64 x.c.place,.slice a1 n1 c1,.slice a2 n2 c2] 75 (0,0))] [] [([],zero w0)] ⟨S0,[cObj b (.cells #[.int .i64 (p:Nat),.slice ba p cb,.map (some mk),.map (some md)] 133 (0,0)),cObj mk (.map es clock),cStar (ks.map fun t=>cAcc (Fk t) 28 3 ((keyC (putsAll K) t).map eCom)),cMapG md okDot (dotSet ((putsAll K).map dotP)),cObj mb (.cells #[.slice bm p cm,.slice la lk lc] 85 (0,0)),cAcc (.slice la lk lc) 28 3 (K.map eCom)],[(.nilIface,dC er eb),(.slice sl nl cl,.sl 7 (l.map eVAct)),(.slice bm p cm,dInts base),(.slice ba p cb,dInts base),(.slice a0 n0 c0,dInts x.c.when),(.slice a1 n1 c1,.sl 7 (x.c.ops.map eOp)),(.slice a2 n2 c2,dInts x.at')]⟩:=by
 subst hx0 hx1 hx2
 have hpl:=hK.puts
 have hkl:=hK.few
 obtain⟨hxw,hxo,hxd⟩:=heavyC_len hh
 refine jT [(0,true),(1,true),(2,true),(5,true),(6,true),(7,true),(3,false),(4,false),(8,false),(9,false),(10,true)] [(4,[]),(8,[])] ?_
 refine Ya (id:=24) (rest:=[(3,false),(4,false),(8,false),(9,false),(10,true)]) [zR 0,zR 1,.rd 2 (hnO 0 3) 0 0,zR 5,zR 6,.rd 7 (hnO 0 3) 0 0] [] [zP 105 b,zV 106 (.pointer (sA ab (0+3))),zV 107 (.agg #[.slice a0 x.c.when.length c0,nI x.c.place,.slice a1 x.c.ops.length c1]),zP 110 mb,zV 111 (.pointer (sA ab (0+3))),zV 112 (.agg #[.slice a0 x.c.when.length c0,nI x.c.place,.slice a1 x.c.ops.length c1])] ?_
 refine Yc 18 #[.agg #[.slice a0 x.c.when.length c0,nI x.c.place,.slice a1 x.c.ops.length c1]] (some 108) fun w S hG=>?_
 refine(ownCommit (c:=x.c) (hG.at 4 rfl) (hG.at 5 rfl) (by omega) (by omega) (fun o ho=>by have:=hxd o ho;omega)).mono ?_
 rintro e5 w5 ⟨q1,m1,d1,q2,m2,d2,hR⟩
 refine⟨_,_,_,hR,?_⟩
 try simp only[aQ]
 refine JR_call [] [0,1,2,3] 36 #[.pointer (some (⟨b,0,none⟩)),.agg #[.slice q1 m1 d1,.int .i64 x.c.place,.slice q2 m2 d2]] (some 109) (by kernel_rfl) (by kernel_rfl) (by decide) (fun w S M hP hG _=>?_)
 refine(vPut (p:=p) (base:=base) (L:=putsAll K) (c:=x.c) (hG.at 0 rfl) hP (hG.at 3 rfl) hK.vec hK.len (hG.at 7 rfl) (hG.at 8 rfl) (by omega) (by omega) (fun o ho=>by have:=hxd o ho;omega) (by omega) hm hst hnd hiff).mono ?_
 have hle:=putFault_le p base (putsAll K) x.c
 rintro e6 w6 (⟨hf,v,G,hR,hv⟩|⟨hf,es1,clock1,ks1,F1,hR,hm1,hst1,hnd1,hiff1⟩)
 ·rcases hv with ⟨hat,hv,rfl⟩|⟨h1c,h0a,pb,rfl,rfl⟩
  ·have hv1:v.oneCell'=true:=by rcases hv with ⟨_,rfl⟩|⟨_,rfl⟩ <;> rfl
   refine⟨_,_,_,hR,?_⟩
   try simp only[aQ]
   refine JR_call [] [0,1] 37 #[.pointer (some (⟨mb,0,none⟩)),.agg #[.slice a0 x.c.when.length c0,.int .i64 x.c.place,.slice a1 x.c.ops.length c1]] (some 113) (by kernel_rfl) (by kernel_rfl) (by decide) (fun w S M hP hG _=>?_)
   refine(rVPut (p:=p) (base:=base) (K:=K) (c:=x.c) hP (hG.at 2 rfl) hK.len hp6 (hG.at 4 rfl) (hG.at 5 rfl) (by omega) (by omega) (by omega) hK.place).mono ?_
   rw[rPutF_puts]
   rintro e7 w7 (⟨_,hR⟩|⟨hf2,_⟩)
   ·refine⟨_,_,_,hR,?_⟩
    try simp only[aQ]
    refine Yc 16 #[v,.agg #[nI ((↑(putFault p base (putsAll K) x.c).code:Int)),nI ((putFault p base (putsAll K) x.c).at')]] (some 114) fun w S hG=>?_
    refine(faultedErr (hG.at 0 rfl) hI hle hv hat).mono ?_
    rintro e8 w8 hR
    refine⟨_,_,_,hR,?_⟩
    try simp only[aQ]
    refine Ya (id:=24) (rest:=[]) [zR 10] [] [zB 115 false] ?_
    try simp only[aQ]
    refine JR_end ?_
    try simp only[aQ]
    refine cF ?_
    try simp only[aQ]
    refine J_skip ?_
    try simp only[aQ]
    refine J_eb ?_
    try simp only[aQ]
    refine J_seq ?_
    try simp only[aQ]
    refine Nm [cObj b (.cells #[nI (↑p:Int),.slice ba p cb,.map (some mk),.map (some md)] 133 (0,0)),cObj mk (Obj.map es clock),(cStar (List.map (fun t=>cAcc (Fk t) 28 3 (List.map eCom (keyC (putsAll K) t))) ks)),(cMapG md okDot (dotSet (List.map dotP (putsAll K)))),cObj mb (.cells #[.slice bm p cm,.slice la lk lc] 85 (0,0)),cAcc (.slice la lk lc) 28 3 (List.map eCom K)] ?_
    refine J_cut (E':=[zI 0 (p:Nat),zS 1 sl nl cl,zB 4 false,zV 6 (.pointer (some ⟨b,0,none⟩)),zV 8 (.pointer (some ⟨mb,0,none⟩)),zI 9 i]) (h':=[]) (C':=[_,_,_,_,_,_]) (G':=[_,_,_,_]) [0,1,4,6,8,9] [] [0,1,2,3,4,5] [0,1,2,3] (by kernel_rfl) rfl rfl rfl ?_
    exact H base K b mk md cb clock cm lk lc ba bm la es ks Fk hK.next hm hst hnd hiff
   ·exact absurd hf2 hf
  ·refine⟨_,_,_,hR,?_⟩
   try simp only[aQ]
   refine JR_call [] [0,1] 37 #[.pointer (some (⟨mb,0,none⟩)),.agg #[.slice a0 x.c.when.length c0,.int .i64 x.c.place,.slice a1 x.c.ops.length c1]] (some 113) (by kernel_rfl) (by kernel_rfl) (by decide) (fun w S M hP hG _=>?_)
   refine(rVPut (p:=p) (base:=base) (K:=K) (c:=x.c) hP (hG.at 2 rfl) hK.len hp6 (hG.at 4 rfl) (hG.at 5 rfl) (by omega) (by omega) (by omega) hK.place).mono ?_
   rw[rPutF_puts]
   rintro e7 w7 (⟨_,hR⟩|⟨hf2,_⟩)
   ·refine⟨_,_,_,hR,?_⟩
    try simp only[aQ]
    refine Yc 16 #[.iface 102 (.pointer (sA pb 0)),.agg #[nI ((↑(putFault p base (putsAll K) x.c).code:Int)),nI ((putFault p base (putsAll K) x.c).at')]] (some 114) fun w S hG=>?_
    refine(faultedAt (hG.at 0 rfl) hI h1c hle (hG.at 9 rfl)).mono ?_
    rintro e8 w8 hR
    refine⟨_,_,_,hR,?_⟩
    try simp only[aQ]
    refine Ya (id:=24) (rest:=[]) [zR 10] [] [zB 115 false] ?_
    try simp only[aQ]
    refine JR_end ?_
    try simp only[aQ]
    refine cF ?_
    try simp only[aQ]
    refine J_skip ?_
    try simp only[aQ]
    refine J_eb ?_
    try simp only[aQ]
    refine J_seq ?_
    try simp only[aQ]
    refine Nm [cObj b (.cells #[nI (↑p:Int),.slice ba p cb,.map (some mk),.map (some md)] 133 (0,0)),cObj mk (Obj.map es clock),(cStar (List.map (fun t=>cAcc (Fk t) 28 3 (List.map eCom (keyC (putsAll K) t))) ks)),(cMapG md okDot (dotSet (List.map dotP (putsAll K)))),cObj mb (.cells #[.slice bm p cm,.slice la lk lc] 85 (0,0)),cAcc (.slice la lk lc) 28 3 (List.map eCom K)] ?_
    refine J_cut (E':=[zI 0 (p:Nat),zS 1 sl nl cl,zB 4 false,zV 6 (.pointer (some ⟨b,0,none⟩)),zV 8 (.pointer (some ⟨mb,0,none⟩)),zI 9 i]) (h':=[]) (C':=[_,_,_,_,_,_]) (G':=[_,_,_,_]) [0,1,4,6,8,9] [] [0,1,2,3,4,5] [0,1,2,3] (by kernel_rfl) rfl rfl rfl ?_
    exact H base K b mk md cb clock cm lk lc ba bm la es ks Fk hK.next hm hst hnd hiff
   ·exact absurd hf2 hf
 ·have hcp:=putFault_zero.1 hf
  have hcf:=comFault_fine hcp.com
  refine⟨_,_,_,hR,?_⟩
  try simp only[aQ]
  refine JR_call [] [0,1] 37 #[.pointer (some (⟨mb,0,none⟩)),.agg #[.slice a0 x.c.when.length c0,.int .i64 x.c.place,.slice a1 x.c.ops.length c1]] (some 113) (by kernel_rfl) (by kernel_rfl) (by decide) (fun w S M hP hG _=>?_)
  refine(rVPut (p:=p) (base:=base) (K:=K) (c:=x.c) hP (hG.at 2 rfl) hK.len hp6 (hG.at 4 rfl) (hG.at 5 rfl) (by omega) (by omega) (by omega) hK.place).mono ?_
  rw[rPutF_puts]
  rintro e7 w7 (⟨hf2,_⟩|⟨_,la2,lk2,lc2,hR⟩)
  ·exact absurd hf hf2
  rw[hcf]at hR
  refine⟨_,_,_,hR,?_⟩
  try simp only[aQ]
  refine Yc 16 #[.nilIface,.agg #[nI 0,nI (-1)]] (some 114) fun w S hG=>?_
  refine(faultedErr (k:=0) (a:=-1) (v:=.nilIface) (hG.at 0 rfl) hI (by omega) (.inl ⟨rfl,rfl⟩) rfl).mono ?_
  rintro e8 w8 hR
  refine⟨_,_,_,hR,?_⟩
  rw[←putsAll_snoc]
  rw[←putsAll_snoc]at hiff1
  try simp only[aQ]
  refine Ya (id:=24) (rest:=[]) [zR 10] [] [zB 115 false] ?_
  try simp only[aQ]
  refine JR_end ?_
  try simp only[aQ]
  refine cF ?_
  try simp only[aQ]
  refine J_skip ?_
  try simp only[aQ]
  refine J_eb ?_
  try simp only[aQ]
  refine J_seq ?_
  try simp only[aQ]
  refine Nm [cObj b (.cells #[nI (↑p:Int),.slice ba p cb,.map (some mk),.map (some md)] 133 (0,0)),cObj mk (Obj.map es1 clock1),(cStar (List.map (fun t=>cAcc (F1 t) 28 3 (List.map eCom (keyC (putsAll (K++[x.c])) t))) ks1)),(cMapG md okDot (dotSet (List.map dotP (putsAll (K++[x.c]))))),cObj mb (.cells #[.slice bm p cm,.slice la2 lk2 lc2] 85 (0,0)),cAcc (.slice la2 lk2 lc2) 28 3 (List.map eCom (K++[x.c]))] ?_
  refine J_cut (E':=[zI 0 (p:Nat),zS 1 sl nl cl,zB 4 false,zV 6 (.pointer (some ⟨b,0,none⟩)),zV 8 (.pointer (some ⟨mb,0,none⟩)),zI 9 i]) (h':=[]) (C':=[_,_,_,_,_,_]) (G':=[_,_,_,_]) [0,1,4,6,8,9] [] [0,1,2,3,4,5] [0,1,2,3] (by kernel_rfl) rfl rfl rfl ?_
  exact H base (K++[x.c]) b mk md cb clock1 cm lk2 lc2 ba bm la2 es1 ks1 F1 (hK.put hcp) hm1 hst1 hnd1 hiff1
end Go.Proofs.YtpjkiomccpjboaaGreatDoor
end
section
namespace Go.Proofs.YtpjkiomccpjboaaGreatDoor
open Go Go.Sx
theorem dotsOf_len {key text:ByteArray} {l:List ComT} (h:(valFault key l).code=0):(dotsOf key text l).length≤12*l.length:=by
 unfold dotsOf
 split
 ·rw[sortDots,List.length_mergeSort]
  exact Nat.le_trans (textDots_len _ _) (ofKey_len h)
 ·simp
end Go.Proofs.YtpjkiomccpjboaaGreatDoor
end
section
namespace Go.Proofs.YtpjkiomccpjboaaGreatDoor
open Go Go.Sx
theorem atErr_fine {p:Nat} {base:List Int} {key:ByteArray} {at':List Int} (h:atErr p base key at'=0):nameOk key=true∧vecErr at'=0∧at'.length=p:=by
 unfold atErr at h
 split at h
 ·cases h
 ·rename_i h1
  split at h
  ·exact absurd h ‹_›
  ·rename_i h2
   split at h
   ·cases h
   ·rename_i h3
    exact⟨by simpa using h1,by simpa using h2,by simpa using h3⟩
theorem atErr_le (p:Nat) (base:List Int) (key:ByteArray) (at':List Int):atErr p base key at'≤12:=by
 unfold atErr
 split
 ·decide
 ·split
  ·exact vecErr_le _
  ·split
   ·decide
   ·split <;> decide
set_option maxHeartbeats 8000000 in
theorem readBad {w0:World} {R:Act→World→Prop} {kr:List Itm} {S0:Nat→Prop} {er:Nat→Addr} {eb:Nat→Array Value×TypeId} {p n mb nl cl:Nat} {sl:Option Addr} {i:Int} {l:List VActT} {b mk md cb clock cm lk lc:Nat} {ba bm la:Option Addr} {es:Array MapEntry} {ks:List ByteArray} {Fk:ByteArray→Value} {base:List Int} {K:List ComT} {x:VActT} {ab n0 c0 n1 c1 n2 c2:Nat} {a0 a1 a2:Option Addr} {xb:Nat} (hI:Inj er) (hp1:1≤p) (hp6:p≤6) (hn:n≤40) (hK:ActsOk p n base K) (hm:MapG (MapKept.IsKey .string) es (strG ks Fk)) (hst:MapKept.Stamped es clock) (hnd:ks.Nodup) (hiff:∀t,t∈ks↔keyC (putsAll K) t≠[]) (hx0:n0=x.c.when.length) (hx1:n1=x.c.ops.length) (hx2:n2=x.at'.length) (hh:heavyC x.c=0) (hxk:x.key.size≤60) (hxa:x.at'.length≤20) (hae:atErr p base x.key x.at'≠0)
  (H:∀(base2:List Int) (K2:List ComT) (b2 mk2 md2 cb2 clock2 cm2 lk2 lc2:Nat) (ba2 bm2 la2:Option Addr) (es2:Array MapEntry) (ks2:List ByteArray) (Fk2:ByteArray→Value),ActsOk p (n+1) base2 K2→MapG (MapKept.IsKey .string) es2 (strG ks2 Fk2)→MapKept.Stamped es2 clock2→ks2.Nodup→(∀t,t∈ks2↔keyC (putsAll K2) t≠[])→J Tryz.prog Tryz.f8 R Tryz.f8.ntmps (.c (.rg 50 true)::.c (.cond (.tmp 256) (.seq (.rg 51 false) .ret) .skip)::kr) [(0,.val (.int .i64 (p:Nat))),(1,.val (.slice sl nl cl)),(4,.val (.bool false)),(6,.val (.pointer (some ⟨b2,0,none⟩))),(8,.val (.pointer (some ⟨mb,0,none⟩))),(9,.val (.int .i64 i))] [] [] [([],zero w0)] ⟨S0,[cObj b2 (.cells #[.int .i64 (p:Nat),.slice ba2 p cb2,.map (some mk2),.map (some md2)] 133 (0,0)),cObj mk2 (.map es2 clock2),cStar (ks2.map fun t=>cAcc (Fk2 t) 28 3 ((keyC (putsAll K2) t).map eCom)),cMapG md2 okDot (dotSet ((putsAll K2).map dotP)),cObj mb (.cells #[.slice bm2 p cm2,.slice la2 lk2 lc2] 85 (0,0)),cAcc (.slice la2 lk2 lc2) 28 3 (K2.map eCom)],[(.nilIface,dC er eb),(.slice sl nl cl,.sl 7 (l.map eVAct)),(.slice bm2 p cm2,dInts base2),(.slice ba2 p cb2,dInts base2)]⟩) :
  J Tryz.prog Tryz.f8 R Tryz.f8.ntmps (.c (.rg 28 false)::.c (.seq (.rg 29 false) (.cond (.tmp 135) (.seq (.rg 30 false) (.cond (.tmp 145) (.seq (.rg 31 false) .ret) .skip)) (.seq (.rg 32 true) (.cond (.tmp 159) (.seq (.rg 33 false) .ret) .skip))))::.eb 2::.c (.seq (.rg 50 true) (.cond (.tmp 256) (.seq (.rg 51 false) .ret) .skip))::kr) [(0,.val (.int .i64 (p:Nat))),(1,.val (.slice sl nl cl)),(4,.val (.bool false)),(6,.val (.pointer (some ⟨b,0,none⟩))),(8,.val (.pointer (some ⟨mb,0,none⟩))),(9,.val (.int .i64 i)),(10,.val (.pointer (some ⟨ab,0,none⟩))),(11,.val (.pointer (some ⟨xb,0,none⟩))),(12,.val (.iface 243 (.pointer (some (er (atErr p base x.key x.at'))))))] [(ab,.cells #[.string x.kind,.string x.key,.string x.text,.slice a0 n0 c0,.int .i64 x.c.place,.slice a1 n1 c1,.slice a2 n2 c2] 75 (0,0)),(xb,.cells #[.int .i64 0,.string (ByteArray.mk #[]),.int .i64 0,.slice none 0 0] 47 (0,0))] [] [([],zero w0)] ⟨S0,[cObj b (.cells #[.int .i64 (p:Nat),.slice ba p cb,.map (some mk),.map (some md)] 133 (0,0)),cObj mk (.map es clock),cStar (ks.map fun t=>cAcc (Fk t) 28 3 ((keyC (putsAll K) t).map eCom)),cMapG md okDot (dotSet ((putsAll K).map dotP)),cObj mb (.cells #[.slice bm p cm,.slice la lk lc] 85 (0,0)),cAcc (.slice la lk lc) 28 3 (K.map eCom)],[(.nilIface,dC er eb),(.slice sl nl cl,.sl 7 (l.map eVAct)),(.slice bm p cm,dInts base),(.slice ba p cb,dInts base),(.slice a0 n0 c0,dInts x.c.when),(.slice a1 n1 c1,.sl 7 (x.c.ops.map eOp)),(.slice a2 n2 c2,dInts x.at')]⟩:=by
 subst hx0 hx1 hx2
 have hpl:=hK.puts
 have hkl:=hK.few
 obtain⟨hxw,hxo,hxd⟩:=heavyC_len hh
 have hpos:0<((atErr p base x.key x.at':Nat):Int):=by omega
 refine jT [(0,true),(1,true),(2,true),(3,true),(4,true),(5,false),(6,true)] [] ?_
 refine Ya (id:=28) (rest:=[(5,false),(6,true)]) [zR 0,zR 1,.rd 2 [.o 0 none] 0 0,zR 3,.rd 4 [.o 0 none] 0 0] [] [zP 128 mb,zV 129 (.pointer (sA ab (0+1))),zV 130 (.string x.key),zV 131 (.pointer (sA ab (0+6))),zS 132 a2 x.at'.length c2] ?_
 refine JR_call [] [4] 40 #[.pointer (some (⟨mb,0,none⟩)),.string x.key,.slice a2 x.at'.length c2] (some 133) (by kernel_rfl) (by kernel_rfl) (by decide) (fun w S M hP hG _=>?_)
 refine(rAtErr (p:=p) (base:=base) (key:=x.key) (at':=x.at') rfl hP (hG.at 2 rfl) hK.len hp6 (hG.at 6 rfl) (by omega)).mono ?_
 rw[atE_at]
 rintro e7 w7 hR
 refine⟨_,_,_,hR,?_⟩
 try simp only[aQ]
 refine Ya (id:=28) (rest:=[]) [zR 6] [] [zI 13 ((↑(atErr p base x.key x.at'):Int))] ?_
 try simp only[aQ]
 refine JR_end ?_
 try simp only[aQ]
 refine J_seq ?_
 try simp only[aQ]
 refine Zp [zR 0,.rd 1 [] 0 6] [] [zI 134 ((↑(atErr p base x.key x.at'):Int)),zB 135 true] [decide ((↑(atErr p base x.key x.at'):Int)>(0:Int))=true] ⟨by simp;omega,trivial⟩ ?_
 try simp only[aQ]
 refine cTt ?_
 try simp only[aQ]
 refine J_seq ?_
 try simp only[aQ]
 refine J_stp (stp_fact (v:=.slice none 0 0) (d:=dStrs []) fun _ _ _=>.nil) ?_
 refine Nm [cObj b (.cells #[nI (↑p:Int),.slice ba p cb,.map (some mk),.map (some md)] 133 (0,0)),cObj mk (Obj.map es clock),(cStar (List.map (fun t=>cAcc (Fk t) 28 3 (List.map eCom (keyC (putsAll K) t))) ks)),(cMapG md okDot (dotSet (List.map dotP (putsAll K)))),cAcc (.slice la lk lc) 28 3 (List.map eCom K),cObj mb (.cells #[.slice bm p cm,.slice la lk lc] 85 (0,0))] ?_
 try simp only[aQ]
 refine jT [(0,true),(1,true),(2,false),(3,true),(4,true),(5,true),(6,true),(7,false),(8,true),(9,true)] [] ?_
 refine Ya (id:=30) (rest:=[(2,false),(3,true),(4,true),(5,true),(6,true),(7,false),(8,true),(9,true)]) [zR 0,zR 1] [] [zV 136 (.iface 243 (.pointer (some (er (atErr p base x.key x.at'))))),zI 137 ((↑(atErr p base x.key x.at'):Int))] ?_
 refine Yc 13 #[.iface 243 (.pointer (some (er (atErr p base x.key x.at')))),nI ((↑(atErr p base x.key x.at'):Int))] (some 138) fun w S hG=>?_
 refine(codedErr (c:=(atErr p base x.key x.at':Nat)) (hG.at 0 rfl) hI (k:=atErr p base x.key x.at') (atErr_le ..) (.inr ⟨hae,rfl⟩)).mono ?_
 rintro e8 w8 hR
 rw[decide_eq_true rfl]at hR
 refine⟨_,_,_,hR,?_⟩
 try simp only[aQ]
 refine Ya (id:=30) (rest:=[(7,false),(8,true),(9,true)]) [zR 3,zR 4,.rd 5 (hnO 1 4) 0 0,zR 6] [] [zB 139 false,zB 140 false,zV 141 (.agg #[nI 0,.string (ByteArray.mk #[]),nI 0,.slice none 0 0]),zV 142 (.agg #[nI 0,.string (ByteArray.mk #[]),nI 0,.slice none 0 0])] ?_
 refine Yc 27 #[.agg #[nI 0,.string (ByteArray.mk #[]),nI 0,.slice none 0 0],.agg #[nI 0,.string (ByteArray.mk #[]),nI 0,.slice none 0 0]] (some 143) fun w S hG=>?_
 refine(sameValue_eq (v:=⟨0,ByteArray.mk #[],0,[]⟩) (hG.at 7 rfl) (hG.at 7 rfl) (by simp)).mono ?_
 rintro e9 w9 hR
 refine⟨_,_,_,hR,?_⟩
 try simp only[aQ]
 refine Ya (id:=30) (rest:=[]) [zR 8,zR 9] [] [zB 144 false,zB 145 false] ?_
 refine JR_end ?_
 refine cF ?_
 refine J_skip (J_eb (J_seq ?_))
 refine Nm [cObj b (.cells #[nI (↑p:Int),.slice ba p cb,.map (some mk),.map (some md)] 133 (0,0)),cObj mk (Obj.map es clock),(cStar (List.map (fun t=>cAcc (Fk t) 28 3 (List.map eCom (keyC (putsAll K) t))) ks)),(cMapG md okDot (dotSet (List.map dotP (putsAll K)))),cAcc (.slice la lk lc) 28 3 (List.map eCom K),cObj mb (.cells #[.slice bm p cm,.slice la lk lc] 85 (0,0))] ?_
 refine J_cut (E':=[zI 0 (p:Nat),zS 1 sl nl cl,zB 4 false,zV 6 (.pointer (some ⟨b,0,none⟩)),zV 8 (.pointer (some ⟨mb,0,none⟩)),zI 9 i]) (h':=[]) (C':=[_,_,_,_,_,_]) (G':=[_,_,_,_]) [0,1,4,6,8,9] [] [0,1,2,3,5,4] [0,1,2,3] (by kernel_rfl) rfl rfl rfl ?_
 exact H base K b mk md cb clock cm lk lc ba bm la es ks Fk hK.next hm hst hnd hiff
set_option maxHeartbeats 8000000 in
theorem readFine {w0:World} {R:Act→World→Prop} {kr:List Itm} {S0:Nat→Prop} {er:Nat→Addr} {eb:Nat→Array Value×TypeId} {p n mb nl cl:Nat} {sl:Option Addr} {i:Int} {l:List VActT} {b mk md cb clock cm lk lc:Nat} {ba bm la:Option Addr} {es:Array MapEntry} {ks:List ByteArray} {Fk:ByteArray→Value} {base:List Int} {K:List ComT} {x:VActT} {ab n0 c0 n1 c1 n2 c2:Nat} {a0 a1 a2:Option Addr} {xb un uc:Nat} {ua:Option Addr} (hI:Inj er) (hp1:1≤p) (hp6:p≤6) (hn:n≤40) (hK:ActsOk p n base K) (hm:MapG (MapKept.IsKey .string) es (strG ks Fk)) (hst:MapKept.Stamped es clock) (hnd:ks.Nodup) (hiff:∀t,t∈ks↔keyC (putsAll K) t≠[]) (hx0:n0=x.c.when.length) (hx1:n1=x.c.ops.length) (hx2:n2=x.at'.length) (hh:heavyC x.c=0) (hxk:x.key.size≤60) (hxa:x.at'.length≤20) (hae:atErr p base x.key x.at'=0)
  (H:∀(base2:List Int) (K2:List ComT) (b2 mk2 md2 cb2 clock2 cm2 lk2 lc2:Nat) (ba2 bm2 la2:Option Addr) (es2:Array MapEntry) (ks2:List ByteArray) (Fk2:ByteArray→Value),ActsOk p (n+1) base2 K2→MapG (MapKept.IsKey .string) es2 (strG ks2 Fk2)→MapKept.Stamped es2 clock2→ks2.Nodup→(∀t,t∈ks2↔keyC (putsAll K2) t≠[])→J Tryz.prog Tryz.f8 R Tryz.f8.ntmps (.c (.rg 50 true)::.c (.cond (.tmp 256) (.seq (.rg 51 false) .ret) .skip)::kr) [(0,.val (.int .i64 (p:Nat))),(1,.val (.slice sl nl cl)),(4,.val (.bool false)),(6,.val (.pointer (some ⟨b2,0,none⟩))),(8,.val (.pointer (some ⟨mb,0,none⟩))),(9,.val (.int .i64 i))] [] [] [([],zero w0)] ⟨S0,[cObj b2 (.cells #[.int .i64 (p:Nat),.slice ba2 p cb2,.map (some mk2),.map (some md2)] 133 (0,0)),cObj mk2 (.map es2 clock2),cStar (ks2.map fun t=>cAcc (Fk2 t) 28 3 ((keyC (putsAll K2) t).map eCom)),cMapG md2 okDot (dotSet ((putsAll K2).map dotP)),cObj mb (.cells #[.slice bm2 p cm2,.slice la2 lk2 lc2] 85 (0,0)),cAcc (.slice la2 lk2 lc2) 28 3 (K2.map eCom)],[(.nilIface,dC er eb),(.slice sl nl cl,.sl 7 (l.map eVAct)),(.slice bm2 p cm2,dInts base2),(.slice ba2 p cb2,dInts base2)]⟩) :
  J Tryz.prog Tryz.f8 R Tryz.f8.ntmps (.c (.rg 28 false)::.c (.seq (.rg 29 false) (.cond (.tmp 135) (.seq (.rg 30 false) (.cond (.tmp 145) (.seq (.rg 31 false) .ret) .skip)) (.seq (.rg 32 true) (.cond (.tmp 159) (.seq (.rg 33 false) .ret) .skip))))::.eb 2::.c (.seq (.rg 50 true) (.cond (.tmp 256) (.seq (.rg 51 false) .ret) .skip))::kr) [(0,.val (.int .i64 (p:Nat))),(1,.val (.slice sl nl cl)),(4,.val (.bool false)),(6,.val (.pointer (some ⟨b,0,none⟩))),(8,.val (.pointer (some ⟨mb,0,none⟩))),(9,.val (.int .i64 i)),(10,.val (.pointer (some ⟨ab,0,none⟩))),(11,.val (.pointer (some ⟨xb,0,none⟩))),(12,.val (.nilIface))] [(ab,.cells #[.string x.kind,.string x.key,.string x.text,.slice a0 n0 c0,.int .i64 x.c.place,.slice a1 n1 c1,.slice a2 n2 c2] 75 (0,0)),(xb,.cells #[.int .i64 (Sx.valOf x.key (withinC (putsAll K) x.key x.at')).kind,.string (Sx.valOf x.key (withinC (putsAll K) x.key x.at')).text,.int .i64 (Sx.valOf x.key (withinC (putsAll K) x.key x.at')).n,.slice ua un uc] 47 (0,0))] [] [([],zero w0)] ⟨S0,[cObj b (.cells #[.int .i64 (p:Nat),.slice ba p cb,.map (some mk),.map (some md)] 133 (0,0)),cObj mk (.map es clock),cStar (ks.map fun t=>cAcc (Fk t) 28 3 ((keyC (putsAll K) t).map eCom)),cMapG md okDot (dotSet ((putsAll K).map dotP)),cObj mb (.cells #[.slice bm p cm,.slice la lk lc] 85 (0,0)),cAcc (.slice la lk lc) 28 3 (K.map eCom)],[(.nilIface,dC er eb),(.slice sl nl cl,.sl 7 (l.map eVAct)),(.slice bm p cm,dInts base),(.slice ba p cb,dInts base),(.slice a0 n0 c0,dInts x.c.when),(.slice a1 n1 c1,.sl 7 (x.c.ops.map eOp)),(.slice a2 n2 c2,dInts x.at'),(.slice ua un uc,dStrs (Sx.valOf x.key (withinC (putsAll K) x.key x.at')).set)]⟩:=by
 subst hx0 hx1 hx2
 have hpl:=hK.puts
 have hkl:=hK.few
 obtain⟨hxw,hxo,hxd⟩:=heavyC_len hh
 obtain⟨hnm,hav,hal⟩:=atErr_fine hae
 have hfl:(K.filter fun c=>inL c.when x.at').length≤K.length:=List.length_filter_le _ _
 have hwl:=withinC_len (putsAll K) x.key x.at'
 refine jT [(0,true),(1,true),(2,true),(3,true),(4,true),(5,false),(6,true)] [] ?_
 refine Ya (id:=28) (rest:=[(5,false),(6,true)]) [zR 0,zR 1,.rd 2 [.o 0 none] 0 0,zR 3,.rd 4 [.o 0 none] 0 0] [] [zP 128 mb,zV 129 (.pointer (sA ab (0+1))),zV 130 (.string x.key),zV 131 (.pointer (sA ab (0+6))),zS 132 a2 x.at'.length c2] ?_
 refine JR_call [] [4] 40 #[.pointer (some (⟨mb,0,none⟩)),.string x.key,.slice a2 x.at'.length c2] (some 133) (by kernel_rfl) (by kernel_rfl) (by decide) (fun w S M hP hG _=>?_)
 refine(rAtErr (p:=p) (base:=base) (key:=x.key) (at':=x.at') rfl hP (hG.at 2 rfl) hK.len hp6 (hG.at 6 rfl) (by omega)).mono ?_
 rw[atE_at]
 rintro e7 w7 hR
 rw[hae]at hR
 refine⟨_,_,_,hR,?_⟩
 try simp only[aQ]
 refine Ya (id:=28) (rest:=[]) [zR 6] [] [zI 13 0] ?_
 try simp only[aQ]
 refine JR_end ?_
 try simp only[aQ]
 refine J_seq ?_
 try simp only[aQ]
 refine Za [zR 0,zR 1] [] [zI 134 0,zB 135 false] ?_
 try simp only[aQ]
 refine cF ?_
 try simp only[aQ]
 refine J_seq ?_
 try simp only[aQ]
 refine Nm [cObj b (.cells #[nI (↑p:Int),.slice ba p cb,.map (some mk),.map (some md)] 133 (0,0)),cObj mk (Obj.map es clock),(cStar (List.map (fun t=>cAcc (Fk t) 28 3 (List.map eCom (keyC (putsAll K) t))) ks)),(cMapG md okDot (dotSet (List.map dotP (putsAll K)))),cAcc (.slice la lk lc) 28 3 (List.map eCom K),cObj mb (.cells #[.slice bm p cm,.slice la lk lc] 85 (0,0))] ?_
 refine jT [(0,true),(1,true),(2,true),(3,true),(4,true),(5,true),(6,true),(7,true),(8,true),(9,false),(10,false),(11,false),(12,true),(13,true)] [(9,[])] ?_
 refine Ya (id:=32) (rest:=[(9,false),(10,false),(11,false),(12,true),(13,true)]) (Rds 0 3++[.rd 3 (hnO 1 4) 0 0,zR 4,.rd 5 [.o 0 none] 0 0,zR 6,zR 7,.rd 8 [.o 0 none] 0 0]) [] [zV 146 .nilIface,zB 147 false,zB 148 false,zV 149 (.agg #[nI ((Sx.valOf x.key (withinC (putsAll K) x.key x.at')).kind),.string ((Sx.valOf x.key (withinC (putsAll K) x.key x.at')).text),nI ((Sx.valOf x.key (withinC (putsAll K) x.key x.at')).n),.slice ua un uc]),zV 150 (.pointer (sA ab (0+1))),zV 151 (.string x.key),zP 152 mb,zV 153 (.pointer (sA ab (0+6))),zS 154 a2 x.at'.length c2] ?_
 refine JR_call [] [5,4] 41 #[.pointer (some (⟨mb,0,none⟩)),.slice a2 x.at'.length c2] (some 155) (by kernel_rfl) (by kernel_rfl) (by decide) (fun w S M hP hG _=>?_)
 refine(rWithin (K:=K) (at':=x.at') hP (by omega) (fun c hc=>by rw[(hK.ok c hc).2,hal]) (hG.at 6 rfl) (by omega)).mono ?_
 rintro e8 w8 ⟨ra,rn,rc,hR⟩
 refine⟨_,_,_,hR,?_⟩
 try simp only[aQ]
 refine Yc 28 #[.string x.key,.slice ra rn rc] (some 156) fun w S hG=>?_
 refine(rValueOf (key:=x.key) (hG.at 8 rfl) (by omega) (filter_fine hnm hK.ok)).mono ?_
 rintro e9 w9 ⟨va,vn,vc,hR⟩
 rw[val_doc hK.nodup]at hR
 have hvl:=valOf_len (withinC_fine (at':=x.at') hnm (fun q hq=>hK.right (q:=q) hq))
 refine⟨_,_,_,hR,?_⟩
 try simp only[aQ]
 refine Yc 27 #[.agg #[nI ((Sx.valOf x.key (withinC (putsAll K) x.key x.at')).kind),.string ((Sx.valOf x.key (withinC (putsAll K) x.key x.at')).text),nI ((Sx.valOf x.key (withinC (putsAll K) x.key x.at')).n),.slice ua un uc],.agg #[nI ((Sx.valOf x.key (withinC (putsAll K) x.key x.at')).kind),.string ((Sx.valOf x.key (withinC (putsAll K) x.key x.at')).text),nI ((Sx.valOf x.key (withinC (putsAll K) x.key x.at')).n),.slice va vn vc]] (some 157) fun w S hG=>?_
 refine(sameValue_eq (v:=(Sx.valOf x.key (withinC (putsAll K) x.key x.at'))) (hG.at 7 rfl) (hG.at 9 rfl) (by omega)).mono ?_
 rintro e10 w10 hR
 refine⟨_,_,_,hR,?_⟩
 try simp only[aQ]
 refine Ya (id:=32) (rest:=[]) [zR 12,zR 13] [] [zB 158 false,zB 159 false] ?_
 try simp only[aQ]
 refine JR_end ?_
 try simp only[aQ]
 refine cF ?_
 try simp only[aQ]
 refine J_skip ?_
 try simp only[aQ]
 refine J_eb ?_
 try simp only[aQ]
 refine J_seq ?_
 try simp only[aQ]
 refine Nm [cObj b (.cells #[nI (↑p:Int),.slice ba p cb,.map (some mk),.map (some md)] 133 (0,0)),cObj mk (Obj.map es clock),(cStar (List.map (fun t=>cAcc (Fk t) 28 3 (List.map eCom (keyC (putsAll K) t))) ks)),(cMapG md okDot (dotSet (List.map dotP (putsAll K)))),cObj mb (.cells #[.slice bm p cm,.slice la lk lc] 85 (0,0)),cAcc (.slice la lk lc) 28 3 (List.map eCom K)] ?_
 refine J_cut (E':=[zI 0 (p:Nat),zS 1 sl nl cl,zB 4 false,zV 6 (.pointer (some ⟨b,0,none⟩)),zV 8 (.pointer (some ⟨mb,0,none⟩)),zI 9 i]) (h':=[]) (C':=[_,_,_,_,_,_]) (G':=[_,_,_,_]) [0,1,4,6,8,9] [] [0,1,2,3,4,5] [0,1,2,3] (by kernel_rfl) rfl rfl rfl ?_
 exact H base K b mk md cb clock cm lk lc ba bm la es ks Fk hK.next hm hst hnd hiff
set_option maxHeartbeats 8000000 in
theorem actRead {w0:World} {R:Act→World→Prop} {kr:List Itm} {S0:Nat→Prop} {er:Nat→Addr} {eb:Nat→Array Value×TypeId} {p n mb nl cl:Nat} {sl:Option Addr} {i:Int} {l:List VActT} {b mk md cb clock cm lk lc:Nat} {ba bm la:Option Addr} {es:Array MapEntry} {ks:List ByteArray} {Fk:ByteArray→Value} {base:List Int} {K:List ComT} {x:VActT} {ab n0 c0 n1 c1 n2 c2:Nat} {a0 a1 a2:Option Addr} (hI:Inj er) (hp1:1≤p) (hp6:p≤6) (hn:n≤40) (hK:ActsOk p n base K) (hm:MapG (MapKept.IsKey .string) es (strG ks Fk)) (hst:MapKept.Stamped es clock) (hnd:ks.Nodup) (hiff:∀t,t∈ks↔keyC (putsAll K) t≠[]) (hx0:n0=x.c.when.length) (hx1:n1=x.c.ops.length) (hx2:n2=x.at'.length) (hh:heavyC x.c=0) (hxk:x.key.size≤60) (hxa:x.at'.length≤20)
  (H:∀(base2:List Int) (K2:List ComT) (b2 mk2 md2 cb2 clock2 cm2 lk2 lc2:Nat) (ba2 bm2 la2:Option Addr) (es2:Array MapEntry) (ks2:List ByteArray) (Fk2:ByteArray→Value),ActsOk p (n+1) base2 K2→MapG (MapKept.IsKey .string) es2 (strG ks2 Fk2)→MapKept.Stamped es2 clock2→ks2.Nodup→(∀t,t∈ks2↔keyC (putsAll K2) t≠[])→J Tryz.prog Tryz.f8 R Tryz.f8.ntmps (.c (.rg 50 true)::.c (.cond (.tmp 256) (.seq (.rg 51 false) .ret) .skip)::kr) [(0,.val (.int .i64 (p:Nat))),(1,.val (.slice sl nl cl)),(4,.val (.bool false)),(6,.val (.pointer (some ⟨b2,0,none⟩))),(8,.val (.pointer (some ⟨mb,0,none⟩))),(9,.val (.int .i64 i))] [] [] [([],zero w0)] ⟨S0,[cObj b2 (.cells #[.int .i64 (p:Nat),.slice ba2 p cb2,.map (some mk2),.map (some md2)] 133 (0,0)),cObj mk2 (.map es2 clock2),cStar (ks2.map fun t=>cAcc (Fk2 t) 28 3 ((keyC (putsAll K2) t).map eCom)),cMapG md2 okDot (dotSet ((putsAll K2).map dotP)),cObj mb (.cells #[.slice bm2 p cm2,.slice la2 lk2 lc2] 85 (0,0)),cAcc (.slice la2 lk2 lc2) 28 3 (K2.map eCom)],[(.nilIface,dC er eb),(.slice sl nl cl,.sl 7 (l.map eVAct)),(.slice bm2 p cm2,dInts base2),(.slice ba2 p cb2,dInts base2)]⟩) :
  J Tryz.prog Tryz.f8 R Tryz.f8.ntmps (.c (.rg 27 true)::.c (.seq (.rg 28 false) (.seq (.rg 29 false) (.cond (.tmp 135) (.seq (.rg 30 false) (.cond (.tmp 145) (.seq (.rg 31 false) .ret) .skip)) (.seq (.rg 32 true) (.cond (.tmp 159) (.seq (.rg 33 false) .ret) .skip)))))::.eb 2::.c (.seq (.rg 50 true) (.cond (.tmp 256) (.seq (.rg 51 false) .ret) .skip))::kr) [(0,.val (.int .i64 (p:Nat))),(1,.val (.slice sl nl cl)),(4,.val (.bool false)),(6,.val (.pointer (some ⟨b,0,none⟩))),(8,.val (.pointer (some ⟨mb,0,none⟩))),(9,.val (.int .i64 i)),(10,.val (.pointer (some ⟨ab,0,none⟩)))] [(ab,.cells #[.string x.kind,.string x.key,.string x.text,.slice a0 n0 c0,.int .i64 x.c.place,.slice a1 n1 c1,.slice a2 n2 c2] 75 (0,0))] [] [([],zero w0)] ⟨S0,[cObj b (.cells #[.int .i64 (p:Nat),.slice ba p cb,.map (some mk),.map (some md)] 133 (0,0)),cObj mk (.map es clock),cStar (ks.map fun t=>cAcc (Fk t) 28 3 ((keyC (putsAll K) t).map eCom)),cMapG md okDot (dotSet ((putsAll K).map dotP)),cObj mb (.cells #[.slice bm p cm,.slice la lk lc] 85 (0,0)),cAcc (.slice la lk lc) 28 3 (K.map eCom)],[(.nilIface,dC er eb),(.slice sl nl cl,.sl 7 (l.map eVAct)),(.slice bm p cm,dInts base),(.slice ba p cb,dInts base),(.slice a0 n0 c0,dInts x.c.when),(.slice a1 n1 c1,.sl 7 (x.c.ops.map eOp)),(.slice a2 n2 c2,dInts x.at')]⟩:=by
 subst hx0 hx1 hx2
 have hpl:=hK.puts
 have hkl:=hK.few
 obtain⟨hxw,hxo,hxd⟩:=heavyC_len hh
 refine J_fork3 mixed [.rd 0 [] 0 0,.rd 1 [] 0 0,.rd 2 [.o 0 none] 0 0,.rd 3 [] 0 0,.rd 4 [.o 0 none] 0 0] 5 10 [(6,false),(7,true),(8,true),(9,true),(10,false),(11,false),(12,true)] [(10,false),(6,false),(7,true),(8,true),(9,true),(11,false),(12,true)] [(5,false),(6,false),(7,true),(8,true),(9,true),(11,false),(12,true)] [(6,[]),(11,[])] [0,1,4,6,8,9,10,119,120,121,122,123] (E1:=fun _=>[(0,.val (.int .i64 (↑p:Int))),(1,.val (.slice sl nl cl)),(4,.val (.bool false)),(6,.val (.pointer (some (⟨b,0,none⟩)))),(8,.val (.pointer (some (⟨mb,0,none⟩)))),(9,.val (.int .i64 i)),(10,.val (.pointer (some (⟨ab,0,none⟩)))),(119,.val (.pointer (some (⟨b,0,none⟩)))),(120,.val (.pointer (some (⟨ab,0+1,none⟩)))),(121,.val (.string x.key)),(122,.val (.pointer (some (⟨ab,0+6,none⟩)))),(123,.val (.slice a2 x.at'.length c2))]) (p1:=fun _=>[]) (by kernel_rfl) (by kernel_rfl) (fun _=>by kernel_rfl) (fun _=>trivial) (fun _=>?_) (fun _=>?_)
 ·refine JR2_callp [] 39 #[.slice a2 x.at'.length c2] (some 124) (by kernel_rfl) fun w S hG=>?_
  refine(vown (hG.at 6 rfl) (by omega)).mono ?_
  rintro e5 w5 ⟨a5,c5,hR⟩
  refine⟨_,_,_,hR,?_,?_⟩
  ·refine JR_callz [] [0,1,2,3] 38 #[.pointer (some (⟨b,0,none⟩)),.string x.key,.slice a5 x.at'.length c5] (some 125) zero_all (by kernel_rfl) (by kernel_rfl) (by decide) (fun w S M hP hG _=>?_)
   refine(vRead (p:=p) (base:=base) (at':=x.at') (key:=x.key) (L:=putsAll K) (hG.at 0 rfl) hP (hG.at 3 rfl) hK.vec hK.len (hG.at 7 rfl) (by omega) (by omega) (fun q hq=>hK.right hq) hm hnd hiff).mono ?_
   rintro e6 w6 (⟨hae,hR⟩|⟨hae,ua,un,uc,hR⟩)
   ·refine⟨_,_,_,hR,?_⟩
    try simp only[aQ]
    refine Ym (id:=27) (rest:=[]) (Rds 7 10++[.wr 10 [] 0,.wr 11 (hnO 1 4) 0,zR 12]) [] (fun nu1=>[zP 11 (nu1 0),zV 12 (.iface 243 (.pointer (some (er (atErr p base x.key x.at'))))),zV 118 (.tuple #[.agg #[nI 0,.string (ByteArray.mk #[]),nI 0,.slice none 0 0],.iface 243 (.pointer (some (er (atErr p base x.key x.at'))))]),zV 126 (.agg #[nI 0,.string (ByteArray.mk #[]),nI 0,.slice none 0 0]),zV 127 (.iface 243 (.pointer (some (er (atErr p base x.key x.at')))))]) (fun nu1=>[(ab,.cells #[.string x.kind,.string x.key,.string x.text,.slice a0 x.c.when.length c0,nI x.c.place,.slice a1 x.c.ops.length c1,.slice a2 x.at'.length c2] 75 (0,0)),(nu1 0,.cells #[nI 0,.string (ByteArray.mk #[]),nI 0,.slice none 0 0] 47 (0,0))]) [] (fun nu1=>?_)
    try simp only[aQ]
    refine JR_end ?_
    try simp only[aQ]
    refine J_seq ?_
    try simp only[aQ]
    refine Nm [cObj mb (.cells #[.slice bm p cm,.slice la lk lc] 85 (0,0)),cAcc (.slice la lk lc) 28 3 (List.map eCom K),cObj b (.cells #[nI (↑p:Int),.slice ba p cb,.map (some mk),.map (some md)] 133 (0,0)),cObj mk (Obj.map es clock),(cStar (List.map (fun t=>cAcc (Fk t) 28 3 (List.map eCom (keyC (putsAll K) t))) ks)),(cMapG md okDot (dotSet (List.map dotP (putsAll K))))] ?_
    refine J_cut (E':=[zI 0 (p:Nat),zS 1 sl nl cl,zB 4 false,zV 6 (.pointer (some ⟨b,0,none⟩)),zV 8 (.pointer (some ⟨mb,0,none⟩)),zI 9 i,zV 10 (.pointer (some ⟨ab,0,none⟩)),zV 11 (.pointer (some ⟨nu1 0,0,none⟩)),zV 12 (.iface 243 (.pointer (some (er (atErr p base x.key x.at')))))]) (h':=[_,_]) (C':=[_,_,_,_,_,_]) (G':=[_,_,_,_,_,_,_]) [0,1,4,6,8,9,10,11,12] [0,1] [2,3,4,5,0,1] [0,1,2,3,4,5,6] (by kernel_rfl) rfl rfl rfl ?_
    exact readBad hI hp1 hp6 hn hK hm hst hnd hiff rfl rfl rfl hh hxk hxa hae H
   ·refine⟨_,_,_,hR,?_⟩
    try simp only[aQ]
    refine Ym (id:=27) (rest:=[]) (Rds 7 10++[.wr 10 [] 0,.wr 11 (hnO 1 4) 0,zR 12]) [] (fun nu1=>[zP 11 (nu1 0),zV 12 .nilIface,zV 118 (.tuple #[.agg #[nI ((Sx.valOf x.key (withinC (putsAll K) x.key x.at')).kind),.string ((Sx.valOf x.key (withinC (putsAll K) x.key x.at')).text),nI ((Sx.valOf x.key (withinC (putsAll K) x.key x.at')).n),.slice ua un uc],.nilIface]),zV 126 (.agg #[nI ((Sx.valOf x.key (withinC (putsAll K) x.key x.at')).kind),.string ((Sx.valOf x.key (withinC (putsAll K) x.key x.at')).text),nI ((Sx.valOf x.key (withinC (putsAll K) x.key x.at')).n),.slice ua un uc]),zV 127 .nilIface]) (fun nu1=>[(ab,.cells #[.string x.kind,.string x.key,.string x.text,.slice a0 x.c.when.length c0,nI x.c.place,.slice a1 x.c.ops.length c1,.slice a2 x.at'.length c2] 75 (0,0)),(nu1 0,.cells #[nI ((Sx.valOf x.key (withinC (putsAll K) x.key x.at')).kind),.string ((Sx.valOf x.key (withinC (putsAll K) x.key x.at')).text),nI ((Sx.valOf x.key (withinC (putsAll K) x.key x.at')).n),.slice ua un uc] 47 (0,0))]) [] (fun nu1=>?_)
    try simp only[aQ]
    refine JR_end ?_
    try simp only[aQ]
    refine J_seq ?_
    try simp only[aQ]
    refine Nm [cObj mb (.cells #[.slice bm p cm,.slice la lk lc] 85 (0,0)),cAcc (.slice la lk lc) 28 3 (List.map eCom K),cObj b (.cells #[nI (↑p:Int),.slice ba p cb,.map (some mk),.map (some md)] 133 (0,0)),cObj mk (Obj.map es clock),(cStar (List.map (fun t=>cAcc (Fk t) 28 3 (List.map eCom (keyC (putsAll K) t))) ks)),(cMapG md okDot (dotSet (List.map dotP (putsAll K))))] ?_
    refine J_cut (E':=[zI 0 (p:Nat),zS 1 sl nl cl,zB 4 false,zV 6 (.pointer (some ⟨b,0,none⟩)),zV 8 (.pointer (some ⟨mb,0,none⟩)),zI 9 i,zV 10 (.pointer (some ⟨ab,0,none⟩)),zV 11 (.pointer (some ⟨nu1 0,0,none⟩)),zV 12 .nilIface]) (h':=[_,_]) (C':=[_,_,_,_,_,_]) (G':=[_,_,_,_,_,_,_,_]) [0,1,4,6,8,9,10,11,12] [0,1] [2,3,4,5,0,1] [0,1,2,3,4,5,6,8] (by kernel_rfl) rfl rfl rfl ?_
    exact readFine hI hp1 hp6 hn hK hm hst hnd hiff rfl rfl rfl hh hxk hxa hae H
  ·try simp only[aQ]
   refine Ym (id:=27) (rest:=[(6,false),(7,true),(8,true),(9,true),(11,false),(12,true)]) [.wr 10 [] 0] [] (fun nu1=>[zP 11 (nu1 0)]) (fun nu1=>[(ab,.cells #[.string x.kind,.string x.key,.string x.text,.slice a0 x.c.when.length c0,nI x.c.place,.slice a1 x.c.ops.length c1,.slice a2 x.at'.length c2] 75 (0,0)),(nu1 0,.cells #[nI 0,.string (ByteArray.mk #[]),nI 0,.slice none 0 0] 47 (0,0))]) [(6,[]),(11,[])] (fun nu1=>?_)
   refine JR_callz [] [0,1,2,3] 38 #[.pointer (some (⟨b,0,none⟩)),.string x.key,.slice a5 x.at'.length c5] (some 125) zero_all (by kernel_rfl) (by kernel_rfl) (by decide) (fun w S M hP hG _=>?_)
   refine(vRead (p:=p) (base:=base) (at':=x.at') (key:=x.key) (L:=putsAll K) (hG.at 0 rfl) hP (hG.at 3 rfl) hK.vec hK.len (hG.at 7 rfl) (by omega) (by omega) (fun q hq=>hK.right hq) hm hnd hiff).mono ?_
   rintro e6 w6 (⟨hae,hR⟩|⟨hae,ua,un,uc,hR⟩)
   ·refine⟨_,_,_,hR,?_⟩
    try simp only[aQ]
    refine Ym (id:=27) (rest:=[]) (Rds 7 10++[.wr 11 (hnO 1 4) 0,zR 12]) [] (fun _=>[zV 12 (.iface 243 (.pointer (some (er (atErr p base x.key x.at'))))),zV 118 (.tuple #[.agg #[nI 0,.string (ByteArray.mk #[]),nI 0,.slice none 0 0],.iface 243 (.pointer (some (er (atErr p base x.key x.at'))))]),zV 126 (.agg #[nI 0,.string (ByteArray.mk #[]),nI 0,.slice none 0 0]),zV 127 (.iface 243 (.pointer (some (er (atErr p base x.key x.at')))))]) (fun _=>[(ab,.cells #[.string x.kind,.string x.key,.string x.text,.slice a0 x.c.when.length c0,nI x.c.place,.slice a1 x.c.ops.length c1,.slice a2 x.at'.length c2] 75 (0,0)),(nu1 0,.cells #[nI 0,.string (ByteArray.mk #[]),nI 0,.slice none 0 0] 47 (0,0))]) [] (fun _=>?_)
    try simp only[aQ]
    refine JR_end ?_
    try simp only[aQ]
    refine J_seq ?_
    try simp only[aQ]
    refine Nm [cObj mb (.cells #[.slice bm p cm,.slice la lk lc] 85 (0,0)),cAcc (.slice la lk lc) 28 3 (List.map eCom K),cObj b (.cells #[nI (↑p:Int),.slice ba p cb,.map (some mk),.map (some md)] 133 (0,0)),cObj mk (Obj.map es clock),(cStar (List.map (fun t=>cAcc (Fk t) 28 3 (List.map eCom (keyC (putsAll K) t))) ks)),(cMapG md okDot (dotSet (List.map dotP (putsAll K))))] ?_
    refine J_cut (E':=[zI 0 (p:Nat),zS 1 sl nl cl,zB 4 false,zV 6 (.pointer (some ⟨b,0,none⟩)),zV 8 (.pointer (some ⟨mb,0,none⟩)),zI 9 i,zV 10 (.pointer (some ⟨ab,0,none⟩)),zV 11 (.pointer (some ⟨nu1 0,0,none⟩)),zV 12 (.iface 243 (.pointer (some (er (atErr p base x.key x.at')))))]) (h':=[_,_]) (C':=[_,_,_,_,_,_]) (G':=[_,_,_,_,_,_,_]) [0,1,4,6,8,9,10,11,12] [0,1] [2,3,4,5,0,1] [0,1,2,3,4,5,6] (by kernel_rfl) rfl rfl rfl ?_
    exact readBad hI hp1 hp6 hn hK hm hst hnd hiff rfl rfl rfl hh hxk hxa hae H
   ·refine⟨_,_,_,hR,?_⟩
    try simp only[aQ]
    refine Ym (id:=27) (rest:=[]) (Rds 7 10++[.wr 11 (hnO 1 4) 0,zR 12]) [] (fun _=>[zV 12 .nilIface,zV 118 (.tuple #[.agg #[nI ((Sx.valOf x.key (withinC (putsAll K) x.key x.at')).kind),.string ((Sx.valOf x.key (withinC (putsAll K) x.key x.at')).text),nI ((Sx.valOf x.key (withinC (putsAll K) x.key x.at')).n),.slice ua un uc],.nilIface]),zV 126 (.agg #[nI ((Sx.valOf x.key (withinC (putsAll K) x.key x.at')).kind),.string ((Sx.valOf x.key (withinC (putsAll K) x.key x.at')).text),nI ((Sx.valOf x.key (withinC (putsAll K) x.key x.at')).n),.slice ua un uc]),zV 127 .nilIface]) (fun _=>[(ab,.cells #[.string x.kind,.string x.key,.string x.text,.slice a0 x.c.when.length c0,nI x.c.place,.slice a1 x.c.ops.length c1,.slice a2 x.at'.length c2] 75 (0,0)),(nu1 0,.cells #[nI ((Sx.valOf x.key (withinC (putsAll K) x.key x.at')).kind),.string ((Sx.valOf x.key (withinC (putsAll K) x.key x.at')).text),nI ((Sx.valOf x.key (withinC (putsAll K) x.key x.at')).n),.slice ua un uc] 47 (0,0))]) [] (fun _=>?_)
    try simp only[aQ]
    refine JR_end ?_
    try simp only[aQ]
    refine J_seq ?_
    try simp only[aQ]
    refine Nm [cObj mb (.cells #[.slice bm p cm,.slice la lk lc] 85 (0,0)),cAcc (.slice la lk lc) 28 3 (List.map eCom K),cObj b (.cells #[nI (↑p:Int),.slice ba p cb,.map (some mk),.map (some md)] 133 (0,0)),cObj mk (Obj.map es clock),(cStar (List.map (fun t=>cAcc (Fk t) 28 3 (List.map eCom (keyC (putsAll K) t))) ks)),(cMapG md okDot (dotSet (List.map dotP (putsAll K))))] ?_
    refine J_cut (E':=[zI 0 (p:Nat),zS 1 sl nl cl,zB 4 false,zV 6 (.pointer (some ⟨b,0,none⟩)),zV 8 (.pointer (some ⟨mb,0,none⟩)),zI 9 i,zV 10 (.pointer (some ⟨ab,0,none⟩)),zV 11 (.pointer (some ⟨nu1 0,0,none⟩)),zV 12 .nilIface]) (h':=[_,_]) (C':=[_,_,_,_,_,_]) (G':=[_,_,_,_,_,_,_,_]) [0,1,4,6,8,9,10,11,12] [0,1] [2,3,4,5,0,1] [0,1,2,3,4,5,6,8] (by kernel_rfl) rfl rfl rfl ?_
    exact readFine hI hp1 hp6 hn hK hm hst hnd hiff rfl rfl rfl hh hxk hxa hae H
 ·refine Ym (id:=27) (rest:=[(5,false),(6,false),(7,true),(8,true),(9,true),(11,false),(12,true)]) [.wr 10 [] 0] [] (fun nu1=>[(11,.val (.pointer (some (⟨nu1 0,0,none⟩))))]) (fun nu1=>[(ab,.cells #[.string x.kind,.string x.key,.string x.text,.slice a0 x.c.when.length c0,.int .i64 x.c.place,.slice a1 x.c.ops.length c1,.slice a2 x.at'.length c2] 75 (0,0)),(nu1 0,.cells #[.int .i64 0,.string (ByteArray.mk #[]),.int .i64 0,.slice none 0 0] 47 (0,0))]) [(6,[]),(11,[])] (fun nu1=>?_)
  refine Yc 39 #[.slice a2 x.at'.length c2] (some 124) fun w S hG=>?_
  refine(vown (hG.at 6 rfl) (by omega)).mono ?_
  rintro e5 w5 ⟨a5,c5,hR⟩
  refine⟨_,_,_,hR,?_⟩
  try simp only[aQ]
  refine JR_callz [] [0,1,2,3] 38 #[.pointer (some (⟨b,0,none⟩)),.string x.key,.slice a5 x.at'.length c5] (some 125) zero_all (by kernel_rfl) (by kernel_rfl) (by decide) (fun w S M hP hG _=>?_)
  refine(vRead (p:=p) (base:=base) (at':=x.at') (key:=x.key) (L:=putsAll K) (hG.at 0 rfl) hP (hG.at 3 rfl) hK.vec hK.len (hG.at 7 rfl) (by omega) (by omega) (fun q hq=>hK.right hq) hm hnd hiff).mono ?_
  rintro e6 w6 (⟨hae,hR⟩|⟨hae,ua,un,uc,hR⟩)
  ·refine⟨_,_,_,hR,?_⟩
   try simp only[aQ]
   refine Ym (id:=27) (rest:=[]) (Rds 7 10++[.wr 11 (hnO 1 4) 0,zR 12]) [] (fun _=>[zV 12 (.iface 243 (.pointer (some (er (atErr p base x.key x.at'))))),zV 118 (.tuple #[.agg #[nI 0,.string (ByteArray.mk #[]),nI 0,.slice none 0 0],.iface 243 (.pointer (some (er (atErr p base x.key x.at'))))]),zV 126 (.agg #[nI 0,.string (ByteArray.mk #[]),nI 0,.slice none 0 0]),zV 127 (.iface 243 (.pointer (some (er (atErr p base x.key x.at')))))]) (fun _=>[(ab,.cells #[.string x.kind,.string x.key,.string x.text,.slice a0 x.c.when.length c0,nI x.c.place,.slice a1 x.c.ops.length c1,.slice a2 x.at'.length c2] 75 (0,0)),(nu1 0,.cells #[nI 0,.string (ByteArray.mk #[]),nI 0,.slice none 0 0] 47 (0,0))]) [] (fun _=>?_)
   try simp only[aQ]
   refine JR_end ?_
   try simp only[aQ]
   refine J_seq ?_
   try simp only[aQ]
   refine Nm [cObj mb (.cells #[.slice bm p cm,.slice la lk lc] 85 (0,0)),cAcc (.slice la lk lc) 28 3 (List.map eCom K),cObj b (.cells #[nI (↑p:Int),.slice ba p cb,.map (some mk),.map (some md)] 133 (0,0)),cObj mk (Obj.map es clock),(cStar (List.map (fun t=>cAcc (Fk t) 28 3 (List.map eCom (keyC (putsAll K) t))) ks)),(cMapG md okDot (dotSet (List.map dotP (putsAll K))))] ?_
   refine J_cut (E':=[zI 0 (p:Nat),zS 1 sl nl cl,zB 4 false,zV 6 (.pointer (some ⟨b,0,none⟩)),zV 8 (.pointer (some ⟨mb,0,none⟩)),zI 9 i,zV 10 (.pointer (some ⟨ab,0,none⟩)),zV 11 (.pointer (some ⟨nu1 0,0,none⟩)),zV 12 (.iface 243 (.pointer (some (er (atErr p base x.key x.at')))))]) (h':=[_,_]) (C':=[_,_,_,_,_,_]) (G':=[_,_,_,_,_,_,_]) [0,1,4,6,8,9,10,11,12] [0,1] [2,3,4,5,0,1] [0,1,2,3,4,5,6] (by kernel_rfl) rfl rfl rfl ?_
   exact readBad hI hp1 hp6 hn hK hm hst hnd hiff rfl rfl rfl hh hxk hxa hae H
  ·refine⟨_,_,_,hR,?_⟩
   try simp only[aQ]
   refine Ym (id:=27) (rest:=[]) (Rds 7 10++[.wr 11 (hnO 1 4) 0,zR 12]) [] (fun _=>[zV 12 .nilIface,zV 118 (.tuple #[.agg #[nI ((Sx.valOf x.key (withinC (putsAll K) x.key x.at')).kind),.string ((Sx.valOf x.key (withinC (putsAll K) x.key x.at')).text),nI ((Sx.valOf x.key (withinC (putsAll K) x.key x.at')).n),.slice ua un uc],.nilIface]),zV 126 (.agg #[nI ((Sx.valOf x.key (withinC (putsAll K) x.key x.at')).kind),.string ((Sx.valOf x.key (withinC (putsAll K) x.key x.at')).text),nI ((Sx.valOf x.key (withinC (putsAll K) x.key x.at')).n),.slice ua un uc]),zV 127 .nilIface]) (fun _=>[(ab,.cells #[.string x.kind,.string x.key,.string x.text,.slice a0 x.c.when.length c0,nI x.c.place,.slice a1 x.c.ops.length c1,.slice a2 x.at'.length c2] 75 (0,0)),(nu1 0,.cells #[nI ((Sx.valOf x.key (withinC (putsAll K) x.key x.at')).kind),.string ((Sx.valOf x.key (withinC (putsAll K) x.key x.at')).text),nI ((Sx.valOf x.key (withinC (putsAll K) x.key x.at')).n),.slice ua un uc] 47 (0,0))]) [] (fun _=>?_)
   try simp only[aQ]
   refine JR_end ?_
   try simp only[aQ]
   refine J_seq ?_
   try simp only[aQ]
   refine Nm [cObj mb (.cells #[.slice bm p cm,.slice la lk lc] 85 (0,0)),cAcc (.slice la lk lc) 28 3 (List.map eCom K),cObj b (.cells #[nI (↑p:Int),.slice ba p cb,.map (some mk),.map (some md)] 133 (0,0)),cObj mk (Obj.map es clock),(cStar (List.map (fun t=>cAcc (Fk t) 28 3 (List.map eCom (keyC (putsAll K) t))) ks)),(cMapG md okDot (dotSet (List.map dotP (putsAll K))))] ?_
   refine J_cut (E':=[zI 0 (p:Nat),zS 1 sl nl cl,zB 4 false,zV 6 (.pointer (some ⟨b,0,none⟩)),zV 8 (.pointer (some ⟨mb,0,none⟩)),zI 9 i,zV 10 (.pointer (some ⟨ab,0,none⟩)),zV 11 (.pointer (some ⟨nu1 0,0,none⟩)),zV 12 .nilIface]) (h':=[_,_]) (C':=[_,_,_,_,_,_]) (G':=[_,_,_,_,_,_,_,_]) [0,1,4,6,8,9,10,11,12] [0,1] [2,3,4,5,0,1] [0,1,2,3,4,5,6,8] (by kernel_rfl) rfl rfl rfl ?_
   exact readFine hI hp1 hp6 hn hK hm hst hnd hiff rfl rfl rfl hh hxk hxa hae H
set_option maxHeartbeats 8000000 in
theorem actDots {w0:World} {R:Act→World→Prop} {kr:List Itm} {S0:Nat→Prop} {er:Nat→Addr} {eb:Nat→Array Value×TypeId} {p n mb nl cl:Nat} {sl:Option Addr} {i:Int} {l:List VActT} {b mk md cb clock cm lk lc:Nat} {ba bm la:Option Addr} {es:Array MapEntry} {ks:List ByteArray} {Fk:ByteArray→Value} {base:List Int} {K:List ComT} {x:VActT} {ab n0 c0 n1 c1 n2 c2:Nat} {a0 a1 a2:Option Addr} (hI:Inj er) (hp1:1≤p) (hp6:p≤6) (hn:n≤40) (hK:ActsOk p n base K) (hm:MapG (MapKept.IsKey .string) es (strG ks Fk)) (hst:MapKept.Stamped es clock) (hnd:ks.Nodup) (hiff:∀t,t∈ks↔keyC (putsAll K) t≠[]) (hx0:n0=x.c.when.length) (hx1:n1=x.c.ops.length) (hx2:n2=x.at'.length) (hh:heavyC x.c=0) (hxk:x.key.size≤60) (hxa:x.at'.length≤20)
  (H:∀(base2:List Int) (K2:List ComT) (b2 mk2 md2 cb2 clock2 cm2 lk2 lc2:Nat) (ba2 bm2 la2:Option Addr) (es2:Array MapEntry) (ks2:List ByteArray) (Fk2:ByteArray→Value),ActsOk p (n+1) base2 K2→MapG (MapKept.IsKey .string) es2 (strG ks2 Fk2)→MapKept.Stamped es2 clock2→ks2.Nodup→(∀t,t∈ks2↔keyC (putsAll K2) t≠[])→J Tryz.prog Tryz.f8 R Tryz.f8.ntmps (.c (.rg 50 true)::.c (.cond (.tmp 256) (.seq (.rg 51 false) .ret) .skip)::kr) [(0,.val (.int .i64 (p:Nat))),(1,.val (.slice sl nl cl)),(4,.val (.bool false)),(6,.val (.pointer (some ⟨b2,0,none⟩))),(8,.val (.pointer (some ⟨mb,0,none⟩))),(9,.val (.int .i64 i))] [] [] [([],zero w0)] ⟨S0,[cObj b2 (.cells #[.int .i64 (p:Nat),.slice ba2 p cb2,.map (some mk2),.map (some md2)] 133 (0,0)),cObj mk2 (.map es2 clock2),cStar (ks2.map fun t=>cAcc (Fk2 t) 28 3 ((keyC (putsAll K2) t).map eCom)),cMapG md2 okDot (dotSet ((putsAll K2).map dotP)),cObj mb (.cells #[.slice bm2 p cm2,.slice la2 lk2 lc2] 85 (0,0)),cAcc (.slice la2 lk2 lc2) 28 3 (K2.map eCom)],[(.nilIface,dC er eb),(.slice sl nl cl,.sl 7 (l.map eVAct)),(.slice bm2 p cm2,dInts base2),(.slice ba2 p cb2,dInts base2)]⟩) :
  J Tryz.prog Tryz.f8 R Tryz.f8.ntmps (.c (.rg 35 true)::.c (.seq (.rg 36 false) (.seq (.rg 37 false) (.cond (.tmp 181) (.seq (.rg 38 false) (.cond (.tmp 190) (.seq (.rg 39 false) .ret) .skip)) (.seq (.rg 40 true) (.cond (.tmp 206) (.seq (.rg 41 false) .ret) .skip)))))::.eb 2::.c (.seq (.rg 50 true) (.cond (.tmp 256) (.seq (.rg 51 false) .ret) .skip))::kr) [(0,.val (.int .i64 (p:Nat))),(1,.val (.slice sl nl cl)),(4,.val (.bool false)),(6,.val (.pointer (some ⟨b,0,none⟩))),(8,.val (.pointer (some ⟨mb,0,none⟩))),(9,.val (.int .i64 i)),(10,.val (.pointer (some ⟨ab,0,none⟩)))] [(ab,.cells #[.string x.kind,.string x.key,.string x.text,.slice a0 n0 c0,.int .i64 x.c.place,.slice a1 n1 c1,.slice a2 n2 c2] 75 (0,0))] [] [([],zero w0)] ⟨S0,[cObj b (.cells #[.int .i64 (p:Nat),.slice ba p cb,.map (some mk),.map (some md)] 133 (0,0)),cObj mk (.map es clock),cStar (ks.map fun t=>cAcc (Fk t) 28 3 ((keyC (putsAll K) t).map eCom)),cMapG md okDot (dotSet ((putsAll K).map dotP)),cObj mb (.cells #[.slice bm p cm,.slice la lk lc] 85 (0,0)),cAcc (.slice la lk lc) 28 3 (K.map eCom)],[(.nilIface,dC er eb),(.slice sl nl cl,.sl 7 (l.map eVAct)),(.slice bm p cm,dInts base),(.slice ba p cb,dInts base),(.slice a0 n0 c0,dInts x.c.when),(.slice a1 n1 c1,.sl 7 (x.c.ops.map eOp)),(.slice a2 n2 c2,dInts x.at')]⟩:=by
 subst hx0 hx1 hx2
 have hpl:=hK.puts
 have hkl:=hK.few
 obtain⟨hxw,hxo,hxd⟩:=heavyC_len hh
 refine jT [(0,true),(1,true),(2,true),(3,true),(4,true),(5,true),(6,true),(7,false),(8,false),(9,true),(10,true),(11,true),(12,true),(13,true)] [(8,[])] ?_
 refine Ya (id:=35) (rest:=[(7,false),(8,false),(9,true),(10,true),(11,true),(12,true),(13,true)]) [zR 0,zR 1,.rd 2 [.o 0 none] 0 0,zR 3,.rd 4 [.o 0 none] 0 0,zR 5,.rd 6 [.o 0 none] 0 0] [] [zP 163 b,zV 164 (.pointer (sA ab (0+1))),zV 165 (.string x.key),zV 166 (.pointer (sA ab (0+2))),zV 167 (.string x.text),zV 168 (.pointer (sA ab (0+6))),zS 169 a2 x.at'.length c2] ?_
 refine Yc 39 #[.slice a2 x.at'.length c2] (some 170) fun w S hG=>?_
 refine(vown (hG.at 6 rfl) (by omega)).mono ?_
 rintro e5 w5 ⟨a5,c5,hR⟩
 refine⟨_,_,_,hR,?_⟩
 try simp only[aQ]
 refine JR_call [] [0,1,2,3] 42 #[.pointer (some (⟨b,0,none⟩)),.string x.key,.string x.text,.slice a5 x.at'.length c5] (some 171) (by kernel_rfl) (by kernel_rfl) (by decide) (fun w S M hP hG _=>?_)
 refine(vVDots (p:=p) (base:=base) (at':=x.at') (key:=x.key) (text:=x.text) (L:=putsAll K) (hG.at 0 rfl) hP (hG.at 3 rfl) hK.vec hK.len (hG.at 7 rfl) (by omega) (by omega) (fun q hq=>hK.right hq) hm hnd hiff).mono ?_
 rintro e6 w6 (⟨hae,hR⟩|⟨hae,ua,un,uc,hR⟩)
 ·refine⟨_,_,_,hR,?_⟩
  try simp only[aQ]
  refine Ya (id:=35) (rest:=[]) (Rds 9 14) [] [zS 14 none 0 0,zV 15 (.iface 243 (.pointer (some (er (atErr p base x.key x.at'))))),zV 162 (.tuple #[.slice none 0 0,.iface 243 (.pointer (some (er (atErr p base x.key x.at'))))]),zS 172 none 0 0,zV 173 (.iface 243 (.pointer (some (er (atErr p base x.key x.at')))))] ?_
  try simp only[aQ]
  refine JR_end ?_
  try simp only[aQ]
  refine J_seq ?_
  try simp only[aQ]
  refine Nm [cObj mb (.cells #[.slice bm p cm,.slice la lk lc] 85 (0,0)),cAcc (.slice la lk lc) 28 3 (List.map eCom K),cObj b (.cells #[nI (↑p:Int),.slice ba p cb,.map (some mk),.map (some md)] 133 (0,0)),cObj mk (Obj.map es clock),(cStar (List.map (fun t=>cAcc (Fk t) 28 3 (List.map eCom (keyC (putsAll K) t))) ks)),(cMapG md okDot (dotSet (List.map dotP (putsAll K))))] ?_
  refine jT [(0,true),(1,true),(2,true),(3,true),(4,true),(5,false),(6,true)] [] ?_
  refine Ya (id:=36) (rest:=[(5,false),(6,true)]) [zR 0,zR 1,.rd 2 [.o 0 none] 0 0,zR 3,.rd 4 [.o 0 none] 0 0] [] [zP 174 mb,zV 175 (.pointer (sA ab (0+1))),zV 176 (.string x.key),zV 177 (.pointer (sA ab (0+6))),zS 178 a2 x.at'.length c2] ?_
  refine JR_call [] [0] 40 #[.pointer (some (⟨mb,0,none⟩)),.string x.key,.slice a2 x.at'.length c2] (some 179) (by kernel_rfl) (by kernel_rfl) (by decide) (fun w S M hP hG _=>?_)
  refine(rAtErr (p:=p) (base:=base) (key:=x.key) (at':=x.at') rfl hP (hG.at 2 rfl) hK.len hp6 (hG.at 6 rfl) (by omega)).mono ?_
  rw[atE_at]
  rintro e7 w7 hR
  refine⟨_,_,_,hR,?_⟩
  have hpos:0<((atErr p base x.key x.at':Nat):Int):=by omega
  try simp only[aQ]
  refine Ya (id:=36) (rest:=[]) [zR 6] [] [zI 16 ((↑(atErr p base x.key x.at'):Int))] ?_
  try simp only[aQ]
  refine JR_end ?_
  try simp only[aQ]
  refine J_seq ?_
  try simp only[aQ]
  refine Zp [zR 0,.rd 1 [] 0 6] [] [zI 180 ((↑(atErr p base x.key x.at'):Int)),zB 181 true] [decide ((↑(atErr p base x.key x.at'):Int)>(0:Int))=true] ⟨by simp;omega,trivial⟩ ?_
  try simp only[aQ]
  refine cTt ?_
  try simp only[aQ]
  refine J_seq ?_
  try simp only[aQ]
  refine Nm [cAcc (.slice la lk lc) 28 3 (List.map eCom K),cObj b (.cells #[nI (↑p:Int),.slice ba p cb,.map (some mk),.map (some md)] 133 (0,0)),cObj mk (Obj.map es clock),(cStar (List.map (fun t=>cAcc (Fk t) 28 3 (List.map eCom (keyC (putsAll K) t))) ks)),(cMapG md okDot (dotSet (List.map dotP (putsAll K)))),cObj mb (.cells #[.slice bm p cm,.slice la lk lc] 85 (0,0))] ?_
  refine jT [(0,true),(1,true),(2,false),(3,true),(4,true),(5,true),(6,true),(7,true),(8,true)] [] ?_
  refine Ya (id:=38) (rest:=[(2,false),(3,true),(4,true),(5,true),(6,true),(7,true),(8,true)]) [zR 0,zR 1] [] [zV 182 (.iface 243 (.pointer (some (er (atErr p base x.key x.at'))))),zI 183 ((↑(atErr p base x.key x.at'):Int))] ?_
  refine Yc 13 #[.iface 243 (.pointer (some (er (atErr p base x.key x.at')))),nI ((↑(atErr p base x.key x.at'):Int))] (some 184) fun w S hG=>?_
  refine(codedErr (c:=(atErr p base x.key x.at':Nat)) (hG.at 0 rfl) hI (k:=atErr p base x.key x.at') (atErr_le ..) (.inr ⟨hae,rfl⟩)).mono ?_
  rintro e8 w8 hR
  rw[decide_eq_true rfl]at hR
  refine⟨_,_,_,hR,?_⟩
  try simp only[aQ]
  refine Ya (id:=38) (rest:=[]) (Rds 3 9) [] [zB 185 false,zB 186 false,zS 187 none 0 0,zI 188 0,zB 189 false,zB 190 false] ?_
  refine JR_end ?_
  refine cF ?_
  refine J_skip (J_eb (J_seq ?_))
  refine Nm [cAcc (.slice la lk lc) 28 3 (List.map eCom K),cObj b (.cells #[nI (↑p:Int),.slice ba p cb,.map (some mk),.map (some md)] 133 (0,0)),cObj mk (Obj.map es clock),(cStar (List.map (fun t=>cAcc (Fk t) 28 3 (List.map eCom (keyC (putsAll K) t))) ks)),(cMapG md okDot (dotSet (List.map dotP (putsAll K)))),cObj mb (.cells #[.slice bm p cm,.slice la lk lc] 85 (0,0))] ?_
  refine J_cut (E':=[zI 0 (p:Nat),zS 1 sl nl cl,zB 4 false,zV 6 (.pointer (some ⟨b,0,none⟩)),zV 8 (.pointer (some ⟨mb,0,none⟩)),zI 9 i]) (h':=[]) (C':=[_,_,_,_,_,_]) (G':=[_,_,_,_]) [0,1,4,6,8,9] [] [1,2,3,4,5,0] [0,1,2,3] (by kernel_rfl) rfl rfl rfl ?_
  exact H base K b mk md cb clock cm lk lc ba bm la es ks Fk hK.next hm hst hnd hiff
 ·obtain⟨hnm,hav,hal⟩:=atErr_fine hae
  have hfl:(K.filter fun c=>inL c.when x.at').length≤K.length:=List.length_filter_le _ _
  have hwl:=withinC_len (putsAll K) x.key x.at'
  refine⟨_,_,_,hR,?_⟩
  try simp only[aQ]
  refine Ya (id:=35) (rest:=[]) (Rds 9 14) [] [zS 14 ua un uc,zV 15 .nilIface,zV 162 (.tuple #[.slice ua un uc,.nilIface]),zS 172 ua un uc,zV 173 .nilIface] ?_
  try simp only[aQ]
  refine JR_end ?_
  try simp only[aQ]
  refine J_seq ?_
  try simp only[aQ]
  refine Nm [cObj mb (.cells #[.slice bm p cm,.slice la lk lc] 85 (0,0)),cAcc (.slice la lk lc) 28 3 (List.map eCom K),cObj b (.cells #[nI (↑p:Int),.slice ba p cb,.map (some mk),.map (some md)] 133 (0,0)),cObj mk (Obj.map es clock),(cStar (List.map (fun t=>cAcc (Fk t) 28 3 (List.map eCom (keyC (putsAll K) t))) ks)),(cMapG md okDot (dotSet (List.map dotP (putsAll K))))] ?_
  refine jT [(0,true),(1,true),(2,true),(3,true),(4,true),(5,false),(6,true)] [] ?_
  refine Ya (id:=36) (rest:=[(5,false),(6,true)]) [zR 0,zR 1,.rd 2 [.o 0 none] 0 0,zR 3,.rd 4 [.o 0 none] 0 0] [] [zP 174 mb,zV 175 (.pointer (sA ab (0+1))),zV 176 (.string x.key),zV 177 (.pointer (sA ab (0+6))),zS 178 a2 x.at'.length c2] ?_
  refine JR_call [] [0] 40 #[.pointer (some (⟨mb,0,none⟩)),.string x.key,.slice a2 x.at'.length c2] (some 179) (by kernel_rfl) (by kernel_rfl) (by decide) (fun w S M hP hG _=>?_)
  refine(rAtErr (p:=p) (base:=base) (key:=x.key) (at':=x.at') rfl hP (hG.at 2 rfl) hK.len hp6 (hG.at 6 rfl) (by omega)).mono ?_
  rw[atE_at]
  rintro e7 w7 hR
  rw[hae]at hR
  refine⟨_,_,_,hR,?_⟩
  try simp only[aQ]
  refine Ya (id:=36) (rest:=[]) [zR 6] [] [zI 16 0] ?_
  try simp only[aQ]
  refine JR_end ?_
  try simp only[aQ]
  refine J_seq ?_
  try simp only[aQ]
  refine Za [zR 0,zR 1] [] [zI 180 0,zB 181 false] ?_
  try simp only[aQ]
  refine cF ?_
  try simp only[aQ]
  refine J_seq ?_
  try simp only[aQ]
  refine Nm [cAcc (.slice la lk lc) 28 3 (List.map eCom K),cObj b (.cells #[nI (↑p:Int),.slice ba p cb,.map (some mk),.map (some md)] 133 (0,0)),cObj mk (Obj.map es clock),(cStar (List.map (fun t=>cAcc (Fk t) 28 3 (List.map eCom (keyC (putsAll K) t))) ks)),(cMapG md okDot (dotSet (List.map dotP (putsAll K)))),cObj mb (.cells #[.slice bm p cm,.slice la lk lc] 85 (0,0))] ?_
  refine jT [(0,true),(1,true),(2,true),(3,true),(4,true),(5,true),(6,true),(7,true),(8,true),(9,true),(10,true),(11,false),(12,false),(13,false),(14,true),(15,true)] [(11,[])] ?_
  refine Ya (id:=40) (rest:=[(11,false),(12,false),(13,false),(14,true),(15,true)]) (Rds 0 5++[.rd 5 [.o 0 none] 0 0,zR 6,.rd 7 [.o 0 none] 0 0,zR 8,zR 9,.rd 10 [.o 0 none] 0 0]) [] [zV 191 .nilIface,zB 192 false,zB 193 false,zS 194 ua un uc,zV 195 (.pointer (sA ab (0+1))),zV 196 (.string x.key),zV 197 (.pointer (sA ab (0+2))),zV 198 (.string x.text),zP 199 mb,zV 200 (.pointer (sA ab (0+6))),zS 201 a2 x.at'.length c2] ?_
  refine JR_call [] [5,0] 41 #[.pointer (some (⟨mb,0,none⟩)),.slice a2 x.at'.length c2] (some 202) (by kernel_rfl) (by kernel_rfl) (by decide) (fun w S M hP hG _=>?_)
  refine(rWithin (K:=K) (at':=x.at') hP (by omega) (fun c hc=>by rw[(hK.ok c hc).2,hal]) (hG.at 6 rfl) (by omega)).mono ?_
  rintro e8 w8 ⟨ra,rn,rc,hR⟩
  refine⟨_,_,_,hR,?_⟩
  try simp only[aQ]
  refine Yc 30 #[.string x.key,.string x.text,.slice ra rn rc] (some 203) fun w S hG=>?_
  refine(rDotsOf (key:=x.key) (text:=x.text) (hG.at 9 rfl) (by omega) (filter_fine hnm hK.ok)).mono ?_
  rintro e9 w9 ⟨va,vn,vc,hR⟩
  rw[dots_doc hK.nodup]at hR
  have hvl:=dotsOf_len (text:=x.text) (withinC_fine (at':=x.at') hnm (fun q hq=>hK.right (q:=q) hq))
  refine⟨_,_,_,hR,?_⟩
  try simp only[aQ]
  refine Yc 29 #[.slice ua un uc,.slice va vn vc] (some 204) fun w S hG=>?_
  refine(sameDots_eq (l:=dotsOf x.key x.text (withinC (putsAll K) x.key x.at')) (hG.at 8 rfl) (hG.at 10 rfl) (by omega)).mono ?_
  rintro e10 w10 hR
  refine⟨_,_,_,hR,?_⟩
  try simp only[aQ]
  refine Ya (id:=40) (rest:=[]) [zR 14,zR 15] [] [zB 205 false,zB 206 false] ?_
  try simp only[aQ]
  refine JR_end ?_
  try simp only[aQ]
  refine cF ?_
  try simp only[aQ]
  refine J_skip ?_
  try simp only[aQ]
  refine J_eb ?_
  try simp only[aQ]
  refine J_seq ?_
  try simp only[aQ]
  refine Nm [cObj b (.cells #[nI (↑p:Int),.slice ba p cb,.map (some mk),.map (some md)] 133 (0,0)),cObj mk (Obj.map es clock),(cStar (List.map (fun t=>cAcc (Fk t) 28 3 (List.map eCom (keyC (putsAll K) t))) ks)),(cMapG md okDot (dotSet (List.map dotP (putsAll K)))),cObj mb (.cells #[.slice bm p cm,.slice la lk lc] 85 (0,0)),cAcc (.slice la lk lc) 28 3 (List.map eCom K)] ?_
  refine J_cut (E':=[zI 0 (p:Nat),zS 1 sl nl cl,zB 4 false,zV 6 (.pointer (some ⟨b,0,none⟩)),zV 8 (.pointer (some ⟨mb,0,none⟩)),zI 9 i]) (h':=[]) (C':=[_,_,_,_,_,_]) (G':=[_,_,_,_]) [0,1,4,6,8,9] [] [0,1,2,3,4,5] [0,1,2,3] (by kernel_rfl) rfl rfl rfl ?_
  exact H base K b mk md cb clock cm lk lc ba bm la es ks Fk hK.next hm hst hnd hiff
end Go.Proofs.YtpjkiomccpjboaaGreatDoor
end
section
namespace Go.Proofs.YtpjkiomccpjboaaGreatDoor
open Go Go.Sx
set_option maxHeartbeats 8000000 in
theorem actPrune {w0:World} {R:Act→World→Prop} {kr:List Itm} {S0:Nat→Prop} {er:Nat→Addr} {eb:Nat→Array Value×TypeId} {p n mb nl cl:Nat} {sl:Option Addr} {i:Int} {l:List VActT} {b mk md cb clock cm lk lc:Nat} {ba bm la:Option Addr} {es:Array MapEntry} {ks:List ByteArray} {Fk:ByteArray→Value} {base:List Int} {K:List ComT} {x:VActT} {ab n0 c0 n1 c1 n2 c2:Nat} {a0 a1 a2:Option Addr} (hI:Inj er) (hp1:1≤p) (hp6:p≤6) (hn:n≤40) (hK:ActsOk p n base K) (hm:MapG (MapKept.IsKey .string) es (strG ks Fk)) (hst:MapKept.Stamped es clock) (hnd:ks.Nodup) (hiff:∀t,t∈ks↔keyC (putsAll K) t≠[]) (hx0:n0=x.c.when.length) (hx1:n1=x.c.ops.length) (hx2:n2=x.at'.length) (hh:heavyC x.c=0) (hxk:x.key.size≤60) (hxa:x.at'.length≤20)
  (H:∀(base2:List Int) (K2:List ComT) (b2 mk2 md2 cb2 clock2 cm2 lk2 lc2:Nat) (ba2 bm2 la2:Option Addr) (es2:Array MapEntry) (ks2:List ByteArray) (Fk2:ByteArray→Value),ActsOk p (n+1) base2 K2→MapG (MapKept.IsKey .string) es2 (strG ks2 Fk2)→MapKept.Stamped es2 clock2→ks2.Nodup→(∀t,t∈ks2↔keyC (putsAll K2) t≠[])→J Tryz.prog Tryz.f8 R Tryz.f8.ntmps (.c (.rg 50 true)::.c (.cond (.tmp 256) (.seq (.rg 51 false) .ret) .skip)::kr) [(0,.val (.int .i64 (p:Nat))),(1,.val (.slice sl nl cl)),(4,.val (.bool false)),(6,.val (.pointer (some ⟨b2,0,none⟩))),(8,.val (.pointer (some ⟨mb,0,none⟩))),(9,.val (.int .i64 i))] [] [] [([],zero w0)] ⟨S0,[cObj b2 (.cells #[.int .i64 (p:Nat),.slice ba2 p cb2,.map (some mk2),.map (some md2)] 133 (0,0)),cObj mk2 (.map es2 clock2),cStar (ks2.map fun t=>cAcc (Fk2 t) 28 3 ((keyC (putsAll K2) t).map eCom)),cMapG md2 okDot (dotSet ((putsAll K2).map dotP)),cObj mb (.cells #[.slice bm2 p cm2,.slice la2 lk2 lc2] 85 (0,0)),cAcc (.slice la2 lk2 lc2) 28 3 (K2.map eCom)],[(.nilIface,dC er eb),(.slice sl nl cl,.sl 7 (l.map eVAct)),(.slice bm2 p cm2,dInts base2),(.slice ba2 p cb2,dInts base2)]⟩) :
  J Tryz.prog Tryz.f8 R Tryz.f8.ntmps (.c (.rg 43 false)::.c (.seq (.seq (.rg 44 false) (.cond (.tmp 220) (.rg 45 false) .skip)) (.seq (.seq (.rg 46 false) (.cond (.tmp 228) (.seq (.rg 47 false) .ret) .skip)) (.seq (.rg 48 false) (.cond (.tmp 230) (.rg 49 true) .skip))))::.eb 2::.c (.seq (.rg 50 true) (.cond (.tmp 256) (.seq (.rg 51 false) .ret) .skip))::kr) [(0,.val (.int .i64 (p:Nat))),(1,.val (.slice sl nl cl)),(4,.val (.bool false)),(6,.val (.pointer (some ⟨b,0,none⟩))),(8,.val (.pointer (some ⟨mb,0,none⟩))),(9,.val (.int .i64 i)),(10,.val (.pointer (some ⟨ab,0,none⟩)))] [(ab,.cells #[.string x.kind,.string x.key,.string x.text,.slice a0 n0 c0,.int .i64 x.c.place,.slice a1 n1 c1,.slice a2 n2 c2] 75 (0,0))] [] [([],zero w0)] ⟨S0,[cObj b (.cells #[.int .i64 (p:Nat),.slice ba p cb,.map (some mk),.map (some md)] 133 (0,0)),cObj mk (.map es clock),cStar (ks.map fun t=>cAcc (Fk t) 28 3 ((keyC (putsAll K) t).map eCom)),cMapG md okDot (dotSet ((putsAll K).map dotP)),cObj mb (.cells #[.slice bm p cm,.slice la lk lc] 85 (0,0)),cAcc (.slice la lk lc) 28 3 (K.map eCom)],[(.nilIface,dC er eb),(.slice sl nl cl,.sl 7 (l.map eVAct)),(.slice bm p cm,dInts base),(.slice ba p cb,dInts base),(.slice a0 n0 c0,dInts x.c.when),(.slice a1 n1 c1,.sl 7 (x.c.ops.map eOp)),(.slice a2 n2 c2,dInts x.at')]⟩:=by
 subst hx0 hx1 hx2
 have hpl:=hK.puts
 have hkl:=hK.few
 obtain⟨hxw,hxo,hxd⟩:=heavyC_len hh
 have hbl:=hK.len
 refine jT [(0,true),(1,true),(2,false),(3,true)] [] ?_
 refine Ya (id:=43) (rest:=[(2,false),(3,true)]) [zR 0,.rd 1 [.o 0 none] 0 0] [] [zV 209 (.pointer (sA ab (0+6))),zS 210 a2 x.at'.length c2] ?_
 refine Yc 43 #[.slice a2 x.at'.length c2] (some 211) fun w S hG=>?_
 refine(rVecErr (hG.at 6 rfl) (by omega)).mono ?_
 rintro e5 w5 hR
 by_cases hv0:vecErr x.at'=0
 case neg=>
  have hne:vecErr x.at'≠0:=hv0
  have hae:pruneErr p x.at'=vecErr x.at':=by rw[pruneErr,if_pos hv0]
  have hv1:¬((vecErr x.at':Nat):Int)=0:=by omega
  refine⟨_,_,_,hR,?_⟩
  try simp only[aQ]
  refine Ya (id:=43) (rest:=[]) [zR 3] [] [zI 17 ((↑(vecErr x.at'):Int))] ?_
  refine JR_end (J_seq ?_)
  refine Zt [zR 0,.rd 1 [] 0 7,zR 2,.rd 3 [] 1 0,.rd 4 [] 1 0,.rd 5 [] 1 0,.rd 6 [] 1 0,.rd 7 [] 1 0,zR 8] [] [zI 212 ((↑(vecErr x.at'):Int)),zB 213 false,zB 214 false,zV 215 (.tuple #[]),zV 216 (.tuple #[]),zV 217 (.tuple #[]),zV 218 (.tuple #[]),zV 219 (.tuple #[]),zB 220 false] [((↑(vecErr x.at'):Int)==(0:Int))=false] ⟨by simp;omega,trivial⟩ ?_
  refine cF ?_
  refine J_skip (J_seq (J_seq ?_))
  refine Nm [cObj b (.cells #[nI (↑p:Int),.slice ba p cb,.map (some mk),.map (some md)] 133 (0,0)),cObj mk (Obj.map es clock),(cStar (List.map (fun t=>cAcc (Fk t) 28 3 (List.map eCom (keyC (putsAll K) t))) ks)),(cMapG md okDot (dotSet (List.map dotP (putsAll K)))),cObj mb (.cells #[.slice bm p cm,.slice la lk lc] 85 (0,0)),cAcc (.slice la lk lc) 28 3 (List.map eCom K)] ?_
  refine jT [(0,true),(1,true),(2,true),(3,false),(4,false),(5,true),(6,false),(7,true)] [] ?_
  refine Ya (id:=46) (rest:=[(3,false),(4,false),(5,true),(6,false),(7,true)]) [zR 0,zR 1,.rd 2 [.o 0 none] 0 0] [] [zP 221 b,zV 222 (.pointer (sA ab (0+6))),zS 223 a2 x.at'.length c2] ?_
  refine Yc 39 #[.slice a2 x.at'.length c2] (some 224) fun w S hG=>?_
  refine(vown (hG.at 6 rfl) (by omega)).mono ?_
  rintro e6 w6 ⟨a6,c6,hR⟩
  refine⟨_,_,_,hR,?_⟩
  try simp only[aQ]
  refine JR_call [] [0] 44 #[.pointer (some (⟨b,0,none⟩)),.slice a6 x.at'.length c6] (some 225) (by kernel_rfl) (by kernel_rfl) (by decide) (fun w S M hP hG _=>?_)
  refine(vPrune (clock:=clock) (es:=es) (ks:=ks) (F:=Fk) (L:=[]) (p:=p) (base:=base) (at':=x.at') (hG.at 0 rfl) hP (hG.at 3 rfl) hK.vec hK.len (hG.at 7 rfl) (by omega)).mono ?_
  rintro e7 w7 (⟨_,hR⟩|⟨hpe,_⟩)
  case inr=>exact absurd (hpe.symm.trans hae) (Ne.symm hne)
  rw[hae]at hR
  refine⟨_,_,_,hR,?_⟩
  try simp only[aQ]
  refine Ya (id:=46) (rest:=[(6,false),(7,true)]) [zR 5] [] [zI 226 ((↑(vecErr x.at'):Int))] ?_
  try simp only[aQ]
  refine Yc 13 #[.iface 243 (.pointer (some (er (vecErr x.at')))),nI ((↑(vecErr x.at'):Int))] (some 227) fun w S hG=>?_
  refine(codedErr (c:=(vecErr x.at':Nat)) (hG.at 0 rfl) hI (k:=vecErr x.at') (vecErr_le _) (.inr ⟨hne,rfl⟩)).mono ?_
  rintro e8 w8 hR
  rw[decide_eq_true rfl]at hR
  refine⟨_,_,_,hR,?_⟩
  try simp only[aQ]
  refine Ya (id:=46) (rest:=[]) [zR 7] [] [zB 228 false] ?_
  try simp only[aQ]
  refine JR_end ?_
  try simp only[aQ]
  refine cF ?_
  try simp only[aQ]
  refine J_skip ?_
  try simp only[aQ]
  refine J_seq ?_
  try simp only[aQ]
  refine Zp [zR 0,.rd 1 [] 0 7] [] [zI 229 ((↑(vecErr x.at'):Int)),zB 230 false] [((↑(vecErr x.at'):Int)==(0:Int))=false] ⟨by simp;omega,trivial⟩ ?_
  try simp only[aQ]
  refine cF ?_
  try simp only[aQ]
  refine J_skip ?_
  try simp only[aQ]
  refine J_eb ?_
  try simp only[aQ]
  refine J_seq ?_
  try simp only[aQ]
  refine Nm [cObj mk (Obj.map es clock),(cStar (List.map (fun t=>cAcc (Fk t) 28 3 (List.map eCom (keyC (putsAll K) t))) ks)),(cMapG md okDot (dotSet (List.map dotP (putsAll K)))),cObj mb (.cells #[.slice bm p cm,.slice la lk lc] 85 (0,0)),cAcc (.slice la lk lc) 28 3 (List.map eCom K),cObj b (.cells #[nI (↑p:Int),.slice ba p cb,.map (some mk),.map (some md)] 133 (0,0))] ?_
  refine J_cut (E':=[zI 0 (p:Nat),zS 1 sl nl cl,zB 4 false,zV 6 (.pointer (some ⟨b,0,none⟩)),zV 8 (.pointer (some ⟨mb,0,none⟩)),zI 9 i]) (h':=[]) (C':=[_,_,_,_,_,_]) (G':=[_,_,_,_]) [0,1,4,6,8,9] [] [5,0,1,2,3,4] [0,1,2,3] (by kernel_rfl) rfl rfl rfl ?_
  exact H base K b mk md cb clock cm lk lc ba bm la es ks Fk hK.next hm hst hnd hiff
 rw[hv0]at hR
 refine⟨_,_,_,hR,?_⟩
 by_cases hal:x.at'.length=p
 case neg=>
  have hne:(3:Nat)≠0:=by decide
  have hae:pruneErr p x.at'=3:=by rw[pruneErr,if_neg (by simp[hv0]),if_pos hal]
  have hal2:¬(x.at'.length:Int)=p:=by omega
  try simp only[aQ]
  refine Ya (id:=43) (rest:=[]) [zR 3] [] [zI 17 0] ?_
  refine JR_end (J_seq ?_)
  refine Zt (Rds 0 4++[.rd 4 [.o 0 none] 0 0,zR 5,zR 6,.rd 7 [] 0 6,zR 8]) [] [zI 212 0,zB 213 true,zB 214 true,zV 215 (.pointer (sA ab (0+6))),zS 216 a2 x.at'.length c2,zI 217 (↑x.at'.length:Int),zI 218 (↑p:Int),zB 219 true,zB 220 true] [((↑x.at'.length:Int) != (↑p:Int))=true] ⟨by simp;omega,trivial⟩ ?_
  refine cTt ?_
  refine Za [zR 0] [] [zI 17 3] ?_
  refine J_seq (J_seq ?_)
  refine Nm [cObj b (.cells #[nI (↑p:Int),.slice ba p cb,.map (some mk),.map (some md)] 133 (0,0)),cObj mk (Obj.map es clock),(cStar (List.map (fun t=>cAcc (Fk t) 28 3 (List.map eCom (keyC (putsAll K) t))) ks)),(cMapG md okDot (dotSet (List.map dotP (putsAll K)))),cObj mb (.cells #[.slice bm p cm,.slice la lk lc] 85 (0,0)),cAcc (.slice la lk lc) 28 3 (List.map eCom K)] ?_
  refine jT [(0,true),(1,true),(2,true),(3,false),(4,false),(5,true),(6,false),(7,true)] [] ?_
  refine Ya (id:=46) (rest:=[(3,false),(4,false),(5,true),(6,false),(7,true)]) [zR 0,zR 1,.rd 2 [.o 0 none] 0 0] [] [zP 221 b,zV 222 (.pointer (sA ab (0+6))),zS 223 a2 x.at'.length c2] ?_
  refine Yc 39 #[.slice a2 x.at'.length c2] (some 224) fun w S hG=>?_
  refine(vown (hG.at 6 rfl) (by omega)).mono ?_
  rintro e6 w6 ⟨a6,c6,hR⟩
  refine⟨_,_,_,hR,?_⟩
  try simp only[aQ]
  refine JR_call [] [0] 44 #[.pointer (some (⟨b,0,none⟩)),.slice a6 x.at'.length c6] (some 225) (by kernel_rfl) (by kernel_rfl) (by decide) (fun w S M hP hG _=>?_)
  refine(vPrune (clock:=clock) (es:=es) (ks:=ks) (F:=Fk) (L:=[]) (p:=p) (base:=base) (at':=x.at') (hG.at 0 rfl) hP (hG.at 3 rfl) hK.vec hK.len (hG.at 7 rfl) (by omega)).mono ?_
  rintro e7 w7 (⟨_,hR⟩|⟨hpe,_⟩)
  case inr=>exact absurd (hpe.symm.trans hae) (Ne.symm hne)
  rw[hae]at hR
  refine⟨_,_,_,hR,?_⟩
  try simp only[aQ]
  refine Ya (id:=46) (rest:=[(6,false),(7,true)]) [zR 5] [] [zI 226 3] ?_
  try simp only[aQ]
  refine Yc 13 #[.iface 243 (.pointer (some (er 3))),nI 3] (some 227) fun w S hG=>?_
  refine(codedErr (c:=3) (hG.at 0 rfl) hI (k:=3) (by omega) (.inr ⟨hne,rfl⟩)).mono ?_
  rintro e8 w8 hR
  refine⟨_,_,_,hR,?_⟩
  try simp only[aQ]
  refine Ya (id:=46) (rest:=[]) [zR 7] [] [zB 228 false] ?_
  try simp only[aQ]
  refine JR_end ?_
  try simp only[aQ]
  refine cF ?_
  try simp only[aQ]
  refine J_skip ?_
  try simp only[aQ]
  refine J_seq ?_
  try simp only[aQ]
  refine Za [zR 0,zR 1] [] [zI 229 3,zB 230 false] ?_
  try simp only[aQ]
  refine cF ?_
  try simp only[aQ]
  refine J_skip ?_
  try simp only[aQ]
  refine J_eb ?_
  try simp only[aQ]
  refine J_seq ?_
  try simp only[aQ]
  refine Nm [cObj mk (Obj.map es clock),(cStar (List.map (fun t=>cAcc (Fk t) 28 3 (List.map eCom (keyC (putsAll K) t))) ks)),(cMapG md okDot (dotSet (List.map dotP (putsAll K)))),cObj mb (.cells #[.slice bm p cm,.slice la lk lc] 85 (0,0)),cAcc (.slice la lk lc) 28 3 (List.map eCom K),cObj b (.cells #[nI (↑p:Int),.slice ba p cb,.map (some mk),.map (some md)] 133 (0,0))] ?_
  refine J_cut (E':=[zI 0 (p:Nat),zS 1 sl nl cl,zB 4 false,zV 6 (.pointer (some ⟨b,0,none⟩)),zV 8 (.pointer (some ⟨mb,0,none⟩)),zI 9 i]) (h':=[]) (C':=[_,_,_,_,_,_]) (G':=[_,_,_,_]) [0,1,4,6,8,9] [] [5,0,1,2,3,4] [0,1,2,3] (by kernel_rfl) rfl rfl rfl ?_
  exact H base K b mk md cb clock cm lk lc ba bm la es ks Fk hK.next hm hst hnd hiff
 have hae:pruneErr p x.at'=0:=by rw[pruneErr,if_neg (by simp[hv0]),if_neg (by simp[hal])]
 have hal2:(x.at'.length:Int)=p:=by omega
 have hzl:(List.zipWith max base x.at').length=p:=by rw[zip_len (by omega)];exact hbl
 try simp only[aQ]
 refine Ya (id:=43) (rest:=[]) [zR 3] [] [zI 17 0] ?_
 refine JR_end (J_seq ?_)
 refine Zt (Rds 0 4++[.rd 4 [.o 0 none] 0 0,zR 5,zR 6,.rd 7 [] 0 7,zR 8]) [] [zI 212 0,zB 213 true,zB 214 true,zV 215 (.pointer (sA ab (0+6))),zS 216 a2 x.at'.length c2,zI 217 (↑x.at'.length:Int),zI 218 (↑p:Int),zB 219 false,zB 220 false] [((↑x.at'.length:Int) != (↑p:Int))=false] ⟨by simp;omega,trivial⟩ ?_
 refine cF ?_
 refine J_skip (J_seq (J_seq ?_))
 refine Nm [cObj b (.cells #[nI (↑p:Int),.slice ba p cb,.map (some mk),.map (some md)] 133 (0,0)),cObj mk (Obj.map es clock),(cStar (List.map (fun t=>cAcc (Fk t) 28 3 (List.map eCom (keyC (putsAll K) t))) ks)),(cMapG md okDot (dotSet (List.map dotP (putsAll K)))),cObj mb (.cells #[.slice bm p cm,.slice la lk lc] 85 (0,0)),cAcc (.slice la lk lc) 28 3 (List.map eCom K)] ?_
 refine jT [(0,true),(1,true),(2,true),(3,false),(4,false),(5,true),(6,false),(7,true)] [] ?_
 refine Ya (id:=46) (rest:=[(3,false),(4,false),(5,true),(6,false),(7,true)]) [zR 0,zR 1,.rd 2 [.o 0 none] 0 0] [] [zP 221 b,zV 222 (.pointer (sA ab (0+6))),zS 223 a2 x.at'.length c2] ?_
 refine Yc 39 #[.slice a2 x.at'.length c2] (some 224) fun w S hG=>?_
 refine(vown (hG.at 6 rfl) (by omega)).mono ?_
 rintro e6 w6 ⟨a6,c6,hR⟩
 refine⟨_,_,_,hR,?_⟩
 try simp only[aQ]
 refine JR_call [] [0] 44 #[.pointer (some (⟨b,0,none⟩)),.slice a6 x.at'.length c6] (some 225) (by kernel_rfl) (by kernel_rfl) (by decide) (fun w S M hP hG _=>?_)
 refine(vPrune (clock:=clock) (es:=es) (ks:=ks) (F:=Fk) (L:=[]) (p:=p) (base:=base) (at':=x.at') (hG.at 0 rfl) hP (hG.at 3 rfl) hK.vec hK.len (hG.at 7 rfl) (by omega)).mono ?_
 rintro e7 w7 (⟨hpe,_⟩|⟨_,ua,un,uc,hR⟩)
 ·exact absurd hae hpe
 refine⟨_,_,_,hR,?_⟩
 try simp only[aQ]
 refine Ya (id:=46) (rest:=[(6,false),(7,true)]) [zR 5] [] [zI 226 0] ?_
 try simp only[aQ]
 refine Yc 13 #[.nilIface,nI 0] (some 227) fun w S hG=>?_
 refine(codedErr (c:=0) (hG.at 0 rfl) hI (k:=0) (by omega) (.inl ⟨rfl,rfl⟩)).mono ?_
 rintro e8 w8 hR
 refine⟨_,_,_,hR,?_⟩
 try simp only[aQ]
 refine Ya (id:=46) (rest:=[]) [zR 7] [] [zB 228 false] ?_
 try simp only[aQ]
 refine JR_end ?_
 try simp only[aQ]
 refine cF ?_
 try simp only[aQ]
 refine J_skip ?_
 try simp only[aQ]
 refine J_seq ?_
 try simp only[aQ]
 refine Za [zR 0,zR 1] [] [zI 229 0,zB 230 true] ?_
 try simp only[aQ]
 refine cTt ?_
 try simp only[aQ]
 refine Nm [cObj mk (Obj.map es clock),(cStar (List.map (fun t=>cAcc (Fk t) 28 3 (List.map eCom (keyC (putsAll K) t))) ks)),(cMapG md okDot (dotSet (List.map dotP (putsAll K)))),cObj mb (.cells #[.slice bm p cm,.slice la lk lc] 85 (0,0)),cAcc (.slice la lk lc) 28 3 (List.map eCom K),cObj b (.cells #[nI (↑p:Int),.slice ua un uc,.map (some mk),.map (some md)] 133 (0,0))] ?_
 refine J_stpx (stp_replen 8 rfl) fun _ hun=>?_
 rw[List.length_map,hzl]at hun
 rw[hun]
 refine J_show 3 rfl ?_
 refine Nm [cObj mk (Obj.map es clock),(cStar (List.map (fun t=>cAcc (Fk t) 28 3 (List.map eCom (keyC (putsAll K) t))) ks)),(cMapG md okDot (dotSet (List.map dotP (putsAll K)))),cAcc (.slice la lk lc) 28 3 (List.map eCom K),cObj b (.cells #[nI (↑p:Int),.slice ua p uc,.map (some mk),.map (some md)] 133 (0,0))] ?_
 refine jT [(0,true),(1,true),(2,true),(3,true),(4,true),(5,true),(6,true),(7,false),(8,true),(9,true),(10,false)] [(10,[1])] ?_
 refine Ya (id:=49) (rest:=[(7,false),(8,true),(9,true),(10,false)]) (Rds 0 4++[.rd 4 [.o 1 none] 0 0,zR 5,.rd 6 [.o 0 none] 0 0]) [] [zP 231 mb,zP 232 mb,zP 233 mb,zP 234 mb,zS 235 bm p cm,zV 236 (.pointer (sA ab (0+6))),zS 237 a2 x.at'.length c2] ?_
 refine Yc 45 #[.slice bm p cm,.slice a2 x.at'.length c2] (some 238) fun w S hG=>?_
 refine(rMost (hG.at 2 rfl) (hG.at 6 rfl) (by omega) (by omega)).mono ?_
 rintro e9 w9 ⟨va,vn,vc,hR⟩
 refine⟨_,_,_,hR,?_⟩
 try simp only[aQ]
 refine Ym (id:=49) (rest:=[]) [zR 8,zR 9,.wr 10 [.o 1 none] 0] [] (fun _=>[zP 239 mb,zP 240 mb]) (fun _=>[(ab,.cells #[.string x.kind,.string x.key,.string x.text,.slice a0 x.c.when.length c0,nI x.c.place,.slice a1 x.c.ops.length c1,.slice a2 x.at'.length c2] 75 (0,0)),(mb,.cells #[.slice va vn vc,.slice la lk lc] 85 (0,0))]) [] (fun _=>?_)
 refine JR_end (J_eb (J_seq ?_))
 refine Nm [cObj mk (Obj.map es clock),(cStar (List.map (fun t=>cAcc (Fk t) 28 3 (List.map eCom (keyC (putsAll K) t))) ks)),(cMapG md okDot (dotSet (List.map dotP (putsAll K)))),cAcc (.slice la lk lc) 28 3 (List.map eCom K),cObj b (.cells #[nI (↑p:Int),.slice ua p uc,.map (some mk),.map (some md)] 133 (0,0))] ?_
 refine J_stpx (stp_replen 9 rfl) fun _ hvn=>?_
 rw[List.length_map,hzl]at hvn
 rw[hvn]
 refine J_hide 1 rfl ?_
 refine Nm [cObj mk (Obj.map es clock),(cStar (List.map (fun t=>cAcc (Fk t) 28 3 (List.map eCom (keyC (putsAll K) t))) ks)),(cMapG md okDot (dotSet (List.map dotP (putsAll K)))),cAcc (.slice la lk lc) 28 3 (List.map eCom K),cObj b (.cells #[nI (↑p:Int),.slice ua p uc,.map (some mk),.map (some md)] 133 (0,0)),cObj mb (.cells #[.slice va p vc,.slice la lk lc] 85 (0,0))] ?_
 refine J_cut (E':=[zI 0 (p:Nat),zS 1 sl nl cl,zB 4 false,zV 6 (.pointer (some ⟨b,0,none⟩)),zV 8 (.pointer (some ⟨mb,0,none⟩)),zI 9 i]) (h':=[]) (C':=[_,_,_,_,_,_]) (G':=[_,_,_,_]) [0,1,4,6,8,9] [] [4,0,1,2,5,3] [0,1,9,8] (by kernel_rfl) rfl rfl rfl ?_
 exact H (List.zipWith max base x.at') K b mk md uc clock vc lk lc ua va la es ks Fk (hK.prune hae) hm hst hnd hiff
end Go.Proofs.YtpjkiomccpjboaaGreatDoor
end
