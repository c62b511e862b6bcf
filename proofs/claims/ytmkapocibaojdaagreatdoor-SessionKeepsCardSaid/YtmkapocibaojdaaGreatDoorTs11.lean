/- Part 11 of the texts of a claim: PlQ PartsV PlI PlX PlH PlL AddsP SkP Tx29 SeR SeC SeB. -/
import Derived.Laws.IdiomCopy
import Derived.Test.YtmkapocibaojdaaGreatDoorTs10
section
namespace Go.Proofs.YtmkapocibaojdaaGreatDoor
open Go Go.Sx
def partC (n:Int) (c:ComT) (sh:Int):ComT:=⟨c.when,c.place,c.ops.filter (inS n sh)⟩
set_option maxHeartbeats 4000000 in
theorem pPart {w:World} {S:Nat→Prop} {M:List Nat} {er:Nat→Addr} {eb:Nat→Array Value×TypeId} {c:ComT} {a1 a2:Option Addr} {n1 c1 n2 c2:Nat} {o i:Value} {b vb:Nat} {id places shards clock sh:Int} (hC:Rep w S .nilIface (dC er eb)) (hP:Pre w S M [cObj b (plC vb id places shards clock o i)]) (h2:Rep w S (.slice a2 n2 c2) (.sl 7 (c.ops.map eOp))) (hl2:c.ops.length≤1000000) (s1:1≤shards) (s6:shards≤6) :
  Calls Tryz.prog 87 #[.pointer (some ⟨b,0,none⟩),.agg #[.slice a1 n1 c1,.int .i64 c.place,.slice a2 n2 c2],.int .i64 sh] w fun e w'=>∃u d,
   Ret M w S w' e (.tuple #[.agg #[.slice a1 n1 c1,.int .i64 c.place,.slice u (partC shards c sh).ops.length d],.bool (decide (((partC shards c sh).ops.length:Int)>0))]) [cObj b (plC vb id places shards clock o i)] [(.slice u (partC shards c sh).ops.length d,.sl 7 ((partC shards c sh).ops.map eOp))]:=by
 refine enG Tryz.func87 bd87 (args:=[.pointer (some ⟨b,0,none⟩),.agg #[.slice a1 n1 c1,.int .i64 c.place,.slice a2 n2 c2],.int .i64 sh]) (S:=S) (C:=[cObj b (plC vb id places shards clock o i)]) (G:=[(_,dC er eb),(_,.sl 7 (c.ops.map eOp))]) (by kernel_rfl) hP (.cons hC (.cons h2 (.nil _ _))) ?_
 refine Zv [.wr 0 [] 0,.wr 1 [] 0,.wr 2 [] 0,.wr 3 [] 0,zR 4] [] [0,1,2] (fun nu1=>[zP 3 (nu1 0),zP 4 (nu1 1),zP 5 (nu1 2),zP 6 (nu1 3),zB 7 false]) o0 (fun nu1=>[(nu1 0,.cells #[.pointer (sA b 0)] 24 (0,0)),(nu1 1,.cells #[.slice a1 n1 c1,nI c.place,.slice a2 n2 c2] 35 (0,0)),(nu1 2,.cells #[nI sh] 3 (0,0)),(nu1 3,.cells #[.slice none 0 0,nI 0,.slice none 0 0] 35 (0,0))]) (fun nu1=>?_)
 refine J_seq ?_
 refine J_share 0 rfl ?_
 refine J_share 1 rfl ?_
 refine J_stp (stp_fact (v:=.pointer (some ⟨nu1 0,0,none⟩)) (d:=.ptr [.v (.pointer (some ⟨b,0,none⟩))]) fun w S H=>obj_ptr (H _ (List.mem_of_getElem? (i:=2) rfl)) rfl) ?_
 refine J_stp (stp_fact (v:=.pointer (some ⟨nu1 2,0,none⟩)) (d:=.ptr [.v (.int .i64 sh)]) fun w S H=>obj_ptr (H _ (List.mem_of_getElem? (i:=3) rfl)) rfl) ?_
 refine Nm [cObj b (.cells #[.pointer (sA vb 0),nI id,nI places,nI shards,nI clock,o,i] 124 (0,0))] ?_
 try simp only[aQ]
 refine jT [(0,true),(1,true),(2,false),(3,true),(4,false),(5,true),(6,false)] [] ?_
 refine Ya [zR 0,.rd 1 [.o 0 none] 0 0] [] [zS 9 a2 n2 c2] ?_
 refine Yc 142 #[.slice a2 n2 c2] (some 10) fun w S hG=>?_
 refine(cloneOps (hG.at 1 rfl) hl2).mono ?_
 rintro e1 w1 ⟨u1,d1,hR⟩
 refine⟨_,_,_,hR,?_⟩
 try simp only[aQ]
 refine Ya [zR 3] [9,3,5] [zV 11 (.func (.func 147) #[] #[.pointer (sA (nu1 0) 0),.pointer (sA (nu1 2) 0)])] ?_
 refine JR_call [] [1,0] 146 #[.slice u1 n2 d1,.func (.func 147) #[] #[.pointer (some (⟨nu1 0,0,none⟩)),.pointer (some (⟨nu1 2,0,none⟩))]] (some 12) (by kernel_rfl) (by kernel_rfl) (by decide) (fun w S M hP hG _=>?_)
 refine(deletePart (hG.at 0 rfl) (hG.at 4 rfl) (hG.at 5 rfl) hP s1 s6 hl2).mono ?_
 rintro e2 w2 ⟨u2,n3,d2,hR⟩
 refine⟨_,_,_,hR,?_⟩
 try simp only[aQ]
 refine Ym [zR 5,.wr 6 [.o 0 none] 0] [12,11,10] (fun _=>[]) (fun _=>[(0,.cells #[.slice a1 n1 c1,nI c.place,.slice u2 n3 d2] 35 (0,0))]) o0 [] (fun _=>?_)
 try simp only[aQ]
 refine JR_end ?_
 try simp only[aQ]
 refine J_seq ?_
 try simp only[aQ]
 refine J_stpx (stp_acclen 0 rfl) fun _ hk=>?_
 rw[List.length_map]at hk
 subst hk
 refine J_stp (stp_freeze 0 rfl) ?_
 refine Nm [cObj b (.cells #[.pointer (sA vb 0),nI id,nI places,nI shards,nI clock,o,i] 124 (0,0))] ?_
 try simp only[aQ]
 refine Zm [.rd 0 (hnO 0 3) 0 0,zR 1,.rd 2 [.o 0 none] 0 0,zR 3,zR 4,.wr 5 (hnO 1 3) 0,zR 6] [(5,[1])] [4] (fun _=>[zB 7 (decide ((↑(List.filter (inS shards sh) c.ops).length:Int)>0))]) (fun _=>[(1,.cells #[.slice a1 n1 c1,nI c.place,.slice u2 ((List.filter (inS shards sh) c.ops).length) d2] 35 (0,0))]) o0 (fun _=>?_)
 refine Yr [(hnO 1 3),[]] (.tuple #[.agg #[.slice a1 n1 c1,nI c.place,.slice u2 ((List.filter (inS shards sh) c.ops).length) d2],.bool (decide ((↑(List.filter (inS shards sh) c.ops).length:Int)>0))]) fun a w s=>?_
 exact⟨u2,d2,s.ret (by simp) [0] [6] rfl rfl⟩
end Go.Proofs.YtmkapocibaojdaaGreatDoor
end
section
namespace Go.Proofs.YtmkapocibaojdaaGreatDoor
open Go Go.Sx
theorem dotP_puts (c:ComT) (l:List OpT):(putsOf c l).map dotP=l.map (dotOf c):=by
 rw[putsOf,List.map_map]
 rfl
theorem exiAt_zero {L:List PutT} {c:ComT}:(∀j,j<c.ops.length→exiAt L c j=0)↔∀o∈c.ops,dotOf c o∉L.map dotP:=by
 constructor
 ·intro h o ho
  obtain⟨j,hj⟩:=List.getElem?_of_mem ho
  have:=h j (List.getElem?_eq_some_iff.1 hj).1
  simp only[exiAt,hj]at this
  split at this
  ·cases this
  ·assumption
 ·intro h j hj
  have h1:c.ops[j]?=some c.ops[j]:=List.getElem?_eq_getElem hj
  simp only[exiAt,h1]
  rw[if_neg (h _ (List.getElem_mem hj))]
structure CanPut (p:Nat) (base:List Int) (L:List PutT) (c:ComT):Prop where
 com:(comFault c).code=0
 len:c.when.length=p
 new:inL c.when base=false
 dots:∀o∈c.ops,dotOf c o∉L.map dotP
theorem scanF_zero {f:Nat→Nat} {n:Nat} (h:(scanF f n 0).code=0):∀j,j<n→f j=0:=by
 intro j
 induction j using Nat.strongRecOn with
 | ind j ih=>
  intro hj
  rcases Nat.eq_zero_or_pos (f j)with h0|h0
  ·exact h0
  ·have:=(scanF_from n 0 j (Nat.zero_le _) fun i _ hi=>ih i hi (by omega)).2 (by omega) (by omega)
   rw[this]at h
   exact h
theorem putFault_zero {p:Nat} {base:List Int} {L:List PutT} {c:ComT}:(putFault p base L c).code=0↔CanPut p base L c:=by
 constructor
 ·intro h
  unfold putFault at h
  split at h
  ·exact absurd h ‹_›
  ·split at h
   ·cases h
   ·split at h
    ·cases h
    ·rename_i h1 h2 h3
     exact⟨by simpa using h1,by simpa using h2,by simpa using h3,exiAt_zero.1 (scanF_zero h)⟩
 ·rintro⟨h1,h2,h3,h4⟩
  rw[putFault,if_neg (by simp[h1]),if_neg (by simp[h2]),if_neg (by simp[h3]),(scanF_from c.ops.length 0 c.ops.length (Nat.zero_le _) fun j _ hj=>exiAt_zero.2 h4 j hj).1 (by omega)]
theorem dots_own {c:ComT} (h:(comFault c).code=0):(c.ops.map (dotOf c)).Nodup:=by
 rw[List.nodup_iff_pairwise_ne,List.pairwise_map]
 refine(right_pair h).imp fun{a b} hab he=>?_
 simp only[dotOf,DotT.mk.injEq]at he
 omega
theorem CanPut.nodup {p:Nat} {base:List Int} {L:List PutT} {c:ComT} (h:CanPut p base L c) (hn:(L.map dotP).Nodup):((L++putsOf c c.ops).map dotP).Nodup:=by
 rw[List.map_append,dotP_puts,List.nodup_append]
 refine⟨hn,dots_own h.com,fun x hx y hy he=>?_⟩
 subst he
 obtain⟨o,ho,rfl⟩:=List.mem_map.1 hy
 exact h.dots o ho hx
theorem within_done {L:List PutT} {key:ByteArray} {at':List Int} {x:DoneT} (h:x∈allDone (withinC L key at')):∃q∈L,x=⟨q.op,dotP q,wsum q.when⟩:=by
 obtain⟨c,hc,o,ho,rfl⟩:=mem_allDone.1 h
 obtain⟨q,hq,rfl⟩:=mem_keyC (List.mem_filter.1 hc).1
 obtain rfl:=List.mem_singleton.1 ho
 exact⟨q,hq,rfl⟩
end Go.Proofs.YtmkapocibaojdaaGreatDoor
end
section
namespace Go.Proofs.YtmkapocibaojdaaGreatDoor
open Go Go.Sx
def renum (ops:List OpT):List OpT:=ops.mapIdx fun i o=>{ o with no:=i }
def stepNo (ops:List OpT) (i:Nat):List OpT:=(renum ops).take i++ops.drop i
theorem renum_len (ops:List OpT):(renum ops).length=ops.length:=by simp[renum]
theorem renum_mem {ops:List OpT} {o:OpT} (h:o∈renum ops):∃o2∈ops,∃i:Nat,o={ o2 with no:=i }:=by
 obtain⟨i,hi,he⟩:=List.mem_mapIdx.1 h
 exact⟨_,List.getElem_mem hi,i,he.symm⟩
theorem renum_dots {ops:List OpT} (h:∀o∈ops,o.dots.length≤1000000):∀o∈renum ops,o.dots.length≤1000000:=fun o ho=>by
 obtain⟨o2,h2,i,rfl⟩:=renum_mem ho
 exact h o2 h2
theorem renum_at {ops:List OpT} {i:Nat} {o:OpT} (h:ops[i]?=some o):(renum ops)[i]?=some { o with no:=i }:=by simp[renum,h]
theorem stepNo_len {ops:List OpT} {i:Nat} (hi:i≤ops.length):(stepNo ops i).length=ops.length:=by
 have:=renum_len ops
 simp[stepNo]
 omega
theorem stepNo_at {ops:List OpT} {i:Nat} {o:OpT} (h:ops[i]?=some o):(stepNo ops i)[i]?=some o:=by
 have hi:=(List.getElem?_eq_some_iff.1 h).1
 have hl:((renum ops).take i).length=i:=by rw[List.length_take,renum_len];omega
 rw[stepNo,List.getElem?_append_right (by omega),hl,Nat.sub_self,List.getElem?_drop]
 exact h
theorem stepNo_set {ops:List OpT} {i:Nat} {o:OpT} (h:ops[i]?=some o):(stepNo ops i).set i { o with no:=i }=stepNo ops (i+1):=by
 obtain⟨hi,he⟩:=List.getElem?_eq_some_iff.1 h
 have hl:((renum ops).take i).length=i:=by rw[List.length_take,renum_len];omega
 have h1:(renum ops).take (i+1)=(renum ops).take i++[{ o with no:=i }]:=by rw[List.take_add_one,renum_at h];rfl
 rw[stepNo,stepNo,h1,List.set_append_right _ _ (by omega),hl,Nat.sub_self,List.drop_eq_getElem_cons hi,List.append_assoc]
 rfl
theorem stepNo_end (ops:List OpT):stepNo ops ops.length=renum ops:=by
 rw[stepNo,List.drop_length,List.append_nil,List.take_of_length_le (by rw[renum_len];exact Nat.le_refl _)]
def comP (x:PlT) (at':List Int) (ops:List OpT):ComT:=⟨at'.set x.id (x.clock+1),x.id,renum ops⟩
def comErr (x:PlT) (at':List Int) (ops:List OpT):FT:=
 if knownErr x at'≠0 then ⟨knownErr x at',-1⟩else if 1099511627776≤x.clock then ⟨2,-1⟩else comFault (comP x at' ops)
def sndC (n:Int) (c:ComT) (y:SndT):SndT:=if (partC n c y.sh).ops=[]then y else SndT.com y (partC n c y.sh)
def msgC (n:Int) (c:ComT) (y:SndT):List MsgT:=if (partC n c y.sh).ops=[]then []else [SndT.msg y (partC n c y.sh)]
def comPl (x:PlT) (c:ComT):PlT:={ x with clock:=x.clock+1,L:=x.L++putsOf c c.ops,ss:=x.ss.map (sndC x.shards c) }
def comMs (x:PlT) (c:ComT):List MsgT:=(x.ss.map (msgC x.shards c)).flatten
def ssAt (x:PlT) (c:ComT) (p:Nat):List SndT:=(x.ss.take p).map (sndC x.shards c)++x.ss.drop p
def msAt (x:PlT) (c:ComT) (p:Nat):List MsgT:=((x.ss.take p).map (msgC x.shards c)).flatten
theorem ssAt_zero (x:PlT) (c:ComT):ssAt x c 0=x.ss:=by simp[ssAt]
theorem ssAt_end (x:PlT) (c:ComT) {p:Nat} (h:x.ss.length≤p):ssAt x c p=x.ss.map (sndC x.shards c):=by rw[ssAt,List.take_of_length_le h,List.drop_of_length_le h,List.append_nil]
theorem msAt_end (x:PlT) (c:ComT) {p:Nat} (h:x.ss.length≤p):msAt x c p=comMs x c:=by rw[msAt,List.take_of_length_le h,comMs]
theorem ssAt_at {x:PlT} {c:ComT} {p:Nat} {y:SndT} (h:x.ss[p]?=some y):(ssAt x c p)[p]?=some y:=by
 have hi:=(List.getElem?_eq_some_iff.1 h).1
 rw[ssAt,List.getElem?_append_right (by rw[List.length_map,List.length_take];omega),List.length_map,List.length_take,Nat.min_eq_left (by omega),Nat.sub_self,List.getElem?_drop]
 exact h
theorem ssAt_succ {x:PlT} {c:ComT} {p:Nat} {y:SndT} (h:x.ss[p]?=some y):(ssAt x c p).set p (sndC x.shards c y)=ssAt x c (p+1):=by
 obtain⟨hi,he⟩:=List.getElem?_eq_some_iff.1 h
 have hl:((x.ss.take p).map (sndC x.shards c)).length=p:=by rw[List.length_map,List.length_take];omega
 rw[ssAt,ssAt,List.set_append_right _ _ (by omega),hl,Nat.sub_self,List.drop_eq_getElem_cons hi,he,List.take_add_one,h,List.map_append,List.append_assoc]
 rfl
theorem msAt_succ {x:PlT} {c:ComT} {p:Nat} {y:SndT} (h:x.ss[p]?=some y):msAt x c p++msgC x.shards c y=msAt x c (p+1):=by
 rw[msAt,msAt,List.take_add_one,h,List.map_append,List.flatten_append]
 simp
structure PlIn (x:PlT) (n:Nat):Prop extends PlOk x where
 clk:x.clock≤n
 bclk:x.base.getD x.id 0≤x.clock
 dots:∀q∈x.L,q.place=x.id→q.when.getD x.id 0≤x.clock
 put:∀q∈x.L,(comFault (oneC q)).code=0∧q.when.length=x.places
 snd:∀s∈x.ss,s.fm=x.id∧s.t≤x.clock∧0≤s.q∧s.q≤n∧s.l.length≤n
 way:∀s∈x.ss,0≤s.to∧0≤s.sh
 wayR:∀r∈x.rs,0≤r.fm∧0≤r.sh∧r.to=x.id
 fit:∀s∈x.ss,∀m∈s.l,Fit m
 rcv:∀r∈x.rs,0≤r.q∧r.q+r.l.length≤n∧Dist r.l
 kept:∀r∈x.rs,∀m∈r.l,0≤m.time∧m.time≤1099511627776∧Fit m
 few:(x.L.length:Int)≤12*(x.clock+(x.rs.map (·.q)).sum)
theorem sum_le {l:List RcvT} {n:Nat} (h:∀r∈l,r.q≤n):(l.map (·.q)).sum≤l.length*n:=by
 induction l with
 | nil=>simp
 | cons a l ih=>
  have h1:=h a (List.mem_cons_self ..)
  have h2:=ih fun r hr=>h r (List.mem_cons_of_mem _ hr)
  simp only[List.map_cons,List.sum_cons,List.length_cons,Int.natCast_add,Int.add_mul]
  omega
theorem PlIn.ssl {x:PlT} {n:Nat} (h:PlIn x n):x.ss.length=posP x.id x.shards x.places∧x.ss.length≤36:=by
 have h3:=congrArg List.length h.ss
 rw[List.length_map]at h3
 have h4:=posP_le x.id x.shards x.places
 refine⟨h3,?_⟩
 rw[h3]
 exact Nat.le_trans h4 (Nat.le_trans (Nat.mul_le_mul h.p6 h.s6) (by decide))
theorem PlIn.sndAt {x:PlT} {n:Nat} (h:PlIn x n) {k i:Nat} {y:SndT} (hk:k<x.places) (hne:k≠x.id) (hi:i<x.shards) (hy:x.ss[posP x.id x.shards k+i]?=some y):y.to=k∧y.sh=i:=by
 have h1:(x.ss.map PlT.pair)[posP x.id x.shards k+i]?=some (PlT.pair y):=by rw[List.getElem?_map,hy];rfl
 rw[h.ss,pairsP_at hk hne hi]at h1
 obtain⟨h2,h3⟩:=Prod.mk.inj (Option.some.inj h1)
 obtain⟨h4,h5⟩:=h.way y (List.mem_of_getElem? hy)
 omega
theorem msAt_len (x:PlT) (c:ComT) (p:Nat):(msAt x c p).length≤x.ss.length:=by
 have:∀l:List SndT,((l.map (msgC x.shards c)).flatten).length≤l.length:=by
  intro l
  induction l with
  | nil=>simp
  | cons a l ih=>
   have h1:(msgC x.shards c a).length≤1:=by
    unfold msgC
    split <;> simp
   simp only[List.map_cons,List.flatten_cons,List.length_append,List.length_cons]
   omega
 exact Nat.le_trans (this _) (by rw[List.length_take];omega)
theorem PlIn.len {x:PlT} {n:Nat} (h:PlIn x n):x.L.length≤444*n:=by
 have h1:=h.few
 have h2:=sum_le fun r hr=>(by have:=h.rcv r hr;omega:r.q≤n)
 have h3:=congrArg List.length h.rs
 rw[List.length_map]at h3
 have h4:=posP_le x.id x.shards x.places
 unfold posP at h4
 have h5:x.rs.length≤36:=by
  rw[h3]
  exact Nat.le_trans h4 (Nat.le_trans (Nat.mul_le_mul h.p6 h.s6) (by decide))
 have h6:(x.rs.length:Int)*n≤36*n:=Int.mul_le_mul_of_nonneg_right (by omega) (by omega)
 have h7:=h.clk
 omega
theorem PlIn.ver {x:PlT} {n:Nat} (h:PlIn x n) (hn:n≤600):VerI x.places x.base x.L:=⟨h.base,h.basel,by have:=h.len;omega,h.put⟩
theorem comErr_ok {x:PlT} {at':List Int} {ops:List OpT} (h:(comErr x at' ops).code=0):knownErr x at'=0∧x.clock<1099511627776∧(comFault (comP x at' ops)).code=0:=by
 unfold comErr at h
 split at h
 ·rename_i h1
  exact absurd h h1
 split at h
 ·cases h
 ·exact⟨by omega,by omega,h⟩
theorem known_len {x:PlT} {at':List Int} (h:knownErr x at'=0):vecErr at'=0∧at'.length=x.places∧inL at' (snapL x)=true:=by
 unfold knownErr at h
 split at h
 ·rename_i h1
  exact absurd h h1
 split at h
 ·cases h
 split at h
 ·rename_i h3
  exact⟨by omega,by omega,h3⟩
 ·cases h
theorem comP_when {x:PlT} {at':List Int} {ops:List OpT} (h:x.id<at'.length):(comP x at' ops).when.getD x.id 0=x.clock+1:=by
 rw[comP,List.getD_eq_getElem?_getD]
 simp[h]
theorem comP_put {x:PlT} {n:Nat} {at':List Int} {ops:List OpT} (hx:PlIn x n) (h:(comErr x at' ops).code=0):CanPut x.places x.base x.L (comP x at' ops):=by
 obtain⟨h1,h2,h3⟩:=comErr_ok h
 obtain⟨_,h4,_⟩:=known_len h1
 have hid:=hx.id
 have hw:=comP_when (ops:=ops) (by omega:x.id<at'.length)
 refine⟨h3,by simp[comP,h4],?_,fun o ho hm=>?_⟩
 ·rw[Bool.eq_false_iff]
  intro hin
  have hb:x.base[x.id]?=some (x.base.getD x.id 0):=by
   rw[List.getD_eq_getElem?_getD,List.getElem?_eq_getElem (by rw[hx.basel];exact hid)]
   rfl
  have hc:(comP x at' ops).when[x.id]?=some (x.clock+1):=by
   rw[comP]
   simp[h4,hid]
  have:=List.all_eq_true.1 hin _ (List.mem_of_getElem? (zip_at hc hb))
  have h5:=hx.bclk
  have h8:x.clock+1≤x.base.getD x.id 0:=of_decide_eq_true this
  omega
 ·obtain⟨q,hq,hd⟩:=List.mem_map.1 hm
  unfold dotP dotOf at hd
  simp only[DotT.mk.injEq]at hd
  have hp:q.place=x.id:=hd.1
  have h5:=hx.dots q hq hp
  have h6:=hd.2.1
  rw[hp,show(comP x at' ops).place=(x.id:Int) from rfl,Int.toNat_natCast,hw]at h6
  omega
theorem partC_of {n:Int} {c:ComT} {sh:Int} (h:(partC n c sh).ops≠[]):PartOf (partC n c sh) c:=⟨rfl,rfl,h,List.filter_sublist⟩
theorem comP_send {x:PlT} {n:Nat} {at':List Int} {ops:List OpT} (hx:PlIn x n) (h:(comErr x at' ops).code=0) {y:SndT} (hy:y∈x.ss) (hne:(partC x.shards (comP x at' ops) y.sh).ops≠[]):scomErr (partC x.shards (comP x at' ops) y.sh) y.fm y.t=⟨0,-1⟩:=by
 obtain⟨h1,h2,h3⟩:=comErr_ok h
 obtain⟨_,h4,_⟩:=known_len h1
 have hid:=hx.id
 have hw:=comP_when (ops:=ops) (by omega:x.id<at'.length)
 obtain⟨hf,ht,_⟩:=hx.snd y hy
 have hp:(partC x.shards (comP x at' ops) y.sh).place=x.id:=rfl
 rw[scomErr,if_neg (by simp[(partC_of hne).fault h3]),if_neg (by rw[hp,hf];simp),if_neg]
 rw[hp,Int.toNat_natCast]
 show ¬(comP x at' ops).when.getD x.id 0≤y.t
 rw[hw]
 omega
theorem stp_closePl {h r:List (Nat×Obj)} {F:List (List Nat×World)} {S0:Nat→Prop} {C0:List Chunk} {G0:List (Value×D)} {b:Nat} {x:PlT} (y:PlBx) (ps:List Nat) (i j:Nat) (hC:pick C0 ps=[cObj b (plC y.vb x.id x.places x.shards x.clock (.slice y.oa x.places y.oc) (.slice y.ia x.places y.ic)),cVer y.vb x.places x.base x.L,cSnds y.om.flatten x.ss,cRcvs y.im.flatten x.rs]) (hi:G0[i]?=some (.slice y.oa x.places y.oc,dRows y.om)) (hj:G0[j]?=some (.slice y.ia x.places y.ic,dRows y.im)) (hy:BxOk x y) (hnd:ps.Nodup:=by decide) :
  Stp h r F ⟨S0,C0,G0⟩ (fun _:Unit=>True) fun _=>⟨S0,restC C0 ps++[cPlace b x],G0⟩:=
 stp_closebox ps y hC (mem_two (List.mem_of_getElem? hi) (List.mem_of_getElem? hj)) hy hnd
end Go.Proofs.YtmkapocibaojdaaGreatDoor
end
section
namespace Go.Proofs.YtmkapocibaojdaaGreatDoor
open Go Go.Sx
abbrev comZ:Value:=.agg #[.slice none 0 0,.int .i64 0,.slice none 0 0]
set_option maxHeartbeats 4000000 in
theorem placeCommitA {w:World} {S:Nat→Prop} {M:List Nat} {er:Nat→Addr} {eb:Nat→Array Value×TypeId} {x:PlT} {b n n1 c1 n2 c2:Nat} {a1 a2:Option Addr} {at':List Int} {ops:List OpT} (hC:Rep w S .nilIface (dC er eb)) (hP:Pre w S M [cPlace b x]) (hx:PlIn x n) (hn:n<600) (h1:Rep w S (.slice a1 n1 c1) (dInts at')) (h2:Rep w S (.slice a2 n2 c2) (.sl 7 (ops.map eOp))) (hl1:at'.length≤1000000) (hl2:ops.length≤1000000) (hl3:∀o∈ops,o.dots.length≤1000000) :
  Calls Tryz.prog 22 #[.pointer (some ⟨b,0,none⟩),.slice a1 n1 c1,.slice a2 n2 c2] w fun e w'=>
   ((comErr x at' ops).code≠0∧∃v G',Ret M w S w' e (.tuple #[comZ,.slice none 0 0,v]) [cPlace b x] G'∧FErrV er (comErr x at' ops) v G') ∨
   ((comErr x at' ops).code=0∧∃u1 m1 d1 u2 m2 d2 u3 m3 d3,Ret M w S w' e (.tuple #[.agg #[.slice u1 m1 d1,.int .i64 x.id,.slice u2 m2 d2],.slice u3 m3 d3,.nilIface]) [cAcc (.slice u3 m3 d3) 62 9 ((comMs x (comP x at' ops)).map eMsg),cPlace b (comPl x (comP x at' ops))]
    [(.slice u1 m1 d1,dInts (comP x at' ops).when),(.slice u2 m2 d2,.sl 7 ((comP x at' ops).ops.map eOp))]):=by
 obtain rfl:=rep_ints_len h1
 have e2:=h2.slen
 rw[List.length_map]at e2
 subst e2
 refine enG Tryz.func22 bd22 (args:=[.pointer (some ⟨b,0,none⟩),.slice a1 at'.length c1,.slice a2 ops.length c2]) (S:=S) (C:=[cPlace b x]) (G:=[(_,dC er eb),(_,dInts at'),(_,.sl 7 (ops.map eOp))]) (by kernel_rfl) hP (.cons hC (.cons h1 (.cons h2 (.nil _ _)))) ?_
 refine J_stpx (stp_openbox 0 rfl) fun y hy=>?_
 obtain⟨vb,oa,oc,ia,ic,om,im⟩:=y
 refine J_stp (stp_all 0 [1] rfl rfl) ?_
 refine J_glob 5 rfl (fun csg1 tyg1 fzg1 hglob1=>?_)
 refine Nm [cObj b (.cells #[.pointer (sA vb 0),nI (↑x.id:Int),nI (↑x.places:Int),nI (↑x.shards:Int),nI x.clock,.slice (PlBx.mk vb oa oc ia ic om im).oa x.places oc,.slice (PlBx.mk vb oa oc ia ic om im).ia x.places ic] 124 (0,0)),(cVer (PlBx.mk vb oa oc ia ic om im).vb x.places x.base x.L),(cSnds (PlBx.mk vb oa oc ia ic om im).om.flatten x.ss),(cRcvs (PlBx.mk vb oa oc ia ic om im).im.flatten x.rs)] ?_
 try simp only[aQ]
 refine Zv [.wr 0 [] 0,zR 1,zR 2] [] [] (fun nu1=>[zP 6 (nu1 0),zS 7 none 0 0,zV 8 .nilIface]) o0 (fun nu1=>[(nu1 0,.cells #[.slice none 0 0,nI 0,.slice none 0 0] 35 (0,0))]) (fun nu1=>?_)
 refine J_seq ?_
 refine jS [(0,true),(1,true),(2,false),(3,true)] [] ?_
 refine Ya [zR 0,zR 1] [] [zP 23 b,zS 24 a1 at'.length c1] ?_
 refine JR_call [] [0,3] 83 #[.pointer (some (⟨b,0,none⟩)),.slice a1 at'.length c1] (some 25) (by kernel_rfl) (by kernel_rfl) (by decide) (fun w S M hP hG _=>?_)
 refine(pKnown (hG.at 0 rfl) hP (hG.at 4 rfl) (hG.at 1 rfl) hy.im hx.toPlOk hl1).mono ?_
 rintro e1 w1 ⟨v,hR,hv⟩
 refine⟨_,_,_,hR,?_⟩
 obtain⟨hk0,rfl⟩|⟨hk0,rfl⟩:=hv
 case inr=>
  have hae:comErr x at' ops=⟨knownErr x at',-1⟩:=by rw[comErr,if_pos hk0]
  rw[hae]
  try simp only[aQ]
  refine Ya [zR 3] [25,23,24] [zV 9 (.iface 390 (.pointer (some (er (knownErr x at')))))] ?_
  try simp only[aQ]
  refine JR_end ?_
  try simp only[aQ]
  refine J_seq ?_
  try simp only[aQ]
  refine Za [zR 0,zR 1] [] [zB 27 true] ?_
  try simp only[aQ]
  refine cTt ?_
  try simp only[aQ]
  refine J_seq ?_
  try simp only[aQ]
  refine Zm [zR 0,zR 1,.wr 2 (hnO 0 3) 0,zR 3,zR 4] [(2,[0])] [27,9] (fun _=>[zV 8 (.iface 390 (.pointer (some (er (knownErr x at')))))]) o0 o0 (fun _=>?_)
  try simp only[aQ]
  refine Yr [(hnO 0 3),[],[]] (.tuple #[.agg #[.slice none 0 0,nI 0,.slice none 0 0],.slice none 0 0,.iface 390 (.pointer (some (er (knownErr x at'))))]) fun a w s=>?_
  have s2:=s.stp (stp_closePl (x:=x) ⟨vb,oa,oc,ia,ic,om,im⟩ [2,0,1,3] 3 4 rfl rfl rfl hy)
  exact .inl ⟨hk0,_,_,s2.ret (by simp) [0] [] rfl rfl,.inl ⟨rfl,.inr ⟨hk0,rfl⟩,rfl⟩⟩
 try simp only[aQ]
 refine Ya [zR 3] [25,23,24] [zV 9 .nilIface] ?_
 try simp only[aQ]
 refine JR_end ?_
 try simp only[aQ]
 refine J_seq ?_
 try simp only[aQ]
 refine Za [zR 0,zR 1] [] [zB 27 false] ?_
 try simp only[aQ]
 refine cF ?_
 try simp only[aQ]
 refine J_skip ?_
 try simp only[aQ]
 refine J_seq ?_
 try simp only[aQ]
 refine J_seq ?_
 try simp only[aQ]
 refine Nm [(cVer vb x.places x.base x.L),(cSnds om.flatten x.ss),cObj b (.cells #[.pointer (sA vb 0),nI (↑x.id:Int),nI (↑x.places:Int),nI (↑x.shards:Int),nI x.clock,.slice oa x.places oc,.slice ia x.places ic] 124 (0,0)),(cRcvs im.flatten x.rs)] ?_
 refine J_show 2 rfl ?_
 obtain⟨hv0,hal,hin⟩:=known_len hk0
 have hclk:=hx.clk
 have hc0:=hx.c0
 have hid:=hx.id
 have hcl:¬(x.clock≥1099511627776):=by omega
 have hae:comErr x at' ops=comFault (comP x at' ops):=by rw[comErr,if_neg (by simp[hk0]),if_neg (by omega)]
 refine Zp (Rds 0 3++[.rd 3 [.o 1 none] 0 0,.rd 4 [] 0 7]) [27,9] [zB 34 false] (oC (show decide (x.clock≥(1099511627776:Int))=false from by simp;omega) oN) ?_
 refine cF ?_
 refine J_skip ?_
 refine jS [(0,true),(1,true),(2,true),(3,true),(4,true),(5,true),(6,true),(7,false),(8,false),(9,false)] [] ?_
 refine Ya (Rds 0 4++[.rd 4 [.o 1 none] 0 0,zR 5,zR 6]) [34,1,2] [zV 43 (.agg #[.slice a1 at'.length c1,nI (↑x.id:Int),.slice a2 ops.length c2])] ?_
 refine Yc 84 #[.agg #[.slice a1 at'.length c1,nI (↑x.id:Int),.slice a2 ops.length c2]] (some 44) fun w S hG=>?_
 refine(vOwnC (c:=⟨at',x.id,ops⟩) (hG.at 1 rfl) (hG.at 2 rfl) hl1 hl2 hl3).mono ?_
 rintro e2 w2 ⟨u1,d1,u2,d2,hR⟩
 refine⟨_,_,_,hR,?_⟩
 try simp only[aQ]
 refine Ym [.wr 8 [] 0,.wr 9 (hnO 2 3) 0] [44,43] (fun nu2=>[zP 10 (nu2 0)]) o0 (fun nu2=>[(nu2 0,.cells #[.slice u1 at'.length d1,nI (↑x.id:Int),.slice u2 ops.length d2] 35 (0,0))]) [] (fun nu2=>?_)
 try simp only[aQ]
 refine JR_end ?_
 try simp only[aQ]
 refine J_seq ?_
 try simp only[aQ]
 refine Nm [(cVer vb x.places x.base x.L),(cSnds om.flatten x.ss),(cRcvs im.flatten x.rs),cAcc (.slice u1 at'.length d1) 3 1 (List.map eI at'),cAcc (.slice u2 ops.length d2) 55 7 (List.map eOp ops)] ?_
 refine J_openacc 3 rfl (by intro h0;rw[List.map_eq_nil_iff]at h0;simp[h0]at hal;omega) fun g cur xs hu _ _ hrow=>?_
 subst hu
 have hid2:(x.id:Int)<at'.length:=by omega
 have hid0:(0:Int)≤x.id:=by omega
 have hle:=hrow.le
 rw[List.length_map]at hle
 have hsz:0+(x.id:Int).toNat*1+1≤cur.size:=by rw[hrow.siz];omega
 obtain⟨tt,htt⟩:∃tt,at'[(x.id:Int).toNat]?=some tt:=⟨_,List.getElem?_eq_getElem (by omega)⟩
 try simp only[aQ]
 refine Zn ([zR 0,.rd 1 [.o 2 none] 0 0]++Rds 2 5++[.rd 5 [.o 1 none] 0 0]++Rds 6 9++[.rd 9 [.o 1 none] 0 0,.rd 10 [] 0 1,.rd 11 [] 0 2,.wr 12 [.o 3 (some (nI (x.clock+1)))] 0]) [(12,[3])] [] (fun _=>[]) (fun _=>[(3,.cells (cur.setIfInBounds (0+(↑x.id:Int).toNat*1) (nI (x.clock+1))) 3 (0,0))]) o0 (fun _=>(oC (show IntKind.i64.wrap (x.clock+1)=x.clock+1 from wrap_i64 (by omega) (by omega)) (oC hid0 (oC hid2 (oC (show(nI (x.clock+1)).oneCell'=true from ?_) (oC (show(0:Nat)+(↑x.id:Int).toNat*1<cur.size from by omega) oN)))))) (fun _=>?_)
 ·rfl
 refine J_stp (stp_fact (v:=.int .i64 (x.clock+1)) (d:=dI (x.clock+1)) fun _ _ _=>.v rfl) ?_
 refine J_stp (stp_setrows 4 6 (x.id:Int).toNat 0 rfl hrow.len (map_at htt) (by decide) rfl) ?_
 have hset:(List.map eI at').set (x.id:Int).toNat ((eI tt).set 0 (dI (x.clock+1)))=List.map eI (comP x at' ops).when:=(List.map_set (f:=eI)).symm
 rw[hset]
 have hwl:(comP x at' ops).when.length=at'.length:=by simp[comP]
 try simp only[aQ]
 refine J_seq (J_seq ?_)
 have hrow2:Row (cur.setIfInBounds (0+(x.id:Int).toNat*1) (.int .i64 (x.clock+1))) d1 (List.map eI (comP x at' ops).when).length 1 (xs.set ((x.id:Int).toNat*1+0) (.int .i64 (x.clock+1))):=by
  rw[Nat.zero_add,Nat.add_zero,List.length_map,hwl]
  have:=hrow.set1 ((x.id:Int).toNat*1) (.int .i64 (x.clock+1))
  rwa[List.length_map]at this
 refine J_hide 3 rfl ?_
 refine J_stp (stp_closeacc 5 4 rfl rfl hrow2 (by decide)) ?_
 rw[show(List.map eI (comP x at' ops).when).length=at'.length by rw[List.length_map,hwl]]
 refine J_stp (stp_freeze 4 rfl) ?_
 refine Nm [(cVer vb x.places x.base x.L),(cSnds om.flatten x.ss),(cRcvs im.flatten x.rs),cAcc (.slice u2 ops.length d2) 55 7 (List.map eOp ops)] ?_
 try simp only[aQ]
 refine Za [zR 0,.rd 1 [.o 2 none] 0 0,zR 2,zR 3] [] [zI 59 (↑ops.length:Int),zI 60 0] ?_
 refine J_block ?_
 refine J_loopx (fun i:Int=>[zP 0 b,zP 6 (nu1 0),zS 7 none 0 0,zV 8 .nilIface,zP 10 (nu2 0),zI 59 (↑ops.length:Int),zI 60 i]) (fun i:Int=>[(nu1 0,.cells #[.slice none 0 0,nI 0,.slice none 0 0] 35 (0,0)),(b,.cells #[.pointer (sA vb 0),nI (↑x.id:Int),nI (↑x.places:Int),nI (↑x.shards:Int),nI x.clock,.slice oa x.places oc,.slice ia x.places ic] 124 (0,0)),(nu2 0,.cells #[.slice (sA g 0) at'.length d1,nI (↑x.id:Int),.slice u2 ops.length d2] 35 (0,0))]) (fun i:Int=>[cVer vb x.places x.base x.L,cSnds om.flatten x.ss,cRcvs im.flatten x.rs,cAcc (.slice u2 ops.length d2) 55 7 ((stepNo ops i.toNat).map eOp)]) (fun i:Int=>[(.nilIface,(dC er eb)),(.slice a1 at'.length c1,(dInts at')),(.slice a2 ops.length c2,(D.sl 7 (List.map eOp ops))),(.slice oa x.places oc,(dRows om)),(.slice ia x.places ic,(dRows im)),(.pointer (sA 0 0),(D.ptr [D.v (Value.iface 390 (Value.pointer (some (er 2))))])),(nI (x.clock+1),(dI (x.clock+1))),(.slice (sA g 0) at'.length d1,(D.sl 1 (List.map eI (comP x at' ops).when)))]) (fun i:Int=>(ops.length - i).toNat) (fun i:Int=>(0≤i∧i≤ops.length)) 0 [0,6,7,8,10,59,60] [0,1,2] [0,1,2,3] [0,1,2,3,4,5,6,7] ?_ (by kernel_rfl) rfl rfl rfl ?_
 ·exact⟨by omega,by omega⟩
 rintro i ⟨hi0,hi⟩
 refine Zs [zR 0] [] [zB 61 (decide (i<(↑ops.length:Int)))] ?_
 refine J_seq ?_
 refine cC (t:=decide (i<(↑ops.length:Int))) (fun hlt=>?_) (fun hlt=>?_)
 ·have hlt2:i<ops.length:=by simpa using hlt
  obtain⟨o,ho⟩:∃o,ops[i.toNat]?=some o:=⟨_,List.getElem?_eq_getElem (by omega)⟩
  refine J_openacc 3 rfl (by intro h0;rw[List.map_eq_nil_iff]at h0;have:=stepNo_at ho;rw[h0]at this;simp at this) fun g2 cur2 xs2 hu _ _ hrow3=>?_
  subst hu
  have hnl:((stepNo ops i.toNat).map eOp).length=ops.length:=by rw[List.length_map,stepNo_len (by omega)]
  rw[hnl]at hrow3
  have hle3:=hrow3.le
  have hsz2:0+i.toNat*7+1≤cur2.size:=by rw[hrow3.siz];omega
  try simp only[aQ]
  refine J_skip ?_
  try simp only[aQ]
  refine J_seq ?_
  try simp only[aQ]
  refine J_block ?_
  try simp only[aQ]
  refine J_seq ?_
  try simp only[aQ]
  refine Za [zR 0,zR 1] [61] [zI 11 i] ?_
  try simp only[aQ]
  refine Zn [zR 0,.rd 1 [.o 2 none] 0 0,zR 2,zR 3,.rd 4 [] 0 2,zR 5,.wr 6 [.o 3 (some (nI i))] 0] [(6,[3])] [] (fun _=>[]) (fun _=>[(3,.cells (cur2.setIfInBounds (0+i.toNat*7) (nI i)) 55 (0,0))]) o0 (fun _=>(oC hi0 (oC hlt2 (oC (show(nI i).oneCell'=true from ?_) (oC (show(0:Nat)+i.toNat*7<cur2.size from by omega) oN))))) (fun _=>?_)
  ·rfl
  have hno:({ o with no:=(i.toNat:Int) }:OpT)={ o with no:=i }:=by rw[Int.toNat_of_nonneg hi0]
  have hset3:(List.map eOp (stepNo ops i.toNat)).set i.toNat ((eOp o).set 0 (dI i))=List.map eOp (stepNo ops (i+1).toNat):=by
   rw[show(i+1).toNat=i.toNat+1 by omega,←stepNo_set ho,hno,List.map_set]
   rfl
  have hnl2:((stepNo ops (i+1).toNat).map eOp).length=ops.length:=by rw[List.length_map,stepNo_len (by omega)]
  refine J_stp (stp_fact (v:=.int .i64 i) (d:=dI i) fun _ _ _=>.v rfl) ?_
  refine J_stp (stp_setrows 3 8 i.toNat 0 rfl (by rw[hnl];exact hrow3.len) (map_at (stepNo_at ho)) (by decide) rfl) ?_
  rw[hset3]
  refine J_hide 3 rfl ?_
  have hrow4:Row (cur2.setIfInBounds (0+i.toNat*7) (.int .i64 i)) d2 (List.map eOp (stepNo ops (i+1).toNat)).length 7 (xs2.set (i.toNat*7+0) (.int .i64 i)):=by
   rw[Nat.zero_add,Nat.add_zero,hnl2]
   exact hrow3.set1 _ _
  refine J_stp (stp_closeacc 4 3 rfl rfl hrow4 (by decide)) ?_
  rw[hnl2]
  try simp only[aQ]
  refine J_eb ?_
  try simp only[aQ]
  refine Zp [.rd 0 [] 0 1,zR 1] [] [zI 60 (i+1)] (oC (show IntKind.i64.wrap (i+1)=i+1 from wrap_i64 (by omega) (by omega)) oN) ?_
  try simp only[aQ]
  refine J_backx (i+1) [0,6,7,8,10,59,60] [0,1,2] [0,1,2,3] [0,1,2,3,4,5,6,7] ?_ ?_ (by kernel_rfl) rfl rfl rfl
  ·exact⟨by omega,by omega⟩
  ·omega
 ·have hie:i.toNat=ops.length:=by simp at hlt;omega
  rw[hie,stepNo_end]
  refine J_exit rfl ?_
  refine J_seq (J_seq ?_)
  refine J_stp (stp_freeze 3 rfl) ?_
  refine Nm [(cVer vb x.places x.base x.L),(cSnds om.flatten x.ss),(cRcvs im.flatten x.rs)] ?_
  try simp only[aQ]
  refine jT [(0,true),(1,false),(2,true)] [] ?_
  refine Ya [.rd 0 (hnO 2 3) 0 0] [61,59,60] [zV 70 (.agg #[.slice (sA g 0) at'.length d1,nI (↑x.id:Int),.slice u2 ops.length d2])] ?_
  refine Yc 85 #[.agg #[.slice (sA g 0) at'.length d1,nI (↑x.id:Int),.slice u2 ops.length d2]] (some 71) fun w S hG=>?_
  refine(checkCommit (c:=comP x at' ops) (hG.at 0 rfl) (hG.at 7 rfl) (hG.at 8 rfl) (by rw[hwl];exact hl1) (by rw[comP,renum_len];exact hl2)).mono ?_
  rintro e3 w3 (⟨ha,v,hR,hv⟩|⟨hf1,hf2,pb,hR⟩)
  case inr=>
   refine⟨_,_,_,hR,?_⟩
   have hc0:(comFault (comP x at' ops)).code≠0:=by omega
   rw[hae]
   try simp only[aQ]
   refine Ya [zR 2] [71,70] [zV 12 (.iface 202 (.pointer (sA pb 0)))] ?_
   refine JR_end ?_
   refine Zs [zR 0,zR 1] [] [zB 73 true] ?_
   refine cTt ?_
   refine Zv [zR 0,zR 1,.wr 2 (hnO 0 3) 0,zR 3,zR 4] [(2,[0])] [73,12] (fun _=>[zV 8 (.iface 202 (.pointer (sA pb 0)))]) o0 o0 (fun _=>?_)
   refine Yr [(hnO 0 3),[],[]] (.tuple #[.agg #[.slice none 0 0,nI 0,.slice none 0 0],.slice none 0 0,.iface 202 (.pointer (sA pb 0))]) fun a w s=>?_
   have s2:=(s.hide 1 rfl).stp (stp_closePl (x:=x) ⟨vb,oa,oc,ia,ic,om,im⟩ [3,0,1,2] 3 4 rfl rfl rfl hy)
   exact .inl ⟨hc0,_,_,s2.ret (by simp) [0] [9] rfl rfl,.inr ⟨hf1,hf2,pb,rfl,rfl⟩⟩
  refine⟨_,_,_,hR,?_⟩
  obtain⟨hc0,rfl⟩|⟨hc0,rfl⟩:=hv
  case inr=>
   rw[hae]
   try simp only[aQ]
   refine Ya [zR 2] [71,70] [zV 12 (.iface 390 (.pointer (some (er (comFault (comP x at' ops)).code))))] ?_
   refine JR_end ?_
   refine Zs [zR 0,zR 1] [] [zB 73 true] ?_
   refine cTt ?_
   refine Zv [zR 0,zR 1,.wr 2 (hnO 0 3) 0,zR 3,zR 4] [(2,[0])] [73,12] (fun _=>[zV 8 (.iface 390 (.pointer (some (er (comFault (comP x at' ops)).code))))]) o0 o0 (fun _=>?_)
   refine Yr [(hnO 0 3),[],[]] (.tuple #[.agg #[.slice none 0 0,nI 0,.slice none 0 0],.slice none 0 0,.iface 390 (.pointer (some (er (comFault (comP x at' ops)).code)))]) fun a w s=>?_
   have s2:=(s.hide 1 rfl).stp (stp_closePl (x:=x) ⟨vb,oa,oc,ia,ic,om,im⟩ [3,0,1,2] 3 4 rfl rfl rfl hy)
   exact .inl ⟨hc0,_,_,s2.ret (by simp) [0] [] rfl rfl,.inl ⟨ha,.inr ⟨hc0,rfl⟩,rfl⟩⟩
  have hok:(comErr x at' ops).code=0:=by rw[hae];exact hc0
  have hcp:=comP_put hx hok
  try simp only[aQ]
  refine Ya [zR 2] [71,70] [zV 12 .nilIface] ?_
  refine JR_end ?_
  refine Zs [zR 0,zR 1] [] [zB 73 false] ?_
  refine cF ?_
  refine J_skip (J_seq ?_)
  refine jS [(0,true),(1,true),(2,true),(3,true),(4,true),(5,false),(6,true)] [(5,[])] ?_
  refine Ya (Rds 0 3++[.rd 3 [.o 1 none] 0 0,.rd 4 (hnO 2 3) 0 0]) [73,12] [zP 79 vb,zV 80 (.agg #[.slice (sA g 0) at'.length d1,nI (↑x.id:Int),.slice u2 ops.length d2])] ?_
  refine JR_call [] [0] 86 #[.pointer (some (⟨vb,0,none⟩)),.agg #[.slice (some (⟨g,0,none⟩)) at'.length d1,.int .i64 (↑x.id:Int),.slice u2 ops.length d2]] (some 81) (by kernel_rfl) (by kernel_rfl) (by decide) (fun w S M hP hG _=>?_)
  refine(verPut (c:=comP x at' ops) (hG.at 0 rfl) hP (hx.ver (by omega)) (hG.at 7 rfl) (hG.at 8 rfl) (by rw[hwl];exact hl1) (by rw[comP,renum_len];exact hl2) (renum_dots hl3)).mono ?_
  rintro e4 w4 ⟨v,G',hR,hv⟩
  rw[putFault_ok (putFault_zero.2 hcp)]at hv
  rw[putL,if_pos (putFault_zero.2 hcp)]at hR
  obtain⟨_,⟨_,rfl⟩|⟨h0,_⟩,rfl⟩|⟨h0,_⟩:=hv
  case inl.inr=>exact absurd rfl h0
  case inr=>simp at h0
  refine⟨_,_,_,hR,?_⟩
  try simp only[aQ]
  refine Ya [zR 6] [81,79,80] [zV 13 .nilIface] ?_
  try simp only[aQ]
  refine JR_end ?_
  try simp only[aQ]
  refine J_seq ?_
  try simp only[aQ]
  refine Za [zR 0,zR 1] [] [zB 83 false] ?_
  try simp only[aQ]
  refine cF ?_
  try simp only[aQ]
  refine J_skip ?_
  try simp only[aQ]
  refine J_seq ?_
  try simp only[aQ]
  refine Zn (Rds 0 3++[.rd 3 [.o 1 none] 0 0,.rd 4 [] 0 1,zR 5,zR 6,.wr 7 [.o 1 none] 0]) [(7,[1])] [83,13] (fun _=>[]) (fun _=>[(1,.cells #[.pointer (sA vb 0),nI (↑x.id:Int),nI (↑x.places:Int),nI (↑x.shards:Int),nI (x.clock+1),.slice oa x.places oc,.slice ia x.places ic] 124 (0,0))]) o0 (fun _=>(oC (show IntKind.i64.wrap (x.clock+1)=x.clock+1 from wrap_i64 (by omega) (by omega)) oN)) (fun _=>?_)
  try simp only[aQ]
  refine J_seq ?_
  try simp only[aQ]
  refine Za [zR 0] [] [zS 14 none 0 0] ?_
  try simp only[aQ]
  refine J_seq ?_
  try simp only[aQ]
  refine J_seq ?_
  try simp only[aQ]
  obtain⟨hsl,hs36⟩:=hx.ssl
  have hp6:=hx.p6
  have hs6:=hx.s6
  rw[show cSnds om.flatten x.ss=cSnds om.flatten (ssAt x (comP x at' ops) (posP x.id x.shards (0:Int).toNat))by rw[Int.toNat_zero,posP_zero,ssAt_zero]]
  refine J_stp (stp_accm eMsg 62 9) ?_
  refine Nm [(cSnds om.flatten (ssAt x (comP x at' ops) (posP x.id x.shards (Int.toNat 0)))),(cRcvs im.flatten x.rs),(cVer vb x.places x.base (x.L++putsOf (comP x at' ops) (comP x at' ops).ops)),cAcc (.slice none 0 0) 62 9 (List.map eMsg [])] ?_
  refine Za (Rds 0 3++[.rd 3 [.o 1 none] 0 0,zR 4,zR 5]) [] [zS 96 oa x.places oc,zI 97 (↑x.places:Int),zI 98 0] ?_
  refine J_block ?_
  refine J_loopx (fun z:AccI=>[zP 0 b,zP 6 (nu1 0),zS 7 none 0 0,zV 8 .nilIface,zP 10 (nu2 0),zS 14 z.a z.k z.c,zS 96 oa x.places oc,zI 97 (↑x.places:Int),zI 98 z.i]) (fun z:AccI=>[(nu1 0,.cells #[.slice none 0 0,nI 0,.slice none 0 0] 35 (0,0)),(b,.cells #[.pointer (sA vb 0),nI (↑x.id:Int),nI (↑x.places:Int),nI (↑x.shards:Int),nI (x.clock+1),.slice oa x.places oc,.slice ia x.places ic] 124 (0,0)),(nu2 0,.cells #[.slice (sA g 0) at'.length d1,nI (↑x.id:Int),.slice u2 ops.length d2] 35 (0,0))]) (fun z:AccI=>[cSnds om.flatten (ssAt x (comP x at' ops) (posP x.id x.shards z.i.toNat)),cRcvs im.flatten x.rs,cVer vb x.places x.base (x.L++putsOf (comP x at' ops) (comP x at' ops).ops),cAcc (.slice z.a z.k z.c) 62 9 ((msAt x (comP x at' ops) (posP x.id x.shards z.i.toNat)).map eMsg)]) (fun z:AccI=>[(.nilIface,(dC er eb)),(.slice a1 at'.length c1,(dInts at')),(.slice a2 ops.length c2,(D.sl 7 (List.map eOp ops))),(.slice oa x.places oc,(dRows om)),(.slice ia x.places ic,(dRows im)),(.pointer (sA 0 0),(D.ptr [D.v (Value.iface 390 (Value.pointer (some (er 2))))])),(nI (x.clock+1),(dI (x.clock+1))),(.slice (sA g 0) at'.length d1,(D.sl 1 (List.map eI (comP x at' ops).when))),(.slice u2 ops.length d2,(D.sl 7 (List.map eOp (renum ops))))]) (fun z:AccI=>(x.places - z.i).toNat) (fun z:AccI=>(0≤z.i∧z.i≤x.places)) ⟨0,none,0,0⟩ [0,6,7,8,10,14,96,97,98] [0,1,2] [0,1,2,3] [0,1,2,3,4,5,6,7,8] ?_ (by kernel_rfl) rfl rfl rfl ?_
  ·exact⟨by simp,by simp⟩
  rintro⟨k,av,m,cv⟩ ⟨hk0',hk1⟩
  dsimp only at hk0' hk1 ⊢
  refine Zs [zR 0] [] [zB 99 (decide (k<(↑x.places:Int)))] ?_
  refine J_seq ?_
  refine cC (t:=decide (k<(↑x.places:Int))) (fun hlk=>?_) (fun hlk=>?_)
  ·have hlk2:k<x.places:=by simpa using hlk
   obtain⟨r,hr⟩:∃r,om[k.toNat]?=some r:=⟨_,List.getElem?_eq_getElem (by rw[hy.om.len];show k.toNat<x.places;omega)⟩
   have hrl:=hy.om.row hr
   refine J_read1 3 rfl k.toNat (map_at hr) (by kernel_rfl) (fun b1 off1 cs1 ty1 fz1 a1_0 c1_0 ha1 hrd1=>?_)
   cases ha1
   have hrd1_0:=rd0 (hrd1 0 _ rfl)
   try simp only[aQ]
   refine J_skip (J_seq (J_block ?_))
   refine Zt [.rd 0 [] 0 2,.rd 1 [.r 1 (some (.slice (a1_0,c1_0).fst ((List.map eP r).length) c1_0))] 0 0,zR 2] [99] [zS 16 (a1_0,c1_0).fst ((List.map eP r).length) c1_0] (oC hk0' (oC hlk2 (oC hrd1_0 oN))) ?_
   refine Zs (Rds 0 3) [] [zS 102 (a1_0,c1_0).fst ((List.map eP r).length) c1_0,zI 103 ((↑(List.map eP r).length:Int)),zI 104 0] ?_
   refine J_block ?_
   have hrn:(List.map eP r).length=r.length:=List.length_map ..
   rw[hrn]
   refine J_loopx (fun z:AccI=>[zP 0 b,zP 6 (nu1 0),zS 7 none 0 0,zV 8 .nilIface,zP 10 (nu2 0),zS 14 z.a z.k z.c,zS 16 (a1_0,c1_0).fst r.length c1_0,zS 96 (sA b1 off1) x.places oc,zI 97 (↑x.places:Int),zI 98 k,zS 102 (a1_0,c1_0).fst r.length c1_0,zI 103 (↑r.length:Int),zI 104 z.i]) (fun z:AccI=>[(nu1 0,.cells #[.slice none 0 0,nI 0,.slice none 0 0] 35 (0,0)),(b,.cells #[.pointer (sA vb 0),nI (↑x.id:Int),nI (↑x.places:Int),nI (↑x.shards:Int),nI (x.clock+1),.slice (sA b1 off1) x.places oc,.slice ia x.places ic] 124 (0,0)),(nu2 0,.cells #[.slice (sA g 0) at'.length d1,nI (↑x.id:Int),.slice u2 ops.length d2] 35 (0,0))]) (fun z:AccI=>[cSnds om.flatten (ssAt x (comP x at' ops) (posP x.id x.shards k.toNat+z.i.toNat)),cRcvs im.flatten x.rs,cVer vb x.places x.base (x.L++putsOf (comP x at' ops) (comP x at' ops).ops),cAcc (.slice z.a z.k z.c) 62 9 ((msAt x (comP x at' ops) (posP x.id x.shards k.toNat+z.i.toNat)).map eMsg)]) (fun z:AccI=>[(.nilIface,(dC er eb)),(.slice a1 at'.length c1,(dInts at')),(.slice a2 ops.length c2,(D.sl 7 (List.map eOp ops))),(.slice (sA b1 off1) x.places oc,(dRows om)),(.slice ia x.places ic,(dRows im)),(.pointer (sA 0 0),(D.ptr [D.v (Value.iface 390 (Value.pointer (some (er 2))))])),(nI (x.clock+1),(dI (x.clock+1))),(.slice (sA g 0) at'.length d1,(D.sl 1 (List.map eI (comP x at' ops).when))),(.slice u2 ops.length d2,(D.sl 7 (List.map eOp (renum ops)))),(.slice (a1_0,c1_0).fst ((List.map eP r).length) c1_0,(D.sl 1 (List.map eP r)))]) (fun z:AccI=>(r.length - z.i).toNat) (fun z:AccI=>(0≤z.i∧z.i≤r.length)) ⟨0,av,m,cv⟩ [0,6,7,8,10,14,16,96,97,98,102,103,104] [0,1,2] [0,1,2,3] [0,1,2,3,4,5,6,7,8,9] ?_ (by kernel_rfl) rfl rfl rfl ?_
   ·exact⟨by simp,by simp⟩
   rintro⟨i,av2,m2,cv2⟩ ⟨hi0,hi⟩
   dsimp only at hi0 hi ⊢
   refine J_stpx (stp_acclen 3 rfl) fun _ hm2=>?_
   have hm3:=msAt_len x (comP x at' ops) (posP x.id x.shards k.toNat+i.toNat)
   rw[List.length_map]at hm2
   refine Zs [zR 0] [] [zB 105 (decide (i<(↑r.length:Int)))] ?_
   refine J_seq ?_
   refine cC (t:=decide (i<(↑r.length:Int))) (fun hli=>?_) (fun hli=>?_)
   ·have hli2:i<r.length:=by simpa using hli
    obtain⟨bb,hbb⟩:∃bb,r[i.toNat]?=some bb:=⟨_,List.getElem?_eq_getElem (by omega)⟩
    have hne:k.toNat≠x.id:=by
     intro h0
     rw[if_pos h0]at hrl
     omega
    rw[if_neg hne]at hrl
    have hbf:=hy.om.at hr hbb
    obtain⟨y0,hy0⟩:∃y0,x.ss[posP x.id x.shards k.toNat+i.toNat]?=some y0:=by
     have h4:=(List.getElem?_eq_some_iff.1 hbf).1
     rw[hy.om.flen]at h4
     exact⟨_,List.getElem?_eq_getElem (by rw[hsl];exact h4)⟩
    obtain⟨hto,hsh⟩:=hx.sndAt (by omega) hne (by omega) hy0
    refine J_read0 9 rfl i.toNat (map_at hbb) (by kernel_rfl) (fun b2 off2 cs2 ty2 fz2 ha2 hrd2=>?_)
    cases ha2
    have hrd2_0:=rd0 (hrd2 0 _ rfl)
    try simp only[aQ]
    refine J_skip (J_seq (J_block ?_))
    refine Zt [zR 0,.rd 1 [] 0 2,.rd 2 [.r 2 (some (.pointer (sA bb 0)))] 0 0,zR 3,zR 4] [105] [zI 17 i,zP 18 bb] (oC hi0 (oC hli2 (oC hrd2_0 oN))) ?_
    refine J_seq ?_
    have hsh2:y0.sh=i:=by omega
    refine J_hide 1 rfl ?_
    refine Nm [(cSnds om.flatten (ssAt x (comP x at' ops) (posP x.id x.shards k.toNat+i.toNat))),(cRcvs im.flatten x.rs),(cVer vb x.places x.base (x.L++putsOf (comP x at' ops) (comP x at' ops).ops)),cAcc (.slice av2 m2 cv2) 62 9 (List.map eMsg (msAt x (comP x at' ops) (posP x.id x.shards k.toNat+i.toNat))),cObj b (.cells #[.pointer (sA vb 0),nI (↑x.id:Int),nI (↑x.places:Int),nI (↑x.shards:Int),nI (x.clock+1),.slice (sA b1 off1) x.places oc,.slice ia x.places ic] 124 (0,0))] ?_
    refine jT [(0,true),(1,true),(2,true),(3,false),(4,true),(5,true),(6,true),(7,false),(8,false),(9,true)] [] ?_
    refine Ya [zR 0,.rd 1 (hnO 1 3) 0 0,zR 2] [] [zP 110 b,zV 111 (.agg #[.slice (sA g 0) at'.length d1,nI (↑x.id:Int),.slice u2 ops.length d2]),zI 112 i] ?_
    refine JR_call [] [4] 87 #[.pointer (some (⟨b,0,none⟩)),.agg #[.slice (some (⟨g,0,none⟩)) at'.length d1,.int .i64 (↑x.id:Int),.slice u2 ops.length d2],.int .i64 i] (some 113) (by kernel_rfl) (by kernel_rfl) (by decide) (fun w S M hP hG _=>?_)
    refine(pPart (c:=comP x at' ops) (sh:=i) (hG.at 0 rfl) hP (hG.at 8 rfl) (by rw[comP,renum_len];exact hl2) (by have:=hx.s1;omega) (by have:=hx.s6;omega)).mono ?_
    rintro e5 w5 ⟨u4,d4,hR⟩
    refine⟨_,_,_,hR,?_⟩
    try simp only[aQ]
    refine Ym (Rds 4 7++[.wr 7 [] 0,.wr 8 (hnO 2 3) 0,zR 9]) [113,110,111,112] (fun nu3=>[zP 19 (nu3 0),zB 20 (decide ((↑(partC (↑x.shards:Int) (comP x at' ops) i).ops.length:Int)>0))]) o0 (fun nu3=>[(nu3 0,.cells #[.slice (sA g 0) at'.length d1,nI ((comP x at' ops).place),.slice u4 ((partC (↑x.shards:Int) (comP x at' ops) i).ops.length) d4] 35 (0,0))]) [] (fun nu3=>?_)
    try simp only[aQ]
    refine JR_end ?_
    try simp only[aQ]
    refine J_seq ?_
    try simp only[aQ]
    refine Za [zR 0] [] [zB 116 (decide ((↑(partC (↑x.shards:Int) (comP x at' ops) i).ops.length:Int)>0))] ?_
    try simp only[aQ]
    refine cC (t:=decide ((↑(partC (↑x.shards:Int) (comP x at' ops) i).ops.length:Int)>0)) (fun hpn=>?_) (fun hpn=>?_)
    ·have hne2:(partC x.shards (comP x at' ops) i).ops≠[]:=by
      intro h0
      rw[h0]at hpn
      simp at hpn
     obtain⟨hfm,htm,hq0,hq1,hql⟩:=hx.snd y0 (List.mem_of_getElem? hy0)
     have hsend:=comP_send hx hok (List.mem_of_getElem? hy0) (by rw[hsh2];exact hne2)
     rw[hsh2]at hsend
     have hmc:msgC x.shards (comP x at' ops) y0=[SndT.msg y0 (partC x.shards (comP x at' ops) i)]:=by rw[msgC,hsh2,if_neg hne2]
     have hsc:sndC x.shards (comP x at' ops) y0=SndT.com y0 (partC x.shards (comP x at' ops) i):=by rw[sndC,hsh2,if_neg hne2]
     have hps:posP x.id x.shards k.toNat+i.toNat+1=posP x.id x.shards k.toNat+(i+1).toNat:=by omega
     try simp only[aQ]
     refine J_seq ?_
     try simp only[aQ]
     refine jT [(0,true),(1,true),(2,false),(3,true),(4,true),(5,true),(6,false),(7,false),(8,true)] [] ?_
     refine Ya [zR 0,.rd 1 (hnO 2 3) 0 0] [116] [zP 118 bb,zV 119 (.agg #[.slice (sA g 0) at'.length d1,nI ((comP x at' ops).place),.slice u4 ((partC (↑x.shards:Int) (comP x at' ops) i).ops.length) d4])] ?_
     refine JR_call [] [0] 88 #[.pointer (some (⟨bb,0,none⟩)),.agg #[.slice (some (⟨g,0,none⟩)) at'.length d1,.int .i64 ((comP x at' ops).place),.slice u4 ((partC (↑x.shards:Int) (comP x at' ops) i).ops.length) d4]] (some 120) (by kernel_rfl) (by kernel_rfl) (by decide) (fun w S M hP hG _=>?_)
     refine(sndCom (c:=partC x.shards (comP x at' ops) i) (hG.at 0 rfl) hP hbf (ssAt_at hy0) (hG.at 7 rfl) (hG.at 10 rfl) (by show(comP x at' ops).when.length≤_;omega) (Nat.le_trans (List.length_filter_le _ _) (by rw[comP,renum_len];exact hl2)) (fun o ho=>renum_dots hl3 o (List.mem_filter.1 ho).1) hq0 (by omega) (by omega) hsend).mono ?_
     rintro e6 w6 ⟨u5,d5,u6,d6,hR⟩
     refine⟨_,_,_,hR,?_⟩
     rw[←hsc,ssAt_succ hy0,hps]
     try simp only[aQ]
     refine Ym (Rds 3 6++[.wr 6 [] 0,.wr 7 (hnO 3 9) 0,zR 8]) [120,118,119] (fun nu4=>[zP 21 (nu4 0)]) o0 (fun nu4=>[(nu4 0,.cells #[nI ((SndT.msg y0 (partC (↑x.shards:Int) (comP x at' ops) i)).fm),nI ((SndT.msg y0 (partC (↑x.shards:Int) (comP x at' ops) i)).to),nI ((SndT.msg y0 (partC (↑x.shards:Int) (comP x at' ops) i)).shard),nI ((SndT.msg y0 (partC (↑x.shards:Int) (comP x at' ops) i)).seq),nI ((SndT.msg y0 (partC (↑x.shards:Int) (comP x at' ops) i)).time),.bool false,.slice u5 at'.length d5,nI ((SndT.msg y0 (partC (↑x.shards:Int) (comP x at' ops) i)).c.place),.slice u6 ((partC (↑x.shards:Int) (comP x at' ops) i).ops.length) d6] 62 (0,0))]) [] (fun nu4=>?_)
     try simp only[aQ]
     refine JR_end ?_
     try simp only[aQ]
     refine jT [(0,true),(1,true),(2,false),(3,false),(4,true)] [] ?_
     refine Ym [zR 0,.rd 1 (hnO 3 9) 0 0,.wr 2 [] 0] [] (fun nu5=>[zS 123 av2 m2 cv2,zS 125 (sA (nu5 0) 0) 1 1]) o0 (fun nu5=>[(nu5 0,.cells #[nI ((SndT.msg y0 (partC (↑x.shards:Int) (comP x at' ops) i)).fm),nI ((SndT.msg y0 (partC (↑x.shards:Int) (comP x at' ops) i)).to),nI ((SndT.msg y0 (partC (↑x.shards:Int) (comP x at' ops) i)).shard),nI ((SndT.msg y0 (partC (↑x.shards:Int) (comP x at' ops) i)).seq),nI ((SndT.msg y0 (partC (↑x.shards:Int) (comP x at' ops) i)).time),.bool false,.slice u5 at'.length d5,nI ((SndT.msg y0 (partC (↑x.shards:Int) (comP x at' ops) i)).c.place),.slice u6 ((partC (↑x.shards:Int) (comP x at' ops) i).ops.length) d6] 62 (0,0))]) [] (fun nu5=>?_)
     refine JN [(cRcvs im.flatten x.rs),(cVer vb x.places x.base (x.L++putsOf (comP x at' ops) (comP x at' ops).ops)),cAcc (.slice av2 m2 cv2) 62 9 (List.map eMsg (msAt x (comP x at' ops) (posP x.id x.shards k.toNat+i.toNat))),cObj b (.cells #[.pointer (some (⟨vb,0,none⟩)),.int .i64 (↑x.id:Int),.int .i64 (↑x.places:Int),.int .i64 (↑x.shards:Int),.int .i64 (x.clock+1),.slice (some (⟨b1,off1,none⟩)) x.places oc,.slice ia x.places ic] 124 (0,0)),(cSnds om.flatten (ssAt x (comP x at' ops) (posP x.id x.shards k.toNat+(i+1).toNat)))] ?_
     refine JR_appm 2 56 62 9 104 (.agg #[.int .i64 0,.int .i64 0,.int .i64 0,.int .i64 0,.int .i64 0,.bool false,.slice none 0 0,.int .i64 0,.slice none 0 0]) (a0:=av2) (len:=m2) (cap0:=cv2) (ax:=(some (⟨nu5 0,0,none⟩))) (m:=1) (c:=1) (dst:=(some 126)) [(SndT.msg y0 (partC x.shards (comP x at' ops) i))] (by kernel_rfl) (by kernel_rfl) (by kernel_rfl) (by kernel_rfl) rfl (by decide) rfl (fun _ _ _ s=>src_one s 4 rfl rfl ⟨.inl ⟨rfl,rfl⟩,⟨.inl ⟨rfl,rfl⟩,⟨.inl ⟨rfl,rfl⟩,⟨.inl ⟨rfl,rfl⟩,⟨.inl ⟨rfl,rfl⟩,⟨.inl ⟨rfl,rfl⟩,⟨.inr (.inl (List.mem_of_getElem? (i:=11) rfl)),⟨.inl ⟨rfl,rfl⟩,⟨.inr (.inl (List.mem_of_getElem? (i:=12) rfl)),trivial⟩⟩⟩⟩⟩⟩⟩⟩⟩) (by simp only[maxLen];omega) (by omega) (fun av1 cv1=>?_)
     rw[←hmc,msAt_succ hy0,hps]
     refine JN [(cRcvs im.flatten x.rs),(cVer vb x.places x.base (x.L++putsOf (comP x at' ops) (comP x at' ops).ops)),cObj b (.cells #[.pointer (some (⟨vb,0,none⟩)),.int .i64 (↑x.id:Int),.int .i64 (↑x.places:Int),.int .i64 (↑x.shards:Int),.int .i64 (x.clock+1),.slice (some (⟨b1,off1,none⟩)) x.places oc,.slice ia x.places ic] 124 (0,0)),(cSnds om.flatten (ssAt x (comP x at' ops) (posP x.id x.shards k.toNat+(i+1).toNat))),cAcc (.slice av1 (m2+1) cv1) 62 9 (List.map eMsg (msAt x (comP x at' ops) (posP x.id x.shards k.toNat+(i+1).toNat)))] ?_
     try simp only[aQ]
     refine Ya [zR 4] [126,123,125] [zS 14 av1 (m2+1) cv1] ?_
     refine JR_end (J_eb ?_)
     refine Zp [.rd 0 [] 0 1,zR 1] [] [zI 104 (i+1)] (oC (show IntKind.i64.wrap (i+1)=i+1 from wrap_i64 (by omega) (by omega)) oN) ?_
     refine J_show 2 rfl ?_
     refine J_backx ⟨i+1,_,m2+1,_⟩ [0,6,7,8,10,14,16,96,97,98,102,103,104] [0,5,1] [2,0,1,3] [0,1,2,3,4,5,6,7,8,9] ?_ ?_ (by kernel_rfl) rfl rfl rfl
     ·exact⟨by simp only;omega,by simp only;omega⟩
     ·simp only
      omega
    ·have hne2:(partC x.shards (comP x at' ops) i).ops=[]:=by
      apply List.length_eq_zero_iff.1
      simp at hpn
      simpa using hpn
     have hps:posP x.id x.shards k.toNat+i.toNat+1=posP x.id x.shards k.toNat+(i+1).toNat:=by omega
     have hs1:ssAt x (comP x at' ops) (posP x.id x.shards k.toNat+i.toNat)=ssAt x (comP x at' ops) (posP x.id x.shards k.toNat+(i+1).toNat):=by
      rw[←hps,←ssAt_succ hy0,show sndC x.shards (comP x at' ops) y0=y0 by rw[sndC,hsh2,if_pos hne2],set_same (ssAt_at hy0)]
     have hs2:msAt x (comP x at' ops) (posP x.id x.shards k.toNat+i.toNat)=msAt x (comP x at' ops) (posP x.id x.shards k.toNat+(i+1).toNat):=by
      rw[←hps,←msAt_succ hy0,show msgC x.shards (comP x at' ops) y0=[]by rw[msgC,hsh2,if_pos hne2],List.append_nil]
     try simp only[aQ]
     refine J_skip ?_
     try simp only[aQ]
     refine J_eb ?_
     try simp only[aQ]
     refine Zp [.rd 0 [] 0 1,zR 1] [116] [zI 104 (i+1)] (oC (show IntKind.i64.wrap (i+1)=i+1 from wrap_i64 (by omega) (by omega)) oN) ?_
     try simp only[aQ]
     rw[hs1,hs2]
     refine J_show 4 rfl ?_
     refine J_backx ⟨i+1,av2,m2,cv2⟩ [0,6,7,8,10,14,16,96,97,98,102,103,104] [0,3,1] [0,1,2,3] [0,1,2,3,4,5,6,7,8,9] ?_ ?_ (by kernel_rfl) rfl rfl rfl
     ·exact⟨by simp only;omega,by simp only;omega⟩
     ·simp only
      omega
   ·have hie2:i.toNat=(if k.toNat=x.id then 0 else x.shards):=by rw[←hrl];simp at hli;omega
    have hps:posP x.id x.shards k.toNat+i.toNat=posP x.id x.shards (k+1).toNat:=by rw[hie2,show(k+1).toNat=k.toNat+1 by omega,posP_succ]
    rw[hps]
    refine J_exit rfl ?_
    refine J_eb ?_
    refine Zp [.rd 0 [] 0 1,zR 1] [105] [zI 98 (k+1)] (oC (show IntKind.i64.wrap (k+1)=k+1 from wrap_i64 (by omega) (by omega)) oN) ?_
    refine J_backx ⟨k+1,av2,m2,cv2⟩ [0,6,7,8,10,14,96,97,98] [0,1,2] [0,1,2,3] [0,1,2,3,4,5,6,7,8] ?_ ?_ (by kernel_rfl) rfl rfl rfl
    ·exact⟨by simp only;omega,by simp only;omega⟩
    ·simp only
     omega
  ·have hke:k.toNat=x.places:=by simp at hlk;omega
   rw[hke,←hsl,ssAt_end _ _ (Nat.le_refl _),msAt_end _ _ (Nat.le_refl _)]
   refine J_exit rfl ?_
   refine J_seq ?_
   refine J_stpx (stp_acclen 3 rfl) fun _ hm2=>?_
   refine Zm [.rd 0 (hnO 2 3) 0 0,zR 1,.wr 2 (hnO 0 3) 0,zR 3,zR 4] [(2,[0])] [99,0,10,14,96,97,98] (fun _=>[zS 7 av m cv]) (fun _=>[(0,.cells #[.slice (sA g 0) at'.length d1,nI (↑x.id:Int),.slice u2 ops.length d2] 35 (0,0))]) o0 (fun _=>?_)
   refine Yr [(hnO 0 3),[],[]] (.tuple #[.agg #[.slice (sA g 0) at'.length d1,nI (↑x.id:Int),.slice u2 ops.length d2],.slice av m cv,.nilIface]) fun a w s=>?_
   have s2:=(s.hide 1 rfl).stp (stp_closePl (x:=comPl x (comP x at' ops)) ⟨vb,oa,oc,ia,ic,om,im⟩ [4,2,0,1] 3 4 rfl rfl rfl ⟨hy.om,hy.im⟩)
   exact .inr ⟨hok,_,_,_,_,_,_,_,_,_,s2.ret (by simp) [0,1] [7,8] rfl rfl⟩
theorem placeCommit {w:World} {S:Nat→Prop} {M:List Nat} {er:Nat→Addr} {eb:Nat→Array Value×TypeId} {x:PlT} {b n n1 c1 n2 c2:Nat} {a1 a2:Option Addr} {at':List Int} {ops:List OpT} (hC:Rep w S .nilIface (dC er eb)) (hP:Pre w S M [cPlace b x]) (hx:PlIn x n) (hn:n<600) (h1:Rep w S (.slice a1 n1 c1) (dInts at')) (h2:Rep w S (.slice a2 n2 c2) (.sl 7 (ops.map eOp))) (hl1:at'.length≤1000000) (hl2:ops.length≤1000000) (hl3:∀o∈ops,o.dots.length≤1000000) :
  Calls Tryz.prog 22 #[.pointer (some ⟨b,0,none⟩),.slice a1 n1 c1,.slice a2 n2 c2] w fun e w'=>
   ((comErr x at' ops).code≠0∧∃v G',Ret M w S w' e (.tuple #[comZ,.slice none 0 0,v]) [cPlace b x] G'∧FErrV er (comErr x at' ops) v G') ∨
   ((comErr x at' ops).code=0∧∃u1 m1 d1 u2 m2 d2 u3 m3 d3,Ret M w S w' e (.tuple #[.agg #[.slice u1 m1 d1,.int .i64 x.id,.slice u2 m2 d2],.slice u3 m3 d3,.nilIface]) [cPlace b (comPl x (comP x at' ops))]
    [(.slice u1 m1 d1,dInts (comP x at' ops).when),(.slice u2 m2 d2,.sl 7 ((comP x at' ops).ops.map eOp)),(.slice u3 m3 d3,.sl 9 ((comMs x (comP x at' ops)).map eMsg))]):=by
 refine(placeCommitA hC hP hx hn h1 h2 hl1 hl2 hl3).mono ?_
 rintro e w' (h|⟨hok,u1,m1,d1,u2,m2,d2,u3,m3,d3,hR⟩)
 ·exact .inl h
 ·exact .inr ⟨hok,u1,m1,d1,u2,m2,d2,u3,m3,d3,hR.freeze⟩
end Go.Proofs.YtmkapocibaojdaaGreatDoor
end
section
namespace Go.Proofs.YtmkapocibaojdaaGreatDoor
open Go Go.Sx
theorem zeros_ok {p:Nat} (h1:1≤p) (h6:p≤6):vecErr (List.replicate p (0:Int))=0:=by
 rw[vecErr,if_neg (by simp;omega),if_neg (by simp[badT])]
theorem newP_in {id places shards:Nat} (n:Nat) (hp1:1≤places) (hp6:places≤6) (hs1:1≤shards) (hs6:shards≤6) (hid:id<places):PlIn (newP id places shards) n:=by
 have hs:∀s∈(newP id places shards).ss,∃a b:Nat,s=⟨id,a,b,0,0,[]⟩:=fun s hs=>by
  obtain⟨q,_,rfl⟩:=List.mem_map.1 hs
  exact⟨_,_,rfl⟩
 have hr:∀s∈(newP id places shards).rs,∃a b:Nat,s=⟨a,id,b,0,0,[]⟩:=fun s hs=>by
  obtain⟨q,_,rfl⟩:=List.mem_map.1 hs
  exact⟨_,_,rfl⟩
 refine⟨⟨hp1,hp6,hs1,hs6,hid,by simp[newP],by simp[newP],zeros_ok hp1 hp6,by simp[newP],?_,?_,fun r h=>?_⟩,by simp[newP],?_,by simp[newP],by simp[newP],fun s h=>?_,fun s h=>?_,fun r h=>?_,fun s h=>?_,fun r h=>?_,fun r h=>?_,?_⟩
 ·simp only[newP,newSs,List.map_map]
  exact(List.map_congr_left fun q _=>rfl).trans (List.map_id _)
 ·simp only[newP,newRs,List.map_map]
  exact(List.map_congr_left fun q _=>rfl).trans (List.map_id _)
 ·obtain⟨a,b,rfl⟩:=hr r h
  simp
 ·simp[newP,List.getD_eq_getElem?_getD,List.getElem?_replicate]
  split <;> simp
 ·obtain⟨a,b,rfl⟩:=hs s h
  simp[newP]
 ·obtain⟨a,b,rfl⟩:=hs s h
  simp
 ·obtain⟨a,b,rfl⟩:=hr r h
  simp[newP]
 ·obtain⟨a,b,rfl⟩:=hs s h
  simp
 ·obtain⟨a,b,rfl⟩:=hr r h
  simp[Dist]
 ·obtain⟨a,b,rfl⟩:=hr r h
  simp
 ·have:((newP id places shards).rs.map (·.q)).sum=0:=by
   simp only[newP,newRs,List.map_map]
   induction pairsP id shards places with
   | nil=>rfl
   | cons a l ih=>simpa using ih
  rw[this]
  simp[newP]
end Go.Proofs.YtmkapocibaojdaaGreatDoor
end
section
namespace Go.Proofs.YtmkapocibaojdaaGreatDoor
open Go Go.Sx
theorem perm4 {α:Type} (a b c d:α):[a,b,c,d].Perm ([a,d]++[b,c]):=List.Perm.cons a (List.perm_middle (l₁:=[b,c]) (l₂:=[]) (a:=d))
set_option maxHeartbeats 4000000 in
theorem placeSnapshot {w:World} {S:Nat→Prop} {M:List Nat} {x:PlT} {b:Nat} (hP:Pre w S M [cPlace b x]) (h:PlOk x) :
  Calls Tryz.prog 19 #[.pointer (some ⟨b,0,none⟩)] w fun e w'=>∃a' n' c',Ret M w S w' e (.slice a' n' c') [cPlace b x] [(.slice a' n' c',dInts (snapL x))]:=by
 obtain⟨y,hy,hG,hP2⟩:=hP.open1
 obtain⟨M1,hM1,hP3⟩:=hP2.perm (perm4 _ _ _ _)
 obtain⟨M2,hP4,hback⟩:=hP3.part
 refine(pSnapshot hP4 (hG.at 1 rfl) hy.im h).mono ?_
 rintro e w' ⟨a',n',c',hR⟩
 exact⟨a',n',c',Ret.close1 y ((hback hR).perm (perm4 _ _ _ _).symm hM1.symm) hy hG hP.no⟩
def readErr (x:PlT) (key:ByteArray) (at':List Int):Nat:=if nameOk key=true then knownErr x at' else 4
set_option maxHeartbeats 4000000 in
theorem pLook {w:World} {S:Nat→Prop} {M:List Nat} {er:Nat→Addr} {eb:Nat→Array Value×TypeId} {x:PlT} {b vb ic n1 c1:Nat} {o:Value} {ia a1:Option Addr} {rows:List (List Nat)} {key:ByteArray} {at':List Int} (hC:Rep w S .nilIface (dC er eb)) (hP:Pre w S M [cObj b (plC vb x.id x.places x.shards x.clock o (.slice ia x.places ic)),cRcvs rows.flatten x.rs]) (hi:Rep w S (.slice ia x.places ic) (dRows rows)) (h1:Rep w S (.slice a1 n1 c1) (dInts at')) (hok:RowsOk x.id x.shards x.places rows) (h:PlOk x) (hl1:at'.length≤1000000) :
  Calls Tryz.prog 94 #[.pointer (some ⟨b,0,none⟩),.string key,.slice a1 n1 c1] w fun e w'=>∃v,Ret M w S w' e v [cObj b (plC vb x.id x.places x.shards x.clock o (.slice ia x.places ic)),cRcvs rows.flatten x.rs] []∧ErrIs 390 er (readErr x key at') v:=by
 refine enG Tryz.func94 bd94 (args:=[.pointer (some ⟨b,0,none⟩),.string key,.slice a1 n1 c1]) (S:=S) (G:=[(_,dC er eb),(_,dRows rows),(_,dInts at')]) (by kernel_rfl) hP (.cons hC (.cons hi (.cons h1 (.nil _ _)))) ?_
 refine J_stp (stp_all 0 [3] rfl rfl) ?_
 refine J_glob 3 rfl (fun csg1 tyg1 fzg1 hglob1=>?_)
 try simp only[aQ]
 refine Zs [zR 0] [] [zV 6 .nilIface] ?_
 refine J_seq ?_
 refine jS [(0,true),(1,false),(2,true)] [] ?_
 refine Ya [zR 0] [1] [zV 7 (.string key)] ?_
 refine Yc 154 #[.string key] (some 8) fun w S hG=>?_
 refine(vName (S:=S)).mono ?_
 rintro e1 w1 hR
 refine⟨_,_,_,hR,?_⟩
 cases hn:nameOk key with
 | false=>
  have hae:readErr x key at'=4:=by rw[readErr,if_neg (by simp[hn])]
  rw[hae]
  try simp only[aQ]
  refine Ya [zR 2] [8,7] [zB 9 true] ?_
  refine JR_end ?_
  refine cTt ?_
  refine Zt [.rd 0 [.r 0 (some (.iface 390 (.pointer (some (er 4)))))] 0 0,zR 1] [9] [zV 6 (.iface 390 (.pointer (some (er 4))))] (oC hglob1 oN) ?_
  refine Yr [[]] (.iface 390 (.pointer (some (er 4)))) fun a w s=>?_
  exact⟨_,s.ret (by simp) [0,1] [] rfl rfl,.inr ⟨by decide,rfl⟩⟩
 | true=>
  have hae:readErr x key at'=knownErr x at':=by rw[readErr,if_pos hn]
  rw[hae]
  try simp only[aQ]
  refine Ya [zR 2] [8,7] [zB 9 false] ?_
  refine JR_end ?_
  refine cF ?_
  refine J_skip ?_
  refine jS [(0,true),(1,true),(2,false),(3,true)] [] ?_
  refine Ya [zR 0,zR 1] [9,0,2] [zP 11 b,zS 12 a1 n1 c1] ?_
  refine JR_call [] [0,1] 83 #[.pointer (some (⟨b,0,none⟩)),.slice a1 n1 c1] (some 13) (by kernel_rfl) (by kernel_rfl) (by decide) (fun w S M hP hG _=>?_)
  refine(pKnown (hG.at 0 rfl) hP (hG.at 1 rfl) (hG.at 2 rfl) hok h hl1).mono ?_
  rintro e2 w2 ⟨v,hR,hv⟩
  refine⟨_,_,_,hR,?_⟩
  try simp only[aQ]
  refine Ya [zR 3] [13,11,12] [zV 6 v] ?_
  try simp only[aQ]
  refine JR_end ?_
  try simp only[aQ]
  refine Yr [[]] (v) fun a w s=>?_
  exact⟨_,s.ret (by simp) [0,1] [] rfl rfl,hv⟩
def readK (x:PlT) (key:ByteArray) (at':List Int):Nat:=if readErr x key at'≠0 then readErr x key at' else atErr x.places x.base key at'
set_option maxHeartbeats 4000000 in
theorem placeRead {w:World} {S:Nat→Prop} {M:List Nat} {er:Nat→Addr} {eb:Nat→Array Value×TypeId} {x:PlT} {b n n1 c1:Nat} {a1:Option Addr} {key:ByteArray} {at':List Int} (hC:Rep w S .nilIface (dC er eb)) (hP:Pre w S M [cPlace b x]) (hx:PlIn x n) (hn:n≤600) (h1:Rep w S (.slice a1 n1 c1) (dInts at')) (hl1:at'.length≤1000000) :
  Calls Tryz.prog 25 #[.pointer (some ⟨b,0,none⟩),.string key,.slice a1 n1 c1] w fun e w'=>
   (readK x key at'≠0∧Ret M (zero w) S w' e (.tuple #[valZ,.iface 390 (.pointer (some (er (readK x key at'))))]) [cPlace b x] []) ∨
   (readK x key at'=0∧∃ua un uc,Ret M (zero w) S w' e (.tuple #[valA (Sx.valOf key (withinC x.L key at')) (.slice ua un uc),.nilIface]) [cPlace b x] [(.slice ua un uc,dStrs (Sx.valOf key (withinC x.L key at')).set)]):=by
 refine enG Tryz.func25 bd25 (args:=[.pointer (some ⟨b,0,none⟩),.string key,.slice a1 n1 c1]) (S:=S) (C:=[cPlace b x]) (G:=[(_,dC er eb),(_,dInts at')]) (by kernel_rfl) hP (.cons hC (.cons h1 (.nil _ _))) ?_
 refine J_zero ?_
 refine J_stpx (stp_openbox 0 rfl) fun y hy=>?_
 obtain⟨vb,oa,oc,ia,ic,om,im⟩:=y
 refine Nm [cObj b (.cells #[.pointer (sA vb 0),nI (↑x.id:Int),nI (↑x.places:Int),nI (↑x.shards:Int),nI x.clock,.slice (PlBx.mk vb oa oc ia ic om im).oa x.places oc,.slice (PlBx.mk vb oa oc ia ic om im).ia x.places ic] 124 (0,0)),(cVer (PlBx.mk vb oa oc ia ic om im).vb x.places x.base x.L),(cSnds (PlBx.mk vb oa oc ia ic om im).om.flatten x.ss),(cRcvs (PlBx.mk vb oa oc ia ic om im).im.flatten x.rs)] ?_
 try simp only[aQ]
 refine Zv [.wr 0 [] 0,zR 1] [] [] (fun nu1=>[zP 6 (nu1 0),zV 7 .nilIface]) o0 (fun nu1=>[(nu1 0,.cells #[nI 0,.string (ByteArray.mk #[]),nI 0,.slice none 0 0] 64 (0,0))]) (fun nu1=>?_)
 refine J_seq ?_
 refine jS [(0,true),(1,true),(2,true),(3,false),(4,true)] [] ?_
 refine Ya (Rds 0 3) [] [zP 9 b,zV 10 (.string key),zS 11 a1 n1 c1] ?_
 refine JR_call [] [0,3] 94 #[.pointer (some (⟨b,0,none⟩)),.string key,.slice a1 n1 c1] (some 12) (by kernel_rfl) (by kernel_rfl) (by decide) (fun w S M hP hG _=>?_)
 refine(pLook (hG.at 0 rfl) hP (hG.at 3 rfl) (hG.at 1 rfl) hy.im hx.toPlOk hl1).mono ?_
 rintro e1 w1 ⟨v,hR,hv⟩
 refine⟨_,_,_,hR,?_⟩
 obtain⟨hk0,rfl⟩|⟨hk0,rfl⟩:=hv
 case inr=>
  have hae:readK x key at'=readErr x key at':=by rw[readK,if_pos hk0]
  rw[hae]
  try simp only[aQ]
  refine Ya [zR 4] [12,9,10,11] [zV 8 (.iface 390 (.pointer (some (er (readErr x key at')))))] ?_
  try simp only[aQ]
  refine JR_end ?_
  try simp only[aQ]
  refine J_seq ?_
  try simp only[aQ]
  refine Za [zR 0,zR 1] [] [zB 14 true] ?_
  try simp only[aQ]
  refine cTt ?_
  try simp only[aQ]
  refine J_seq ?_
  try simp only[aQ]
  refine Zm [zR 0,zR 1,.wr 2 (hnO 0 4) 0,zR 3] [(2,[0])] [14,8] (fun _=>[zV 7 (.iface 390 (.pointer (some (er (readErr x key at')))))]) o0 o0 (fun _=>?_)
  try simp only[aQ]
  refine Yr [(hnO 0 4),[]] (.tuple #[.agg #[nI 0,.string (ByteArray.mk #[]),nI 0,.slice none 0 0],.iface 390 (.pointer (some (er (readErr x key at'))))]) fun a w s=>?_
  have s2:=s.stp (stp_closePl (x:=x) ⟨vb,oa,oc,ia,ic,om,im⟩ [2,0,1,3] 2 3 rfl rfl rfl hy)
  exact .inl ⟨hk0,s2.retz (by simp) [0] [] rfl rfl⟩
 have hae:readK x key at'=atErr x.places x.base key at':=by rw[readK,if_neg (by omega)]
 rw[hae]
 try simp only[aQ]
 refine Ya [zR 4] [12,9,10,11] [zV 8 .nilIface] ?_
 try simp only[aQ]
 refine JR_end ?_
 try simp only[aQ]
 refine J_seq ?_
 try simp only[aQ]
 refine Za [zR 0,zR 1] [] [zB 14 false] ?_
 try simp only[aQ]
 refine cF ?_
 try simp only[aQ]
 refine J_skip ?_
 try simp only[aQ]
 refine J_seq ?_
 try simp only[aQ]
 refine Nm [(cVer vb x.places x.base x.L),(cSnds om.flatten x.ss),cObj b (.cells #[.pointer (sA vb 0),nI (↑x.id:Int),nI (↑x.places:Int),nI (↑x.shards:Int),nI x.clock,.slice oa x.places oc,.slice ia x.places ic] 124 (0,0)),(cRcvs im.flatten x.rs)] ?_
 refine J_show 2 rfl ?_
 refine jT [(0,true),(1,true),(2,true),(3,true),(4,true),(5,true),(6,false),(7,true),(8,true),(9,false),(10,true)] [] ?_
 refine Ya (Rds 0 3++[.rd 3 [.o 1 none] 0 0,zR 4,zR 5]) [14,8,0,1,2] [zP 20 vb,zV 21 (.string key),zS 22 a1 n1 c1] ?_
 refine JR_callz [] [0] 95 #[.pointer (some (⟨vb,0,none⟩)),.string key,.slice a1 n1 c1] (some 23) zero_all (by kernel_rfl) (by kernel_rfl) (by decide) (fun w S M hP hG _=>?_)
 refine(verRead (hG.at 0 rfl) hP (hx.ver (by omega)) (hG.at 1 rfl) hl1).mono ?_
 rintro e2 w2 (⟨hf,hR⟩|⟨hf,ua,un,uc,hR⟩)
 ·refine⟨_,_,_,hR,?_⟩
  try simp only[aQ]
  refine Ya [zR 7,zR 8,.wr 9 (hnO 0 4) 0,zR 10] [23,20,21,22] [zV 7 (.iface 390 (.pointer (some (er (atErr x.places x.base key at')))))] ?_
  try simp only[aQ]
  refine JR_end ?_
  try simp only[aQ]
  refine Yr [(hnO 0 4),[]] (.tuple #[.agg #[nI 0,.string (ByteArray.mk #[]),nI 0,.slice none 0 0],.iface 390 (.pointer (some (er (atErr x.places x.base key at'))))]) fun a w s=>?_
  have s2:=(s.hide 1 rfl).stp (stp_closePl (x:=x) ⟨vb,oa,oc,ia,ic,om,im⟩ [3,2,0,1] 2 3 rfl rfl rfl hy)
  exact .inl ⟨hf,s2.retz (by simp) [0] [] rfl rfl⟩
 ·refine⟨_,_,_,hR,?_⟩
  try simp only[aQ]
  refine Ym [zR 7,zR 8,.wr 9 (hnO 0 4) 0,zR 10] [23,20,21,22] (fun _=>[]) (fun _=>[(0,.cells #[nI ((Sx.valOf key (withinC x.L key at')).kind),.string ((Sx.valOf key (withinC x.L key at')).text),nI ((Sx.valOf key (withinC x.L key at')).n),.slice ua un uc] 64 (0,0))]) o0 [] (fun _=>?_)
  try simp only[aQ]
  refine JR_end ?_
  try simp only[aQ]
  refine Yr [(hnO 0 4),[]] (.tuple #[.agg #[nI ((Sx.valOf key (withinC x.L key at')).kind),.string ((Sx.valOf key (withinC x.L key at')).text),nI ((Sx.valOf key (withinC x.L key at')).n),.slice ua un uc],.nilIface]) fun a w s=>?_
  have s2:=(s.hide 1 rfl).stp (stp_closePl (x:=x) ⟨vb,oa,oc,ia,ic,om,im⟩ [3,2,0,1] 2 3 rfl rfl rfl hy)
  exact .inr ⟨hf,_,_,_,s2.retz (by simp) [0] [4] rfl rfl⟩
end Go.Proofs.YtmkapocibaojdaaGreatDoor
end
section
namespace Go.Proofs.YtmkapocibaojdaaGreatDoor
open Go Go.Sx
theorem firsts_id {A:List DoneT}:∀{s:List DotT},(A.map (·.d)).Nodup→(∀x∈A,x.d∉s)→firsts s A=A:=by
 induction A with
 | nil=>exact fun _ _=>rfl
 | cons x r ih=>
  intro s hn hs
  have h1:=List.nodup_cons.1 (by rw[List.map_cons]at hn;exact hn)
  rw[firsts,if_neg (hs x (List.mem_cons_self ..)),ih h1.2 fun y hy h=>?_]
  rcases List.mem_cons.1 h with h|h
  ·exact h1.1 (h ▸ List.mem_map_of_mem hy)
  ·exact hs y (List.mem_cons_of_mem _ hy) h
end Go.Proofs.YtmkapocibaojdaaGreatDoor
end
section
namespace Go.Proofs.YtmkapocibaojdaaGreatDoor
open Go Go.Sx
theorem firsts_app {b:List DoneT} (hn:(b.map (·.d)).Nodup):∀{a:List DoneT} {s:List DotT},(∀x∈b,x.d∉s∧x.d∉a.map (·.d))→firsts s (a++b)=firsts s a++b
 | [],s,h=>by
  rw[List.nil_append,firsts_id hn fun x hx=>(h x hx).1]
  rfl
 | x::r,s,h=>by
  have hr:∀y∈b,y.d∉r.map (·.d):=fun y hy hm=>(h y hy).2 (by rw[List.map_cons];exact List.mem_cons_of_mem _ hm)
  rw[List.cons_append,firsts,firsts]
  split
  ·exact firsts_app hn fun y hy=>⟨(h y hy).1,hr y hy⟩
  ·rw[firsts_app hn (s:=x.d::s) fun y hy=>⟨fun hm=>?_,hr y hy⟩,List.cons_append]
   rcases List.mem_cons.1 hm with he|hm
   ·exact(h y hy).2 (by rw[List.map_cons,he];exact List.mem_cons_self ..)
   ·exact(h y hy).1 hm
theorem ops_app {key:ByteArray} {l m:List ComT} (hn:((allDone m).map (·.d)).Nodup) (hs:(allDone m).Pairwise fun a b=>doneLt a b=true) (hlt:∀x∈allDone l,∀y∈allDone m,doneLt x y=true∧x.d≠y.d):opsOf key (l++m)=opsOf key l++(allDone m).filter fun x=>decide (x.o.key=key):=by
 refine eq_of_sorted (lt:=fun a b=>doneLt a b=true) (fun _ _=>doneLt_asymm) (opsOf_strict _ _) (List.pairwise_append.2 ⟨opsOf_strict _ _,hs.sublist List.filter_sublist,fun x hx y hy=>(hlt x (firsts_sub (opsOf_mem.1 hx).1).1 y (List.mem_filter.1 hy).1).1⟩) fun x=>?_
 have ha:allDone (l++m)=allDone l++allDone m:=by simp[allDone]
 rw[opsOf_mem,List.mem_append,opsOf_mem,List.mem_filter,ha,firsts_app hn fun y hy=>⟨by simp,fun hm=>?_⟩,List.mem_append,decide_eq_true_eq]
 ·exact or_and_right
 ·obtain⟨z,hz,he⟩:=List.mem_map.1 hm
  exact(hlt z hz y hy).2 he
def valD (l:List DoneT):ValT:=⟨kindOf l,if kindOf l=1 then lastText (kindL l)else ByteArray.mk #[],if kindOf l=2 then Sx.sumN (kindL l)else 0,if kindOf l=3 then setOf ((liveL (kindL l)).map (·.o.text))else []⟩
theorem valOf_D (key:ByteArray) (l:List ComT):Sx.valOf key l=valD (opsOf key l):=rfl
theorem goneB_map {g:DoneT→DoneT} (hg:∀x,(g x).o=x.o) (m:List DoneT) (t:ByteArray) (d:DotT):goneB (m.map g) t d=goneB m t d:=by
 unfold goneB
 rw[List.any_map]
 congr 1
 funext x
 simp[hg]
theorem goneB_same {m:List DoneT} {t:ByteArray} {d d':DotT} (h:∀r∈m,(d∈r.o.dots↔d'∈r.o.dots)):goneB m t d=goneB m t d':=by
 rw[Bool.eq_iff_iff]
 unfold goneB
 rw[List.any_eq_true,List.any_eq_true]
 constructor
 ·rintro⟨r,hr,hh⟩
  refine⟨r,hr,?_⟩
  simp only[Bool.and_eq_true,decide_eq_true_eq]at hh ⊢
  exact⟨hh.1,hh.2.1,(h r hr).1 hh.2.2⟩
 ·rintro⟨r,hr,hh⟩
  refine⟨r,hr,?_⟩
  simp only[Bool.and_eq_true,decide_eq_true_eq]at hh ⊢
  exact⟨hh.1,hh.2.1,(h r hr).2 hh.2.2⟩
theorem valD_map {g:DoneT→DoneT} (hg:∀x,(g x).o=x.o) {l:List DoneT} (hd:∀x∈l,∀r∈l,(x.d∈r.o.dots↔(g x).d∈r.o.dots)):valD (l.map g)=valD l:=by
 have hk:kindOf (l.map g)=kindOf l:=by
  cases l with
  | nil=>rfl
  | cons a l=>simp[kindOf,hg]
 have hL:kindL (l.map g)=(kindL l).map g:=by
  rw[kindL,kindL,List.filter_map,hk]
  congr 1
  congr 1
  funext x
  simp[hg]
 have hlast:lastText ((kindL l).map g)=lastText (kindL l):=by
  rw[lastText,lastText,List.foldl_map]
  congr 1
  funext _ x
  rw[hg]
 have hsum:Sx.sumN ((kindL l).map g)=Sx.sumN (kindL l):=by
  rw[Sx.sumN,Sx.sumN,List.foldl_map]
  congr 1
  funext _ x
  rw[hg]
 have hlive:(liveL ((kindL l).map g)).map (·.o.text)=(liveL (kindL l)).map (·.o.text):=by
  rw[liveL,liveL,List.filter_map,List.map_map]
  have h1:(fun x:DoneT=>((fun y:DoneT=>y.o.text)∘g) x)=fun x:DoneT=>x.o.text:=by
   funext x
   simp[hg]
  rw[show((fun y:DoneT=>y.o.text)∘g)=fun x:DoneT=>x.o.text from h1]
  congr 1
  refine List.filter_congr fun x hx=>?_
  have hx2:x∈l:=(List.mem_filter.1 hx).1
  simp only[Function.comp,hg,goneB_map hg]
  rw[goneB_same (m:=kindL l) (d:=(g x).d) (d':=x.d) fun r hr=>(hd x hx2 r (List.mem_filter.1 hr).1).symm]
 unfold valD
 rw[hk,hL,hlast,hsum,hlive]
def ownD (t:Int) (o:OpT):DoneT:=⟨o,⟨0,t,o.no⟩,t⟩
theorem done_own (t:Int) (ops:List OpT):allDone [⟨[t],0,ops⟩]=ops.map (ownD t):=by
 simp only[allDone,List.flatMap_cons,List.flatMap_nil,List.append_nil]
 refine List.map_congr_left fun o _=>?_
 simp[doneOf,dotOf,ownD,wsum]
theorem own_lt {s t:Int} {o p:OpT} (h:s<t):doneLt (ownD s o) (ownD t p)=true:=by
 rw[doneLt_iff]
 simp[ownD,doneKey,lexC,cmpI,h]
theorem own_no {t:Int} {o p:OpT} (h:o.no<p.no):doneLt (ownD t o) (ownD t p)=true:=by
 rw[doneLt_iff]
 simp[ownD,doneKey,lexC,cmpI,h]
structure Lone (L:List PutT) (t:Int):Prop where
 at':∀q∈L,∃s,q.when=[s]∧q.place=0∧s≤t
 dots:∀q∈L,∀d∈q.op.dots,d.time≤t
theorem Lone.all {L:List PutT} {t u:Int} (h:Lone L t) (hu:t≤u) (key:ByteArray):withinC L key [u]=keyC L key:=by
 rw[withinC,List.filter_eq_self]
 intro c hc
 obtain⟨q,hq,rfl⟩:=mem_keyC hc
 obtain⟨s,hs,_,hle⟩:=h.at' q hq
 simp only[oneC,hs,inL]
 simp
 omega
theorem Lone.done {L:List PutT} {t:Int} (h:Lone L t) {key:ByteArray} {x:DoneT} (hx:x∈allDone (keyC L key)):∃q∈L,∃s,s≤t∧x=ownD s q.op:=by
 obtain⟨c,hc,o,ho,rfl⟩:=mem_allDone.1 hx
 obtain⟨q,hq,rfl⟩:=mem_keyC hc
 obtain rfl:=List.mem_singleton.1 ho
 obtain⟨s,hs,hp,hle⟩:=h.at' q hq
 refine⟨q,hq,s,hle,?_⟩
 simp[doneOf,dotOf,oneC,ownD,hs,hp,wsum]
theorem own_pair {t:Int} {ops:List OpT} (hp:ops.Pairwise fun a b=>a.no<b.no):((ops.map (ownD t)).Pairwise fun a b=>doneLt a b=true)∧((ops.map (ownD t)).map (·.d)).Nodup:=by
 refine⟨List.pairwise_map.2 (hp.imp own_no),?_⟩
 rw[List.map_map]
 refine List.pairwise_map.2 (hp.imp fun{a b} h=>?_)
 simp only[Function.comp,ownD,ne_eq,DotT.mk.injEq,not_and]
 intro _ _
 omega
theorem Lone.ops {L:List PutT} {t u:Int} (h:Lone L t) (hu:t<u) {key:ByteArray} {m:List ComT} {os:List OpT} (hm:allDone m=os.map (ownD u)) (hp:os.Pairwise fun a b=>a.no<b.no):opsOf key (keyC L key++m)=opsOf key (keyC L key)++(os.filter fun o=>decide (o.key=key)).map (ownD u):=by
 obtain⟨h1,h2⟩:=own_pair (t:=u) hp
 rw[ops_app (by rw[hm];exact h2) (by rw[hm];exact h1) fun x hx y hy=>?_,hm,List.filter_map]
 ·rfl
 ·obtain⟨q,_,s,hle,rfl⟩:=h.done hx
  rw[hm]at hy
  obtain⟨o,_,rfl⟩:=List.mem_map.1 hy
  refine⟨own_lt (by omega),fun he=>?_⟩
  simp only[ownD,DotT.mk.injEq]at he
  omega
theorem keyC_puts {L:List PutT} {c:ComT} {key:ByteArray}:keyC (L++putsOf c c.ops) key=keyC L key++(c.ops.filter fun o=>decide (o.key=key)).map fun o=>oneC ⟨c.when,c.place,o⟩:=by
 rw[keyC,keyC,List.filter_append,List.map_append,putsOf,List.filter_map,List.map_map]
 rfl
theorem done_ones {t:Int} {ops:List OpT}:allDone (ops.map fun o=>oneC ⟨[t],0,o⟩)=ops.map (ownD t):=by
 rw[allDone,List.flatMap_map]
 induction ops with
 | nil=>rfl
 | cons o l ih=>
  rw[List.flatMap_cons,ih]
  simp[doneOf,dotOf,ownD,wsum,oneC]
theorem Lone.put {L:List PutT} {t:Int} (h:Lone L t) {ops:List OpT} (ho:∀o∈ops,∀d∈o.dots,d.time≤t):Lone (L++putsOf ⟨[t+1],0,ops⟩ ops) (t+1):=by
 constructor
 ·intro q hq
  rcases List.mem_append.1 hq with hq|hq
  ·obtain⟨s,h1,h2,h3⟩:=h.at' q hq
   exact⟨s,h1,h2,by omega⟩
  ·obtain⟨o,_,rfl⟩:=List.mem_map.1 hq
   exact⟨_,rfl,rfl,by omega⟩
 ·intro q hq d hd
  rcases List.mem_append.1 hq with hq|hq
  ·have:=h.dots q hq d hd
   omega
  ·obtain⟨o,hm,rfl⟩:=List.mem_map.1 hq
   have:=ho o hm d hd
   omega
theorem keeps_val {L:List PutT} {t u:Int} (h:Lone L t) (hu:t+1<u) {key:ByteArray} {ops:List OpT} (ho:∀o∈ops,∀d∈o.dots,d.time≤t) (hp:ops.Pairwise fun a b=>a.no<b.no) :
  Sx.valOf key (withinC (L++putsOf ⟨[t+1],0,ops⟩ ops) key [t+1])=Sx.valOf key (withinC L key [t]++[⟨[u],0,ops⟩]):=by
 have h1:=keyC_puts (L:=L) (c:=⟨[t+1],0,ops⟩) (key:=key)
 have hpf:(ops.filter fun o=>decide (o.key=key)).Pairwise fun a b=>a.no<b.no:=hp.sublist List.filter_sublist
 rw[(h.put ho).all (Int.le_refl _),h.all (Int.le_refl _),h1,valOf_D,valOf_D,h.ops (by omega) done_ones hpf,h.ops (by omega) (done_own u ops) hp]
 rw[List.filter_filter]
 simp only[Bool.and_self]
 have hA:∀x∈opsOf key (keyC L key),∃q∈L,∃s,s≤t∧x=ownD s q.op:=fun x hx=>h.done (firsts_sub (opsOf_mem.1 hx).1).1
 let g:DoneT→DoneT:=fun x=>if x.d.time=u then ownD (t+1) x.o else x
 have hg:∀x,(g x).o=x.o:=fun x=>by
  show(if x.d.time=u then ownD (t+1) x.o else x).o=x.o
  split <;> rfl
 have e1:(opsOf key (keyC L key)).map g=opsOf key (keyC L key):=by
  refine(List.map_congr_left fun x hx=>?_).trans (List.map_id _)
  obtain⟨q,_,s,hle,rfl⟩:=hA x hx
  exact if_neg (by simp only[ownD];omega)
 have e2:((ops.filter fun o=>decide (o.key=key)).map (ownD u)).map g=(ops.filter fun o=>decide (o.key=key)).map (ownD (t+1)):=by
  rw[List.map_map]
  refine List.map_congr_left fun o _=>?_
  exact if_pos rfl
 rw[←e1,←e2,←List.map_append]
 rw[e1]
 refine valD_map hg fun x hx r hr=>?_
 have hold:∀d∈r.o.dots,d.time≤t:=by
  rcases List.mem_append.1 hr with hr|hr
  ·obtain⟨q,hq,s,_,rfl⟩:=hA r hr
   exact h.dots q hq
  ·obtain⟨o,hm,rfl⟩:=List.mem_map.1 hr
   exact ho o (List.mem_filter.1 hm).1
 by_cases hx2:x.d.time=u
 ·have e3:(g x).d.time=t+1:=by
   show(if x.d.time=u then ownD (t+1) x.o else x).d.time=t+1
   rw[if_pos hx2]
   rfl
  exact⟨fun hm=>absurd (hold _ hm) (by omega),fun hm=>absurd (hold _ hm) (by omega)⟩
 ·have e3:g x=x:=if_neg hx2
  rw[e3]
end Go.Proofs.YtmkapocibaojdaaGreatDoor
end
section
namespace Go.Sx
open Go
def cpOf (n:Nat) (ops:Array Oper) (E:Env) (i:Nat):Option (Value×Value×TypeId×Option Tmp):=
 match ops[i]? with
 | none=>none
 | some o=>if dstOk n o.dst then match o.guard with
  | some _=>none
  | none=>match o.op with
   | .call c=>match c.callee with
    | .builtin .copy=>match opsOk E none c.args.toList with
     | some []=>match c.args.toList,c.argTypes.toList with
      | [x,y],[t,u]=>if Nat.beq t u=true then some (rho E x,rho E y,t,o.dst)else none
      | _,_=>none
     | _=>none
    | _=>none
   | _=>none
  else none
section rows
variable {P:Program} {f:Func} [Pan f] {R:Act→World→Prop} {n:Nat} [Dfr n] {k:List Itm} {E:Env} {h r:List (Nat×Obj)} {F:List (List Nat×World)} {Y:Ghost}
theorem cpOf_sound {ops:Array Oper} {i:Nat} {dv sv:Value} {t:TypeId} {dst:Option Tmp} (he:cpOf n ops E i=some (dv,sv,t,dst))
  {a:Act} {w:World} {fps:List (List Nat)} (s:StF n E h r F Y a w fps) {K:Act→World→Prop}
  (H:∀ty,∃v' w',(Builtin.copy_ #[t,t] ty #[dv,sv]).run P w=.ok v' w'∧∀a',Ag n (E.put dst (.val v')) a'→K a' w'):wpOp P ops (wpK P f R k) i K a w:=by
 unfold cpOf at he
 split at he
 ·cases he
 rename_i o ho
 split at he
 case isFalse=>cases he
 rename_i hd
 split at he
 ·cases he
 rename_i hg
 split at he
 case h_2=>cases he
 rename_i c hc
 split at he
 case h_2=>cases he
 rename_i hcal
 split at he
 case h_2=>cases he
 rename_i hq
 split at he
 case h_2=>cases he
 rename_i x y t' u hargs htys
 split at he
 case isFalse=>cases he
 rename_i htu
 simp only[Option.some.injEq,Prod.mk.injEq]at he
 obtain⟨rfl,rfl,rfl,rfl⟩:=he
 obtain rfl:=Nat.eq_of_beq_eq_true htu
 have hev:=opsOk_sound s.ag (fun c w h=>by cases h) _ _ hq trivial
 have e1:a.eval x=rho E x:=hev x (by rw[hargs];simp)
 have e2:a.eval y=rho E y:=hev y (by rw[hargs];simp)
 have hca:c.args = #[x,y]:=by rw[←Array.toArray_toList (xs:=c.args),hargs]
 have hct:c.argTypes = #[t',t']:=by rw[←Array.toArray_toList (xs:=c.argTypes),htys]
 obtain⟨v',w',hrun,hk⟩:=H o.type
 unfold wpOp
 simp only[ho]
 rw[if_pos (by simp[Region.wanted,hg])]
 refine .inl ?_
 unfold Oper.wp execOp
 simp only[hc,resolve,hcal,hca,hct,invoke,builtin,Sem.run_bind,Sem.run_pure,Result.andThen_ok,List.map_toArray,List.map_cons,List.map_nil,e1,e2,hrun]
 exact hk _ (s.ag.put hd (.val v'))
theorem src_ints {w:World} {S:Nat→Prop} {ad:Addr} {us:List Value} {xs:List Int} (hc:∀(j:Nat) u,us[j]?=some u→w.cell? (ad.add j)=some u) (hr:RowsAt w S us 1 (xs.map eI)):∀(j:Nat) u,(xs.map (Value.int .i64))[j]?=some u→w.cell? (ad.add j)=some u:=fun j u hu=>by
 rw[List.getElem?_map]at hu
 obtain⟨x,hx,rfl⟩:=Option.map_eq_some_iff.1 hu
 obtain⟨v,h1,h2⟩:=hr.rep j 0 (eI x) (dI x) (by rw[List.getElem?_map,hx];rfl) rfl
 rw[Nat.mul_one,Nat.add_zero]at h1
 cases h2
 exact hc j _ h1
theorem JR_copyf {id L0 i:Nat} {ck:Bool} {Wp:List (Nat×List Nat)} {rest:List (Nat×Bool)} (p q g o dn dc sn sc t e k0:Nat) {ax:Option Addr} {xs:List Int} (cur':Array Value) {cur:Array Value} {dst:Option Tmp}
  (he:cpOf n (rgOf f id) E i=some (.slice (some ⟨g,o,none⟩) dn dc,.slice ax sn sc,t,dst)) (hok:(!ck||okW L0 (Wp.lookup i) [p])=true) (ht:P.underlying t=some (.slice e)) (hi:(P.info? e).map (·.size)=some 1)
  (hp:h[p]?=some (g,.cells cur e (0,0))) (hq:Y.G[q]?=some (.slice ax sn sc,dInts xs)) (hk:Nat.min sn dn=k0) (hk1:0<k0) (hl:o+k0≤cur.size) (hcur:seg cur o ((xs.take k0).map (Value.int .i64))=cur')
  (A:JR P f R n (rgOf f id) L0 ck rest (Wp.filter (·.1 != i)) k (E.put dst (.val (.int .i64 (k0:Nat)))) (h.set p (g,.cells cur' e (0,0))) r F Y) :
  JR P f R n (rgOf f id) L0 ck ((i,false)::rest) Wp k E h r F Y:=by
 subst hcur
 intro BB Hd fps a w s hH hR hN hW
 simp only[PW]
 have hb:w.heap[g]?=some (.cells cur e (0,0)):=s.own.own _ (List.mem_of_getElem? hp)
 have hS:=src_fact s q hq (by decide)
 obtain⟨hm,⟨rfl,hm0⟩|⟨ad,us,rfl,hul,hcell,hrow⟩⟩:=hS
 ·rw[hm0]at hk
  have:=Nat.min_le_left 0 dn
  have h2:Nat.min 0 dn=0:=Nat.le_zero.1 this
  omega
 ·have hxl:xs.length=sn:=by simpa using hm
  have hksn:k0≤sn:=by rw[←hk];exact Nat.min_le_left _ _
  generalize hcs:(xs.take k0).map (Value.int .i64)=cs at A
  have hcl:cs.length=k0:=by rw[←hcs,List.length_map,List.length_take];omega
  have hsrc:∀j v,cs[j]?=some v→w.cell? (ad.add j)=some v:=fun j v hv=>by
   refine src_ints hcell hrow j v ?_
   rw[←hcs,List.getElem?_map,List.getElem?_take]at hv
   rw[List.getElem?_map]
   split at hv
   ·exact hv
   ·cases hv
  have h1:∀u∈cs,u.oneCell'=true:=fun u hu=>by
   rw[←hcs]at hu
   obtain⟨x,_,rfl⟩:=List.mem_map.1 hu
   rfl
  have hload:=run_loadCells_list (P:=P) w ad cs hsrc
  have hrun:=run_storeCells_at (P:=P) g o e cs 0 cur w hb (by omega) h1
  rw[setRow_eq hb,Nat.add_zero]at hrun
  refine cpOf_sound he s fun ty=>⟨.int .i64 (k0:Nat),{ w with heap:=w.heap.setIfInBounds g (.cells (seg cur o cs) e (0,0)) },?_,fun a' hA=>JR_setmap hok hp s hH hR hN hW hA A⟩
  cases hinf:P.info? e with
  | none=>simp[hinf]at hi
  | some inf=>
   have hisz:inf.size=1:=by simpa [hinf]using hi
   have hn:cs.length=Nat.min sn dn:=by rw[hcl,hk]
   rw[hcl]at hload
   simp[Builtin.copy_,run_underlying ht,Builtin.lenOf,Builtin.firstCells,sizeOf,typeInfo,hinf,hisz,←hn,hload,hrun,hcl]
   refine⟨rfl,?_⟩
   simp[seg,hcl]
end rows
end Go.Sx
end
section
namespace Go.Proofs.YtmkapocibaojdaaGreatDoor
open Go Go.Sx
set_option maxHeartbeats 4000000 in
theorem mul64 {w:World} {S:Nat→Prop}:Calls Tryz.prog 194 #[.int .u64 1,.int .u64 1] w fun e w'=>Ret [] w S w' e (.tuple #[.int .u64 0,.int .u64 1]) [] []:=by
 refine epG Tryz.func194 bd194 (args:=[.int .u64 1,.int .u64 1]) (S:=S) (G:=[]) (by kernel_rfl) (AllG.nil w S) ?_
 refine Zs [zR 0,zR 1] [] [zV 4 (.int .u64 0),zV 5 (.int .u64 0)] ?_
 refine Zs (Rds 0 3) [] [zV 6 (.int .u64 1)] ?_
 refine Zs (Rds 0 3) [] [zV 7 (.int .u64 0)] ?_
 refine Zs (Rds 0 3) [] [zV 8 (.int .u64 1)] ?_
 refine Zs (Rds 0 3) [] [zV 9 (.int .u64 0)] ?_
 refine Zs (Rds 0 4) [] [zV 10 (.int .u64 1)] ?_
 refine Zs (Rds 0 7) [10,8] [zV 11 (.int .u64 0)] ?_
 refine Zs (Rds 0 3) [] [zV 12 (.int .u64 0)] ?_
 refine Zs (Rds 0 3) [11] [zV 13 (.int .u64 0)] ?_
 refine Zs (Rds 0 6) [6] [] ?_
 refine Zs (Rds 0 9) [13,12,9,7] [] ?_
 refine Zs (Rds 0 4) [0,1] [zV 5 (.int .u64 1)] ?_
 refine Yr [[],[]] (.tuple #[.int .u64 0,.int .u64 1]) fun a w s=>?_
 exact s.ret (by simp) [] [] rfl rfl
set_option maxHeartbeats 4000000 in
theorem mulB {w:World} {S:Nat→Prop}:Calls Tryz.prog 158 #[.int .u64 1,.int .u64 1] w fun e w'=>Ret [] w S w' e (.tuple #[.int .u64 0,.int .u64 1]) [] []:=by
 refine epG Tryz.func158 bd158 (args:=[.int .u64 1,.int .u64 1]) (S:=S) (G:=[]) (by kernel_rfl) (AllG.nil w S) ?_
 refine Zs [zR 0,zR 1] [] [zV 4 (.int .u64 0),zV 5 (.int .u64 0)] ?_
 refine J_seq ?_
 refine cF ?_
 refine J_skip ?_
 refine jS [(0,true),(1,true),(2,false),(3,true),(4,true),(5,true),(6,true),(7,true)] [] ?_
 refine Ya [zR 0,zR 1] [0,1] [zV 23 (.int .u64 1),zV 24 (.int .u64 1)] ?_
 refine Yc 194 #[.int .u64 1,.int .u64 1] (some 25) fun w S hG=>?_
 refine(mul64 (S:=S)).mono ?_
 rintro e1 w1 hR
 refine⟨_,_,_,hR,?_⟩
 try simp only[aQ]
 refine Ya (Rds 3 8) [25,23,24] [zV 8 (.int .u64 0),zV 9 (.int .u64 1)] ?_
 refine JR_end ?_
 refine Zs (Rds 0 4) [8,9] [zV 5 (.int .u64 1)] ?_
 refine Yr [[],[]] (.tuple #[.int .u64 0,.int .u64 1]) fun a w s=>?_
 exact s.ret (by simp) [] [] rfl rfl
set_option maxHeartbeats 4000000 in
theorem repeat1 {w:World} {S:Nat→Prop} {a:Option Addr} {c:Nat} {z:Int} (h:Rep w S (.slice a 1 c) (dInts [z])) :
  Calls Tryz.prog 104 #[.slice a 1 c,.int .i64 1] w fun e w'=>∃ua un uc,Ret [] w S w' e (.slice ua un uc) [] [(.slice ua un uc,dInts [z])]:=by
 refine epG Tryz.func104 bd104 (args:=[.slice a 1 c,.int .i64 1]) (S:=S) (G:=[(_,dInts [z])]) (by kernel_rfl) (.cons h (.nil _ _)) ?_
 refine Zs [zR 0] [] [zS 4 none 0 0] ?_
 refine J_seq ?_
 refine Zs [zR 0,zR 1] [] [zB 10 false] ?_
 refine cF ?_
 refine J_skip ?_
 refine jS [(0,true),(1,true),(2,true),(3,true),(4,true),(5,false),(6,true),(7,true),(8,true),(9,true),(10,true)] [] ?_
 refine Ya (Rds 0 5) [10,1] [zV 15 (.int .u64 1),zV 17 (.int .u64 1)] ?_
 refine Yc 158 #[.int .u64 1,.int .u64 1] (some 18) fun w S hG=>?_
 refine(mulB (S:=S)).mono ?_
 rintro e1 w1 hR
 refine⟨_,_,_,hR,?_⟩
 try simp only[aQ]
 refine Ya (Rds 6 11) [18,15,17] [zV 5 (.int .u64 0),zV 6 (.int .u64 1)] ?_
 refine JR_end (J_seq ?_)
 refine Zs (Rds 0 6) [5] [zB 26 false] ?_
 refine cF ?_
 refine J_skip ?_
 refine Zv [zR 0,zR 1,.wr 2 [] 0,zR 3] [] [26,6] (fun nu1=>[zS 7 (sA (nu1 0) 0) 1 1]) o0 (fun nu1=>[(nu1 0,.cells #[nI 0] 3 (0,0))]) (fun nu1=>?_)
 refine jS [(0,true),(1,true),(2,false),(3,true)] [] ?_
 refine Ya [zR 0,zR 1] [0] [zS 31 (sA (nu1 0) 0) 1 1,zS 32 a 1 c] ?_
 refine JR_copyf 0 0 (nu1 0) 0 1 1 1 c 32 3 _ #[.int .i64 z] (dst:=(some 33)) (by kernel_rfl) (by kernel_rfl) (by kernel_rfl) (by kernel_rfl) rfl rfl rfl (by decide) (by decide) rfl ?_
 refine Ya [zR 3] [33,31,32] [zI 8 1] ?_
 refine JR_end (J_seq (J_block ?_))
 refine J_loop1 fun I=>?_
 refine J_seq ?_
 refine Zs (Rds 0 4) [] [zB 37 false] ?_
 refine cF ?_
 refine J_exit rfl ?_
 refine J_seq ?_
 refine J_data (size:=1) 0 eI [z] 1 rfl (by decide) (by intro x _;rfl) (by simp) ⟨.inl ⟨rfl,rfl⟩,trivial⟩ ?_
 try simp only[aQ]
 refine Za [zR 0,zR 1] [37,8,7] [zS 4 (sA (nu1 0) 0) 1 1] ?_
 refine Yr [[]] (.slice (sA (nu1 0) 0) 1 1) fun a w s=>?_
 exact⟨_,_,_,s.ret (by simp) [] [1] rfl rfl⟩
end Go.Proofs.YtmkapocibaojdaaGreatDoor
end
section
namespace Go.Sx
open Go
structure SesX where
 ta:Option Addr
 tn:Nat
 tc:Nat
 tb:Nat
 aa:Option Addr
 an:Nat
 ac:Nat
 oa:Option Addr
 on:Nat
 oc:Nat
end Go.Sx
namespace Go.Proofs.YtmkapocibaojdaaGreatDoor
open Go Go.Sx
abbrev sesO (tb:Option Addr) (t:Value):Obj:=.cells #[.pointer tb,t] 181 (0,0)
abbrev turnO (pb:Nat) (a o:Value):Obj:=.cells #[.pointer (some ⟨pb,0,none⟩),a,o] 184 (0,0)
def cSes0 (b:Nat) (tok:List Int):Chunk:=cBox (fun _:SesX=>True) (fun y=>[(.slice y.ta y.tn y.tc,dInts tok)]) fun y=>[cObj b (sesO none (.slice y.ta y.tn y.tc))]
def cSes1 (b:Nat) (tok:List Int) (pb:Nat) (at':List Int) (ops:List OpT):Chunk:=cBox (fun _:SesX=>True) (fun y=>[(.slice y.ta y.tn y.tc,dInts tok),(.slice y.aa y.an y.ac,dInts at')]) fun y=>
 [cObj b (sesO (some ⟨y.tb,0,none⟩) (.slice y.ta y.tn y.tc)),cObj y.tb (turnO pb (.slice y.aa y.an y.ac) (.slice y.oa y.on y.oc)),cAcc (.slice y.oa y.on y.oc) 55 7 (ops.map eOp)]
def cSes2 (b:Nat) (tok:List Int) (pb:Nat) (at':List Int) (ops:List OpT):Chunk:=cBox (fun _:SesX=>True) (fun y=>[(.slice y.ta y.tn y.tc,dInts tok),(.slice y.aa y.an y.ac,dInts at'),(.slice y.oa y.on y.oc,.sl 7 (ops.map eOp))]) fun y=>
 [cObj b (sesO (some ⟨y.tb,0,none⟩) (.slice y.ta y.tn y.tc)),cObj y.tb (turnO pb (.slice y.aa y.an y.ac) (.slice y.oa y.on y.oc))]
set_option maxHeartbeats 4000000 in
theorem sesFin {nn:Nat} {E:Env} {S:Nat→Prop} {w0:World} {a:Act} {w:World} {g:Value×D} {c0 c1:Nat} (n:Nat) {cs:Array Value} {v:Value} (s:St nn E [(c0,.cells cs 3 (0,0)),(c1,sesO none (.slice (some ⟨c0,0,none⟩) n n))] [] [([],w0)] ⟨newS S [] w0,[],[g]⟩ a w) (hR:RowG [g] cs.toList ((List.replicate n (0:Int)).map eI).flatten) :
  Ret [] w0 S w (.returned v) v [cSes0 c1 (List.replicate n 0)] []:=by
 obtain⟨fps,s⟩:=s
 have s1:=s.data (cap:=n) (rows:=(List.replicate n (0:Int)).map eI) (size:=1) 0 rfl (by decide) (by intro row h;obtain⟨x,_,rfl⟩:=List.mem_map.1 h;rfl) (by simp) hR
 rw[show((List.replicate n (0:Int)).map eI).length=n by simp]at s1
 have s2:=St.hide ⟨_,s1⟩ 0 rfl
 have s3:=s2.stp (stp_closebox (C:=fun y:SesX=>[cObj c1 (sesO none (.slice y.ta y.tn y.tc))]) (G:=fun y:SesX=>[(.slice y.ta y.tn y.tc,dInts (List.replicate n 0))]) (p:=fun _=>True) [0] ⟨some ⟨c0,0,none⟩,n,n,0,none,0,0,none,0,0⟩ rfl (by simp) trivial)
 exact s3.ret (by simp) [0] [] rfl rfl
set_option maxHeartbeats 4000000 in
theorem sesNew {w:World} {S:Nat→Prop} {er:Nat→Addr} {eb:Nat→Array Value×TypeId} {p:Int} (hC:Rep w S .nilIface (dC er eb)) (h1:1≤p) (h6:p≤6) :
  Calls Tryz.prog 32 #[.int .i64 p] w fun e w'=>∃b,Ret [] w S w' e (.tuple #[.pointer (some ⟨b,0,none⟩),.nilIface]) [cSes0 b (List.replicate p.toNat 0)] []:=by
 refine epG Tryz.func32 bd32 (args:=[.int .i64 p]) (S:=S) (G:=[(_,dC er eb)]) (by kernel_rfl) (.cons hC (.nil _ _)) ?_
 have h2:¬p<1:=by omega
 have h3:¬6<p:=by omega
 obtain⟨n,rfl⟩:∃n:Nat,p=n:=⟨p.toNat,by omega⟩
 refine Zs [zR 0,zR 1] [] [zV 2 (.pointer none),zV 3 .nilIface] ?_
 refine J_seq ?_
 refine Zt [zR 0,.rd 1 [] 0 7,zR 2,zR 3,.rd 4 [] 0 7,zR 5] [] [zB 9 false] (oC (show decide ((↑n:Int)<(1:Int))=false from by simp;omega) (oC (show decide ((↑n:Int)>(6:Int))=false from by simp;omega) oN)) ?_
 refine cF ?_
 refine J_skip (J_seq ?_)
 rcases(by omega:n=1∨n=2∨n=3∨n=4∨n=5∨n=6)with rfl|rfl|rfl|rfl|rfl|rfl
 ·refine Zm [.rd 0 [] 0 0,.wr 1 [] 0,.rd 2 [] 0 0,.wr 3 [] 0,.rd 4 [] 0 0,.rd 5 [] 0 0] [] [9,0] (fun nu1=>[(2,.val (.pointer (some (⟨nu1 1,0,none⟩))))]) o0 (fun nu1=>[(nu1 0,.cells #[.int .i64 0] 3 (0,0)),(nu1 1,.cells #[.pointer none,.slice (some (⟨nu1 0,0,none⟩)) 1 1] 181 (0,0))]) (fun nu1=>?_)
  refine Yr [[],[]] (.tuple #[.pointer (sA (nu1 1) 0),.nilIface]) fun a w s=>?_
  exact⟨_,sesFin 1 s (rowG_zero 1)⟩
 ·refine Zm [.rd 0 [] 0 0,.wr 1 [] 0,.rd 2 [] 0 0,.wr 3 [] 0,.rd 4 [] 0 0,.rd 5 [] 0 0] [] [9,0] (fun nu1=>[(2,.val (.pointer (some (⟨nu1 1,0,none⟩))))]) o0 (fun nu1=>[(nu1 0,.cells #[.int .i64 0,.int .i64 0] 3 (0,0)),(nu1 1,.cells #[.pointer none,.slice (some (⟨nu1 0,0,none⟩)) 2 2] 181 (0,0))]) (fun nu1=>?_)
  refine Yr [[],[]] (.tuple #[.pointer (sA (nu1 1) 0),.nilIface]) fun a w s=>?_
  exact⟨_,sesFin 2 s (rowG_zero 2)⟩
 ·refine Zm [.rd 0 [] 0 0,.wr 1 [] 0,.rd 2 [] 0 0,.wr 3 [] 0,.rd 4 [] 0 0,.rd 5 [] 0 0] [] [9,0] (fun nu1=>[(2,.val (.pointer (some (⟨nu1 1,0,none⟩))))]) o0 (fun nu1=>[(nu1 0,.cells #[.int .i64 0,.int .i64 0,.int .i64 0] 3 (0,0)),(nu1 1,.cells #[.pointer none,.slice (some (⟨nu1 0,0,none⟩)) 3 3] 181 (0,0))]) (fun nu1=>?_)
  refine Yr [[],[]] (.tuple #[.pointer (sA (nu1 1) 0),.nilIface]) fun a w s=>?_
  exact⟨_,sesFin 3 s (rowG_zero 3)⟩
 ·refine Zm [.rd 0 [] 0 0,.wr 1 [] 0,.rd 2 [] 0 0,.wr 3 [] 0,.rd 4 [] 0 0,.rd 5 [] 0 0] [] [9,0] (fun nu1=>[(2,.val (.pointer (some (⟨nu1 1,0,none⟩))))]) o0 (fun nu1=>[(nu1 0,.cells #[.int .i64 0,.int .i64 0,.int .i64 0,.int .i64 0] 3 (0,0)),(nu1 1,.cells #[.pointer none,.slice (some (⟨nu1 0,0,none⟩)) 4 4] 181 (0,0))]) (fun nu1=>?_)
  refine Yr [[],[]] (.tuple #[.pointer (sA (nu1 1) 0),.nilIface]) fun a w s=>?_
  exact⟨_,sesFin 4 s (rowG_zero 4)⟩
 ·refine Zm [.rd 0 [] 0 0,.wr 1 [] 0,.rd 2 [] 0 0,.wr 3 [] 0,.rd 4 [] 0 0,.rd 5 [] 0 0] [] [9,0] (fun nu1=>[(2,.val (.pointer (some (⟨nu1 1,0,none⟩))))]) o0 (fun nu1=>[(nu1 0,.cells #[.int .i64 0,.int .i64 0,.int .i64 0,.int .i64 0,.int .i64 0] 3 (0,0)),(nu1 1,.cells #[.pointer none,.slice (some (⟨nu1 0,0,none⟩)) 5 5] 181 (0,0))]) (fun nu1=>?_)
  refine Yr [[],[]] (.tuple #[.pointer (sA (nu1 1) 0),.nilIface]) fun a w s=>?_
  exact⟨_,sesFin 5 s (rowG_zero 5)⟩
 ·refine Zm [.rd 0 [] 0 0,.wr 1 [] 0,.rd 2 [] 0 0,.wr 3 [] 0,.rd 4 [] 0 0,.rd 5 [] 0 0] [] [9,0] (fun nu1=>[(2,.val (.pointer (some (⟨nu1 1,0,none⟩))))]) o0 (fun nu1=>[(nu1 0,.cells #[.int .i64 0,.int .i64 0,.int .i64 0,.int .i64 0,.int .i64 0,.int .i64 0] 3 (0,0)),(nu1 1,.cells #[.pointer none,.slice (some (⟨nu1 0,0,none⟩)) 6 6] 181 (0,0))]) (fun nu1=>?_)
  refine Yr [[],[]] (.tuple #[.pointer (sA (nu1 1) 0),.nilIface]) fun a w s=>?_
  exact⟨_,sesFin 6 s (rowG_zero 6)⟩
end Go.Proofs.YtmkapocibaojdaaGreatDoor
end
section
namespace Go.Proofs.YtmkapocibaojdaaGreatDoor
open Go Go.Sx
section ses
variable {w:World} {S:Nat→Prop} {M:List Nat} {er:Nat→Addr} {eb:Nat→Array Value×TypeId} {x:PlT} {b pb sb n:Nat} {tok at':List Int} {ops:List OpT}
theorem placePlaces (hP:Pre w S M [cPlace b x]) :
  Calls Tryz.prog 99 #[.pointer (some ⟨b,0,none⟩)] w fun e w'=>Ret M w S w' e (.int .i64 x.places) [cPlace b x] []:=by
 refine enG Tryz.func99 bd99 (args:=[.pointer (some ⟨b,0,none⟩)]) (S:=S) (C:=[cPlace b x]) (G:=[]) (by kernel_rfl) hP (AllG.nil w S) ?_
 refine J_stpx (stp_openbox 0 rfl) fun y hy=>?_
 obtain⟨vb,oa,oc,ia,ic,om,im⟩:=y
 refine Nm [cObj b (.cells #[.pointer (sA vb 0),nI (↑x.id:Int),nI (↑x.places:Int),nI (↑x.shards:Int),nI x.clock,.slice (PlBx.mk vb oa oc ia ic om im).oa x.places oc,.slice (PlBx.mk vb oa oc ia ic om im).ia x.places ic] 124 (0,0)),(cVer (PlBx.mk vb oa oc ia ic om im).vb x.places x.base x.L),(cSnds (PlBx.mk vb oa oc ia ic om im).om.flatten x.ss),(cRcvs (PlBx.mk vb oa oc ia ic om im).im.flatten x.rs)] ?_
 refine J_show 0 rfl ?_
 try simp only[aQ]
 refine Zs [zR 0] [] [zI 2 0] ?_
 refine Zs (Rds 0 3++[.rd 3 [.o 0 none] 0 0,zR 4]) [0] [zI 2 (↑x.places:Int)] ?_
 refine Yr [[]] (nI (↑x.places:Int)) fun a w s=>?_
 have s2:=(s.hide 0 rfl).stp (stp_closePl (x:=x) ⟨vb,oa,oc,ia,ic,om,im⟩ [3,0,1,2] 0 1 rfl rfl rfl hy)
 exact s2.ret (by simp) [0] [] rfl rfl
theorem placeID (hP:Pre w S M [cPlace b x]) :
  Calls Tryz.prog 106 #[.pointer (some ⟨b,0,none⟩)] w fun e w'=>Ret M w S w' e (.int .i64 x.id) [cPlace b x] []:=by
 refine enG Tryz.func106 bd106 (args:=[.pointer (some ⟨b,0,none⟩)]) (S:=S) (C:=[cPlace b x]) (G:=[]) (by kernel_rfl) hP (AllG.nil w S) ?_
 refine J_stpx (stp_openbox 0 rfl) fun y hy=>?_
 obtain⟨vb,oa,oc,ia,ic,om,im⟩:=y
 refine Nm [cObj b (.cells #[.pointer (sA vb 0),nI (↑x.id:Int),nI (↑x.places:Int),nI (↑x.shards:Int),nI x.clock,.slice (PlBx.mk vb oa oc ia ic om im).oa x.places oc,.slice (PlBx.mk vb oa oc ia ic om im).ia x.places ic] 124 (0,0)),(cVer (PlBx.mk vb oa oc ia ic om im).vb x.places x.base x.L),(cSnds (PlBx.mk vb oa oc ia ic om im).om.flatten x.ss),(cRcvs (PlBx.mk vb oa oc ia ic om im).im.flatten x.rs)] ?_
 refine J_show 0 rfl ?_
 try simp only[aQ]
 refine Zs [zR 0] [] [zI 2 0] ?_
 refine Zs (Rds 0 3++[.rd 3 [.o 0 none] 0 0,zR 4]) [0] [zI 2 (↑x.id:Int)] ?_
 refine Yr [[]] (nI (↑x.id:Int)) fun a w s=>?_
 have s2:=(s.hide 0 rfl).stp (stp_closePl (x:=x) ⟨vb,oa,oc,ia,ic,om,im⟩ [3,0,1,2] 0 1 rfl rfl rfl hy)
 exact s2.ret (by simp) [0] [] rfl rfl
theorem sesAbort (hP:Pre w S M [cSes2 b tok pb at' ops]) :
  Calls Tryz.prog 40 #[.pointer (some ⟨b,0,none⟩)] w fun e w'=>Ret M w S w' e .nilIface [cSes0 b tok] []:=by
 refine enG Tryz.func40 bd40 (args:=[.pointer (some ⟨b,0,none⟩)]) (S:=S) (C:=[cSes2 b tok pb at' ops]) (G:=[]) (by kernel_rfl) hP (AllG.nil w S) ?_
 refine J_stpx (stp_openbox 0 rfl) fun y _=>?_
 refine Nm [cObj b (.cells #[.pointer (sA y.tb 0),.slice y.ta y.tn y.tc] 181 (0,0)),cObj y.tb (.cells #[.pointer (sA pb 0),.slice y.aa y.an y.ac,.slice y.oa y.on y.oc] 184 (0,0))] ?_
 refine J_show 0 rfl ?_
 try simp only[aQ]
 refine Zs [zR 0] [] [zV 2 .nilIface] ?_
 refine J_seq ?_
 refine Zs (Rds 0 3++[.rd 3 [.o 0 none] 0 0,zR 4]) [] [zB 7 false] ?_
 refine cF ?_
 refine J_skip ?_
 refine Zv (Rds 0 3++[.wr 3 [.o 0 none] 0]) [(3,[0])] [7,0] (fun _=>[]) (fun _=>[(0,.cells #[.pointer none,.slice y.ta y.tn y.tc] 181 (0,0))]) o0 (fun _=>?_)
 refine Zs [zR 0] [] [] ?_
 refine Yr [[]] (.nilIface) fun a w s=>?_
 have s2:=(s.hide 0 rfl).stp (stp_closebox (C:=fun y:SesX=>[cObj b (sesO none (.slice y.ta y.tn y.tc))]) (G:=fun y:SesX=>[(.slice y.ta y.tn y.tc,dInts tok)]) (p:=fun _=>True) [1] y rfl (by simp) trivial)
 exact s2.ret (by simp) [1] [] rfl rfl
theorem sesOpen (hP:Pre w S M [cSes2 b tok pb at' ops]) :
  Calls Tryz.prog 43 #[.pointer (some ⟨b,0,none⟩)] w fun e w'=>Ret M w S w' e (.bool true) [cSes2 b tok pb at' ops] []:=by
 refine enG Tryz.func43 bd43 (args:=[.pointer (some ⟨b,0,none⟩)]) (S:=S) (C:=[cSes2 b tok pb at' ops]) (G:=[]) (by kernel_rfl) hP (AllG.nil w S) ?_
 refine J_stpx (stp_openbox 0 rfl) fun y _=>?_
 refine Nm [cObj b (.cells #[.pointer (sA y.tb 0),.slice y.ta y.tn y.tc] 181 (0,0)),cObj y.tb (.cells #[.pointer (sA pb 0),.slice y.aa y.an y.ac,.slice y.oa y.on y.oc] 184 (0,0))] ?_
 refine J_show 0 rfl ?_
 try simp only[aQ]
 refine Zs [zR 0] [] [zB 2 false] ?_
 refine Zs (Rds 0 3++[.rd 3 [.o 0 none] 0 0,zR 4,zR 5]) [0] [zB 2 true] ?_
 refine Yr [[]] (.bool true) fun a w s=>?_
 have s2:=(s.hide 0 rfl).stp (stp_closebox (C:=fun y:SesX=>[cObj b (sesO (some ⟨y.tb,0,none⟩) (.slice y.ta y.tn y.tc)),cObj y.tb (turnO pb (.slice y.aa y.an y.ac) (.slice y.oa y.on y.oc))]) (G:=fun y:SesX=>[(.slice y.ta y.tn y.tc,dInts tok),(.slice y.aa y.an y.ac,dInts at'),(.slice y.oa y.on y.oc,.sl 7 (ops.map eOp))]) (p:=fun _=>True) [1,0] y rfl (by simp) trivial)
 exact s2.ret (by simp) [0] [] rfl rfl
set_option maxHeartbeats 4000000 in
theorem sesBegin (hC:Rep w S .nilIface (dC er eb)) (hP:Pre w S M [cPlace pb x,cSes0 sb tok]) (hx:PlOk x) (hv:vecErr tok=0) (hl:tok.length=x.places) :
  Calls Tryz.prog 33 #[.pointer (some ⟨sb,0,none⟩),.pointer (some ⟨pb,0,none⟩)] w fun e w'=>
   (inL tok (snapL x)=false∧Ret M w S w' e (.tuple #[.slice none 0 0,.iface 390 (.pointer (some (er 11)))]) [cPlace pb x,cSes0 sb tok] []) ∨
   (inL tok (snapL x)=true∧∃a' n' c',Ret M w S w' e (.tuple #[.slice a' n' c',.nilIface]) [cPlace pb x,cSes1 sb (snapL x) pb (snapL x) []] [(.slice a' n' c',dInts (snapL x))]):=by
 refine enG Tryz.func33 bd33 (args:=[.pointer (some ⟨sb,0,none⟩),.pointer (some ⟨pb,0,none⟩)]) (S:=S) (C:=[cPlace pb x,cSes0 sb tok]) (G:=[(_,dC er eb)]) (by kernel_rfl) hP (.cons hC (.nil _ _)) ?_
 refine J_stpx (stp_openbox 1 rfl) fun y _=>?_
 obtain⟨ta,tn,tc,_,_,_,_,_,_,_⟩:=y
 dsimp only
 refine Nm [(cPlace pb x),cObj sb (.cells #[.pointer none,.slice ta tn tc] 181 (0,0))] ?_
 refine J_show 1 rfl ?_
 try simp only[aQ]
 refine Zs [zR 0,zR 1] [] [zS 4 none 0 0,zV 5 .nilIface] ?_
 refine J_seq (J_block ?_)
 refine Zs (Rds 0 3++[.rd 3 [.o 0 none] 0 0,zR 4,zR 5]) [] [zB 9 false] ?_
 refine cF ?_
 refine jS [(0,true),(2,true),(3,true),(4,true),(5,true),(6,true),(1,false),(7,true),(8,true)] [(1,[])] ?_
 refine Ya ([zR 0]++Rds 2 5++[.rd 5 [.o 0 none] 0 0,zR 6]) [9] [zP 17 pb,zI 23 (↑tn:Int)] ?_
 refine JR_call [] [0] 99 #[.pointer (some (⟨pb,0,none⟩))] (some 18) (by kernel_rfl) (by kernel_rfl) (by decide) (fun w S M hP hG _=>?_)
 refine(placePlaces hP).mono ?_
 rintro e1 w1 hR
 refine⟨_,_,_,hR,?_⟩
 have htn:=rep_ints_len (hG.at 1 rfl)
 subst htn
 have hne:¬(x.places:Int)≠tok.length:=by omega
 have hsl:(snapL x).length=x.places:=by simp[snapL]
 have htw:twoErr tok (snapL x)=0:=by rw[twoErr,if_neg (by simp[hv]),if_neg (by simp[snapL_ok hx]),if_neg (by omega)]
 have h6:=hx.p6
 try simp only[aQ]
 refine Yp [.rd 7 [] 0 7,zR 8] [18,17,23] [zB 16 false] (oC (show((↑x.places:Int) != (↑tok.length:Int))=false from by simp;omega) oN) ?_
 try simp only[aQ]
 refine JR_end ?_
 try simp only[aQ]
 refine cF ?_
 try simp only[aQ]
 refine J_skip ?_
 try simp only[aQ]
 refine J_eb ?_
 try simp only[aQ]
 refine J_seq ?_
 try simp only[aQ]
 refine jT [(0,true),(1,false),(2,true)] [] ?_
 refine Ya [zR 0] [16] [zP 26 pb] ?_
 refine JR_call [] [0] 19 #[.pointer (some (⟨pb,0,none⟩))] (some 27) (by kernel_rfl) (by kernel_rfl) (by decide) (fun w S M hP hG _=>?_)
 refine(placeSnapshot hP hx).mono ?_
 rintro e2 w2 ⟨a2,n2,c2,hR⟩
 refine⟨_,_,_,hR,?_⟩
 try simp only[aQ]
 refine Ya [zR 2] [27,26] [zS 6 a2 n2 c2] ?_
 try simp only[aQ]
 refine JR_end ?_
 try simp only[aQ]
 refine J_seq ?_
 try simp only[aQ]
 refine J_seq ?_
 try simp only[aQ]
 refine jT [(0,true),(1,true),(2,true),(3,true),(4,true),(5,false),(6,true),(7,true),(8,true),(9,true),(10,true)] [] ?_
 refine Ya (Rds 0 3++[.rd 3 [.o 0 none] 0 0,zR 4]) [] [zS 32 ta tok.length tc,zS 33 a2 n2 c2] ?_
 refine Yc 100 #[.slice ta tok.length tc,.slice a2 n2 c2] (some 34) fun w S hG=>?_
 refine(vwithin (globs_of (hG.at 0 rfl)) (hG.at 1 rfl) (hG.at 2 rfl) (by omega) (by omega)).mono ?_
 rintro e3 w3 (⟨h0,_⟩|⟨_,hR⟩)
 ·exact absurd htw h0
 refine⟨_,_,_,hR,?_⟩
 cases hin:inL tok (snapL x)with
 | false=>
  try simp only[aQ]
  refine Ya (Rds 6 11) [34,32,33] [zB 7 false] ?_
  try simp only[aQ]
  refine JR_end ?_
  try simp only[aQ]
  refine J_seq ?_
  try simp only[aQ]
  refine Za [zR 0,zR 1] [7] [zB 38 true] ?_
  try simp only[aQ]
  refine cTt ?_
  try simp only[aQ]
  refine J_seq ?_
  try simp only[aQ]
  refine J_stp (stp_all 0 [10] rfl rfl) ?_
  refine J_glob 3 rfl (fun csg1 tyg1 fzg1 hglob1=>?_)
  try simp only[aQ]
  refine Zp [.rd 0 [.r 0 (some (.iface 390 (.pointer (some (er 11)))))] 0 0,zR 1,zR 2] [38] [zV 5 (.iface 390 (.pointer (some (er 11))))] (oC hglob1 oN) ?_
  try simp only[aQ]
  refine Yr [[],[]] (.tuple #[.slice none 0 0,.iface 390 (.pointer (some (er 11)))]) fun a w s=>?_
  have s2:=(s.hide 0 rfl).stp (stp_closebox (C:=fun y:SesX=>[cObj sb (sesO none (.slice y.ta y.tn y.tc))]) (G:=fun y:SesX=>[(.slice y.ta y.tn y.tc,dInts tok)]) (p:=fun _=>True) [1] ⟨ta,tok.length,tc,0,none,0,0,none,0,0⟩ rfl (by simp) trivial)
  exact .inl ⟨by first|rfl|trivial,s2.ret (by simp) [0,1] [] rfl rfl⟩
 | true=>
  try simp only[aQ]
  refine Ya (Rds 6 11) [34,32,33] [zB 7 true] ?_
  try simp only[aQ]
  refine JR_end ?_
  try simp only[aQ]
  refine J_seq ?_
  try simp only[aQ]
  refine Za [zR 0,zR 1] [7] [zB 38 false] ?_
  try simp only[aQ]
  refine cF ?_
  try simp only[aQ]
  refine J_skip ?_
  try simp only[aQ]
  refine J_seq ?_
  try simp only[aQ]
  refine Zm (Rds 0 4++[.wr 4 [.o 0 none] 0]) [(4,[0])] [38] (fun _=>[]) (fun _=>[(0,.cells #[.pointer none,.slice a2 n2 c2] 181 (0,0))]) o0 (fun _=>?_)
  try simp only[aQ]
  refine J_seq ?_
  try simp only[aQ]
  refine jT [(0,true),(1,true),(2,true),(3,false),(4,true),(5,false),(6,true),(7,true),(8,false)] [] ?_
  refine Ya (Rds 0 3) [0,1] [zP 44 sb,zP 45 pb,zS 46 a2 n2 c2] ?_
  refine Yc 101 #[.slice a2 n2 c2] (some 47) fun w S hG=>?_
  refine(cloneInts (hG.at 2 rfl) (by omega)).mono ?_
  rintro e4 w4 ⟨a4,c4,hR⟩
  refine⟨_,_,_,hR,?_⟩
  try simp only[aQ]
  refine Ym [zR 4,.wr 5 [] 0,zR 6,zR 7,.wr 8 [.o 0 none] 0] [47,44,45,46] (fun nu1=>[]) (fun nu1=>[(0,.cells #[.pointer (sA (nu1 0) 0),.slice a2 n2 c2] 181 (0,0))]) (fun nu1=>[(nu1 0,.cells #[.pointer (sA pb 0),.slice a4 n2 c4,.slice none 0 0] 184 (0,0))]) [] (fun nu1=>?_)
  try simp only[aQ]
  refine JR_end ?_
  try simp only[aQ]
  refine J_seq ?_
  try simp only[aQ]
  refine J_stp (stp_freeze 1 rfl) ?_
  refine J_stp (stp_accm eOp 55 7) ?_
  refine Nm [(cPlace pb x),cAcc (.slice none 0 0) 55 7 (List.map eOp [])] ?_
  try simp only[aQ]
  refine jT [(0,true),(1,false),(2,true),(3,true)] [] ?_
  refine Ya [zR 0] [6] [zS 52 a2 n2 c2] ?_
  refine Yc 101 #[.slice a2 n2 c2] (some 53) fun w S hG=>?_
  refine(cloneInts (hG.at 2 rfl) (by omega)).mono ?_
  rintro e5 w5 ⟨a5,c5,hR⟩
  refine⟨_,_,_,hR,?_⟩
  try simp only[aQ]
  refine Ya [zR 2,zR 3] [53,52] [zS 4 a5 n2 c5] ?_
  refine JR_end ?_
  refine Yr [[],[]] (.tuple #[.slice a5 n2 c5,.nilIface]) fun a w s=>?_
  have s2:=((s.stp (stp_freeze 2 rfl)).hide 0 rfl).hide 0 rfl
  have s3:=s2.stp (stp_closebox (C:=fun y:SesX=>[cObj sb (sesO (some ⟨y.tb,0,none⟩) (.slice y.ta y.tn y.tc)),cObj y.tb (turnO pb (.slice y.aa y.an y.ac) (.slice y.oa y.on y.oc)),cAcc (.slice y.oa y.on y.oc) 55 7 (([]:List OpT).map eOp)]) (G:=fun y:SesX=>[(.slice y.ta y.tn y.tc,dInts (snapL x)),(.slice y.aa y.an y.ac,dInts (snapL x))]) (p:=fun _=>True) [2,3,1] ⟨a2,n2,c2,nu1 0,a4,n2,c4,none,0,0⟩ rfl (by simp) trivial)
  exact .inr ⟨by first|rfl|trivial,_,_,_,s3.ret (by simp) [0,1] [4] rfl rfl⟩
end ses
end Go.Proofs.YtmkapocibaojdaaGreatDoor
end
