/- Part 7 of the texts of a claim: OfR Tx17 Live Tx18 Sorted SetP. -/
import Derived.Test.YtmkapocibaojdaaGreatDoorShelf
import Derived.Test.YtmkapocibaojdaaGreatDoorTs6
section
namespace Go.Proofs.YtmkapocibaojdaaGreatDoor
open Go Go.Sx
theorem opErr_fine {o:OpT} {p:Int} (h:opErr o p=0):nameOk o.key=true∧(o.kind=1∨o.kind=2∨o.kind=3)∧shapeOk o=true∧o.text.size≤60∧-1099511627776≤o.n∧o.n≤1099511627776∧o.dots.length≤60∧badDots p o.dots=false:=by
 unfold opErr at h
 split at h
 ·cases h
 ·split at h
  ·cases h
  ·rename_i h2
   split at h
   ·cases h
   ·rename_i h3
    split at h
    ·cases h
    ·rename_i h4
     split at h
     ·cases h
     ·rename_i h5
      split at h
      ·cases h
      ·rename_i h6
       exact⟨by simpa using h2,by omega,by simpa using h4,by omega,by omega,by omega,by omega,by simpa using h6⟩
theorem opsFault_zero {l:List OpT} {p:Int} (h:(opsFault l p l.length 0).code=0):∀j,j<l.length→opErrAt l p j=0:=by
 intro j
 induction j using Nat.strongRecOn with
 | ind j ih=>
  intro hj
  rcases Nat.eq_zero_or_pos (opErrAt l p j)with h0|h0
  ·exact h0
  ·have:=(opsFault_from (l:=l) (places:=p) l.length 0 j (Nat.zero_le _) fun i _ hi=>ih i hi (by omega)).2 (by omega) (by omega)
   rw[this]at h
   exact h
theorem right_ops {c:ComT} (h:(comFault c).code=0):∀o∈c.ops,opErr o c.when.length=0:=fun o ho=>by
 have hr:=right_of h
 have h1:=opsFault_zero (l:=c.ops) (p:=c.when.length) (by rw[hr.op];exact h)
 obtain⟨j,hj⟩:=List.getElem?_of_mem ho
 have h2:=h1 j (List.getElem?_eq_some_iff.1 hj).1
 rcases Nat.eq_zero_or_pos (opErr o c.when.length)with h0|h0
 ·exact h0
 ·rw[opErrAt_own hj (by omega)]at h2
  omega
theorem mem_opsOf {key:ByteArray} {l:List ComT} {x:DoneT} (h:x∈opsOf key l):(∃c∈l,∃o∈c.ops,x=doneOf c o)∧x.o.key=key:=by
 have h1:x∈opsRaw key l:=(List.mergeSort_perm _ _).mem_iff.1 h
 unfold opsRaw at h1
 rw[List.mem_filter]at h1
 obtain⟨h2,h3⟩:=h1
 obtain⟨h4,_⟩:=firsts_sub h2
 unfold allDone at h4
 obtain⟨c,hc,h5⟩:=List.mem_flatMap.1 h4
 obtain⟨o,ho,rfl⟩:=List.mem_map.1 h5
 exact⟨⟨c,hc,o,ho,rfl⟩,by simpa using h3⟩
theorem mem_ofKey {key:ByteArray} {l:List ComT} {x:DoneT} (h:x∈ofKey key l):x∈opsOf key l:=(List.mem_filter.1 h).1
theorem allRight {key:ByteArray} {l:List ComT} (h:(valFault key l).code=0):nameOk key=true∧∀j,j<l.length→comErrAt l j=0:=by
 unfold valFault at h
 split at h
 ·cases h
 ·rename_i h1
  exact⟨by simpa using h1,listFault_zero h⟩
theorem right_mem {key:ByteArray} {l:List ComT} (h:(valFault key l).code=0) {c:ComT} (hc:c∈l):(comFault c).code=0:=by
 obtain⟨j,hj⟩:=List.getElem?_of_mem hc
 exact(comErrAt_zero hj ((allRight h).2 j (List.getElem?_eq_some_iff.1 hj).1)).1
theorem fine_mem {key:ByteArray} {l:List ComT} (h:(valFault key l).code=0) {x:DoneT} (hx:x∈opsOf key l):∃p:Nat,opErr x.o p=0:=by
 obtain⟨⟨c,hc,o,ho,rfl⟩,_⟩:=mem_opsOf hx
 exact⟨c.when.length,right_ops (right_mem h hc) o ho⟩
theorem opsOf_len {key:ByteArray} {l:List ComT} (h:(valFault key l).code=0):(opsOf key l).length≤12*l.length:=by
 have h1:(opsOf key l).length=(opsRaw key l).length:=(List.mergeSort_perm _ _).length_eq
 have h2:=keyFirst_len key (allDone l)
 have h3:=allDone_len fun c hc=>right_of (right_mem h (l:=l) hc)
 have h4:opsRaw key l=keyFirst key (allDone l):=rfl
 rw[h1,h4]
 omega
theorem ofKey_len {key:ByteArray} {l:List ComT} (h:(valFault key l).code=0):(ofKey key l).length≤12*l.length:=
 Nat.le_trans (List.length_filter_le _ _) (opsOf_len h)
theorem lastText_snoc (p:List DoneT) (x:DoneT):lastText (p++[x])=x.o.text:=by simp[lastText]
theorem sumN_snoc (p:List DoneT) (x:DoneT):sumN (p++[x])=sumN p+x.o.n:=by simp[sumN]
theorem sumN_le {p:List DoneT} (h:∀x∈p,-1099511627776≤x.o.n∧x.o.n≤1099511627776) (i:Nat):-(1099511627776*i)≤sumN (p.take i)∧sumN (p.take i)≤1099511627776*i:=by
 induction i with
 | zero=>simp[sumN]
 | succ i ih=>
  cases hx:p[i]? with
  | none=>
   rw[List.take_add_one,hx]
   simp only[Option.toList_none,List.append_nil]
   omega
  | some x=>
   rw[List.take_add_one,hx]
   have:=h x (List.mem_of_getElem? hx)
   simp only[Option.toList_some,sumN_snoc]
   omega
abbrev valA (v:ValT) (s:Value):Value:=.agg #[.int .i64 v.kind,.string v.text,.int .i64 v.n,s]
abbrev valZ:Value:=.agg #[.int .i64 0,.string (ByteArray.mk #[]),.int .i64 0,.slice none 0 0]
structure OfS where
 i:Int
 text:ByteArray
 n:Int
set_option maxHeartbeats 4000000 in
theorem vOfR {w:World} {S:Nat→Prop} {er:Nat→Addr} {eb:Nat→Array Value×TypeId} {a:Option Addr} {n c:Nat} {key:ByteArray} {l:List ComT} (hC:Rep w S .nilIface (dC er eb)) (h:Rep w S (.slice a n c) (.sl 3 (l.map eCom))) (hl:l.length≤300000) (hl1:∀x∈l,x.when.length≤1000000) (hl2:∀x∈l,x.ops.length≤1000000) (hk3:kindOf (opsOf key l)≠3) :
  Calls Tryz.prog 105 #[.string key,.slice a n c] w fun e w'=>((valFault key l).code≠0∧FVal w S w' e er (valFault key l) fun v=>.tuple #[valZ,v])∨((valFault key l).code=0∧Ret [] w S w' e (.tuple #[valA (Sx.valOf key l) (.slice none 0 0),.nilIface]) [] []):=by
 refine epG Tryz.func105 bd105 (args:=[.string key,.slice a n c]) (G:=[(_,dC er eb),(_,.sl 3 (l.map eCom))]) (by kernel_rfl) (.cons hC (.cons h (.nil _ _))) ?_
 refine Zv [.wr 0 [] 0,zR 1] [] [] (fun nu1=>[zP 4 (nu1 0),zV 5 .nilIface]) o0 (fun nu1=>[(nu1 0,.cells #[nI 0,.string (ByteArray.mk #[]),nI 0,.slice none 0 0] 64 (0,0))]) (fun nu1=>?_)
 refine jS [(0,true),(1,true),(2,false),(3,true),(4,true),(5,true),(6,true),(7,true)] [] ?_
 refine Ya [zR 0,zR 1] [0,1] [zV 13 (.string key),zS 14 a n c] ?_
 refine Yc 159 #[.string key,.slice a n c] (some 15) fun w S hG=>?_
 refine(vOps (hG.at 0 rfl) (hG.at 1 rfl) hl hl1 hl2).mono ?_
 rintro e1 w1 (⟨hc,⟨hat,v,hR,hv⟩|⟨hc1,hat,pb,hR⟩⟩|⟨hc,a1,n1,c1,hR⟩)
 ·refine⟨_,_,_,hR,?_⟩
  rcases hv with ⟨hv0,rfl⟩|⟨hv0,rfl⟩
  ·exact absurd hv0 hc
  ·try simp only[aQ]
   refine Ya (Rds 3 8) [15,13,14] [zS 6 none 0 0,zV 7 (.iface 390 (.pointer (some (er (valFault key l).code))))] ?_
   refine JR_end (J_seq ?_)
   refine Zs [zR 0,zR 1] [] [zB 19 true] ?_
   refine cTt ?_
   refine Zv [zR 0,zR 1,.wr 2 (hnO 0 4) 0,zR 3] [(2,[0])] [19,7] (fun _=>[zV 5 (.iface 390 (.pointer (some (er (valFault key l).code))))]) o0 o0 (fun _=>?_)
   refine Yr [(hnO 0 4),[]] (.tuple #[.agg #[nI 0,.string (ByteArray.mk #[]),nI 0,.slice none 0 0],.iface 390 (.pointer (some (er (valFault key l).code)))]) fun a w s=>?_
   exact .inl ⟨hc,.inl ⟨hat,_,s.ret (by simp) [] [] rfl rfl,.inr ⟨hv0,rfl⟩⟩⟩
 ·refine⟨_,_,_,hR,?_⟩
  try simp only[aQ]
  refine Ya (Rds 3 8) [15,13,14] [zS 6 none 0 0,zV 7 (.iface 202 (.pointer (sA pb 0)))] ?_
  refine JR_end (J_seq ?_)
  refine Zs [zR 0,zR 1] [] [zB 19 true] ?_
  refine cTt ?_
  refine Zv [zR 0,zR 1,.wr 2 (hnO 0 4) 0,zR 3] [(2,[0])] [19,7] (fun _=>[zV 5 (.iface 202 (.pointer (sA pb 0)))]) o0 o0 (fun _=>?_)
  refine Yr [(hnO 0 4),[]] (.tuple #[.agg #[nI 0,.string (ByteArray.mk #[]),nI 0,.slice none 0 0],.iface 202 (.pointer (sA pb 0))]) fun a w s=>?_
  exact .inl ⟨hc,.inr ⟨hc1,hat,_,s.ret (by simp) [] [2] rfl rfl⟩⟩
 ·refine⟨_,_,_,hR,?_⟩
  have hlo:=opsOf_len hc
  have hlk:=ofKey_len hc
  have hfin:∀x∈ofKey key l,-1099511627776≤x.o.n∧x.o.n≤1099511627776:=fun x hx=>by
   obtain⟨p,hp⟩:=fine_mem hc (mem_ofKey hx)
   have:=opErr_fine hp
   omega
  try simp only[aQ]
  refine Ya (Rds 3 8) [15,13,14] [zS 6 a1 n1 c1,zV 7 .nilIface] ?_
  refine JR_end (J_seq ?_)
  refine Zs [zR 0,zR 1] [] [zB 19 false] ?_
  refine cF ?_
  refine J_skip ?_
  refine jS [(0,true),(1,false),(2,true),(3,true),(4,true),(5,true),(6,true)] [] ?_
  refine Ya [zR 0] [19,7] [zS 23 a1 n1 c1] ?_
  refine Yc 160 #[.slice a1 n1 c1] (some 24) fun w S hG=>?_
  refine(vKind (hG.at 2 rfl) (by omega)).mono ?_
  rintro e2 w2 ⟨a2,n2,c2,hR⟩
  refine⟨_,_,_,hR,?_⟩
  try simp only[aQ]
  refine Ya (Rds 2 7) [24,23] [zS 6 a2 n2 c2,zI 8 (kindOf (opsOf key l))] ?_
  refine JR_end ?_
  refine Zv [zR 0,zR 1,.wr 2 [] 0,.wr 3 (hnO 1 4) 0] [(3,[])] [] (fun nu2=>[zP 9 (nu2 0)]) o0 (fun nu2=>[(nu2 0,.cells #[nI (kindOf (opsOf key l)),.string (ByteArray.mk #[]),nI 0,.slice none 0 0] 64 (0,0))]) (fun nu2=>?_)
  refine J_seq ?_
  refine Zs (Rds 0 3) [] [zS 29 a2 n2 c2,zI 30 (↑n2:Int),zI 31 0] ?_
  refine J_block ?_
  refine J_stpx (stp_replen 3 rfl) fun _ hn2=>?_
  rw[List.length_map]at hn2
  have hn3:n2=(ofKey key l).length:=hn2
  subst hn3
  have hA:kindL (opsOf key l)=ofKey key l:=rfl
  rw[hA]
  clear hn2
  generalize hK:kindOf (opsOf key l)=K at hk3
  have hval:Sx.valOf key l=⟨K,if K=1 then lastText (ofKey key l)else ByteArray.mk #[],if K=2 then sumN (ofKey key l)else 0,[]⟩:=by
   simp only[Sx.valOf,hK,if_neg hk3]
  refine J_loopx (fun y:OfS=>[zP 4 (nu1 0),zV 5 .nilIface,zS 6 a2 ((ofKey key l).length) c2,zI 8 K,zP 9 (nu2 0),zS 29 a2 ((ofKey key l).length) c2,zI 30 ((↑(ofKey key l).length:Int)),zI 31 y.i]) (fun y:OfS=>[(nu1 0,.cells #[nI 0,.string (ByteArray.mk #[]),nI 0,.slice none 0 0] 64 (0,0)),(nu2 0,.cells #[nI K,.string y.text,nI y.n,.slice none 0 0] 64 (0,0))]) (fun y:OfS=>[]) (fun y:OfS=>[(.nilIface,(dC er eb)),(.slice a n c,(D.sl 3 (List.map eCom l))),(.slice a1 n1 c1,(D.sl 11 (List.map eDone (opsOf key l)))),(.slice a2 ((ofKey key l).length) c2,(D.sl 11 (List.map eDone (ofKey key l))))]) (fun y:OfS=>((ofKey key l).length - y.i).toNat) (fun y:OfS=>(0≤y.i∧y.i≤(ofKey key l).length∧y.text=(if K=1 then lastText ((ofKey key l).take y.i.toNat)else ByteArray.mk #[])∧y.n=(if K=2 then sumN ((ofKey key l).take y.i.toNat)else 0))) ⟨0,ByteArray.mk #[],0⟩ [4,5,6,8,9,29,30,31] [0,1] [] [0,1,2,3] ?_ (by kernel_rfl) rfl rfl rfl ?_
  ·exact⟨by simp,by simp,by split <;> rfl,by split <;> rfl⟩
  rintro⟨i,tx,m⟩ ⟨hi0,hi,htx,hm⟩
  dsimp only at hi0 hi htx hm ⊢
  refine Zs [zR 0] [] [zB 32 (decide (i<(↑(ofKey key l).length:Int)))] ?_
  refine J_seq ?_
  refine cC (t:=decide (i<(↑(ofKey key l).length:Int))) (fun hlt=>?_) (fun hlt=>?_)
  ·have hlt2:i<(ofKey key l).length:=by simpa using hlt
   obtain⟨x,hx⟩:∃x,(ofKey key l)[i.toNat]?=some x:=⟨_,List.getElem?_eq_getElem (by omega)⟩
   have hxn:=hfin x (List.mem_of_getElem? hx)
   have hs:=sumN_le hfin i.toNat
   refine J_read1 3 rfl i.toNat (map_at hx) (by kernel_rfl) (fun b1 off1 cs1 ty1 fz1 a1_0 c1_0 ha1 hrd1=>?_)
   cases ha1
   have hrd1_0:=rd0 (hrd1 0 _ rfl)
   have hrd1_1:=hrd1 1 _ rfl
   have hrd1_2:=hrd1 2 _ rfl
   have hrd1_3:=hrd1 3 _ rfl
   have hrd1_4:=hrd1 4 _ rfl
   have hrd1_5:=hrd1 5 _ rfl
   have hrd1_6:=hrd1 6 _ rfl
   have hrd1_7:=hrd1 7 _ rfl
   have hrd1_8:=hrd1 8 _ rfl
   have hrd1_9:=hrd1 9 _ rfl
   have hrd1_10:=hrd1 10 _ rfl
   by_cases h1:K=1
   ·have h2:¬K=2:=by omega
    rw[if_neg h2]at hm
    try simp only[aQ]
    refine J_skip (J_seq (J_block ?_))
    refine Zu [.rd 0 [] 0 2,.rd 1 [.r 0 (some (nI x.o.no)),.r 0 (some (.string x.o.key)),.r 0 (some (nI x.o.kind)),.r 0 (some (.string x.o.text)),.r 0 (some (nI x.o.n)),.r 0 (some (.bool x.o.remove)),.r 0 (some (.slice (a1_0,c1_0).fst ((List.map eDot x.o.dots).length) c1_0)),.r 0 (some (nI x.d.place)),.r 0 (some (nI x.d.time)),.r 0 (some (nI x.d.no)),.r 0 (some (nI x.w))] 0 0,.wr 2 [] 0,.wr 3 (hnO 2 11) 0] [(3,[])] [32] (fun nu3=>[zP 11 (nu3 0)]) o0 (fun nu3=>[(nu3 0,.cells #[nI x.o.no,.string x.o.key,nI x.o.kind,.string x.o.text,nI x.o.n,.bool x.o.remove,.slice (a1_0,c1_0).fst ((List.map eDot x.o.dots).length) c1_0,nI x.d.place,nI x.d.time,nI x.d.no,nI x.w] 271 (0,0))]) (fun nu3=>(oC hi0 (oC hlt2 (oC hrd1_0 (oC hrd1_1 (oC hrd1_2 (oC hrd1_3 (oC hrd1_4 (oC hrd1_5 (oC hrd1_6 (oC hrd1_7 (oC hrd1_8 (oC hrd1_9 (oC hrd1_10 oN)))))))))))))) (fun nu3=>?_)
    refine Zs [zR 0] [] [zI 35 K] ?_
    refine J_block ?_
    refine Zt [.rd 0 [] 0 6,zR 1] [] [zB 36 true] (oC (show(K==(1:Int))=true from by simp;omega) oN) ?_
    refine cTt ?_
    refine Zm [zR 0,zR 1,.rd 2 [.o 2 none] 0 0,zR 3,.wr 4 [.o 1 none] 0] [(4,[1])] [36] (fun _=>[]) (fun _=>[(1,.cells #[nI K,.string x.o.text,nI m,.slice none 0 0] 64 (0,0))]) o0 (fun _=>?_)
    refine J_eb (J_eb ?_)
    refine Zp [.rd 0 [] 0 1,zR 1] [] [zI 31 (i+1)] (oC (show IntKind.i64.wrap (i+1)=i+1 from wrap_i64 (by omega) (by omega)) oN) ?_
    refine J_backx ⟨i+1,x.o.text,m⟩ [4,5,6,8,9,29,30,31] [0,1] [] [0,1,2,3] ?_ ?_ (by kernel_rfl) rfl rfl rfl
    ·refine⟨by simp only;omega,by simp only;omega,?_,?_⟩
     ·dsimp only
      rw[if_pos h1,←take_snoc hi0 hx,lastText_snoc]
     ·dsimp only
      rw[if_neg h2,hm]
    ·simp only
     omega
   ·by_cases h2:K=2
    ·rw[if_pos h2]at hm
     have hmb:-9223372036854775808≤m+x.o.n∧m+x.o.n≤9223372036854775807:=by omega
     try simp only[aQ]
     refine J_skip (J_seq (J_block ?_))
     refine Zu [.rd 0 [] 0 2,.rd 1 [.r 0 (some (nI x.o.no)),.r 0 (some (.string x.o.key)),.r 0 (some (nI x.o.kind)),.r 0 (some (.string x.o.text)),.r 0 (some (nI x.o.n)),.r 0 (some (.bool x.o.remove)),.r 0 (some (.slice (a1_0,c1_0).fst ((List.map eDot x.o.dots).length) c1_0)),.r 0 (some (nI x.d.place)),.r 0 (some (nI x.d.time)),.r 0 (some (nI x.d.no)),.r 0 (some (nI x.w))] 0 0,.wr 2 [] 0,.wr 3 (hnO 2 11) 0] [(3,[])] [32] (fun nu3=>[zP 11 (nu3 0)]) o0 (fun nu3=>[(nu3 0,.cells #[nI x.o.no,.string x.o.key,nI x.o.kind,.string x.o.text,nI x.o.n,.bool x.o.remove,.slice (a1_0,c1_0).fst ((List.map eDot x.o.dots).length) c1_0,nI x.d.place,nI x.d.time,nI x.d.no,nI x.w] 271 (0,0))]) (fun nu3=>(oC hi0 (oC hlt2 (oC hrd1_0 (oC hrd1_1 (oC hrd1_2 (oC hrd1_3 (oC hrd1_4 (oC hrd1_5 (oC hrd1_6 (oC hrd1_7 (oC hrd1_8 (oC hrd1_9 (oC hrd1_10 oN)))))))))))))) (fun nu3=>?_)
     refine Zs [zR 0] [] [zI 35 K] ?_
     refine J_block ?_
     refine Zt [.rd 0 [] 0 7,zR 1] [] [zB 36 false] (oC (show(K==(1:Int))=false from by simp;omega) oN) ?_
     refine cF ?_
     refine Zt [.rd 0 [] 0 6,zR 1] [36] [zB 42 true] (oC (show(K==(2:Int))=true from by simp;omega) oN) ?_
     refine cTt ?_
     refine Zn [zR 0,.rd 1 [.o 1 none] 0 0,zR 2,zR 3,.rd 4 [.o 2 none] 0 0,.rd 5 [] 0 1,zR 6,.wr 7 [.o 1 none] 0] [(7,[1])] [42] (fun _=>[]) (fun _=>[(1,.cells #[nI K,.string tx,nI (m+x.o.n),.slice none 0 0] 64 (0,0))]) o0 (fun _=>(oC (show IntKind.i64.wrap (m+x.o.n)=m+x.o.n from wrap_i64 (by omega) (by omega)) oN)) (fun _=>?_)
     refine J_eb (J_eb ?_)
     refine Zp [.rd 0 [] 0 1,zR 1] [] [zI 31 (i+1)] (oC (show IntKind.i64.wrap (i+1)=i+1 from wrap_i64 (by omega) (by omega)) oN) ?_
     refine J_backx ⟨i+1,tx,m+x.o.n⟩ [4,5,6,8,9,29,30,31] [0,1] [] [0,1,2,3] ?_ ?_ (by kernel_rfl) rfl rfl rfl
     ·refine⟨by simp only;omega,by simp only;omega,?_,?_⟩
      ·dsimp only
       rw[if_neg h1,htx,if_neg h1]
      ·dsimp only
       rw[if_pos h2,←take_snoc hi0 hx,sumN_snoc,hm]
     ·simp only
      omega
    ·try simp only[aQ]
     refine J_skip (J_seq (J_block ?_))
     refine Zu [.rd 0 [] 0 2,.rd 1 [.r 0 (some (nI x.o.no)),.r 0 (some (.string x.o.key)),.r 0 (some (nI x.o.kind)),.r 0 (some (.string x.o.text)),.r 0 (some (nI x.o.n)),.r 0 (some (.bool x.o.remove)),.r 0 (some (.slice (a1_0,c1_0).fst ((List.map eDot x.o.dots).length) c1_0)),.r 0 (some (nI x.d.place)),.r 0 (some (nI x.d.time)),.r 0 (some (nI x.d.no)),.r 0 (some (nI x.w))] 0 0,.wr 2 [] 0,.wr 3 (hnO 2 11) 0] [(3,[])] [32] (fun nu3=>[zP 11 (nu3 0)]) o0 (fun nu3=>[(nu3 0,.cells #[nI x.o.no,.string x.o.key,nI x.o.kind,.string x.o.text,nI x.o.n,.bool x.o.remove,.slice (a1_0,c1_0).fst ((List.map eDot x.o.dots).length) c1_0,nI x.d.place,nI x.d.time,nI x.d.no,nI x.w] 271 (0,0))]) (fun nu3=>(oC hi0 (oC hlt2 (oC hrd1_0 (oC hrd1_1 (oC hrd1_2 (oC hrd1_3 (oC hrd1_4 (oC hrd1_5 (oC hrd1_6 (oC hrd1_7 (oC hrd1_8 (oC hrd1_9 (oC hrd1_10 oN)))))))))))))) (fun nu3=>?_)
     refine Zs [zR 0] [] [zI 35 K] ?_
     refine J_block ?_
     refine Zt [.rd 0 [] 0 7,zR 1] [] [zB 36 false] (oC (show(K==(1:Int))=false from by simp;omega) oN) ?_
     refine cF ?_
     refine Zt [.rd 0 [] 0 7,zR 1] [36] [zB 42 false] (oC (show(K==(2:Int))=false from by simp;omega) oN) ?_
     refine cF ?_
     refine J_skip (J_eb (J_eb ?_))
     refine Zp [.rd 0 [] 0 1,zR 1] [42] [zI 31 (i+1)] (oC (show IntKind.i64.wrap (i+1)=i+1 from wrap_i64 (by omega) (by omega)) oN) ?_
     refine J_backx ⟨i+1,tx,m⟩ [4,5,6,8,9,29,30,31] [0,1] [] [0,1,2,3] ?_ ?_ (by kernel_rfl) rfl rfl rfl
     ·refine⟨by simp only;omega,by simp only;omega,?_,?_⟩
      ·dsimp only
       rw[if_neg h1,htx,if_neg h1]
      ·dsimp only
       rw[if_neg h2,hm,if_neg h2]
     ·simp only
      omega
  ·have hil:(ofKey key l).take i.toNat=ofKey key l:=List.take_of_length_le (by simp at hlt;omega)
   rw[hil]at htx hm
   refine J_exit rfl ?_
   refine J_seq ?_
   refine Zt [zR 0,.rd 1 [] 0 7] [32,8,29,30,31] [zB 53 false] (oC (show(K==(3:Int))=false from by simp;omega) oN) ?_
   refine cF ?_
   refine J_skip ?_
   refine Zv [.rd 0 (hnO 1 4) 0 0,.wr 1 (hnO 0 4) 0,zR 2] [(1,[0])] [53,6,9] (fun _=>[]) (fun _=>[(0,.cells #[nI K,.string tx,nI m,.slice none 0 0] 64 (0,0))]) o0 (fun _=>?_)
   refine Yr [(hnO 0 4),[]] (.tuple #[.agg #[nI K,.string tx,nI m,.slice none 0 0],.nilIface]) fun a w s=>?_
   rw[hval,←htx,←hm]
   exact .inr ⟨hc,s.ret (by simp) [] [] rfl rfl⟩
end Go.Proofs.YtmkapocibaojdaaGreatDoor
end
section
namespace Go.Sx
open Go Go.MapKept
def lkOf (n:Nat) (ops:Array Oper) (E:Env) (i:Nat):Option (TypeId×Value×Value×Bool×Option Tmp×List Ob):=
 match ops[i]? with
 | none=>none
 | some o=>if dstOk n o.dst&&!isSel o.op then match (match o.guard with
   | none=>some (none,[])
   | some (j,want)=>(guardOf E ops j).map fun c=>(some (c,want),[.bb c want]))with
  | none=>none
  | some (cd,g)=>match opsOk E cd o.op.operands.toList with
   | none=>none
   | some q=>match o.op with
    | .lookup t m x c=>some (t,rho E m,rho E x,c,o.dst,g++q)
    | _=>none
  else none
def chkLk (x:Option (TypeId×Value×Value×Bool×Option Tmp×List Ob)):Option (TypeId×Value×Value×Bool×Option Tmp)×(List Nat×List Bool×List (Option Nat))×Nat:=match x with
 | some y=>(some (y.1,y.2.1,y.2.2.1,y.2.2.2.1,y.2.2.2.2.1),obL y.2.2.2.2.2,(obP y.2.2.2.2.2).length)
 | none=>(none,([],[],[]),0)
def trivLk (x:Option (TypeId×Value×Value×Bool×Option Tmp×List Ob)):List Nat×List Bool×List (Option Nat):=match x with
 | some y=>obR y.2.2.2.2.2
 | none=>([],[],[])
theorem chkLk_sound {x:Option (TypeId×Value×Value×Bool×Option Tmp×List Ob)} {src:TypeId} {dt v:Value} {cc:Bool} {dst:Option Tmp} (h:chkLk x=(some (src,dt,v,cc,dst),trivLk x,0)):∃p,x=some (src,dt,v,cc,dst,p)∧All p:=by
 cases x with
 | none=>simp[chkLk]at h
 | some y=>
  obtain⟨a,b,c,d,e,p⟩:=y
  simp only[chkLk,trivLk,Prod.mk.injEq,Option.some.injEq]at h
  obtain⟨⟨rfl,rfl,rfl,rfl,rfl⟩,h2,h3⟩:=h
  refine⟨p,rfl,All_of p h2 ?_⟩
  rw[List.eq_nil_of_length_eq_zero h3]
  trivial
section
variable {P:Program} {f:Func} [Pan f] {R:Act→World→Prop} {n:Nat} [Dfr n] {k:List Itm} {E:Env} {h r:List (Nat×Obj)} {F:List (List Nat×World)} {Y:Ghost}
theorem lkOf_yields {ops:Array Oper} {i:Nat} {src:TypeId} {dt xv:Value} {cc:Bool} {dst:Option Tmp} {p:List Ob} (he:lkOf n ops E i=some (src,dt,xv,cc,dst,p)) (hp:All p) {a:Act} (hA:Ag n E a) :
  ∃o,ops[i]?=some o∧Region.wanted o (yielded ops a.tmps)=true∧dstOk n o.dst=true∧o.dst=dst∧∀w v w',(Instr.lookup src dt xv cc).run P w=.ok v w'→(execOp a.eval o).run P w=.ok (.value v) w':=by
 unfold lkOf at he
 split at he
 ·cases he
 rename_i o ho
 split at he
 case isFalse=>cases he
 rename_i hd
 simp only[Bool.and_eq_true,Bool.not_eq_true']at hd
 split at he
 ·cases he
 rename_i cd g hg
 split at he
 ·cases he
 rename_i q hq
 split at he
 case h_2=>cases he
 rename_i src' dt' x cc' hc
 simp only[Option.some.injEq,Prod.mk.injEq]at he
 obtain⟨rfl,rfl,rfl,rfl,rfl,rfl⟩:=he
 obtain⟨hg1,hq1⟩:=All_append hp
 have hwant:Region.wanted o (yielded ops a.tmps)=true∧∀c wn,cd=some (c,wn)→c=wn:=by
  cases hgd:o.guard with
  | none=>
   rw[hgd]at hg
   simp only[Option.some.injEq,Prod.mk.injEq]at hg
   refine⟨by simp[Region.wanted,hgd],fun c wn h=>?_⟩
   rw[←hg.1]at h
   cases h
  | some y=>
   obtain⟨j,want⟩:=y
   rw[hgd]at hg
   obtain⟨c,hc,hcg⟩:=Option.map_eq_some_iff.1 hg
   simp only[Prod.mk.injEq]at hcg
   obtain⟨rfl,rfl⟩:=hcg
   have hy:=guardOf_sound hA hc
   have hcw:c=want:=hg1.1
   refine⟨by simp[Region.wanted,hgd,hy,hcw],fun c' wn h=>?_⟩
   injection h with h
   injection h with h1 h2
   rw[←h1,←h2]
   exact hcw
 refine⟨o,ho,hwant.1,hd.1,rfl,fun w v w' hrun=>?_⟩
 have hcongr:execOp a.eval o=execOp (rho E) o:=execOp_congr o (fun cs b hc=>by have:=hd.2;rw[hc]at this;cases this) (fun x hx=>opsOk_sound hA hwant.2 _ _ hq hq1 x (by simpa using hx))
 rw[hcongr]
 unfold execOp
 simp only[hc,Sem.run_bind,hrun,Result.andThen_ok,Sem.run_pure]
theorem JRg_lookq {id L0 i:Nat} {ck:Bool} {Wp:List (Nat×List Nat)} {rest:List (Nat×Bool)} (hn:Hn) (b t kt et:Nat) (ok:Value→Prop) (key z:Value) (c:Bool) (dst:Option Tmp) {es:Array MapEntry} {clock:Nat} {g:Value→Option Value}
  (he:chkLk (lkOf n (rgOf f id) E i)=(some (t,.map (some b),key,c,dst),trivLk (lkOf n (rgOf f id) E i),0)) (hok:(!ck||okR L0 (Wp.filter fun y=>!later (rgOf f id) i 3 y.1) [hn])=true) (ht:P.underlying t=some (.map kt et)) (hK:KeyOk P kt ok) (hk:ok key) (hi:(P.info? et).map (·.zero)=some (some z))
  (hp:hn.get h r=some (b,.map es clock)) (hm:MapG ok es g)
  (A:g key=none→JR P f R n (rgOf f id) L0 ck rest Wp k (E.put dst (.val (lkV c z false))) h r F Y)
  (B:∀v,g key=some v→JR P f R n (rgOf f id) L0 ck rest Wp k (E.put dst (.val (lkV c v true))) h r F Y) :
  JR P f R n (rgOf f id) L0 ck ((i,true)::rest) Wp k E h r F Y:=by
 obtain⟨p,he,hpp⟩:=chkLk_sound he
 intro BB Hd fps a w s hH hR hN hW
 simp only[PW]
 obtain⟨inf,hinf,hz⟩:=Option.map_eq_some_iff.1 hi
 have hzero:∀w,(zeroValue et).run P w=.ok z w:=fun w=>by simp[zeroValue,typeInfo,hinf,hz]
 have hus:used h r [hn]=[(b,.map es clock)]:=by simp[used,hp]
 have hHp:Hp (used h r [hn]) w:=fun y hy=>by
  obtain⟨hn',_,hg⟩:=List.mem_filterMap.1 hy
  exact s.own.get hg
 obtain⟨o,ho,hw,hdst,hde,hrun⟩:=lkOf_yields (P:=P) he hpp s.ag
 subst hde
 have fin:∀v,(∀w,Hp (used h r [hn]) w→(Instr.lookup t (.map (some b)) key c).run P w=.ok v w)→JR P f R n (rgOf f id) L0 ck rest Wp k (E.put o.dst (.val v)) h r F Y →
   ∃o' v' us,(rgOf f id)[i]?=some o'∧YieldsIf P (rgOf f id) (Hp us) o' v' a∧Hp us w∧(ck=true→∀y∈idsW Hd h Wp,later (rgOf f id) i 3 y.1=true∨∀x∈us,x.1<BB∧x.1∉y.2)∧PW P (rgOf f id) (wpK P f R k) BB ck rest (idsW Hd h Wp) (a.put o'.dst v') w:=fun v hv H=>by
  refine⟨o,v,used h r [hn],ho,.inl ⟨hw,fun w hw=>hrun _ _ _ (hv w hw)⟩,hHp,fun hck y hy=>okR_later (fun j=>later (rgOf f id) i 3 j) s.own hR (by simpa [hck]using hok) y hy,?_⟩
  exact H BB Hd fps _ w ⟨s.ag.put hdst (.val v),s.own,s.fr,s.may,s.gh⟩ hH hR hN hW
 have hbw:∀w,Hp (used h r [hn]) w→w.heap[b]?=some (.map es clock):=fun w hw=>hw (b,.map es clock) (by rw[hus];simp)
 rcases hm.look hK hk with ⟨h1,h2,_⟩|⟨j,e,h1,_,_,h2⟩
 ·refine fin (lkV c z false) (fun w hw=>?_) (A h2)
  cases c <;> simp[Instr.lookup,run_underlying ht,MapKept.run_getObj_map (hbw w hw),hK.chk _ _ hk,h1,hzero,Result.andThen,lkV]
 ·refine fin (lkV c e.val true) (fun w hw=>?_) (B _ h2)
  cases c <;> simp[Instr.lookup,run_underlying ht,MapKept.run_getObj_map (hbw w hw),hK.chk _ _ hk,h1,Result.andThen,lkV]
theorem JRg_lookqn {id L0 i:Nat} {ck:Bool} {Wp:List (Nat×List Nat)} {rest:List (Nat×Bool)} (t kt et:Nat) (ok:Value→Prop) (key z:Value) (c:Bool) (dst:Option Tmp)
  (he:chkLk (lkOf n (rgOf f id) E i)=(some (t,.map none,key,c,dst),trivLk (lkOf n (rgOf f id) E i),0)) (ht:P.underlying t=some (.map kt et)) (hK:KeyOk P kt ok) (hk:ok key) (hi:(P.info? et).map (·.zero)=some (some z))
  (A:JR P f R n (rgOf f id) L0 ck rest Wp k (E.put dst (.val (lkV c z false))) h r F Y) :
  JR P f R n (rgOf f id) L0 ck ((i,true)::rest) Wp k E h r F Y:=by
 obtain⟨p,he,hpp⟩:=chkLk_sound he
 intro BB Hd fps a w s hH hR hN hW
 simp only[PW]
 obtain⟨inf,hinf,hz⟩:=Option.map_eq_some_iff.1 hi
 have hzero:∀w,(zeroValue et).run P w=.ok z w:=fun w=>by simp[zeroValue,typeInfo,hinf,hz]
 obtain⟨o,ho,hw,hdst,hde,hrun⟩:=lkOf_yields (P:=P) he hpp s.ag
 subst hde
 have h1:∀w,(Instr.findKey kt key []).run P w=.ok none w:=fun w=>by
  rcases hK.find key [] hk (by simp)with ⟨h1,_⟩|⟨j,e,_,h2,_⟩
  ·exact h1 w
  ·simp at h2
 refine⟨o,lkV c z false,[],ho,.inl ⟨hw,fun w _=>hrun _ _ _ ?_⟩,(fun y hy=>nomatch hy),(fun _ y _=>.inr fun x hx=>nomatch hx),A BB Hd fps _ w ⟨s.ag.put hdst (.val _),s.own,s.fr,s.may,s.gh⟩ hH hR hN hW⟩
 cases c <;> simp[Instr.lookup,run_underlying ht,hK.chk _ _ hk,h1,hzero,Result.andThen,lkV]
end
end Go.Sx
end
section
namespace Go.Sx
open Go Go.MapKept
open Classical in
noncomputable def strG (ks:List ByteArray) (F:ByteArray→Value):Value→Option Value:=fun v=>match v with
 | .string t=>if t∈ks then some (F t)else none
 | _=>none
theorem strG_in {ks:List ByteArray} {F:ByteArray→Value} {t:ByteArray} (h:t∈ks):strG ks F (.string t)=some (F t):=if_pos h
theorem strG_out {ks:List ByteArray} {F:ByteArray→Value} {t:ByteArray} (h:t∉ks):strG ks F (.string t)=none:=if_neg h
theorem strG_nil (F:ByteArray→Value) (k:Value):strG [] F k=none:=by unfold strG;split <;> simp
def upd {α:Type} (F:ByteArray→α) (t:ByteArray) (v:α):ByteArray→α:=fun s=>if s=t then v else F s
theorem upd_at {α:Type} (F:ByteArray→α) (t:ByteArray) (v:α):upd F t v t=v:=if_pos rfl
theorem upd_ne {α:Type} (F:ByteArray→α) {t s:ByteArray} (v:α) (h:s≠t):upd F t v s=F s:=if_neg h
theorem strG_new {ks:List ByteArray} {F:ByteArray→Value} {t:ByteArray} {v:Value} (h:t∉ks) (k:Value):fput (strG ks F) (.string t) v k=strG (ks++[t]) (upd F t v) k:=by
 unfold fput
 by_cases hk:k=.string t
 ·subst hk
  rw[if_pos rfl,strG_in (by simp),upd_at]
 ·rw[if_neg hk]
  unfold strG
  split
  ·rename_i s
   have hs:s≠t:=fun he=>hk (by rw[he])
   by_cases h2:s∈ks
   ·rw[if_pos h2,if_pos (by simp[h2]),upd_ne _ _ hs]
   ·rw[if_neg h2,if_neg (by simp[h2,hs])]
  ·rfl
theorem strG_newm {ks:List ByteArray} {mb:ByteArray→Nat} {t:ByteArray} {b:Nat} (h:t∉ks) (k:Value):fput (strG ks fun s=>.map (some (mb s))) (.string t) (.map (some b)) k=strG (ks++[t]) (fun s=>.map (some (upd mb t b s))) k:=by
 rw[strG_new h]
 congr 1
 funext s
 unfold upd
 split <;> rfl
theorem map_new {α β:Type} {ks:List α} {t:α} {Q Q':α→β} (h:∀s∈ks,Q' s=Q s):((ks++[t]).map Q').eraseIdx ks.length=ks.map Q:=by
 rw[List.map_append,List.eraseIdx_append_of_length_le (by simp)]
 simp only[List.length_map,Nat.sub_self,List.map_cons,List.map_nil,List.eraseIdx_cons_zero,List.append_nil]
 exact List.map_congr_left h
theorem strG_set {ks:List ByteArray} {F:ByteArray→Value} {t:ByteArray} {v:Value} (h:t∈ks) (k:Value):fput (strG ks F) (.string t) v k=strG ks (upd F t v) k:=by
 unfold fput
 by_cases hk:k=.string t
 ·subst hk
  rw[if_pos rfl,strG_in h,upd_at]
 ·rw[if_neg hk]
  unfold strG
  split
  ·rename_i s
   have hs:s≠t:=fun he=>hk (by rw[he])
   rw[upd_ne _ _ hs]
  ·rfl
def goneDots (p:List DoneT) (t:ByteArray):List DotT:=(p.filter fun x=>x.o.remove&&decide (x.o.text=t)).flatMap (·.o.dots)
theorem goneDots_snoc (p:List DoneT) (x:DoneT) (t:ByteArray):goneDots (p++[x]) t=goneDots p t++if x.o.remove=true∧x.o.text=t then x.o.dots else []:=by
 unfold goneDots
 rw[List.filter_append,List.flatMap_append]
 congr 1
 by_cases h1:x.o.remove=true
 ·by_cases h2:x.o.text=t
  ·simp[h1,h2]
  ·simp[h1,h2]
 ·simp[h1]
theorem goneDots_skip {l:List DoneT} {i:Int} {x:DoneT} (hx:l[i.toNat]?=some x) (hi:0≤i) (hr:x.o.remove=false) (t:ByteArray):goneDots (l.take (i+1).toNat) t=goneDots (l.take i.toNat) t:=by
 rw[←take_snoc hi hx,goneDots_snoc,if_neg (by simp[hr]),List.append_nil]
theorem goneDots_new {l:List DoneT} {i:Int} {x:DoneT} (hx:l[i.toNat]?=some x) (hi:0≤i) (hr:x.o.remove=true):goneDots (l.take (i+1).toNat) x.o.text=goneDots (l.take i.toNat) x.o.text++x.o.dots:=by
 rw[←take_snoc hi hx,goneDots_snoc,if_pos ⟨hr,rfl⟩]
theorem goneDots_other {l:List DoneT} {i:Int} {x:DoneT} (hx:l[i.toNat]?=some x) (hi:0≤i) {t:ByteArray} (ht:t≠x.o.text):goneDots (l.take (i+1).toNat) t=goneDots (l.take i.toNat) t:=by
 rw[←take_snoc hi hx,goneDots_snoc,if_neg (fun h=>ht h.2.symm),List.append_nil]
theorem goneDots_none {p:List DoneT} {t:ByteArray} (h:∀z∈p,z.o.remove=true→z.o.text≠t):goneDots p t=[]:=by
 unfold goneDots
 rw[List.filter_eq_nil_iff.2]
 ·rfl
 ·intro z hz
  simp only[Bool.and_eq_true,decide_eq_true_eq,not_and]
  exact fun hr=>h z hz hr
theorem goneB_iff {l:List DoneT} {t:ByteArray} {d:DotT}:goneB l t d=true↔d∈goneDots l t:=by
 simp only[goneB,goneDots,List.any_eq_true,List.mem_flatMap,List.mem_filter,Bool.and_eq_true,decide_eq_true_eq]
 constructor
 ·rintro⟨x,h1,h2,h3,h4⟩
  exact⟨x,⟨h1,h2,h3⟩,h4⟩
 ·rintro⟨x,⟨h1,h2,h3⟩,h4⟩
  exact⟨x,h1,h2,h3,h4⟩
def outDots (l p:List DoneT) (t:ByteArray):List DotT:=((p.filter fun a=>!a.o.remove&&!goneB l a.o.text a.d).filter fun a=>decide (a.o.text=t)).map (·.d)
theorem outDots_snoc (l p:List DoneT) (x:DoneT) (t:ByteArray):outDots l (p++[x]) t=outDots l p t++if (x.o.remove=false∧x.d∉goneDots l x.o.text)∧x.o.text=t then [x.d]else []:=by
 unfold outDots
 rw[List.filter_append,List.filter_append,List.map_append]
 congr 1
 by_cases h3:x.d∈goneDots l x.o.text
 ·have hb:=goneB_iff.2 h3
  rw[if_neg (fun h=>h.1.2 h3)]
  simp only[List.filter_cons,List.filter_nil,hb,Bool.not_true,Bool.and_false,if_neg (Bool.false_ne_true),List.map_nil]
 ·have hb:goneB l x.o.text x.d=false:=by
   rw[Bool.eq_false_iff]
   exact fun hc=>h3 (goneB_iff.1 hc)
  cases h1:x.o.remove with
  | true=>
   rw[if_neg (fun h=>by cases h.1.1)]
   simp only[List.filter_cons,List.filter_nil,hb,h1,Bool.not_true,Bool.false_and,if_neg (Bool.false_ne_true),List.map_nil]
  | false=>
   simp only[List.filter_cons,List.filter_nil,hb,h1,Bool.not_false,Bool.and_self,if_true]
   by_cases h2:x.o.text=t
   ·rw[if_pos (decide_eq_true h2),if_pos ⟨⟨trivial,h3⟩,h2⟩]
    rfl
   ·rw[if_neg (show ¬decide (x.o.text=t)=true by simpa using h2),if_neg (fun h=>h2 h.2)]
    rfl
theorem outDots_skip {l:List DoneT} {i:Int} {x:DoneT} (hx:l[i.toNat]?=some x) (hi:0≤i) (h:x.o.remove=true∨x.d∈goneDots l x.o.text) (t:ByteArray):outDots l (l.take (i+1).toNat) t=outDots l (l.take i.toNat) t:=by
 rw[←take_snoc hi hx,outDots_snoc,if_neg,List.append_nil]
 rintro⟨⟨h1,h2⟩,_⟩
 rcases h with h|h
 ·rw[h]at h1;cases h1
 ·exact h2 h
theorem outDots_new {l:List DoneT} {i:Int} {x:DoneT} (hx:l[i.toNat]?=some x) (hi:0≤i) (h1:x.o.remove=false) (h2:x.d∉goneDots l x.o.text):outDots l (l.take (i+1).toNat) x.o.text=outDots l (l.take i.toNat) x.o.text++[x.d]:=by
 rw[←take_snoc hi hx,outDots_snoc,if_pos ⟨⟨h1,h2⟩,rfl⟩]
theorem outDots_other {l:List DoneT} {i:Int} {x:DoneT} (hx:l[i.toNat]?=some x) (hi:0≤i) {t:ByteArray} (ht:t≠x.o.text):outDots l (l.take (i+1).toNat) t=outDots l (l.take i.toNat) t:=by
 rw[←take_snoc hi hx,outDots_snoc,if_neg (fun h=>ht h.2.symm),List.append_nil]
theorem outDots_len (l p:List DoneT) (t:ByteArray):(outDots l p t).length≤p.length:=by
 unfold outDots
 rw[List.length_map]
 exact Nat.le_trans (List.length_filter_le _ _) (List.length_filter_le _ _)
set_option maxHeartbeats 4000000 in
theorem stp_accform {h r:List (Nat×Obj)} {F:List (List Nat×World)} {S0:Nat→Prop} {C0:List Chunk} {G0:List (Value×D)} (q:Nat) {v:Value} {e k:Nat} {rows:List (List D)} (hq:C0[q]?=some (cAcc v e k rows)):Stp h r F ⟨S0,C0,G0⟩ (fun x:Option Addr×Nat×Nat=>v=.slice x.1 x.2.1 x.2.2∧x.2.1=rows.length) fun _=>⟨S0,C0,G0⟩:=by
 intro w fps hO H
 obtain⟨fp,_,_,hP⟩:=H.chs.at hq
 rcases hP with ⟨h1,h2,_⟩|⟨g,cap,cur,xs,h2,_⟩
 ·exact⟨(none,0,0),fps,⟨h2,by rw[h1];rfl⟩,fun _ hb=>hb,H⟩
 ·exact⟨(some ⟨g,0,none⟩,rows.length,cap),fps,⟨h2,rfl⟩,fun _ hb=>hb,H⟩
set_option maxHeartbeats 4000000 in
theorem stp_cs {h r:List (Nat×Obj)} {F:List (List Nat×World)} {S0:Nat→Prop} {C0:List Chunk} {G0:List (Value×D)} (cs:List Nat) {C':List Chunk} (hC:pick C0 cs=C') (hcs:cs.Nodup:=by decide):Stp h r F ⟨S0,C0,G0⟩ (fun _:Unit=>True) fun _=>⟨S0,C',G0⟩:=by
 intro w fps hO H
 subst hC
 have hS:∀b,Sd ⟨S0,C0,G0⟩ h fps b→Sd ⟨S0,C0,G0⟩ h (pick fps cs) b:=fun b hb=>Sd_sub (fun b hb=>pick_flat_sub hb) hb
 exact⟨(),pick fps cs,trivial,fun b hb=>pick_flat_sub hb,H.less (fun b hb=>pick_flat_sub hb) (pick_flat_nodup H.nodup hcs) ((H.chs.pick cs).mono (fun _ _=>rfl) fun b hb _=>⟨hS b hb,rfl⟩) fun x hx=>(H.g x hx).mono fun b hb _=>⟨hS b hb,rfl⟩⟩
structure LiveS where
 i:Int
 es:Array MapEntry
 clock:Nat
 ks:List ByteArray
 mb:ByteArray→Nat
structure GoneS where
 i:Int
 es:Array MapEntry
 clock:Nat
structure OutS where
 i:Int
 es:Array MapEntry
 clock:Nat
 ks:List ByteArray
 F:ByteArray→Value
section puts
variable {P:Program} {f:Func} {R:Act→World→Prop} {n:Nat} {k:List Itm} {E:Env} {h r:List (Nat×Obj)} {F:List (List Nat×World)} {Y:Ghost}
theorem JRg_puts {id L0 i:Nat} {ck:Bool} {Wp:List (Nat×List Nat)} {rest:List (Nat×Bool)} (p b t kt et:Nat) (ok:Value→Prop) (key val:Value) (dst:Option Tmp) {es:Array MapEntry} {clock:Nat} {g:Value→Option Value}
  (he:putOf n (rgOf f id) E i=some (.map (some b),key,val,t,dst)) (hok:(!ck||okW L0 (Wp.lookup i) [p])=true) (ht:P.underlying t=some (.map kt et)) (hK:KeyOk P kt ok) (hk:ok key)
  (hp:h[p]?=some (b,.map es clock)) (hm:MapG ok es g)
  (A:∀es' clock',MapG ok es' (fput g key val)→es'.size≤es.size+1→(Stamped es clock→Stamped es' clock')→JR P f R n (rgOf f id) L0 ck rest (Wp.filter (·.1 != i)) k (E.put dst (.val undef)) (h.set p (b,.map es' clock')) r F Y) :
  JR P f R n (rgOf f id) L0 ck ((i,false)::rest) Wp k E h r F Y:=by
 intro BB Hd fps a w s hH hR hN hW
 simp only[PW]
 have hb:w.heap[b]?=some (.map es clock):=s.own.own _ (List.mem_of_getElem? hp)
 refine putOf_sound he s ?_
 rcases hm.look hK hk with ⟨h1,_,h2⟩|⟨j,e,h1,h2,h3,_⟩
 ·refine⟨{ w with heap:=w.heap.setIfInBounds b (.map (es.push ⟨key,val,clock⟩) (clock+1)) },?_,fun a' hA=>JR_setmap hok hp s hH hR hN hW hA (A _ _ (hm.push hk h2) (by simp) fun hst=>stamped_push hst h2)⟩
  simp[Instr.mapUpdate,run_underlying ht,MapKept.run_getObj_map hb,hK.chk _ _ hk,h1,MapKept.run_setObj_map _ hb,Result.andThen]
 ·have hj:es[j]?=some e:=by simpa using h2
  refine⟨{ w with heap:=w.heap.setIfInBounds b (.map (es.modify j fun x=>{ x with key:=key,val:=val }) clock) },?_,fun a' hA=>JR_setmap hok hp s hH hR hN hW hA (A _ _ (hm.turn h2 h3) (by simp) fun hst=>stamped_modify hst j _ (fun _ _=>rfl) fun x _ hx=>by rw[hj]at hx;cases hx;exact h3.symm)⟩
  simp[Instr.mapUpdate,run_underlying ht,MapKept.run_getObj_map hb,hK.chk _ _ hk,h1,hj,h3,hK.stays _ hk,MapKept.run_setObj_map _ hb,Result.andThen]
end puts
end Go.Sx
namespace Go.Proofs.YtmkapocibaojdaaGreatDoor
open Go Go.Sx Go.MapKept
set_option maxHeartbeats 4000000 in
theorem vLive {w:World} {S:Nat→Prop} {a:Option Addr} {n c:Nat} {l:List DoneT} (h:Rep w S (.slice a n c) (.sl 11 (l.map eDone))) (hl:l.length≤4000000) (hdl:∀x∈l,x.o.dots.length≤1000000) :
  Calls Tryz.prog 163 #[.slice a n c] w fun e w'=>∃mb es clock ks F,Ret [] w S w' e (.map (some mb)) [cObj mb (.map es clock),cStar (ks.map fun t=>cAcc (F t) 177 3 ((textDots l t).map eDot))] []∧MapG (IsKey .string) es (strG ks F)∧MapKept.Stamped es clock∧ks.Nodup∧(∀t,t∈ks↔textDots l t≠[]):=by
 have e1:=h.slen
 rw[List.length_map]at e1
 subst e1
 refine epG Tryz.func163 bd163 (args:=[.slice a l.length c]) (G:=[(_,.sl 11 (l.map eDone))]) (by kernel_rfl) (.cons h (.nil _ _)) ?_
 refine Zs [zR 0] [] [zV 2 (.map none)] ?_
 refine Zv [.wr 0 [] 0,zR 1] [] [] (fun nu1=>[zV 3 (.map (some (nu1 0)))]) o0 (fun nu1=>[(nu1 0,Obj.map #[] 0)]) (fun nu1=>?_)
 refine J_seq ?_
 refine Zs (Rds 0 3) [] [zS 12 a l.length c,zI 13 (↑l.length:Int),zI 14 0] ?_
 refine J_block ?_
 refine J_stp (stp_add (cStar []) star_nil) ?_
 have hm0:MapG (IsKey .string) #[] (strG [] fun t=>.map (some ((fun _=>0:ByteArray→Nat) t))):=(MapG.empty _).congr fun k=>(strG_nil _ k).symm
 refine J_loopx (fun x:LiveS=>[zS 0 a l.length c,zV 2 (.map none),zV 3 (.map (some (nu1 0))),zS 12 a l.length c,zI 13 (↑l.length:Int),zI 14 x.i]) (fun x:LiveS=>[(nu1 0,.map x.es x.clock)]) (fun x:LiveS=>[cStar (x.ks.map fun t=>cMapG (x.mb t) okDot (dotSet (goneDots (l.take x.i.toNat) t)))]) (fun x:LiveS=>[(.slice a l.length c,(D.sl 11 (List.map eDone l)))]) (fun x:LiveS=>(l.length - x.i).toNat) (fun x:LiveS=>(0≤x.i∧x.i≤l.length∧MapG (IsKey .string) x.es (strG x.ks fun t=>.map (some (x.mb t)))∧x.ks.Nodup∧∀z∈l.take x.i.toNat,z.o.remove=true→z.o.text∈x.ks)) ⟨0,#[],0,[],fun _=>0⟩ [0,2,3,12,13,14] [0] [0] [0] ?_ (by kernel_rfl) rfl rfl rfl ?_
 ·exact⟨by simp,by simp,hm0,by simp,by simp⟩
 rintro⟨i,es,clock,ks,mb⟩ ⟨hi0,hi,hm,hnd,hall⟩
 dsimp only at hi0 hi hm hnd hall ⊢
 refine Zs [zR 0] [] [zB 15 (decide (i<(↑l.length:Int)))] ?_
 refine J_seq ?_
 refine cC (t:=decide (i<(↑l.length:Int))) (fun hlt=>?_) (fun hlt=>?_)
 ·have hlt2:i<l.length:=by simpa using hlt
  obtain⟨x,hx⟩:∃x,l[i.toNat]?=some x:=⟨_,List.getElem?_eq_getElem (by omega)⟩
  have hdx:=hdl x (List.mem_of_getElem? hx)
  refine J_read1 0 rfl i.toNat (map_at hx) (by kernel_rfl) (fun b1 off1 cs1 ty1 fz1 a1_0 c1_0 ha1 hrd1=>?_)
  cases ha1
  have hrd1_0:=rd0 (hrd1 0 _ rfl)
  have hrd1_1:=hrd1 1 _ rfl
  have hrd1_2:=hrd1 2 _ rfl
  have hrd1_3:=hrd1 3 _ rfl
  have hrd1_4:=hrd1 4 _ rfl
  have hrd1_5:=hrd1 5 _ rfl
  have hrd1_6:=hrd1 6 _ rfl
  have hrd1_7:=hrd1 7 _ rfl
  have hrd1_8:=hrd1 8 _ rfl
  have hrd1_9:=hrd1 9 _ rfl
  have hrd1_10:=hrd1 10 _ rfl
  cases hrem:x.o.remove with
  | false=>
   try simp only[aQ]
   refine J_skip (J_seq (J_block ?_))
   refine Zu [.rd 0 [] 0 2,.rd 1 [.r 0 (some (nI x.o.no)),.r 0 (some (.string x.o.key)),.r 0 (some (nI x.o.kind)),.r 0 (some (.string x.o.text)),.r 0 (some (nI x.o.n)),.r 0 (some (.bool x.o.remove)),.r 0 (some (.slice (a1_0,c1_0).fst ((List.map eDot x.o.dots).length) c1_0)),.r 0 (some (nI x.d.place)),.r 0 (some (nI x.d.time)),.r 0 (some (nI x.d.no)),.r 0 (some (nI x.w))] 0 0,.wr 2 [] 0,.wr 3 (hnO 1 11) 0] [(3,[])] [15] (fun nu2=>[zP 5 (nu2 0)]) o0 (fun nu2=>[(nu2 0,.cells #[nI x.o.no,.string x.o.key,nI x.o.kind,.string x.o.text,nI x.o.n,.bool x.o.remove,.slice (a1_0,c1_0).fst ((List.map eDot x.o.dots).length) c1_0,nI x.d.place,nI x.d.time,nI x.d.no,nI x.w] 271 (0,0))]) (fun nu2=>(oC hi0 (oC hlt2 (oC hrd1_0 (oC hrd1_1 (oC hrd1_2 (oC hrd1_3 (oC hrd1_4 (oC hrd1_5 (oC hrd1_6 (oC hrd1_7 (oC hrd1_8 (oC hrd1_9 (oC hrd1_10 oN)))))))))))))) (fun nu2=>?_)
   refine Zs [zR 0,zR 1,.rd 2 [.o 1 none] 0 0] [] [zB 20 x.o.remove] ?_
   refine J_condF x.o.remove (by kernel_rfl) (by kernel_rfl) (by simpa using ‹_›) ?_
   refine J_skip (J_eb ?_)
   refine Zp [.rd 0 [] 0 1,zR 1] [20] [zI 14 (i+1)] (oC (show IntKind.i64.wrap (i+1)=i+1 from wrap_i64 (by omega) (by omega)) oN) ?_
   have e4:(fun t=>cMapG (mb t) okDot (dotSet (goneDots (l.take i.toNat) t)))=fun t=>cMapG (mb t) okDot (dotSet (goneDots (l.take (i+1).toNat) t)):=funext fun t=>by rw[goneDots_skip hx hi0 hrem]
   rw[e4]
   refine J_backx ⟨i+1,_,_,ks,mb⟩ [0,2,3,12,13,14] [0] [0] [0] ?_ ?_ (by kernel_rfl) rfl rfl rfl
   ·refine⟨by simp only;omega,by simp only;omega,hm,hnd,fun z hz hzr=>?_⟩
    rw[←take_snoc hi0 hx,List.mem_append,List.mem_singleton]at hz
    rcases hz with hz|rfl
    ·exact hall z hz hzr
    ·rw[hrem]at hzr;cases hzr
   ·simp only
    omega
  | true=>
   by_cases hT0:x.o.text∈ks
   ·have hT:=hT0
    obtain⟨iT,hit⟩:=List.getElem?_of_mem hT
    try simp only[aQ]
    refine J_skip (J_seq (J_block ?_))
    refine Zu [.rd 0 [] 0 2,.rd 1 [.r 0 (some (nI x.o.no)),.r 0 (some (.string x.o.key)),.r 0 (some (nI x.o.kind)),.r 0 (some (.string x.o.text)),.r 0 (some (nI x.o.n)),.r 0 (some (.bool x.o.remove)),.r 0 (some (.slice (a1_0,c1_0).fst ((List.map eDot x.o.dots).length) c1_0)),.r 0 (some (nI x.d.place)),.r 0 (some (nI x.d.time)),.r 0 (some (nI x.d.no)),.r 0 (some (nI x.w))] 0 0,.wr 2 [] 0,.wr 3 (hnO 1 11) 0] [(3,[])] [15] (fun nu2=>[zP 5 (nu2 0)]) o0 (fun nu2=>[(nu2 0,.cells #[nI x.o.no,.string x.o.key,nI x.o.kind,.string x.o.text,nI x.o.n,.bool x.o.remove,.slice (a1_0,c1_0).fst ((List.map eDot x.o.dots).length) c1_0,nI x.d.place,nI x.d.time,nI x.d.no,nI x.w] 271 (0,0))]) (fun nu2=>(oC hi0 (oC hlt2 (oC hrd1_0 (oC hrd1_1 (oC hrd1_2 (oC hrd1_3 (oC hrd1_4 (oC hrd1_5 (oC hrd1_6 (oC hrd1_7 (oC hrd1_8 (oC hrd1_9 (oC hrd1_10 oN)))))))))))))) (fun nu2=>?_)
    refine J_seq ?_
    refine J_stp (stp_take 0 iT rfl (by rw[List.getElem?_map,hit];rfl)) ?_
    refine J_openmapg 0 rfl fun es1 clock1 hm1=>?_
    have hgm:=hm
    have hnd2:=hnd
    have hall2:∀z∈l.take (i+1).toNat,z.o.remove=true→z.o.text∈ks:=fun z hz hzr=>by
     rw[←take_snoc hi0 hx,List.mem_append,List.mem_singleton]at hz
     rcases hz with hz|rfl
     ·exact hall z hz hzr
     ·exact hT
    have hE:=map_out (Q':=fun t=>cMapG (mb t) okDot (dotSet (goneDots (l.take (i+1).toNat) t))) (Q:=fun t=>cMapG (mb t) okDot (dotSet (goneDots (l.take i.toNat) t))) hnd hit fun s hs=>by
     show cMapG (mb s) okDot (dotSet (goneDots (l.take (i+1).toNat) s))=cMapG (mb s) okDot (dotSet (goneDots (l.take i.toNat) s))
     rw[goneDots_other hx hi0 hs]
    refine Za [zR 0,zR 1,.rd 2 [.o 1 none] 0 0] [] [zB 20 x.o.remove] ?_
    refine J_condT x.o.remove (by kernel_rfl) (by kernel_rfl) (by simpa using ‹_›) ?_
    refine J_seq ?_
    refine jS [(0,true),(1,true),(2,true),(3,true),(4,true),(5,true)] [] ?_
    refine Ya (Rds 0 3++[.rd 3 [.o 1 none] 0 0]) [20] [zV 21 (.map (some (nu1 0))),zV 24 (.string x.o.text)] ?_
    refine JRg_lookr (.o 0 none) (nu1 0) 327 9 216 (IsKey TypeDesc.string) (.string x.o.text) (.map none) false (some 25) (by kernel_rfl) (by kernel_rfl) (by kernel_rfl) keyOk_9 (by first|exact⟨_,_,_,rfl⟩|simp[MapKept.IsKey]) (by kernel_rfl) rfl hgm (fun hno=>?_) (fun v hv=>?_)
    ·rw[strG_in hT]at hno
     cases hno
    ·rw[strG_in hT]at hv
     cases hv
     refine Ya [zR 5] [25,21,24] [zB 26 false] ?_
     refine JR_end ?_
     refine cF ?_
     refine J_skip ?_
     refine Zs [zR 0,zR 1,.rd 2 [.o 1 none] 0 0,zR 3,zR 4] [26] [zS 34 (a1_0,c1_0).fst ((List.map eDot x.o.dots).length) c1_0,zI 35 ((↑(List.map eDot x.o.dots).length:Int)),zI 36 0] ?_
     refine J_block ?_
     refine J_loopx (fun y:GoneS=>[zS 0 (sA b1 off1) l.length c,zV 2 (.map none),zV 3 (.map (some (nu1 0))),zP 5 (nu2 0),zS 12 (sA b1 off1) l.length c,zI 13 (↑l.length:Int),zI 14 i,zS 34 (a1_0,c1_0).fst ((List.map eDot x.o.dots).length) c1_0,zI 35 ((↑(List.map eDot x.o.dots).length:Int)),zI 36 y.i]) (fun y:GoneS=>[(nu1 0,Obj.map es clock),(nu2 0,.cells #[nI x.o.no,.string x.o.key,nI x.o.kind,.string x.o.text,nI x.o.n,.bool x.o.remove,.slice (a1_0,c1_0).fst ((List.map eDot x.o.dots).length) c1_0,nI x.d.place,nI x.d.time,nI x.d.no,nI x.w] 271 (0,0)),(mb x.o.text,.map y.es y.clock)]) (fun y:GoneS=>[cStar ((ks.map fun t=>cMapG (mb t) okDot (dotSet (goneDots (l.take i.toNat) t))).eraseIdx iT)]) (fun y:GoneS=>[(.slice (sA b1 off1) l.length c,(D.sl 11 (List.map eDone l))),(.slice (a1_0,c1_0).fst ((List.map eDot x.o.dots).length) c1_0,(D.sl 3 (List.map eDot x.o.dots)))]) (fun y:GoneS=>(x.o.dots.length - y.i).toNat) (fun y:GoneS=>(0≤y.i∧y.i≤x.o.dots.length∧MapG okDot y.es (dotSet (goneDots (l.take i.toNat) x.o.text++x.o.dots.take y.i.toNat)))) ⟨0,es1,clock1⟩ [0,2,3,5,12,13,14,34,35,36] [0,1,2] [0] [0,1] ?_ (by kernel_rfl) rfl rfl rfl ?_
     ·exact⟨by simp,by simp,by simpa using hm1⟩
     rintro⟨j,es4,clock4⟩ ⟨hj0,hj,hmj⟩
     dsimp only at hj0 hj hmj ⊢
     refine Zs [zR 0] [] [zB 37 (decide (j<(↑(List.map eDot x.o.dots).length:Int)))] ?_
     refine J_seq ?_
     refine cC (t:=decide (j<(↑(List.map eDot x.o.dots).length:Int))) (fun hlt1=>?_) (fun hlt1=>?_)
     ·have hlt3:j<x.o.dots.length:=by simpa using hlt1
      obtain⟨d,hd⟩:∃d,x.o.dots[j.toNat]?=some d:=⟨_,List.getElem?_eq_getElem (by omega)⟩
      refine J_read0 1 rfl j.toNat (map_at hd) (by kernel_rfl) (fun b2 off2 cs2 ty2 fz2 ha2 hrd2=>?_)
      cases ha2
      have hrd2_0:=rd0 (hrd2 0 _ rfl)
      have hrd2_1:=hrd2 1 _ rfl
      have hrd2_2:=hrd2 2 _ rfl
      try simp only[aQ]
      refine J_skip (J_seq (J_block ?_))
      refine Zu [.rd 0 [] 0 2,.rd 1 [.r 1 (some (nI d.place)),.r 1 (some (nI d.time)),.r 1 (some (nI d.no))] 0 0,.wr 2 [] 0,.wr 3 (hnO 3 3) 0] [(3,[])] [37] (fun nu3=>[zP 7 (nu3 0)]) o0 (fun nu3=>[(nu3 0,.cells #[nI d.place,nI d.time,nI d.no] 177 (0,0))]) (fun nu3=>(oC hj0 (oC (show j<(↑(List.map eDot x.o.dots).length:Int) from by simp;omega) (oC hrd2_0 (oC hrd2_1 (oC hrd2_2 oN)))))) (fun nu3=>?_)
      refine jT [(0,true),(1,true),(2,true),(3,true),(4,true),(5,true),(6,false)] [] ?_
      refine Ya (Rds 0 3++[.rd 3 [.o 1 none] 0 0]) [] [zV 40 (.map (some (nu1 0))),zV 43 (.string x.o.text)] ?_
      refine JRg_lookr (.o 0 none) (nu1 0) 327 9 216 (IsKey TypeDesc.string) (.string x.o.text) (.map none) false (some 44) (by kernel_rfl) (by kernel_rfl) (by kernel_rfl) keyOk_9 (by first|exact⟨_,_,_,rfl⟩|simp[MapKept.IsKey]) (by kernel_rfl) rfl hgm (fun hno=>?_) (fun v hv=>?_)
      ·rw[strG_in hT]at hno
       cases hno
      ·rw[strG_in hT]at hv
       cases hv
       refine Ya [.rd 5 (hnO 3 3) 0 0] [40,43] [zV 45 (.agg #[nI d.place,nI d.time,nI d.no])] ?_
       refine JRg_put 2 (mb x.o.text) 216 177 4 okDot (.agg #[.int .i64 d.place,.int .i64 d.time,.int .i64 d.no]) (.bool true) none (by kernel_rfl) (by kernel_rfl) (by kernel_rfl) keyOk_177 (by first|exact⟨_,_,_,rfl⟩|simp[MapKept.IsKey]) rfl hmj (fun es2 clock2 hm2 hsz2=>?_)
       refine JR_end (J_eb ?_)
       refine Zp [.rd 0 [] 0 1,zR 1] [] [zI 36 (j+1)] (oC (show IntKind.i64.wrap (j+1)=j+1 from wrap_i64 (by omega) (by omega)) oN) ?_
       refine J_backx ⟨j+1,_,_⟩ [0,2,3,5,12,13,14,34,35,36] [0,1,2] [0] [0,1] ?_ ?_ (by kernel_rfl) rfl rfl rfl
       ·refine⟨by simp only;omega,by simp only;omega,?_⟩
        dsimp only
        rw[←take_snoc hj0 hd,←List.append_assoc]
        exact hm2.congr (dotSet_snoc (d:=d))
       ·simp only
        omega
     ·have hjl:(x.o.dots.take j.toNat)=x.o.dots:=List.take_of_length_le (by simp at hlt1;omega)
      rw[hjl,←goneDots_new hx hi0 hrem]at hmj
      refine J_exit rfl ?_
      refine J_eb ?_
      refine J_hide 2 rfl ?_
      refine J_stp (stp_conv 1 rfl (mapg_eqv hmj)) ?_
      refine J_stp (stp_join 1 0 iT (cs':=(ks).map fun t=>cMapG (mb t) okDot (dotSet (goneDots (l.take (i+1).toNat) t))) rfl rfl (by decide) (by rw[List.getElem?_map,hit];rfl) hE) ?_
      try simp only[aQ]
      refine Zp [.rd 0 [] 0 1,zR 1] [37] [zI 14 (i+1)] (oC (show IntKind.i64.wrap (i+1)=i+1 from wrap_i64 (by omega) (by omega)) oN) ?_
      try simp only[aQ]
      refine J_backx ⟨i+1,_,_,ks,mb⟩ [0,2,3,12,13,14] [0] [0] [0] ?_ ?_ (by kernel_rfl) rfl rfl rfl
      ·exact⟨by simp only;omega,by simp only;omega,hgm,hnd2,fun z hz hzr=>hall2 z hz hzr⟩
      ·simp only
       omega
   ·have hT:x.o.text∈ks++[x.o.text]:=by simp
    have hit:(ks++[x.o.text])[ks.length]?=some x.o.text:=by simp
    have hnd2:(ks++[x.o.text]).Nodup:=List.nodup_append.2 ⟨hnd,by simp,fun a ha b hb=>by
     rw[List.mem_singleton]at hb
     subst hb
     exact fun he=>hT0 (by rw[←he];exact ha)⟩
    have hall2:∀z∈l.take (i+1).toNat,z.o.remove=true→z.o.text∈ks++[x.o.text]:=fun z hz hzr=>by
     rw[←take_snoc hi0 hx,List.mem_append,List.mem_singleton]at hz
     rcases hz with hz|rfl
     ·exact List.mem_append_left _ (hall z hz hzr)
     ·exact hT
    have hg0:goneDots (l.take i.toNat) x.o.text=[]:=goneDots_none fun z hz hzr he=>hT0 (he ▸ hall z hz hzr)
    try simp only[aQ]
    refine J_skip (J_seq (J_block ?_))
    refine Zu [.rd 0 [] 0 2,.rd 1 [.r 0 (some (nI x.o.no)),.r 0 (some (.string x.o.key)),.r 0 (some (nI x.o.kind)),.r 0 (some (.string x.o.text)),.r 0 (some (nI x.o.n)),.r 0 (some (.bool x.o.remove)),.r 0 (some (.slice (a1_0,c1_0).fst ((List.map eDot x.o.dots).length) c1_0)),.r 0 (some (nI x.d.place)),.r 0 (some (nI x.d.time)),.r 0 (some (nI x.d.no)),.r 0 (some (nI x.w))] 0 0,.wr 2 [] 0,.wr 3 (hnO 1 11) 0] [(3,[])] [15] (fun nu2=>[zP 5 (nu2 0)]) o0 (fun nu2=>[(nu2 0,.cells #[nI x.o.no,.string x.o.key,nI x.o.kind,.string x.o.text,nI x.o.n,.bool x.o.remove,.slice (a1_0,c1_0).fst ((List.map eDot x.o.dots).length) c1_0,nI x.d.place,nI x.d.time,nI x.d.no,nI x.w] 271 (0,0))]) (fun nu2=>(oC hi0 (oC hlt2 (oC hrd1_0 (oC hrd1_1 (oC hrd1_2 (oC hrd1_3 (oC hrd1_4 (oC hrd1_5 (oC hrd1_6 (oC hrd1_7 (oC hrd1_8 (oC hrd1_9 (oC hrd1_10 oN)))))))))))))) (fun nu2=>?_)
    refine Zs [zR 0,zR 1,.rd 2 [.o 1 none] 0 0] [] [zB 20 x.o.remove] ?_
    refine J_condT x.o.remove (by kernel_rfl) (by kernel_rfl) (by simpa using ‹_›) ?_
    refine J_seq ?_
    refine jS [(0,true),(1,true),(2,true),(3,true),(4,true),(5,true)] [] ?_
    refine Ya (Rds 0 3++[.rd 3 [.o 1 none] 0 0]) [20] [zV 21 (.map (some (nu1 0))),zV 24 (.string x.o.text)] ?_
    refine JRg_lookr (.o 0 none) (nu1 0) 327 9 216 (IsKey TypeDesc.string) (.string x.o.text) (.map none) false (some 25) (by kernel_rfl) (by kernel_rfl) (by kernel_rfl) keyOk_9 (by first|exact⟨_,_,_,rfl⟩|simp[MapKept.IsKey]) (by kernel_rfl) rfl hm (fun hno=>?_) (fun v hv=>?_)
    ·refine Ya [.rd 5 [] 0 0] [25,21,24] [(26,.val (.bool true))] ?_
     refine JR_end ?_
     refine cTt ?_
     refine jT [(0,true),(1,true),(2,true),(3,true),(4,false),(5,false)] [] ?_
     refine Ym (Rds 0 3++[.rd 3 [.o 1 none] 0 0,.wr 4 [] 0]) [26] (fun nu3=>[zV 27 (.map (some (nu1 0))),zV 30 (.string x.o.text),zV 31 (.map (some (nu3 0)))]) o0 (fun nu3=>[(nu3 0,Obj.map #[] 0)]) [] (fun nu3=>?_)
     refine JRg_put 0 (nu1 0) 327 9 216 (IsKey TypeDesc.string) (.string x.o.text) (.map (some (nu3 0))) none (by kernel_rfl) (by kernel_rfl) (by kernel_rfl) keyOk_9 (by first|exact⟨_,_,_,rfl⟩|simp[MapKept.IsKey]) rfl hm (fun es2 clock2 hm2 hsz2=>?_)
     refine JR_end ?_
     refine Zs [zR 0,zR 1,.rd 2 [.o 1 none] 0 0,zR 3,zR 4] [] [zS 34 (a1_0,c1_0).fst ((List.map eDot x.o.dots).length) c1_0,zI 35 ((↑(List.map eDot x.o.dots).length:Int)),zI 36 0] ?_
     refine J_block ?_
     have hgm:MapG (IsKey .string) es2 (strG (ks++[x.o.text]) fun t=>.map (some (upd mb x.o.text (nu3 0) t))):=hm2.congr (strG_newm hT0)
     have hm1:MapG okDot #[] (dotSet (goneDots (l.take i.toNat) x.o.text)):=by
      rw[hg0]
      exact(MapG.empty _).congr dotSet_nil
     have hE:=map_new (t:=x.o.text) (Q':=fun t=>cMapG (upd mb x.o.text (nu3 0) t) okDot (dotSet (goneDots (l.take (i+1).toNat) t))) (Q:=fun t=>cMapG (mb t) okDot (dotSet (goneDots (l.take i.toNat) t))) (ks:=ks) fun s hs=>by
      have hne:s≠x.o.text:=fun he=>hT0 (he ▸ hs)
      show cMapG (upd mb x.o.text (nu3 0) s) okDot (dotSet (goneDots (l.take (i+1).toNat) s))=cMapG (mb s) okDot (dotSet (goneDots (l.take i.toNat) s))
      rw[goneDots_other hx hi0 hne,upd_ne _ _ hne]
     refine J_loopx (fun y:GoneS=>[zS 0 (sA b1 off1) l.length c,zV 2 (.map none),zV 3 (.map (some (nu1 0))),zP 5 (nu2 0),zS 12 (sA b1 off1) l.length c,zI 13 (↑l.length:Int),zI 14 i,zV 27 (.map (some (nu1 0))),zV 30 (.string x.o.text),zV 31 (.map (some (nu3 0))),zS 34 (a1_0,c1_0).fst ((List.map eDot x.o.dots).length) c1_0,zI 35 ((↑(List.map eDot x.o.dots).length:Int)),zI 36 y.i]) (fun y:GoneS=>[(nu1 0,Obj.map es2 clock2),(nu2 0,.cells #[nI x.o.no,.string x.o.key,nI x.o.kind,.string x.o.text,nI x.o.n,.bool x.o.remove,.slice (a1_0,c1_0).fst ((List.map eDot x.o.dots).length) c1_0,nI x.d.place,nI x.d.time,nI x.d.no,nI x.w] 271 (0,0)),(nu3 0,.map y.es y.clock)]) (fun y:GoneS=>[cStar (ks.map fun t=>cMapG (mb t) okDot (dotSet (goneDots (l.take i.toNat) t)))]) (fun y:GoneS=>[(.slice (sA b1 off1) l.length c,(D.sl 11 (List.map eDone l))),(.slice (a1_0,c1_0).fst ((List.map eDot x.o.dots).length) c1_0,(D.sl 3 (List.map eDot x.o.dots)))]) (fun y:GoneS=>(x.o.dots.length - y.i).toNat) (fun y:GoneS=>(0≤y.i∧y.i≤x.o.dots.length∧MapG okDot y.es (dotSet (goneDots (l.take i.toNat) x.o.text++x.o.dots.take y.i.toNat)))) ⟨0,#[],0⟩ [0,2,3,5,12,13,14,27,30,31,34,35,36] [0,1,2] [0] [0,1] ?_ (by kernel_rfl) rfl rfl rfl ?_
     ·exact⟨by simp,by simp,by simpa using hm1⟩
     rintro⟨j,es4,clock4⟩ ⟨hj0,hj,hmj⟩
     dsimp only at hj0 hj hmj ⊢
     refine Zs [zR 0] [] [zB 37 (decide (j<(↑(List.map eDot x.o.dots).length:Int)))] ?_
     refine J_seq ?_
     refine cC (t:=decide (j<(↑(List.map eDot x.o.dots).length:Int))) (fun hlt1=>?_) (fun hlt1=>?_)
     ·have hlt3:j<x.o.dots.length:=by simpa using hlt1
      obtain⟨d,hd⟩:∃d,x.o.dots[j.toNat]?=some d:=⟨_,List.getElem?_eq_getElem (by omega)⟩
      refine J_read0 1 rfl j.toNat (map_at hd) (by kernel_rfl) (fun b2 off2 cs2 ty2 fz2 ha2 hrd2=>?_)
      cases ha2
      have hrd2_0:=rd0 (hrd2 0 _ rfl)
      have hrd2_1:=hrd2 1 _ rfl
      have hrd2_2:=hrd2 2 _ rfl
      try simp only[aQ]
      refine J_skip (J_seq (J_block ?_))
      refine Zu [.rd 0 [] 0 2,.rd 1 [.r 1 (some (nI d.place)),.r 1 (some (nI d.time)),.r 1 (some (nI d.no))] 0 0,.wr 2 [] 0,.wr 3 (hnO 3 3) 0] [(3,[])] [37] (fun nu4=>[zP 7 (nu4 0)]) o0 (fun nu4=>[(nu4 0,.cells #[nI d.place,nI d.time,nI d.no] 177 (0,0))]) (fun nu4=>(oC hj0 (oC (show j<(↑(List.map eDot x.o.dots).length:Int) from by simp;omega) (oC hrd2_0 (oC hrd2_1 (oC hrd2_2 oN)))))) (fun nu4=>?_)
      refine jT [(0,true),(1,true),(2,true),(3,true),(4,true),(5,true),(6,false)] [] ?_
      refine Ya (Rds 0 3++[.rd 3 [.o 1 none] 0 0]) [] [zV 40 (.map (some (nu1 0))),zV 43 (.string x.o.text)] ?_
      refine JRg_lookr (.o 0 none) (nu1 0) 327 9 216 (IsKey TypeDesc.string) (.string x.o.text) (.map none) false (some 44) (by kernel_rfl) (by kernel_rfl) (by kernel_rfl) keyOk_9 (by first|exact⟨_,_,_,rfl⟩|simp[MapKept.IsKey]) (by kernel_rfl) rfl hgm (fun hno=>?_) (fun v hv=>?_)
      ·rw[strG_in hT]at hno
       cases hno
      ·rw[strG_in hT,upd_at]at hv
       cases hv
       refine Ya [.rd 5 (hnO 3 3) 0 0] [40,43] [zV 45 (.agg #[nI d.place,nI d.time,nI d.no])] ?_
       refine JRg_put 2 (nu3 0) 216 177 4 okDot (.agg #[.int .i64 d.place,.int .i64 d.time,.int .i64 d.no]) (.bool true) none (by kernel_rfl) (by kernel_rfl) (by kernel_rfl) keyOk_177 (by first|exact⟨_,_,_,rfl⟩|simp[MapKept.IsKey]) rfl hmj (fun es3 clock3 hm3 hsz3=>?_)
       refine JR_end (J_eb ?_)
       refine Zp [.rd 0 [] 0 1,zR 1] [] [zI 36 (j+1)] (oC (show IntKind.i64.wrap (j+1)=j+1 from wrap_i64 (by omega) (by omega)) oN) ?_
       refine J_backx ⟨j+1,_,_⟩ [0,2,3,5,12,13,14,27,30,31,34,35,36] [0,1,2] [0] [0,1] ?_ ?_ (by kernel_rfl) rfl rfl rfl
       ·refine⟨by simp only;omega,by simp only;omega,?_⟩
        dsimp only
        rw[←take_snoc hj0 hd,←List.append_assoc]
        exact hm3.congr (dotSet_snoc (d:=d))
       ·simp only
        omega
     ·have hjl:(x.o.dots.take j.toNat)=x.o.dots:=List.take_of_length_le (by simp at hlt1;omega)
      rw[hjl,←goneDots_new hx hi0 hrem]at hmj
      refine J_exit rfl ?_
      refine J_eb ?_
      refine J_hide 2 rfl ?_
      refine J_stp (stp_conv 1 rfl (mapg_eqv hmj)) ?_
      refine J_stp (stp_join 1 0 ks.length (cs':=(ks++[x.o.text]).map fun t=>cMapG ((upd mb x.o.text (nu3 0)) t) okDot (dotSet (goneDots (l.take (i+1).toNat) t))) rfl rfl (by decide) (by rw[List.getElem?_map,hit];show some (cMapG (upd mb _ _ _) _ _)=_;rw[upd_at]) hE) ?_
      try simp only[aQ]
      refine Zp [.rd 0 [] 0 1,zR 1] [37] [zI 14 (i+1)] (oC (show IntKind.i64.wrap (i+1)=i+1 from wrap_i64 (by omega) (by omega)) oN) ?_
      try simp only[aQ]
      refine J_backx ⟨i+1,_,_,ks++[x.o.text],(upd mb x.o.text (nu3 0))⟩ [0,2,3,12,13,14] [0] [0] [0] ?_ ?_ (by kernel_rfl) rfl rfl rfl
      ·exact⟨by simp only;omega,by simp only;omega,hgm,hnd2,fun z hz hzr=>hall2 z hz hzr⟩
      ·simp only
       omega
    ·rw[strG_out hT0]at hv
     cases hv
 ·have hil:l.take i.toNat=l:=List.take_of_length_le (by simp at hlt;omega)
  rw[hil]at hall
  rw[hil]
  refine J_exit rfl ?_
  refine Zv [.wr 0 [] 0,zR 1] [] [15,12,13,14] (fun nu2=>[zV 8 (.map (some (nu2 0)))]) o0 (fun nu2=>[(nu2 0,Obj.map #[] 0)]) (fun nu2=>?_)
  refine J_seq ?_
  refine Zs (Rds 0 3) [0] [zS 49 a l.length c,zI 50 (↑l.length:Int),zI 51 0] ?_
  refine J_block ?_
  refine J_stp (stp_add (cStar []) star_nil) ?_
  refine J_stp (stp_cs [1,0] rfl) ?_
  have hm4:MapG (IsKey .string) #[] (strG [] fun _=>.nilIface):=(MapG.empty _).congr fun k=>(strG_nil _ k).symm
  refine J_loopx (fun y:OutS=>[zV 2 (.map none),zV 3 (.map (some (nu1 0))),zV 8 (.map (some (nu2 0))),zS 49 a l.length c,zI 50 (↑l.length:Int),zI 51 y.i]) (fun y:OutS=>[(nu1 0,Obj.map es clock),(nu2 0,.map y.es y.clock)]) (fun y:OutS=>[cStar (y.ks.map fun t=>cAcc (y.F t) 177 3 ((outDots l (l.take y.i.toNat) t).map eDot)),cStar (ks.map fun t=>cMapG (mb t) okDot (dotSet (goneDots l t)))]) (fun y:OutS=>[(.slice a l.length c,(D.sl 11 (List.map eDone l)))]) (fun y:OutS=>(l.length - y.i).toNat) (fun y:OutS=>(0≤y.i∧y.i≤l.length∧MapG (IsKey .string) y.es (strG y.ks y.F)∧MapKept.Stamped y.es y.clock∧y.ks.Nodup∧∀t,t∈y.ks↔outDots l (l.take y.i.toNat) t≠[])) ⟨0,#[],0,[],fun _=>.nilIface⟩ [2,3,8,49,50,51] [0,1] [0,1] [0] ?_ (by kernel_rfl) rfl rfl rfl ?_
  ·exact⟨by simp,by simp,hm4,MapKept.stamped_empty 0,by simp,by simp[outDots]⟩
  rintro⟨q,es1,clock1,ks1,F⟩ ⟨hq0,hq,hmo,hst,hnd1,hiff⟩
  dsimp only at hq0 hq hmo hst hnd1 hiff ⊢
  refine Zs [zR 0] [] [zB 52 (decide (q<(↑l.length:Int)))] ?_
  refine J_seq ?_
  refine cC (t:=decide (q<(↑l.length:Int))) (fun hlt1=>?_) (fun hlt1=>?_)
  ·have hlt3:q<l.length:=by simpa using hlt1
   obtain⟨x,hx⟩:∃x,l[q.toNat]?=some x:=⟨_,List.getElem?_eq_getElem (by omega)⟩
   have hdx:=hdl x (List.mem_of_getElem? hx)
   refine J_read1 0 rfl q.toNat (map_at hx) (by kernel_rfl) (fun b1 off1 cs1 ty1 fz1 a1_0 c1_0 ha1 hrd1=>?_)
   cases ha1
   have hrd1_0:=rd0 (hrd1 0 _ rfl)
   have hrd1_1:=hrd1 1 _ rfl
   have hrd1_2:=hrd1 2 _ rfl
   have hrd1_3:=hrd1 3 _ rfl
   have hrd1_4:=hrd1 4 _ rfl
   have hrd1_5:=hrd1 5 _ rfl
   have hrd1_6:=hrd1 6 _ rfl
   have hrd1_7:=hrd1 7 _ rfl
   have hrd1_8:=hrd1 8 _ rfl
   have hrd1_9:=hrd1 9 _ rfl
   have hrd1_10:=hrd1 10 _ rfl
   cases hrem:x.o.remove with
   | true=>
    try simp only[aQ]
    refine J_skip (J_seq (J_block ?_))
    refine Zu [.rd 0 [] 0 2,.rd 1 [.r 0 (some (nI x.o.no)),.r 0 (some (.string x.o.key)),.r 0 (some (nI x.o.kind)),.r 0 (some (.string x.o.text)),.r 0 (some (nI x.o.n)),.r 0 (some (.bool x.o.remove)),.r 0 (some (.slice (a1_0,c1_0).fst ((List.map eDot x.o.dots).length) c1_0)),.r 0 (some (nI x.d.place)),.r 0 (some (nI x.d.time)),.r 0 (some (nI x.d.no)),.r 0 (some (nI x.w))] 0 0,.wr 2 [] 0,.wr 3 (hnO 2 11) 0] [(3,[])] [52] (fun nu3=>[zP 10 (nu3 0)]) o0 (fun nu3=>[(nu3 0,.cells #[nI x.o.no,.string x.o.key,nI x.o.kind,.string x.o.text,nI x.o.n,.bool x.o.remove,.slice (a1_0,c1_0).fst ((List.map eDot x.o.dots).length) c1_0,nI x.d.place,nI x.d.time,nI x.d.no,nI x.w] 271 (0,0))]) (fun nu3=>(oC hq0 (oC hlt3 (oC hrd1_0 (oC hrd1_1 (oC hrd1_2 (oC hrd1_3 (oC hrd1_4 (oC hrd1_5 (oC hrd1_6 (oC hrd1_7 (oC hrd1_8 (oC hrd1_9 (oC hrd1_10 oN)))))))))))))) (fun nu3=>?_)
    refine Zt [zR 0,zR 1,.rd 2 [.o 2 none] 0 0,.rd 3 [] 0 7,zR 4,.rd 5 [] 1 0,.rd 6 [] 1 0,.rd 7 [] 1 0,.rd 8 [] 1 0,.rd 9 [] 1 0,.rd 10 [] 1 0,.rd 11 [] 1 0,.rd 12 [] 1 0,.rd 13 [] 1 0,zR 14] [] [zB 69 false] (oC (show(!x.o.remove)=false from by simp;omega) oN) ?_
    refine cF ?_
    refine J_skip (J_eb ?_)
    refine Zp [.rd 0 [] 0 1,zR 1] [69] [zI 51 (q+1)] (oC (show IntKind.i64.wrap (q+1)=q+1 from wrap_i64 (by omega) (by omega)) oN) ?_
    have e4:(fun t=>cAcc (F t) 177 3 ((outDots l (l.take q.toNat) t).map eDot))=fun t=>cAcc (F t) 177 3 ((outDots l (l.take (q+1).toNat) t).map eDot):=funext fun t=>by rw[outDots_skip hx hq0 (.inl hrem)]
    rw[e4]
    refine J_backx ⟨q+1,_,_,ks1,F⟩ [2,3,8,49,50,51] [0,1] [0,1] [0] ?_ ?_ (by kernel_rfl) rfl rfl rfl
    ·exact⟨by simp only;omega,by simp only;omega,hmo,hst,hnd1,fun t=>by rw[outDots_skip hx hq0 (.inl hrem)];exact hiff t⟩
    ·simp only
     omega
   | false=>
    by_cases hT:x.o.text∈ks
    ·obtain⟨iT,hit⟩:=List.getElem?_of_mem hT
     try simp only[aQ]
     refine J_skip (J_seq (J_block ?_))
     refine Zu [.rd 0 [] 0 2,.rd 1 [.r 0 (some (nI x.o.no)),.r 0 (some (.string x.o.key)),.r 0 (some (nI x.o.kind)),.r 0 (some (.string x.o.text)),.r 0 (some (nI x.o.n)),.r 0 (some (.bool x.o.remove)),.r 0 (some (.slice (a1_0,c1_0).fst ((List.map eDot x.o.dots).length) c1_0)),.r 0 (some (nI x.d.place)),.r 0 (some (nI x.d.time)),.r 0 (some (nI x.d.no)),.r 0 (some (nI x.w))] 0 0,.wr 2 [] 0,.wr 3 (hnO 2 11) 0] [(3,[])] [52] (fun nu3=>[zP 10 (nu3 0)]) o0 (fun nu3=>[(nu3 0,.cells #[nI x.o.no,.string x.o.key,nI x.o.kind,.string x.o.text,nI x.o.n,.bool x.o.remove,.slice (a1_0,c1_0).fst ((List.map eDot x.o.dots).length) c1_0,nI x.d.place,nI x.d.time,nI x.d.no,nI x.w] 271 (0,0))]) (fun nu3=>(oC hq0 (oC hlt3 (oC hrd1_0 (oC hrd1_1 (oC hrd1_2 (oC hrd1_3 (oC hrd1_4 (oC hrd1_5 (oC hrd1_6 (oC hrd1_7 (oC hrd1_8 (oC hrd1_9 (oC hrd1_10 oN)))))))))))))) (fun nu3=>?_)
     refine J_seq ?_
     refine J_stp (stp_take 1 iT rfl (by rw[List.getElem?_map,hit];rfl)) ?_
     refine J_openmapg 1 rfl fun es9 clock9 hm9=>?_
     refine jT [(0,true),(1,true),(2,true),(3,true),(4,true),(5,true),(6,true),(7,true),(8,true),(9,true),(10,true),(11,true),(12,true),(13,true),(14,true)] [] ?_
     refine Yp ([zR 0,zR 1,.rd 2 [.o 2 none] 0 0,.rd 3 [] 0 6]++Rds 4 8++[.rd 8 [.o 2 none] 0 0]) [] [zB 59 true,zV 60 (.map (some (nu1 0))),zV 63 (.string x.o.text)] (oC (show(!x.o.remove)=true from by simp;omega) oN) ?_
     refine JRg_lookq (.o 0 none) (nu1 0) 327 9 216 (IsKey TypeDesc.string) (.string x.o.text) (.map none) false (some 64) (by kernel_rfl) (by kernel_rfl) (by kernel_rfl) keyOk_9 (by first|exact⟨_,_,_,rfl⟩|simp[MapKept.IsKey]) (by kernel_rfl) rfl hm (fun hno=>?_) (fun v hv=>?_)
     ·rw[strG_in hT]at hno
      cases hno
     ·rw[strG_in hT]at hv
      cases hv
      refine Ya [zR 10,.rd 11 (hnO 2 3) 0 0] [60,63] [zV 66 (.agg #[nI x.d.place,nI x.d.time,nI x.d.no])] ?_
      refine JRg_lookq (.o 3 none) (mb x.o.text) 216 177 4 okDot (.agg #[.int .i64 x.d.place,.int .i64 x.d.time,.int .i64 x.d.no]) (.bool false) false (some 67) (by kernel_rfl) (by kernel_rfl) (by kernel_rfl) keyOk_177 (by first|exact⟨_,_,_,rfl⟩|simp[MapKept.IsKey]) (by kernel_rfl) rfl hm9 (fun hno=>?_) (fun v hv=>?_)
      ·have hout:x.d∉goneDots l x.o.text:=fun h=>by
        rw[dotSet_in h]at hno
        cases hno
       refine Ya [zR 13,zR 14] [67,66,64,59] [zB 69 true] ?_
       refine JR_end ?_
       refine cTt ?_
       refine J_hide 3 rfl ?_
       refine J_stp (stp_conv 2 rfl (mapg_eqv hm9)) ?_
       refine J_stp (stp_join 2 1 iT (cs':=ks.map fun t=>cMapG (mb t) okDot (dotSet (goneDots l t))) rfl rfl (by decide) (by rw[List.getElem?_map,hit];rfl) rfl) ?_
       have hlen:=outDots_len l (l.take q.toNat) x.o.text
       rw[List.length_take]at hlen
       by_cases hT2:x.o.text∈ks1
       ·obtain⟨i2,hit2⟩:=List.getElem?_of_mem hT2
        refine J_stp (stp_take (c:=cAcc (F x.o.text) 177 3 ((outDots l (l.take q.toNat) x.o.text).map eDot)) 0 i2 rfl (by rw[List.getElem?_map,hit2];rfl)) ?_
        refine J_stpx (stp_accform 1 rfl) fun y hF=>?_
        obtain⟨av,nv,cv⟩:=y
        obtain⟨hF,hn⟩:=hF
        dsimp only at hF hn
        rw[List.length_map]at hn
        have hnb:nv≤4000000:=by omega
        rw[hF]
        refine Nm [(cStar (List.map (fun t=>cMapG (mb t) okDot (dotSet (goneDots l t))) ks)),cAcc (.slice av nv cv) 177 3 (List.map eDot (outDots l (List.take q.toNat l) x.o.text)),(cStar ((List.map (fun t=>cAcc (F t) 177 3 (List.map eDot (outDots l (List.take q.toNat l) t))) ks1).eraseIdx i2))] ?_
        refine jT [(0,true),(1,true),(2,true),(3,true),(4,true),(5,true),(6,true),(7,true),(8,true),(9,true),(10,true),(11,false),(12,false),(13,false)] [(12,[]),(13,[1])] ?_
        refine Ya (Rds 0 3++[.rd 3 [.o 2 none] 0 0]++Rds 4 7++[.rd 7 [.o 2 none] 0 0]) [69] [zV 70 (.map (some (nu2 0))),zV 73 (.string x.o.text),zV 74 (.map (some (nu2 0))),zV 77 (.string x.o.text)] ?_
        refine JRg_lookr (.o 1 none) (nu2 0) 276 9 53 (IsKey TypeDesc.string) (.string x.o.text) (.slice none 0 0) false (some 78) (by kernel_rfl) (by kernel_rfl) (by kernel_rfl) keyOk_9 (by first|exact⟨_,_,_,rfl⟩|simp[MapKept.IsKey]) (by kernel_rfl) rfl hmo (fun hno=>?_) (fun v hv=>?_)
        ·rw[strG_in hT2]at hno
         cases hno
        ·rw[strG_in hT2,hF]at hv
         cases hv
         refine Ym [zR 9,.rd 10 (hnO 2 3) 0 0,.wr 11 [] 0] [74,77] (fun nu4=>[zS 81 (sA (nu4 0) 0) 1 1]) o0 (fun nu4=>[(nu4 0,.cells #[nI x.d.place,nI x.d.time,nI x.d.no] 177 (0,0))]) [(12,[]),(13,[1])] (fun nu4=>?_)
         refine JR_appm 1 53 177 3 24 (.agg #[.int .i64 0,.int .i64 0,.int .i64 0]) (a0:=av) (len:=nv) (cap0:=cv) (ax:=(some (⟨nu4 0,0,none⟩))) (m:=1) (c:=1) (dst:=(some 82)) [x.d] (by kernel_rfl) (by kernel_rfl) (by kernel_rfl) (by kernel_rfl) rfl (by decide) rfl (fun _ _ _ s=>src_one s 3 rfl rfl ⟨.inl ⟨rfl,rfl⟩,⟨.inl ⟨rfl,rfl⟩,⟨.inl ⟨rfl,rfl⟩,trivial⟩⟩⟩) (by simp only[maxLen];omega) (by omega) (fun av1 cv1=>?_)
         try simp only[aQ]
         refine JRg_puts 1 (nu2 0) 276 9 53 (IsKey TypeDesc.string) (.string x.o.text) (.slice av1 (nv+1) cv1) none (by kernel_rfl) (by kernel_rfl) (by kernel_rfl) keyOk_9 (by first|exact⟨_,_,_,rfl⟩|simp[MapKept.IsKey]) rfl hmo (fun es2 clock2 hm2 hsz2 hst2=>?_)
         try simp only[aQ]
         refine JR_end ?_
         try simp only[aQ]
         refine J_eb ?_
         try simp only[aQ]
         refine Zp [.rd 0 [] 0 1,zR 1] [] [zI 51 (q+1)] (oC (show IntKind.i64.wrap (q+1)=q+1 from wrap_i64 (by omega) (by omega)) oN) ?_
         try simp only[aQ]
         refine Nm [(cStar (List.map (fun t=>cMapG (mb t) okDot (dotSet (goneDots l t))) ks)),(cStar ((List.map (fun t=>cAcc (F t) 177 3 (List.map eDot (outDots l (List.take q.toNat l) t))) ks1).eraseIdx i2)),cAcc (.slice av1 (nv+1) cv1) 177 3 (List.map eDot (outDots l (List.take q.toNat l) x.o.text++[x.d]))] ?_
         have hE2:=map_out (Q:=fun t=>cAcc (F t) 177 3 ((outDots l (l.take q.toNat) t).map eDot)) (Q':=fun t=>cAcc (upd F x.o.text (.slice av1 (nv+1) cv1) t) 177 3 ((outDots l (l.take (q+1).toNat) t).map eDot)) hnd1 hit2 fun s hs=>by
          show cAcc (upd F x.o.text (.slice av1 (nv+1) cv1) s) _ 3 ((outDots l (l.take (q+1).toNat) s).map eDot)=cAcc (F s) _ 3 ((outDots l (l.take q.toNat) s).map eDot)
          rw[upd_ne _ _ hs,outDots_other hx hq0 hs]
         refine J_stp (stp_join 2 1 i2 (cs':=ks1.map fun t=>cAcc (upd F x.o.text (.slice av1 (nv+1) cv1) t) 177 3 ((outDots l (l.take (q+1).toNat) t).map eDot)) rfl rfl (by decide) (by
          rw[List.getElem?_map,hit2]
          show some (cAcc (upd F x.o.text (.slice av1 (nv+1) cv1) x.o.text) _ 3 ((outDots l (l.take (q+1).toNat) x.o.text).map eDot))=_
          rw[upd_at,outDots_new hx hq0 hrem hout]) hE2) ?_
         refine Nm [(cStar (List.map (fun t=>cMapG (mb t) okDot (dotSet (goneDots l t))) ks)),(cStar (List.map (fun t=>cAcc (upd F x.o.text (Value.slice av1 (nv+1) cv1) t) 177 3 (List.map eDot (outDots l (List.take (q+1).toNat l) t))) ks1))] ?_
         refine J_stp (stp_cs [1,0] rfl) ?_
         refine Nm [(cStar (List.map (fun t=>cAcc (upd F x.o.text (Value.slice av1 (nv+1) cv1) t) 177 3 (List.map eDot (outDots l (List.take (q+1).toNat l) t))) ks1)),(cStar (List.map (fun t=>cMapG (mb t) okDot (dotSet (goneDots l t))) ks))] ?_
         refine J_backx ⟨q+1,_,_,ks1,upd F x.o.text (.slice av1 (nv+1) cv1)⟩ [2,3,8,49,50,51] [0,1] [0,1] [0] ?_ ?_ (by kernel_rfl) rfl rfl rfl
         ·refine⟨by simp only;omega,by simp only;omega,hm2.congr (strG_set hT2),hst2 hst,hnd1,fun t=>?_⟩
          by_cases hs:t=x.o.text
          ·subst hs
           simp only[outDots_new hx hq0 hrem hout]
           simp[hT2]
          ·simp only[outDots_other hx hq0 hs]
           exact hiff t
         ·simp only
          omega
       ·have ho0:outDots l (l.take q.toNat) x.o.text=[]:=Classical.byContradiction fun h=>hT2 ((hiff _).2 h)
        refine J_stp (stp_accm eDot 177 3) ?_
        refine Nm [(cStar (List.map (fun t=>cAcc (F t) 177 3 (List.map eDot (outDots l (List.take q.toNat l) t))) ks1)),(cStar (List.map (fun t=>cMapG (mb t) okDot (dotSet (goneDots l t))) ks)),cAcc (.slice none 0 0) 177 3 (List.map eDot [])] ?_
        refine jT [(0,true),(1,true),(2,true),(3,true),(4,true),(5,true),(6,true),(7,true),(8,true),(9,true),(10,true),(11,false),(12,false),(13,false)] [(12,[]),(13,[1])] ?_
        refine Ya (Rds 0 3++[.rd 3 [.o 2 none] 0 0]++Rds 4 7++[.rd 7 [.o 2 none] 0 0]) [69] [zV 70 (.map (some (nu2 0))),zV 73 (.string x.o.text),zV 74 (.map (some (nu2 0))),zV 77 (.string x.o.text)] ?_
        refine JRg_lookr (.o 1 none) (nu2 0) 276 9 53 (IsKey TypeDesc.string) (.string x.o.text) (.slice none 0 0) false (some 78) (by kernel_rfl) (by kernel_rfl) (by kernel_rfl) keyOk_9 (by first|exact⟨_,_,_,rfl⟩|simp[MapKept.IsKey]) (by kernel_rfl) rfl hmo (fun hno=>?_) (fun v hv=>?_)
        ·refine Ym [.rd 9 [] 0 0,.rd 10 [.o 2 none,.o 2 none,.o 2 none] 0 0,.wr 11 [] 0] [74,77] (fun nu4=>[(81,.val (.slice (some (⟨nu4 0,0,none⟩)) 1 1))]) o0 (fun nu4=>[(nu4 0,.cells #[.int .i64 x.d.place,.int .i64 x.d.time,.int .i64 x.d.no] 177 (0,0))]) [(12,[]),(13,[1])] (fun nu4=>?_)
         refine JR_appm 2 53 177 3 24 (.agg #[.int .i64 0,.int .i64 0,.int .i64 0]) (a0:=none) (len:=0) (cap0:=0) (ax:=(some (⟨nu4 0,0,none⟩))) (m:=1) (c:=1) (dst:=(some 82)) [x.d] (by kernel_rfl) (by kernel_rfl) (by kernel_rfl) (by kernel_rfl) rfl (by decide) rfl (fun _ _ _ s=>src_one s 3 rfl rfl ⟨.inl ⟨rfl,rfl⟩,⟨.inl ⟨rfl,rfl⟩,⟨.inl ⟨rfl,rfl⟩,trivial⟩⟩⟩) (by simp only[maxLen];omega) (by omega) (fun av1 cv1=>?_)
         try simp only[aQ]
         refine JRg_puts 1 (nu2 0) 276 9 53 (IsKey TypeDesc.string) (.string x.o.text) (.slice av1 1 cv1) none (by kernel_rfl) (by kernel_rfl) (by kernel_rfl) keyOk_9 (by first|exact⟨_,_,_,rfl⟩|simp[MapKept.IsKey]) rfl hmo (fun es2 clock2 hm2 hsz2 hst2=>?_)
         try simp only[aQ]
         refine JR_end ?_
         try simp only[aQ]
         refine J_eb ?_
         try simp only[aQ]
         refine Zp [.rd 0 [] 0 1,zR 1] [] [zI 51 (q+1)] (oC (show IntKind.i64.wrap (q+1)=q+1 from wrap_i64 (by omega) (by omega)) oN) ?_
         try simp only[aQ]
         refine Nm [(cStar (List.map (fun t=>cAcc (F t) 177 3 (List.map eDot (outDots l (List.take q.toNat l) t))) ks1)),(cStar (List.map (fun t=>cMapG (mb t) okDot (dotSet (goneDots l t))) ks)),cAcc (.slice av1 1 cv1) 177 3 (List.map eDot [x.d])] ?_
         have hE2:=map_new (t:=x.o.text) (Q:=fun t=>cAcc (F t) 177 3 ((outDots l (l.take q.toNat) t).map eDot)) (Q':=fun t=>cAcc (upd F x.o.text (.slice av1 1 cv1) t) 177 3 ((outDots l (l.take (q+1).toNat) t).map eDot)) (ks:=ks1) fun s hs=>by
          have hne:s≠x.o.text:=fun he=>hT2 (he ▸ hs)
          show cAcc (upd F x.o.text (.slice av1 1 cv1) s) _ 3 ((outDots l (l.take (q+1).toNat) s).map eDot)=cAcc (F s) _ 3 ((outDots l (l.take q.toNat) s).map eDot)
          rw[upd_ne _ _ hne,outDots_other hx hq0 hne]
         refine J_stp (stp_join 2 0 ks1.length (cs':=(ks1++[x.o.text]).map fun t=>cAcc (upd F x.o.text (.slice av1 1 cv1) t) 177 3 ((outDots l (l.take (q+1).toNat) t).map eDot)) rfl rfl (by decide) (by
          rw[List.getElem?_map,show(ks1++[x.o.text])[ks1.length]?=some x.o.text by simp]
          show some (cAcc (upd F x.o.text (.slice av1 1 cv1) x.o.text) _ 3 ((outDots l (l.take (q+1).toNat) x.o.text).map eDot))=_
          rw[upd_at,outDots_new hx hq0 hrem hout,ho0]
          rfl) hE2) ?_
         refine Nm [(cStar (List.map (fun t=>cMapG (mb t) okDot (dotSet (goneDots l t))) ks)),(cStar (List.map (fun t=>cAcc (upd F x.o.text (Value.slice av1 1 cv1) t) 177 3 (List.map eDot (outDots l (List.take (q+1).toNat l) t))) (ks1++[x.o.text])))] ?_
         refine J_stp (stp_cs [1,0] rfl) ?_
         refine Nm [(cStar (List.map (fun t=>cAcc (upd F x.o.text (Value.slice av1 1 cv1) t) 177 3 (List.map eDot (outDots l (List.take (q+1).toNat l) t))) (ks1++[x.o.text]))),(cStar (List.map (fun t=>cMapG (mb t) okDot (dotSet (goneDots l t))) ks))] ?_
         refine J_backx ⟨q+1,_,_,ks1++[x.o.text],upd F x.o.text (.slice av1 1 cv1)⟩ [2,3,8,49,50,51] [0,1] [0,1] [0] ?_ ?_ (by kernel_rfl) rfl rfl rfl
         ·refine⟨by simp only;omega,by simp only;omega,hm2.congr (strG_new hT2),hst2 hst,List.nodup_append.2 ⟨hnd1,by simp,fun a ha b hb=>?_⟩,fun t=>?_⟩
          ·rw[List.mem_singleton]at hb
           subst hb
           exact fun he=>hT2 (by rw[←he];exact ha)
          by_cases hs:t=x.o.text
          ·subst hs
           simp only[outDots_new hx hq0 hrem hout]
           simp
          ·simp only[outDots_other hx hq0 hs]
           rw[List.mem_append,List.mem_singleton]
           exact⟨fun h=>h.elim (hiff t).1 fun h=>absurd h hs,fun h=>.inl ((hiff t).2 h)⟩
         ·simp only
          omega
        ·rw[strG_out hT2]at hv
         cases hv
      ·have hin:x.d∈goneDots l x.o.text:=Classical.byContradiction fun h=>by
        rw[dotSet_out h]at hv
        cases hv
       rw[dotSet_in hin]at hv
       cases hv
       refine Ya [zR 13,zR 14] [67,66,64,59] [zB 69 false] ?_
       refine JR_end ?_
       refine cF ?_
       refine J_skip (J_eb ?_)
       refine Zp [.rd 0 [] 0 1,zR 1] [69] [zI 51 (q+1)] (oC (show IntKind.i64.wrap (q+1)=q+1 from wrap_i64 (by omega) (by omega)) oN) ?_
       refine J_hide 3 rfl ?_
       refine J_stp (stp_conv 2 rfl (mapg_eqv hm9)) ?_
       refine J_stp (stp_join 2 1 iT (cs':=ks.map fun t=>cMapG (mb t) okDot (dotSet (goneDots l t))) rfl rfl (by decide) (by rw[List.getElem?_map,hit];rfl) rfl) ?_
       have e4:(fun t=>cAcc (F t) 177 3 ((outDots l (l.take q.toNat) t).map eDot))=fun t=>cAcc (F t) 177 3 ((outDots l (l.take (q+1).toNat) t).map eDot):=funext fun t=>by rw[outDots_skip hx hq0 (.inr hin)]
       rw[e4]
       refine J_backx ⟨q+1,_,_,ks1,F⟩ [2,3,8,49,50,51] [0,1] [0,1] [0] ?_ ?_ (by kernel_rfl) rfl rfl rfl
       ·exact⟨by simp only;omega,by simp only;omega,hmo,hst,hnd1,fun t=>by rw[outDots_skip hx hq0 (.inr hin)];exact hiff t⟩
       ·simp only
        omega
    ·try simp only[aQ]
     refine J_skip (J_seq (J_block ?_))
     refine Zu [.rd 0 [] 0 2,.rd 1 [.r 0 (some (nI x.o.no)),.r 0 (some (.string x.o.key)),.r 0 (some (nI x.o.kind)),.r 0 (some (.string x.o.text)),.r 0 (some (nI x.o.n)),.r 0 (some (.bool x.o.remove)),.r 0 (some (.slice (a1_0,c1_0).fst ((List.map eDot x.o.dots).length) c1_0)),.r 0 (some (nI x.d.place)),.r 0 (some (nI x.d.time)),.r 0 (some (nI x.d.no)),.r 0 (some (nI x.w))] 0 0,.wr 2 [] 0,.wr 3 (hnO 2 11) 0] [(3,[])] [52] (fun nu3=>[zP 10 (nu3 0)]) o0 (fun nu3=>[(nu3 0,.cells #[nI x.o.no,.string x.o.key,nI x.o.kind,.string x.o.text,nI x.o.n,.bool x.o.remove,.slice (a1_0,c1_0).fst ((List.map eDot x.o.dots).length) c1_0,nI x.d.place,nI x.d.time,nI x.d.no,nI x.w] 271 (0,0))]) (fun nu3=>(oC hq0 (oC hlt3 (oC hrd1_0 (oC hrd1_1 (oC hrd1_2 (oC hrd1_3 (oC hrd1_4 (oC hrd1_5 (oC hrd1_6 (oC hrd1_7 (oC hrd1_8 (oC hrd1_9 (oC hrd1_10 oN)))))))))))))) (fun nu3=>?_)
     refine jS [(0,true),(1,true),(2,true),(3,true),(4,true),(5,true),(6,true),(7,true),(8,true),(9,true),(10,true),(11,true),(12,true),(13,true),(14,true)] [] ?_
     refine Yp ([zR 0,zR 1,.rd 2 [.o 2 none] 0 0,.rd 3 [] 0 6]++Rds 4 8++[.rd 8 [.o 2 none] 0 0]) [] [zB 59 true,zV 60 (.map (some (nu1 0))),zV 63 (.string x.o.text)] (oC (show(!x.o.remove)=true from by simp;omega) oN) ?_
     refine JRg_lookq (.o 0 none) (nu1 0) 327 9 216 (IsKey TypeDesc.string) (.string x.o.text) (.map none) false (some 64) (by kernel_rfl) (by kernel_rfl) (by kernel_rfl) keyOk_9 (by first|exact⟨_,_,_,rfl⟩|simp[MapKept.IsKey]) (by kernel_rfl) rfl hm (fun hno=>?_) (fun v hv=>?_)
     ·refine Ya [.rd 10 [] 0 0,.rd 11 [.o 2 none,.o 2 none,.o 2 none] 0 0] [60,63] [(66,.val (.agg #[.int .i64 x.d.place,.int .i64 x.d.time,.int .i64 x.d.no]))] ?_
      refine JRg_lookqn 216 177 4 _ (.agg #[.int .i64 x.d.place,.int .i64 x.d.time,.int .i64 x.d.no]) (.bool false) false (some 67) (by kernel_rfl) (by kernel_rfl) keyOk_177 (by first|exact⟨_,_,_,rfl⟩|simp[MapKept.IsKey]) (by kernel_rfl) ?_
      refine Ya [zR 13,zR 14] [67,66,64,59] [zB 69 true] ?_
      refine JR_end ?_
      refine cTt ?_
      have hg0:goneDots l x.o.text=[]:=goneDots_none fun z hz hzr he=>hT (he ▸ hall z hz hzr)
      have hout:x.d∉goneDots l x.o.text:=by rw[hg0];simp
      have hlen:=outDots_len l (l.take q.toNat) x.o.text
      rw[List.length_take]at hlen
      by_cases hT2:x.o.text∈ks1
      ·obtain⟨i2,hit2⟩:=List.getElem?_of_mem hT2
       refine J_stp (stp_take (c:=cAcc (F x.o.text) 177 3 ((outDots l (l.take q.toNat) x.o.text).map eDot)) 0 i2 rfl (by rw[List.getElem?_map,hit2];rfl)) ?_
       refine J_stpx (stp_accform 1 rfl) fun y hF=>?_
       obtain⟨av,nv,cv⟩:=y
       obtain⟨hF,hn⟩:=hF
       dsimp only at hF hn
       rw[List.length_map]at hn
       have hnb:nv≤4000000:=by omega
       rw[hF]
       try simp only[aQ]
       refine jT [(0,true),(1,true),(2,true),(3,true),(4,true),(5,true),(6,true),(7,true),(8,true),(9,true),(10,true),(11,false),(12,false),(13,false)] [(12,[]),(13,[1])] ?_
       refine Ya (Rds 0 3++[.rd 3 [.o 2 none] 0 0]++Rds 4 7++[.rd 7 [.o 2 none] 0 0]) [69] [zV 70 (.map (some (nu2 0))),zV 73 (.string x.o.text),zV 74 (.map (some (nu2 0))),zV 77 (.string x.o.text)] ?_
       refine JRg_lookr (.o 1 none) (nu2 0) 276 9 53 (IsKey TypeDesc.string) (.string x.o.text) (.slice none 0 0) false (some 78) (by kernel_rfl) (by kernel_rfl) (by kernel_rfl) keyOk_9 (by first|exact⟨_,_,_,rfl⟩|simp[MapKept.IsKey]) (by kernel_rfl) rfl hmo (fun hno=>?_) (fun v hv=>?_)
       ·rw[strG_in hT2]at hno
        cases hno
       ·rw[strG_in hT2,hF]at hv
        cases hv
        try simp only[aQ]
        refine Ym [zR 9,.rd 10 (hnO 2 3) 0 0,.wr 11 [] 0] [74,77] (fun nu4=>[zS 81 (sA (nu4 0) 0) 1 1]) o0 (fun nu4=>[(nu4 0,.cells #[nI x.d.place,nI x.d.time,nI x.d.no] 177 (0,0))]) [(12,[]),(13,[1])] (fun nu4=>?_)
        try simp only[aQ]
        refine JR_appm 1 53 177 3 24 (.agg #[.int .i64 0,.int .i64 0,.int .i64 0]) (a0:=av) (len:=nv) (cap0:=cv) (ax:=(some (⟨nu4 0,0,none⟩))) (m:=1) (c:=1) (dst:=(some 82)) [x.d] (by kernel_rfl) (by kernel_rfl) (by kernel_rfl) (by kernel_rfl) rfl (by decide) rfl (fun _ _ _ s=>src_one s 3 rfl rfl ⟨.inl ⟨rfl,rfl⟩,⟨.inl ⟨rfl,rfl⟩,⟨.inl ⟨rfl,rfl⟩,trivial⟩⟩⟩) (by simp only[maxLen];omega) (by omega) (fun av1 cv1=>?_)
        try simp only[aQ]
        refine JRg_puts 1 (nu2 0) 276 9 53 (IsKey TypeDesc.string) (.string x.o.text) (.slice av1 (nv+1) cv1) none (by kernel_rfl) (by kernel_rfl) (by kernel_rfl) keyOk_9 (by first|exact⟨_,_,_,rfl⟩|simp[MapKept.IsKey]) rfl hmo (fun es2 clock2 hm2 hsz2 hst2=>?_)
        try simp only[aQ]
        refine JR_end ?_
        try simp only[aQ]
        refine J_eb ?_
        try simp only[aQ]
        refine Zp [.rd 0 [] 0 1,zR 1] [] [zI 51 (q+1)] (oC (show IntKind.i64.wrap (q+1)=q+1 from wrap_i64 (by omega) (by omega)) oN) ?_
        try simp only[aQ]
        refine Nm [(cStar (List.map (fun t=>cMapG (mb t) okDot (dotSet (goneDots l t))) ks)),(cStar ((List.map (fun t=>cAcc (F t) 177 3 (List.map eDot (outDots l (List.take q.toNat l) t))) ks1).eraseIdx i2)),cAcc (.slice av1 (nv+1) cv1) 177 3 (List.map eDot (outDots l (List.take q.toNat l) x.o.text++[x.d]))] ?_
        have hE2:=map_out (Q:=fun t=>cAcc (F t) 177 3 ((outDots l (l.take q.toNat) t).map eDot)) (Q':=fun t=>cAcc (upd F x.o.text (.slice av1 (nv+1) cv1) t) 177 3 ((outDots l (l.take (q+1).toNat) t).map eDot)) hnd1 hit2 fun s hs=>by
         show cAcc (upd F x.o.text (.slice av1 (nv+1) cv1) s) _ 3 ((outDots l (l.take (q+1).toNat) s).map eDot)=cAcc (F s) _ 3 ((outDots l (l.take q.toNat) s).map eDot)
         rw[upd_ne _ _ hs,outDots_other hx hq0 hs]
        refine J_stp (stp_join 2 1 i2 (cs':=ks1.map fun t=>cAcc (upd F x.o.text (.slice av1 (nv+1) cv1) t) 177 3 ((outDots l (l.take (q+1).toNat) t).map eDot)) rfl rfl (by decide) (by
         rw[List.getElem?_map,hit2]
         show some (cAcc (upd F x.o.text (.slice av1 (nv+1) cv1) x.o.text) _ 3 ((outDots l (l.take (q+1).toNat) x.o.text).map eDot))=_
         rw[upd_at,outDots_new hx hq0 hrem hout]) hE2) ?_
        refine Nm [(cStar (List.map (fun t=>cMapG (mb t) okDot (dotSet (goneDots l t))) ks)),(cStar (List.map (fun t=>cAcc (upd F x.o.text (Value.slice av1 (nv+1) cv1) t) 177 3 (List.map eDot (outDots l (List.take (q+1).toNat l) t))) ks1))] ?_
        refine J_stp (stp_cs [1,0] rfl) ?_
        refine Nm [(cStar (List.map (fun t=>cAcc (upd F x.o.text (Value.slice av1 (nv+1) cv1) t) 177 3 (List.map eDot (outDots l (List.take (q+1).toNat l) t))) ks1)),(cStar (List.map (fun t=>cMapG (mb t) okDot (dotSet (goneDots l t))) ks))] ?_
        refine J_backx ⟨q+1,_,_,ks1,upd F x.o.text (.slice av1 (nv+1) cv1)⟩ [2,3,8,49,50,51] [0,1] [0,1] [0] ?_ ?_ (by kernel_rfl) rfl rfl rfl
        ·refine⟨by simp only;omega,by simp only;omega,hm2.congr (strG_set hT2),hst2 hst,hnd1,fun t=>?_⟩
         by_cases hs:t=x.o.text
         ·subst hs
          simp only[outDots_new hx hq0 hrem hout]
          simp[hT2]
         ·simp only[outDots_other hx hq0 hs]
          exact hiff t
        ·simp only
         omega
      ·have ho0:outDots l (l.take q.toNat) x.o.text=[]:=Classical.byContradiction fun h=>hT2 ((hiff _).2 h)
       refine J_stp (stp_accm eDot 177 3) ?_
       try simp only[aQ]
       refine jT [(0,true),(1,true),(2,true),(3,true),(4,true),(5,true),(6,true),(7,true),(8,true),(9,true),(10,true),(11,false),(12,false),(13,false)] [(12,[]),(13,[1])] ?_
       refine Ya (Rds 0 3++[.rd 3 [.o 2 none] 0 0]++Rds 4 7++[.rd 7 [.o 2 none] 0 0]) [69] [zV 70 (.map (some (nu2 0))),zV 73 (.string x.o.text),zV 74 (.map (some (nu2 0))),zV 77 (.string x.o.text)] ?_
       refine JRg_lookr (.o 1 none) (nu2 0) 276 9 53 (IsKey TypeDesc.string) (.string x.o.text) (.slice none 0 0) false (some 78) (by kernel_rfl) (by kernel_rfl) (by kernel_rfl) keyOk_9 (by first|exact⟨_,_,_,rfl⟩|simp[MapKept.IsKey]) (by kernel_rfl) rfl hmo (fun hno=>?_) (fun v hv=>?_)
       ·refine Ym [.rd 9 [] 0 0,.rd 10 [.o 2 none,.o 2 none,.o 2 none] 0 0,.wr 11 [] 0] [74,77] (fun nu4=>[(81,.val (.slice (some (⟨nu4 0,0,none⟩)) 1 1))]) o0 (fun nu4=>[(nu4 0,.cells #[.int .i64 x.d.place,.int .i64 x.d.time,.int .i64 x.d.no] 177 (0,0))]) [(12,[]),(13,[1])] (fun nu4=>?_)
        refine JR_appm 2 53 177 3 24 (.agg #[.int .i64 0,.int .i64 0,.int .i64 0]) (a0:=none) (len:=0) (cap0:=0) (ax:=(some (⟨nu4 0,0,none⟩))) (m:=1) (c:=1) (dst:=(some 82)) [x.d] (by kernel_rfl) (by kernel_rfl) (by kernel_rfl) (by kernel_rfl) rfl (by decide) rfl (fun _ _ _ s=>src_one s 3 rfl rfl ⟨.inl ⟨rfl,rfl⟩,⟨.inl ⟨rfl,rfl⟩,⟨.inl ⟨rfl,rfl⟩,trivial⟩⟩⟩) (by simp only[maxLen];omega) (by omega) (fun av1 cv1=>?_)
        try simp only[aQ]
        refine JRg_puts 1 (nu2 0) 276 9 53 (IsKey TypeDesc.string) (.string x.o.text) (.slice av1 1 cv1) none (by kernel_rfl) (by kernel_rfl) (by kernel_rfl) keyOk_9 (by first|exact⟨_,_,_,rfl⟩|simp[MapKept.IsKey]) rfl hmo (fun es2 clock2 hm2 hsz2 hst2=>?_)
        try simp only[aQ]
        refine JR_end ?_
        try simp only[aQ]
        refine J_eb ?_
        try simp only[aQ]
        refine Zp [.rd 0 [] 0 1,zR 1] [] [zI 51 (q+1)] (oC (show IntKind.i64.wrap (q+1)=q+1 from wrap_i64 (by omega) (by omega)) oN) ?_
        try simp only[aQ]
        refine Nm [(cStar (List.map (fun t=>cAcc (F t) 177 3 (List.map eDot (outDots l (List.take q.toNat l) t))) ks1)),(cStar (List.map (fun t=>cMapG (mb t) okDot (dotSet (goneDots l t))) ks)),cAcc (.slice av1 1 cv1) 177 3 (List.map eDot [x.d])] ?_
        have hE2:=map_new (t:=x.o.text) (Q:=fun t=>cAcc (F t) 177 3 ((outDots l (l.take q.toNat) t).map eDot)) (Q':=fun t=>cAcc (upd F x.o.text (.slice av1 1 cv1) t) 177 3 ((outDots l (l.take (q+1).toNat) t).map eDot)) (ks:=ks1) fun s hs=>by
         have hne:s≠x.o.text:=fun he=>hT2 (he ▸ hs)
         show cAcc (upd F x.o.text (.slice av1 1 cv1) s) _ 3 ((outDots l (l.take (q+1).toNat) s).map eDot)=cAcc (F s) _ 3 ((outDots l (l.take q.toNat) s).map eDot)
         rw[upd_ne _ _ hne,outDots_other hx hq0 hne]
        refine J_stp (stp_join 2 0 ks1.length (cs':=(ks1++[x.o.text]).map fun t=>cAcc (upd F x.o.text (.slice av1 1 cv1) t) 177 3 ((outDots l (l.take (q+1).toNat) t).map eDot)) rfl rfl (by decide) (by
         rw[List.getElem?_map,show(ks1++[x.o.text])[ks1.length]?=some x.o.text by simp]
         show some (cAcc (upd F x.o.text (.slice av1 1 cv1) x.o.text) _ 3 ((outDots l (l.take (q+1).toNat) x.o.text).map eDot))=_
         rw[upd_at,outDots_new hx hq0 hrem hout,ho0]
         rfl) hE2) ?_
        refine Nm [(cStar (List.map (fun t=>cMapG (mb t) okDot (dotSet (goneDots l t))) ks)),(cStar (List.map (fun t=>cAcc (upd F x.o.text (Value.slice av1 1 cv1) t) 177 3 (List.map eDot (outDots l (List.take (q+1).toNat l) t))) (ks1++[x.o.text])))] ?_
        refine J_stp (stp_cs [1,0] rfl) ?_
        refine Nm [(cStar (List.map (fun t=>cAcc (upd F x.o.text (Value.slice av1 1 cv1) t) 177 3 (List.map eDot (outDots l (List.take (q+1).toNat l) t))) (ks1++[x.o.text]))),(cStar (List.map (fun t=>cMapG (mb t) okDot (dotSet (goneDots l t))) ks))] ?_
        refine J_backx ⟨q+1,_,_,ks1++[x.o.text],upd F x.o.text (.slice av1 1 cv1)⟩ [2,3,8,49,50,51] [0,1] [0,1] [0] ?_ ?_ (by kernel_rfl) rfl rfl rfl
        ·refine⟨by simp only;omega,by simp only;omega,hm2.congr (strG_new hT2),hst2 hst,List.nodup_append.2 ⟨hnd1,by simp,fun a ha b hb=>?_⟩,fun t=>?_⟩
         ·rw[List.mem_singleton]at hb
          subst hb
          exact fun he=>hT2 (by rw[←he];exact ha)
         by_cases hs:t=x.o.text
         ·subst hs
          simp only[outDots_new hx hq0 hrem hout]
          simp
         ·simp only[outDots_other hx hq0 hs]
          rw[List.mem_append,List.mem_singleton]
          exact⟨fun h=>h.elim (hiff t).1 fun h=>absurd h hs,fun h=>.inl ((hiff t).2 h)⟩
        ·simp only
         omega
       ·rw[strG_out hT2]at hv
        cases hv
     ·rw[strG_out hT]at hv
      cases hv
  ·have hql:l.take q.toNat=l:=List.take_of_length_le (by simp at hlt1;omega)
   rw[hql]
   rw[hql]at hiff
   refine J_exit rfl ?_
   refine Zs [zR 0,zR 1] [52,3,8,49,50,51] [zV 2 (.map (some (nu2 0)))] ?_
   refine Yr [[]] (.map (some (nu2 0))) fun a w s=>?_
   exact⟨_,_,_,ks1,F,(s.hide 1 rfl).ret (by simp) [2,0] [] rfl rfl,hmo,hst,hnd1,hiff⟩
end Go.Proofs.YtmkapocibaojdaaGreatDoor
end
section
namespace Go.Sx
open Go
def zero (w:World):World:={ w with drawn:=0 }
theorem zero_all {M:List Nat} {w:World}:∀f∈[(M,zero w)],f.2.drawn=0:=fun f hf=>by
 rw[List.mem_singleton]at hf
 subst hf
 rfl
theorem Rep.zero {w:World} {S:Nat→Prop} {x:Value} {d:D} (h:Rep w S x d):Rep (zero w) S x d:=h.mono fun _ hb _=>⟨hb,rfl⟩
theorem Fr.zero {M:List Nat} {a b:World} (h:Fr M a b):Fr M (zero a) b:=⟨h.os,h.tape,h.output,h.size,h.block,Nat.zero_le _⟩
section
variable {P:Program} {f:Func} [Pan f] {R:Act→World→Prop} {n:Nat} [Dfr n] {k:List Itm} {E:Env} {h r:List (Nat×Obj)} {F:List (List Nat×World)} {Y:Ghost}
theorem StF.zero {a:Act} {w:World} {fps:List (List Nat)} (s:StF n E h r F Y a w fps) (hz:∀f∈F,f.2.drawn=0):StF n E h r F Y a (Sx.zero w) fps:=
 ⟨s.ag,⟨s.own.own,s.own.nodup,s.own.ro,s.own.apart⟩,fun f hf=>⟨(s.fr f hf).os,(s.fr f hf).tape,(s.fr f hf).output,(s.fr f hf).size,(s.fr f hf).block,by rw[hz f hf];exact Nat.zero_le _⟩,s.may,
  ⟨s.gh.chs.mono (fun _ _=>rfl) (fun _ hb _=>⟨hb,rfl⟩),s.gh.nodup,s.gh.disj,s.gh.apart,s.gh.may,s.gh.lt,s.gh.own,s.gh.hid,s.gh.top,fun x hx=>(s.gh.g x hx).zero⟩⟩
theorem J_zero {M:List Nat} {w0:World} (H:J P f R n k E h r [(M,zero w0)] Y):J P f R n k E h r [(M,w0)] Y:=fun a w ⟨fps,s⟩=>
 H a w ⟨fps,s.ag,s.own,fun g hg=>by
  rw[List.mem_singleton]at hg
  subst hg
  exact(s.fr (M,w0) (List.mem_singleton.2 rfl)).zero,fun g hg=>by
  rw[List.mem_singleton]at hg
  subst hg
  exact s.may (M,w0) (List.mem_singleton.2 rfl),⟨s.gh.chs,s.gh.nodup,s.gh.disj,s.gh.apart,fun g hg=>by
   rw[List.mem_singleton]at hg
   subst hg
   exact s.gh.may (M,w0) (List.mem_singleton.2 rfl),s.gh.lt,s.gh.own,s.gh.hid,s.gh.top,s.gh.g⟩⟩
theorem JR_callz {S0:Nat→Prop} {C0:List Chunk} {G0:List (Value×D)} {id L0 i:Nat} {ck:Bool} {Wp:List (Nat×List Nat)} {rest:List (Nat×Bool)} (hs:List Hn) (cs:List Nat) (fid:FuncId) (args:Array Value) (dst:Option Tmp)
  (hz:∀f∈F,f.2.drawn=0) (he:chkC (callOf P n (rgOf f id) h r E i hs)=(some (fid,args,dst),trivC (callOf P n (rgOf f id) h r E i hs),0)) (hok:(!ck||(Wp.lookup i).isSome||cs.isEmpty)=true) (hcs:cs.Nodup)
  (C:∀w S M,Pre w S M (pick C0 cs)→AllG w S G0→(cs=[]→M=[])→Calls P fid args w fun e w'=>∃v C' G',Ret M (zero w) S w' e v C' G' ∧
   JR P f R n (rgOf f id) L0 ck rest (Wp.filter (·.1 != i)) k (E.put dst (.val v)) h r F ⟨S0,restC C0 cs++C',G0++G'⟩) :
  JR P f R n (rgOf f id) L0 ck ((i,false)::rest) Wp k E h r F ⟨S0,C0,G0⟩:=by
 obtain⟨p,he,hp⟩:=chkC_sound he
 intro B Hd fps a w s hH hR hN hW
 simp only[PW]
 refine callOf_sound he hp s ((C w (Sd ⟨S0,C0,G0⟩ h fps) (pick fps cs).flatten (Pre.of s hcs) s.gh.g (fun h=>by rw[h];simp[pick])).mono fun e w' hh=>?_)
 obtain⟨v,C',G',hRet,H⟩:=hh
 have hf:=hRet.fr
 refine⟨v,hRet.ret,fun E' hE a' hA=>⟨fun hck b hb hl=>?_,?_⟩⟩
 ·refine hf.block b hb fun hm=>?_
  have hm2:=pick_flat_sub hm
  cases hWl:Wp.lookup i with
  | none=>
   rw[hWl,hck]at hok
   simp at hok
   subst hok
   simp[pick]at hm
  | some ps=>
   rw[lookup_idsW,hWl]at hl
   obtain⟨h1,h2⟩:=hl _ rfl
   rcases hH b hm2 with h3|h3
   ·exact h2 (List.mem_append_right _ h3)
   ·omega
 ·subst hE
  rw[filter_idsW]
  obtain⟨fps',h3,s'⟩:=(s.zero hz).called (cs:=cs) hA hRet
  refine H B Hd _ a' w' s' (fun b hb=>?_) ⟨hR.old,hR.ro,hR.len,Nat.le_trans hR.size hf.size⟩ hN (okWp_filter hW)
  rw[List.flatten_append]at hb
  rcases List.mem_append.1 hb with hb|hb
  ·exact hH b (pick_flat_sub hb)
  ·rcases h3 b hb with h1|h1
   ·exact hH b (pick_flat_sub h1)
   ·exact .inr (Nat.le_trans hR.size h1)
theorem JR_callzp {S0:Nat→Prop} {C0:List Chunk} {G0:List (Value×D)} {id L0 i:Nat} {ck:Bool} {Wp:List (Nat×List Nat)} {rest:List (Nat×Bool)} (hs:List Hn) (fid:FuncId) (args:Array Value) (dst:Option Tmp)
  (hz:∀f∈F,f.2.drawn=0) (he:chkC (callOf P n (rgOf f id) h r E i hs)=(some (fid,args,dst),trivC (callOf P n (rgOf f id) h r E i hs),0))
  (C:∀w S,AllG w S G0→Calls P fid args w fun e w'=>∃v C' G',Ret [] (zero w) S w' e v C' G' ∧
   JR P f R n (rgOf f id) L0 ck rest (Wp.filter (·.1 != i)) k (E.put dst (.val v)) h r F ⟨S0,C0++C',G0++G'⟩) :
  JR P f R n (rgOf f id) L0 ck ((i,false)::rest) Wp k E h r F ⟨S0,C0,G0⟩:=by
 refine JR_callz hs [] fid args dst hz he (by simp) (by simp) fun w S M _ hG hM=>?_
 obtain rfl:=hM rfl
 refine(C w S hG).mono fun e w' ⟨v,C',G',hR,H⟩=>⟨v,C',G',hR,?_⟩
 have:pick C0 (others C0.length [])=C0:=by
  have h1:others C0.length []=List.range C0.length:=by simp[others]
  rw[h1,pick_all]
 unfold restC
 rw[this]
 exact H
end
end Go.Sx
end
section
namespace Go.Sx
open Go Go.Maps Go.WideElems Go.MapKept
open Go.Proofs (encStr)
def sortB (l:List ByteArray):List ByteArray:=((l.map fun t=>t.data.toList).mergeSort leB).map fun x=>⟨x.toArray⟩
theorem sortB_perm {l l':List ByteArray} (h:l.Perm l'):sortB l=sortB l':=by
  unfold sortB
  rw[mergeSort_of_perm (h.map _)]
def keyB:Value→ByteArray
  | .string t=>t
  | _=>⟨#[]⟩
abbrev RZ:Value→Option (DataW Unit×List MemPlace):=fun _=>some (.nil,[])
set_option maxHeartbeats 4000000 in
theorem owns_of {P:Program} {k:TypeId} (hk:P.underlying k=some .string) {w:World} {b:Nat} {es:Array MapEntry} {clock:Nat} (hb:w.heap[b]?=some (.map es clock)) (hkey:∀x∈es.toList,IsKey .string x.key) (hst:Stamped es clock) (hn:es.size≤4000000) (hsz:∀x∈es.toList,(keyB x.key).size≤1000000) :
    ∃D0:DataW Unit,w.ownsMap P k RZ b es.size D0∧Maps.size D0=es.size∧(strKeys D0).Perm (es.toList.map fun x=>(keyB x.key).data.toList):=by
  have hrd:∀x∈es.toList,WideElems.rd P k RZ x=some (.string (keyB x.key).data.toList,.nil):=fun x hx=>by
    have h1:=hkey x hx
    have h2:=hsz x hx
    cases hq:x.key <;> rw[hq]at h1 <;> simp only[IsKey]at h1
    rename_i s
    rw[hq]at h2
    simp only[keyB]at h2
    have h3:s.size≤maxLen:=by unfold maxLen;omega
    simp[WideElems.rd,keyOf,hk,mapKey,hq,h3,keyB]
  refine⟨_,⟨es,clock,hb,⟨by unfold maxLen;omega,hst,fun x hx=>⟨_,hrd x hx⟩⟩,Nat.le_refl _,rfl⟩,?_,?_⟩
  · simp[Maps.size,length_sorted]
  · show(List.map (fun p:Lit×DataW Unit=>strOf p.1) _).Perm _
    refine((WideShapes.sorted_perm _).map _).trans ?_
    rw[List.map_map]
    refine List.Perm.of_eq (List.map_congr_left fun x hx=>?_)
    simp[rg_of (hrd x hx),strOf]
set_option maxHeartbeats 4000000 in
theorem rep_row {w':World} {S:Nat→Prop} {base e:Nat} {v:Value} {ss:List (List UInt8)} (h:w'.ownsRow base e 1 v ss.length (ss.map encStr)) (hS:∀b,base≤b→S b):Rep w' S v (dStrs (ss.map fun x=>⟨x.toArray⟩)):=by
  rcases h.2 with ⟨rfl,h0⟩|⟨g,cap,cur,rfl,hbase,hg,hle,_,hcs,htake⟩
  · obtain rfl:=List.length_eq_zero_iff.1 h0
    exact .nil
  · have hl:(List.map eS (ss.map fun x=>(⟨x.toArray⟩:ByteArray))).length=ss.length:=by simp
    have:=Rep.sl (w:=w') (S:=S) (off:=0) (cap:=cap) (k:=1) (rows:=List.map eS (ss.map fun x=>(⟨x.toArray⟩:ByteArray))) (fun i j=>cur.getD (0+(i*1+j)) undef) hg (hS g hbase) (by omega) (by omega) (fun row hr=>?_) (fun i j hi hj=>?_) (fun i j row d hi hj=>?_)
    · rwa[hl]at this
    · obtain⟨x,_,rfl⟩:=List.mem_map.1 hr
      rfl
    · have:0+(i*1+j)<cur.size:=by omega
      rw[Array.getElem?_eq_getElem this,Array.getD_eq_getD_getElem?,Array.getElem?_eq_getElem this]
      rfl
    · rw[List.map_map,List.getElem?_map]at hi
      obtain⟨x,hx,rfl⟩:=Option.map_eq_some_iff.1 hi
      match j,hj with
      | 0,hj=>
        simp only[Function.comp_apply,List.getElem?_cons_zero,Option.some.injEq]at hj
        subst hj
        have hil:=(List.getElem?_eq_some_iff.1 hx).1
        have h3:(cur.toList.take (ss.length*1))[i]?=some (encStr x):=by rw[htake,List.getElem?_map,hx];rfl
        rw[List.getElem?_take,if_pos (by omega),Array.getElem?_toList]at h3
        have h4:cur.getD (0+(i*1+0)) undef=encStr x:=by
          rw[Array.getD_eq_getD_getElem?,show 0+(i*1+0)=i by omega,h3]
          rfl
        rw[h4]
        exact .v rfl
      | j+1,hj=>simp at hj
end Go.Sx
namespace Go.Proofs.YtmkapocibaojdaaGreatDoor
open Go Go.Sx Go.RowKit Go.Maps Go.Sort Go.Shelf
set_option maxHeartbeats 4000000 in
theorem vKeys {w:World} {S:Nat→Prop} {mb:Nat}:Calls Tryz.prog 162 #[.map (some mb)] w fun e w'=>∃b ty,Ret [] w S w' e (.func (.func 205) #[] #[.pointer (some ⟨b,0,none⟩)]) [] [(.pointer (some ⟨b,0,none⟩),.obj (.cells #[.map (some mb)] ty (0,0)))]:=by
  refine epG Tryz.func162 bd162 (args:=[.map (some mb)]) (S:=S) (G:=[]) (by kernel_rfl) (.nil _ _) ?_
  refine Zv [.wr 0 [] 0,zR 1] [] [0] (fun nu1=>[zP 1 (nu1 0),zV 2 .nilFunc]) o0 (fun nu1=>[(nu1 0,.cells #[.map (some mb)] 276 (0,0))]) (fun nu1=>?_)
  refine Zs [zR 0,zR 1] [1] [zV 2 (.func (.func 205) #[] #[.pointer (sA (nu1 0) 0)])] ?_
  refine Yr [[]] (.func (.func 205) #[] #[.pointer (sA (nu1 0) 0)]) fun a w s=>?_
  exact⟨_,_,(s.share 0 rfl).ret (by simp) [] [0] rfl rfl⟩
theorem sortsS (m:Nat):AnyZ.SortsIn Tryz.prog Tryz.sorted_ren Fence.wide m:=
  ⟨fun blk off cap ss W hH hblk hsz=>callsIn_wide.2 (AnyM.slices_Sort_string Tryz.sortS blk off cap ss W hH hblk hsz),
   fun p cap W=>callsIn_wide.2 (AnyM.slices_Sort_string_none Tryz.sortS p cap W)⟩
set_option maxHeartbeats 4000000 in
theorem sortedKeys {w:World} {S:Nat→Prop} {M:List Nat} {mb bx clock:Nat} {es:Array MapEntry} {ty:TypeId} (hP:Pre w S M [cObj mb (.map es clock)]) (hkey:∀x∈es.toList,MapKept.IsKey .string x.key) (hst:MapKept.Stamped es clock) (hn:es.size≤4000000) (hsz:∀x∈es.toList,(keyB x.key).size≤1000000) (hbx:Rep w S (.pointer (some ⟨bx,0,none⟩)) (.obj (.cells #[.map (some mb)] ty (0,0)))) :
    Calls Tryz.prog 161 #[.func (.func 205) #[] #[.pointer (some ⟨bx,0,none⟩)]] w fun e w'=>∃ua un uc,Ret M (zero w) S w' e (.slice ua un uc) [] [(.slice ua un uc,dStrs (sortB (es.toList.map fun x=>keyB x.key)))]:=by
  obtain⟨fps,hch,rfl,hnd,hM⟩:=hP
  match fps,hch with
  | [fp],⟨⟨hfp,hmb⟩,_⟩=>
    subst hfp
    obtain⟨D0,hown,hsD,hperm⟩:=owns_of (k:=9) (P:=Tryz.prog) Tryz.underlying9 hmb hkey hst hn hsz
    have hbx2:=blk_of hbx
    have hlt:=(Array.getElem?_eq_some_iff.1 hbx2).1
    have hseq:SeqGives Fence.wide 2 Tryz.prog 205 #[.pointer (some ⟨bx,0,none⟩)] encStr (fun ss=>ss.Perm (strKeys D0)) (Maps.size D0) w:=
      AnyZ.keys_gives (ρ:=Tryz.keysA_ren) { Tryz.keysA with } Fence.wide _ trivial rfl (by omega) bx mb es.size D0 w hlt (by simp[World.cell?,hbx2]) hown
    have cS:=AnyZ.sorted_in Tryz.sorted Fence.wide 5 trivial trivial trivial trivial rfl (by omega) (sortsS _) (enters_of Tryz.func204 (by kernel_rfl) rfl) 205 #[.pointer (some ⟨bx,0,none⟩)] trivial (enters_of Tryz.func205 (by kernel_rfl) rfl) _ _ (by rw[hsD];unfold maxLen;omega) (by rw[hsD];omega) w hseq
    change CallsIn _ _ Tryz.prog 161 _ _ _ at cS
    refine(callsIn_wide.1 cS).mono ?_
    rintro e w' ⟨v,ss,rfl,hS,hrow,_,hb⟩
    have e1:sortB (es.toList.map fun x=>keyB x.key)=(ss.mergeSort leB).map fun x=>⟨x.toArray⟩:=by
      unfold sortB
      rw[List.map_map,mergeSort_of_perm (hS.trans hperm)]
      rfl
    have hrep:Rep w' (retS S ([[mb]]:List (List Nat)).flatten (zero w) []) v (dStrs (sortB (es.toList.map fun x=>keyB x.key))):=by
      rw[e1]
      refine rep_row (base:=w.heap.size) (e:=9) ?_ fun b hb2=>⟨.inr (.inr hb2),by simp⟩
      rw[List.length_mergeSort]
      exact hrow
    obtain⟨ua,uc,rfl,_⟩:=hrep.form
    refine⟨ua,_,uc,rfl,⟨hb.os,hb.tape,hb.output,hb.size,fun b hb2 _=>hb.block b hb2,Nat.zero_le _⟩,[],trivial,by simp,by simp,fun x hx=>?_⟩
    obtain rfl:=List.mem_singleton.1 hx
    exact hrep
  | [],h=>exact h.elim
  | _::_::_,h=>exact h.2.elim
end Go.Proofs.YtmkapocibaojdaaGreatDoor
end
section
namespace Go.Sx
open Go
theorem eq_of_sorted {α:Type} {lt:α→α→Prop} (asym:∀a b,lt a b→lt b a→False) {l l':List α} (h:l.Pairwise lt) (h':l'.Pairwise lt) (hm:∀x,x∈l↔x∈l'):l=l':=by
 have irr:∀{p:List α},p.Pairwise lt→p.Nodup:=fun hp=>hp.imp fun{a b} hab he=>by subst he;exact asym a a hab hab
 exact((List.perm_ext_iff_of_nodup (irr h) (irr h')).2 hm).eq_of_pairwise (le:=lt) (fun a b _ _ h1 h2=>(asym a b h1 h2).elim) h h'
theorem bLt_iff {a b:ByteArray}:bLt a b=true↔a.toList<b.toList:=decide_eq_true_iff
theorem bLt_asym (a b:ByteArray) (h1:bLt a b=true) (h2:bLt b a=true):False:=
 List.lt_asymm (bLt_iff.1 h1) (bLt_iff.1 h2)
theorem bLt_trans {a b c:ByteArray} (h1:bLt a b=true) (h2:bLt b c=true):bLt a c=true:=
 bLt_iff.2 (List.lt_trans (bLt_iff.1 h1) (bLt_iff.1 h2))
theorem byte_inj {a b:ByteArray} (h:a.toList=b.toList):a=b:=by
 have:=strEq a b
 rw[h]at this
 simpa using this.symm
theorem bLt_tri {a b:ByteArray} (h1:¬bLt a b=true) (h2:a≠b):bLt b a=true:=by
 rw[bLt_iff]at *
 exact Classical.byContradiction fun h3=>h2 (byte_inj (List.le_antisymm h3 h1))
theorem enterB_mem {l:List ByteArray} {s t:ByteArray}:t∈enterB l s↔t=s∨t∈l:=by
 induction l with
 | nil=>simp[enterB]
 | cons x l ih=>
  unfold enterB
  split
  ·rw[List.mem_cons,ih,List.mem_cons]
   constructor
   ·rintro(h|h|h)
    ·exact .inr (.inl h)
    ·exact .inl h
    ·exact .inr (.inr h)
   ·rintro(h|h|h)
    ·exact .inr (.inl h)
    ·exact .inl h
    ·exact .inr (.inr h)
  ·split
   ·rename_i h
    subst h
    rw[List.mem_cons]
    constructor
    ·exact .inr
    ·rintro(h|h)
     ·exact .inl h
     ·exact h
   ·rw[List.mem_cons]
theorem enterB_sorted {l:List ByteArray} {s:ByteArray} (h:l.Pairwise fun a b=>bLt a b=true):(enterB l s).Pairwise fun a b=>bLt a b=true:=by
 induction l with
 | nil=>simp[enterB]
 | cons x l ih=>
  unfold enterB
  have h1:=List.pairwise_cons.1 h
  split
  ·rename_i hx
   refine List.pairwise_cons.2 ⟨fun y hy=>?_,ih h1.2⟩
   rcases enterB_mem.1 hy with rfl|hy
   ·exact hx
   ·exact h1.1 y hy
  ·rename_i hx
   split
   ·exact h
   ·rename_i hne
    have hsx:=bLt_tri hx hne
    refine List.pairwise_cons.2 ⟨fun y hy=>?_,h⟩
    rcases List.mem_cons.1 hy with rfl|hy
    ·exact hsx
    ·exact bLt_trans hsx (h1.1 y hy)
theorem setOf_go {p:List ByteArray}:∀{l:List ByteArray},(p.Pairwise fun a b=>bLt a b=true)→((l.foldl enterB p).Pairwise fun a b=>bLt a b=true)∧∀t,t∈l.foldl enterB p↔t∈p∨t∈l:=by
 intro l
 induction l generalizing p with
 | nil=>exact fun h=>⟨h,fun t=>by simp⟩
 | cons x l ih=>
  intro h
  obtain⟨h1,h2⟩:=ih (p:=enterB p x) (enterB_sorted h)
  refine⟨h1,fun t=>?_⟩
  rw[List.foldl_cons,h2,enterB_mem,List.mem_cons]
  constructor
  ·rintro((h|h)|h)
   ·exact .inr (.inl h)
   ·exact .inl h
   ·exact .inr (.inr h)
  ·rintro(h|h|h)
   ·exact .inl (.inr h)
   ·exact .inl (.inl h)
   ·exact .inr h
theorem setOf_sorted (l:List ByteArray):(setOf l).Pairwise fun a b=>bLt a b=true:=(setOf_go List.Pairwise.nil).1
theorem setOf_mem {l:List ByteArray} {t:ByteArray}:t∈setOf l↔t∈l:=by
 unfold setOf
 rw[(setOf_go List.Pairwise.nil).2]
 simp
theorem sortB_mem {l:List ByteArray} {t:ByteArray}:t∈sortB l↔t∈l:=by
 unfold sortB
 rw[List.mem_map]
 constructor
 ·rintro⟨x,hx,rfl⟩
  rw[List.mem_mergeSort]at hx
  obtain⟨y,hy,rfl⟩:=List.mem_map.1 hx
  exact hy
 ·intro h
  exact⟨t.data.toList,List.mem_mergeSort.2 (List.mem_map.2 ⟨t,h,rfl⟩),rfl⟩
theorem sortB_sorted {l:List ByteArray} (hn:l.Nodup):(sortB l).Pairwise fun a b=>bLt a b=true:=by
 have tr:∀a b c:List UInt8,leB a b=true→leB b c=true→leB a c=true:=fun a b c h1 h2=>by simp only[leB,decide_eq_true_eq]at *;exact List.le_trans h1 h2
 have to:∀a b:List UInt8,(leB a b||leB b a)=true:=fun a b=>by simp only[leB,Bool.or_eq_true,decide_eq_true_eq];exact List.le_total a b
 have hnd:((l.map fun t=>t.data.toList).mergeSort leB).Nodup:=(List.mergeSort_perm _ _).nodup_iff.2 (List.pairwise_map.2 (hn.imp fun{a b} hne he=>hne (byte_inj (by rw[ByteArray.toList_eq,ByteArray.toList_eq];exact he))))
 unfold sortB
 refine List.pairwise_map.2 (((List.pairwise_mergeSort tr to _).and hnd).imp fun{a b} h=>?_)
 rw[bLt_iff,ByteArray.toList_eq,ByteArray.toList_eq]
 have h1:a≤b:=by simpa [leB]using h.1
 exact Classical.byContradiction fun h2=>h.2 (List.le_antisymm h1 h2)
theorem sortB_set {ks l:List ByteArray} (hn:ks.Nodup) (hm:∀t,t∈ks↔t∈l):sortB ks=setOf l:=
 eq_of_sorted bLt_asym (sortB_sorted hn) (setOf_sorted l) fun t=>by rw[sortB_mem,setOf_mem,hm]
theorem textDots_ne {l:List DoneT} {t:ByteArray}:textDots l t≠[]↔t∈(liveL l).map (·.o.text):=by
 unfold textDots
 rw[ne_eq,List.map_eq_nil_iff,List.filter_eq_nil_iff,List.mem_map]
 constructor
 ·intro h
  refine Classical.byContradiction fun h2=>h fun x hx he=>h2 ⟨x,hx,by simpa using he⟩
 ·rintro⟨x,hx,he⟩ h
  exact h x hx (by simpa using he)
end Go.Sx
end
