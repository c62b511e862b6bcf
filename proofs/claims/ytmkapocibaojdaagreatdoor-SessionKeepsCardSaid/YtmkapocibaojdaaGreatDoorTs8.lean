/- Part 8 of the texts of a claim: VOf Ref Light Tx19 Tx21 Tx22 Tx23 Tx24 Tx25 OwnT Ver PlP HearP Way Hear VDots Ord Ref2. -/
import Derived.Recover
import Derived.Lib.AppendStr
import Derived.Laws.IdiomStrings
import Derived.Laws.Concat
import Derived.KernelRfl
import Derived.Test.YtmkapocibaojdaaGreatDoorTs7
section
namespace Go.Sx
open Go
theorem St.retz {n:Nat} {E:Env} {h r:List (Nat×Obj)} {F:List (List Nat×World)} {C C':List Chunk} {G G':List (Value×D)} {S:Nat→Prop} {M:List Nat} {w0:World} {a:Act} {w:World} {v:Value} (s:St n E h r F ⟨newS S M w0,C,G⟩ a w) (hF:(M,zero w0)∈F) (cs gs:List Nat)
  (hC:pick C cs=C') (hG:pick G gs=G') (hcs:cs.Nodup:=by decide):Ret M (zero w0) S w (.returned v) v C' G':=St.ret (w0:=zero w0) s hF cs gs hC hG hcs
end Go.Sx
namespace Go.Proofs.YtmkapocibaojdaaGreatDoor
open Go Go.Sx
set_option maxHeartbeats 4000000 in
theorem ret_zero {M:List Nat} {w:World} {S:Nat→Prop} {w':World} {e:Ending} {v:Value} {C:List Chunk} {G:List (Value×D)} (h:Ret M w S w' e v C G):Ret M (zero w) S w' e v C G:=⟨h.ret,h.fr.zero,h.gh⟩
set_option maxHeartbeats 4000000 in
theorem fval_zero {w:World} {S:Nat→Prop} {w':World} {e:Ending} {er:Nat→Addr} {f:FT} {mk:Value→Value} (h:FVal w S w' e er f mk):FVal (zero w) S w' e er f mk:=by
 rcases h with ⟨h1,v,h2,h3⟩|⟨h1,h2,pb,h3⟩
 ·exact .inl ⟨h1,v,ret_zero h2,h3⟩
 ·exact .inr ⟨h1,h2,pb,ret_zero h3⟩
theorem ks_len {es:Array MapEntry} {ks:List ByteArray} {F:ByteArray→Value} (hm:MapG (MapKept.IsKey .string) es (strG ks F)) (hnd:ks.Nodup):(es.toList.map fun x=>keyB x.key).Perm ks:=by
 have hk:∀x∈es.toList,x.key=.string (keyB x.key)∧keyB x.key∈ks:=fun x hx=>by
  have h1:=hm.key x hx
  have h2:=hm.val x hx
  cases hq:x.key <;> rw[hq]at h1 h2 <;> simp only[MapKept.IsKey]at h1
  rename_i s
  refine⟨rfl,?_⟩
  show s∈ks
  exact Classical.byContradiction fun hn=>by rw[strG_out hn]at h2;cases h2
 refine(List.perm_ext_iff_of_nodup ?_ hnd).2 fun t=>?_
 ·have h1:(es.toList.map fun x=>x.key)=(es.toList.map fun x=>keyB x.key).map Value.string:=by
   rw[List.map_map]
   exact List.map_congr_left fun x hx=>(hk x hx).1
  have h2:=hm.nodup
  rw[h1]at h2
  exact(List.pairwise_map.1 h2).imp fun{a b} hne he=>hne (by rw[he])
 ·rw[List.mem_map]
  constructor
  ·rintro⟨x,hx,rfl⟩
   exact(hk x hx).2
  ·intro h
   obtain⟨x,hx,he⟩:=hm.has (.string t) (F t) (strG_in h)
   exact⟨x,hx,by rw[he];rfl⟩
set_option maxHeartbeats 4000000 in
theorem vOf3 {w:World} {S:Nat→Prop} {er:Nat→Addr} {eb:Nat→Array Value×TypeId} {a:Option Addr} {n c:Nat} {key:ByteArray} {l:List ComT} (hC:Rep w S .nilIface (dC er eb)) (h:Rep w S (.slice a n c) (.sl 3 (l.map eCom))) (hl:l.length≤300000) (hl1:∀x∈l,x.when.length≤1000000) (hl2:∀x∈l,x.ops.length≤1000000) (hk3:kindOf (opsOf key l)=3) :
  Calls Tryz.prog 105 #[.string key,.slice a n c] w fun e w'=>((valFault key l).code≠0∧FVal (zero w) S w' e er (valFault key l) fun v=>.tuple #[valZ,v])∨((valFault key l).code=0∧∃ua un uc,Ret [] (zero w) S w' e (.tuple #[valA (Sx.valOf key l) (.slice ua un uc),.nilIface]) [] [(.slice ua un uc,dStrs (Sx.valOf key l).set)]):=by
 refine epG Tryz.func105 bd105 (args:=[.string key,.slice a n c]) (G:=[(_,dC er eb),(_,.sl 3 (l.map eCom))]) (by kernel_rfl) (.cons hC (.cons h (.nil _ _))) ?_
 refine J_zero ?_
 refine Zv [.wr 0 [] 0,zR 1] [] [] (fun nu1=>[zP 4 (nu1 0),zV 5 .nilIface]) o0 (fun nu1=>[(nu1 0,.cells #[nI 0,.string (ByteArray.mk #[]),nI 0,.slice none 0 0] 64 (0,0))]) (fun nu1=>?_)
 refine jS [(0,true),(1,true),(2,false),(3,true),(4,true),(5,true),(6,true),(7,true)] [] ?_
 refine Ya [zR 0,zR 1] [0,1] [zV 13 (.string key),zS 14 a n c] ?_
 refine Yc 159 #[.string key,.slice a n c] (some 15) fun w S hG=>?_
 refine(vOps (hG.at 0 rfl) (hG.at 1 rfl) hl hl1 hl2).mono ?_
 rintro e1 w1 (⟨hc,⟨hat,v,hR,hv⟩|⟨hc1,hat,pb,hR⟩⟩|⟨hc,a1,n1,c1,hR⟩)
 ·refine⟨_,_,_,hR,?_⟩
  rcases hv with ⟨hv0,rfl⟩|⟨hv0,rfl⟩
  ·exact absurd hv0 hc
  ·try simp only[aQ]
   refine Ya (Rds 3 8) [15,13,14] [zS 6 none 0 0,zV 7 (.iface 390 (.pointer (some (er (valFault key l).code))))] ?_
   refine JR_end (J_seq ?_)
   refine Zs [zR 0,zR 1] [] [zB 19 true] ?_
   refine cTt ?_
   refine Zv [zR 0,zR 1,.wr 2 (hnO 0 4) 0,zR 3] [(2,[0])] [19,7] (fun _=>[zV 5 (.iface 390 (.pointer (some (er (valFault key l).code))))]) o0 o0 (fun _=>?_)
   refine Yr [(hnO 0 4),[]] (.tuple #[.agg #[nI 0,.string (ByteArray.mk #[]),nI 0,.slice none 0 0],.iface 390 (.pointer (some (er (valFault key l).code)))]) fun a w s=>?_
   exact .inl ⟨hc,.inl ⟨hat,_,s.retz (by simp) [] [] rfl rfl,.inr ⟨hv0,rfl⟩⟩⟩
 ·refine⟨_,_,_,hR,?_⟩
  try simp only[aQ]
  refine Ya (Rds 3 8) [15,13,14] [zS 6 none 0 0,zV 7 (.iface 202 (.pointer (sA pb 0)))] ?_
  refine JR_end (J_seq ?_)
  refine Zs [zR 0,zR 1] [] [zB 19 true] ?_
  refine cTt ?_
  refine Zv [zR 0,zR 1,.wr 2 (hnO 0 4) 0,zR 3] [(2,[0])] [19,7] (fun _=>[zV 5 (.iface 202 (.pointer (sA pb 0)))]) o0 o0 (fun _=>?_)
  refine Yr [(hnO 0 4),[]] (.tuple #[.agg #[nI 0,.string (ByteArray.mk #[]),nI 0,.slice none 0 0],.iface 202 (.pointer (sA pb 0))]) fun a w s=>?_
  exact .inl ⟨hc,.inr ⟨hc1,hat,_,s.retz (by simp) [] [2] rfl rfl⟩⟩
 ·refine⟨_,_,_,hR,?_⟩
  have hlo:=opsOf_len hc
  have hlk:=ofKey_len hc
  try simp only[aQ]
  refine Ya (Rds 3 8) [15,13,14] [zS 6 a1 n1 c1,zV 7 .nilIface] ?_
  refine JR_end (J_seq ?_)
  refine Zs [zR 0,zR 1] [] [zB 19 false] ?_
  refine cF ?_
  refine J_skip ?_
  refine jS [(0,true),(1,false),(2,true),(3,true),(4,true),(5,true),(6,true)] [] ?_
  refine Ya [zR 0] [19,7] [zS 23 a1 n1 c1] ?_
  refine Yc 160 #[.slice a1 n1 c1] (some 24) fun w S hG=>?_
  refine(vKind (hG.at 2 rfl) (by omega)).mono ?_
  rintro e2 w2 ⟨a2,n2,c2,hR⟩
  refine⟨_,_,_,hR,?_⟩
  try simp only[aQ]
  refine Ya (Rds 2 7) [24,23] [zS 6 a2 n2 c2,zI 8 (kindOf (opsOf key l))] ?_
  refine JR_end ?_
  refine Zv [zR 0,zR 1,.wr 2 [] 0,.wr 3 (hnO 1 4) 0] [(3,[])] [] (fun nu2=>[zP 9 (nu2 0)]) o0 (fun nu2=>[(nu2 0,.cells #[nI (kindOf (opsOf key l)),.string (ByteArray.mk #[]),nI 0,.slice none 0 0] 64 (0,0))]) (fun nu2=>?_)
  refine J_seq ?_
  refine Zs (Rds 0 3) [] [zS 29 a2 n2 c2,zI 30 (↑n2:Int),zI 31 0] ?_
  refine J_block ?_
  refine J_stpx (stp_replen 3 rfl) fun _ hn2=>?_
  rw[List.length_map]at hn2
  have hn3:n2=(ofKey key l).length:=hn2
  subst hn3
  have hA:kindL (opsOf key l)=ofKey key l:=rfl
  rw[hA]
  clear hn2
  have hval:Sx.valOf key l=⟨3,ByteArray.mk #[],0,setOf ((liveL (ofKey key l)).map (·.o.text))⟩:=by
   simp[Sx.valOf,hk3]
  rw[hk3]
  have hdl:∀x∈ofKey key l,x.o.dots.length≤1000000:=fun x hx=>by
   obtain⟨p,hp⟩:=fine_mem hc (mem_ofKey hx)
   have:=opErr_fine hp
   omega
  refine J_loopx (fun i:Int=>[zP 4 (nu1 0),zV 5 .nilIface,zS 6 a2 ((ofKey key l).length) c2,zI 8 3,zP 9 (nu2 0),zS 29 a2 ((ofKey key l).length) c2,zI 30 ((↑(ofKey key l).length:Int)),zI 31 i]) (fun i:Int=>[(nu1 0,.cells #[nI 0,.string (ByteArray.mk #[]),nI 0,.slice none 0 0] 64 (0,0)),(nu2 0,.cells #[nI 3,.string (ByteArray.mk #[]),nI 0,.slice none 0 0] 64 (0,0))]) (fun i:Int=>[]) (fun i:Int=>[(.nilIface,(dC er eb)),(.slice a n c,(D.sl 3 (List.map eCom l))),(.slice a1 n1 c1,(D.sl 11 (List.map eDone (opsOf key l)))),(.slice a2 ((ofKey key l).length) c2,(D.sl 11 (List.map eDone (ofKey key l))))]) (fun i:Int=>((ofKey key l).length - i).toNat) (fun i:Int=>(0≤i∧i≤(ofKey key l).length)) 0 [4,5,6,8,9,29,30,31] [0,1] [] [0,1,2,3] ?_ (by kernel_rfl) rfl rfl rfl ?_
  ·exact⟨by simp,by simp⟩
  rintro i ⟨hi0,hi⟩
  refine Zs [zR 0] [] [zB 32 (decide (i<(↑(ofKey key l).length:Int)))] ?_
  refine J_seq ?_
  refine cC (t:=decide (i<(↑(ofKey key l).length:Int))) (fun hlt=>?_) (fun hlt=>?_)
  ·have hlt2:i<(ofKey key l).length:=by simpa using hlt
   obtain⟨x,hx⟩:∃x,(ofKey key l)[i.toNat]?=some x:=⟨_,List.getElem?_eq_getElem (by omega)⟩
   refine J_read1 3 rfl i.toNat (map_at hx) (by kernel_rfl) (fun b1 off1 cs1 ty1 fz1 a1_0 c1_0 ha1 hrd1=>?_)
   cases ha1
   have hrd1_0:=rd0 (hrd1 0 _ rfl)
   have hrd1_1:=hrd1 1 _ rfl
   have hrd1_2:=hrd1 2 _ rfl
   have hrd1_3:=hrd1 3 _ rfl
   have hrd1_4:=hrd1 4 _ rfl
   have hrd1_5:=hrd1 5 _ rfl
   have hrd1_6:=hrd1 6 _ rfl
   have hrd1_7:=hrd1 7 _ rfl
   have hrd1_8:=hrd1 8 _ rfl
   have hrd1_9:=hrd1 9 _ rfl
   have hrd1_10:=hrd1 10 _ rfl
   try simp only[aQ]
   refine J_skip (J_seq (J_block ?_))
   refine Zu [.rd 0 [] 0 2,.rd 1 [.r 0 (some (nI x.o.no)),.r 0 (some (.string x.o.key)),.r 0 (some (nI x.o.kind)),.r 0 (some (.string x.o.text)),.r 0 (some (nI x.o.n)),.r 0 (some (.bool x.o.remove)),.r 0 (some (.slice (a1_0,c1_0).fst ((List.map eDot x.o.dots).length) c1_0)),.r 0 (some (nI x.d.place)),.r 0 (some (nI x.d.time)),.r 0 (some (nI x.d.no)),.r 0 (some (nI x.w))] 0 0,.wr 2 [] 0,.wr 3 (hnO 2 11) 0] [(3,[])] [32] (fun nu3=>[zP 11 (nu3 0)]) o0 (fun nu3=>[(nu3 0,.cells #[nI x.o.no,.string x.o.key,nI x.o.kind,.string x.o.text,nI x.o.n,.bool x.o.remove,.slice (a1_0,c1_0).fst ((List.map eDot x.o.dots).length) c1_0,nI x.d.place,nI x.d.time,nI x.d.no,nI x.w] 271 (0,0))]) (fun nu3=>(oC hi0 (oC hlt2 (oC hrd1_0 (oC hrd1_1 (oC hrd1_2 (oC hrd1_3 (oC hrd1_4 (oC hrd1_5 (oC hrd1_6 (oC hrd1_7 (oC hrd1_8 (oC hrd1_9 (oC hrd1_10 oN)))))))))))))) (fun nu3=>?_)
   refine Zs [zR 0] [] [zI 35 3] ?_
   refine J_block ?_
   refine Zs [zR 0,zR 1] [] [zB 36 false] ?_
   refine cF ?_
   refine Zs [zR 0,zR 1] [36] [zB 42 false] ?_
   refine cF ?_
   refine J_skip (J_eb (J_eb ?_))
   refine Zp [.rd 0 [] 0 1,zR 1] [42] [zI 31 (i+1)] (oC (show IntKind.i64.wrap (i+1)=i+1 from wrap_i64 (by omega) (by omega)) oN) ?_
   refine J_backx (i+1) [4,5,6,8,9,29,30,31] [0,1] [] [0,1,2,3] ?_ ?_ (by kernel_rfl) rfl rfl rfl
   ·exact⟨by omega,by omega⟩
   ·omega
  ·refine J_exit rfl ?_
   refine J_seq ?_
   refine Zs [zR 0,zR 1] [32,8,29,30,31] [zB 53 true] ?_
   refine cTt ?_
   refine jT [(0,true),(1,false),(2,false),(3,false),(4,true),(5,false)] [] ?_
   refine Ya [zR 0] [53,6] [zS 54 a2 ((ofKey key l).length) c2] ?_
   refine Yc 163 #[.slice a2 ((ofKey key l).length) c2] (some 55) fun w S hG=>?_
   refine(vLive (hG.at 3 rfl) (by omega) hdl).mono ?_
   rintro e3 w3 ⟨mb,es,clock,ks,F,hR,hm,hst,hnd,hiff⟩
   refine⟨_,_,_,hR,?_⟩
   have hp:=ks_len hm hnd
   have hkt:∀t,t∈ks↔t∈(liveL (ofKey key l)).map (·.o.text):=fun t=>by rw[hiff,textDots_ne]
   have hkl:ks.length≤(ofKey key l).length:=by
    have h1:ks.length≤((liveL (ofKey key l)).map (·.o.text)).length:=hnd.length_le_of_subset fun t ht=>(hkt t).1 ht
    rw[List.length_map]at h1
    exact Nat.le_trans h1 (List.length_filter_le _ _)
   have hes:es.size≤4000000:=by
    have h1:=hp.length_eq
    rw[List.length_map,Array.length_toList]at h1
    omega
   have hksz:∀x∈es.toList,(keyB x.key).size≤1000000:=fun x hx=>by
    have h1:=(hkt _).1 (hp.mem_iff.1 (List.mem_map.2 ⟨x,hx,rfl⟩))
    obtain⟨y,hy,he⟩:=List.mem_map.1 h1
    obtain⟨p,hp2⟩:=fine_mem hc (mem_ofKey (List.mem_filter.1 hy).1)
    have h2:=opErr_fine hp2
    rw[←he]
    omega
   try simp only[aQ]
   refine Yc 162 #[.map (some mb)] (some 56) fun w S hG=>?_
   refine(vKeys (w:=w) (S:=S) (mb:=mb)).mono ?_
   rintro e4 w4 ⟨bx,ty,hR⟩
   refine⟨_,_,_,hR,?_⟩
   try simp only[aQ]
   refine JR_callz [] [0] 161 #[.func (.func 205) #[] #[.pointer (some (⟨bx,0,none⟩))]] (some 57) zero_all (by kernel_rfl) (by kernel_rfl) (by decide) (fun w S M hP hG _=>?_)
   refine(sortedKeys hP hm.key hst hes hksz (hG.at 4 rfl)).mono ?_
   rintro e5 w5 ⟨ua,un,uc,hR⟩
   rw[sortB_perm hp,sortB_set hnd hkt]at hR
   refine⟨_,_,_,hR,?_⟩
   try simp only[aQ]
   refine Ym [zR 4,.wr 5 [.o 1 none] 0] [57,56,55,54] (fun _=>[]) (fun _=>[(1,.cells #[nI 3,.string (ByteArray.mk #[]),nI 0,.slice ua un uc] 64 (0,0))]) o0 [] (fun _=>?_)
   refine JR_end ?_
   refine Zv [.rd 0 (hnO 1 4) 0 0,.wr 1 (hnO 0 4) 0,zR 2] [(1,[0])] [9] (fun _=>[]) (fun _=>[(0,.cells #[nI 3,.string (ByteArray.mk #[]),nI 0,.slice ua un uc] 64 (0,0))]) o0 (fun _=>?_)
   refine Yr [(hnO 0 4),[]] (.tuple #[.agg #[nI 3,.string (ByteArray.mk #[]),nI 0,.slice ua un uc],.nilIface]) fun a w s=>?_
   rw[hval]
   exact .inr ⟨hc,_,_,_,s.retz (by simp) [] [5] rfl rfl⟩
set_option maxHeartbeats 4000000 in
theorem vOf {w:World} {S:Nat→Prop} {er:Nat→Addr} {eb:Nat→Array Value×TypeId} {a:Option Addr} {n c:Nat} {key:ByteArray} {l:List ComT} (hC:Rep w S .nilIface (dC er eb)) (h:Rep w S (.slice a n c) (.sl 3 (l.map eCom))) (hl:l.length≤300000) (hl1:∀x∈l,x.when.length≤1000000) (hl2:∀x∈l,x.ops.length≤1000000) :
  Calls Tryz.prog 105 #[.string key,.slice a n c] w fun e w'=>((valFault key l).code≠0∧FVal (zero w) S w' e er (valFault key l) fun v=>.tuple #[valZ,v])∨((valFault key l).code=0∧∃ua un uc,Ret [] (zero w) S w' e (.tuple #[valA (Sx.valOf key l) (.slice ua un uc),.nilIface]) [] [(.slice ua un uc,dStrs (Sx.valOf key l).set)]):=by
 by_cases hk3:kindOf (opsOf key l)=3
 ·exact vOf3 hC h hl hl1 hl2 hk3
 ·refine(vOfR hC h hl hl1 hl2 hk3).mono ?_
  rintro e w' (⟨h1,h2⟩|⟨h1,h2⟩)
  ·exact .inl ⟨h1,fval_zero h2⟩
  ·have hs:(Sx.valOf key l).set=[]:=by simp only[Sx.valOf,if_neg hk3]
   refine .inr ⟨h1,none,0,0,?_⟩
   rw[hs]
   have hz:=ret_zero h2
   obtain⟨fps,q1,q2,q3,q4⟩:=hz.gh
   exact⟨hz.ret,hz.fr,fps,q1,q2,q3,fun x hx=>by
    obtain rfl:=List.mem_singleton.1 hx
    exact .nil⟩
end Go.Proofs.YtmkapocibaojdaaGreatDoor
end
section
namespace Go.Proofs.YtmkapocibaojdaaGreatDoor
open Go Go.Sx
set_option maxHeartbeats 4000000 in
theorem sameTexts_eq {w0:World} {S:Nat→Prop} {a b:Option Addr} {n m c d:Nat} {l:List ByteArray} (ha:Rep w0 S (.slice a n c) (dStrs l)) (hb:Rep w0 S (.slice b m d) (dStrs l)) (hl:l.length≤4000000) :
  Calls Tryz.prog 98 #[.slice a n c,.slice b m d] w0 fun e w'=>Ret [] w0 S w' e (.bool true) [] []:=by
 have e1:=ha.slen
 have e2:=hb.slen
 rw[List.length_map]at e1 e2
 subst e1 e2
 refine epG Tryz.func98 bd98 (args:=[.slice a l.length c,.slice b l.length d]) (G:=[(_,dStrs l),(_,dStrs l)]) (by kernel_rfl) (.cons ha (.cons hb (.nil _ _))) ?_
 refine Zs [zR 0] [] [zB 4 false] ?_
 refine J_seq ?_
 refine Zt (Rds 0 4++[.rd 4 [] 0 7]) [] [zB 10 false] (oC (show((↑l.length:Int) != (↑l.length:Int))=false from by simp) oN) ?_
 refine cF ?_
 refine J_skip (J_seq ?_)
 refine Zs [zR 0] [10] [zI 5 0] ?_
 refine J_block ?_
 refine J_loopx (fun i:Int=>[zS 0 a l.length c,zS 1 b l.length d,zB 4 false,zI 5 i]) (fun i:Int=>[]) (fun i:Int=>[]) (fun i:Int=>[(.slice a l.length c,(dStrs l)),(.slice b l.length d,(dStrs l))]) (fun i:Int=>(l.length - i).toNat) (fun i:Int=>(0≤i∧i≤l.length)) 0 [0,1,4,5] [] [] [0,1] ?_ (by kernel_rfl) rfl rfl rfl ?_
 ·exact⟨by omega,by omega⟩
 rintro i ⟨hi0,hi⟩
 refine J_seq ?_
 refine Zs (Rds 0 4) [] [zB 14 (decide (i<(↑l.length:Int)))] ?_
 refine cC (t:=decide (i<(↑l.length:Int))) (fun hlt=>?_) (fun hlt=>?_)
 ·have hlt2:i<l.length:=by simpa using hlt
  obtain⟨x,hx⟩:∃x,l[i.toNat]?=some x:=⟨_,List.getElem?_eq_getElem (by omega)⟩
  refine J_read0 0 rfl i.toNat (map_at hx) (by kernel_rfl) (fun b1 off1 cs1 ty1 fz1 ha1 hrd1=>?_)
  cases ha1
  have hrd1_0:=rd0 (hrd1 0 _ rfl)
  refine J_read0 1 rfl i.toNat (map_at hx) (by kernel_rfl) (fun b2 off2 cs2 ty2 fz2 ha2 hrd2=>?_)
  cases ha2
  have hrd2_0:=rd0 (hrd2 0 _ rfl)
  try simp only[aQ]
  refine J_skip (J_seq (J_block ?_))
  refine Zt [zR 0,zR 1,.rd 2 [] 0 2,.rd 3 [.r 0 (some (.string x))] 0 0,zR 4,zR 5,.rd 6 [] 0 2,.rd 7 [.r 1 (some (.string x))] 0 0,.rd 8 [] 0 7] [14] [zB 25 false] (oC hi0 (oC hlt2 (oC hrd1_0 (oC hi0 (oC hlt2 (oC hrd2_0 (oC (show(!x.toList==x.toList)=false from by simp) oN))))))) ?_
  refine cF ?_
  refine J_skip (J_eb ?_)
  refine Zp [zR 0,.rd 1 [] 0 1,zR 2] [25] [zI 5 (i+1)] (oC (show IntKind.i64.wrap (i+1)=i+1 from wrap_i64 (by omega) (by omega)) oN) ?_
  refine J_backx (i+1) [0,1,4,5] [] [] [0,1] ?_ ?_ (by kernel_rfl) rfl rfl rfl
  ·exact⟨by omega,by omega⟩
  ·omega
 ·refine J_exit rfl ?_
  refine Zs [zR 0] [14,0,1,5] [zB 4 true] ?_
  refine Yr [[]] (.bool true) fun a w s=>?_
  exact s.ret (by simp) [] [] rfl rfl
set_option maxHeartbeats 4000000 in
theorem sameValue_eq {w0:World} {S:Nat→Prop} {a b:Option Addr} {n m c d:Nat} {v:ValT} (ha:Rep w0 S (.slice a n c) (dStrs v.set)) (hb:Rep w0 S (.slice b m d) (dStrs v.set)) (hl:v.set.length≤4000000) :
  Calls Tryz.prog 30 #[valA v (.slice a n c),valA v (.slice b m d)] w0 fun e w'=>Ret [] w0 S w' e (.bool true) [] []:=by
 refine epG Tryz.func30 bd30 (args:=[valA v (.slice a n c),valA v (.slice b m d)]) (G:=[(_,dStrs v.set),(_,dStrs v.set)]) (by kernel_rfl) (.cons ha (.cons hb (.nil _ _))) ?_
 refine Zv [.wr 0 [] 0,.wr 1 [] 0,zR 2] [] [0,1] (fun nu1=>[zP 2 (nu1 0),zP 3 (nu1 1),zB 4 false]) o0 (fun nu1=>[(nu1 0,.cells #[nI v.kind,.string v.text,nI v.n,.slice a n c] 64 (0,0)),(nu1 1,.cells #[nI v.kind,.string v.text,nI v.n,.slice b m d] 64 (0,0))]) (fun nu1=>?_)
 refine jS [(0,true),(1,true),(2,true),(3,true),(4,true),(5,true),(6,true),(7,true),(8,true),(9,true),(10,true),(11,true),(12,true),(13,true),(14,true),(15,true),(16,true),(17,true),(18,true),(19,true),(20,true),(21,true),(22,true),(23,true),(24,false),(25,true),(26,true)] [] ?_
 refine Yp ([zR 0,.rd 1 [.o 0 none] 0 0,zR 2,.rd 3 [.o 1 none] 0 0,.rd 4 [] 0 6,zR 5,zR 6,.rd 7 [.o 0 none] 0 0,zR 8,.rd 9 [.o 1 none] 0 0,.rd 10 [] 0 6]++Rds 11 14++[.rd 14 [.o 0 none] 0 0,zR 15,.rd 16 [.o 1 none] 0 0,.rd 17 [] 0 6]++Rds 18 21++[.rd 21 [.o 0 none] 0 0,zR 22,.rd 23 [.o 1 none] 0 0]) [2,3] [zB 24 true,zS 26 a n c,zS 28 b m d] (oC (show(v.kind==v.kind)=true from by simp) (oC (show(v.text.toList==v.text.toList)=true from by simp) (oC (show(v.n==v.n)=true from by simp) oN))) ?_
 refine Yc 98 #[.slice a n c,.slice b m d] (some 29) fun w S hG=>?_
 refine(sameTexts_eq (hG.at 0 rfl) (hG.at 1 rfl) hl).mono ?_
 rintro e1 w1 hR
 refine⟨_,_,_,hR,?_⟩
 try simp only[aQ]
 refine Ya [zR 25,zR 26] [29,24,26,28] [zB 4 true] ?_
 refine JR_end ?_
 refine Yr [[]] (.bool true) fun a w s=>?_
 exact s.ret (by simp) [] [] rfl rfl
end Go.Proofs.YtmkapocibaojdaaGreatDoor
end
section
namespace Go.Proofs.YtmkapocibaojdaaGreatDoor
open Go Go.Sx
theorem enterB_len (l:List ByteArray) (s:ByteArray):(enterB l s).length≤l.length+1:=by
 induction l with
 | nil=>simp[enterB]
 | cons x l ih=>
  unfold enterB
  split
  ·rw[List.length_cons,List.length_cons]
   omega
  ·split
   ·omega
   ·simp
theorem setOf_lenF:∀(l p:List ByteArray),(l.foldl enterB p).length≤p.length+l.length
 | [],p=>by simp
 | x::l,p=>by
  have h1:=setOf_lenF l (enterB p x)
  have h2:=enterB_len p x
  rw[List.foldl_cons,List.length_cons]
  omega
theorem valOf_len {key:ByteArray} {l:List ComT} (h:(valFault key l).code=0):(Sx.valOf key l).set.length≤12*l.length:=by
 unfold Sx.valOf
 dsimp only
 split
 ·refine Nat.le_trans (setOf_lenF _ _) ?_
  rw[List.length_map,List.length_nil,Nat.zero_add]
  exact Nat.le_trans (List.length_filter_le _ _) (ofKey_len h)
 ·simp
theorem Rep.someA {w:World} {S:Nat→Prop} {a:Option Addr} {n c k:Nat} {rows:List (List D)} (h:Rep w S (.slice a n c) (.sl k rows)) (h0:rows≠[]):∃b off,a=some ⟨b,off,none⟩:=by
 cases h with
 | nil=>exact absurd rfl h0
 | sl u hb hS hc=>exact⟨_,_,rfl⟩
end Go.Proofs.YtmkapocibaojdaaGreatDoor
end
section
namespace Go.Sx
open Go
section fork
variable {P:Program} {ops:Array Oper} {Q:Exit→Act→World→Prop}
theorem yields_det {us us':List (Nat×Obj)} {o:Oper} {v v':Value} {a:Act} {w:World} (h:YieldsIf P ops (Hp us) o v a) (h':YieldsIf P ops (Hp us') o v' a) (hw:Hp us w) (hw':Hp us' w):v=v':=by
 rcases h with ⟨h1,h2⟩|⟨h1,h2⟩ <;> rcases h' with ⟨h3,h4⟩|⟨h3,h4⟩
 ·have:=(h2 w hw).symm.trans (h4 w hw')
  simpa using this
 ·rw[h1]at h3;cases h3
 ·rw[h1]at h3;cases h3
 ·rw[h2,h4]
def planF (ops:Array Oper):Nat→List (Nat×Bool)→List (Nat×Bool)→Array Bool→Bool
 | 0,(i,false)::r1,(j,false)::r2,listed=>Region.ready .any ops listed==[i,j]&&planOk ops r1 (listed.setIfInBounds i true)&&planOk ops r2 (listed.setIfInBounds j true)
 | m+1,(i,true)::r1,(j,true)::r2,listed=>Nat.beq i j&&(Region.ready .any ops listed).contains i&&Region.free .any ops listed i&&planF ops m r1 r2 (listed.setIfInBounds i true)
 | _,_,_,_=>false
theorem unlisted_after {listed:Array Bool} {i k:Nat} (hk:(listed.setIfInBounds i true).getD k true=false):i≠k∧listed.getD k true=false:=by
 have hik:i≠k:=by
  rintro rfl
  rcases Nat.lt_or_ge i listed.size with h'|h'
  ·simp[h']at hk
  ·simp[h']at hk
 rw[getD_set_ne true hik]at hk
 exact⟨hik,hk⟩
theorem step_write (hs:Region.noSelect ops=true) (hQ:∀(i:Nat) (o:Oper),ops[i]?=some o→∀c a v w,Q (.panic c) (a.put o.dst v) w→Q (.panic c) a w) {B:Nat} (W0:Nat→Option (List Nat)) {i:Nat} {rest:List (Nat×Bool)} {W:List (Nat×List Nat)} {listed:Array Bool} {a:Act} {w:World}
  (hr:i∈Region.ready .any ops listed) (hp:planOk ops rest (listed.setIfInBounds i true)=true) (hdown:Down .any ops listed) (hW:∀j,listed.getD j true=false→W.lookup j=W0 j) (h:PW P ops Q B true ((i,false)::rest) W a w) :
  wpOp P ops Q i (fun a' w'=>BG B (W0 i) w w'∧wpAnyG P .any ops Q B W0 rest.length (listed.setIfInBounds i true) a' w') a w:=by
 have hun:listed.getD i true=false:=(mem_ready.1 hr).1
 refine wpOp_mono (fun a' w' hh=>⟨?_,wpAnyG_of_plan hs hQ W0 rest (W.filter (·.1 != i)) _ _ _ hp (hdown.list hr) (fun k hk=>?_) hh.2⟩) h
 ·rw[←hW i hun];exact hh.1 rfl
 ·obtain⟨hik,hk2⟩:=unlisted_after hk
  rw[lookup_filter_ne i k (Ne.symm hik)]
  exact hW k hk2
theorem wpAnyG_of_fork (hs:Region.noSelect ops=true) (hQ:∀(i:Nat) (o:Oper),ops[i]?=some o→∀c a v w,Q (.panic c) (a.put o.dst v) w→Q (.panic c) a w) {B:Nat} (W0:Nat→Option (List Nat)) :
  ∀(m:Nat) (q1 q2:List (Nat×Bool)) (W:List (Nat×List Nat)) (listed:Array Bool) (a:Act) (w:World),planF ops m q1 q2 listed=true→q2.length=q1.length→Down .any ops listed →
   (∀j,listed.getD j true=false→W.lookup j=W0 j)→PW P ops Q B true q1 W a w→PW P ops Q B true q2 W a w→wpAnyG P .any ops Q B W0 q1.length listed a w
 | 0,(i,false)::r1,(j,false)::r2,W,listed,a,w,hp,hl,hdown,hW,h1,h2=>by
  simp only[planF,Bool.and_eq_true,beq_iff_eq]at hp
  obtain⟨⟨hr,hp1⟩,hp2⟩:=hp
  have hi:i∈Region.ready .any ops listed:=by rw[hr];simp
  have hj:j∈Region.ready .any ops listed:=by rw[hr];simp
  have hl2:r2.length=r1.length:=by simpa using hl
  refine⟨fun h0=>absurd h0 (by rw[hr];simp),fun k hk=>?_⟩
  rw[hr]at hk
  rcases List.mem_cons.1 hk with rfl|hk
  ·exact step_write hs hQ W0 hi hp1 hdown hW h1
  ·obtain rfl:=List.mem_singleton.1 hk
   have:=step_write hs hQ W0 hj hp2 hdown hW h2
   rw[hl2]at this
   exact this
 | m+1,(i,true)::r1,(j,true)::r2,W,listed,a,w,hp,hl,hdown,hW,h1,h2=>by
  simp only[planF,Bool.and_eq_true]at hp
  obtain⟨⟨⟨hij,hr⟩,hf⟩,hp'⟩:=hp
  obtain rfl:=Nat.eq_of_beq_eq_true hij
  obtain⟨o,v,us,ho,hy,hS,hd,hrest⟩:=h1
  obtain⟨o',v',us',ho',hy',hS',_,hrest'⟩:=h2
  rw[ho]at ho'
  cases ho'
  obtain rfl:=yields_det hy hy' hS hS'
  refine wpAnyG_first (us:=us) ho (Region.noSelect_spec hs) (fun c a w=>hQ _ _ ho c a v w) r1.length listed a w ?_ hdown (by simpa using hr) hy hS ?_
  ·intro k ok hok hki hun hno
   refine⟨Region.free_spec ho hf k ok hok hki hun hno,fun l hl=>?_⟩
   rw[←hW k hun]at hl
   exact hd rfl _ (mem_of_lookup hl)
  ·exact wpAnyG_of_fork hs hQ W0 m r1 r2 W _ _ _ hp' (by simpa using hl) (hdown.list (by simpa using hr)) (fun k hk=>hW k (unlisted_after hk).2) hrest hrest'
 | 0,[],_,_,_,_,_,hp,_,_,_,_,_=>by simp[planF]at hp
 | 0,(_,true)::_,_,_,_,_,_,hp,_,_,_,_,_=>by simp[planF]at hp
 | 0,(_,false)::_,[],_,_,_,_,hp,_,_,_,_,_=>by simp[planF]at hp
 | 0,(_,false)::_,(_,true)::_,_,_,_,_,hp,_,_,_,_,_=>by simp[planF]at hp
 | _+1,[],_,_,_,_,_,hp,_,_,_,_,_=>by simp[planF]at hp
 | _+1,(_,false)::_,_,_,_,_,_,hp,_,_,_,_,_=>by simp[planF]at hp
 | _+1,(_,true)::_,[],_,_,_,_,hp,_,_,_,_,_=>by simp[planF]at hp
 | _+1,(_,true)::_,(_,false)::_,_,_,_,_,hp,_,_,_,_,_=>by simp[planF]at hp
def forkOk (ops:Array Oper) (m:Nat) (q1 q2:List (Nat×Bool)):Bool:=
 Region.noSelect ops&&Nat.beq q1.length ops.size&&Nat.beq q2.length q1.length&&planF ops m q1 q2 (Array.replicate ops.size false)
theorem wp_region_fork {id:Nat} {a:Act} {w:World} (hm:P.follows .mixedOrders=true) (hQ:∀(i:Nat) (o:Oper),ops[i]?=some o→∀c a v w,Q (.panic c) (a.put o.dst v) w→Q (.panic c) a w) (m:Nat) (q1 q2:List (Nat×Bool)) (W:List (Nat×List Nat)) (hok:forkOk ops m q1 q2=true) {B:Nat}
  (h1:PW P ops Q B true q1 W a { w with drawn:=w.drawn+1 }) (h2:PW P ops Q B true q2 W a { w with drawn:=w.drawn+1 }):(Code.region id ops true).wp P Q a w:=by
 simp only[forkOk,Bool.and_eq_true]at hok
 obtain⟨⟨⟨hs,hl1⟩,hl2⟩,hp⟩:=hok
 have hlen:=Nat.eq_of_beq_eq_true hl1
 refine wp_region_any hm (wpAny_of_G (B:=B) (W:=fun j=>W.lookup j) _ _ _ _ ?_)
 rw[←hlen]
 rw[←hlen]at hp
 refine wpAnyG_of_fork hs hQ _ m q1 q2 W _ _ _ hp (Nat.eq_of_beq_eq_true hl2) (fun j o ho hl=>?_) (fun _ _=>rfl) h1 h2
 have hlt:=(Array.getElem?_eq_some_iff.1 ho).1
 rw[hlen]at hl
 simp[hlt]at hl
end fork
section rule
variable {P:Program} {f:Func} {R:Act→World→Prop} {n:Nat} {k:List Itm} {E:Env} {h r:List (Nat×Obj)} {F:List (List Nat×World)} {Y:Ghost}
theorem J_fork (hm:P.follows .mixedOrders=true) {id:Nat} (m:Nat) (q1 q2:List (Nat×Bool)) (Wp:List (Nat×List Nat)) (hok:forkOk (rgOf f id) m q1 q2=true) (hWp:okWp h.length Wp=true)
  (H1:JR P f R n (rgOf f id) h.length true q1 Wp k E h r F Y) (H2:JR P f R n (rgOf f id) h.length true q2 Wp k E h r F Y):J P f R n (.c (.rg id true)::k) E h r F Y:=fun a w ⟨fps,s⟩=>by
 have key:∀{q} (H:JR P f R n (rgOf f id) h.length true q Wp k E h r F Y) w,StF n E h r F Y a w fps→PW P (rgOf f id) (wpK P f R k) w.heap.size true q (idsW fps.flatten h Wp) a w:=fun H w s=>
  H w.heap.size fps.flatten fps a w s (fun b hb=>.inl hb) ⟨fun i _ x hx=>⟨s.own.own.lt (List.mem_of_getElem? hx),fun hm=>s.gh.disj _ hm (List.mem_map.2 ⟨x,List.mem_of_getElem? hx,rfl⟩)⟩,fun x hx=>⟨s.own.ro.lt hx,s.gh.apart x hx⟩,Nat.le_refl _,Nat.le_refl _⟩
   (fun j hj x hx=>by rw[List.getElem?_eq_none hj]at hx;cases hx) hWp
 simp only[wpK,Sk.code]
 exact wp_region_fork hm (fun i o ho c a v w hq=>absurd hq (wpK_panic _ _ _ _)) m q1 q2 _ hok (key H1 _ s.drew) (key H2 _ s.drew)
end rule
end Go.Sx
end
section
namespace Go.Sx
open Go
section fork3
variable {P:Program} {ops:Array Oper} {Q:Exit→Act→World→Prop}
def planR (ops:Array Oper):List (Nat×Bool)→Array Bool→Option (Array Bool)
 | [],listed=>some listed
 | (i,true)::rest,listed=>if ((Region.ready .any ops listed).contains i&&Region.free .any ops listed i)=true then planR ops rest (listed.setIfInBounds i true)else none
 | (_,false)::_,_=>none
def plan3 (ops:Array Oper) (rs:List (Nat×Bool)) (i:Nat) (q1 q2:List (Nat×Bool)) (j:Nat) (q3:List (Nat×Bool)) (listed:Array Bool):Bool:=match planR ops rs listed with
 | some l=>Region.ready .any ops l==[i,j]&&planF ops 0 q1 q2 (l.setIfInBounds i true)&&planOk ops q3 (l.setIfInBounds j true)
 | none=>false
def Both (P:Program) (ops:Array Oper) (Q:Exit→Act→World→Prop) (B i:Nat) (q1 q2:List (Nat×Bool)) (W:List (Nat×List Nat)) (a:Act) (w:World):Prop:=
 wpOp P ops Q i (fun a' w'=>BG B (W.lookup i) w w'∧PW P ops Q B true q1 (W.filter (·.1 != i)) a' w'∧PW P ops Q B true q2 (W.filter (·.1 != i)) a' w') a w
theorem wpAnyG_of_fork3 (hs:Region.noSelect ops=true) (hQ:∀(i:Nat) (o:Oper),ops[i]?=some o→∀c a v w,Q (.panic c) (a.put o.dst v) w→Q (.panic c) a w) {B:Nat} (W0:Nat→Option (List Nat)) {i j:Nat} {q1 q2 q3:List (Nat×Bool)} (hl2:q2.length=q1.length) (hl3:q3.length=q1.length) (W:List (Nat×List Nat)) :
  ∀(rs:List (Nat×Bool)) (listed:Array Bool) (a:Act) (w:World),plan3 ops rs i q1 q2 j q3 listed=true→Down .any ops listed→(∀j,listed.getD j true=false→W.lookup j=W0 j) →
   PW P ops (fun _ a w=>Both P ops Q B i q1 q2 W a w∧PW P ops Q B true ((j,false)::q3) W a w) B true rs W a w→wpAnyG P .any ops Q B W0 (rs.length+(q1.length+1)) listed a w
 | [],listed,a,w,hp,hdown,hW,h=>by
  simp only[plan3,planR,Bool.and_eq_true,beq_iff_eq]at hp
  obtain⟨⟨hr,hF⟩,hp3⟩:=hp
  obtain⟨h1,h2⟩:=h
  have hi:i∈Region.ready .any ops listed:=by rw[hr];simp
  have hj:j∈Region.ready .any ops listed:=by rw[hr];simp
  rw[List.length_nil,Nat.zero_add]
  refine⟨fun h0=>absurd h0 (by rw[hr];simp),fun k hk=>?_⟩
  rw[hr]at hk
  rcases List.mem_cons.1 hk with rfl|hk
  ·have hun:listed.getD k true=false:=(mem_ready.1 hi).1
   refine wpOp_mono (fun a' w' hh=>⟨?_,?_⟩) h1
   ·rw[←hW k hun]
    exact hh.1
   ·refine wpAnyG_of_fork hs hQ W0 0 q1 q2 _ _ _ _ hF hl2 (hdown.list hi) (fun l hl=>?_) hh.2.1 hh.2.2
    obtain⟨hkl,hl2⟩:=unlisted_after hl
    rw[lookup_filter_ne k l (Ne.symm hkl)]
    exact hW l hl2
  ·obtain rfl:=List.mem_singleton.1 hk
   have:=step_write hs hQ W0 hj hp3 hdown hW h2
   rw[hl3]at this
   exact this
 | (r,true)::rs,listed,a,w,hp,hdown,hW,h=>by
  have hp':((Region.ready .any ops listed).contains r&&Region.free .any ops listed r)=true∧plan3 ops rs i q1 q2 j q3 (listed.setIfInBounds r true)=true:=by
   simp only[plan3,planR]at hp ⊢
   split at hp
   ·rename_i l hl
    split at hl
    ·rename_i hc
     exact⟨hc,by rw[hl];exact hp⟩
    ·cases hl
   ·cases hp
  obtain⟨hc,hp'⟩:=hp'
  rw[Bool.and_eq_true]at hc
  obtain⟨hr,hf⟩:=hc
  obtain⟨o,v,us,ho,hy,hS,hd,hrest⟩:=h
  rw[List.length_cons,Nat.add_right_comm]
  refine wpAnyG_first (us:=us) ho (Region.noSelect_spec hs) (fun c a w=>hQ _ _ ho c a v w) (rs.length+(q1.length+1)) listed a w ?_ hdown (by simpa using hr) hy hS ?_
  ·intro k ok hok hki hun hno
   refine⟨Region.free_spec ho hf k ok hok hki hun hno,fun l hl=>?_⟩
   rw[←hW k hun]at hl
   exact hd rfl _ (mem_of_lookup hl)
  ·exact wpAnyG_of_fork3 hs hQ W0 hl2 hl3 W rs _ _ _ hp' (hdown.list (by simpa using hr)) (fun k hk=>hW k (unlisted_after hk).2) hrest
 | (_,false)::_,_,_,_,hp,_,_,_=>by simp[plan3,planR]at hp
def fork3Ok (ops:Array Oper) (rs:List (Nat×Bool)) (i:Nat) (q1 q2:List (Nat×Bool)) (j:Nat) (q3:List (Nat×Bool)):Bool:=
 Region.noSelect ops&&Nat.beq (rs.length+(q1.length+1)) ops.size&&Nat.beq q2.length q1.length&&Nat.beq q3.length q1.length&&plan3 ops rs i q1 q2 j q3 (Array.replicate ops.size false)
theorem wp_region_fork3 {id:Nat} {a:Act} {w:World} (hm:P.follows .mixedOrders=true) (hQ:∀(i:Nat) (o:Oper),ops[i]?=some o→∀c a v w,Q (.panic c) (a.put o.dst v) w→Q (.panic c) a w) {rs:List (Nat×Bool)} {i j:Nat} {q1 q2 q3:List (Nat×Bool)} (W:List (Nat×List Nat)) (hok:fork3Ok ops rs i q1 q2 j q3=true) {B:Nat}
  (h:PW P ops (fun _ a w=>Both P ops Q B i q1 q2 W a w∧PW P ops Q B true ((j,false)::q3) W a w) B true rs W a { w with drawn:=w.drawn+1 }):(Code.region id ops true).wp P Q a w:=by
 simp only[fork3Ok,Bool.and_eq_true]at hok
 obtain⟨⟨⟨⟨hs,hl1⟩,hl2⟩,hl3⟩,hp⟩:=hok
 have hlen:=Nat.eq_of_beq_eq_true hl1
 refine wp_region_any hm (wpAny_of_G (B:=B) (W:=fun j=>W.lookup j) _ _ _ _ ?_)
 rw[←hlen]
 rw[←hlen]at hp
 refine wpAnyG_of_fork3 hs hQ _ (Nat.eq_of_beq_eq_true hl2) (Nat.eq_of_beq_eq_true hl3) W rs _ _ _ hp (fun j o ho hl=>?_) (fun _ _=>rfl) h
 have hlt:=(Array.getElem?_eq_some_iff.1 ho).1
 rw[hlen]at hl
 simp[hlt]at hl
end fork3
section rule
variable {P:Program} {f:Func} {R:Act→World→Prop} {n:Nat} {k:List Itm} {E:Env} {h r:List (Nat×Obj)} {F:List (List Nat×World)} {Y:Ghost}
def JR2 (P:Program) (f:Func) (R:Act→World→Prop) (n:Nat) (ops:Array Oper) (L0:Nat) (i:Nat) (q1 q2:List (Nat×Bool)) (Wp:List (Nat×List Nat)) (k:List Itm) (E:Env) (h r:List (Nat×Obj)) (F:List (List Nat×World)) (Y:Ghost):Prop:=
 ∀B Hd fps a w,StF n E h r F Y a w fps→(∀b∈fps.flatten,b∈Hd∨B≤b)→RI Hd B L0 h r w→New B L0 h→okWp L0 Wp=true→Both P ops (wpK P f R k) B i q1 q2 (idsW Hd h Wp) a w
theorem J_fork3 (hm:P.follows .mixedOrders=true) {id:Nat} (pl:List Pl) (i j:Nat) (q1 q2 q3:List (Nat×Bool)) (Wp:List (Nat×List Nat)) (keep:List Nat) {E1:(Nat→Nat)→Env} {p1:(Nat→Nat)→List Prop} (hok:fork3Ok (rgOf f id) (pl.map Pl.key) i q1 q2 j q3=true) (hWp:okWp h.length Wp=true)
  (hr:∀nu,(packed (runReg P n nu f id h.length true pl Wp E h r keep),trivL (runReg P n nu f id h.length true pl Wp E h r keep))=(some (E1 nu,h,p1 nu,Wp),trivR (runReg P n nu f id h.length true pl Wp E h r keep))) (hp:∀nu,AllP (p1 nu))
  (H1:∀nu,JR2 P f R n (rgOf f id) h.length i q1 q2 Wp k (E1 nu) h r F Y) (H3:∀nu,JR P f R n (rgOf f id) h.length true ((j,false)::q3) Wp k (E1 nu) h r F Y):J P f R n (.c (.rg id true)::k) E h r F Y:=fun a w ⟨fps,s0⟩=>by
 have s:=s0.drew
 have hH:∀b∈fps.flatten,b∈fps.flatten∨w.heap.size≤b:=fun b hb=>.inl hb
 have hR:RI fps.flatten w.heap.size h.length h r { w with drawn:=w.drawn+1 }:=⟨fun i _ x hx=>⟨s0.own.own.lt (List.mem_of_getElem? hx),fun hm=>s0.gh.disj _ hm (List.mem_map.2 ⟨x,List.mem_of_getElem? hx,rfl⟩)⟩,fun x hx=>⟨s0.own.ro.lt hx,s0.gh.apart x hx⟩,Nat.le_refl _,Nat.le_refl _⟩
 have hN:New w.heap.size h.length h:=fun j hj x hx=>by rw[List.getElem?_eq_none hj]at hx;cases hx
 simp only[wpK,Sk.code]
 refine wp_region_fork3 (B:=w.heap.size) (rs:=pl.map Pl.key) hm (fun i o ho c a v w hq=>absurd hq (wpK_panic _ _ _ _)) (idsW fps.flatten h Wp) hok ?_
 obtain⟨h2,h3⟩:=Prod.mk.inj (hr (fun j=>w.heap.size+j))
 unfold runReg at h2 h3
 split at h2
 ·rename_i E' x' W' p hrun
  rw[hrun]at h3
  simp only[packed,Option.some.injEq,Prod.mk.injEq]at h2
  obtain⟨e1,e2,e3,e4⟩:=h2
  have key:=run_PW (Q:=fun _ a w'=>Both P (rgOf f id) (wpK P f R k) w.heap.size i q1 q2 (idsW fps.flatten h Wp) a w'∧PW P (rgOf f id) (wpK P f R k) w.heap.size true ((j,false)::q3) (idsW fps.flatten h Wp) a w') (rest:=[]) pl Wp E ⟨h,0,[]⟩ E' x' W' p hrun (All_of p h3 (by rw[e3];exact hp _)) hWp a { w with drawn:=w.drawn+1 } s.ag s.own (fun j=>by simp) hR hN fun a' w' hA hO _ hR' hN' hd hW'=>?_
  ·rw[List.append_nil]at key
   exact key
  ·rw[e2]at hO hR' hN' hd
   have hA':Ag n (E1 fun j=>w.heap.size+j) a':=hA.sub (by rw[←e1];exact keepE_sub E' keep)
   have s':=s.go hA' hO hd
   exact⟨H1 _ w.heap.size fps.flatten fps a' w' s' hH hR' hN' hWp,H3 _ w.heap.size fps.flatten fps a' w' s' hH hR' hN' hWp⟩
 ·cases h2
end rule
end Go.Sx
end
section
namespace Go.Sx
open Go
section reads
variable {P:Program} {f:Func} {R:Act→World→Prop} {n:Nat} {kk:List Itm} {E:Env} {h r:List (Nat×Obj)} {F:List (List Nat×World)}
theorem StF.show {Y:Ghost} {a:Act} {w:World} {fps:List (List Nat)} (s:StF n E h r F Y a w fps) (i:Nat) {b:Nat} {o:Obj} (hi:Y.C[i]?=some (cObj b o)):StF n E (h++[(b,o)]) r F ⟨Y.S,Y.C.eraseIdx i,Y.G⟩ a w (fps.eraseIdx i):=by
 obtain⟨fp,hfp,rfl,hb⟩:=s.gh.chs.at hi
 have hm:b∈fps.flatten:=List.mem_flatten.2 ⟨_,List.mem_of_getElem? hfp,by simp⟩
 have hnb:b∉(fps.eraseIdx i).flatten:=fun hc=>by
  obtain⟨j,x,hj,hx,hbx⟩:=mem_erase_flat hc
  exact hj (flat_at s.gh.nodup hx hfp hbx (by simp))
 have hids:(h++[(b,o)]).map (·.1)=h.map (·.1)++[b]:=by simp
 have hS:∀c,Sd Y h fps c→Sd Y (h++[(b,o)]) (fps.eraseIdx i) c:=fun c hc=>⟨hc.1,fun hx=>by
  rw[hids]at hx
  rcases List.mem_append.1 hx with hx|hx
  ·exact hc.2.1 hx
  ·rw[List.mem_singleton]at hx
   subst hx
   exact hc.2.2 hm,fun hx=>hc.2.2 (erase_flat_sub hx)⟩
 have hin:∀x∈h++[(b,o)],x∈h∨x=(b,o):=fun x hx=>by simpa using hx
 refine⟨s.ag,⟨fun x hx=>?_,?_,s.own.ro,fun x hx hc=>?_⟩,s.fr,fun f hf x hx=>?_,
  ⟨s.gh.chs.erase.mono (fun _ _=>rfl) fun c hc _=>⟨hS c hc,rfl⟩,nodup_sublist_flat s.gh.nodup (List.eraseIdx_sublist _ _),fun c hc hx=>?_,fun x hx hc=>s.gh.apart x hx (erase_flat_sub hc),fun f hf c hc=>s.gh.may f hf c (erase_flat_sub hc),fun c hc=>s.gh.lt c (erase_flat_sub hc),fun x hx=>?_,fun c hc=>s.gh.hid c (erase_flat_sub hc),s.gh.top,fun x hx=>(s.gh.g x hx).mono fun c hc _=>⟨hS c hc,rfl⟩⟩⟩
 ·rcases hin x hx with h1|rfl
  ·exact s.own.own x h1
  ·exact hb
 ·rw[hids,List.nodup_append]
  refine⟨s.own.nodup,by simp,fun x hx y hy hxy=>?_⟩
  simp at hy
  subst hy hxy
  exact s.gh.disj _ hm hx
 ·rw[hids]at hc
  rcases List.mem_append.1 hc with hc|hc
  ·exact s.own.apart x hx hc
  ·rw[List.mem_singleton]at hc
   exact s.gh.apart x hx (by rw[hc];exact hm)
 ·rcases hin x hx with h1|rfl
  ·exact s.may f hf x h1
  ·exact s.gh.may f hf _ hm
 ·rw[hids]at hx
  rcases List.mem_append.1 hx with hx|hx
  ·exact s.gh.disj c (erase_flat_sub hc) hx
  ·rw[List.mem_singleton]at hx
   subst hx
   exact hnb hc
 ·rcases hin x hx with h1|rfl
  ·exact s.gh.own x h1
  ·exact s.gh.hid _ hm
end reads
end Go.Sx
end
section
namespace Go.Sx
open Go
section
variable {P:Program} {f:Func} [Pan f] {R:Act→World→Prop} {n:Nat} [Dfr n] {k:List Itm} {E:Env} {h r:List (Nat×Obj)} {F:List (List Nat×World)} {Y:Ghost}
theorem JN {S0:Nat→Prop} {C0:List Chunk} {G0:List (Value×D)} {ops:Array Oper} {L0:Nat} {ck:Bool} {plan:List (Nat×Bool)} {Wp:List (Nat×List Nat)} (C':List Chunk) (H:JR P f R n ops L0 ck plan Wp k E h r F ⟨S0,C',G0⟩) (hC:C0=C':=by kernel_rfl):JR P f R n ops L0 ck plan Wp k E h r F ⟨S0,C0,G0⟩:=by
 subst hC
 exact H
end
def leaveR (P:Program) (fn:Func) (Rr:Ending→World→Prop) (u:FrameMode) (a:Act) (w:World):Prop:=∀tmps:Array Value,tmps.size=a.tmps.size→(∀p∈pins fn,tmps.getD p undef=a.tmps.getD p undef)→Leaves P fn tmps Rr a.defers u w
theorem pins_put {fn:Func} {a:Act} {d:Option Tmp} {v:Value} (hd:pinFree fn d=true):∀p∈pins fn,(a.put d v).tmps.getD p undef=a.tmps.getD p undef:=by
 intro p hp
 cases d with
 | none=>rfl
 | some d=>
  have hne:d≠p:=by
   rintro rfl
   simp[pinFree,hp]at hd
  simp only[Act.put,Array.getD_eq_getD_getElem?,Array.getElem?_setIfInBounds,if_neg hne]
@[reducible] def panLeave (P:Program) (fn:Func) (Rr:Ending→World→Prop):Pan fn where
 pan c a w:=leaveR P fn Rr (.panicking c) a w
 put c a d v w hd h tmps hs ht:=by
  have:=h tmps (hs.trans (by cases d <;> simp[Act.put])) fun p hp=>(ht p hp).trans (pins_put hd p hp).symm
  cases d <;> exact this
theorem St.frame {n n':Nat} [Dfr n] [Dfr n'] {E E':Env} {h r:List (Nat×Obj)} {F:List (List Nat×World)} {Y:Ghost} {a a':Act} {w:World} (s:St n E h r F Y a w) (hA:Ag n' E' a'):St n' E' h r F Y a' w:=by
 obtain⟨fps,s⟩:=s
 exact⟨fps,hA,s.own,s.fr,s.may,s.gh⟩
theorem keepE_look (E:Env) {t:Nat} {ev:EV}:∀ts:List Nat,(keepE E ts).lookup t=some ev→t∈ts
 | [],h=>by cases h
 | u::ts,h=>by
  unfold keepE at h
  split at h
  ·by_cases ht:t=u
   ·subst ht
    exact List.mem_cons_self ..
   ·rw[lookup_cons_ne _ _ ht]at h
    exact List.mem_cons_of_mem _ (keepE_look E ts h)
  ·exact List.mem_cons_of_mem _ (keepE_look E ts h)
theorem Ag.pinned {n:Nat} {inst:Dfr n} {fn:Func} {E:Env} {a:Act} {tmps:Array Value} (hA:@Ag n inst E a) (hs:tmps.size=a.tmps.size) (ht:∀p∈pins fn,tmps.getD p undef=a.tmps.getD p undef):@Ag n (instDfr n) (keepE E (pins fn)) ⟨tmps,[]⟩:=by
 refine @Ag.mk n (instDfr n) _ _ rfl (hs.trans hA.size) fun t ev he=>?_
 have h1:=keepE_look E _ he
 have h2:=hA.look t ev (keepE_sub E _ t ev he)
 have h3:=ht t h1
 have hlt:t<a.tmps.size:=(Array.getElem?_eq_some_iff.1 h2).1
 have hlt2:t<tmps.size:=by omega
 simp only[Array.getD_eq_getD_getElem?,h2,Array.getElem?_eq_getElem hlt2,Option.getD_some]at h3
 rw[Array.getElem?_eq_getElem hlt2,h3]
end Go.Sx
end
section
namespace Go.Sx
open Go
def cBox {α:Type} (p:α→Prop) (G:α→List (Value×D)) (C:α→List Chunk):Chunk where
 P w S fp:=∃x fps,fp=fps.flatten∧p x∧(∀y∈G x,Rep w S y.1 y.2)∧Chs w S (C x) fps
 mono:=by
  intro w w' S S' fp h hb hS
  obtain⟨x,fps,h1,h2,h3,h4⟩:=h
  exact⟨x,fps,h1,h2,fun y hy=>(h3 y hy).mono hS,h4.mono (fun b hm=>hb b (by rw[h1];exact hm)) hS⟩
section boxes
variable {h r:List (Nat×Obj)} {F:List (List Nat×World)}
theorem stp_openbox {S0:Nat→Prop} {C0:List Chunk} {G0:List (Value×D)} (q:Nat) {α:Type} {p:α→Prop} {G:α→List (Value×D)} {C:α→List Chunk} (hq:C0[q]?=some (cBox p G C)) :
  Stp h r F ⟨S0,C0,G0⟩ p fun x=>⟨S0,C0.eraseIdx q++C x,G0++G x⟩:=by
 intro w fps hO H
 obtain⟨fp,hfp,x,fpsI,rfl,hp,hG,hP⟩:=H.chs.at hq
 have hperm:(fps.eraseIdx q++fpsI).flatten.Perm fps.flatten:=by
  rw[List.flatten_append]
  exact List.perm_append_comm.trans (flat_out hfp).symm
 have hsub:∀b∈(fps.eraseIdx q++fpsI).flatten,b∈fps.flatten:=fun b hb=>hperm.mem_iff.1 hb
 have hS:∀b,Sd ⟨S0,C0,G0⟩ h fps b→Sd ⟨S0,C0,G0⟩ h (fps.eraseIdx q++fpsI) b:=fun b hb=>Sd_sub hsub hb
 refine⟨x,_,hp,hsub,H.less hsub (hperm.nodup_iff.2 H.nodup) ((H.chs.erase.app hP).mono (fun _ _=>rfl) fun b hb _=>⟨hS b hb,rfl⟩) fun y hy=>?_⟩
 rcases List.mem_append.1 hy with hy|hy
 ·exact(H.g y hy).mono fun b hb _=>⟨hS b hb,rfl⟩
 ·exact(hG y hy).mono fun b hb _=>⟨hS b hb,rfl⟩
theorem others_app_nodup (n:Nat) {ps:List Nat} (hnd:ps.Nodup):(others n ps++ps).Nodup:=by
 rw[List.nodup_append]
 refine⟨List.Nodup.sublist List.filter_sublist List.nodup_range,hnd,fun x hx y hy hxy=>?_⟩
 subst hxy
 simp[others]at hx
 exact hx.2 hy
theorem stp_closebox {S0:Nat→Prop} {C0:List Chunk} {G0:List (Value×D)} (ps:List Nat) {α:Type} {p:α→Prop} {G:α→List (Value×D)} {C:α→List Chunk} (x:α) (hC:pick C0 ps=C x) (hG:∀y∈G x,y∈G0) (hp:p x) (hnd:ps.Nodup:=by decide) :
  Stp h r F ⟨S0,C0,G0⟩ (fun _:Unit=>True) fun _=>⟨S0,restC C0 ps++[cBox p G C],G0⟩:=by
 intro w fps hO H
 have hE:(pick fps (others C0.length ps)++[(pick fps ps).flatten]).flatten=(pick fps (others C0.length ps++ps)).flatten:=by
  rw[pick_app,List.flatten_append,List.flatten_append]
  simp
 have hsub:∀b∈(pick fps (others C0.length ps)++[(pick fps ps).flatten]).flatten,b∈fps.flatten:=fun b hb=>by
  rw[hE]at hb
  exact pick_flat_sub hb
 have hS:∀b,Sd ⟨S0,C0,G0⟩ h fps b→Sd ⟨S0,C0,G0⟩ h (pick fps (others C0.length ps)++[(pick fps ps).flatten]) b:=fun b hb=>Sd_sub hsub hb
 have hj:Chs w (Sd ⟨S0,C0,G0⟩ h fps) [cBox p G C] [(pick fps ps).flatten]:=
  ⟨⟨x,_,rfl,hp,fun y hy=>H.g y (hG y hy),hC ▸ H.chs.pick ps⟩,trivial⟩
 refine⟨(),_,trivial,hsub,H.less hsub ?_ (((H.chs.pick _).app hj).mono (fun _ _=>rfl) fun b hb _=>⟨hS b hb,rfl⟩) fun y hy=>(H.g y hy).mono fun b hb _=>⟨hS b hb,rfl⟩⟩
 rw[hE]
 exact pick_flat_nodup H.nodup (others_app_nodup _ hnd)
end boxes
end Go.Sx
end
section
namespace Go.Sx
open Go
section frames
variable {w w':World} {S:Nat→Prop} {M M1:List Nat} {e:Ending} {v:Value} {C C1 C2:List Chunk} {G G0:List (Value×D)}
theorem Pre.no (h:Pre w S M C):∀b∈M,¬S b:=fun b hb=>by
 obtain⟨_,_,_,_,h4⟩:=h
 exact(h4 b hb).2
theorem Ret.more (h:Ret M w S w' e v C G) (hM:∀b∈M,¬S b) (hG:AllG w S G0):Ret M w S w' e v C (G++G0):=by
 obtain⟨h1,h2,fps,h3,h4,h5,h6⟩:=h
 refine⟨h1,h2,fps,h3,h4,h5,fun x hx=>?_⟩
 rcases List.mem_append.1 hx with hx|hx
 ·exact h6 x hx
 ·refine(hG x hx).mono fun b hb hlt=>⟨⟨.inl hb,fun hf=>?_⟩,h2.block b hlt fun hm=>hM b hm hb⟩
  rcases(h5 b hf).1 with h7|h7
  ·exact hM b h7 hb
  ·omega
theorem Ret.less (h:Ret M w S w' e v C G) (hG:∀x∈G0,x∈G):Ret M w S w' e v C G0:=by
 obtain⟨h1,h2,fps,h3,h4,h5,h6⟩:=h
 exact⟨h1,h2,fps,h3,h4,h5,fun x hx=>h6 x (hG x hx)⟩
theorem Pre.open {α:Type} {p:α→Prop} {Gx:α→List (Value×D)} {Cx:α→List Chunk} (h:Pre w S M (cBox p Gx Cx::C)):∃x,p x∧AllG w S (Gx x)∧Pre w S M (Cx x++C):=by
 obtain⟨fps,hc,rfl,hn,hs⟩:=h
 match fps,hc with
 | _::fps,⟨⟨x,fi,rfl,hp,hG,hC⟩,hr⟩=>exact⟨x,hp,hG,fi++fps,hC.app hr,by simp,hn,hs⟩
theorem Ret.close {α:Type} {p:α→Prop} {Gx:α→List (Value×D)} {Cx:α→List Chunk} (x:α) (h:Ret M w S w' e v (Cx x++C) G) (hp:p x) (hG:∀y∈Gx x,y∈G):Ret M w S w' e v (cBox p Gx Cx::C) G:=by
 obtain⟨h1,h2,fps,h3,h4,h5,h6⟩:=h
 obtain⟨f1,f2,rfl,h7,h8⟩:=h3.split
 have he:(f1.flatten::f2).flatten=(f1++f2).flatten:=by simp
 have hr:retS S M w (f1.flatten::f2)=retS S M w (f1++f2):=by unfold retS;rw[he]
 refine⟨h1,h2,f1.flatten::f2,?_,by rw[he];exact h4,by rw[he];exact h5,by rw[hr];exact h6⟩
 rw[hr]
 exact⟨⟨x,f1,rfl,hp,fun y hy=>h6 y (hG y hy),h7⟩,h8⟩
theorem Chs.perm {cs cs':List Chunk} (hp:cs.Perm cs'):∀{fps:List (List Nat)},Chs w S cs fps→∃fps',fps'.flatten.Perm fps.flatten∧Chs w S cs' fps':=by
 induction hp with
 | nil=>exact fun{fps} h=>⟨fps,.refl _,h⟩
 | cons c _ ih=>
  intro fps h
  match fps,h with
  | fp::fps,⟨h1,h2⟩=>
   obtain⟨f',hp,h3⟩:=ih h2
   exact⟨fp::f',by simpa using hp.append_left fp,h1,h3⟩
 | swap a b _=>
  intro fps h
  match fps,h with
  | f1::f2::fps,⟨h1,h2,h3⟩=>exact⟨f2::f1::fps,by simp only[List.flatten_cons,←List.append_assoc];exact List.perm_append_comm.append_right _,h2,h1,h3⟩
 | trans _ _ ih1 ih2=>
  intro fps h
  obtain⟨f1,hp1,h1⟩:=ih1 h
  obtain⟨f2,hp2,h2⟩:=ih2 h1
  exact⟨f2,hp2.trans hp1,h2⟩
theorem Pre.perm {C':List Chunk} (h:Pre w S M C) (hp:C.Perm C'):∃M',M'.Perm M∧Pre w S M' C':=by
 obtain⟨fps,hc,rfl,hn,hs⟩:=h
 obtain⟨f',hp',hc'⟩:=hc.perm hp
 exact⟨_,hp',f',hc',rfl,hp'.nodup_iff.2 hn,fun b hb=>hs b (hp'.mem_iff.1 hb)⟩
theorem retS_eq {M':List Nat} {f f':List (List Nat)} (hM:∀b,b∈M'↔b∈M) (hf:∀b,b∈f'.flatten↔b∈f.flatten):retS S M' w f'=retS S M w f:=by
 funext b
 simp only[retS,newS,hM,hf]
theorem Ret.perm {C':List Chunk} {M':List Nat} (h:Ret M w S w' e v C G) (hp:C.Perm C') (hM:M'.Perm M):Ret M' w S w' e v C' G:=by
 obtain⟨h1,h2,fps,h3,h4,h5,h6⟩:=h
 obtain⟨f',hp',hc'⟩:=h3.perm hp
 have hr:retS S M' w f'=retS S M w fps:=retS_eq (fun b=>hM.mem_iff) fun b=>hp'.mem_iff
 refine⟨h1,h2.mono fun x hx=>.inl (hM.mem_iff.2 hx),f',by rw[hr];exact hc',hp'.nodup_iff.2 h4,fun b hb=>?_,by rw[hr];exact h6⟩
 rw[hM.mem_iff]
 exact h5 b (hp'.mem_iff.1 hb)
theorem Pre.part (h:Pre w S M (C1++C2)):∃M1,Pre w S M1 C1∧∀{w':World} {e:Ending} {v:Value} {C':List Chunk} {G:List (Value×D)},Ret M1 w S w' e v C' G→Ret M w S w' e v (C'++C2) G:=by
 obtain⟨fps,hc,rfl,hn,hs⟩:=h
 obtain⟨f1,f2,rfl,hc1,hc2⟩:=hc.split
 rw[List.flatten_append]at hn hs
 obtain⟨hn1,hn2,hn3⟩:=List.nodup_append.1 hn
 refine⟨f1.flatten,⟨f1,hc1,rfl,hn1,fun b hb=>hs b (List.mem_append.2 (.inl hb))⟩,?_⟩
 intro w' e v C' G h
 obtain⟨h1,h2,fps,h3,h4,h5,h6⟩:=h
 have hout:∀b∈f2.flatten,b∉f1.flatten∧b<w.heap.size∧¬S b:=fun b hb=>⟨fun hm=>hn3 b hm b hb rfl,hs b (List.mem_append.2 (.inr hb))⟩
 have hS:∀b,retS S f1.flatten w fps b→b<w'.heap.size→retS S (f1++f2).flatten w (fps++f2) b∧w'.heap[b]?=w'.heap[b]?:=fun b hb _=>by
  obtain⟨hb1,hb2⟩:=hb
  refine⟨⟨?_,?_⟩,rfl⟩
  ·rcases hb1 with h|h|h
   ·exact .inl h
   ·exact .inr (.inl (by rw[List.flatten_append];exact List.mem_append.2 (.inl h)))
   ·exact .inr (.inr h)
  ·rw[List.flatten_append]
   intro hm
   rcases List.mem_append.1 hm with hm|hm
   ·exact hb2 hm
   ·obtain⟨ha,hb,hc⟩:=hout b hm
    rcases hb1 with h|h|h
    ·exact hc h
    ·exact ha h
    ·omega
 have hfr:Fr f1.flatten w w':=h2
 refine⟨h1,h2.mono fun x hx=>.inl (by rw[List.flatten_append];exact List.mem_append.2 (.inl hx)),fps++f2,?_,?_,?_,?_⟩
 ·refine(h3.mono (fun _ _=>rfl) hS).app (hc2.mono (fun b hb=>hfr.block b (hout b hb).2.1 (hout b hb).1) fun b hb hlt=>⟨⟨.inl hb,?_⟩,hfr.block b hlt fun hm=>(hs b (List.mem_append.2 (.inl hm))).2 hb⟩)
  rw[List.flatten_append]
  intro hm
  rcases List.mem_append.1 hm with hm|hm
  ·rcases(h5 b hm).1 with h|h
   ·exact(hs b (List.mem_append.2 (.inl h))).2 hb
   ·omega
  ·exact(hout b hm).2.2 hb
 ·rw[List.flatten_append]
  refine List.nodup_append.2 ⟨h4,hn2,fun a ha b hb hab=>?_⟩
  subst hab
  rcases(h5 a ha).1 with h|h
  ·exact(hout a hb).1 h
  ·have:=(hout a hb).2.1
   omega
 ·intro b hb
  rw[List.flatten_append]at hb ⊢
  rcases List.mem_append.1 hb with hb|hb
  ·obtain⟨h7,h8⟩:=h5 b hb
   exact⟨h7.imp (fun h=>List.mem_append.2 (.inl h)) id,h8⟩
  ·exact⟨.inl (List.mem_append.2 (.inr hb)),Nat.lt_of_lt_of_le (hout b hb).2.1 hfr.size⟩
 ·exact fun x hx=>(h6 x hx).mono hS
theorem Pre.star {cs:List Chunk} (h:Pre w S M (cStar cs::C)):Pre w S M (cs++C):=by
 obtain⟨fps,hc,rfl,hn,hs⟩:=h
 match fps,hc with
 | _::fps,⟨⟨fi,rfl,hC⟩,hr⟩=>exact⟨fi++fps,hC.app hr,by simp,hn,hs⟩
theorem Ret.star {cs:List Chunk} (h:Ret M w S w' e v (cs++C) G):Ret M w S w' e v (cStar cs::C) G:=by
 obtain⟨h1,h2,fps,h3,h4,h5,h6⟩:=h
 obtain⟨f1,f2,rfl,h7,h8⟩:=h3.split
 have he:(f1.flatten::f2).flatten=(f1++f2).flatten:=by simp
 have hr:retS S M w (f1.flatten::f2)=retS S M w (f1++f2):=by unfold retS;rw[he]
 refine⟨h1,h2,f1.flatten::f2,?_,by rw[he];exact h4,by rw[he];exact h5,by rw[hr];exact h6⟩
 rw[hr]
 exact⟨⟨f1,rfl,h7⟩,h8⟩
theorem set_perm {α:Type} {c':α}:∀{cs:List α} {i:Nat},i<cs.length→(c'::cs.eraseIdx i).Perm (cs.set i c')
 | _::_,0,_=>.refl _
 | a::cs,i+1,h=>(List.Perm.swap a c' _).trans ((set_perm (Nat.lt_of_succ_lt_succ h)).cons a)
theorem Pre.take {cs:List Chunk} {i:Nat} {c:Chunk} (h:Pre w S M (cStar cs::C)) (hi:cs[i]?=some c):∃M1,Pre w S M1 [c]∧∀{w':World} {e:Ending} {v:Value} {c':Chunk} {C2:List Chunk} {G:List (Value×D)},Ret M1 w S w' e v (c'::C2) G→Ret M w S w' e v (cStar (cs.set i c')::C++C2) G:=by
 obtain⟨hl,he⟩:=List.getElem?_eq_some_iff.1 hi
 have h0:=set_perm (c':=c) hl
 rw[←he,List.set_getElem_self]at h0
 rw[he]at h0
 obtain⟨M',hM,h2⟩:=h.star.perm (C':=[c]++(cs.eraseIdx i++C)) (by simpa using h0.symm.append_right C)
 obtain⟨M1,h3,h4⟩:=h2.part
 refine⟨M1,h3,fun{w' e v c' C2 G} hr=>?_⟩
 refine((h4 hr).perm (C':=cs.set i c'++(C++C2)) ?_ hM.symm).star
 have h5:=set_perm (c':=c') hl
 have h7:(C2++(cs.eraseIdx i++C)).Perm (cs.eraseIdx i++(C++C2)):=by
  rw[←List.append_assoc (cs.eraseIdx i)]
  exact List.perm_append_comm
 exact(List.Perm.cons c' h7).trans (h5.append_right _)
theorem Pre.open1 {α:Type} {p:α→Prop} {Gx:α→List (Value×D)} {Cx:α→List Chunk} (h:Pre w S M [cBox p Gx Cx]):∃x,p x∧AllG w S (Gx x)∧Pre w S M (Cx x):=by
 obtain⟨x,h1,h2,h3⟩:=h.open
 exact⟨x,h1,h2,by rwa[List.append_nil]at h3⟩
theorem Ret.close1g {α:Type} {p:α→Prop} {Gx:α→List (Value×D)} {Cx:α→List Chunk} (x:α) (h:Ret M w S w' e v (Cx x) G) (hp:p x) (hG:∀y∈Gx x,y∈G):Ret M w S w' e v [cBox p Gx Cx] G:=
 Ret.close x (by rwa[List.append_nil]) hp hG
theorem Ret.close1 {α:Type} {p:α→Prop} {Gx:α→List (Value×D)} {Cx:α→List Chunk} (x:α) (h:Ret M w S w' e v (Cx x) G) (hp:p x) (hG:AllG w S (Gx x)) (hM:∀b∈M,¬S b):Ret M w S w' e v [cBox p Gx Cx] G:=
 ((h.more hM hG).close1g x hp fun y hy=>List.mem_append.2 (.inr hy)).less fun x hx=>List.mem_append.2 (.inl hx)
theorem Pre.part1 {c:Chunk} (h:Pre w S M (c::C)):∃M1,Pre w S M1 [c]∧∀{w':World} {e:Ending} {v:Value} {c':Chunk} {G:List (Value×D)},Ret M1 w S w' e v [c'] G→Ret M w S w' e v (c'::C) G:=by
 obtain⟨M1,h1,h2⟩:=Pre.part (C1:=[c]) h
 exact⟨M1,h1,fun hR=>h2 hR⟩
theorem AllG.zero (h:AllG w S G):AllG (zero w) S G:=fun x hx=>(h x hx).mono fun _ hb _=>⟨hb,rfl⟩
theorem Ret.add (h:Ret M w S w' e v C G) (c:Chunk) (hc:∀w S,c.P w S []):Ret M w S w' e v (C++[c]) G:=by
 obtain⟨h1,h2,fps,h3,h4,h5,h6⟩:=h
 have he:(fps++[[]]).flatten=fps.flatten:=by simp
 have hr:retS S M w (fps++[[]])=retS S M w fps:=by unfold retS;rw[he]
 refine⟨h1,h2,fps++[[]],?_,by rw[he];exact h4,by rw[he];exact h5,by rw[hr];exact h6⟩
 rw[hr]
 exact h3.app ⟨hc _ _,trivial⟩
theorem Ret.unstar {cs:List Chunk} (h:Ret M w S w' e v (cStar cs::C) G):Ret M w S w' e v (cs++C) G:=by
 obtain⟨h1,h2,fps,h3,h4,h5,h6⟩:=h
 match fps,h3 with
 | _::fps,⟨⟨fi,rfl,hC⟩,hr⟩=>
  have he:(fi++fps).flatten=(fi.flatten::fps).flatten:=by simp
  have hq:retS S M w (fi++fps)=retS S M w (fi.flatten::fps):=by unfold retS;rw[he]
  refine⟨h1,h2,fi++fps,?_,by rw[he];exact h4,by rw[he];exact h5,by rw[hq];exact h6⟩
  rw[hq]
  exact hC.app hr
theorem Ret.push {c:Chunk} {cs:List Chunk} (h:Ret M w S w' e v [c,cStar cs] G):Ret M w S w' e v [cStar (cs++[c])] G:=by
 have h1:=(h.perm (C':=[cStar cs,c]) (List.Perm.swap _ _ _) (.refl M)).unstar
 exact Ret.star (by simpa using h1)
theorem Pre.frame (h:Pre w S M C):∀{w':World} {e:Ending} {v:Value} {C':List Chunk} {G:List (Value×D)},Ret [] w S w' e v C' G→Ret M w S w' e v (C'++C) G:=by
 obtain⟨M1,h1,h2⟩:=Pre.part (C1:=[]) (C2:=C) h
 obtain⟨fps,hc,rfl,_⟩:=h1
 match fps,hc with
 | [],_=>exact fun{_ _ _ _ _} hR=>h2 hR
theorem Ret.freeze {u:Value} {t k:Nat} {rows:List (List D)} (h:Ret M w S w' e v (cAcc u t k rows::C) G):Ret M w S w' e v C (G++[(u,.sl k rows)]):=by
 obtain⟨h1,h2,fps,h3,h4,h5,h6⟩:=h
 match fps,h3 with
 | fp::fps,⟨⟨hk,hP⟩,hr⟩=>
  rw[List.flatten_cons]at h4 h5
  obtain⟨hn1,hn2,hn3⟩:=List.nodup_append.1 h4
  have hsub:∀b,retS S M w (fp::fps) b→retS S M w fps b:=fun b hb=>⟨hb.1,fun hm=>hb.2 (by rw[List.flatten_cons,List.mem_append];exact .inr hm)⟩
  refine⟨h1,h2,fps,hr.mono (fun _ _=>rfl) fun b hb _=>⟨hsub b hb,rfl⟩,hn2,fun b hb=>h5 b (List.mem_append.2 (.inr hb)),fun x hx=>?_⟩
  rcases List.mem_append.1 hx with hx|hx
  ·exact(h6 x hx).mono fun b hb _=>⟨hsub b hb,rfl⟩
  ·rw[List.mem_singleton]at hx
   subst hx
   rcases hP with ⟨rfl,rfl,_⟩|⟨g,cap,cur,xs,rfl,rfl,hg,hrow,hR⟩
   ·exact .nil
   ·refine Rep.of_row hg ⟨.inr (h5 g (by simp)).1,fun hm=>hn3 g (by simp) g hm rfl⟩ hrow hk hR.len fun i j row d h1 h2=>?_
    obtain⟨u,hu,hr⟩:=hR.rep i j row d h1 h2
    exact⟨u,hu,hr.mono fun b hb _=>⟨hsub b hb,rfl⟩⟩
end frames
end Go.Sx
end
section
namespace Go.Proofs.YtmkapocibaojdaaGreatDoor
open Go Go.Sx
set_option maxHeartbeats 4000000 in
theorem vOwnC {w0:World} {S:Nat→Prop} {a1 a2:Option Addr} {n1 c1 n2 c2:Nat} {c:ComT} (h1:Rep w0 S (.slice a1 n1 c1) (dInts c.when)) (h2:Rep w0 S (.slice a2 n2 c2) (.sl 7 (c.ops.map eOp))) (hl1:c.when.length≤1000000) (hl2:c.ops.length≤1000000) (hl3:∀o∈c.ops,o.dots.length≤1000000) :
  Calls Tryz.prog 84 #[.agg #[.slice a1 n1 c1,.int .i64 c.place,.slice a2 n2 c2]] w0 fun e w'=>∃u1 d1 u2 d2,Ret [] w0 S w' e (.agg #[.slice u1 n1 d1,.int .i64 c.place,.slice u2 n2 d2]) [cAcc (.slice u1 n1 d1) 3 1 (c.when.map eI),cAcc (.slice u2 n2 d2) 55 7 (c.ops.map eOp)] []:=by
 obtain rfl:=rep_ints_len h1
 have e2:=h2.slen
 rw[List.length_map]at e2
 subst e2
 refine epG Tryz.func84 bd84 (args:=[.agg #[.slice a1 c.when.length c1,.int .i64 c.place,.slice a2 c.ops.length c2]]) (G:=[(_,dInts c.when),(_,.sl 7 (c.ops.map eOp))]) (by kernel_rfl) (.cons h1 (.cons h2 (.nil _ _))) ?_
 refine Zv [.wr 0 [] 0,.wr 1 [] 0] [] [0] (fun nu1=>[zP 1 (nu1 0),zP 2 (nu1 1)]) o0 (fun nu1=>[(nu1 0,.cells #[.slice a1 c.when.length c1,nI c.place,.slice a2 c.ops.length c2] 35 (0,0)),(nu1 1,.cells #[.slice none 0 0,nI 0,.slice none 0 0] 35 (0,0))]) (fun nu1=>?_)
 refine jS [(0,true),(1,true),(2,false),(3,true),(4,false)] [] ?_
 refine Ya [zR 0,.rd 1 [.o 0 none] 0 0] [] [zS 5 a1 c.when.length c1] ?_
 refine Yc 101 #[.slice a1 c.when.length c1] (some 6) fun w S hG=>?_
 refine(cloneInts (hG.at 0 rfl) hl1).mono ?_
 rintro e1 w1 ⟨u1,d1,hR⟩
 refine⟨_,_,_,hR,?_⟩
 try simp only[aQ]
 refine Ym [zR 3,.wr 4 [.o 0 none] 0] [6,5] (fun _=>[]) (fun _=>[(0,.cells #[.slice u1 c.when.length d1,nI c.place,.slice a2 c.ops.length c2] 35 (0,0))]) o0 [] (fun _=>?_)
 refine JR_end ?_
 refine jS [(0,true),(1,true),(2,false),(3,true),(4,false)] [] ?_
 refine Ya [zR 0,.rd 1 [.o 0 none] 0 0] [] [zS 9 a2 c.ops.length c2] ?_
 refine Yc 142 #[.slice a2 c.ops.length c2] (some 10) fun w S hG=>?_
 refine(cloneOps (hG.at 1 rfl) hl2).mono ?_
 rintro e3 w3 ⟨u2,d2,hR⟩
 refine⟨_,_,_,hR,?_⟩
 try simp only[aQ]
 refine Ym [zR 3,.wr 4 [.o 0 none] 0] [10,9] (fun _=>[]) (fun _=>[(0,.cells #[.slice u1 c.when.length d1,nI c.place,.slice u2 c.ops.length d2] 35 (0,0))]) o0 [] (fun _=>?_)
 refine JR_end (J_seq ?_)
 refine Zs [zR 0,.rd 1 [.o 0 none] 0 0,zR 2,zR 3] [] [zI 14 (↑c.ops.length:Int),zI 15 0] ?_
 refine J_block ?_
 refine J_loopx (fun i:Int=>[zP 1 (nu1 0),zP 2 (nu1 1),zI 14 (↑c.ops.length:Int),zI 15 i]) (fun i:Int=>[(nu1 0,.cells #[.slice u1 c.when.length d1,nI c.place,.slice u2 c.ops.length d2] 35 (0,0)),(nu1 1,.cells #[.slice none 0 0,nI 0,.slice none 0 0] 35 (0,0))]) (fun i:Int=>[cAcc (.slice u1 c.when.length d1) 3 1 (List.map eI c.when),cAcc (.slice u2 c.ops.length d2) 55 7 (List.map eOp c.ops)]) (fun i:Int=>[(.slice a1 c.when.length c1,(dInts c.when)),(.slice a2 c.ops.length c2,(D.sl 7 (List.map eOp c.ops)))]) (fun i:Int=>(c.ops.length - i).toNat) (fun i:Int=>(0≤i∧i≤c.ops.length)) 0 [1,2,14,15] [0,1] [0,1] [0,1] ?_ (by kernel_rfl) rfl rfl rfl ?_
 ·exact⟨by omega,by omega⟩
 rintro i ⟨hi0,hi⟩
 refine Zs [zR 0] [] [zB 16 (decide (i<(↑c.ops.length:Int)))] ?_
 refine J_seq ?_
 refine cC (t:=decide (i<(↑c.ops.length:Int))) (fun hlt=>?_) (fun hlt=>?_)
 ·have hlt2:i<c.ops.length:=by simpa using hlt
  obtain⟨o,ho⟩:∃o,c.ops[i.toNat]?=some o:=⟨_,List.getElem?_eq_getElem (by omega)⟩
  refine J_openacc 1 rfl (by intro h0;rw[List.map_eq_nil_iff]at h0;rw[h0]at ho;simp at ho) fun g cur xs hu _ _ hrow=>?_
  subst hu
  refine J_stpx (stp_readrows 1 rfl i.toNat (map_at ho)) fun ls hls=>?_
  obtain⟨hls1,hls2⟩:=hls
  obtain⟨⟨da,dc⟩,rfl⟩:∃l0,ls=[l0]:=List.length_eq_one_iff.1 hls1
  have hcur:cur[0+i.toNat*7+6]?=some (.slice da (o.dots.map eDot).length dc):=by rw[Nat.zero_add];exact hrow.atx (hls2 6 _ rfl)
  have hsz:0+i.toNat*7+6+1≤cur.size:=(Array.getElem?_eq_some_iff.1 hcur).1
  try simp only[aQ]
  refine J_skip ?_
  try simp only[aQ]
  refine J_seq ?_
  try simp only[aQ]
  refine J_block ?_
  try simp only[aQ]
  refine J_seq ?_
  try simp only[aQ]
  refine Za [zR 0,zR 1] [16] [zI 3 i] ?_
  try simp only[aQ]
  refine jT [(0,true),(1,true),(2,true),(3,true),(4,true),(5,true),(6,true),(7,true),(8,true),(9,false),(10,true),(11,true),(12,false)] [(12,[2])] ?_
  refine Yp [zR 0,.rd 1 [.o 0 none] 0 0,zR 2,zR 3,.rd 4 [.o 0 none] 0 0,zR 5,.rd 6 [] 0 2,zR 7,.rd 8 [.o 2 (some (.slice da ((List.map eDot o.dots).length) dc))] 0 0] [] [zS 19 (sA g 0) c.ops.length d2,zI 20 i,zS 26 da ((List.map eDot o.dots).length) dc] (oC hi0 (oC hlt2 (oC hcur oN))) ?_
  refine Yc 143 #[.slice da ((List.map eDot o.dots).length) dc] (some 27) fun w S hG=>?_
  refine(cloneDots (xs:=o.dots) (hG.at 2 rfl) (hl3 o (List.mem_of_getElem? ho))).mono ?_
  rintro e4 w4 ⟨u3,d3,hR⟩
  refine⟨_,_,_,hR,?_⟩
  try simp only[aQ]
  refine Yn [.rd 10 [] 0 2,zR 11,.wr 12 [.o 2 (some (.slice u3 ((List.map eDot o.dots).length) d3))] 0] [27,19,20,26] (fun _=>[]) (fun _=>[(2,.cells (cur.setIfInBounds (0+i.toNat*7+6) (Value.slice u3 (List.map eDot o.dots).length d3)) 55 (0,0))]) o0 [] (fun _=>(oC hi0 (oC hlt2 (oC (show(Value.slice u3 (List.map eDot o.dots).length d3).oneCell'=true from ?_) (oC (show(0:Nat)+i.toNat*7+(6:Nat)<cur.size from by omega) oN))))) (fun _=>?_)
  ·rfl
  try simp only[aQ]
  refine JR_end ?_
  try simp only[aQ]
  refine J_eb ?_
  try simp only[aQ]
  refine Zp [.rd 0 [] 0 1,zR 1] [] [zI 15 (i+1)] (oC (show IntKind.i64.wrap (i+1)=i+1 from wrap_i64 (by omega) (by omega)) oN) ?_
  try simp only[aQ]
  refine J_stp (stp_freeze 2 rfl) ?_
  have hsame:(List.map eOp c.ops).set i.toNat ((eOp o).set 6 (.sl 3 (o.dots.map eDot)))=List.map eOp c.ops:=set_same (map_at ho)
  refine J_stp (stp_setrows 1 3 i.toNat 6 rfl hrow.len (map_at ho) (by decide) rfl) ?_
  rw[hsame]
  refine J_hide 2 rfl ?_
  have hrow2:Row (cur.setIfInBounds (0+i.toNat*7+6) (.slice u3 (o.dots.map eDot).length d3)) d2 (c.ops.map eOp).length 7 (xs.set (i.toNat*7+6) (.slice u3 (o.dots.map eDot).length d3)):=by rw[Nat.zero_add];exact hrow.set1 _ _
  refine J_stp (stp_closeacc 2 1 rfl rfl hrow2 (by decide)) ?_
  rw[show(List.map eOp c.ops).length=c.ops.length from List.length_map ..]
  refine J_backx (i+1) [1,2,14,15] [0,1] [0,1] [0,1] ?_ ?_ (by kernel_rfl) rfl rfl rfl
  ·exact⟨by omega,by omega⟩
  ·omega
 ·refine J_exit rfl ?_
  refine Zv [.rd 0 (hnO 0 3) 0 0,.wr 1 (hnO 1 3) 0] [(1,[1])] [16,1,14,15] (fun _=>[]) (fun _=>[(1,.cells #[.slice u1 c.when.length d1,nI c.place,.slice u2 c.ops.length d2] 35 (0,0))]) o0 (fun _=>?_)
  refine Yr [(hnO 1 3)] (.agg #[.slice u1 c.when.length d1,nI c.place,.slice u2 c.ops.length d2]) fun a w s=>?_
  exact⟨_,_,_,_,s.ret (by simp) [0,1] [] rfl rfl⟩
set_option maxHeartbeats 4000000 in
theorem vOwn {w0:World} {S:Nat→Prop} {a1 a2:Option Addr} {n1 c1 n2 c2:Nat} {c:ComT} (h1:Rep w0 S (.slice a1 n1 c1) (dInts c.when)) (h2:Rep w0 S (.slice a2 n2 c2) (.sl 7 (c.ops.map eOp))) (hl1:c.when.length≤1000000) (hl2:c.ops.length≤1000000) (hl3:∀o∈c.ops,o.dots.length≤1000000) :
  Calls Tryz.prog 84 #[.agg #[.slice a1 n1 c1,.int .i64 c.place,.slice a2 n2 c2]] w0 fun e w'=>∃u1 d1 u2 d2,Ret [] w0 S w' e (.agg #[.slice u1 n1 d1,.int .i64 c.place,.slice u2 n2 d2]) [] [(.slice u1 n1 d1,dInts c.when),(.slice u2 n2 d2,.sl 7 (c.ops.map eOp))]:=
 (vOwnC h1 h2 hl1 hl2 hl3).mono fun e w' ⟨_,_,_,_,hR⟩=>⟨_,_,_,_,hR.freeze.freeze⟩
set_option maxHeartbeats 4000000 in
theorem sOwn {w0:World} {S:Nat→Prop} {a1 a2:Option Addr} {n1 c1 n2 c2:Nat} {m:MsgT} (h1:Rep w0 S (.slice a1 n1 c1) (dInts m.c.when)) (h2:Rep w0 S (.slice a2 n2 c2) (.sl 7 (m.c.ops.map eOp))) (hl1:m.c.when.length≤1000000) (hl2:m.c.ops.length≤1000000) (hl3:∀o∈m.c.ops,o.dots.length≤1000000) :
  Calls Tryz.prog 153 #[.agg #[.int .i64 m.fm,.int .i64 m.to,.int .i64 m.shard,.int .i64 m.seq,.int .i64 m.time,.bool m.beat,.slice a1 n1 c1,.int .i64 m.c.place,.slice a2 n2 c2]] w0 fun e w'=>∃u1 d1 u2 d2,
   Ret [] w0 S w' e (.agg #[.int .i64 m.fm,.int .i64 m.to,.int .i64 m.shard,.int .i64 m.seq,.int .i64 m.time,.bool m.beat,.slice u1 n1 d1,.int .i64 m.c.place,.slice u2 n2 d2]) [] [(.slice u1 n1 d1,dInts m.c.when),(.slice u2 n2 d2,.sl 7 (m.c.ops.map eOp))]:=by
 refine epG Tryz.func153 bd153 (args:=[.agg #[.int .i64 m.fm,.int .i64 m.to,.int .i64 m.shard,.int .i64 m.seq,.int .i64 m.time,.bool m.beat,.slice a1 n1 c1,.int .i64 m.c.place,.slice a2 n2 c2]]) (G:=[(_,dInts m.c.when),(_,.sl 7 (m.c.ops.map eOp))]) (by kernel_rfl) (.cons h1 (.cons h2 (.nil _ _))) ?_
 refine Zv [.wr 0 [] 0,.wr 1 [] 0] [] [0] (fun nu1=>[zP 1 (nu1 0),zP 2 (nu1 1)]) o0 (fun nu1=>[(nu1 0,.cells #[nI m.fm,nI m.to,nI m.shard,nI m.seq,nI m.time,.bool m.beat,.slice a1 n1 c1,nI m.c.place,.slice a2 n2 c2] 62 (0,0)),(nu1 1,.cells #[nI 0,nI 0,nI 0,nI 0,nI 0,.bool false,.slice none 0 0,nI 0,.slice none 0 0] 62 (0,0))]) (fun nu1=>?_)
 refine jS [(0,true),(1,true),(2,false),(3,true),(4,false)] [] ?_
 refine Ya [zR 0,.rd 1 (hnO 0 3) 0 0] [] [zV 4 (.agg #[.slice a1 n1 c1,nI m.c.place,.slice a2 n2 c2])] ?_
 refine Yc 84 #[.agg #[.slice a1 n1 c1,nI m.c.place,.slice a2 n2 c2]] (some 5) fun w S hG=>?_
 refine(vOwn (c:=m.c) (hG.at 0 rfl) (hG.at 1 rfl) hl1 hl2 hl3).mono ?_
 rintro e1 w1 ⟨u1,d1,u2,d2,hR⟩
 refine⟨_,_,_,hR,?_⟩
 try simp only[aQ]
 refine Ym [zR 3,.wr 4 (hnO 0 3) 0] [5,4] (fun _=>[]) (fun _=>[(0,.cells #[nI m.fm,nI m.to,nI m.shard,nI m.seq,nI m.time,.bool m.beat,.slice u1 n1 d1,nI m.c.place,.slice u2 n2 d2] 62 (0,0))]) o0 [] (fun _=>?_)
 refine JR_end ?_
 refine Zv [.rd 0 (hnO 0 9) 0 0,.wr 1 (hnO 1 9) 0] [(1,[1])] [1] (fun _=>[]) (fun _=>[(1,.cells #[nI m.fm,nI m.to,nI m.shard,nI m.seq,nI m.time,.bool m.beat,.slice u1 n1 d1,nI m.c.place,.slice u2 n2 d2] 62 (0,0))]) o0 (fun _=>?_)
 refine Yr [(hnO 1 9)] (.agg #[nI m.fm,nI m.to,nI m.shard,nI m.seq,nI m.time,.bool m.beat,.slice u1 n1 d1,nI m.c.place,.slice u2 n2 d2]) fun a w s=>?_
 exact⟨u1,d1,u2,d2,s.ret (by simp) [] [2,3] rfl rfl⟩
end Go.Proofs.YtmkapocibaojdaaGreatDoor
end
section
namespace Go.Sx
open Go
structure PutT where
 when:List Int
 place:Int
 op:OpT
def oneC (p:PutT):ComT:=⟨p.when,p.place,[p.op]⟩
def dotP (p:PutT):DotT:=⟨p.place,p.when.getD p.place.toNat 0,p.op.no⟩
def keyC (L:List PutT) (key:ByteArray):List ComT:=(L.filter fun p=>decide (p.op.key=key)).map oneC
end Go.Sx
namespace Go.Proofs.YtmkapocibaojdaaGreatDoor
open Go Go.Sx
theorem rowG_zero {G:List (Value×D)}:∀n:Nat,RowG G (List.replicate n (.int .i64 0)) ((List.replicate n (0:Int)).map eI).flatten
 | 0=>trivial
 | n+1=>⟨.inl ⟨rfl,rfl⟩,rowG_zero n⟩
set_option maxHeartbeats 4000000 in
theorem newFin {nn:Nat} {E:Env} {S:Nat→Prop} {w0:World} {a:Act} {w:World} {g:Value×D} {c0 c1 c2 c3:Nat} (n:Nat) {cs:Array Value} {v:Value} (s:St nn E [(c0,.cells cs 3 (0,0)),(c1,.map #[] 0),(c2,.map #[] 0),(c3,.cells #[.int .i64 n,.slice (some ⟨c0,0,none⟩) n n,.map (some c1),.map (some c2)] 218 (0,0))] [] [([],w0)] ⟨newS S [] w0,[],[g]⟩ a w) (hR:RowG [g] cs.toList ((List.replicate n (0:Int)).map eI).flatten) :
  Ret [] w0 S w (.returned v) v [cObj c3 (.cells #[.int .i64 n,.slice (some ⟨c0,0,none⟩) n n,.map (some c1),.map (some c2)] 218 (0,0)),cObj c1 (.map #[] 0),cStar [],cMapG c2 okDot (dotSet [])] [(.slice (some ⟨c0,0,none⟩) n n,dInts (List.replicate n 0))]:=by
 obtain⟨fps,s⟩:=s
 have s1:=s.data (cap:=n) (rows:=(List.replicate n (0:Int)).map eI) (size:=1) 0 rfl (by decide) (by intro row h;obtain⟨x,_,rfl⟩:=List.mem_map.1 h;rfl) (by simp) hR
 rw[show((List.replicate n (0:Int)).map eI).length=n by simp]at s1
 have s2:=St.hide ⟨_,s1⟩ 2 rfl
 have s3:=s2.hide 0 rfl
 have s4:=s3.stp (stp_add (cStar []) star_nil)
 have s5:=s4.hide 0 rfl
 have s6:=s5.stp (stp_conv 3 rfl (mapg_eqv ((MapG.empty okDot).congr dotSet_nil)))
 exact s6.ret (by simp) [0,1,2,3] [1] rfl rfl
set_option maxHeartbeats 4000000 in
theorem vNew {w:World} {S:Nat→Prop} {er:Nat→Addr} {eb:Nat→Array Value×TypeId} {p:Int} (hC:Rep w S .nilIface (dC er eb)) :
  Calls Tryz.prog 57 #[.int .i64 p] w fun e w'=>((p<1∨6<p)∧Ret [] w S w' e (.tuple #[.pointer none,.iface 390 (.pointer (some (er 2)))]) [] []) ∨
   ((1≤p∧p≤6)∧∃b ba mk md,Ret [] w S w' e (.tuple #[.pointer (some ⟨b,0,none⟩),.nilIface]) [cObj b (.cells #[.int .i64 p,.slice (some ⟨ba,0,none⟩) p.toNat p.toNat,.map (some mk),.map (some md)] 218 (0,0)),cObj mk (.map #[] 0),cStar [],cMapG md okDot (dotSet [])] [(.slice (some ⟨ba,0,none⟩) p.toNat p.toNat,dInts (List.replicate p.toNat 0))]):=by
 refine epG Tryz.func57 bd57 (args:=[.int .i64 p]) (S:=S) (G:=[(_,dC er eb)]) (by kernel_rfl) (.cons hC (.nil _ _)) ?_
 by_cases h1:p<1
 ·refine J_stp (stp_all 0 [1] rfl rfl) ?_
  refine J_glob 1 rfl (fun csg1 tyg1 fzg1 hglob1=>?_)
  try simp only[aQ]
  refine Zs [zR 0,zR 1] [] [zV 2 (.pointer none),zV 3 .nilIface] ?_
  refine J_seq ?_
  refine Zt [zR 0,.rd 1 [] 0 6,zR 2,.rd 3 [] 1 0,.rd 4 [] 1 0,zR 5] [] [zB 9 true] (oC (show decide (p<(1:Int))=true from by simp;omega) oN) ?_
  refine cTt ?_
  refine Zt [.rd 0 [.r 0 (some (.iface 390 (.pointer (some (er 2)))))] 0 0,zR 1,zR 2] [9] [zV 3 (.iface 390 (.pointer (some (er 2))))] (oC hglob1 oN) ?_
  refine Yr [[],[]] (.tuple #[.pointer none,.iface 390 (.pointer (some (er 2)))]) fun a w s=>?_
  exact .inl ⟨.inl h1,s.ret (by simp) [] [] rfl rfl⟩
 by_cases h6:6<p
 ·refine J_stp (stp_all 0 [1] rfl rfl) ?_
  refine J_glob 1 rfl (fun csg1 tyg1 fzg1 hglob1=>?_)
  try simp only[aQ]
  refine Zs [zR 0,zR 1] [] [zV 2 (.pointer none),zV 3 .nilIface] ?_
  refine J_seq ?_
  refine Zt [zR 0,.rd 1 [] 0 7,zR 2,zR 3,.rd 4 [] 0 6,zR 5] [] [zB 9 true] (oC (show decide (p<(1:Int))=false from by simp;omega) (oC (show decide (p>(6:Int))=true from by simp;omega) oN)) ?_
  refine cTt ?_
  refine Zt [.rd 0 [.r 0 (some (.iface 390 (.pointer (some (er 2)))))] 0 0,zR 1,zR 2] [9] [zV 3 (.iface 390 (.pointer (some (er 2))))] (oC hglob1 oN) ?_
  refine Yr [[],[]] (.tuple #[.pointer none,.iface 390 (.pointer (some (er 2)))]) fun a w s=>?_
  exact .inl ⟨.inr h6,s.ret (by simp) [] [] rfl rfl⟩
 obtain⟨n,rfl⟩:∃n:Nat,p=n:=⟨p.toNat,by omega⟩
 refine Zs [zR 0,zR 1] [] [zV 2 (.pointer none),zV 3 .nilIface] ?_
 refine J_seq ?_
 refine Zt [zR 0,.rd 1 [] 0 7,zR 2,zR 3,.rd 4 [] 0 7,zR 5] [] [zB 9 false] (oC (show decide ((↑n:Int)<(1:Int))=false from by simp;omega) (oC (show decide ((↑n:Int)>(6:Int))=false from by simp;omega) oN)) ?_
 refine cF ?_
 refine J_skip (J_seq ?_)
 rcases(by omega:n=1∨n=2∨n=3∨n=4∨n=5∨n=6)with rfl|rfl|rfl|rfl|rfl|rfl
 ·refine Zm [.rd 0 [] 0 0,.rd 1 [] 0 0,.wr 2 [] 0,.wr 3 [] 0,.wr 4 [] 0,.rd 5 [] 0 0,.wr 6 [] 0,.rd 7 [] 0 0,.rd 8 [] 0 0] [] [9,0] (fun nu1=>[(2,.val (.pointer (some (⟨nu1 3,0,none⟩))))]) o0 (fun nu1=>[(nu1 0,.cells #[.int .i64 0] 3 (0,0)),(nu1 1,Obj.map #[] 0),(nu1 2,Obj.map #[] 0),(nu1 3,.cells #[.int .i64 1,.slice (some (⟨nu1 0,0,none⟩)) 1 1,.map (some (nu1 1)),.map (some (nu1 2))] 218 (0,0))]) (fun nu1=>?_)
  refine Yr [[],[]] (.tuple #[.pointer (sA (nu1 3) 0),.nilIface]) fun a w s=>?_
  exact .inr ⟨by omega,_,_,_,_,newFin 1 s (rowG_zero 1)⟩
 ·refine Zm [.rd 0 [] 0 0,.rd 1 [] 0 0,.wr 2 [] 0,.wr 3 [] 0,.wr 4 [] 0,.rd 5 [] 0 0,.wr 6 [] 0,.rd 7 [] 0 0,.rd 8 [] 0 0] [] [9,0] (fun nu1=>[(2,.val (.pointer (some (⟨nu1 3,0,none⟩))))]) o0 (fun nu1=>[(nu1 0,.cells #[.int .i64 0,.int .i64 0] 3 (0,0)),(nu1 1,Obj.map #[] 0),(nu1 2,Obj.map #[] 0),(nu1 3,.cells #[.int .i64 2,.slice (some (⟨nu1 0,0,none⟩)) 2 2,.map (some (nu1 1)),.map (some (nu1 2))] 218 (0,0))]) (fun nu1=>?_)
  refine Yr [[],[]] (.tuple #[.pointer (sA (nu1 3) 0),.nilIface]) fun a w s=>?_
  exact .inr ⟨by omega,_,_,_,_,newFin 2 s (rowG_zero 2)⟩
 ·refine Zm [.rd 0 [] 0 0,.rd 1 [] 0 0,.wr 2 [] 0,.wr 3 [] 0,.wr 4 [] 0,.rd 5 [] 0 0,.wr 6 [] 0,.rd 7 [] 0 0,.rd 8 [] 0 0] [] [9,0] (fun nu1=>[(2,.val (.pointer (some (⟨nu1 3,0,none⟩))))]) o0 (fun nu1=>[(nu1 0,.cells #[.int .i64 0,.int .i64 0,.int .i64 0] 3 (0,0)),(nu1 1,Obj.map #[] 0),(nu1 2,Obj.map #[] 0),(nu1 3,.cells #[.int .i64 3,.slice (some (⟨nu1 0,0,none⟩)) 3 3,.map (some (nu1 1)),.map (some (nu1 2))] 218 (0,0))]) (fun nu1=>?_)
  refine Yr [[],[]] (.tuple #[.pointer (sA (nu1 3) 0),.nilIface]) fun a w s=>?_
  exact .inr ⟨by omega,_,_,_,_,newFin 3 s (rowG_zero 3)⟩
 ·refine Zm [.rd 0 [] 0 0,.rd 1 [] 0 0,.wr 2 [] 0,.wr 3 [] 0,.wr 4 [] 0,.rd 5 [] 0 0,.wr 6 [] 0,.rd 7 [] 0 0,.rd 8 [] 0 0] [] [9,0] (fun nu1=>[(2,.val (.pointer (some (⟨nu1 3,0,none⟩))))]) o0 (fun nu1=>[(nu1 0,.cells #[.int .i64 0,.int .i64 0,.int .i64 0,.int .i64 0] 3 (0,0)),(nu1 1,Obj.map #[] 0),(nu1 2,Obj.map #[] 0),(nu1 3,.cells #[.int .i64 4,.slice (some (⟨nu1 0,0,none⟩)) 4 4,.map (some (nu1 1)),.map (some (nu1 2))] 218 (0,0))]) (fun nu1=>?_)
  refine Yr [[],[]] (.tuple #[.pointer (sA (nu1 3) 0),.nilIface]) fun a w s=>?_
  exact .inr ⟨by omega,_,_,_,_,newFin 4 s (rowG_zero 4)⟩
 ·refine Zm [.rd 0 [] 0 0,.rd 1 [] 0 0,.wr 2 [] 0,.wr 3 [] 0,.wr 4 [] 0,.rd 5 [] 0 0,.wr 6 [] 0,.rd 7 [] 0 0,.rd 8 [] 0 0] [] [9,0] (fun nu1=>[(2,.val (.pointer (some (⟨nu1 3,0,none⟩))))]) o0 (fun nu1=>[(nu1 0,.cells #[.int .i64 0,.int .i64 0,.int .i64 0,.int .i64 0,.int .i64 0] 3 (0,0)),(nu1 1,Obj.map #[] 0),(nu1 2,Obj.map #[] 0),(nu1 3,.cells #[.int .i64 5,.slice (some (⟨nu1 0,0,none⟩)) 5 5,.map (some (nu1 1)),.map (some (nu1 2))] 218 (0,0))]) (fun nu1=>?_)
  refine Yr [[],[]] (.tuple #[.pointer (sA (nu1 3) 0),.nilIface]) fun a w s=>?_
  exact .inr ⟨by omega,_,_,_,_,newFin 5 s (rowG_zero 5)⟩
 ·refine Zm [.rd 0 [] 0 0,.rd 1 [] 0 0,.wr 2 [] 0,.wr 3 [] 0,.wr 4 [] 0,.rd 5 [] 0 0,.wr 6 [] 0,.rd 7 [] 0 0,.rd 8 [] 0 0] [] [9,0] (fun nu1=>[(2,.val (.pointer (some (⟨nu1 3,0,none⟩))))]) o0 (fun nu1=>[(nu1 0,.cells #[.int .i64 0,.int .i64 0,.int .i64 0,.int .i64 0,.int .i64 0,.int .i64 0] 3 (0,0)),(nu1 1,Obj.map #[] 0),(nu1 2,Obj.map #[] 0),(nu1 3,.cells #[.int .i64 6,.slice (some (⟨nu1 0,0,none⟩)) 6 6,.map (some (nu1 1)),.map (some (nu1 2))] 218 (0,0))]) (fun nu1=>?_)
  refine Yr [[],[]] (.tuple #[.pointer (sA (nu1 3) 0),.nilIface]) fun a w s=>?_
  exact .inr ⟨by omega,_,_,_,_,newFin 6 s (rowG_zero 6)⟩
end Go.Proofs.YtmkapocibaojdaaGreatDoor
end
section
namespace Go.Sx
open Go
structure SndT where
 fm:Int
 to:Int
 sh:Int
 q:Int
 t:Int
 l:List MsgT
structure RcvT where
 fm:Int
 to:Int
 sh:Int
 q:Int
 t:Int
 l:List MsgT
def rowP (id shards k:Nat):List (Nat×Nat):=if k=id then []else (List.range shards).map fun i=>(k,i)
def rowsP (id shards k:Nat):List (List (Nat×Nat)):=(List.range k).map (rowP id shards)
def pairsP (id shards k:Nat):List (Nat×Nat):=(rowsP id shards k).flatten
theorem pairsP_succ (id shards k:Nat):pairsP id shards (k+1)=pairsP id shards k++rowP id shards k:=by
 simp[pairsP,rowsP,List.range_succ]
theorem rowP_length (id shards k:Nat):(rowP id shards k).length=if k=id then 0 else shards:=by
 unfold rowP
 split <;> simp
theorem rowP_succ (id j k:Nat) (h:k≠id):rowP id (j+1) k=rowP id j k++[(k,j)]:=by
 simp[rowP,h,List.range_succ]
theorem flat_pos {α:Type}:∀{rows:List (List α)} {k i:Nat} {r:List α},rows[k]?=some r→i<r.length→rows.flatten[((rows.take k).map List.length).sum+i]?=r[i]?
 | [],k,i,r,h,_=>by simp at h
 | x::rows,0,i,r,h,hi=>by
  simp only[List.getElem?_cons_zero,Option.some.injEq]at h
  subst h
  simp[List.getElem?_append,hi]
 | x::rows,k+1,i,r,h,hi=>by
  simp only[List.getElem?_cons_succ]at h
  have ih:=flat_pos h hi
  simp only[List.flatten_cons,List.take_succ_cons,List.map_cons,List.sum_cons]
  rw[List.getElem?_append_right (by omega),←ih]
  congr 1
  omega
def posP (id shards k:Nat):Nat:=(pairsP id shards k).length
theorem posP_zero (id shards:Nat):posP id shards 0=0:=rfl
theorem posP_succ (id shards k:Nat):posP id shards (k+1)=posP id shards k+if k=id then 0 else shards:=by
 rw[posP,pairsP_succ,List.length_append,rowP_length]
 rfl
theorem posP_le (id shards k:Nat):posP id shards k≤k*shards:=by
 induction k with
 | zero=>simp[posP_zero]
 | succ k ih=>
  rw[posP_succ,Nat.add_mul,Nat.one_mul]
  split <;> omega
def RowsOk {α:Type} (id shards places:Nat) (rows:List (List α)):Prop:=rows.map List.length=(rowsP id shards places).map List.length
theorem RowsOk.nil {α:Type} (id shards:Nat):RowsOk (α:=α) id shards 0 []:=rfl
theorem RowsOk.snoc {α:Type} {id shards k:Nat} {rows:List (List α)} {r:List α} (h:RowsOk id shards k rows) (hr:r.length=if k=id then 0 else shards):RowsOk id shards (k+1) (rows++[r]):=by
 unfold RowsOk at h ⊢
 rw[List.map_append,h]
 simp[rowsP,List.range_succ,rowP_length,hr]
theorem RowsOk.len {α:Type} {id shards places:Nat} {rows:List (List α)} (h:RowsOk id shards places rows):rows.length=places:=by
 have:=congrArg List.length h
 simpa [rowsP]using this
theorem RowsOk.flen {α:Type} {id shards places:Nat} {rows:List (List α)} (h:RowsOk id shards places rows):rows.flatten.length=posP id shards places:=by
 rw[posP,pairsP,List.length_flatten,List.length_flatten,h]
theorem RowsOk.row {α:Type} {id shards places:Nat} {rows:List (List α)} (h:RowsOk id shards places rows) {k:Nat} {r:List α} (hr:rows[k]?=some r):r.length=if k=id then 0 else shards:=by
 have hk:k<places:=by
  have:=(List.getElem?_eq_some_iff.1 hr).1
  have:=h.len
  omega
 have e1:(rows.map List.length)[k]?=some r.length:=by rw[List.getElem?_map,hr];rfl
 rw[show rows.map List.length=_ from h,List.getElem?_map]at e1
 have e2:(rowsP id shards places)[k]?=some (rowP id shards k):=by simp[rowsP,hk]
 rw[e2,Option.map_some,rowP_length]at e1
 exact(Option.some.inj e1).symm
theorem take_posP {α:Type} {id shards places:Nat} {rows:List (List α)} (h:RowsOk id shards places rows) {k:Nat} (hk:k≤places):((rows.take k).map List.length).sum=posP id shards k:=by
 rw[posP,pairsP,List.length_flatten,List.map_take,show rows.map List.length=_ from h,←List.map_take]
 congr 2
 rw[rowsP,←List.map_take,List.take_range,Nat.min_eq_left hk,rowsP]
theorem RowsOk.at {α:Type} {id shards places:Nat} {rows:List (List α)} (h:RowsOk id shards places rows) {k i:Nat} {r:List α} (hr:rows[k]?=some r) {b:α} (hb:r[i]?=some b):rows.flatten[posP id shards k+i]?=some b:=by
 have hi:=(List.getElem?_eq_some_iff.1 hb).1
 have hk:k<places:=by
  have:=(List.getElem?_eq_some_iff.1 hr).1
  have:=h.len
  omega
 rw[←take_posP h (Nat.le_of_lt hk),flat_pos hr hi,hb]
theorem pairsP_at {id shards places k i:Nat} (hk:k<places) (hne:k≠id) (hi:i<shards):(pairsP id shards places)[posP id shards k+i]?=some (k,i):=by
 have h:RowsOk id shards places (rowsP id shards places):=rfl
 exact h.at (k:=k) (i:=i) (r:=rowP id shards k) (by simp[rowsP,hk]) (by simp[rowP,hne,hi])
theorem pairsP_split {id shards places k:Nat} (hk:k<places):∃B,pairsP id shards places=pairsP id shards k++rowP id shards k++B∧∀y∈B,k<y.1:=by
 obtain⟨d,rfl⟩:∃d,places=k+1+d:=⟨places - (k+1),by omega⟩
 clear hk
 induction d with
 | zero=>exact⟨[],by rw[Nat.add_zero,pairsP_succ,List.append_nil],by simp⟩
 | succ d ih=>
  obtain⟨B,hB,hlt⟩:=ih
  refine⟨B++rowP id shards (k+1+d),by rw[←Nat.add_assoc,pairsP_succ,hB,List.append_assoc],fun y hy=>?_⟩
  rcases List.mem_append.1 hy with hy|hy
  ·exact hlt y hy
  ·unfold rowP at hy
   split at hy
   ·cases hy
   ·obtain⟨i,_,rfl⟩:=List.mem_map.1 hy
    show k<k+1+d
    omega
theorem pairsP_nodup (id shards:Nat):∀k,(pairsP id shards k).Nodup∧∀p∈pairsP id shards k,p.1<k
 | 0=>by simp[pairsP,rowsP]
 | k+1=>by
  obtain⟨h1,h2⟩:=pairsP_nodup id shards k
  rw[pairsP_succ]
  have h3:(rowP id shards k).Nodup:=by
   unfold rowP
   split
   ·simp
   ·exact List.Pairwise.map (fun i=>(k,i)) (fun a b (h:a≠b) e=>h (by simpa using e)) List.nodup_range
  have h4:∀p∈rowP id shards k,p.1=k:=by
   intro p hp
   unfold rowP at hp
   split at hp
   ·cases hp
   ·obtain⟨i,_,rfl⟩:=List.mem_map.1 hp
    rfl
  refine⟨List.nodup_append.2 ⟨h1,h3,fun a ha b hb hab=>?_⟩,fun p hp=>?_⟩
  ·subst hab
   have:=h2 a ha
   have:=h4 a hb
   omega
  ·rcases List.mem_append.1 hp with hp|hp
   ·have:=h2 p hp
    omega
   ·have:=h4 p hp
    omega
def minT (l:List Int):Int:=l.tail.foldl (fun m a=>if a<m then a else m) (l.headD 0)
theorem minT_snoc {l:List Int} (h:l≠[]) (a:Int):minT (l++[a])=if a<minT l then a else minT l:=by
 cases l with
 | nil=>exact absurd rfl h
 | cons b l=>simp[minT,List.foldl_append]
theorem minT_mem {l:List Int} (h:l≠[]):minT l∈l:=by
 have:∀n (l:List Int),l.length=n→l≠[]→minT l∈l:=by
  intro n
  induction n with
  | zero=>intro l hl hn;exact absurd (List.length_eq_zero_iff.1 hl) hn
  | succ n ih=>
   intro l hl hn
   rw[←List.dropLast_concat_getLast hn]
   by_cases h0:l.dropLast=[]
   ·rw[h0]
    simp[minT]
   ·rw[minT_snoc h0]
    split
    ·simp
    ·exact List.mem_append.2 (.inl (ih _ (by rw[List.length_dropLast];omega) h0))
 exact this _ l rfl h
theorem part_eq {α:Type} {id shards places k:Nat} {l:List α} {f:α→Nat×Nat} (h:l.map f=pairsP id shards places) (hk:k<places):(l.drop (posP id shards k)).take (rowP id shards k).length=l.filter fun x=>decide ((f x).1=k):=by
 obtain⟨B,hB,hlt⟩:=pairsP_split (id:=id) (shards:=shards) hk
 rw[hB]at h
 obtain⟨l1,l2,rfl,h1,h2⟩:=List.map_eq_append_iff.1 h
 obtain⟨l3,l4,rfl,h3,h4⟩:=List.map_eq_append_iff.1 h1
 have e1:l3.length=posP id shards k:=by rw[posP,←h3,List.length_map]
 have e2:l4.length=(rowP id shards k).length:=by rw[←h4,List.length_map]
 have f1:l3.filter (fun x=>decide ((f x).1=k))=[]:=List.filter_eq_nil_iff.2 fun x hx=>by
  have:=(pairsP_nodup id shards k).2 (f x) (by rw[←h3];exact List.mem_map.2 ⟨x,hx,rfl⟩)
  simp
  omega
 have f2:l4.filter (fun x=>decide ((f x).1=k))=l4:=List.filter_eq_self.2 fun x hx=>by
  have hm:f x∈rowP id shards k:=by rw[←h4];exact List.mem_map.2 ⟨x,hx,rfl⟩
  unfold rowP at hm
  split at hm
  ·cases hm
  ·obtain⟨i,_,hi⟩:=List.mem_map.1 hm
   rw[←hi]
   simp
 have f3:l2.filter (fun x=>decide ((f x).1=k))=[]:=List.filter_eq_nil_iff.2 fun x hx=>by
  have:=hlt (f x) (by rw[←h2];exact List.mem_map.2 ⟨x,hx,rfl⟩)
  simp
  omega
 rw[List.filter_append,List.filter_append,f1,f2,f3,List.append_nil,List.nil_append,List.append_assoc,←e1,List.drop_left,←e2,List.take_left]
structure PlT where
 id:Nat
 places:Nat
 shards:Nat
 clock:Int
 base:List Int
 L:List PutT
 ss:List SndT
 rs:List RcvT
def PlT.pair (s:SndT):Nat×Nat:=(s.to.toNat,s.sh.toNat)
def PlT.pairR (s:RcvT):Nat×Nat:=(s.fm.toNat,s.sh.toNat)
end Go.Sx
end
section
namespace Go.Sx
open Go
def kept (L:List MsgT) (k:Int):Option MsgT:=L.find? fun m=>m.seq==k
def dropK (L:List MsgT) (k:Int):List MsgT:=L.eraseP fun m=>m.seq==k
def Dist (L:List MsgT):Prop:=(L.map (·.seq)).Nodup
theorem kept_none {L:List MsgT} {k:Int}:kept L k=none↔∀m∈L,m.seq≠k:=by
 unfold kept
 rw[List.find?_eq_none]
 simp
theorem dropK_sub (L:List MsgT) (k:Int):(dropK L k).Sublist L:=List.eraseP_sublist
theorem Dist.drop {L:List MsgT} (h:Dist L) (k:Int):Dist (dropK L k):=((dropK_sub L k).map _).nodup h
theorem Dist.app {L:List MsgT} (h:Dist L) {m:MsgT} (hm:kept L m.seq=none):Dist (L++[m]):=by
 unfold Dist
 rw[List.map_append,List.nodup_append]
 refine⟨h,by simp,fun a ha b hb=>?_⟩
 obtain⟨x,hx,rfl⟩:=List.mem_map.1 ha
 simp at hb
 subst hb
 exact kept_none.1 hm x hx
def KL (L:List MsgT):Value→Option (List D)
 | .int .i64 k=>(kept L k).map eMsg
 | _=>none
theorem KL_nil:KL []=fun _=>none:=by
 funext x
 unfold KL
 split <;> rfl
end Go.Sx
namespace Go.Proofs.YtmkapocibaojdaaGreatDoor
open Go Go.Sx
def Fit (m:MsgT):Prop:=m.c.when.length≤1000000∧m.c.ops.length≤1000000∧∀o∈m.c.ops,o.dots.length≤1000000
abbrev mAgg (m:MsgT) (v1 v2:Value):Value:=.agg #[.int .i64 m.fm,.int .i64 m.to,.int .i64 m.shard,.int .i64 m.seq,.int .i64 m.time,.bool m.beat,v1,.int .i64 m.c.place,v2]
end Go.Proofs.YtmkapocibaojdaaGreatDoor
end
section
namespace Go.Proofs.YtmkapocibaojdaaGreatDoor
open Go Go.Sx
def wayErr (fm to sh:Int):Nat:=if fm<0∨6≤fm∨to<0∨6≤to∨sh<0∨6≤sh then 2 else if fm=to then 3 else 0
set_option maxHeartbeats 4000000 in
theorem newWay {w0:World} {S:Nat→Prop} {er:Nat→Addr} {fm to sh:Int} (hE:AllG w0 S (globs er)) :
  Calls Tryz.prog 122 #[.int .i64 fm,.int .i64 to,.int .i64 sh] w0 fun e w'=>
   (wayErr fm to sh≠0∧Ret [] w0 S w' e (.tuple #[.agg #[.int .i64 0,.int .i64 0,.int .i64 0],errV 390 er (wayErr fm to sh)]) [] []) ∨
   (wayErr fm to sh=0∧Ret [] w0 S w' e (.tuple #[.agg #[.int .i64 fm,.int .i64 to,.int .i64 sh],.nilIface]) [] []):=by
 refine epG Tryz.func122 bd122 (args:=[.int .i64 fm,.int .i64 to,.int .i64 sh]) (G:=globs er) (by kernel_rfl) hE ?_
 refine J_glob 1 rfl (fun csg1 tyg1 fzg1 hglob1=>?_)
 refine J_glob 2 rfl (fun csg2 tyg2 fzg2 hglob2=>?_)
 refine Zv [.wr 0 [] 0,zR 1] [] [] (fun nu1=>[zP 6 (nu1 0),zV 7 .nilIface]) o0 (fun nu1=>[(nu1 0,.cells #[nI 0,nI 0,nI 0] 220 (0,0))]) (fun nu1=>?_)
 refine J_seq ?_
 refine Zs (Rds 0 3++[.rd 3 [] 2 0,.rd 4 [] 2 0,.rd 5 [] 0 3,zR 6,.rd 7 [] 2 0,.rd 8 [] 2 0,.rd 9 [] 0 3,zR 10,.rd 11 [] 2 0,.rd 12 [] 2 0,.rd 13 [] 0 3,zR 14,.rd 15 [] 2 0,.rd 16 [] 2 0,.rd 17 [] 0 3,zR 18,.rd 19 [] 2 0,.rd 20 [] 2 0,.rd 21 [] 0 3]) [] [zB 29 (decide (fm<0)||decide (fm≥6)||decide (to<0)||decide (to≥6)||decide (sh<0)||decide (sh≥6))] ?_
 refine cC (t:=decide (fm<0)||decide (fm≥6)||decide (to<0)||decide (to≥6)||decide (sh<0)||decide (sh≥6)) (fun hb=>?_) (fun hb=>?_)
 ·have e1:wayErr fm to sh=2:=by rw[wayErr,if_pos (by simp at hb;omega)]
  refine Zu [zR 0,.rd 1 [.r 0 (some (.iface 390 (.pointer (some (er 2)))))] 0 0,.wr 2 (hnO 0 3) 0,zR 3] [(2,[0])] [29] (fun _=>[zV 7 (.iface 390 (.pointer (some (er 2))))]) o0 o0 (fun _=>(oC hglob1 oN)) (fun _=>?_)
  refine Yr [(hnO 0 3),[]] (.tuple #[.agg #[nI 0,nI 0,nI 0],.iface 390 (.pointer (some (er 2)))]) fun a w s=>?_
  refine .inl ⟨by rw[e1];decide,?_⟩
  rw[e1]
  exact s.ret (by simp) [] [] rfl rfl
 ·have hn:¬(fm<0∨6≤fm∨to<0∨6≤to∨sh<0∨6≤sh):=by simp at hb;omega
  refine J_skip (J_seq ?_)
  refine Zs (Rds 0 3) [29] [zB 34 (fm==to)] ?_
  refine cC (t:=fm==to) (fun hs=>?_) (fun hs=>?_)
  ·have e1:wayErr fm to sh=3:=by rw[wayErr,if_neg hn,if_pos (by simpa using hs)]
   refine Zu [zR 0,.rd 1 [.r 1 (some (.iface 390 (.pointer (some (er 3)))))] 0 0,.wr 2 (hnO 0 3) 0,zR 3] [(2,[0])] [34] (fun _=>[zV 7 (.iface 390 (.pointer (some (er 3))))]) o0 o0 (fun _=>(oC hglob2 oN)) (fun _=>?_)
   refine Yr [(hnO 0 3),[]] (.tuple #[.agg #[nI 0,nI 0,nI 0],.iface 390 (.pointer (some (er 3)))]) fun a w s=>?_
   refine .inl ⟨by rw[e1];decide,?_⟩
   rw[e1]
   exact s.ret (by simp) [] [] rfl rfl
  ·have e1:wayErr fm to sh=0:=by rw[wayErr,if_neg hn,if_neg (by simpa using hs)]
   refine J_skip ?_
   refine Zv (Rds 0 4++[.wr 4 (hnO 0 3) 0,zR 5]) [(4,[0])] [34,0,1,2] (fun _=>[]) (fun _=>[(0,.cells #[nI fm,nI to,nI sh] 220 (0,0))]) o0 (fun _=>?_)
   refine Yr [(hnO 0 3),[]] (.tuple #[.agg #[nI fm,nI to,nI sh],.nilIface]) fun a w s=>?_
   exact .inr ⟨e1,s.ret (by simp) [] [] rfl rfl⟩
set_option maxHeartbeats 4000000 in
theorem newReceiver {w0:World} {S:Nat→Prop} {er:Nat→Addr} {fm to sh:Int} (hE:AllG w0 S (globs er)) (h0:wayErr fm to sh=0) :
  Calls Tryz.prog 59 #[.int .i64 fm,.int .i64 to,.int .i64 sh] w0 fun e w'=>∃b mb,
   Ret [] w0 S w' e (.tuple #[.pointer (some ⟨b,0,none⟩),.nilIface]) [cObj b (.cells #[.int .i64 fm,.int .i64 to,.int .i64 sh,.int .i64 0,.int .i64 0,.map (some mb)] 227 (0,0)),cMap mb (.int .i64) (KL [])] []:=by
 refine epG Tryz.func59 bd59 (args:=[.int .i64 fm,.int .i64 to,.int .i64 sh]) (G:=globs er) (by kernel_rfl) hE ?_
 refine Zs [zR 0,zR 1] [] [zV 6 (.pointer none),zV 7 .nilIface] ?_
 refine jS [(0,true),(1,true),(2,true),(3,false),(4,true),(5,true),(6,true),(7,false),(8,false),(9,true)] [] ?_
 refine Ya (Rds 0 3) [0,1,2] [zI 11 fm,zI 12 to,zI 13 sh] ?_
 refine Yc 122 #[nI fm,nI to,nI sh] (some 14) fun w S hG=>?_
 refine(newWay (hG.pick [0,1,2] rfl)).mono ?_
 rintro e1 w1 (⟨h1,hR⟩|⟨h1,hR⟩)
 ·exact absurd h0 h1
 refine⟨_,_,_,hR,?_⟩
 try simp only[aQ]
 refine Ym (Rds 4 7++[.wr 7 [] 0,.wr 8 (hnO 0 3) 0,zR 9]) [14,11,12,13] (fun nu1=>[zP 8 (nu1 0),zV 9 .nilIface]) o0 (fun nu1=>[(nu1 0,.cells #[nI fm,nI to,nI sh] 220 (0,0))]) [] (fun nu1=>?_)
 refine JR_end (J_seq ?_)
 refine Zs [zR 0,zR 1] [] [zB 18 false] ?_
 refine cF ?_
 refine J_skip ?_
 refine Zv [.rd 0 (hnO 0 3) 0 0,.wr 1 [] 0,zR 2,.wr 3 [] 0,zR 4,zR 5] [] [18,8,9] (fun nu2=>[zP 6 (nu2 1)]) o0 (fun nu2=>[(nu2 0,Obj.map #[] 0),(nu2 1,.cells #[nI fm,nI to,nI sh,nI 0,nI 0,.map (some (nu2 0))] 227 (0,0))]) (fun nu2=>?_)
 refine Yr [[],[]] (.tuple #[.pointer (sA (nu2 1) 0),.nilIface]) fun a w s=>?_
 have s1:=((s.hide 2 rfl).hide 1 rfl).stp (stp_conv 1 rfl (map0_eqv _ _ (.int .i64)))
 rw[KL_nil]
 exact⟨_,_,s1.ret (by simp) [0,1] [] rfl rfl⟩
end Go.Proofs.YtmkapocibaojdaaGreatDoor
end
section
namespace Go.Proofs.YtmkapocibaojdaaGreatDoor
open Go Go.Sx
abbrev rCells (fm to sh q t:Int) (mb:Nat):Obj:=.cells #[.int .i64 fm,.int .i64 to,.int .i64 sh,.int .i64 q,.int .i64 t,.map (some mb)] 227 (0,0)
end Go.Proofs.YtmkapocibaojdaaGreatDoor
end
section
namespace Go.Sx
open Go Go.MapKept
section look
variable {P:Program} {f:Func} {R:Act→World→Prop} {n:Nat} {k:List Itm} {E:Env} {h r:List (Nat×Obj)} {F:List (List Nat×World)} {Y:Ghost}
theorem JRg_lookrc {S0:Nat→Prop} {C0:List Chunk} {G0:List (Value×D)} {id L0 i:Nat} {Wp:List (Nat×List Nat)} {rest:List (Nat×Bool)} (q b t kt et:Nat) (ok:Value→Prop) (key z:Value) (c:Bool) (dst:Option Tmp) {es:Array MapEntry} {clock:Nat} {g:Value→Option Value}
  (he:lookOf n (rgOf f id) E i=some (.map (some b),key,t,c,dst)) (ht:P.underlying t=some (.map kt et)) (hK:KeyOk P kt ok) (hk:ok key) (hi:(P.info? et).map (·.zero)=some (some z))
  (hqc:C0[q]?=some (cObj b (.map es clock))) (hm:MapG ok es g)
  (A:g key=none→JR P f R n (rgOf f id) L0 false rest Wp k (E.put dst (.val (lkV c z false))) h r F ⟨S0,C0,G0⟩)
  (B:∀v,g key=some v→JR P f R n (rgOf f id) L0 false rest Wp k (E.put dst (.val (lkV c v true))) h r F ⟨S0,C0,G0⟩) :
  JR P f R n (rgOf f id) L0 false ((i,true)::rest) Wp k E h r F ⟨S0,C0,G0⟩:=by
 intro BB Hd fps a w s hH hR hN hW
 simp only[PW]
 obtain⟨inf,hinf,hz⟩:=Option.map_eq_some_iff.1 hi
 have hzero:∀w,(zeroValue et).run P w=.ok z w:=fun w=>by simp[zeroValue,typeInfo,hinf,hz]
 obtain⟨_,_,hcw⟩:=s.gh.chs.at hqc
 have hHp:Hp [(b,Obj.map es clock)] w:=fun y hy=>by
  obtain rfl:=List.mem_singleton.1 hy
  exact hcw.2
 unfold lookOf at he
 split at he
 ·cases he
 rename_i o ho
 split at he
 case isFalse=>cases he
 rename_i hdst
 split at he
 ·cases he
 rename_i hg
 split at he
 case h_2=>cases he
 rename_i t' m x c' hc
 split at he
 case h_2=>cases he
 rename_i hq
 simp only[Option.some.injEq,Prod.mk.injEq]at he
 obtain⟨e1,e2,rfl,rfl,rfl⟩:=he
 have hev:=opsOk_sound s.ag (fun c w h=>by cases h) _ _ hq trivial
 have e1:a.eval m=.map (some b):=(hev m (by simp)).trans e1
 have e2:a.eval x=key:=(hev x (by simp)).trans e2
 have fin:∀v,(∀w,Hp [(b,Obj.map es clock)] w→(Instr.lookup t' (.map (some b)) key c').run P w=.ok v w)→JR P f R n (rgOf f id) L0 false rest Wp k (E.put o.dst (.val v)) h r F ⟨S0,C0,G0⟩ →
   ∃o' v' us,(rgOf f id)[i]?=some o'∧YieldsIf P (rgOf f id) (Hp us) o' v' a∧Hp us w∧(false=true→∀y∈idsW Hd h Wp,later (rgOf f id) i 3 y.1=true∨∀x∈us,x.1<BB∧x.1∉y.2)∧PW P (rgOf f id) (wpK P f R k) BB false rest (idsW Hd h Wp) (a.put o'.dst v') w:=fun v hv H=>by
  refine⟨o,v,[(b,Obj.map es clock)],ho,.inl ⟨by simp[Region.wanted,hg],fun w hw=>?_⟩,hHp,(fun hck=>absurd hck Bool.false_ne_true),?_⟩
  ·unfold execOp
   simp only[hc,Sem.run_bind,Sem.run_pure,Result.andThen_ok,e1,e2,hv w hw]
  ·exact H BB Hd fps _ w ⟨s.ag.put hdst (.val v),s.own,s.fr,s.may,s.gh⟩ hH hR hN hW
 have hbw:∀w,Hp [(b,Obj.map es clock)] w→w.heap[b]?=some (.map es clock):=fun w hw=>hw (b,.map es clock) (by simp)
 rcases hm.look hK hk with ⟨h1,h2,_⟩|⟨j,e,h1,_,_,h2⟩
 ·refine fin (lkV c' z false) (fun w hw=>?_) (A h2)
  cases c' <;> simp[Instr.lookup,run_underlying ht,MapKept.run_getObj_map (hbw w hw),hK.chk _ _ hk,h1,hzero,Result.andThen,lkV]
 ·refine fin (lkV c' e.val true) (fun w hw=>?_) (B _ h2)
  cases c' <;> simp[Instr.lookup,run_underlying ht,MapKept.run_getObj_map (hbw w hw),hK.chk _ _ hk,h1,Result.andThen,lkV]
end look
theorem opsOf_nodup (key:ByteArray) (l:List ComT):((opsOf key l).map (·.d)).Nodup:=by
 have h1:((opsRaw key l).map (·.d)).Nodup:=(firsts_nodup (s:=[]) (l:=allDone l)).sublist ((List.filter_sublist ..).map _)
 exact(((List.mergeSort_perm (opsRaw key l) fun x y=>!doneLt y x).map (·.d)).nodup_iff).2 h1
theorem ofKey_nodup (key:ByteArray) (l:List ComT):((ofKey key l).map (·.d)).Nodup:=(opsOf_nodup key l).sublist ((List.filter_sublist ..).map _)
theorem textDots_nodup {l:List DoneT} (h:(l.map (·.d)).Nodup) (t:ByteArray):(textDots l t).Nodup:=h.sublist (((List.filter_sublist ..).trans (List.filter_sublist ..)).map _)
theorem textDots_len (l:List DoneT) (t:ByteArray):(textDots l t).length≤l.length:=by
 unfold textDots
 rw[List.length_map]
 exact Nat.le_trans (List.length_filter_le _ _) (List.length_filter_le _ _)
end Go.Sx
namespace Go.Proofs.YtmkapocibaojdaaGreatDoor
open Go Go.Sx
set_option maxHeartbeats 4000000 in
theorem vDots {w:World} {S:Nat→Prop} {er:Nat→Addr} {eb:Nat→Array Value×TypeId} {a:Option Addr} {n c:Nat} {key text:ByteArray} {l:List ComT} (hC:Rep w S .nilIface (dC er eb)) (h:Rep w S (.slice a n c) (.sl 3 (l.map eCom))) (hl:l.length≤300000) (hl1:∀x∈l,x.when.length≤1000000) (hl2:∀x∈l,x.ops.length≤1000000) :
  Calls Tryz.prog 180 #[.string key,.string text,.slice a n c] w fun e w'=>((valFault key l).code≠0∧FVal w S w' e er (valFault key l) fun v=>.tuple #[.slice none 0 0,v])∨((valFault key l).code=0∧∃ua un uc,Ret [] w S w' e (.tuple #[.slice ua un uc,.nilIface]) [] [(.slice ua un uc,.sl 3 ((dotsOf key text l).map eDot))]):=by
 refine epG Tryz.func180 bd180 (args:=[.string key,.string text,.slice a n c]) (G:=[(_,dC er eb),(_,.sl 3 (l.map eCom))]) (by kernel_rfl) (.cons hC (.cons h (.nil _ _))) ?_
 refine Zs [zR 0,zR 1] [] [zS 6 none 0 0,zV 7 .nilIface] ?_
 refine jS [(0,true),(1,true),(2,false),(3,true),(4,true),(5,true),(6,true),(7,true)] [] ?_
 refine Ya [zR 0,zR 1] [0,2] [zV 13 (.string key),zS 14 a n c] ?_
 refine Yc 159 #[.string key,.slice a n c] (some 15) fun w S hG=>?_
 refine(vOps (hG.at 0 rfl) (hG.at 1 rfl) hl hl1 hl2).mono ?_
 rintro e1 w1 (⟨hc,⟨hat,v,hR,hv⟩|⟨hc1,hat,pb,hR⟩⟩|⟨hc,a1,n1,c1,hR⟩)
 ·refine⟨_,_,_,hR,?_⟩
  rcases hv with ⟨hv0,rfl⟩|⟨hv0,rfl⟩
  ·exact absurd hv0 hc
  ·try simp only[aQ]
   refine Ya (Rds 3 8) [15,13,14] [zS 8 none 0 0,zV 9 (.iface 390 (.pointer (some (er (valFault key l).code))))] ?_
   refine JR_end (J_seq ?_)
   refine Zs [zR 0,zR 1] [] [zB 19 true] ?_
   refine cTt ?_
   refine Zs (Rds 0 3) [19,9] [zV 7 (.iface 390 (.pointer (some (er (valFault key l).code))))] ?_
   refine Yr [[],[]] (.tuple #[.slice none 0 0,.iface 390 (.pointer (some (er (valFault key l).code)))]) fun a w s=>?_
   exact .inl ⟨hc,.inl ⟨hat,_,s.ret (by simp) [] [] rfl rfl,.inr ⟨hv0,rfl⟩⟩⟩
 ·refine⟨_,_,_,hR,?_⟩
  try simp only[aQ]
  refine Ya (Rds 3 8) [15,13,14] [zS 8 none 0 0,zV 9 (.iface 202 (.pointer (sA pb 0)))] ?_
  refine JR_end (J_seq ?_)
  refine Zs [zR 0,zR 1] [] [zB 19 true] ?_
  refine cTt ?_
  refine Zs (Rds 0 3) [19,9] [zV 7 (.iface 202 (.pointer (sA pb 0)))] ?_
  refine Yr [[],[]] (.tuple #[.slice none 0 0,.iface 202 (.pointer (sA pb 0))]) fun a w s=>?_
  exact .inl ⟨hc,.inr ⟨hc1,hat,_,s.ret (by simp) [] [2] rfl rfl⟩⟩
 ·refine⟨_,_,_,hR,?_⟩
  have hlo:=opsOf_len hc
  have hlk:=ofKey_len hc
  try simp only[aQ]
  refine Ya (Rds 3 8) [15,13,14] [zS 8 a1 n1 c1,zV 9 .nilIface] ?_
  refine JR_end (J_seq ?_)
  refine Zs [zR 0,zR 1] [] [zB 19 false] ?_
  refine cF ?_
  refine J_skip ?_
  refine jS [(0,true),(1,false),(2,true),(3,true),(4,true),(5,true),(6,true)] [] ?_
  refine Ya [zR 0] [19,9] [zS 22 a1 n1 c1] ?_
  refine Yc 160 #[.slice a1 n1 c1] (some 23) fun w S hG=>?_
  refine(vKind (hG.at 2 rfl) (by omega)).mono ?_
  rintro e2 w2 ⟨a2,n2,c2,hR⟩
  refine⟨_,_,_,hR,?_⟩
  have hA:kindL (opsOf key l)=ofKey key l:=rfl
  rw[hA]
  by_cases hk3:kindOf (opsOf key l)=3
  ·have hd:dotsOf key text l=sortDots (textDots (ofKey key l) text):=by rw[dotsOf,if_pos hk3]
   rw[hk3]
   have hdl:∀x∈ofKey key l,x.o.dots.length≤1000000:=fun x hx=>by
    obtain⟨p,hp⟩:=fine_mem hc (mem_ofKey hx)
    have:=opErr_fine hp
    omega
   try simp only[aQ]
   refine Ya (Rds 2 7) [23,22] [zS 8 a2 n2 c2,zI 10 3] ?_
   refine JR_end (J_seq ?_)
   refine Zs [zR 0,zR 1] [10] [zB 27 false] ?_
   refine cF ?_
   refine J_skip ?_
   refine jS [(0,true),(1,false),(2,true),(3,true),(4,true)] [] ?_
   refine Ya [zR 0] [27,8] [zS 28 a2 n2 c2] ?_
   refine Yc 163 #[.slice a2 n2 c2] (some 29) fun w S hG=>?_
   refine(vLive (hG.at 3 rfl) (by omega) hdl).mono ?_
   rintro e3 w3 ⟨mb,es,clock,ks,F,hR,hm,hst,hnd,hiff⟩
   refine⟨_,_,_,hR,?_⟩
   try simp only[aQ]
   refine Ya [zR 2] [28,1] [zV 30 (.string text)] ?_
   have hnd2:=textDots_nodup (ofKey_nodup key l) text
   have hln2:=textDots_len (ofKey key l) text
   refine JRg_lookrc 0 mb 276 9 53 (MapKept.IsKey .string) (.string text) (.slice none 0 0) false (some 31) (by kernel_rfl) (by kernel_rfl) keyOk_9 (by simp[MapKept.IsKey]) (by kernel_rfl) rfl hm (fun hno=>?_) (fun v hv=>?_)
   ·have hT:text∉ks:=fun h=>by rw[strG_in h]at hno;cases hno
    have hT0:textDots (ofKey key l) text=[]:=Classical.byContradiction fun h=>hT ((hiff _).2 h)
    refine Ya [zR 4] [31,30,29] [zS 11 none 0 0] ?_
    refine JR_end (J_seq ?_)
    refine J_stp (stp_accm eDot 177 3) ?_
    refine Nm [cObj mb (Obj.map es clock),(cStar (List.map (fun t=>cAcc (F t) 177 3 (List.map eDot (textDots (ofKey key l) t))) ks)),cAcc (.slice none 0 0) 177 3 (List.map eDot [])] ?_
    refine jT [(0,true),(1,false)] [] ?_
    refine Ya [zR 0] [] [zS 32 none 0 0] ?_
    refine JR_call [] [2] 210 #[.slice none 0 0,.func (.func 211) #[] #[]] (some 33) (by kernel_rfl) (by kernel_rfl) (by decide) (fun w S M hP hG _=>?_)
    refine(sortDotAcc (l:=[]) hP (by simp) (by simp)).mono ?_
    rintro e4 w4 hR
    refine⟨_,_,_,hR,?_⟩
    try simp only[aQ]
    refine JR_end ?_
    try simp only[aQ]
    refine J_seq ?_
    try simp only[aQ]
    refine Za (Rds 0 3) [33,32,11] [] ?_
    try simp only[aQ]
    refine Yr [[],[]] (.tuple #[.slice none 0 0,.nilIface]) fun a w s=>?_
    rw[hd,hT0]
    exact .inr ⟨hc,_,_,_,(s.stp (stp_freeze 2 rfl)).ret (by simp) [] [4] rfl rfl⟩
   ·have hT:text∈ks:=Classical.byContradiction fun h=>by rw[strG_out h]at hv;cases hv
    rw[strG_in hT]at hv
    cases hv
    obtain⟨iT,hit⟩:=List.getElem?_of_mem hT
    refine Ya [zR 4] [31,30,29] [zV 11 (F text)] ?_
    refine JR_end (J_seq ?_)
    refine J_stp (stp_take (c:=cAcc (F text) 177 3 ((textDots (ofKey key l) text).map eDot)) 1 iT rfl (by rw[List.getElem?_map,hit];rfl)) ?_
    refine J_stpx (stp_accform 1 rfl) fun y hF=>?_
    obtain⟨hF,hn⟩:=hF
    obtain⟨av,nv,cv⟩:=y
    dsimp only at hF hn
    rw[hF]
    refine Nm [cObj mb (Obj.map es clock),cAcc (.slice av nv cv) 177 3 (List.map eDot (textDots (ofKey key l) text)),(cStar ((List.map (fun t=>cAcc (F t) 177 3 (List.map eDot (textDots (ofKey key l) t))) ks).eraseIdx iT))] ?_
    refine jT [(0,true),(1,false)] [] ?_
    refine Ya [zR 0] [] [zS 32 av nv cv] ?_
    refine JR_call [] [1] 210 #[.slice av nv cv,.func (.func 211) #[] #[]] (some 33) (by kernel_rfl) (by kernel_rfl) (by decide) (fun w S M hP hG _=>?_)
    refine(sortDotAcc hP (by omega) hnd2).mono ?_
    rintro e4 w4 hR
    refine⟨_,_,_,hR,?_⟩
    try simp only[aQ]
    refine JR_end ?_
    try simp only[aQ]
    refine J_seq ?_
    try simp only[aQ]
    refine Za (Rds 0 3) [33,32,11] [zS 6 av nv cv] ?_
    try simp only[aQ]
    refine Yr [[],[]] (.tuple #[.slice av nv cv,.nilIface]) fun a w s=>?_
    rw[hd]
    exact .inr ⟨hc,_,_,_,(s.stp (stp_freeze 2 rfl)).ret (by simp) [] [4] rfl rfl⟩
  ·have hd:dotsOf key text l=[]:=by rw[dotsOf,if_neg hk3]
   try simp only[aQ]
   refine Ya (Rds 2 7) [23,22] [zS 8 a2 n2 c2,zI 10 (kindOf (opsOf key l))] ?_
   refine JR_end (J_seq ?_)
   refine Zt [zR 0,.rd 1 [] 0 6] [10] [zB 27 true] (oC (show(kindOf (opsOf key l) != (3:Int))=true from by simp;omega) oN) ?_
   refine cTt ?_
   refine Zs [zR 0,zR 1] [27] [] ?_
   refine Yr [[],[]] (.tuple #[.slice none 0 0,.nilIface]) fun a w s=>?_
   rw[hd]
   exact .inr ⟨hc,_,_,_,(s.stp (stp_fact (v:=.slice none 0 0) (d:=.sl 3 []) fun _ _ _=>.nil)).ret (by simp) [] [4] rfl rfl⟩
end Go.Proofs.YtmkapocibaojdaaGreatDoor
end
section
namespace Go.Sx
open Go
section generic
variable {α:Type} (lt:α→α→Bool)
def insG (l:List α) (x:α):List α:=l.takeWhile (fun y=>lt y x)++x::l.dropWhile (fun y=>lt y x)
theorem insG_mem {l:List α} {x z:α}:z∈insG lt l x↔z=x∨z∈l:=by
 unfold insG
 have h:z∈l↔z∈l.takeWhile (fun y=>lt y x)∨z∈l.dropWhile (fun y=>lt y x):=by
  rw[←List.mem_append,List.takeWhile_append_dropWhile]
 rw[h,List.mem_append,List.mem_cons]
 constructor
 ·rintro(h|h|h)
  ·exact .inr (.inl h)
  ·exact .inl h
  ·exact .inr (.inr h)
 ·rintro(h|h|h)
  ·exact .inr (.inl h)
  ·exact .inl h
  ·exact .inr (.inr h)
theorem insG_sorted (tr:∀a b c,lt a b=true→lt b c=true→lt a c=true) {x:α}:∀{l:List α},(∀y∈l,lt y x=true∨lt x y=true)→(l.Pairwise fun a b=>lt a b=true)→(insG lt l x).Pairwise fun a b=>lt a b=true
 | [],_,_=>by simp[insG]
 | y::l,hx,h=>by
  have h1:=List.pairwise_cons.1 h
  unfold insG
  by_cases hy:lt y x=true
  ·rw[List.takeWhile_cons_of_pos (p:=fun y=>lt y x) hy,List.dropWhile_cons_of_pos (p:=fun y=>lt y x) hy,List.cons_append]
   refine List.pairwise_cons.2 ⟨fun z hz=>?_,insG_sorted tr (fun z hz=>hx z (List.mem_cons_of_mem _ hz)) h1.2⟩
   rcases(insG_mem lt).1 hz with rfl|hz
   ·exact hy
   ·exact h1.1 z hz
  ·rw[List.takeWhile_cons_of_neg (p:=fun y=>lt y x) hy,List.dropWhile_cons_of_neg (p:=fun y=>lt y x) hy,List.nil_append]
   have hxy:=(hx y (List.mem_cons_self ..)).resolve_left hy
   refine List.pairwise_cons.2 ⟨fun z hz=>?_,h⟩
   rcases List.mem_cons.1 hz with rfl|hz
   ·exact hxy
   ·exact tr _ _ _ hxy (h1.1 z hz)
theorem insG_fold (tr:∀a b c,lt a b=true→lt b c=true→lt a c=true):∀{raw p:List α},(p.Pairwise fun a b=>lt a b=true)→(∀a∈p,∀b∈raw,lt a b=true∨lt b a=true)→(raw.Pairwise fun a b=>lt a b=true∨lt b a=true) →
  ((raw.foldl (insG lt) p).Pairwise fun a b=>lt a b=true)∧∀z,z∈raw.foldl (insG lt) p↔z∈p∨z∈raw
 | [],p,hp,_,_=>⟨hp,fun z=>by simp⟩
 | x::raw,p,hp,hc,hr=>by
  have h1:=List.pairwise_cons.1 hr
  have h2:=insG_sorted lt tr (x:=x) (fun y hy=>hc y hy x (List.mem_cons_self ..)) hp
  obtain⟨h3,h4⟩:=insG_fold tr h2 (raw:=raw) (fun a ha b hb=>by
   rcases(insG_mem lt).1 ha with rfl|ha
   ·exact h1.1 b hb
   ·exact hc a ha b (List.mem_cons_of_mem _ hb)) h1.2
  refine⟨h3,fun z=>?_⟩
  rw[List.foldl_cons,h4,insG_mem,List.mem_cons]
  constructor
  ·rintro((h|h)|h)
   ·exact .inr (.inl h)
   ·exact .inl h
   ·exact .inr (.inr h)
  ·rintro(h|h|h)
   ·exact .inl (.inr h)
   ·exact .inl (.inl h)
   ·exact .inr h
theorem merge_strict (asy:∀a b,lt a b=true→lt b a=true→False) (ntr:∀a b c,lt b a=false→lt c b=false→lt c a=false) {l:List α} (hl:l.Pairwise fun a b=>lt a b=true∨lt b a=true) :
  (l.mergeSort fun x y=>!lt y x).Pairwise fun a b=>lt a b=true:=by
 have h1:=List.pairwise_mergeSort (le:=fun x y=>!lt y x) (fun a b c h1 h2=>by simp only[Bool.not_eq_true']at *;exact ntr a b c h1 h2) (fun a b=>by
  cases h:lt b a with
  | false=>rfl
  | true=>
   cases h2:lt a b with
   | false=>rfl
   | true=>exact(asy _ _ h h2).elim) l
 have h2:(l.mergeSort fun x y=>!lt y x).Pairwise fun a b=>lt a b=true∨lt b a=true:=
  (List.mergeSort_perm l _).symm.pairwise hl fun h=>h.symm
 refine(h1.and h2).imp fun{a b} h=>?_
 have h3:lt b a=false:=by simpa using h.1
 rcases h.2 with h4|h4
 ·exact h4
 ·rw[h3]at h4;cases h4
theorem ins_sort (tr:∀a b c,lt a b=true→lt b c=true→lt a c=true) (asy:∀a b,lt a b=true→lt b a=true→False) (ntr:∀a b c,lt b a=false→lt c b=false→lt c a=false) {l:List α} (hl:l.Pairwise fun a b=>lt a b=true∨lt b a=true) :
  l.foldl (insG lt) []=l.mergeSort fun x y=>!lt y x:=by
 obtain⟨h1,h2⟩:=insG_fold lt tr (raw:=l) (p:=[]) List.Pairwise.nil (by simp) hl
 refine eq_of_sorted (lt:=fun a b=>lt a b=true) asy h1 (merge_strict lt asy ntr hl) fun x=>?_
 rw[h2,List.mem_mergeSort]
 simp
end generic
theorem lex_ntr {xs ys zs:List Int} (h1:xs.length=ys.length) (h2:ys.length=zs.length) (h:¬lexC ys xs<0) (h':¬lexC zs ys<0):¬lexC zs xs<0:=fun hc=>by
 rcases lexC_tri h1 with h3|h3|h3
 ·rcases lexC_tri h2 with h4|h4|h4
  ·exact lexC_asymm (lexC_trans h3 h4) hc
  ·rw[h4]at h3
   exact lexC_asymm h3 hc
  ·exact h' h4
 ·rw[←h3]at h'
  exact h' hc
 ·exact h h3
theorem sort_done {l:List DoneT} (h:(l.map (·.d)).Nodup):l.foldl (insG doneLt) []=sortDone l:=by
 refine ins_sort doneLt (fun _ _ _=>doneLt_trans) (fun _ _=>doneLt_asymm) (fun a b c h1 h2=>?_) ((List.pairwise_map.1 h).imp fun{a b} hne=>?_)
 ·have h3:¬lexC (doneKey b) (doneKey a)<0:=fun hc=>by rw[doneLt_iff.2 hc]at h1;cases h1
  have h4:¬lexC (doneKey c) (doneKey b)<0:=fun hc=>by rw[doneLt_iff.2 hc]at h2;cases h2
  exact Bool.eq_false_iff.2 fun hc=>lex_ntr (xs:=doneKey a) (ys:=doneKey b) (zs:=doneKey c) rfl rfl h3 h4 (doneLt_iff.1 hc)
 ·rcases doneLt_tri a b with h1|h1|h1
  ·exact .inl h1
  ·exact absurd (doneKey_dot h1) hne
  ·exact .inr h1
end Go.Sx
end
section
namespace Go.Sx
open Go
theorem Rep.takeS {w:World} {S:Nat→Prop} {a:Option Addr} {n c k:Nat} {rows:List (List D)} (h:Rep w S (.slice a n c) (.sl k rows)) (i:Nat) (hi:i≤rows.length):Rep w S (.slice a i c) (.sl k (rows.take i)):=by
 cases h with
 | nil=>
  obtain rfl:i=0:=by simpa using hi
  exact .nil
 | sl u hb hS hc hk hl hcell hrep=>
  have:=Rep.sl (rows:=rows.take i) u hb hS (Nat.le_trans (by rw[List.length_take];exact Nat.min_le_right ..) hc) hk (fun row hr=>hl row (List.mem_of_mem_take hr)) (fun j q hj hq=>hcell j q (by rw[List.length_take]at hj;omega) hq) (fun j q row d hj hd=>hrep j q row d (by
   rw[List.getElem?_take]at hj
   split at hj
   ·exact hj
   ·cases hj) hd)
  have e:(rows.take i).length=i:=by rw[List.length_take];omega
  rw[e]at this
  exact this
theorem Rep.dropS {w:World} {S:Nat→Prop} {b off n c k:Nat} {rows:List (List D)} (h:Rep w S (.slice (some ⟨b,off,none⟩) n c) (.sl k rows)) (i:Nat) (hi:i≤rows.length):Rep w S (.slice (some ⟨b,off+i*k,none⟩) (n - i) (c - i)) (.sl k (rows.drop i)):=by
 cases h with
 | nil=>
  obtain rfl:i=0:=by simpa using hi
  exact .nil
 | sl u hb hS hc hk hl hcell hrep=>
  have:=Rep.sl (rows:=rows.drop i) (off:=off+i*k) (cap:=c - i) (fun j q=>u (i+j) q) hb hS (by rw[List.length_drop];omega) hk (fun row hr=>hl row (List.mem_of_mem_drop hr)) (fun j q hj hq=>by
   have h1:=hcell (i+j) q (by rw[List.length_drop]at hj;omega) hq
   rw[←h1,Nat.add_mul]
   congr 1
   omega) (fun j q row d hj hd=>hrep (i+j) q row d (by rw[List.getElem?_drop]at hj;exact hj) hd)
  rwa[List.length_drop]at this
theorem Rep.takeM {β:Type} {enc:β→List D} {l:List β} {w:World} {S:Nat→Prop} {a:Option Addr} {n c k:Nat} (h:Rep w S (.slice a n c) (.sl k (l.map enc))) (i:Nat) (hi:i≤l.length):Rep w S (.slice a i c) (.sl k ((l.take i).map enc)):=by
 rw[List.map_take]
 exact h.takeS i (by rw[List.length_map];exact hi)
theorem Rep.dropM {β:Type} {enc:β→List D} {l:List β} {w:World} {S:Nat→Prop} {b off n c k:Nat} (h:Rep w S (.slice (some ⟨b,off,none⟩) n c) (.sl k (l.map enc))) (i:Nat) (hi:i≤l.length):Rep w S (.slice (some ⟨b,off+i*k,none⟩) (n - i) (c - i)) (.sl k ((l.drop i).map enc)):=by
 rw[List.map_drop]
 exact h.dropS i (by rw[List.length_map];exact hi)
theorem Rep.cap {w:World} {S:Nat→Prop} {a:Option Addr} {n c k:Nat} {rows:List (List D)} (h:Rep w S (.slice a n c) (.sl k rows)):n≤c:=by
 cases h with
 | nil=>exact Nat.zero_le _
 | sl u hb hS hc=>exact hc
end Go.Sx
end
