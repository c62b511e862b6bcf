/- Part 13 of the texts of a claim: PlO PlB PlX PlH PlL PlY Net Net2. -/
import Derived.Test.YtmkapocibaojdaaGreatDoorTt12
section
namespace Go.Proofs.YtmkapocibaojdaaGreatDoor
open Go Go.Sx
theorem flat_succ {om:List (List Nat)} {i:Nat} {r:List Nat} (h:om[i]?=some r):(om.take (i+1)).flatten=(om.take i).flatten++r:=by rw[List.take_add_one,h,List.flatten_append];simp
theorem flat_le (om:List (List Nat)) (i:Nat):(om.take i).flatten.length≤om.flatten.length:=by
 conv=>rhs;rw[←List.take_append_drop i om,List.flatten_append,List.length_append]
 omega
set_option maxHeartbeats 4000000 in
theorem concatS {w:World} {S:Nat→Prop} {om:List (List Nat)} {a:Option Addr} {p c:Nat} (h:Rep w S (.slice a p c) (dRows om)) (hp:p≤6) (hl:om.flatten.length≤36) :
  Calls Tryz.prog 89 #[.slice a p c] w fun e w'=>∃ua uc,
   Ret [] w S w' e (.slice ua om.flatten.length uc) [cAcc (.slice ua om.flatten.length uc) 127 1 (om.flatten.map eP)] []:=by
 have hpl:=h.slen
 rw[List.length_map]at hpl
 subst hpl
 refine epG Tryz.func89 bd89 (args:=[.slice a om.length c]) (S:=S) (G:=[(_,dRows om)]) (by kernel_rfl) (.cons h (.nil _ _)) ?_
 refine Zs [zR 0] [] [zS 2 none 0 0] ?_
 refine Zs [zR 0] [] [zI 3 0] ?_
 refine J_seq ?_
 refine Zs (Rds 0 3) [] [zS 9 a om.length c,zI 10 (↑om.length:Int),zI 11 0] ?_
 refine J_block ?_
 refine J_loopx (fun i:Int=>[zS 0 a om.length c,zS 2 none 0 0,zI 3 ((om.take i.toNat).flatten.length:Int),zS 9 a om.length c,zI 10 (↑om.length:Int),zI 11 i]) (fun i:Int=>[]) (fun i:Int=>[]) (fun i:Int=>[(.slice a om.length c,(dRows om))]) (fun i:Int=>(om.length - i).toNat) (fun i:Int=>(0≤i∧i≤om.length)) 0 [0,2,3,9,10,11] [] [] [0] ?_ (by kernel_rfl) rfl rfl rfl ?_
 ·exact⟨by omega,by omega⟩
 rintro i ⟨hi0,hi⟩
 have hfl:=flat_le om i.toNat
 refine Zs [zR 0] [] [zB 12 (decide (i<(↑om.length:Int)))] ?_
 refine J_seq ?_
 refine cC (t:=decide (i<(↑om.length:Int))) (fun hlt=>?_) (fun hlt=>?_)
 ·have hlt2:i<om.length:=by simpa using hlt
  obtain⟨r,hr⟩:∃r,om[i.toNat]?=some r:=⟨_,List.getElem?_eq_getElem (by omega)⟩
  have hfl2:=flat_le om (i.toNat+1)
  have hsc:=congrArg List.length (flat_succ hr)
  rw[List.length_append]at hsc
  refine J_read1 0 rfl i.toNat (map_at hr) (by kernel_rfl) (fun b1 off1 cs1 ty1 fz1 a1_0 c1_0 ha1 hrd1=>?_)
  cases ha1
  have hrd1_0:=rd0 (hrd1 0 _ rfl)
  have hrn:(List.map eP r).length=r.length:=List.length_map ..
  try simp only[aQ]
  refine J_skip (J_seq (J_block ?_))
  refine Zt [.rd 0 [] 0 2,.rd 1 [.r 0 (some (.slice (a1_0,c1_0).fst ((List.map eP r).length) c1_0))] 0 0,zR 2] [12] [zS 5 (a1_0,c1_0).fst ((List.map eP r).length) c1_0] (oC hi0 (oC hlt2 (oC hrd1_0 oN))) ?_
  refine Zt (Rds 0 3++[.rd 3 [] 0 1,zR 4]) [] [zI 3 ((↑(List.take i.toNat om).flatten.length:Int)+(↑(List.map eP r).length:Int))] (oC (show IntKind.i64.wrap ((↑(List.take i.toNat om).flatten.length:Int)+(↑(List.map eP r).length:Int))=(↑(List.take i.toNat om).flatten.length:Int)+(↑(List.map eP r).length:Int) from wrap_i64 (by omega) (by omega)) oN) ?_
  refine Zs [zR 0,zR 1] [] [zB 20 false] ?_
  refine cF ?_
  refine J_skip (J_eb ?_)
  refine Zp [.rd 0 [] 0 1,zR 1] [20] [zI 11 (i+1)] (oC (show IntKind.i64.wrap (i+1)=i+1 from wrap_i64 (by omega) (by omega)) oN) ?_
  have e3:((om.take i.toNat).flatten.length:Int)+((List.map eP r).length:Int)=((om.take (i+1).toNat).flatten.length:Int):=by rw[show(i+1).toNat=i.toNat+1 by omega];omega
  rw[e3]
  refine J_backx (i+1) [0,2,3,9,10,11] [] [] [0] ?_ ?_ (by kernel_rfl) rfl rfl rfl
  ·exact⟨by omega,by omega⟩
  ·omega
 ·have hie:i.toNat=om.length:=by simp at hlt;omega
  rw[hie,List.take_length]
  refine J_exit rfl ?_
  refine jS [(0,true),(1,false),(2,true)] [] ?_
  refine Ya [zR 0] [12,3,9,10,11] [zI 23 (↑om.flatten.length:Int)] ?_
  refine Yc 150 #[.slice none 0 0,nI (↑om.flatten.length:Int)] (some 24) fun w S hG=>?_
  refine(growNil (S:=S) (n:=om.flatten.length) (by omega)).mono ?_
  rintro e1 w1 ⟨ga,gc,hR⟩
  refine⟨_,_,_,hR,?_⟩
  try simp only[aQ]
  refine Ya [zR 2] [24,23] [zS 6 ga 0 gc] ?_
  refine JR_end (J_seq ?_)
  refine Zs (Rds 0 3) [0] [zS 25 a om.length c,zI 26 (↑om.length:Int),zI 27 0] ?_
  refine J_block ?_
  refine J_loopx (fun z:AccI=>[zS 2 none 0 0,zS 6 z.a z.k z.c,zS 25 a om.length c,zI 26 (↑om.length:Int),zI 27 z.i]) (fun z:AccI=>[]) (fun z:AccI=>[cAcc (.slice z.a z.k z.c) 127 1 ((om.take z.i.toNat).flatten.map eP)]) (fun z:AccI=>[(.slice a om.length c,(dRows om))]) (fun z:AccI=>(om.length - z.i).toNat) (fun z:AccI=>(0≤z.i∧z.i≤om.length)) ⟨0,ga,0,gc⟩ [2,6,25,26,27] [] [0] [0] ?_ (by kernel_rfl) rfl rfl rfl ?_
  ·exact⟨by simp,by simp⟩
  rintro⟨j,av,k,cv⟩ ⟨hj0,hj⟩
  dsimp only at hj0 hj ⊢
  refine J_stpx (stp_acclen 0 rfl) fun _ hk=>?_
  rw[List.length_map]at hk
  have hfj:=flat_le om j.toNat
  refine Zs [zR 0] [] [zB 28 (decide (j<(↑om.length:Int)))] ?_
  refine J_seq ?_
  refine cC (t:=decide (j<(↑om.length:Int))) (fun hlt2=>?_) (fun hlt2=>?_)
  ·have hlt3:j<om.length:=by simpa using hlt2
   obtain⟨r,hr⟩:∃r,om[j.toNat]?=some r:=⟨_,List.getElem?_eq_getElem (by omega)⟩
   have hfl2:=flat_le om (j.toNat+1)
   have hsc:=congrArg List.length (flat_succ hr)
   rw[List.length_append]at hsc
   refine J_read1 0 rfl j.toNat (map_at hr) (by kernel_rfl) (fun b1 off1 cs1 ty1 fz1 a1_0 c1_0 ha1 hrd1=>?_)
   cases ha1
   have hrd1_0:=rd0 (hrd1 0 _ rfl)
   have hrn:(List.map eP r).length=r.length:=List.length_map ..
   refine Nm [cAcc (.slice av k cv) 127 1 (List.map eP (List.take j.toNat om).flatten)] ?_
   try simp only[aQ]
   refine J_skip (J_seq (J_block ?_))
   refine Zt [.rd 0 [] 0 2,.rd 1 [.r 0 (some (.slice (a1_0,c1_0).fst ((List.map eP r).length) c1_0))] 0 0,zR 2] [28] [zS 8 (a1_0,c1_0).fst ((List.map eP r).length) c1_0] (oC hj0 (oC hlt3 (oC hrd1_0 oN))) ?_
   refine jT [(0,true),(1,true),(2,false),(3,true)] [] ?_
   refine Ya [zR 0,zR 1] [] [zS 31 av k cv,zS 32 (a1_0,c1_0).fst ((List.map eP r).length) c1_0] ?_
   refine JR_appm 0 125 127 1 8 (.pointer none) (a0:=av) (len:=k) (cap0:=cv) (ax:=(a1_0,c1_0).fst) (m:=(List.map eP r).length) (c:=c1_0) (dst:=(some 33)) r (by kernel_rfl) (by kernel_rfl) (by kernel_rfl) (by kernel_rfl) rfl (by decide) rfl (fun _ _ _ s=>src_fact s 1 rfl (by decide)) (by simp only[maxLen];omega) (by omega) (fun av1 cv1=>?_)
   try simp only[aQ]
   refine Ya [zR 3] [33,31,32] [zS 6 av1 (k+(List.map eP r).length) cv1] ?_
   try simp only[aQ]
   refine JR_end ?_
   try simp only[aQ]
   refine J_eb ?_
   try simp only[aQ]
   refine Zp [.rd 0 [] 0 1,zR 1] [] [zI 27 (j+1)] (oC (show IntKind.i64.wrap (j+1)=j+1 from wrap_i64 (by omega) (by omega)) oN) ?_
   try simp only[aQ]
   have e4:(om.take j.toNat).flatten++r=(om.take (j+1).toNat).flatten:=by rw[show(j+1).toNat=j.toNat+1 by omega,flat_succ hr]
   rw[e4]
   refine J_backx ⟨j+1,_,k+(List.map eP r).length,_⟩ [2,6,25,26,27] [] [0] [0] ?_ ?_ (by kernel_rfl) rfl rfl rfl
   ·exact⟨by simp only;omega,by simp only;omega⟩
   ·simp only
    omega
  ·have hje:j.toNat=om.length:=by simp at hlt2;omega
   rw[hje,List.take_length]at hk ⊢
   subst hk
   refine J_exit rfl ?_
   refine Zs [zR 0,zR 1] [28,6,25,26,27] [zS 2 av om.flatten.length cv] ?_
   refine Yr [[]] (.slice av om.flatten.length cv) fun a w s=>?_
   exact⟨_,_,s.ret (by simp) [0] [] rfl rfl⟩
end Go.Proofs.YtmkapocibaojdaaGreatDoor
end
section
namespace Go.Proofs.YtmkapocibaojdaaGreatDoor
open Go Go.Sx
def bsAt (x:PlT) (p:Nat):List SndT:=(x.ss.take p).map (fun y=>SndT.beat y x.clock)++x.ss.drop p
def bmAt (x:PlT) (p:Nat):List MsgT:=(x.ss.take p).map fun y=>SndT.beatM y x.clock
theorem bsAt_end (x:PlT) {p:Nat} (h:x.ss.length≤p):bsAt x p=(beatPl x).ss:=by rw[bsAt,List.take_of_length_le h,List.drop_of_length_le h,List.append_nil];rfl
theorem bmAt_end (x:PlT) {p:Nat} (h:x.ss.length≤p):bmAt x p=beatMs x:=by rw[bmAt,List.take_of_length_le h];rfl
theorem bsAt_at {x:PlT} {p:Nat} {y:SndT} (h:x.ss[p]?=some y):(bsAt x p)[p]?=some y:=by
 have hi:=(List.getElem?_eq_some_iff.1 h).1
 rw[bsAt,List.getElem?_append_right (by rw[List.length_map,List.length_take];omega),List.length_map,List.length_take,Nat.min_eq_left (by omega),Nat.sub_self,List.getElem?_drop]
 exact h
theorem bsAt_succ {x:PlT} {p:Nat} {y:SndT} (h:x.ss[p]?=some y):(bsAt x p).set p (SndT.beat y x.clock)=bsAt x (p+1):=by
 obtain⟨hi,he⟩:=List.getElem?_eq_some_iff.1 h
 have hl:((x.ss.take p).map fun y=>SndT.beat y x.clock).length=p:=by rw[List.length_map,List.length_take];omega
 rw[bsAt,bsAt,List.set_append_right _ _ (by omega),hl,Nat.sub_self,List.drop_eq_getElem_cons hi,he,List.take_add_one,h,List.map_append,List.append_assoc]
 rfl
theorem bmAt_succ {x:PlT} {p:Nat} {y:SndT} (h:x.ss[p]?=some y):bmAt x p++[SndT.beatM y x.clock]=bmAt x (p+1):=by
 rw[bmAt,bmAt,List.take_add_one,h,List.map_append]
 rfl
def amAt (x:PlT) (p:Nat):List MsgT:=((x.ss.take p).map (·.l)).flatten
theorem amAt_end (x:PlT) {p:Nat} (h:x.ss.length≤p):amAt x p=againMs x:=by rw[amAt,List.take_of_length_le h,againMs]
theorem amAt_succ {x:PlT} {p:Nat} {y:SndT} (h:x.ss[p]?=some y):amAt x p++y.l=amAt x (p+1):=by
 rw[amAt,amAt,List.take_add_one,h,List.map_append,List.flatten_append]
 simp
theorem amAt_len {x:PlT} {n:Nat} (hx:PlIn x n) (p:Nat):(amAt x p).length≤36*n:=by
 have h1:∀l:List SndT,(∀s∈l,s.l.length≤n)→((l.map (·.l)).flatten).length≤l.length*n:=by
  intro l
  induction l with
  | nil=>intro _;simp
  | cons a l ih=>
   intro h
   have h1:=h a (List.mem_cons_self ..)
   have h2:=ih fun s hs=>h s (List.mem_cons_of_mem _ hs)
   simp only[List.map_cons,List.flatten_cons,List.length_append,List.length_cons,Nat.add_mul]
   omega
 have h2:=h1 (x.ss.take p) fun s hs=>(hx.snd s (List.take_subset _ _ hs)).2.2.2.2
 have h3:=Nat.mul_le_mul_right n (show(x.ss.take p).length≤36 by have:=hx.ssl.2;rw[List.length_take];omega)
 exact Nat.le_trans h2 h3
theorem beatErr_clk {x:PlT} {n:Nat} (hx:PlIn x n) {y:SndT} (hy:y∈x.ss):beatErr y.t x.clock=0:=by
 have h1:=(hx.snd y hy).2.1
 have h2:=hx.c0
 have h3:=hx.c1
 rw[beatErr,if_neg (by omega),if_neg (by omega)]
set_option maxHeartbeats 4000000 in
theorem placeBeat {w:World} {S:Nat→Prop} {M:List Nat} {er:Nat→Addr} {eb:Nat→Array Value×TypeId} {x:PlT} {b n:Nat} (hC:Rep w S .nilIface (dC er eb)) (hP:Pre w S M [cPlace b x]) (hx:PlIn x n) (hn:n<600) :
  Calls Tryz.prog 23 #[.pointer (some ⟨b,0,none⟩)] w fun e w'=>∃ua uc,
   Ret M w S w' e (.slice ua (beatMs x).length uc) [cPlace b (beatPl x)] [(.slice ua (beatMs x).length uc,.sl 9 ((beatMs x).map eMsg))]:=by
 refine enG Tryz.func23 bd23 (args:=[.pointer (some ⟨b,0,none⟩)]) (S:=S) (C:=[cPlace b x]) (G:=[(_,dC er eb)]) (by kernel_rfl) hP (.cons hC (.nil _ _)) ?_
 refine J_stpx (stp_openbox 0 rfl) fun y hy=>?_
 obtain⟨vb,oa,oc,ia,ic,om,im⟩:=y
 refine Nm [cObj b (.cells #[.pointer (sA vb 0),nI (↑x.id:Int),nI (↑x.places:Int),nI (↑x.shards:Int),nI x.clock,.slice (PlBx.mk vb oa oc ia ic om im).oa x.places oc,.slice (PlBx.mk vb oa oc ia ic om im).ia x.places ic] 124 (0,0)),(cVer (PlBx.mk vb oa oc ia ic om im).vb x.places x.base x.L),(cSnds (PlBx.mk vb oa oc ia ic om im).om.flatten x.ss),(cRcvs (PlBx.mk vb oa oc ia ic om im).im.flatten x.rs)] ?_
 refine J_show 0 rfl ?_
 refine J_stp (stp_accm eMsg 62 9) ?_
 refine Nm [(cVer (PlBx.mk vb oa oc ia ic om im).vb x.places x.base x.L),(cSnds (PlBx.mk vb oa oc ia ic om im).om.flatten x.ss),(cRcvs (PlBx.mk vb oa oc ia ic om im).im.flatten x.rs),cAcc (.slice none 0 0) 62 9 (List.map eMsg [])] ?_
 have hp6:=hx.p6
 have hs6:=hx.s6
 obtain⟨hsl,hs36⟩:=hx.ssl
 have hol:=hy.om.flen
 have hoe:om.flatten.length=x.ss.length:=by rw[hsl];exact hol
 try simp only[aQ]
 refine Zs [zR 0] [] [zS 2 none 0 0] ?_
 refine Zs [zR 0] [] [zS 3 none 0 0] ?_
 refine J_seq ?_
 refine jS [(0,true),(1,true),(2,true),(3,true),(4,false),(5,true),(6,true)] [] ?_
 refine Ya (Rds 0 3++[.rd 3 [.o 0 none] 0 0]) [] [zS 11 oa x.places oc] ?_
 refine Yc 89 #[.slice oa x.places oc] (some 12) fun w S hG=>?_
 refine(concatS (om:=om) (hG.at 1 rfl) hp6 (by omega)).mono ?_
 rintro e1 w1 ⟨ua,uc,hR⟩
 refine⟨_,_,_,hR,?_⟩
 try simp only[aQ]
 refine Ya [zR 5,zR 6] [11] [zI 13 (↑om.flatten.length:Int),zI 14 0] ?_
 refine JR_end (J_block ?_)
 refine J_stp (stp_freeze 4 rfl) ?_
 refine Nm [(cVer vb x.places x.base x.L),(cSnds om.flatten x.ss),(cRcvs im.flatten x.rs),cAcc (.slice none 0 0) 62 9 (List.map eMsg [])] ?_
 refine J_loopx (fun z:AccI=>[zP 0 b,zS 2 none 0 0,zS 3 z.a z.k z.c,zS 12 ua om.flatten.length uc,zI 13 (↑om.flatten.length:Int),zI 14 z.i]) (fun z:AccI=>[(b,.cells #[.pointer (sA vb 0),nI (↑x.id:Int),nI (↑x.places:Int),nI (↑x.shards:Int),nI x.clock,.slice oa x.places oc,.slice ia x.places ic] 124 (0,0))]) (fun z:AccI=>[cVer vb x.places x.base x.L,cSnds om.flatten (bsAt x z.i.toNat),cRcvs im.flatten x.rs,cAcc (.slice z.a z.k z.c) 62 9 ((bmAt x z.i.toNat).map eMsg)]) (fun z:AccI=>[(.nilIface,(dC er eb)),(.slice oa x.places oc,(dRows om)),(.slice ia x.places ic,(dRows im)),(.slice ua om.flatten.length uc,(D.sl 1 (List.map eP om.flatten)))]) (fun z:AccI=>(om.flatten.length - z.i).toNat) (fun z:AccI=>(0≤z.i∧z.i≤om.flatten.length)) ⟨0,none,0,0⟩ [0,2,3,12,13,14] [0] [0,1,2,3] [0,1,2,3] ?_ (by kernel_rfl) rfl rfl rfl ?_
 ·exact⟨by simp,by simp⟩
 rintro⟨j,av,k,cv⟩ ⟨hj0,hj⟩
 dsimp only at hj0 hj ⊢
 refine J_stpx (stp_acclen 3 rfl) fun _ hk=>?_
 have hk2:k≤36:=by simp[bmAt]at hk;omega
 refine Zs [zR 0] [] [zB 15 (decide (j<(↑om.flatten.length:Int)))] ?_
 refine J_seq ?_
 refine cC (t:=decide (j<(↑om.flatten.length:Int))) (fun hlt=>?_) (fun hlt=>?_)
 ·have hlt2:j<om.flatten.length:=by simpa using hlt
  obtain⟨bb,hbb⟩:∃bb,om.flatten[j.toNat]?=some bb:=⟨_,List.getElem?_eq_getElem (by omega)⟩
  obtain⟨y0,hy0⟩:∃y0,x.ss[j.toNat]?=some y0:=⟨_,List.getElem?_eq_getElem (by omega)⟩
  have hsy:=hx.snd y0 (List.mem_of_getElem? hy0)
  refine J_read0 3 rfl j.toNat (map_at hbb) (by kernel_rfl) (fun b1 off1 cs1 ty1 fz1 ha1 hrd1=>?_)
  cases ha1
  have hrd1_0:=rd0 (hrd1 0 _ rfl)
  refine Nm [(cVer vb x.places x.base x.L),(cSnds om.flatten (bsAt x j.toNat)),(cRcvs im.flatten x.rs),cAcc (.slice av k cv) 62 9 (List.map eMsg (bmAt x j.toNat))] ?_
  try simp only[aQ]
  refine J_skip (J_seq (J_block ?_))
  refine Zt [.rd 0 [] 0 2,.rd 1 [.r 0 (some (.pointer (sA bb 0)))] 0 0,zR 2] [15] [zP 5 bb] (oC hj0 (oC hlt2 (oC hrd1_0 oN))) ?_
  refine jS [(0,true),(1,true),(2,true),(3,true),(4,true),(5,false),(6,true),(7,true),(8,true),(9,false),(10,false),(11,true)] [] ?_
  refine Ya (Rds 0 4++[.rd 4 [.o 0 none] 0 0]) [] [zP 19 bb,zI 23 x.clock] ?_
  refine JR_call [] [1] 90 #[.pointer (some (⟨bb,0,none⟩)),.int .i64 x.clock] (some 24) (by kernel_rfl) (by kernel_rfl) (by decide) (fun w S M hP hG _=>?_)
  refine(sndBeat (time:=x.clock) (hG.at 0 rfl) hP hbb (bsAt_at hy0) hsy.2.2.1 (by omega) (by omega) (beatErr_clk hx (List.mem_of_getElem? hy0))).mono ?_
  rintro e2 w2 ⟨u1,d1,u2,d2,hR⟩
  have hj1:j.toNat+1=(j+1).toNat:=by omega
  rw[bsAt_succ hy0,hj1]at hR
  refine⟨_,_,_,hR,?_⟩
  try simp only[aQ]
  refine Ym (Rds 6 9++[.wr 9 [] 0,.wr 10 (hnO 1 9) 0,zR 11]) [24,19,23] (fun nu1=>[zP 6 (nu1 0)]) o0 (fun nu1=>[(nu1 0,.cells #[nI ((SndT.beatM y0 x.clock).fm),nI ((SndT.beatM y0 x.clock).to),nI ((SndT.beatM y0 x.clock).shard),nI ((SndT.beatM y0 x.clock).seq),nI ((SndT.beatM y0 x.clock).time),.bool true,.slice u1 0 d1,nI ((SndT.beatM y0 x.clock).c.place),.slice u2 0 d2] 62 (0,0))]) [] (fun nu1=>?_)
  try simp only[aQ]
  refine JR_end ?_
  try simp only[aQ]
  refine jT [(0,true),(1,true),(2,false),(3,false),(4,true)] [] ?_
  refine Ym [zR 0,.rd 1 (hnO 1 9) 0 0,.wr 2 [] 0] [] (fun nu2=>[zS 27 av k cv,zS 29 (sA (nu2 0) 0) 1 1]) o0 (fun nu2=>[(nu2 0,.cells #[nI ((SndT.beatM y0 x.clock).fm),nI ((SndT.beatM y0 x.clock).to),nI ((SndT.beatM y0 x.clock).shard),nI ((SndT.beatM y0 x.clock).seq),nI ((SndT.beatM y0 x.clock).time),.bool true,.slice u1 0 d1,nI ((SndT.beatM y0 x.clock).c.place),.slice u2 0 d2] 62 (0,0))]) [] (fun nu2=>?_)
  refine JN [(cVer vb x.places x.base x.L),(cRcvs im.flatten x.rs),cAcc (.slice av k cv) 62 9 (List.map eMsg (bmAt x j.toNat)),(cSnds om.flatten (bsAt x (j+1).toNat))] ?_
  refine JR_appm 2 56 62 9 104 (.agg #[.int .i64 0,.int .i64 0,.int .i64 0,.int .i64 0,.int .i64 0,.bool false,.slice none 0 0,.int .i64 0,.slice none 0 0]) (a0:=av) (len:=k) (cap0:=cv) (ax:=(some (⟨nu2 0,0,none⟩))) (m:=1) (c:=1) (dst:=(some 30)) [(SndT.beatM y0 x.clock)] (by kernel_rfl) (by kernel_rfl) (by kernel_rfl) (by kernel_rfl) rfl (by decide) rfl (fun _ _ _ s=>src_one s 2 rfl rfl ⟨.inl ⟨rfl,rfl⟩,⟨.inl ⟨rfl,rfl⟩,⟨.inl ⟨rfl,rfl⟩,⟨.inl ⟨rfl,rfl⟩,⟨.inl ⟨rfl,rfl⟩,⟨.inl ⟨rfl,rfl⟩,⟨.inr (.inl (List.mem_of_getElem? (i:=4) rfl)),⟨.inl ⟨rfl,rfl⟩,⟨.inr (.inl (List.mem_of_getElem? (i:=5) rfl)),trivial⟩⟩⟩⟩⟩⟩⟩⟩⟩) (by simp only[maxLen];omega) (by omega) (fun av1 cv1=>?_)
  rw[bmAt_succ hy0,hj1]
  refine JN [(cVer vb x.places x.base x.L),(cRcvs im.flatten x.rs),(cSnds om.flatten (bsAt x (j+1).toNat)),cAcc (.slice av1 (k+1) cv1) 62 9 (List.map eMsg (bmAt x (j+1).toNat))] ?_
  try simp only[aQ]
  refine Ya [zR 4] [30,27,29] [zS 3 av1 (k+1) cv1] ?_
  refine JR_end (J_eb ?_)
  refine Zp [.rd 0 [] 0 1,zR 1] [] [zI 14 (j+1)] (oC (show IntKind.i64.wrap (j+1)=j+1 from wrap_i64 (by omega) (by omega)) oN) ?_
  refine J_backx ⟨j+1,_,k+1,_⟩ [0,2,3,12,13,14] [0] [0,2,1,3] [0,1,2,3] ?_ ?_ (by kernel_rfl) rfl rfl rfl
  ·exact⟨by simp only;omega,by simp only;omega⟩
  ·simp only
   omega
 ·have hje:j.toNat=x.ss.length:=by have:=of_decide_eq_false hlt;omega
  rw[hje,bmAt_end x (Nat.le_refl _),List.length_map]at hk
  subst hk
  rw[hje,bsAt_end x (Nat.le_refl _),bmAt_end x (Nat.le_refl _)]
  refine J_exit rfl ?_
  refine Zs [zR 0,zR 1] [15,0,3,12,13,14] [zS 2 av ((beatMs x).length) cv] ?_
  refine Yr [[]] (.slice av ((beatMs x).length) cv) fun a w s=>?_
  have s2:=((s.stp (stp_freeze 3 rfl)).hide 0 rfl).stp (stp_closePl (x:=beatPl x) ⟨vb,oa,oc,ia,ic,om,im⟩ [3,0,1,2] 1 2 rfl rfl rfl ⟨hy.om,hy.im⟩)
  exact⟨_,_,s2.ret (by simp) [0] [4] rfl rfl⟩
set_option maxHeartbeats 4000000 in
theorem placeAgain {w:World} {S:Nat→Prop} {M:List Nat} {x:PlT} {b n:Nat} (hP:Pre w S M [cPlace b x]) (hx:PlIn x n) (hn:n<600) :
  Calls Tryz.prog 29 #[.pointer (some ⟨b,0,none⟩)] w fun e w'=>∃ua uc,
   Ret M w S w' e (.slice ua (againMs x).length uc) [cPlace b x] [(.slice ua (againMs x).length uc,.sl 9 ((againMs x).map eMsg))]:=by
 refine enG Tryz.func29 bd29 (args:=[.pointer (some ⟨b,0,none⟩)]) (S:=S) (C:=[cPlace b x]) (G:=[]) (by kernel_rfl) hP (.nil _ _) ?_
 refine J_stpx (stp_openbox 0 rfl) fun y hy=>?_
 obtain⟨vb,oa,oc,ia,ic,om,im⟩:=y
 refine Nm [cObj b (.cells #[.pointer (sA vb 0),nI (↑x.id:Int),nI (↑x.places:Int),nI (↑x.shards:Int),nI x.clock,.slice (PlBx.mk vb oa oc ia ic om im).oa x.places oc,.slice (PlBx.mk vb oa oc ia ic om im).ia x.places ic] 124 (0,0)),(cVer (PlBx.mk vb oa oc ia ic om im).vb x.places x.base x.L),(cSnds (PlBx.mk vb oa oc ia ic om im).om.flatten x.ss),(cRcvs (PlBx.mk vb oa oc ia ic om im).im.flatten x.rs)] ?_
 refine J_show 0 rfl ?_
 refine J_stp (stp_accm eMsg 62 9) ?_
 refine Nm [(cVer (PlBx.mk vb oa oc ia ic om im).vb x.places x.base x.L),(cSnds (PlBx.mk vb oa oc ia ic om im).om.flatten x.ss),(cRcvs (PlBx.mk vb oa oc ia ic om im).im.flatten x.rs),cAcc (.slice none 0 0) 62 9 (List.map eMsg [])] ?_
 have hp6:=hx.p6
 have hs6:=hx.s6
 obtain⟨hsl,hs36⟩:=hx.ssl
 have hol:=hy.om.flen
 have hoe:om.flatten.length=x.ss.length:=by rw[hsl];exact hol
 try simp only[aQ]
 refine Zs [zR 0] [] [zS 2 none 0 0] ?_
 refine Zs [zR 0] [] [zS 3 none 0 0] ?_
 refine J_seq ?_
 refine jS [(0,true),(1,true),(2,true),(3,true),(4,false),(5,true),(6,true)] [] ?_
 refine Ya (Rds 0 3++[.rd 3 [.o 0 none] 0 0]) [0] [zS 9 oa x.places oc] ?_
 refine Yc 89 #[.slice oa x.places oc] (some 10) fun w S hG=>?_
 refine(concatS (om:=om) (hG.at 0 rfl) hp6 (by omega)).mono ?_
 rintro e1 w1 ⟨ua,uc,hR⟩
 refine⟨_,_,_,hR,?_⟩
 try simp only[aQ]
 refine Ya [zR 5,zR 6] [9] [zI 11 (↑om.flatten.length:Int),zI 12 0] ?_
 refine JR_end (J_block ?_)
 refine J_stp (stp_freeze 4 rfl) ?_
 refine Nm [(cVer vb x.places x.base x.L),(cSnds om.flatten x.ss),(cRcvs im.flatten x.rs),cAcc (.slice none 0 0) 62 9 (List.map eMsg [])] ?_
 refine J_loopx (fun z:AccI=>[zS 2 none 0 0,zS 3 z.a z.k z.c,zS 10 ua om.flatten.length uc,zI 11 (↑om.flatten.length:Int),zI 12 z.i]) (fun z:AccI=>[(b,.cells #[.pointer (sA vb 0),nI (↑x.id:Int),nI (↑x.places:Int),nI (↑x.shards:Int),nI x.clock,.slice oa x.places oc,.slice ia x.places ic] 124 (0,0))]) (fun z:AccI=>[cVer vb x.places x.base x.L,cSnds om.flatten x.ss,cRcvs im.flatten x.rs,cAcc (.slice z.a z.k z.c) 62 9 ((amAt x z.i.toNat).map eMsg)]) (fun z:AccI=>[(.slice oa x.places oc,(dRows om)),(.slice ia x.places ic,(dRows im)),(.slice ua om.flatten.length uc,(D.sl 1 (List.map eP om.flatten)))]) (fun z:AccI=>(om.flatten.length - z.i).toNat) (fun z:AccI=>(0≤z.i∧z.i≤om.flatten.length)) ⟨0,none,0,0⟩ [2,3,10,11,12] [0] [0,1,2,3] [0,1,2] ?_ (by kernel_rfl) rfl rfl rfl ?_
 ·exact⟨by simp,by simp⟩
 rintro⟨j,av,k,cv⟩ ⟨hj0,hj⟩
 dsimp only at hj0 hj ⊢
 refine J_stpx (stp_acclen 3 rfl) fun _ hk=>?_
 have hk2:=amAt_len hx j.toNat
 rw[List.length_map]at hk
 refine Zs [zR 0] [] [zB 13 (decide (j<(↑om.flatten.length:Int)))] ?_
 refine J_seq ?_
 refine cC (t:=decide (j<(↑om.flatten.length:Int))) (fun hlt=>?_) (fun hlt=>?_)
 ·have hlt2:j<om.flatten.length:=by simpa using hlt
  obtain⟨bb,hbb⟩:∃bb,om.flatten[j.toNat]?=some bb:=⟨_,List.getElem?_eq_getElem (by omega)⟩
  obtain⟨y0,hy0⟩:∃y0,x.ss[j.toNat]?=some y0:=⟨_,List.getElem?_eq_getElem (by omega)⟩
  have hsy:=hx.snd y0 (List.mem_of_getElem? hy0)
  refine J_read0 2 rfl j.toNat (map_at hbb) (by kernel_rfl) (fun b1 off1 cs1 ty1 fz1 ha1 hrd1=>?_)
  cases ha1
  have hrd1_0:=rd0 (hrd1 0 _ rfl)
  refine Nm [(cVer vb x.places x.base x.L),(cSnds om.flatten x.ss),(cRcvs im.flatten x.rs),cAcc (.slice av k cv) 62 9 (List.map eMsg (amAt x j.toNat))] ?_
  try simp only[aQ]
  refine J_skip (J_seq (J_block ?_))
  refine Zt [.rd 0 [] 0 2,.rd 1 [.r 0 (some (.pointer (sA bb 0)))] 0 0,zR 2] [13] [zP 5 bb] (oC hj0 (oC hlt2 (oC hrd1_0 oN))) ?_
  refine jT [(0,true),(1,true),(2,false),(3,false),(4,true)] [] ?_
  refine Ya [zR 0,zR 1] [] [zS 16 av k cv,zP 17 bb] ?_
  refine JR_call [] [1] 97 #[.pointer (some (⟨bb,0,none⟩))] (some 18) (by kernel_rfl) (by kernel_rfl) (by decide) (fun w S M hP hG _=>?_)
  refine(sndAgain hP hbb hy0 (by omega) (hx.fit y0 (List.mem_of_getElem? hy0))).mono ?_
  rintro e2 w2 ⟨u1,d1,hR⟩
  refine⟨_,_,_,hR,?_⟩
  try simp only[aQ]
  refine JN [(cVer vb x.places x.base x.L),(cRcvs im.flatten x.rs),cAcc (.slice av k cv) 62 9 (List.map eMsg (amAt x j.toNat)),(cSnds om.flatten x.ss)] ?_
  refine JR_appm 2 56 62 9 104 (.agg #[.int .i64 0,.int .i64 0,.int .i64 0,.int .i64 0,.int .i64 0,.bool false,.slice none 0 0,.int .i64 0,.slice none 0 0]) (a0:=av) (len:=k) (cap0:=cv) (ax:=u1) (m:=y0.l.length) (c:=d1) (dst:=(some 19)) y0.l (by kernel_rfl) (by kernel_rfl) (by kernel_rfl) (by kernel_rfl) rfl (by decide) rfl (fun _ _ _ s=>src_fact s 3 rfl (by decide)) (by simp only[maxLen];omega) (by omega) (fun av1 cv1=>?_)
  have hj1:j.toNat+1=(j+1).toNat:=by omega
  rw[amAt_succ hy0,hj1]
  refine JN [(cVer vb x.places x.base x.L),(cRcvs im.flatten x.rs),(cSnds om.flatten x.ss),cAcc (.slice av1 (k+y0.l.length) cv1) 62 9 (List.map eMsg (amAt x (j+1).toNat))] ?_
  try simp only[aQ]
  refine Ya [zR 4] [19,18,16,17] [zS 3 av1 (k+y0.l.length) cv1] ?_
  refine JR_end (J_eb ?_)
  refine Zp [.rd 0 [] 0 1,zR 1] [] [zI 12 (j+1)] (oC (show IntKind.i64.wrap (j+1)=j+1 from wrap_i64 (by omega) (by omega)) oN) ?_
  refine J_backx ⟨j+1,_,k+y0.l.length,_⟩ [2,3,10,11,12] [0] [0,2,1,3] [0,1,2] ?_ ?_ (by kernel_rfl) rfl rfl rfl
  ·exact⟨by simp only;omega,by simp only;omega⟩
  ·simp only
   omega
 ·have hje:j.toNat=x.ss.length:=by have:=of_decide_eq_false hlt;omega
  rw[hje,amAt_end x (Nat.le_refl _)]at hk
  subst hk
  rw[hje,amAt_end x (Nat.le_refl _)]
  refine J_exit rfl ?_
  refine Zs [zR 0,zR 1] [13,3,10,11,12] [zS 2 av ((againMs x).length) cv] ?_
  refine Yr [[]] (.slice av ((againMs x).length) cv) fun a w s=>?_
  have s2:=((s.stp (stp_freeze 3 rfl)).hide 0 rfl).stp (stp_closePl (x:=x) ⟨vb,oa,oc,ia,ic,om,im⟩ [3,0,1,2] 0 1 rfl rfl rfl hy)
  exact⟨_,_,s2.ret (by simp) [0] [3] rfl rfl⟩
end Go.Proofs.YtmkapocibaojdaaGreatDoor
end
section
namespace Go.Proofs.YtmkapocibaojdaaGreatDoor
open Go Go.Sx
abbrev comZ:Value:=.agg #[.slice none 0 0,.int .i64 0,.slice none 0 0]
set_option maxHeartbeats 4000000 in
theorem placeCommitA {w:World} {S:Nat→Prop} {M:List Nat} {er:Nat→Addr} {eb:Nat→Array Value×TypeId} {x:PlT} {b n n1 c1 n2 c2:Nat} {a1 a2:Option Addr} {at':List Int} {ops:List OpT} (hC:Rep w S .nilIface (dC er eb)) (hP:Pre w S M [cPlace b x]) (hx:PlIn x n) (hn:n<600) (h1:Rep w S (.slice a1 n1 c1) (dInts at')) (h2:Rep w S (.slice a2 n2 c2) (.sl 7 (ops.map eOp))) (hl1:at'.length≤1000000) (hl2:ops.length≤1000000) (hl3:∀o∈ops,o.dots.length≤1000000) :
  Calls Tryz.prog 22 #[.pointer (some ⟨b,0,none⟩),.slice a1 n1 c1,.slice a2 n2 c2] w fun e w'=>
   ((comErr x at' ops).code≠0∧∃v G',Ret M w S w' e (.tuple #[comZ,.slice none 0 0,v]) [cPlace b x] G'∧FErrV er (comErr x at' ops) v G') ∨
   ((comErr x at' ops).code=0∧∃u1 m1 d1 u2 m2 d2 u3 m3 d3,Ret M w S w' e (.tuple #[.agg #[.slice u1 m1 d1,.int .i64 x.id,.slice u2 m2 d2],.slice u3 m3 d3,.nilIface]) [cAcc (.slice u3 m3 d3) 62 9 ((comMs x (comP x at' ops)).map eMsg),cPlace b (comPl x (comP x at' ops))]
    [(.slice u1 m1 d1,dInts (comP x at' ops).when),(.slice u2 m2 d2,.sl 7 ((comP x at' ops).ops.map eOp))]):=by
 obtain rfl:=rep_ints_len h1
 have e2:=h2.slen
 rw[List.length_map]at e2
 subst e2
 refine enG Tryz.func22 bd22 (args:=[.pointer (some ⟨b,0,none⟩),.slice a1 at'.length c1,.slice a2 ops.length c2]) (S:=S) (C:=[cPlace b x]) (G:=[(_,dC er eb),(_,dInts at'),(_,.sl 7 (ops.map eOp))]) (by kernel_rfl) hP (.cons hC (.cons h1 (.cons h2 (.nil _ _)))) ?_
 refine J_stpx (stp_openbox 0 rfl) fun y hy=>?_
 obtain⟨vb,oa,oc,ia,ic,om,im⟩:=y
 refine J_stp (stp_all 0 [1] rfl rfl) ?_
 refine J_glob 5 rfl (fun csg1 tyg1 fzg1 hglob1=>?_)
 refine Nm [cObj b (.cells #[.pointer (sA vb 0),nI (↑x.id:Int),nI (↑x.places:Int),nI (↑x.shards:Int),nI x.clock,.slice (PlBx.mk vb oa oc ia ic om im).oa x.places oc,.slice (PlBx.mk vb oa oc ia ic om im).ia x.places ic] 124 (0,0)),(cVer (PlBx.mk vb oa oc ia ic om im).vb x.places x.base x.L),(cSnds (PlBx.mk vb oa oc ia ic om im).om.flatten x.ss),(cRcvs (PlBx.mk vb oa oc ia ic om im).im.flatten x.rs)] ?_
 try simp only[aQ]
 refine Zv [.wr 0 [] 0,zR 1,zR 2] [] [] (fun nu1=>[zP 6 (nu1 0),zS 7 none 0 0,zV 8 .nilIface]) o0 (fun nu1=>[(nu1 0,.cells #[.slice none 0 0,nI 0,.slice none 0 0] 35 (0,0))]) (fun nu1=>?_)
 refine J_seq ?_
 refine jS [(0,true),(1,true),(2,false),(3,true)] [] ?_
 refine Ya [zR 0,zR 1] [] [zP 23 b,zS 24 a1 at'.length c1] ?_
 refine JR_call [] [0,3] 83 #[.pointer (some (⟨b,0,none⟩)),.slice a1 at'.length c1] (some 25) (by kernel_rfl) (by kernel_rfl) (by decide) (fun w S M hP hG _=>?_)
 refine(pKnown (hG.at 0 rfl) hP (hG.at 4 rfl) (hG.at 1 rfl) hy.im hx.toPlOk hl1).mono ?_
 rintro e1 w1 ⟨v,hR,hv⟩
 refine⟨_,_,_,hR,?_⟩
 obtain⟨hk0,rfl⟩|⟨hk0,rfl⟩:=hv
 case inr=>
  have hae:comErr x at' ops=⟨knownErr x at',-1⟩:=by rw[comErr,if_pos hk0]
  rw[hae]
  try simp only[aQ]
  refine Ya [zR 3] [25,23,24] [zV 9 (.iface 390 (.pointer (some (er (knownErr x at')))))] ?_
  try simp only[aQ]
  refine JR_end ?_
  try simp only[aQ]
  refine J_seq ?_
  try simp only[aQ]
  refine Za [zR 0,zR 1] [] [zB 27 true] ?_
  try simp only[aQ]
  refine cTt ?_
  try simp only[aQ]
  refine J_seq ?_
  try simp only[aQ]
  refine Zm [zR 0,zR 1,.wr 2 (hnO 0 3) 0,zR 3,zR 4] [(2,[0])] [27,9] (fun _=>[zV 8 (.iface 390 (.pointer (some (er (knownErr x at')))))]) o0 o0 (fun _=>?_)
  try simp only[aQ]
  refine Yr [(hnO 0 3),[],[]] (.tuple #[.agg #[.slice none 0 0,nI 0,.slice none 0 0],.slice none 0 0,.iface 390 (.pointer (some (er (knownErr x at'))))]) fun a w s=>?_
  have s2:=s.stp (stp_closePl (x:=x) ⟨vb,oa,oc,ia,ic,om,im⟩ [2,0,1,3] 3 4 rfl rfl rfl hy)
  exact .inl ⟨hk0,_,_,s2.ret (by simp) [0] [] rfl rfl,.inl ⟨rfl,.inr ⟨hk0,rfl⟩,rfl⟩⟩
 try simp only[aQ]
 refine Ya [zR 3] [25,23,24] [zV 9 .nilIface] ?_
 try simp only[aQ]
 refine JR_end ?_
 try simp only[aQ]
 refine J_seq ?_
 try simp only[aQ]
 refine Za [zR 0,zR 1] [] [zB 27 false] ?_
 try simp only[aQ]
 refine cF ?_
 try simp only[aQ]
 refine J_skip ?_
 try simp only[aQ]
 refine J_seq ?_
 try simp only[aQ]
 refine J_seq ?_
 try simp only[aQ]
 refine Nm [(cVer vb x.places x.base x.L),(cSnds om.flatten x.ss),cObj b (.cells #[.pointer (sA vb 0),nI (↑x.id:Int),nI (↑x.places:Int),nI (↑x.shards:Int),nI x.clock,.slice oa x.places oc,.slice ia x.places ic] 124 (0,0)),(cRcvs im.flatten x.rs)] ?_
 refine J_show 2 rfl ?_
 obtain⟨hv0,hal,hin⟩:=known_len hk0
 have hclk:=hx.clk
 have hc0:=hx.c0
 have hid:=hx.id
 have hcl:¬(x.clock≥1099511627776):=by omega
 have hae:comErr x at' ops=comFault (comP x at' ops):=by rw[comErr,if_neg (by simp[hk0]),if_neg (by omega)]
 refine Zp (Rds 0 3++[.rd 3 [.o 1 none] 0 0,.rd 4 [] 0 7]) [27,9] [zB 34 false] (oC (show decide (x.clock≥(1099511627776:Int))=false from by simp;omega) oN) ?_
 refine cF ?_
 refine J_skip ?_
 refine jS [(0,true),(1,true),(2,true),(3,true),(4,true),(5,true),(6,true),(7,false),(8,false),(9,false)] [] ?_
 refine Ya (Rds 0 4++[.rd 4 [.o 1 none] 0 0,zR 5,zR 6]) [34,1,2] [zV 43 (.agg #[.slice a1 at'.length c1,nI (↑x.id:Int),.slice a2 ops.length c2])] ?_
 refine Yc 84 #[.agg #[.slice a1 at'.length c1,nI (↑x.id:Int),.slice a2 ops.length c2]] (some 44) fun w S hG=>?_
 refine(vOwnC (c:=⟨at',x.id,ops⟩) (hG.at 1 rfl) (hG.at 2 rfl) hl1 hl2 hl3).mono ?_
 rintro e2 w2 ⟨u1,d1,u2,d2,hR⟩
 refine⟨_,_,_,hR,?_⟩
 try simp only[aQ]
 refine Ym [.wr 8 [] 0,.wr 9 (hnO 2 3) 0] [44,43] (fun nu2=>[zP 10 (nu2 0)]) o0 (fun nu2=>[(nu2 0,.cells #[.slice u1 at'.length d1,nI (↑x.id:Int),.slice u2 ops.length d2] 35 (0,0))]) [] (fun nu2=>?_)
 try simp only[aQ]
 refine JR_end ?_
 try simp only[aQ]
 refine J_seq ?_
 try simp only[aQ]
 refine Nm [(cVer vb x.places x.base x.L),(cSnds om.flatten x.ss),(cRcvs im.flatten x.rs),cAcc (.slice u1 at'.length d1) 3 1 (List.map eI at'),cAcc (.slice u2 ops.length d2) 55 7 (List.map eOp ops)] ?_
 refine J_openacc 3 rfl (by intro h0;rw[List.map_eq_nil_iff]at h0;simp[h0]at hal;omega) fun g cur xs hu _ _ hrow=>?_
 subst hu
 have hid2:(x.id:Int)<at'.length:=by omega
 have hid0:(0:Int)≤x.id:=by omega
 have hle:=hrow.le
 rw[List.length_map]at hle
 have hsz:0+(x.id:Int).toNat*1+1≤cur.size:=by rw[hrow.siz];omega
 obtain⟨tt,htt⟩:∃tt,at'[(x.id:Int).toNat]?=some tt:=⟨_,List.getElem?_eq_getElem (by omega)⟩
 try simp only[aQ]
 refine Zn ([zR 0,.rd 1 [.o 2 none] 0 0]++Rds 2 5++[.rd 5 [.o 1 none] 0 0]++Rds 6 9++[.rd 9 [.o 1 none] 0 0,.rd 10 [] 0 1,.rd 11 [] 0 2,.wr 12 [.o 3 (some (nI (x.clock+1)))] 0]) [(12,[3])] [] (fun _=>[]) (fun _=>[(3,.cells (cur.setIfInBounds (0+(↑x.id:Int).toNat*1) (nI (x.clock+1))) 3 (0,0))]) o0 (fun _=>(oC (show IntKind.i64.wrap (x.clock+1)=x.clock+1 from wrap_i64 (by omega) (by omega)) (oC hid0 (oC hid2 (oC (show(nI (x.clock+1)).oneCell'=true from ?_) (oC (show(0:Nat)+(↑x.id:Int).toNat*1<cur.size from by omega) oN)))))) (fun _=>?_)
 ·rfl
 refine J_stp (stp_fact (v:=.int .i64 (x.clock+1)) (d:=dI (x.clock+1)) fun _ _ _=>.v rfl) ?_
 refine J_stp (stp_setrows 4 6 (x.id:Int).toNat 0 rfl hrow.len (map_at htt) (by decide) rfl) ?_
 have hset:(List.map eI at').set (x.id:Int).toNat ((eI tt).set 0 (dI (x.clock+1)))=List.map eI (comP x at' ops).when:=(List.map_set (f:=eI)).symm
 rw[hset]
 have hwl:(comP x at' ops).when.length=at'.length:=by simp[comP]
 try simp only[aQ]
 refine J_seq (J_seq ?_)
 have hrow2:Row (cur.setIfInBounds (0+(x.id:Int).toNat*1) (.int .i64 (x.clock+1))) d1 (List.map eI (comP x at' ops).when).length 1 (xs.set ((x.id:Int).toNat*1+0) (.int .i64 (x.clock+1))):=by
  rw[Nat.zero_add,Nat.add_zero,List.length_map,hwl]
  have:=hrow.set1 ((x.id:Int).toNat*1) (.int .i64 (x.clock+1))
  rwa[List.length_map]at this
 refine J_hide 3 rfl ?_
 refine J_stp (stp_closeacc 5 4 rfl rfl hrow2 (by decide)) ?_
 rw[show(List.map eI (comP x at' ops).when).length=at'.length by rw[List.length_map,hwl]]
 refine J_stp (stp_freeze 4 rfl) ?_
 refine Nm [(cVer vb x.places x.base x.L),(cSnds om.flatten x.ss),(cRcvs im.flatten x.rs),cAcc (.slice u2 ops.length d2) 55 7 (List.map eOp ops)] ?_
 try simp only[aQ]
 refine Za [zR 0,.rd 1 [.o 2 none] 0 0,zR 2,zR 3] [] [zI 59 (↑ops.length:Int),zI 60 0] ?_
 refine J_block ?_
 refine J_loopx (fun i:Int=>[zP 0 b,zP 6 (nu1 0),zS 7 none 0 0,zV 8 .nilIface,zP 10 (nu2 0),zI 59 (↑ops.length:Int),zI 60 i]) (fun i:Int=>[(nu1 0,.cells #[.slice none 0 0,nI 0,.slice none 0 0] 35 (0,0)),(b,.cells #[.pointer (sA vb 0),nI (↑x.id:Int),nI (↑x.places:Int),nI (↑x.shards:Int),nI x.clock,.slice oa x.places oc,.slice ia x.places ic] 124 (0,0)),(nu2 0,.cells #[.slice (sA g 0) at'.length d1,nI (↑x.id:Int),.slice u2 ops.length d2] 35 (0,0))]) (fun i:Int=>[cVer vb x.places x.base x.L,cSnds om.flatten x.ss,cRcvs im.flatten x.rs,cAcc (.slice u2 ops.length d2) 55 7 ((stepNo ops i.toNat).map eOp)]) (fun i:Int=>[(.nilIface,(dC er eb)),(.slice a1 at'.length c1,(dInts at')),(.slice a2 ops.length c2,(D.sl 7 (List.map eOp ops))),(.slice oa x.places oc,(dRows om)),(.slice ia x.places ic,(dRows im)),(.pointer (sA 0 0),(D.ptr [D.v (Value.iface 390 (Value.pointer (some (er 2))))])),(nI (x.clock+1),(dI (x.clock+1))),(.slice (sA g 0) at'.length d1,(D.sl 1 (List.map eI (comP x at' ops).when)))]) (fun i:Int=>(ops.length - i).toNat) (fun i:Int=>(0≤i∧i≤ops.length)) 0 [0,6,7,8,10,59,60] [0,1,2] [0,1,2,3] [0,1,2,3,4,5,6,7] ?_ (by kernel_rfl) rfl rfl rfl ?_
 ·exact⟨by omega,by omega⟩
 rintro i ⟨hi0,hi⟩
 refine Zs [zR 0] [] [zB 61 (decide (i<(↑ops.length:Int)))] ?_
 refine J_seq ?_
 refine cC (t:=decide (i<(↑ops.length:Int))) (fun hlt=>?_) (fun hlt=>?_)
 ·have hlt2:i<ops.length:=by simpa using hlt
  obtain⟨o,ho⟩:∃o,ops[i.toNat]?=some o:=⟨_,List.getElem?_eq_getElem (by omega)⟩
  refine J_openacc 3 rfl (by intro h0;rw[List.map_eq_nil_iff]at h0;have:=stepNo_at ho;rw[h0]at this;simp at this) fun g2 cur2 xs2 hu _ _ hrow3=>?_
  subst hu
  have hnl:((stepNo ops i.toNat).map eOp).length=ops.length:=by rw[List.length_map,stepNo_len (by omega)]
  rw[hnl]at hrow3
  have hle3:=hrow3.le
  have hsz2:0+i.toNat*7+1≤cur2.size:=by rw[hrow3.siz];omega
  try simp only[aQ]
  refine J_skip ?_
  try simp only[aQ]
  refine J_seq ?_
  try simp only[aQ]
  refine J_block ?_
  try simp only[aQ]
  refine J_seq ?_
  try simp only[aQ]
  refine Za [zR 0,zR 1] [61] [zI 11 i] ?_
  try simp only[aQ]
  refine Zn [zR 0,.rd 1 [.o 2 none] 0 0,zR 2,zR 3,.rd 4 [] 0 2,zR 5,.wr 6 [.o 3 (some (nI i))] 0] [(6,[3])] [] (fun _=>[]) (fun _=>[(3,.cells (cur2.setIfInBounds (0+i.toNat*7) (nI i)) 55 (0,0))]) o0 (fun _=>(oC hi0 (oC hlt2 (oC (show(nI i).oneCell'=true from ?_) (oC (show(0:Nat)+i.toNat*7<cur2.size from by omega) oN))))) (fun _=>?_)
  ·rfl
  have hno:({ o with no:=(i.toNat:Int) }:OpT)={ o with no:=i }:=by rw[Int.toNat_of_nonneg hi0]
  have hset3:(List.map eOp (stepNo ops i.toNat)).set i.toNat ((eOp o).set 0 (dI i))=List.map eOp (stepNo ops (i+1).toNat):=by
   rw[show(i+1).toNat=i.toNat+1 by omega,←stepNo_set ho,hno,List.map_set]
   rfl
  have hnl2:((stepNo ops (i+1).toNat).map eOp).length=ops.length:=by rw[List.length_map,stepNo_len (by omega)]
  refine J_stp (stp_fact (v:=.int .i64 i) (d:=dI i) fun _ _ _=>.v rfl) ?_
  refine J_stp (stp_setrows 3 8 i.toNat 0 rfl (by rw[hnl];exact hrow3.len) (map_at (stepNo_at ho)) (by decide) rfl) ?_
  rw[hset3]
  refine J_hide 3 rfl ?_
  have hrow4:Row (cur2.setIfInBounds (0+i.toNat*7) (.int .i64 i)) d2 (List.map eOp (stepNo ops (i+1).toNat)).length 7 (xs2.set (i.toNat*7+0) (.int .i64 i)):=by
   rw[Nat.zero_add,Nat.add_zero,hnl2]
   exact hrow3.set1 _ _
  refine J_stp (stp_closeacc 4 3 rfl rfl hrow4 (by decide)) ?_
  rw[hnl2]
  try simp only[aQ]
  refine J_eb ?_
  try simp only[aQ]
  refine Zp [.rd 0 [] 0 1,zR 1] [] [zI 60 (i+1)] (oC (show IntKind.i64.wrap (i+1)=i+1 from wrap_i64 (by omega) (by omega)) oN) ?_
  try simp only[aQ]
  refine J_backx (i+1) [0,6,7,8,10,59,60] [0,1,2] [0,1,2,3] [0,1,2,3,4,5,6,7] ?_ ?_ (by kernel_rfl) rfl rfl rfl
  ·exact⟨by omega,by omega⟩
  ·omega
 ·have hie:i.toNat=ops.length:=by simp at hlt;omega
  rw[hie,stepNo_end]
  refine J_exit rfl ?_
  refine J_seq (J_seq ?_)
  refine J_stp (stp_freeze 3 rfl) ?_
  refine Nm [(cVer vb x.places x.base x.L),(cSnds om.flatten x.ss),(cRcvs im.flatten x.rs)] ?_
  try simp only[aQ]
  refine jT [(0,true),(1,false),(2,true)] [] ?_
  refine Ya [.rd 0 (hnO 2 3) 0 0] [61,59,60] [zV 70 (.agg #[.slice (sA g 0) at'.length d1,nI (↑x.id:Int),.slice u2 ops.length d2])] ?_
  refine Yc 85 #[.agg #[.slice (sA g 0) at'.length d1,nI (↑x.id:Int),.slice u2 ops.length d2]] (some 71) fun w S hG=>?_
  refine(checkCommit (c:=comP x at' ops) (hG.at 0 rfl) (hG.at 7 rfl) (hG.at 8 rfl) (by rw[hwl];exact hl1) (by rw[comP,renum_len];exact hl2)).mono ?_
  rintro e3 w3 (⟨ha,v,hR,hv⟩|⟨hf1,hf2,pb,hR⟩)
  case inr=>
   refine⟨_,_,_,hR,?_⟩
   have hc0:(comFault (comP x at' ops)).code≠0:=by omega
   rw[hae]
   try simp only[aQ]
   refine Ya [zR 2] [71,70] [zV 12 (.iface 202 (.pointer (sA pb 0)))] ?_
   refine JR_end ?_
   refine Zs [zR 0,zR 1] [] [zB 73 true] ?_
   refine cTt ?_
   refine Zv [zR 0,zR 1,.wr 2 (hnO 0 3) 0,zR 3,zR 4] [(2,[0])] [73,12] (fun _=>[zV 8 (.iface 202 (.pointer (sA pb 0)))]) o0 o0 (fun _=>?_)
   refine Yr [(hnO 0 3),[],[]] (.tuple #[.agg #[.slice none 0 0,nI 0,.slice none 0 0],.slice none 0 0,.iface 202 (.pointer (sA pb 0))]) fun a w s=>?_
   have s2:=(s.hide 1 rfl).stp (stp_closePl (x:=x) ⟨vb,oa,oc,ia,ic,om,im⟩ [3,0,1,2] 3 4 rfl rfl rfl hy)
   exact .inl ⟨hc0,_,_,s2.ret (by simp) [0] [9] rfl rfl,.inr ⟨hf1,hf2,pb,rfl,rfl⟩⟩
  refine⟨_,_,_,hR,?_⟩
  obtain⟨hc0,rfl⟩|⟨hc0,rfl⟩:=hv
  case inr=>
   rw[hae]
   try simp only[aQ]
   refine Ya [zR 2] [71,70] [zV 12 (.iface 390 (.pointer (some (er (comFault (comP x at' ops)).code))))] ?_
   refine JR_end ?_
   refine Zs [zR 0,zR 1] [] [zB 73 true] ?_
   refine cTt ?_
   refine Zv [zR 0,zR 1,.wr 2 (hnO 0 3) 0,zR 3,zR 4] [(2,[0])] [73,12] (fun _=>[zV 8 (.iface 390 (.pointer (some (er (comFault (comP x at' ops)).code))))]) o0 o0 (fun _=>?_)
   refine Yr [(hnO 0 3),[],[]] (.tuple #[.agg #[.slice none 0 0,nI 0,.slice none 0 0],.slice none 0 0,.iface 390 (.pointer (some (er (comFault (comP x at' ops)).code)))]) fun a w s=>?_
   have s2:=(s.hide 1 rfl).stp (stp_closePl (x:=x) ⟨vb,oa,oc,ia,ic,om,im⟩ [3,0,1,2] 3 4 rfl rfl rfl hy)
   exact .inl ⟨hc0,_,_,s2.ret (by simp) [0] [] rfl rfl,.inl ⟨ha,.inr ⟨hc0,rfl⟩,rfl⟩⟩
  have hok:(comErr x at' ops).code=0:=by rw[hae];exact hc0
  have hcp:=comP_put hx hok
  try simp only[aQ]
  refine Ya [zR 2] [71,70] [zV 12 .nilIface] ?_
  refine JR_end ?_
  refine Zs [zR 0,zR 1] [] [zB 73 false] ?_
  refine cF ?_
  refine J_skip (J_seq ?_)
  refine jS [(0,true),(1,true),(2,true),(3,true),(4,true),(5,false),(6,true)] [(5,[])] ?_
  refine Ya (Rds 0 3++[.rd 3 [.o 1 none] 0 0,.rd 4 (hnO 2 3) 0 0]) [73,12] [zP 79 vb,zV 80 (.agg #[.slice (sA g 0) at'.length d1,nI (↑x.id:Int),.slice u2 ops.length d2])] ?_
  refine JR_call [] [0] 86 #[.pointer (some (⟨vb,0,none⟩)),.agg #[.slice (some (⟨g,0,none⟩)) at'.length d1,.int .i64 (↑x.id:Int),.slice u2 ops.length d2]] (some 81) (by kernel_rfl) (by kernel_rfl) (by decide) (fun w S M hP hG _=>?_)
  refine(verPut (c:=comP x at' ops) (hG.at 0 rfl) hP (hx.ver (by omega)) (hG.at 7 rfl) (hG.at 8 rfl) (by rw[hwl];exact hl1) (by rw[comP,renum_len];exact hl2) (renum_dots hl3)).mono ?_
  rintro e4 w4 ⟨v,G',hR,hv⟩
  rw[putFault_ok (putFault_zero.2 hcp)]at hv
  rw[putL,if_pos (putFault_zero.2 hcp)]at hR
  obtain⟨_,⟨_,rfl⟩|⟨h0,_⟩,rfl⟩|⟨h0,_⟩:=hv
  case inl.inr=>exact absurd rfl h0
  case inr=>simp at h0
  refine⟨_,_,_,hR,?_⟩
  try simp only[aQ]
  refine Ya [zR 6] [81,79,80] [zV 13 .nilIface] ?_
  try simp only[aQ]
  refine JR_end ?_
  try simp only[aQ]
  refine J_seq ?_
  try simp only[aQ]
  refine Za [zR 0,zR 1] [] [zB 83 false] ?_
  try simp only[aQ]
  refine cF ?_
  try simp only[aQ]
  refine J_skip ?_
  try simp only[aQ]
  refine J_seq ?_
  try simp only[aQ]
  refine Zn (Rds 0 3++[.rd 3 [.o 1 none] 0 0,.rd 4 [] 0 1,zR 5,zR 6,.wr 7 [.o 1 none] 0]) [(7,[1])] [83,13] (fun _=>[]) (fun _=>[(1,.cells #[.pointer (sA vb 0),nI (↑x.id:Int),nI (↑x.places:Int),nI (↑x.shards:Int),nI (x.clock+1),.slice oa x.places oc,.slice ia x.places ic] 124 (0,0))]) o0 (fun _=>(oC (show IntKind.i64.wrap (x.clock+1)=x.clock+1 from wrap_i64 (by omega) (by omega)) oN)) (fun _=>?_)
  try simp only[aQ]
  refine J_seq ?_
  try simp only[aQ]
  refine Za [zR 0] [] [zS 14 none 0 0] ?_
  try simp only[aQ]
  refine J_seq ?_
  try simp only[aQ]
  refine J_seq ?_
  try simp only[aQ]
  obtain⟨hsl,hs36⟩:=hx.ssl
  have hp6:=hx.p6
  have hs6:=hx.s6
  rw[show cSnds om.flatten x.ss=cSnds om.flatten (ssAt x (comP x at' ops) (posP x.id x.shards (0:Int).toNat))by rw[Int.toNat_zero,posP_zero,ssAt_zero]]
  refine J_stp (stp_accm eMsg 62 9) ?_
  refine Nm [(cSnds om.flatten (ssAt x (comP x at' ops) (posP x.id x.shards (Int.toNat 0)))),(cRcvs im.flatten x.rs),(cVer vb x.places x.base (x.L++putsOf (comP x at' ops) (comP x at' ops).ops)),cAcc (.slice none 0 0) 62 9 (List.map eMsg [])] ?_
  refine Za (Rds 0 3++[.rd 3 [.o 1 none] 0 0,zR 4,zR 5]) [] [zS 96 oa x.places oc,zI 97 (↑x.places:Int),zI 98 0] ?_
  refine J_block ?_
  refine J_loopx (fun z:AccI=>[zP 0 b,zP 6 (nu1 0),zS 7 none 0 0,zV 8 .nilIface,zP 10 (nu2 0),zS 14 z.a z.k z.c,zS 96 oa x.places oc,zI 97 (↑x.places:Int),zI 98 z.i]) (fun z:AccI=>[(nu1 0,.cells #[.slice none 0 0,nI 0,.slice none 0 0] 35 (0,0)),(b,.cells #[.pointer (sA vb 0),nI (↑x.id:Int),nI (↑x.places:Int),nI (↑x.shards:Int),nI (x.clock+1),.slice oa x.places oc,.slice ia x.places ic] 124 (0,0)),(nu2 0,.cells #[.slice (sA g 0) at'.length d1,nI (↑x.id:Int),.slice u2 ops.length d2] 35 (0,0))]) (fun z:AccI=>[cSnds om.flatten (ssAt x (comP x at' ops) (posP x.id x.shards z.i.toNat)),cRcvs im.flatten x.rs,cVer vb x.places x.base (x.L++putsOf (comP x at' ops) (comP x at' ops).ops),cAcc (.slice z.a z.k z.c) 62 9 ((msAt x (comP x at' ops) (posP x.id x.shards z.i.toNat)).map eMsg)]) (fun z:AccI=>[(.nilIface,(dC er eb)),(.slice a1 at'.length c1,(dInts at')),(.slice a2 ops.length c2,(D.sl 7 (List.map eOp ops))),(.slice oa x.places oc,(dRows om)),(.slice ia x.places ic,(dRows im)),(.pointer (sA 0 0),(D.ptr [D.v (Value.iface 390 (Value.pointer (some (er 2))))])),(nI (x.clock+1),(dI (x.clock+1))),(.slice (sA g 0) at'.length d1,(D.sl 1 (List.map eI (comP x at' ops).when))),(.slice u2 ops.length d2,(D.sl 7 (List.map eOp (renum ops))))]) (fun z:AccI=>(x.places - z.i).toNat) (fun z:AccI=>(0≤z.i∧z.i≤x.places)) ⟨0,none,0,0⟩ [0,6,7,8,10,14,96,97,98] [0,1,2] [0,1,2,3] [0,1,2,3,4,5,6,7,8] ?_ (by kernel_rfl) rfl rfl rfl ?_
  ·exact⟨by simp,by simp⟩
  rintro⟨k,av,m,cv⟩ ⟨hk0',hk1⟩
  dsimp only at hk0' hk1 ⊢
  refine Zs [zR 0] [] [zB 99 (decide (k<(↑x.places:Int)))] ?_
  refine J_seq ?_
  refine cC (t:=decide (k<(↑x.places:Int))) (fun hlk=>?_) (fun hlk=>?_)
  ·have hlk2:k<x.places:=by simpa using hlk
   obtain⟨r,hr⟩:∃r,om[k.toNat]?=some r:=⟨_,List.getElem?_eq_getElem (by rw[hy.om.len];show k.toNat<x.places;omega)⟩
   have hrl:=hy.om.row hr
   refine J_read1 3 rfl k.toNat (map_at hr) (by kernel_rfl) (fun b1 off1 cs1 ty1 fz1 a1_0 c1_0 ha1 hrd1=>?_)
   cases ha1
   have hrd1_0:=rd0 (hrd1 0 _ rfl)
   try simp only[aQ]
   refine J_skip (J_seq (J_block ?_))
   refine Zt [.rd 0 [] 0 2,.rd 1 [.r 1 (some (.slice (a1_0,c1_0).fst ((List.map eP r).length) c1_0))] 0 0,zR 2] [99] [zS 16 (a1_0,c1_0).fst ((List.map eP r).length) c1_0] (oC hk0' (oC hlk2 (oC hrd1_0 oN))) ?_
   refine Zs (Rds 0 3) [] [zS 102 (a1_0,c1_0).fst ((List.map eP r).length) c1_0,zI 103 ((↑(List.map eP r).length:Int)),zI 104 0] ?_
   refine J_block ?_
   have hrn:(List.map eP r).length=r.length:=List.length_map ..
   rw[hrn]
   refine J_loopx (fun z:AccI=>[zP 0 b,zP 6 (nu1 0),zS 7 none 0 0,zV 8 .nilIface,zP 10 (nu2 0),zS 14 z.a z.k z.c,zS 16 (a1_0,c1_0).fst r.length c1_0,zS 96 (sA b1 off1) x.places oc,zI 97 (↑x.places:Int),zI 98 k,zS 102 (a1_0,c1_0).fst r.length c1_0,zI 103 (↑r.length:Int),zI 104 z.i]) (fun z:AccI=>[(nu1 0,.cells #[.slice none 0 0,nI 0,.slice none 0 0] 35 (0,0)),(b,.cells #[.pointer (sA vb 0),nI (↑x.id:Int),nI (↑x.places:Int),nI (↑x.shards:Int),nI (x.clock+1),.slice (sA b1 off1) x.places oc,.slice ia x.places ic] 124 (0,0)),(nu2 0,.cells #[.slice (sA g 0) at'.length d1,nI (↑x.id:Int),.slice u2 ops.length d2] 35 (0,0))]) (fun z:AccI=>[cSnds om.flatten (ssAt x (comP x at' ops) (posP x.id x.shards k.toNat+z.i.toNat)),cRcvs im.flatten x.rs,cVer vb x.places x.base (x.L++putsOf (comP x at' ops) (comP x at' ops).ops),cAcc (.slice z.a z.k z.c) 62 9 ((msAt x (comP x at' ops) (posP x.id x.shards k.toNat+z.i.toNat)).map eMsg)]) (fun z:AccI=>[(.nilIface,(dC er eb)),(.slice a1 at'.length c1,(dInts at')),(.slice a2 ops.length c2,(D.sl 7 (List.map eOp ops))),(.slice (sA b1 off1) x.places oc,(dRows om)),(.slice ia x.places ic,(dRows im)),(.pointer (sA 0 0),(D.ptr [D.v (Value.iface 390 (Value.pointer (some (er 2))))])),(nI (x.clock+1),(dI (x.clock+1))),(.slice (sA g 0) at'.length d1,(D.sl 1 (List.map eI (comP x at' ops).when))),(.slice u2 ops.length d2,(D.sl 7 (List.map eOp (renum ops)))),(.slice (a1_0,c1_0).fst ((List.map eP r).length) c1_0,(D.sl 1 (List.map eP r)))]) (fun z:AccI=>(r.length - z.i).toNat) (fun z:AccI=>(0≤z.i∧z.i≤r.length)) ⟨0,av,m,cv⟩ [0,6,7,8,10,14,16,96,97,98,102,103,104] [0,1,2] [0,1,2,3] [0,1,2,3,4,5,6,7,8,9] ?_ (by kernel_rfl) rfl rfl rfl ?_
   ·exact⟨by simp,by simp⟩
   rintro⟨i,av2,m2,cv2⟩ ⟨hi0,hi⟩
   dsimp only at hi0 hi ⊢
   refine J_stpx (stp_acclen 3 rfl) fun _ hm2=>?_
   have hm3:=msAt_len x (comP x at' ops) (posP x.id x.shards k.toNat+i.toNat)
   rw[List.length_map]at hm2
   refine Zs [zR 0] [] [zB 105 (decide (i<(↑r.length:Int)))] ?_
   refine J_seq ?_
   refine cC (t:=decide (i<(↑r.length:Int))) (fun hli=>?_) (fun hli=>?_)
   ·have hli2:i<r.length:=by simpa using hli
    obtain⟨bb,hbb⟩:∃bb,r[i.toNat]?=some bb:=⟨_,List.getElem?_eq_getElem (by omega)⟩
    have hne:k.toNat≠x.id:=by
     intro h0
     rw[if_pos h0]at hrl
     omega
    rw[if_neg hne]at hrl
    have hbf:=hy.om.at hr hbb
    obtain⟨y0,hy0⟩:∃y0,x.ss[posP x.id x.shards k.toNat+i.toNat]?=some y0:=by
     have h4:=(List.getElem?_eq_some_iff.1 hbf).1
     rw[hy.om.flen]at h4
     exact⟨_,List.getElem?_eq_getElem (by rw[hsl];exact h4)⟩
    obtain⟨hto,hsh⟩:=hx.sndAt (by omega) hne (by omega) hy0
    refine J_read0 9 rfl i.toNat (map_at hbb) (by kernel_rfl) (fun b2 off2 cs2 ty2 fz2 ha2 hrd2=>?_)
    cases ha2
    have hrd2_0:=rd0 (hrd2 0 _ rfl)
    try simp only[aQ]
    refine J_skip (J_seq (J_block ?_))
    refine Zt [zR 0,.rd 1 [] 0 2,.rd 2 [.r 2 (some (.pointer (sA bb 0)))] 0 0,zR 3,zR 4] [105] [zI 17 i,zP 18 bb] (oC hi0 (oC hli2 (oC hrd2_0 oN))) ?_
    refine J_seq ?_
    have hsh2:y0.sh=i:=by omega
    refine J_hide 1 rfl ?_
    refine Nm [(cSnds om.flatten (ssAt x (comP x at' ops) (posP x.id x.shards k.toNat+i.toNat))),(cRcvs im.flatten x.rs),(cVer vb x.places x.base (x.L++putsOf (comP x at' ops) (comP x at' ops).ops)),cAcc (.slice av2 m2 cv2) 62 9 (List.map eMsg (msAt x (comP x at' ops) (posP x.id x.shards k.toNat+i.toNat))),cObj b (.cells #[.pointer (sA vb 0),nI (↑x.id:Int),nI (↑x.places:Int),nI (↑x.shards:Int),nI (x.clock+1),.slice (sA b1 off1) x.places oc,.slice ia x.places ic] 124 (0,0))] ?_
    refine jT [(0,true),(1,true),(2,true),(3,false),(4,true),(5,true),(6,true),(7,false),(8,false),(9,true)] [] ?_
    refine Ya [zR 0,.rd 1 (hnO 1 3) 0 0,zR 2] [] [zP 110 b,zV 111 (.agg #[.slice (sA g 0) at'.length d1,nI (↑x.id:Int),.slice u2 ops.length d2]),zI 112 i] ?_
    refine JR_call [] [4] 87 #[.pointer (some (⟨b,0,none⟩)),.agg #[.slice (some (⟨g,0,none⟩)) at'.length d1,.int .i64 (↑x.id:Int),.slice u2 ops.length d2],.int .i64 i] (some 113) (by kernel_rfl) (by kernel_rfl) (by decide) (fun w S M hP hG _=>?_)
    refine(pPart (c:=comP x at' ops) (sh:=i) (hG.at 0 rfl) hP (hG.at 8 rfl) (by rw[comP,renum_len];exact hl2) (by have:=hx.s1;omega) (by have:=hx.s6;omega)).mono ?_
    rintro e5 w5 ⟨u4,d4,hR⟩
    refine⟨_,_,_,hR,?_⟩
    try simp only[aQ]
    refine Ym (Rds 4 7++[.wr 7 [] 0,.wr 8 (hnO 2 3) 0,zR 9]) [113,110,111,112] (fun nu3=>[zP 19 (nu3 0),zB 20 (decide ((↑(partC (↑x.shards:Int) (comP x at' ops) i).ops.length:Int)>0))]) o0 (fun nu3=>[(nu3 0,.cells #[.slice (sA g 0) at'.length d1,nI ((comP x at' ops).place),.slice u4 ((partC (↑x.shards:Int) (comP x at' ops) i).ops.length) d4] 35 (0,0))]) [] (fun nu3=>?_)
    try simp only[aQ]
    refine JR_end ?_
    try simp only[aQ]
    refine J_seq ?_
    try simp only[aQ]
    refine Za [zR 0] [] [zB 116 (decide ((↑(partC (↑x.shards:Int) (comP x at' ops) i).ops.length:Int)>0))] ?_
    try simp only[aQ]
    refine cC (t:=decide ((↑(partC (↑x.shards:Int) (comP x at' ops) i).ops.length:Int)>0)) (fun hpn=>?_) (fun hpn=>?_)
    ·have hne2:(partC x.shards (comP x at' ops) i).ops≠[]:=by
      intro h0
      rw[h0]at hpn
      simp at hpn
     obtain⟨hfm,htm,hq0,hq1,hql⟩:=hx.snd y0 (List.mem_of_getElem? hy0)
     have hsend:=comP_send hx hok (List.mem_of_getElem? hy0) (by rw[hsh2];exact hne2)
     rw[hsh2]at hsend
     have hmc:msgC x.shards (comP x at' ops) y0=[SndT.msg y0 (partC x.shards (comP x at' ops) i)]:=by rw[msgC,hsh2,if_neg hne2]
     have hsc:sndC x.shards (comP x at' ops) y0=SndT.com y0 (partC x.shards (comP x at' ops) i):=by rw[sndC,hsh2,if_neg hne2]
     have hps:posP x.id x.shards k.toNat+i.toNat+1=posP x.id x.shards k.toNat+(i+1).toNat:=by omega
     try simp only[aQ]
     refine J_seq ?_
     try simp only[aQ]
     refine jT [(0,true),(1,true),(2,false),(3,true),(4,true),(5,true),(6,false),(7,false),(8,true)] [] ?_
     refine Ya [zR 0,.rd 1 (hnO 2 3) 0 0] [116] [zP 118 bb,zV 119 (.agg #[.slice (sA g 0) at'.length d1,nI ((comP x at' ops).place),.slice u4 ((partC (↑x.shards:Int) (comP x at' ops) i).ops.length) d4])] ?_
     refine JR_call [] [0] 88 #[.pointer (some (⟨bb,0,none⟩)),.agg #[.slice (some (⟨g,0,none⟩)) at'.length d1,.int .i64 ((comP x at' ops).place),.slice u4 ((partC (↑x.shards:Int) (comP x at' ops) i).ops.length) d4]] (some 120) (by kernel_rfl) (by kernel_rfl) (by decide) (fun w S M hP hG _=>?_)
     refine(sndCom (c:=partC x.shards (comP x at' ops) i) (hG.at 0 rfl) hP hbf (ssAt_at hy0) (hG.at 7 rfl) (hG.at 10 rfl) (by show(comP x at' ops).when.length≤_;omega) (Nat.le_trans (List.length_filter_le _ _) (by rw[comP,renum_len];exact hl2)) (fun o ho=>renum_dots hl3 o (List.mem_filter.1 ho).1) hq0 (by omega) (by omega) hsend).mono ?_
     rintro e6 w6 ⟨u5,d5,u6,d6,hR⟩
     refine⟨_,_,_,hR,?_⟩
     rw[←hsc,ssAt_succ hy0,hps]
     try simp only[aQ]
     refine Ym (Rds 3 6++[.wr 6 [] 0,.wr 7 (hnO 3 9) 0,zR 8]) [120,118,119] (fun nu4=>[zP 21 (nu4 0)]) o0 (fun nu4=>[(nu4 0,.cells #[nI ((SndT.msg y0 (partC (↑x.shards:Int) (comP x at' ops) i)).fm),nI ((SndT.msg y0 (partC (↑x.shards:Int) (comP x at' ops) i)).to),nI ((SndT.msg y0 (partC (↑x.shards:Int) (comP x at' ops) i)).shard),nI ((SndT.msg y0 (partC (↑x.shards:Int) (comP x at' ops) i)).seq),nI ((SndT.msg y0 (partC (↑x.shards:Int) (comP x at' ops) i)).time),.bool false,.slice u5 at'.length d5,nI ((SndT.msg y0 (partC (↑x.shards:Int) (comP x at' ops) i)).c.place),.slice u6 ((partC (↑x.shards:Int) (comP x at' ops) i).ops.length) d6] 62 (0,0))]) [] (fun nu4=>?_)
     try simp only[aQ]
     refine JR_end ?_
     try simp only[aQ]
     refine jT [(0,true),(1,true),(2,false),(3,false),(4,true)] [] ?_
     refine Ym [zR 0,.rd 1 (hnO 3 9) 0 0,.wr 2 [] 0] [] (fun nu5=>[zS 123 av2 m2 cv2,zS 125 (sA (nu5 0) 0) 1 1]) o0 (fun nu5=>[(nu5 0,.cells #[nI ((SndT.msg y0 (partC (↑x.shards:Int) (comP x at' ops) i)).fm),nI ((SndT.msg y0 (partC (↑x.shards:Int) (comP x at' ops) i)).to),nI ((SndT.msg y0 (partC (↑x.shards:Int) (comP x at' ops) i)).shard),nI ((SndT.msg y0 (partC (↑x.shards:Int) (comP x at' ops) i)).seq),nI ((SndT.msg y0 (partC (↑x.shards:Int) (comP x at' ops) i)).time),.bool false,.slice u5 at'.length d5,nI ((SndT.msg y0 (partC (↑x.shards:Int) (comP x at' ops) i)).c.place),.slice u6 ((partC (↑x.shards:Int) (comP x at' ops) i).ops.length) d6] 62 (0,0))]) [] (fun nu5=>?_)
     refine JN [(cRcvs im.flatten x.rs),(cVer vb x.places x.base (x.L++putsOf (comP x at' ops) (comP x at' ops).ops)),cAcc (.slice av2 m2 cv2) 62 9 (List.map eMsg (msAt x (comP x at' ops) (posP x.id x.shards k.toNat+i.toNat))),cObj b (.cells #[.pointer (some (⟨vb,0,none⟩)),.int .i64 (↑x.id:Int),.int .i64 (↑x.places:Int),.int .i64 (↑x.shards:Int),.int .i64 (x.clock+1),.slice (some (⟨b1,off1,none⟩)) x.places oc,.slice ia x.places ic] 124 (0,0)),(cSnds om.flatten (ssAt x (comP x at' ops) (posP x.id x.shards k.toNat+(i+1).toNat)))] ?_
     refine JR_appm 2 56 62 9 104 (.agg #[.int .i64 0,.int .i64 0,.int .i64 0,.int .i64 0,.int .i64 0,.bool false,.slice none 0 0,.int .i64 0,.slice none 0 0]) (a0:=av2) (len:=m2) (cap0:=cv2) (ax:=(some (⟨nu5 0,0,none⟩))) (m:=1) (c:=1) (dst:=(some 126)) [(SndT.msg y0 (partC x.shards (comP x at' ops) i))] (by kernel_rfl) (by kernel_rfl) (by kernel_rfl) (by kernel_rfl) rfl (by decide) rfl (fun _ _ _ s=>src_one s 4 rfl rfl ⟨.inl ⟨rfl,rfl⟩,⟨.inl ⟨rfl,rfl⟩,⟨.inl ⟨rfl,rfl⟩,⟨.inl ⟨rfl,rfl⟩,⟨.inl ⟨rfl,rfl⟩,⟨.inl ⟨rfl,rfl⟩,⟨.inr (.inl (List.mem_of_getElem? (i:=11) rfl)),⟨.inl ⟨rfl,rfl⟩,⟨.inr (.inl (List.mem_of_getElem? (i:=12) rfl)),trivial⟩⟩⟩⟩⟩⟩⟩⟩⟩) (by simp only[maxLen];omega) (by omega) (fun av1 cv1=>?_)
     rw[←hmc,msAt_succ hy0,hps]
     refine JN [(cRcvs im.flatten x.rs),(cVer vb x.places x.base (x.L++putsOf (comP x at' ops) (comP x at' ops).ops)),cObj b (.cells #[.pointer (some (⟨vb,0,none⟩)),.int .i64 (↑x.id:Int),.int .i64 (↑x.places:Int),.int .i64 (↑x.shards:Int),.int .i64 (x.clock+1),.slice (some (⟨b1,off1,none⟩)) x.places oc,.slice ia x.places ic] 124 (0,0)),(cSnds om.flatten (ssAt x (comP x at' ops) (posP x.id x.shards k.toNat+(i+1).toNat))),cAcc (.slice av1 (m2+1) cv1) 62 9 (List.map eMsg (msAt x (comP x at' ops) (posP x.id x.shards k.toNat+(i+1).toNat)))] ?_
     try simp only[aQ]
     refine Ya [zR 4] [126,123,125] [zS 14 av1 (m2+1) cv1] ?_
     refine JR_end (J_eb ?_)
     refine Zp [.rd 0 [] 0 1,zR 1] [] [zI 104 (i+1)] (oC (show IntKind.i64.wrap (i+1)=i+1 from wrap_i64 (by omega) (by omega)) oN) ?_
     refine J_show 2 rfl ?_
     refine J_backx ⟨i+1,_,m2+1,_⟩ [0,6,7,8,10,14,16,96,97,98,102,103,104] [0,5,1] [2,0,1,3] [0,1,2,3,4,5,6,7,8,9] ?_ ?_ (by kernel_rfl) rfl rfl rfl
     ·exact⟨by simp only;omega,by simp only;omega⟩
     ·simp only
      omega
    ·have hne2:(partC x.shards (comP x at' ops) i).ops=[]:=by
      apply List.length_eq_zero_iff.1
      simp at hpn
      simpa using hpn
     have hps:posP x.id x.shards k.toNat+i.toNat+1=posP x.id x.shards k.toNat+(i+1).toNat:=by omega
     have hs1:ssAt x (comP x at' ops) (posP x.id x.shards k.toNat+i.toNat)=ssAt x (comP x at' ops) (posP x.id x.shards k.toNat+(i+1).toNat):=by
      rw[←hps,←ssAt_succ hy0,show sndC x.shards (comP x at' ops) y0=y0 by rw[sndC,hsh2,if_pos hne2],set_same (ssAt_at hy0)]
     have hs2:msAt x (comP x at' ops) (posP x.id x.shards k.toNat+i.toNat)=msAt x (comP x at' ops) (posP x.id x.shards k.toNat+(i+1).toNat):=by
      rw[←hps,←msAt_succ hy0,show msgC x.shards (comP x at' ops) y0=[]by rw[msgC,hsh2,if_pos hne2],List.append_nil]
     try simp only[aQ]
     refine J_skip ?_
     try simp only[aQ]
     refine J_eb ?_
     try simp only[aQ]
     refine Zp [.rd 0 [] 0 1,zR 1] [116] [zI 104 (i+1)] (oC (show IntKind.i64.wrap (i+1)=i+1 from wrap_i64 (by omega) (by omega)) oN) ?_
     try simp only[aQ]
     rw[hs1,hs2]
     refine J_show 4 rfl ?_
     refine J_backx ⟨i+1,av2,m2,cv2⟩ [0,6,7,8,10,14,16,96,97,98,102,103,104] [0,3,1] [0,1,2,3] [0,1,2,3,4,5,6,7,8,9] ?_ ?_ (by kernel_rfl) rfl rfl rfl
     ·exact⟨by simp only;omega,by simp only;omega⟩
     ·simp only
      omega
   ·have hie2:i.toNat=(if k.toNat=x.id then 0 else x.shards):=by rw[←hrl];simp at hli;omega
    have hps:posP x.id x.shards k.toNat+i.toNat=posP x.id x.shards (k+1).toNat:=by rw[hie2,show(k+1).toNat=k.toNat+1 by omega,posP_succ]
    rw[hps]
    refine J_exit rfl ?_
    refine J_eb ?_
    refine Zp [.rd 0 [] 0 1,zR 1] [105] [zI 98 (k+1)] (oC (show IntKind.i64.wrap (k+1)=k+1 from wrap_i64 (by omega) (by omega)) oN) ?_
    refine J_backx ⟨k+1,av2,m2,cv2⟩ [0,6,7,8,10,14,96,97,98] [0,1,2] [0,1,2,3] [0,1,2,3,4,5,6,7,8] ?_ ?_ (by kernel_rfl) rfl rfl rfl
    ·exact⟨by simp only;omega,by simp only;omega⟩
    ·simp only
     omega
  ·have hke:k.toNat=x.places:=by simp at hlk;omega
   rw[hke,←hsl,ssAt_end _ _ (Nat.le_refl _),msAt_end _ _ (Nat.le_refl _)]
   refine J_exit rfl ?_
   refine J_seq ?_
   refine J_stpx (stp_acclen 3 rfl) fun _ hm2=>?_
   refine Zm [.rd 0 (hnO 2 3) 0 0,zR 1,.wr 2 (hnO 0 3) 0,zR 3,zR 4] [(2,[0])] [99,0,10,14,96,97,98] (fun _=>[zS 7 av m cv]) (fun _=>[(0,.cells #[.slice (sA g 0) at'.length d1,nI (↑x.id:Int),.slice u2 ops.length d2] 35 (0,0))]) o0 (fun _=>?_)
   refine Yr [(hnO 0 3),[],[]] (.tuple #[.agg #[.slice (sA g 0) at'.length d1,nI (↑x.id:Int),.slice u2 ops.length d2],.slice av m cv,.nilIface]) fun a w s=>?_
   have s2:=(s.hide 1 rfl).stp (stp_closePl (x:=comPl x (comP x at' ops)) ⟨vb,oa,oc,ia,ic,om,im⟩ [4,2,0,1] 3 4 rfl rfl rfl ⟨hy.om,hy.im⟩)
   exact .inr ⟨hok,_,_,_,_,_,_,_,_,_,s2.ret (by simp) [0,1] [7,8] rfl rfl⟩
theorem placeCommit {w:World} {S:Nat→Prop} {M:List Nat} {er:Nat→Addr} {eb:Nat→Array Value×TypeId} {x:PlT} {b n n1 c1 n2 c2:Nat} {a1 a2:Option Addr} {at':List Int} {ops:List OpT} (hC:Rep w S .nilIface (dC er eb)) (hP:Pre w S M [cPlace b x]) (hx:PlIn x n) (hn:n<600) (h1:Rep w S (.slice a1 n1 c1) (dInts at')) (h2:Rep w S (.slice a2 n2 c2) (.sl 7 (ops.map eOp))) (hl1:at'.length≤1000000) (hl2:ops.length≤1000000) (hl3:∀o∈ops,o.dots.length≤1000000) :
  Calls Tryz.prog 22 #[.pointer (some ⟨b,0,none⟩),.slice a1 n1 c1,.slice a2 n2 c2] w fun e w'=>
   ((comErr x at' ops).code≠0∧∃v G',Ret M w S w' e (.tuple #[comZ,.slice none 0 0,v]) [cPlace b x] G'∧FErrV er (comErr x at' ops) v G') ∨
   ((comErr x at' ops).code=0∧∃u1 m1 d1 u2 m2 d2 u3 m3 d3,Ret M w S w' e (.tuple #[.agg #[.slice u1 m1 d1,.int .i64 x.id,.slice u2 m2 d2],.slice u3 m3 d3,.nilIface]) [cPlace b (comPl x (comP x at' ops))]
    [(.slice u1 m1 d1,dInts (comP x at' ops).when),(.slice u2 m2 d2,.sl 7 ((comP x at' ops).ops.map eOp)),(.slice u3 m3 d3,.sl 9 ((comMs x (comP x at' ops)).map eMsg))]):=by
 refine(placeCommitA hC hP hx hn h1 h2 hl1 hl2 hl3).mono ?_
 rintro e w' (h|⟨hok,u1,m1,d1,u2,m2,d2,u3,m3,d3,hR⟩)
 ·exact .inl h
 ·exact .inr ⟨hok,u1,m1,d1,u2,m2,d2,u3,m3,d3,hR.freeze⟩
end Go.Proofs.YtmkapocibaojdaaGreatDoor
end
section
namespace Go.Proofs.YtmkapocibaojdaaGreatDoor
open Go Go.Sx
set_option maxHeartbeats 4000000 in
theorem plClock {w:World} {S:Nat→Prop} {M:List Nat} {b vb:Nat} {id places shards clock:Int} {o i:Value} (hP:Pre w S M [cObj b (plC vb id places shards clock o i)]) :
  Calls Tryz.prog 17 #[.pointer (some ⟨b,0,none⟩)] w fun e w'=>Ret M w S w' e (.int .i64 clock) [cObj b (plC vb id places shards clock o i)] []:=by
 refine enG Tryz.func17 bd17 (args:=[.pointer (some ⟨b,0,none⟩)]) (S:=S) (C:=[cObj b (plC vb id places shards clock o i)]) (G:=[]) (by kernel_rfl) hP (.nil _ _) ?_
 refine J_show 0 rfl ?_
 refine Zs [zR 0] [] [zI 2 0] ?_
 refine Zs (Rds 0 3++[.rd 3 [.o 0 none] 0 0,zR 4]) [0] [zI 2 clock] ?_
 refine Yr [[]] (nI clock) fun a w s=>?_
 exact(s.hide 0 rfl).ret (by simp) [0] [] rfl rfl
set_option maxHeartbeats 4000000 in
theorem placeClock {w:World} {S:Nat→Prop} {M:List Nat} {b:Nat} {x:PlT} (hP:Pre w S M [cPlace b x]) :
  Calls Tryz.prog 17 #[.pointer (some ⟨b,0,none⟩)] w fun e w'=>Ret M w S w' e (.int .i64 x.clock) [cPlace b x] []:=by
 obtain⟨y,hy,hG,hP2⟩:=hP.open1
 obtain⟨M1,hP3,hback⟩:=hP2.part1
 exact(plClock hP3).mono fun e w' hR=>(hback hR).close1 y hy hG hP.no
theorem zeros_ok {p:Nat} (h1:1≤p) (h6:p≤6):vecErr (List.replicate p (0:Int))=0:=by
 rw[vecErr,if_neg (by simp;omega),if_neg (by simp[badT])]
theorem newP_in {id places shards:Nat} (n:Nat) (hp1:1≤places) (hp6:places≤6) (hs1:1≤shards) (hs6:shards≤6) (hid:id<places):PlIn (newP id places shards) n:=by
 have hs:∀s∈(newP id places shards).ss,∃a b:Nat,s=⟨id,a,b,0,0,[]⟩:=fun s hs=>by
  obtain⟨q,_,rfl⟩:=List.mem_map.1 hs
  exact⟨_,_,rfl⟩
 have hr:∀s∈(newP id places shards).rs,∃a b:Nat,s=⟨a,id,b,0,0,[]⟩:=fun s hs=>by
  obtain⟨q,_,rfl⟩:=List.mem_map.1 hs
  exact⟨_,_,rfl⟩
 refine⟨⟨hp1,hp6,hs1,hs6,hid,by simp[newP],by simp[newP],zeros_ok hp1 hp6,by simp[newP],?_,?_,fun r h=>?_⟩,by simp[newP],?_,by simp[newP],by simp[newP],fun s h=>?_,fun s h=>?_,fun r h=>?_,fun s h=>?_,fun r h=>?_,fun r h=>?_,?_⟩
 ·simp only[newP,newSs,List.map_map]
  exact(List.map_congr_left fun q _=>rfl).trans (List.map_id _)
 ·simp only[newP,newRs,List.map_map]
  exact(List.map_congr_left fun q _=>rfl).trans (List.map_id _)
 ·obtain⟨a,b,rfl⟩:=hr r h
  simp
 ·simp[newP,List.getD_eq_getElem?_getD,List.getElem?_replicate]
  split <;> simp
 ·obtain⟨a,b,rfl⟩:=hs s h
  simp[newP]
 ·obtain⟨a,b,rfl⟩:=hs s h
  simp
 ·obtain⟨a,b,rfl⟩:=hr r h
  simp[newP]
 ·obtain⟨a,b,rfl⟩:=hs s h
  simp
 ·obtain⟨a,b,rfl⟩:=hr r h
  simp[Dist]
 ·obtain⟨a,b,rfl⟩:=hr r h
  simp
 ·have:((newP id places shards).rs.map (·.q)).sum=0:=by
   simp only[newP,newRs,List.map_map]
   induction pairsP id shards places with
   | nil=>rfl
   | cons a l ih=>simpa using ih
  rw[this]
  simp[newP]
end Go.Proofs.YtmkapocibaojdaaGreatDoor
end
section
namespace Go.Proofs.YtmkapocibaojdaaGreatDoor
open Go Go.Sx
theorem perm4 {α:Type} (a b c d:α):[a,b,c,d].Perm ([a,d]++[b,c]):=List.Perm.cons a (List.perm_middle (l₁:=[b,c]) (l₂:=[]) (a:=d))
set_option maxHeartbeats 4000000 in
theorem placeSnapshot {w:World} {S:Nat→Prop} {M:List Nat} {x:PlT} {b:Nat} (hP:Pre w S M [cPlace b x]) (h:PlOk x) :
  Calls Tryz.prog 19 #[.pointer (some ⟨b,0,none⟩)] w fun e w'=>∃a' n' c',Ret M w S w' e (.slice a' n' c') [cPlace b x] [(.slice a' n' c',dInts (snapL x))]:=by
 obtain⟨y,hy,hG,hP2⟩:=hP.open1
 obtain⟨M1,hM1,hP3⟩:=hP2.perm (perm4 _ _ _ _)
 obtain⟨M2,hP4,hback⟩:=hP3.part
 refine(pSnapshot hP4 (hG.at 1 rfl) hy.im h).mono ?_
 rintro e w' ⟨a',n',c',hR⟩
 exact⟨a',n',c',Ret.close1 y ((hback hR).perm (perm4 _ _ _ _).symm hM1.symm) hy hG hP.no⟩
def readErr (x:PlT) (key:ByteArray) (at':List Int):Nat:=if nameOk key=true then knownErr x at' else 4
set_option maxHeartbeats 4000000 in
theorem pLook {w:World} {S:Nat→Prop} {M:List Nat} {er:Nat→Addr} {eb:Nat→Array Value×TypeId} {x:PlT} {b vb ic n1 c1:Nat} {o:Value} {ia a1:Option Addr} {rows:List (List Nat)} {key:ByteArray} {at':List Int} (hC:Rep w S .nilIface (dC er eb)) (hP:Pre w S M [cObj b (plC vb x.id x.places x.shards x.clock o (.slice ia x.places ic)),cRcvs rows.flatten x.rs]) (hi:Rep w S (.slice ia x.places ic) (dRows rows)) (h1:Rep w S (.slice a1 n1 c1) (dInts at')) (hok:RowsOk x.id x.shards x.places rows) (h:PlOk x) (hl1:at'.length≤1000000) :
  Calls Tryz.prog 94 #[.pointer (some ⟨b,0,none⟩),.string key,.slice a1 n1 c1] w fun e w'=>∃v,Ret M w S w' e v [cObj b (plC vb x.id x.places x.shards x.clock o (.slice ia x.places ic)),cRcvs rows.flatten x.rs] []∧ErrIs 390 er (readErr x key at') v:=by
 refine enG Tryz.func94 bd94 (args:=[.pointer (some ⟨b,0,none⟩),.string key,.slice a1 n1 c1]) (S:=S) (G:=[(_,dC er eb),(_,dRows rows),(_,dInts at')]) (by kernel_rfl) hP (.cons hC (.cons hi (.cons h1 (.nil _ _)))) ?_
 refine J_stp (stp_all 0 [3] rfl rfl) ?_
 refine J_glob 3 rfl (fun csg1 tyg1 fzg1 hglob1=>?_)
 try simp only[aQ]
 refine Zs [zR 0] [] [zV 6 .nilIface] ?_
 refine J_seq ?_
 refine jS [(0,true),(1,false),(2,true)] [] ?_
 refine Ya [zR 0] [1] [zV 7 (.string key)] ?_
 refine Yc 154 #[.string key] (some 8) fun w S hG=>?_
 refine(vName (S:=S)).mono ?_
 rintro e1 w1 hR
 refine⟨_,_,_,hR,?_⟩
 cases hn:nameOk key with
 | false=>
  have hae:readErr x key at'=4:=by rw[readErr,if_neg (by simp[hn])]
  rw[hae]
  try simp only[aQ]
  refine Ya [zR 2] [8,7] [zB 9 true] ?_
  refine JR_end ?_
  refine cTt ?_
  refine Zt [.rd 0 [.r 0 (some (.iface 390 (.pointer (some (er 4)))))] 0 0,zR 1] [9] [zV 6 (.iface 390 (.pointer (some (er 4))))] (oC hglob1 oN) ?_
  refine Yr [[]] (.iface 390 (.pointer (some (er 4)))) fun a w s=>?_
  exact⟨_,s.ret (by simp) [0,1] [] rfl rfl,.inr ⟨by decide,rfl⟩⟩
 | true=>
  have hae:readErr x key at'=knownErr x at':=by rw[readErr,if_pos hn]
  rw[hae]
  try simp only[aQ]
  refine Ya [zR 2] [8,7] [zB 9 false] ?_
  refine JR_end ?_
  refine cF ?_
  refine J_skip ?_
  refine jS [(0,true),(1,true),(2,false),(3,true)] [] ?_
  refine Ya [zR 0,zR 1] [9,0,2] [zP 11 b,zS 12 a1 n1 c1] ?_
  refine JR_call [] [0,1] 83 #[.pointer (some (⟨b,0,none⟩)),.slice a1 n1 c1] (some 13) (by kernel_rfl) (by kernel_rfl) (by decide) (fun w S M hP hG _=>?_)
  refine(pKnown (hG.at 0 rfl) hP (hG.at 1 rfl) (hG.at 2 rfl) hok h hl1).mono ?_
  rintro e2 w2 ⟨v,hR,hv⟩
  refine⟨_,_,_,hR,?_⟩
  try simp only[aQ]
  refine Ya [zR 3] [13,11,12] [zV 6 v] ?_
  try simp only[aQ]
  refine JR_end ?_
  try simp only[aQ]
  refine Yr [[]] (v) fun a w s=>?_
  exact⟨_,s.ret (by simp) [0,1] [] rfl rfl,hv⟩
def readK (x:PlT) (key:ByteArray) (at':List Int):Nat:=if readErr x key at'≠0 then readErr x key at' else atErr x.places x.base key at'
set_option maxHeartbeats 4000000 in
theorem placeRead {w:World} {S:Nat→Prop} {M:List Nat} {er:Nat→Addr} {eb:Nat→Array Value×TypeId} {x:PlT} {b n n1 c1:Nat} {a1:Option Addr} {key:ByteArray} {at':List Int} (hC:Rep w S .nilIface (dC er eb)) (hP:Pre w S M [cPlace b x]) (hx:PlIn x n) (hn:n≤600) (h1:Rep w S (.slice a1 n1 c1) (dInts at')) (hl1:at'.length≤1000000) :
  Calls Tryz.prog 25 #[.pointer (some ⟨b,0,none⟩),.string key,.slice a1 n1 c1] w fun e w'=>
   (readK x key at'≠0∧Ret M (zero w) S w' e (.tuple #[valZ,.iface 390 (.pointer (some (er (readK x key at'))))]) [cPlace b x] []) ∨
   (readK x key at'=0∧∃ua un uc,Ret M (zero w) S w' e (.tuple #[valA (Sx.valOf key (withinC x.L key at')) (.slice ua un uc),.nilIface]) [cPlace b x] [(.slice ua un uc,dStrs (Sx.valOf key (withinC x.L key at')).set)]):=by
 refine enG Tryz.func25 bd25 (args:=[.pointer (some ⟨b,0,none⟩),.string key,.slice a1 n1 c1]) (S:=S) (C:=[cPlace b x]) (G:=[(_,dC er eb),(_,dInts at')]) (by kernel_rfl) hP (.cons hC (.cons h1 (.nil _ _))) ?_
 refine J_zero ?_
 refine J_stpx (stp_openbox 0 rfl) fun y hy=>?_
 obtain⟨vb,oa,oc,ia,ic,om,im⟩:=y
 refine Nm [cObj b (.cells #[.pointer (sA vb 0),nI (↑x.id:Int),nI (↑x.places:Int),nI (↑x.shards:Int),nI x.clock,.slice (PlBx.mk vb oa oc ia ic om im).oa x.places oc,.slice (PlBx.mk vb oa oc ia ic om im).ia x.places ic] 124 (0,0)),(cVer (PlBx.mk vb oa oc ia ic om im).vb x.places x.base x.L),(cSnds (PlBx.mk vb oa oc ia ic om im).om.flatten x.ss),(cRcvs (PlBx.mk vb oa oc ia ic om im).im.flatten x.rs)] ?_
 try simp only[aQ]
 refine Zv [.wr 0 [] 0,zR 1] [] [] (fun nu1=>[zP 6 (nu1 0),zV 7 .nilIface]) o0 (fun nu1=>[(nu1 0,.cells #[nI 0,.string (ByteArray.mk #[]),nI 0,.slice none 0 0] 64 (0,0))]) (fun nu1=>?_)
 refine J_seq ?_
 refine jS [(0,true),(1,true),(2,true),(3,false),(4,true)] [] ?_
 refine Ya (Rds 0 3) [] [zP 9 b,zV 10 (.string key),zS 11 a1 n1 c1] ?_
 refine JR_call [] [0,3] 94 #[.pointer (some (⟨b,0,none⟩)),.string key,.slice a1 n1 c1] (some 12) (by kernel_rfl) (by kernel_rfl) (by decide) (fun w S M hP hG _=>?_)
 refine(pLook (hG.at 0 rfl) hP (hG.at 3 rfl) (hG.at 1 rfl) hy.im hx.toPlOk hl1).mono ?_
 rintro e1 w1 ⟨v,hR,hv⟩
 refine⟨_,_,_,hR,?_⟩
 obtain⟨hk0,rfl⟩|⟨hk0,rfl⟩:=hv
 case inr=>
  have hae:readK x key at'=readErr x key at':=by rw[readK,if_pos hk0]
  rw[hae]
  try simp only[aQ]
  refine Ya [zR 4] [12,9,10,11] [zV 8 (.iface 390 (.pointer (some (er (readErr x key at')))))] ?_
  try simp only[aQ]
  refine JR_end ?_
  try simp only[aQ]
  refine J_seq ?_
  try simp only[aQ]
  refine Za [zR 0,zR 1] [] [zB 14 true] ?_
  try simp only[aQ]
  refine cTt ?_
  try simp only[aQ]
  refine J_seq ?_
  try simp only[aQ]
  refine Zm [zR 0,zR 1,.wr 2 (hnO 0 4) 0,zR 3] [(2,[0])] [14,8] (fun _=>[zV 7 (.iface 390 (.pointer (some (er (readErr x key at')))))]) o0 o0 (fun _=>?_)
  try simp only[aQ]
  refine Yr [(hnO 0 4),[]] (.tuple #[.agg #[nI 0,.string (ByteArray.mk #[]),nI 0,.slice none 0 0],.iface 390 (.pointer (some (er (readErr x key at'))))]) fun a w s=>?_
  have s2:=s.stp (stp_closePl (x:=x) ⟨vb,oa,oc,ia,ic,om,im⟩ [2,0,1,3] 2 3 rfl rfl rfl hy)
  exact .inl ⟨hk0,s2.retz (by simp) [0] [] rfl rfl⟩
 have hae:readK x key at'=atErr x.places x.base key at':=by rw[readK,if_neg (by omega)]
 rw[hae]
 try simp only[aQ]
 refine Ya [zR 4] [12,9,10,11] [zV 8 .nilIface] ?_
 try simp only[aQ]
 refine JR_end ?_
 try simp only[aQ]
 refine J_seq ?_
 try simp only[aQ]
 refine Za [zR 0,zR 1] [] [zB 14 false] ?_
 try simp only[aQ]
 refine cF ?_
 try simp only[aQ]
 refine J_skip ?_
 try simp only[aQ]
 refine J_seq ?_
 try simp only[aQ]
 refine Nm [(cVer vb x.places x.base x.L),(cSnds om.flatten x.ss),cObj b (.cells #[.pointer (sA vb 0),nI (↑x.id:Int),nI (↑x.places:Int),nI (↑x.shards:Int),nI x.clock,.slice oa x.places oc,.slice ia x.places ic] 124 (0,0)),(cRcvs im.flatten x.rs)] ?_
 refine J_show 2 rfl ?_
 refine jT [(0,true),(1,true),(2,true),(3,true),(4,true),(5,true),(6,false),(7,true),(8,true),(9,false),(10,true)] [] ?_
 refine Ya (Rds 0 3++[.rd 3 [.o 1 none] 0 0,zR 4,zR 5]) [14,8,0,1,2] [zP 20 vb,zV 21 (.string key),zS 22 a1 n1 c1] ?_
 refine JR_callz [] [0] 95 #[.pointer (some (⟨vb,0,none⟩)),.string key,.slice a1 n1 c1] (some 23) zero_all (by kernel_rfl) (by kernel_rfl) (by decide) (fun w S M hP hG _=>?_)
 refine(verRead (hG.at 0 rfl) hP (hx.ver (by omega)) (hG.at 1 rfl) hl1).mono ?_
 rintro e2 w2 (⟨hf,hR⟩|⟨hf,ua,un,uc,hR⟩)
 ·refine⟨_,_,_,hR,?_⟩
  try simp only[aQ]
  refine Ya [zR 7,zR 8,.wr 9 (hnO 0 4) 0,zR 10] [23,20,21,22] [zV 7 (.iface 390 (.pointer (some (er (atErr x.places x.base key at')))))] ?_
  try simp only[aQ]
  refine JR_end ?_
  try simp only[aQ]
  refine Yr [(hnO 0 4),[]] (.tuple #[.agg #[nI 0,.string (ByteArray.mk #[]),nI 0,.slice none 0 0],.iface 390 (.pointer (some (er (atErr x.places x.base key at'))))]) fun a w s=>?_
  have s2:=(s.hide 1 rfl).stp (stp_closePl (x:=x) ⟨vb,oa,oc,ia,ic,om,im⟩ [3,2,0,1] 2 3 rfl rfl rfl hy)
  exact .inl ⟨hf,s2.retz (by simp) [0] [] rfl rfl⟩
 ·refine⟨_,_,_,hR,?_⟩
  try simp only[aQ]
  refine Ym [zR 7,zR 8,.wr 9 (hnO 0 4) 0,zR 10] [23,20,21,22] (fun _=>[]) (fun _=>[(0,.cells #[nI ((Sx.valOf key (withinC x.L key at')).kind),.string ((Sx.valOf key (withinC x.L key at')).text),nI ((Sx.valOf key (withinC x.L key at')).n),.slice ua un uc] 64 (0,0))]) o0 [] (fun _=>?_)
  try simp only[aQ]
  refine JR_end ?_
  try simp only[aQ]
  refine Yr [(hnO 0 4),[]] (.tuple #[.agg #[nI ((Sx.valOf key (withinC x.L key at')).kind),.string ((Sx.valOf key (withinC x.L key at')).text),nI ((Sx.valOf key (withinC x.L key at')).n),.slice ua un uc],.nilIface]) fun a w s=>?_
  have s2:=(s.hide 1 rfl).stp (stp_closePl (x:=x) ⟨vb,oa,oc,ia,ic,om,im⟩ [3,2,0,1] 2 3 rfl rfl rfl hy)
  exact .inr ⟨hf,_,_,_,s2.retz (by simp) [0] [4] rfl rfl⟩
end Go.Proofs.YtmkapocibaojdaaGreatDoor
end
section
namespace Go.Proofs.YtmkapocibaojdaaGreatDoor
open Go Go.Sx
abbrev opP5:OpT:=⟨0,keyK,2,ByteArray.mk #[],5,false,[]⟩
theorem opP5_fine:opErr opP5 ((2:Nat):Int)=0:=by
 have h0:(ByteArray.mk #[]).size=0:=rfl
 rw[opRest (by simp) nameK (.inr (.inl rfl)) (by simp[shapeOk,h0]),if_neg (by simp only[List.length_nil,h0];omega),if_neg (by simp[badDots])]
theorem comP5:comP (newP 0 2 1) [0,0] [opP5]=⟨[1,0],0,[opP5]⟩:=rfl
theorem comP5_fine:(comErr (newP 0 2 1) [0,0] [opP5]).code=0:=by
 have h1:knownErr (newP 0 2 1) [0,0]=0:=by decide
 rw[comErr,if_neg (by rw[h1];decide),if_neg (by decide),comP5]
 exact comFault_mk (by decide) (by simp) (by simp) (by simp) (by simp) (by simp) (fun o ho=>by obtain rfl:=List.mem_singleton.1 ho;exact opP5_fine) (by simp)
theorem in5:inS 1 0 opP5=true:=by
 rw[inS,shardE,if_pos nameK,shardN,Int.tmod_one]
 rfl
theorem comMs5:comMs (newP 0 2 1) (comP (newP 0 2 1) [0,0] [opP5])=[⟨0,1,0,1,1,false,⟨[1,0],0,[opP5]⟩⟩]:=by
 have h1:(newP 0 2 1).ss=[⟨0,1,0,0,0,[]⟩]:=rfl
 have h2:partC 1 ⟨[1,0],0,[opP5]⟩ 0=⟨[1,0],0,[opP5]⟩:=by
  rw[partC]
  simp[in5]
 rw[comP5,comMs,h1]
 show([msgC 1 ⟨[1,0],0,[opP5]⟩ ⟨0,1,0,0,0,[]⟩]).flatten=_
 rw[msgC]
 simp only[h2]
 rfl
set_option maxHeartbeats 4000000 in
theorem placed {w:World} {S:Nat→Prop} {er:Nat→Addr} {eb:Nat→Array Value×TypeId} (hC:Rep w S .nilIface (dC er eb)) :
  Calls Tryz.prog 11 #[] w fun e w'=>Ret [] w S w' e (.bool true) [] []:=by
 refine epG Tryz.func11 bd11 (args:=[]) (S:=S) (G:=[(_,dC er eb)]) (by kernel_rfl) (.cons hC (.nil _ _)) ?_
 refine Zs [zR 0] [] [zB 0 false] ?_
 refine jS [(0,false),(1,true),(2,true),(3,true),(4,true),(5,true)] [] ?_
 refine Yc 12 #[nI 0,nI 2,nI 1] (some 6) fun w S hG=>?_
 refine(placeNew (id:=0) (places:=2) (shards:=1) (hG.at 0 rfl)).mono ?_
 rintro e1 w1 (⟨h,_⟩|⟨_,b,hR⟩)
 ·exact absurd (by decide) h
 refine⟨_,_,_,hR,?_⟩
 rw[show newP (0:Int).toNat (2:Int).toNat (1:Int).toNat=newP 0 2 1 from rfl]
 try simp only[aQ]
 refine Ya (Rds 1 6) [6] [zP 1 b,zV 2 .nilIface] ?_
 refine JR_end (J_seq ?_)
 refine Zs (Rds 0 6) [] [zB 14 false] ?_
 refine cF ?_
 refine J_skip ?_
 refine jS [(0,true),(1,false),(2,true),(3,false),(4,false),(5,true),(6,true),(7,true),(8,true),(9,false),(10,false),(11,true),(12,true)] [] ?_
 refine Ym [zR 0,.wr 1 [] 0,zR 2,.wr 3 [] 0] [14] (fun nu1=>[zP 16 b,zS 17 (sA (nu1 0) 0) 2 2,zS 19 (sA (nu1 1) 0) 1 1]) o0 (fun nu1=>[(nu1 0,.cells #[nI 0,nI 0] 3 (0,0)),(nu1 1,.cells #[nI 0,.string (ByteArray.mk #[107]),nI 2,.string (ByteArray.mk #[]),nI 5,.bool false,.slice none 0 0] 55 (0,0))]) [] (fun nu1=>?_)
 refine JR_data (size:=1) 0 eI [(0:Int),0] 2 rfl (by kernel_rfl) (by decide) (by intro x _;rfl) (by simp) ⟨.inl ⟨rfl,rfl⟩,⟨.inl ⟨rfl,rfl⟩,trivial⟩⟩ ?_
 refine JR_data (size:=7) 0 eOp [opP5] 1 rfl (by kernel_rfl) (by decide) (by intro x _;rfl) (by simp) ⟨.inl ⟨rfl,rfl⟩,⟨.inl ⟨rfl,rfl⟩,⟨.inl ⟨rfl,rfl⟩,⟨.inl ⟨rfl,rfl⟩,⟨.inl ⟨rfl,rfl⟩,⟨.inl ⟨rfl,rfl⟩,⟨.inr (.inr ⟨_,_,_,rfl,rfl⟩),trivial⟩⟩⟩⟩⟩⟩⟩ ?_
 refine JR_call [] [0] 22 #[.pointer (some (⟨b,0,none⟩)),.slice (some (⟨nu1 0,0,none⟩)) 2 2,.slice (some (⟨nu1 1,0,none⟩)) 1 1] (some 20) (by kernel_rfl) (by kernel_rfl) (by decide) (fun w S M hP hG _=>?_)
 refine(placeCommit (n:=0) (at':=[0,0]) (ops:=[opP5]) (hG.at 0 rfl) hP (newP_in 0 (by decide) (by decide) (by decide) (by decide) (by decide)) (by decide) (hG.at 1 rfl) (hG.at 2 rfl) (by simp) (by simp) (by simp)).mono ?_
 rintro e2 w2 (⟨h,_⟩|⟨_,u1,m1,d1,u2,m2,d2,u3,m3,d3,hR⟩)
 ·exact absurd comP5_fine h
 refine⟨_,_,_,hR,?_⟩
 rw[comMs5]
 try simp only[aQ]
 refine Ym (Rds 5 9++[.wr 9 [] 0,.wr 10 (hnO 0 3) 0,zR 11,zR 12]) [20,16,17,19] (fun nu2=>[zP 3 (nu2 0),zS 4 u3 m3 d3]) o0 (fun nu2=>[(nu2 0,.cells #[.slice u1 m1 d1,nI 0,.slice u2 m2 d2] 35 (0,0))]) [] (fun nu2=>?_)
 try simp only[aQ]
 refine JR_end ?_
 try simp only[aQ]
 refine J_seq ?_
 try simp only[aQ]
 refine J_stpx (stp_replen 5 rfl) fun _ hm=>?_
 obtain rfl:m3=1:=hm
 have hmm:([⟨0,1,0,1,1,false,⟨[1,0],0,[opP5]⟩⟩]:List MsgT)[(0:Int).toNat]?=some ⟨0,1,0,1,1,false,⟨[1,0],0,[opP5]⟩⟩:=rfl
 refine J_read2 5 rfl (Int.toNat 0) (map_at hmm) (by kernel_rfl) (fun b1 off1 cs1 ty1 fz1 a1_0 c1_0 a1_1 c1_1 ha1 hrd1=>?_)
 cases ha1
 have hrd1_0:=rd0 (hrd1 0 _ rfl)
 have hrd1_1:=hrd1 1 _ rfl
 have hrd1_2:=hrd1 2 _ rfl
 have hrd1_3:=hrd1 3 _ rfl
 have hrd1_4:=hrd1 4 _ rfl
 have hrd1_5:=hrd1 5 _ rfl
 have hrd1_6:=hrd1 6 _ rfl
 have hrd1_7:=hrd1 7 _ rfl
 have hrd1_8:=hrd1 8 _ rfl
 simp only[Int.toNat_zero,Nat.zero_mul,Nat.add_zero]at hrd1_1
 try simp only[aQ]
 refine jT [(0,true),(1,true),(2,true),(3,true),(4,true),(5,true),(6,true),(7,true),(8,true),(9,true),(10,true),(11,true),(12,true),(13,true),(14,true),(15,true),(16,true),(17,false),(18,false),(19,true),(20,true),(21,true),(22,false),(23,true),(24,true),(25,true)] [] ?_
 refine Yn (Rds 0 11++[.rd 11 [.r 0 (some (nI 1))] 0 0]++Rds 12 16++[.rd 16 [.o 0 none] 0 0,.wr 17 [] 0]) [3,4,2] (fun nu3=>[zB 38 true,zS 40 u1 m1 d1,zS 41 (sA (nu3 0) 0) 2 2]) o0 (fun nu3=>[(nu3 0,.cells #[nI 1,nI 0] 3 (0,0))]) [] (fun nu3=>(oC hrd1_1 oN)) (fun nu3=>?_)
 refine JR_data (size:=1) 1 eI [(1:Int),0] 2 rfl (by kernel_rfl) (by decide) (by intro x _;rfl) (by simp) ⟨.inl ⟨rfl,rfl⟩,⟨.inl ⟨rfl,rfl⟩,trivial⟩⟩ ?_
 refine Yc 18 #[.slice u1 m1 d1,.slice (sA (nu3 0) 0) 2 2] (some 42) fun w S hG=>?_
 refine(sameInts (xs:=[1,0]) (ys:=[1,0]) (hG.at 3 rfl) (hG.at 8 rfl) (by simp)).mono ?_
 rintro e3 w3 hR
 refine⟨_,_,_,hR,?_⟩
 try simp only[aQ]
 refine Ya (Rds 19 22) [42,38,40,41,1] [zB 44 true,zP 45 b] ?_
 try simp only[aQ]
 refine JR_call [] [0] 17 #[.pointer (some (⟨b,0,none⟩))] (some 46) (by kernel_rfl) (by kernel_rfl) (by decide) (fun w S M hP hG _=>?_)
 refine(placeClock hP).mono ?_
 rintro e4 w4 hR
 rw[show(comPl (newP 0 2 1) (comP (newP 0 2 1) [0,0] [opP5])).clock=1 from rfl]at hR
 refine⟨_,_,_,hR,?_⟩
 try simp only[aQ]
 refine Ya (Rds 23 26) [46,44,45] [zB 0 true] ?_
 try simp only[aQ]
 refine JR_end ?_
 try simp only[aQ]
 refine Yr [[]] (.bool true) fun a w s=>?_
 exact s.ret (by simp) [] [] rfl rfl
end Go.Proofs.YtmkapocibaojdaaGreatDoor
end
section
namespace Go.Sx
open Go
structure Net where
 P:Nat→PlT
 H:Nat→Nat→Nat→List MsgT
 K:Nat→List ComT
def timeAt (l:List MsgT):Nat→Int
 | 0=>0
 | k+1=>((l[k]?).map (·.time)).getD 0
theorem minT_le {l:List Int} {a:Int} (h:a∈l):minT l≤a:=by
 have:∀n (l:List Int),l.length=n→a∈l→minT l≤a:=by
  intro n
  induction n with
  | zero=>
   intro l hl h
   rw[List.length_eq_zero_iff.1 hl]at h
   cases h
  | succ n ih=>
   intro l hl h
   have hne:l≠[]:=fun h0=>by rw[h0]at hl;cases hl
   rw[←List.dropLast_concat_getLast hne]at h ⊢
   by_cases h0:l.dropLast=[]
   ·rw[h0]at h ⊢
    simp at h
    simp[minT,h]
   ·rw[minT_snoc h0]
    rcases List.mem_append.1 h with h|h
    ·have:=ih l.dropLast (by rw[List.length_dropLast];omega) h
     split <;> omega
    ·simp at h
     split <;> omega
 exact this _ l rfl h
end Go.Sx
namespace Go.Proofs.YtmkapocibaojdaaGreatDoor
open Go Go.Sx
theorem opsOf_sameK {key:ByteArray} {l l':List ComT} (hf:∀x∈allDone l,∀y∈allDone l,x.d=y.d→x=y) (hf':∀x∈allDone l',∀y∈allDone l',x.d=y.d→x=y) (hm:∀x:DoneT,x.o.key=key→(x∈allDone l'↔x∈allDone l)):opsOf key l'=opsOf key l:=by
 refine eq_of_sorted (lt:=fun a b=>doneLt a b=true) (fun _ _=>doneLt_asymm) (opsOf_strict key l') (opsOf_strict key l) fun x=>?_
 rw[opsOf_mem,opsOf_mem,firsts_mem hf,firsts_mem hf']
 exact⟨fun⟨h1,h2⟩=>⟨(hm x h2).1 h1,h2⟩,fun⟨h1,h2⟩=>⟨(hm x h2).2 h1,h2⟩⟩
theorem shardE_in {key:ByteArray} {n:Int} (h:1≤n):0≤shardE key n∧shardE key n<n:=by
 unfold shardE
 split
 ·unfold shardN
  have h0:(0:Int)≤sumN key.data.toList:=by omega
  rw[Int.tmod_eq_emod_of_nonneg h0]
  exact⟨Int.emod_nonneg _ (by omega),Int.emod_lt_of_pos _ (by omega)⟩
 ·omega
structure Strm (K:List ComT) (shards f t sh:Nat) (l:List MsgT):Prop where
 at':∀(j:Nat) m,l[j]?=some m→m.fm=f∧m.to=t∧m.shard=sh∧m.seq=j+1∧0≤m.time∧m.time≤K.length∧((m.beat=true∧m.c=⟨[],0,[]⟩)∨(m.beat=false∧∃C∈K,m.c=partC shards C sh∧m.c.ops≠[]∧m.time=C.when.getD f 0))
 inc:l.Pairwise fun a b=>a.time≤b.time∧(b.beat=false→a.time<b.time)
 all:∀C∈K,(partC shards C sh).ops≠[]→∃m∈l,m.beat=false∧m.c=partC shards C sh∧m.time=C.when.getD f 0
structure SndOk (s:SndT) (l:List MsgT):Prop where
 q:s.q=l.length
 t:s.t=timeAt l l.length
 l:∃a,a≤l.length∧s.l=l.drop a
structure RcvOk (r:RcvT) (l:List MsgT):Prop where
 q:r.q≤l.length
 t:r.t=timeAt l r.q.toNat
 l:∀m∈r.l,∃j:Nat,l[j]?=some m∧r.q≤j
def OwnQ (K:List ComT) (q:PutT):Prop:=∃C∈K,∃o∈C.ops,q=⟨C.when,C.place,o⟩
def ComeQ (l:List MsgT) (k:Int) (q:PutT):Prop:=∃(j:Nat) (m:MsgT),l[j]?=some m∧(j:Int)<k∧m.beat=false∧∃o∈m.c.ops,q=⟨m.c.when,m.c.place,o⟩
structure NetIn (places shards:Nat) (x:Net) (n:Nat):Prop where
 pin:∀i<places,PlIn (x.P i) n
 pid:∀i<places,(x.P i).id=i∧(x.P i).places=places∧(x.P i).shards=shards
 clk:∀i<places,((x.K i).length:Int)=(x.P i).clock
 com:∀i<places,∀(j:Nat) C,(x.K i)[j]?=some C→C.place=i∧C.when.getD i 0=j+1∧(comFault C).code=0∧C.when.length=places
 msg:∀f<places,∀t<places,t≠f→∀sh<shards,Strm (x.K f) shards f t sh (x.H f t sh)
 snd:∀f<places,∀s∈(x.P f).ss,SndOk s (x.H f s.to.toNat s.sh.toNat)
 rcv:∀t<places,∀r∈(x.P t).rs,RcvOk r (x.H r.fm.toNat t r.sh.toNat)
 L:∀t<places,∀q,q∈(x.P t).L↔OwnQ (x.K t) q∨∃r∈(x.P t).rs,ComeQ (x.H r.fm.toNat t r.sh.toNat) r.q q
 nodup:∀t<places,((x.P t).L.map dotP).Nodup
 base:∀t<places,∀u<places,inL (x.P t).base (snapL (x.P u))=true
def seenK (K:Nat→List ComT) (places:Nat) (at':List Int):List ComT:=(List.range places).flatMap fun f=>(K f).filter fun C=>inL C.when at'
theorem mem_seenK {K:Nat→List ComT} {places:Nat} {at':List Int} {C:ComT}:C∈seenK K places at'↔∃f<places,C∈K f∧inL C.when at'=true:=by
 simp[seenK,List.mem_flatMap,List.mem_filter,List.mem_range]
theorem inL_at {xs ys:List Int} (h:inL xs ys=true) {j:Nat} {a b:Int} (ha:xs[j]?=some a) (hb:ys[j]?=some b):a≤b:=
 of_decide_eq_true (List.all_eq_true.1 h _ (List.mem_of_getElem? (zip_at ha hb)))
theorem inL_getD {xs ys:List Int} (h:inL xs ys=true) {j:Nat} (h1:j<xs.length) (h2:j<ys.length):xs.getD j 0≤ys.getD j 0:=by
 have:=inL_at h (List.getElem?_eq_getElem h1) (List.getElem?_eq_getElem h2)
 simpa [List.getD_eq_getElem?_getD,h1,h2]using this
section net
variable {places shards n:Nat} {x:Net}
theorem NetIn.mem (h:NetIn places shards x n) {i:Nat} (hi:i<places) {C:ComT} (hC:C∈x.K i):C.place=i∧1≤C.when.getD i 0∧C.when.getD i 0≤(x.K i).length∧(comFault C).code=0∧C.when.length=places:=by
 obtain⟨j,hj⟩:=List.getElem?_of_mem hC
 obtain⟨h1,h2,h3,h4⟩:=h.com i hi j C hj
 have:=(List.getElem?_eq_some_iff.1 hj).1
 exact⟨h1,by omega,by omega,h3,h4⟩
theorem NetIn.uniq (h:NetIn places shards x n) {i:Nat} (hi:i<places) {C D:ComT} (hC:C∈x.K i) (hD:D∈x.K i) (he:C.when.getD i 0=D.when.getD i 0):C=D:=by
 obtain⟨j,hj⟩:=List.getElem?_of_mem hC
 obtain⟨k,hk⟩:=List.getElem?_of_mem hD
 have h1:=(h.com i hi j C hj).2.1
 have h2:=(h.com i hi k D hk).2.1
 have:j=k:=by omega
 subst this
 rw[hj]at hk
 exact Option.some.inj hk
theorem op_uniq {C:ComT} (h:(comFault C).code=0) {a b:OpT} (ha:a∈C.ops) (hb:b∈C.ops) (he:a.no=b.no):a=b:=by
 have hp:=right_pair h
 obtain⟨i,hi,rfl⟩:=List.getElem_of_mem ha
 obtain⟨j,hj,rfl⟩:=List.getElem_of_mem hb
 have:i=j:=by
  rcases Nat.lt_trichotomy i j with hlt|heq|hlt
  ·have:=List.pairwise_iff_getElem.1 hp i j hi hj hlt
   omega
  ·exact heq
  ·have:=List.pairwise_iff_getElem.1 hp j i hj hi hlt
   omega
 subst this
 rfl
theorem NetIn.recv (h:NetIn places shards x n) {t f sh:Nat} (ht:t<places) (hf:f<places) (hne:f≠t) (hs:sh<shards):∃r∈(x.P t).rs,r.fm.toNat=f∧r.sh.toNat=sh:=by
 obtain⟨h1,h2,h3⟩:=h.pid t ht
 have hr:=(h.pin t ht).rs
 rw[h1,h2,h3]at hr
 have hm:(f,sh)∈pairsP t shards places:=List.mem_of_getElem? (pairsP_at hf hne hs)
 rw[←hr]at hm
 obtain⟨r,hr,he⟩:=List.mem_map.1 hm
 obtain⟨e1,e2⟩:=Prod.mk.inj he
 exact⟨r,hr,e1,e2⟩
theorem NetIn.pair (h:NetIn places shards x n) {t:Nat} (ht:t<places) {r:RcvT} (hr:r∈(x.P t).rs):r.fm.toNat<places∧r.fm.toNat≠t∧r.sh.toNat<shards:=by
 obtain⟨h1,h2,h3⟩:=h.pid t ht
 have hp:=(h.pin t ht).rs
 rw[h1,h2,h3]at hp
 have hm:PlT.pairR r∈pairsP t shards places:=by rw[←hp];exact List.mem_map_of_mem hr
 obtain⟨rows,hrow,hm⟩:=List.mem_flatten.1 hm
 obtain⟨k,hk,rfl⟩:=List.mem_map.1 hrow
 unfold rowP at hm
 split at hm
 ·cases hm
 ·rename_i hkt
  obtain⟨i,hi,he⟩:=List.mem_map.1 hm
  obtain⟨e1,e2⟩:=Prod.mk.inj he
  rw[←e1,←e2]
  exact⟨List.mem_range.1 hk,hkt,List.mem_range.1 hi⟩
theorem NetIn.came (h:NetIn places shards x n) {t f:Nat} (ht:t<places) (hf:f<places) (hne:f≠t) {C:ComT} (hC:C∈x.K f) (hle:C.when.getD f 0≤snapT (x.P t) f) {o:OpT} (ho:o∈C.ops):(⟨C.when,C.place,o⟩:PutT)∈(x.P t).L:=by
 obtain⟨hid,hpl,hsh⟩:=h.pid t ht
 obtain⟨c1,c2,c3,c4,c5⟩:=h.mem hf hC
 have hs1:1≤shards:=by
  have:=(h.pin t ht).s1
  omega
 obtain⟨e0,e1⟩:=shardE_in (key:=o.key) (n:=shards) (by omega)
 obtain⟨sh,hsh2⟩:∃sh:Nat,shardE o.key shards=sh:=⟨(shardE o.key shards).toNat,by omega⟩
 have hshl:sh<shards:=by omega
 have hop:o∈(partC shards C sh).ops:=List.mem_filter.2 ⟨ho,by simp[inS,hsh2]⟩
 have hst:=h.msg f hf t ht (Ne.symm hne) sh hshl
 obtain⟨m,hm,hb,hmc,hmt⟩:=hst.all C hC fun h0=>by rw[h0]at hop;cases hop
 obtain⟨j,hj⟩:=List.getElem?_of_mem hm
 obtain⟨r,hr,hrf,hrs⟩:=h.recv ht hf hne hshl
 have hrc:=h.rcv t ht r hr
 rw[hrf,hrs]at hrc
 refine(h.L t ht _).2 (.inr ⟨r,hr,j,m,by rw[hrf,hrs];exact hj,?_,hb,o,by rw[hmc];exact hop,by rw[hmc];rfl⟩)
 apply Int.lt_of_not_ge
 intro hge
 have hst2:snapT (x.P t) f≤r.t:=by
  rw[snapT,if_neg (by rw[hid];exact hne)]
  exact minT_le (List.mem_map.2 ⟨r,List.mem_filter.2 ⟨hr,by simp[hrf]⟩,rfl⟩)
 have h0:=((h.pin t ht).rcv r hr).1
 cases hk:r.q.toNat with
 | zero=>
  have:=hrc.t
  rw[hk]at this
  simp[timeAt]at this
  omega
 | succ k=>
  have hkl:k<(x.H f t sh).length:=by
   have:=hrc.q
   omega
  have hkj:k<j:=by omega
  have hjl:=(List.getElem?_eq_some_iff.1 hj).1
  have hlt:=(List.pairwise_iff_getElem.1 hst.inc k j hkl hjl hkj).2
  rw[(List.getElem?_eq_some_iff.1 hj).2]at hlt
  have h1:=hlt hb
  have h2:=hrc.t
  rw[hk]at h2
  simp[timeAt,hkl]at h2
  omega
theorem NetIn.read (h:NetIn places shards x n) {t:Nat} (ht:t<places) {at':List Int} (hl:at'.length=places) (hs:inL at' (snapL (x.P t))=true) (key:ByteArray):opsOf key (withinC (x.P t).L key at')=opsOf key (seenK x.K places at'):=by
 obtain⟨hid,hpl,hsh⟩:=h.pid t ht
 refine opsOf_sameK (fun a ha b hb he=>?_) (fun a ha b hb he=>?_) fun a hk=>?_
 ·obtain⟨C,hC,o,ho,rfl⟩:=mem_allDone.1 ha
  obtain⟨D,hD,p,hp,rfl⟩:=mem_allDone.1 hb
  obtain⟨f,hf,hC,_⟩:=mem_seenK.1 hC
  obtain⟨g,hg,hD,_⟩:=mem_seenK.1 hD
  simp only[doneOf,dotOf,DotT.mk.injEq]at he
  obtain⟨e1,e2,e3⟩:=he
  obtain⟨c1,_,_,c4,_⟩:=h.mem hf hC
  obtain⟨d1,_,_,_,_⟩:=h.mem hg hD
  have hfg:f=g:=by omega
  subst hfg
  rw[c1,d1,Int.toNat_natCast]at e2
  obtain rfl:=h.uniq hf hC hD e2
  rw[op_uniq c4 ho hp e3]
 ·obtain⟨q,hq,rfl⟩:=within_done ha
  obtain⟨q',hq',rfl⟩:=within_done hb
  have hn:=h.nodup t ht
  obtain⟨i,hi⟩:=List.getElem?_of_mem hq
  obtain⟨j,hj⟩:=List.getElem?_of_mem hq'
  have hi2:((x.P t).L.map dotP)[i]?=some (dotP q):=by rw[List.getElem?_map,hi];rfl
  have hj2:((x.P t).L.map dotP)[j]?=some (dotP q'):=by rw[List.getElem?_map,hj];rfl
  have hij:i=j:=(List.getElem?_inj (List.getElem?_eq_some_iff.1 hi2).1 hn).1 (hi2.trans (by rw[hj2];exact congrArg some he))
  subst hij
  rw[hi]at hj
  cases hj
  rfl
 ·constructor
  ·intro ha
   obtain⟨c,hc,o,ho,rfl⟩:=mem_allDone.1 ha
   obtain⟨hc1,hc2⟩:=List.mem_filter.1 hc
   obtain⟨q,hq,rfl⟩:=mem_keyC hc1
   obtain rfl:=List.mem_singleton.1 ho
   clear ho
   rcases(h.L t ht q).1 hq with ⟨C,hC,p,hp,rfl⟩|⟨r,hr,j,m,hm,_,hb,p,hp,rfl⟩
   ·exact mem_allDone.2 ⟨C,mem_seenK.2 ⟨t,ht,hC,hc2⟩,p,hp,rfl⟩
   ·obtain⟨p1,p2,p3⟩:=h.pair ht hr
    obtain⟨_,_,_,_,_,_,hbody⟩:=(h.msg _ p1 t ht (Ne.symm p2) _ p3).at' j m hm
    rcases hbody with ⟨hb2,_⟩|⟨_,C,hC,hmc,_,_⟩
    ·rw[hb]at hb2
     cases hb2
    ·rw[hmc]at hp hc2 ⊢
     exact mem_allDone.2 ⟨C,mem_seenK.2 ⟨_,p1,hC,hc2⟩,p,(List.mem_filter.1 hp).1,rfl⟩
  ·intro ha
   obtain⟨C,hC,o,ho,rfl⟩:=mem_allDone.1 ha
   obtain⟨f,hf,hC,hin⟩:=mem_seenK.1 hC
   obtain⟨c1,c2,c3,c4,c5⟩:=h.mem hf hC
   have hq:(⟨C.when,C.place,o⟩:PutT)∈(x.P t).L:=by
    by_cases hft:f=t
    ·subst hft
     exact(h.L f hf _).2 (.inl ⟨C,hC,o,ho,rfl⟩)
    ·refine h.came ht hf hft hC ?_ ho
     have h1:=inL_getD hin (j:=f) (by omega) (by omega)
     have h2:=inL_getD hs (j:=f) (by omega) (by rw[snapL,List.length_map,List.length_range];omega)
     have h3:(snapL (x.P t)).getD f 0=snapT (x.P t) f:=by
      rw[snapL,List.getD_eq_getElem?_getD]
      simp[hpl,hf]
     omega
   refine mem_allDone.2 ⟨oneC ⟨C.when,C.place,o⟩,List.mem_filter.2 ⟨List.mem_map.2 ⟨_,List.mem_filter.2 ⟨hq,decide_eq_true hk⟩,rfl⟩,hin⟩,o,by simp[oneC],rfl⟩
end net
end Go.Proofs.YtmkapocibaojdaaGreatDoor
end
section
namespace Go.Sx
open Go
theorem drain_list {H:List MsgT}:∀(n:Nat) (L:List MsgT) (q:Nat) (t:Int),Dist L→(∀m∈L,∃j:Nat,H[j]?=some m∧q≤j∧m.seq=j+1) →
  (drain n L q t).1=(H.drop q).take (drain n L q t).1.length∧(drain n L q t).2.2.2=(if (drain n L q t).1.length=0 then t else timeAt H (q+(drain n L q t).1.length))∧(∀m∈(drain n L q t).2.1,∃j:Nat,H[j]?=some m∧q+(drain n L q t).1.length≤j)∧((drain n L q t).1.length=0∨q+(drain n L q t).1.length≤H.length)
 | 0,L,q,t,_,h=>by
  simp only[drain,List.length_nil,List.take_zero,if_pos,true_and,Nat.add_zero,true_or,and_true]
  exact fun m hm=>by
   obtain⟨j,h1,h2,_⟩:=h m hm
   exact⟨j,h1,h2⟩
 | n+1,L,q,t,hd,h=>by
  unfold drain
  cases hk:kept L ((q:Int)+1)with
  | none=>
   simp only[List.length_nil,List.take_zero,if_pos,true_and,Nat.add_zero,true_or,and_true]
   exact fun m hm=>by
    obtain⟨j,h1,h2,_⟩:=h m hm
    exact⟨j,h1,h2⟩
  | some m=>
   obtain⟨j,hj,hqj,hs⟩:=h m (kept_mem hk)
   have hs2:=kept_seq hk
   have hjq:j=q:=by omega
   subst hjq
   have hL:∀z∈dropK L ((j:Int)+1),∃i:Nat,H[i]?=some z∧j+1≤i∧z.seq=i+1:=fun z hz=>by
    obtain⟨i,hi,hqi,hzs⟩:=h z ((dropK_sub L _).subset hz)
    have hne:=kept_none.1 (show kept (dropK L ((j:Int)+1)) ((j:Int)+1)=none by rw[kept_drop hd,if_pos rfl]) z hz
    exact⟨i,hi,by omega,hzs⟩
   obtain⟨ih1,ih2,ih3,ih4⟩:=drain_list n (dropK L ((j:Int)+1)) (j+1) m.time (hd.drop _) hL
   rw[show((j+1:Nat):Int)=(j:Int)+1 from rfl]at ih1 ih2 ih3 ih4
   have hjl:=(List.getElem?_eq_some_iff.1 hj).1
   have hdr:H.drop j=m::H.drop (j+1):=by rw[List.drop_eq_getElem_cons hjl,(List.getElem?_eq_some_iff.1 hj).2]
   simp only[List.length_cons]
   refine⟨?_,?_,fun z hz=>?_,.inr ?_⟩
   ·rw[hdr,List.take_succ_cons,←ih1]
   ·rw[if_neg (by omega),ih2]
    split
    ·rename_i h0
     rw[h0]
     simp[timeAt,hj]
    ·congr 1
     omega
   ·obtain⟨i,h1,h2⟩:=ih3 z hz
    exact⟨i,h1,by omega⟩
   ·rcases ih4 with h0|h0 <;> omega
end Go.Sx
namespace Go.Proofs.YtmkapocibaojdaaGreatDoor
open Go Go.Sx
section strm
variable {K:List ComT} {shards f t sh:Nat} {H:List MsgT}
theorem Strm.time_mono (hs:Strm K shards f t sh H) {a b:Nat} (hab:a≤b) (hb:b≤H.length):timeAt H a≤timeAt H b:=by
 cases a with
 | zero=>
  cases b with
  | zero=>exact Int.le_refl _
  | succ k=>
   have h:=hs.at' k _ (List.getElem?_eq_getElem (by omega))
   simp only[timeAt,List.getElem?_eq_getElem (show k<H.length by omega),Option.map_some,Option.getD_some]
   exact h.2.2.2.2.1
 | succ i=>
  cases b with
  | zero=>omega
  | succ k=>
   simp only[timeAt,List.getElem?_eq_getElem (show k<H.length by omega),List.getElem?_eq_getElem (show i<H.length by omega),Option.map_some,Option.getD_some]
   rcases Nat.lt_or_ge i k with h|h
   ·exact(List.pairwise_iff_getElem.1 hs.inc i k (by omega) (by omega) h).1
   ·have:i=k:=by omega
    subst this
    exact Int.le_refl _
theorem hear_strm (hs:Strm K shards f t sh H) {y:RcvT} {m:MsgT} {j:Nat} (hr:RcvOk y H) (h1:y.fm=f) (h2:y.to=t) (h3:y.sh=sh) (hd:Dist y.l) (hq:0≤y.q) (hm:H[j]?=some m) (hK:(K.length:Int)≤1099511627776) :
  RcvOk (RcvT.heard y m) H∧(RcvT.hear y m).2.1=(H.drop y.q.toNat).take (RcvT.hear y m).2.1.length∧y.q≤(RcvT.heard y m).q∧((RcvT.hear y m).1=0∨((RcvT.hear y m).1=7∧201<m.seq - y.q)):=by
 obtain⟨m1,m2,m3,m4,m5,m6,_⟩:=hs.at' j m hm
 have triv:∀k,RcvT.hear y m=(k,[],⟨y.l,y.q,y.t⟩)→(k=0∨(k=7∧201<m.seq - y.q))→_:=fun k h hk=>by
  have e:RcvT.heard y m=y:=by simp[RcvT.heard,h]
  refine(⟨by rw[e];exact hr,by rw[h];simp,by rw[e];exact Int.le_refl _,by rw[h];exact hk⟩:RcvOk (RcvT.heard y m) H∧(RcvT.hear y m).2.1=(H.drop y.q.toNat).take (RcvT.hear y m).2.1.length∧y.q≤(RcvT.heard y m).q∧((RcvT.hear y m).1=0∨((RcvT.hear y m).1=7∧201<m.seq - y.q)))
 have c1:¬(m.fm≠y.fm∨m.to≠y.to∨m.shard≠y.sh):=by omega
 have c2:¬(m.seq<1∨m.time<0∨1099511627776<m.time):=by omega
 by_cases c3:m.seq≤y.q
 ·exact triv 0 (by rw[RcvT.hear,hearT,if_neg c1,if_neg c2,if_pos c3]) (.inl rfl)
 by_cases c4:201<m.seq - y.q
 ·exact triv 7 (by rw[RcvT.hear,hearT,if_neg c1,if_neg c2,if_neg c3,if_pos c4]) (.inr ⟨rfl,c4⟩)
 have key:∀L1:List MsgT,RcvT.hear y m=(0,(drainAll L1 y.q y.t).1,⟨(drainAll L1 y.q y.t).2.1,(drainAll L1 y.q y.t).2.2.1,(drainAll L1 y.q y.t).2.2.2⟩)→Dist L1→(∀z∈L1,∃i:Nat,H[i]?=some z∧y.q≤i)→RcvOk (RcvT.heard y m) H∧(RcvT.hear y m).2.1=(H.drop y.q.toNat).take (RcvT.hear y m).2.1.length∧y.q≤(RcvT.heard y m).q∧((RcvT.hear y m).1=0∨((RcvT.hear y m).1=7∧201<m.seq - y.q)):=fun L1 h hd1 hL1=>by
  have hqn:((y.q.toNat:Nat):Int)=y.q:=Int.toNat_of_nonneg hq
  obtain⟨d1,d2,d3,d4⟩:=drain_list (L1.length+1) L1 y.q.toNat y.t hd1 fun z hz=>by
   obtain⟨i,hi,hqi⟩:=hL1 z hz
   exact⟨i,hi,by omega,(hs.at' i z hi).2.2.2.1⟩
  rw[hqn]at d1 d2 d3 d4
  have dq:=drain_q (L1.length+1) L1 y.q y.t
  have hl:=hr.q
  refine⟨⟨?_,?_,fun z hz=>?_⟩,?_,?_,?_⟩ <;> simp only[RcvT.heard,h,drainAll]at *
  ·rcases d4 with h0|h0 <;> omega
  ·rw[d2,dq]
   split
   ·rename_i h0
    rw[h0,hr.t]
    simp
   ·congr 1
    omega
  ·obtain⟨i,h4,h5⟩:=d3 z hz
   exact⟨i,h4,by omega⟩
  ·exact d1
  ·omega
  ·exact .inl trivial
 cases hk:kept y.l m.seq with
 | none=>
  refine key (y.l++[m]) (by rw[RcvT.hear,hearT,if_neg c1,if_neg c2,if_neg c3,if_neg c4];simp only[hk]) (hd.app hk) fun z hz=>?_
  rcases List.mem_append.1 hz with hz|hz
  ·exact hr.l z hz
  ·obtain rfl:=List.mem_singleton.1 hz
   exact⟨j,hm,by omega⟩
 | some z=>exact key y.l (by rw[RcvT.hear,hearT,if_neg c1,if_neg c2,if_neg c3,if_neg c4];simp only[hk]) hd fun z hz=>hr.l z hz
end strm
def comesL (l:List MsgT):List PutT:=l.flatMap fun m=>if m.beat then []else putsOf m.c m.c.ops
theorem putMs_all {p:Nat} {base:List Int} {fm:Int}:∀{l:List MsgT} {L:List PutT},(∀m∈l,m.beat=false→m.c.place=fm∧(comFault m.c).code=0∧m.c.when.length=p∧inL m.c.when base=false)→((L++comesL l).map dotP).Nodup→putMs p base fm L l=L++comesL l
 | [],L,_,_=>by simp[putMs,comesL]
 | m::l,L,h,hn=>by
  have hm:=h m (List.mem_cons_self ..)
  have hl:=fun z hz=>h z (List.mem_cons_of_mem _ hz)
  cases hb:m.beat with
  | true=>
   have e:comesL (m::l)=comesL l:=by simp[comesL,hb]
   rw[e]at hn ⊢
   rw[←putMs_all hl hn,putMs,List.foldl_cons,if_neg (by simp[hb])]
   rfl
  | false=>
   obtain⟨h1,h2,h3,h4⟩:=hm hb
   have e:comesL (m::l)=putsOf m.c m.c.ops++comesL l:=by simp[comesL,hb]
   rw[e,←List.append_assoc]at hn ⊢
   have hp:putL p base L m.c=L++putsOf m.c m.c.ops:=by
    rw[putL,if_pos (putFault_zero.2 ⟨h2,h3,h4,fun o ho hd=>?_⟩)]
    rw[List.map_append,List.map_append,dotP_puts]at hn
    have hn2:=(List.nodup_append.1 hn).1
    exact(List.nodup_append.1 hn2).2.2 _ hd _ (List.mem_map_of_mem ho) rfl
   rw[←putMs_all hl hn,putMs,List.foldl_cons,if_pos ⟨hb,h1⟩,hp]
   rfl
end Go.Proofs.YtmkapocibaojdaaGreatDoor
end
