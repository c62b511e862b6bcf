/- Part 12 of the texts of a claim: SeW PlJ SkQ SeD SeE SkW SeS SeO SkT. -/
import Derived.Test.YtmkapocibaojdaaGreatDoorTs11
section
namespace Go.Proofs.YtmkapocibaojdaaGreatDoor
open Go Go.Sx
section ses
variable {w:World} {S:Nat→Prop} {M:List Nat} {er:Nat→Addr} {eb:Nat→Array Value×TypeId} {x:PlT} {b pb sb n:Nat} {tok at':List Int} {ops:List OpT}
set_option maxHeartbeats 4000000 in
theorem placeDots {n1 c1:Nat} {a1:Option Addr} {key text:ByteArray} (hC:Rep w S .nilIface (dC er eb)) (hP:Pre w S M [cPlace b x]) (hx:PlIn x n) (hn:n≤600) (h1:Rep w S (.slice a1 n1 c1) (dInts at')) (hl1:at'.length≤1000000) :
  Calls Tryz.prog 74 #[.pointer (some ⟨b,0,none⟩),.string key,.string text,.slice a1 n1 c1] w fun e w'=>
   (readK x key at'≠0∧Ret M w S w' e (.tuple #[.slice none 0 0,.iface 390 (.pointer (some (er (readK x key at'))))]) [cPlace b x] []) ∨
   (readK x key at'=0∧∃ua un uc,Ret M w S w' e (.tuple #[.slice ua un uc,.nilIface]) [cPlace b x] [(.slice ua un uc,.sl 3 ((dotsOf key text (withinC x.L key at')).map eDot))]):=by
 refine enG Tryz.func74 bd74 (args:=[.pointer (some ⟨b,0,none⟩),.string key,.string text,.slice a1 n1 c1]) (S:=S) (C:=[cPlace b x]) (G:=[(_,dC er eb),(_,dInts at')]) (by kernel_rfl) hP (.cons hC (.cons h1 (.nil _ _))) ?_
 refine J_stpx (stp_openbox 0 rfl) fun y hy=>?_
 obtain⟨vb,oa,oc,ia,ic,om,im⟩:=y
 refine Nm [cObj b (.cells #[.pointer (sA vb 0),nI (↑x.id:Int),nI (↑x.places:Int),nI (↑x.shards:Int),nI x.clock,.slice (PlBx.mk vb oa oc ia ic om im).oa x.places oc,.slice (PlBx.mk vb oa oc ia ic om im).ia x.places ic] 124 (0,0)),(cVer (PlBx.mk vb oa oc ia ic om im).vb x.places x.base x.L),(cSnds (PlBx.mk vb oa oc ia ic om im).om.flatten x.ss),(cRcvs (PlBx.mk vb oa oc ia ic om im).im.flatten x.rs)] ?_
 try simp only[aQ]
 refine Zs [zR 0,zR 1] [] [zS 8 none 0 0,zV 9 .nilIface] ?_
 refine J_seq ?_
 refine jS [(0,true),(1,true),(2,true),(3,false),(4,true)] [] ?_
 refine Ya (Rds 0 3) [] [zP 11 b,zV 12 (.string key),zS 13 a1 n1 c1] ?_
 refine JR_call [] [0,3] 94 #[.pointer (some (⟨b,0,none⟩)),.string key,.slice a1 n1 c1] (some 14) (by kernel_rfl) (by kernel_rfl) (by decide) (fun w S M hP hG _=>?_)
 refine(pLook (hG.at 0 rfl) hP (hG.at 3 rfl) (hG.at 1 rfl) hy.im hx.toPlOk hl1).mono ?_
 rintro e1 w1 ⟨v,hR,hv⟩
 refine⟨_,_,_,hR,?_⟩
 obtain⟨hk0,rfl⟩|⟨hk0,rfl⟩:=hv
 case inr=>
  have hae:readK x key at'=readErr x key at':=by rw[readK,if_pos hk0]
  rw[hae]
  try simp only[aQ]
  refine Ya [zR 4] [14,11,12,13] [zV 10 (.iface 390 (.pointer (some (er (readErr x key at')))))] ?_
  try simp only[aQ]
  refine JR_end ?_
  try simp only[aQ]
  refine J_seq ?_
  try simp only[aQ]
  refine Za [zR 0,zR 1] [] [zB 16 true] ?_
  try simp only[aQ]
  refine cTt ?_
  try simp only[aQ]
  refine J_seq ?_
  try simp only[aQ]
  refine Za (Rds 0 3) [16,10] [zV 9 (.iface 390 (.pointer (some (er (readErr x key at')))))] ?_
  try simp only[aQ]
  refine Yr [[],[]] (.tuple #[.slice none 0 0,.iface 390 (.pointer (some (er (readErr x key at'))))]) fun a w s=>?_
  have s2:=s.stp (stp_closePl (x:=x) ⟨vb,oa,oc,ia,ic,om,im⟩ [2,0,1,3] 2 3 rfl rfl rfl hy)
  exact .inl ⟨hk0,s2.ret (by simp) [0] [] rfl rfl⟩
 have hae:readK x key at'=atErr x.places x.base key at':=by rw[readK,if_neg (by omega)]
 rw[hae]
 try simp only[aQ]
 refine Ya [zR 4] [14,11,12,13] [zV 10 .nilIface] ?_
 try simp only[aQ]
 refine JR_end ?_
 try simp only[aQ]
 refine J_seq ?_
 try simp only[aQ]
 refine Za [zR 0,zR 1] [] [zB 16 false] ?_
 try simp only[aQ]
 refine cF ?_
 try simp only[aQ]
 refine J_skip ?_
 try simp only[aQ]
 refine J_seq ?_
 try simp only[aQ]
 refine Nm [(cVer vb x.places x.base x.L),(cSnds om.flatten x.ss),cObj b (.cells #[.pointer (sA vb 0),nI (↑x.id:Int),nI (↑x.places:Int),nI (↑x.shards:Int),nI x.clock,.slice oa x.places oc,.slice ia x.places ic] 124 (0,0)),(cRcvs im.flatten x.rs)] ?_
 refine J_show 2 rfl ?_
 refine jT [(0,true),(1,true),(2,true),(3,true),(4,true),(5,true),(6,true),(7,false),(8,true),(9,true),(10,true),(11,true)] [] ?_
 refine Ya (Rds 0 3++[.rd 3 [.o 0 none] 0 0]++Rds 4 7) [16,10,0,1,2,3] [zP 21 vb,zV 22 (.string key),zV 23 (.string text),zS 24 a1 n1 c1] ?_
 refine JR_call [] [0] 138 #[.pointer (some (⟨vb,0,none⟩)),.string key,.string text,.slice a1 n1 c1] (some 25) (by kernel_rfl) (by kernel_rfl) (by decide) (fun w S M hP hG _=>?_)
 refine(verDots (hG.at 0 rfl) hP (hx.ver (by omega)) (hG.at 1 rfl) hl1).mono ?_
 rintro e2 w2 (⟨hf,hR⟩|⟨hf,ua,un,uc,hR⟩)
 ·refine⟨_,_,_,hR,?_⟩
  try simp only[aQ]
  refine Ya (Rds 8 12) [25,21,22,23,24] [zV 9 (.iface 390 (.pointer (some (er (atErr x.places x.base key at')))))] ?_
  try simp only[aQ]
  refine JR_end ?_
  try simp only[aQ]
  refine Yr [[],[]] (.tuple #[.slice none 0 0,.iface 390 (.pointer (some (er (atErr x.places x.base key at'))))]) fun a w s=>?_
  have s2:=(s.hide 0 rfl).stp (stp_closePl (x:=x) ⟨vb,oa,oc,ia,ic,om,im⟩ [3,2,0,1] 2 3 rfl rfl rfl hy)
  exact .inl ⟨hf,s2.ret (by simp) [0] [] rfl rfl⟩
 ·refine⟨_,_,_,hR,?_⟩
  try simp only[aQ]
  refine Ya (Rds 8 12) [25,21,22,23,24] [zS 8 ua un uc] ?_
  try simp only[aQ]
  refine JR_end ?_
  try simp only[aQ]
  refine Yr [[],[]] (.tuple #[.slice ua un uc,.nilIface]) fun a w s=>?_
  have s2:=(s.hide 0 rfl).stp (stp_closePl (x:=x) ⟨vb,oa,oc,ia,ic,om,im⟩ [3,2,0,1] 2 3 rfl rfl rfl hy)
  exact .inr ⟨hf,_,_,_,s2.ret (by simp) [0] [4] rfl rfl⟩
set_option maxHeartbeats 4000000 in
theorem stp_repcap {h r:List (Nat×Obj)} {F:List (List Nat×World)} {S0:Nat→Prop} {C0:List Chunk} {G0:List (Value×D)} (i:Nat) {a:Option Addr} {m c k:Nat} {rows:List (List D)} (hi:G0[i]?=some (.slice a m c,.sl k rows)):Stp h r F ⟨S0,C0,G0⟩ (fun _:Unit=>m≤c) fun _=>⟨S0,C0,G0⟩:=
 stp_know fun w fps H=>(H.g _ (List.mem_of_getElem? hi)).cap
def sesPre (ops:List OpT) (o:OpT):OpT:={ o with no:=ops.length }
def sesErr (x:PlT) (at':List Int) (ops:List OpT) (o:OpT):Nat:=if 12≤ops.length then 7 else if opErr (sesPre ops o) at'.length≠0 then opErr (sesPre ops o) at'.length else if o.remove=true then readK x o.key at' else 0
def sesPut (x:PlT) (at':List Int) (ops:List OpT) (o:OpT):OpT:=if o.remove=true then { sesPre ops o with dots:=(dotsOf o.key o.text (withinC x.L o.key at')).take 60 }else sesPre ops o
def sesOps (x:PlT) (at':List Int) (ops:List OpT) (o:OpT):List OpT:=if sesErr x at' ops o=0 then ops++[sesPut x at' ops o]else ops
set_option maxHeartbeats 8000000 in
theorem sesWrite {z kd nn:Int} {ky tx:ByteArray} {rm:Bool} (hC:Rep w S .nilIface (dC er eb)) (hP:Pre w S M [cPlace pb x,cSes1 sb tok pb at' ops]) (hx:PlIn x n) (hn:n≤600) (hl1:at'.length≤1000000) (hl:ops.length≤1000000) :
  Calls Tryz.prog 102 #[.pointer (some ⟨sb,0,none⟩),.agg #[.int .i64 z,.string ky,.int .i64 kd,.string tx,.int .i64 nn,.bool rm,.slice none 0 0]] w fun e w'=>∃v,Ret M w S w' e v [cPlace pb x,cSes1 sb tok pb at' (sesOps x at' ops ⟨z,ky,kd,tx,nn,rm,[]⟩)] []∧ErrIs 390 er (sesErr x at' ops ⟨z,ky,kd,tx,nn,rm,[]⟩) v:=by
 refine enG Tryz.func102 bd102 (args:=[.pointer (some ⟨sb,0,none⟩),.agg #[.int .i64 z,.string ky,.int .i64 kd,.string tx,.int .i64 nn,.bool rm,.slice none 0 0]]) (S:=S) (C:=[cPlace pb x,cSes1 sb tok pb at' ops]) (G:=[(_,dC er eb)]) (by kernel_rfl) hP (.cons hC (.nil _ _)) ?_
 refine J_stp (stp_all 0 [6] rfl rfl) ?_
 refine J_glob 1 rfl (fun csg1 tyg1 fzg1 hglob1=>?_)
 refine J_stpx (stp_openbox 1 rfl) fun y _=>?_
 obtain⟨ta,tn,tc,tb,aa,an,ac,oa,on,oc⟩:=y
 dsimp only
 refine Nm [(cPlace pb x),cObj sb (.cells #[.pointer (sA tb 0),.slice ta tn tc] 181 (0,0)),cObj tb (.cells #[.pointer (sA pb 0),.slice aa an ac,.slice oa on oc] 184 (0,0)),cAcc (.slice oa on oc) 55 7 (List.map eOp ops)] ?_
 refine J_stpx (stp_acclen 3 rfl) fun _ hon=>?_
 rw[List.length_map]at hon
 subst hon
 refine J_stpx (stp_replen 3 rfl) fun _ han=>?_
 rw[List.length_map]at han
 subst han
 refine J_show 1 rfl ?_
 refine J_show 1 rfl ?_
 try simp only[aQ]
 refine Zv [.wr 0 [] 0,zR 1] [] [1] (fun nu1=>[zP 3 (nu1 0),zV 4 .nilIface]) o0 (fun nu1=>[(nu1 0,.cells #[nI z,.string ky,nI kd,.string tx,nI nn,.bool rm,.slice none 0 0] 55 (0,0))]) (fun nu1=>?_)
 refine J_seq ?_
 refine Zs (Rds 0 3++[.rd 3 [.o 0 none] 0 0,zR 4]) [] [zB 12 false] ?_
 refine cF ?_
 refine J_skip (J_seq ?_)
 refine Zs (Rds 0 3++[.rd 3 [.o 0 none] 0 0,zR 4,zR 5,.rd 6 [.o 1 none] 0 0,zR 7,zR 8]) [12] [zB 22 (decide ((↑ops.length:Int)≥12))] ?_
 refine cC (t:=decide ((↑ops.length:Int)≥12)) (fun hfull=>?_) (fun hfull=>?_)
 ·have h12:12≤ops.length:=by simp at hfull;omega
  have he:sesErr x at' ops ⟨z,ky,kd,tx,nn,rm,[]⟩=7:=by rw[sesErr,if_pos h12]
  have ho:sesOps x at' ops ⟨z,ky,kd,tx,nn,rm,[]⟩=ops:=by rw[sesOps,he,if_neg (by decide)]
  rw[he,ho]
  refine Zt [.rd 0 [.r 0 (some (.iface 390 (.pointer (some (er 7)))))] 0 0,zR 1] [22] [zV 4 (.iface 390 (.pointer (some (er 7))))] (oC hglob1 oN) ?_
  refine Yr [[]] (.iface 390 (.pointer (some (er 7)))) fun a w s=>?_
  have s2:=((s.hide 0 rfl).hide 0 rfl).stp (stp_closebox (C:=fun y:SesX=>[cObj sb (sesO (some ⟨y.tb,0,none⟩) (.slice y.ta y.tn y.tc)),cObj y.tb (turnO pb (.slice y.aa y.an y.ac) (.slice y.oa y.on y.oc)),cAcc (.slice y.oa y.on y.oc) 55 7 (ops.map eOp)]) (G:=fun y:SesX=>[(.slice y.ta y.tn y.tc,dInts tok),(.slice y.aa y.an y.ac,dInts at')]) (p:=fun _=>True) [2,3,1] ⟨ta,tn,tc,tb,aa,at'.length,ac,oa,ops.length,oc⟩ rfl (by simp) trivial)
  exact⟨_,s2.ret (by simp) [0,1] [] rfl rfl,.inr ⟨by decide,rfl⟩⟩
 have h12:¬12≤ops.length:=by simp at hfull;omega
 refine J_skip ?_
 refine Zv (Rds 0 3++[.rd 3 [.o 0 none] 0 0,zR 4,zR 5,.rd 6 [.o 1 none] 0 0,zR 7,zR 8,.wr 9 [.o 2 none] 0]) [(9,[2])] [22] (fun _=>[]) (fun _=>[(2,.cells #[nI (↑ops.length:Int),.string ky,nI kd,.string tx,nI nn,.bool rm,.slice none 0 0] 55 (0,0))]) o0 (fun _=>?_)
 refine J_seq ?_
 refine jS [(0,true),(1,true),(2,true),(3,true),(4,true),(5,true),(6,true),(7,true),(8,true),(9,false),(10,true)] [] ?_
 refine Ya ([.rd 0 (hnO 2 7) 0 0]++Rds 1 4++[.rd 4 [.o 0 none] 0 0,zR 5,zR 6,.rd 7 [.o 1 none] 0 0,zR 8]) [] [zV 33 (.agg #[nI (↑ops.length:Int),.string ky,nI kd,.string tx,nI nn,.bool rm,.slice none 0 0]),zI 41 (↑at'.length:Int)] ?_
 refine Yc 144 #[.agg #[nI (↑ops.length:Int),.string ky,nI kd,.string tx,nI nn,.bool rm,.slice none 0 0],nI (↑at'.length:Int)] (some 42) fun w S hG=>?_
 refine(vCheckOp (o:=sesPre ops ⟨z,ky,kd,tx,nn,rm,[]⟩) (hG.at 0 rfl) (show Rep _ _ (.slice none 0 0) (.sl 3 ((sesPre ops ⟨z,ky,kd,tx,nn,rm,[]⟩).dots.map eDot)) from .nil)).mono ?_
 rintro e3 w3 ⟨v,hR,hv⟩
 refine⟨_,_,_,hR,?_⟩
 obtain⟨hv0,rfl⟩|⟨hv0,rfl⟩:=hv
 case inr=>
  have he:sesErr x at' ops ⟨z,ky,kd,tx,nn,rm,[]⟩=opErr (sesPre ops ⟨z,ky,kd,tx,nn,rm,[]⟩) at'.length:=by rw[sesErr,if_neg h12,if_pos hv0]
  have ho:sesOps x at' ops ⟨z,ky,kd,tx,nn,rm,[]⟩=ops:=by rw[sesOps,he,if_neg hv0]
  rw[he,ho]
  try simp only[aQ]
  refine Ya [zR 10] [42,33,41] [zV 5 (.iface 390 (.pointer (some (er (opErr (sesPre ops (OpT.mk z ky kd tx nn rm [])) (↑at'.length:Int))))))] ?_
  refine JR_end ?_
  refine Zs [zR 0,zR 1] [] [zB 44 true] ?_
  refine cTt ?_
  refine Zs [zR 0,zR 1] [44,5] [zV 4 (.iface 390 (.pointer (some (er (opErr (sesPre ops (OpT.mk z ky kd tx nn rm [])) (↑at'.length:Int))))))] ?_
  refine Yr [[]] (.iface 390 (.pointer (some (er (opErr (sesPre ops (OpT.mk z ky kd tx nn rm [])) (↑at'.length:Int)))))) fun a w s=>?_
  have s2:=((s.hide 0 rfl).hide 0 rfl).stp (stp_closebox (C:=fun y:SesX=>[cObj sb (sesO (some ⟨y.tb,0,none⟩) (.slice y.ta y.tn y.tc)),cObj y.tb (turnO pb (.slice y.aa y.an y.ac) (.slice y.oa y.on y.oc)),cAcc (.slice y.oa y.on y.oc) 55 7 (ops.map eOp)]) (G:=fun y:SesX=>[(.slice y.ta y.tn y.tc,dInts tok),(.slice y.aa y.an y.ac,dInts at')]) (p:=fun _=>True) [2,3,1] ⟨ta,tn,tc,tb,aa,at'.length,ac,oa,ops.length,oc⟩ rfl (by simp) trivial)
  exact⟨_,s2.ret (by simp) [0,1] [] rfl rfl,.inr ⟨hv0,rfl⟩⟩
 cases rm with
 | true=>
  try simp only[aQ]
  refine Ya [zR 10] [42,33,41] [zV 5 .nilIface] ?_
  refine JR_end ?_
  refine Zs [zR 0,zR 1] [] [zB 44 false] ?_
  refine cF ?_
  refine J_skip (J_seq ?_)
  refine Zs [zR 0,.rd 1 [.o 2 none] 0 0] [44,5] [zB 47 true] ?_
  refine cTt ?_
  refine jS [(0,true),(1,true),(2,true),(3,true),(4,true),(5,true),(6,true),(7,true),(8,true),(9,true),(10,true),(11,true),(12,true),(13,true),(14,true),(15,true),(16,true),(17,true),(18,false),(19,true),(20,true),(21,true),(22,true),(23,true)] [(18,[])] ?_
  refine Ya (Rds 0 3++[.rd 3 [.o 0 none] 0 0,zR 4,zR 5,.rd 6 [.o 1 none] 0 0,zR 7,.rd 8 [.o 2 none] 0 0,zR 9,.rd 10 [.o 2 none] 0 0]++Rds 11 14++[.rd 14 [.o 0 none] 0 0,zR 15,zR 16,.rd 17 [.o 1 none] 0 0]) [47] [zP 55 pb,zV 57 (.string ky),zV 59 (.string tx),zS 66 aa at'.length ac] ?_
  refine JR_call [] [0] 74 #[.pointer (some (⟨pb,0,none⟩)),.string ky,.string tx,.slice aa at'.length ac] (some 67) (by kernel_rfl) (by kernel_rfl) (by decide) (fun w S M hP hG _=>?_)
  refine(placeDots (hG.at 0 rfl) hP hx hn (hG.at 3 rfl) hl1).mono ?_
  rintro e4 w4 (⟨hf,hR⟩|⟨hf,ua,un,uc,hR⟩)
  ·have he:sesErr x at' ops ⟨z,ky,kd,tx,nn,true,[]⟩=readK x ky at':=by rw[sesErr,if_neg h12,if_neg (by simp[hv0]),if_pos rfl]
   have ho:sesOps x at' ops ⟨z,ky,kd,tx,nn,true,[]⟩=ops:=by rw[sesOps,he,if_neg hf]
   rw[he,ho]
   refine⟨_,_,_,hR,?_⟩
   try simp only[aQ]
   refine Ya (Rds 19 24) [67,55,57,59,66] [zS 6 none 0 0,zV 7 (.iface 390 (.pointer (some (er (readK x ky at')))))] ?_
   try simp only[aQ]
   refine JR_end ?_
   try simp only[aQ]
   refine J_seq ?_
   try simp only[aQ]
   refine J_seq ?_
   try simp only[aQ]
   refine Za [zR 0,zR 1] [] [zB 71 true] ?_
   try simp only[aQ]
   refine cTt ?_
   try simp only[aQ]
   refine J_seq ?_
   try simp only[aQ]
   refine Za [zR 0,zR 1] [71,7] [zV 4 (.iface 390 (.pointer (some (er (readK x ky at')))))] ?_
   try simp only[aQ]
   refine Yr [[]] (.iface 390 (.pointer (some (er (readK x ky at'))))) fun a w s=>?_
   have s2:=((s.hide 0 rfl).hide 0 rfl).stp (stp_closebox (C:=fun y:SesX=>[cObj sb (sesO (some ⟨y.tb,0,none⟩) (.slice y.ta y.tn y.tc)),cObj y.tb (turnO pb (.slice y.aa y.an y.ac) (.slice y.oa y.on y.oc)),cAcc (.slice y.oa y.on y.oc) 55 7 (ops.map eOp)]) (G:=fun y:SesX=>[(.slice y.ta y.tn y.tc,dInts tok),(.slice y.aa y.an y.ac,dInts at')]) (p:=fun _=>True) [2,3,0] ⟨ta,tn,tc,tb,aa,at'.length,ac,oa,ops.length,oc⟩ rfl (by simp) trivial)
   exact⟨_,s2.ret (by simp) [0,1] [] rfl rfl,.inr ⟨hf,rfl⟩⟩
  ·refine⟨_,_,_,hR,?_⟩
   have he:sesErr x at' ops ⟨z,ky,kd,tx,nn,true,[]⟩=0:=by rw[sesErr,if_neg h12,if_neg (by simp[hv0]),if_pos rfl,hf]
   have ho:sesOps x at' ops ⟨z,ky,kd,tx,nn,true,[]⟩=ops++[sesPut x at' ops ⟨z,ky,kd,tx,nn,true,[]⟩]:=by rw[sesOps,if_pos he]
   rw[he,ho,show sesPut x at' ops ⟨z,ky,kd,tx,nn,true,[]⟩=⟨ops.length,ky,kd,tx,nn,true,(dotsOf ky tx (withinC x.L ky at')).take 60⟩ from rfl]
   generalize dotsOf ky tx (withinC x.L ky at')=D
   try simp only[aQ]
   refine Ya (Rds 19 24) [67,55,57,59,66] [zS 6 ua un uc,zV 7 .nilIface] ?_
   try simp only[aQ]
   refine JR_end ?_
   try simp only[aQ]
   refine J_seq ?_
   try simp only[aQ]
   refine J_seq ?_
   try simp only[aQ]
   refine Za [zR 0,zR 1] [] [zB 71 false] ?_
   try simp only[aQ]
   refine cF ?_
   try simp only[aQ]
   refine J_skip ?_
   try simp only[aQ]
   refine Nm [cAcc (.slice oa ops.length oc) 55 7 (List.map eOp ops),(cPlace pb x)] ?_
   refine J_stpx (stp_replen 4 rfl) fun _ hun=>?_
   rw[List.length_map]at hun
   subst hun
   refine J_stpx (stp_repcap 4 rfl) fun _ hcap=>?_
   have hk:(if (60:Int)<(D.length:Int)then (60:Int)else (D.length:Int)).toNat=(D.take 60).length:=by
    rw[List.length_take]
    split <;> omega
   have hk2:(D.map eDot).take (D.take 60).length=(D.take 60).map eDot:=by
    rw[List.length_take,←List.map_take]
    congr 1
    rw[List.take_eq_take_iff]
    omega
   refine Zn (Rds 0 4++[.rd 4 [] 0 4,zR 5,.wr 6 [.o 2 none] 0]) [(6,[2])] [71,6,7] (fun _=>[]) (fun _=>[(2,.cells #[nI (↑ops.length:Int),.string ky,nI kd,.string tx,nI nn,.bool true,.slice ua ((if 60<(↑D.length:Int)then 60 else (↑D.length:Int)).toNat) uc] 55 (0,0))]) o0 (fun _=>(oC (show 0≤if (60:Int)<(↑D.length:Int)then (60:Int)else (↑D.length:Int) from by omega) (oC (show(if (60:Int)<(↑D.length:Int)then (60:Int)else (↑D.length:Int))≤(↑uc:Int) from by omega) oN))) (fun _=>?_)
   refine J_seq ?_
   refine Nm [cAcc (.slice oa ops.length oc) 55 7 (List.map eOp ops),(cPlace pb x)] ?_
   rw[hk]
   refine J_stp (stp_fact (v:=.slice ua (D.take 60).length uc) (d:=.sl 3 ((D.take 60).map eDot)) fun w S hG=>?_) ?_
   ·have:=(hG (.slice ua D.length uc,.sl 3 (D.map eDot)) (by simp)).take (i:=(D.take 60).length) (c':=uc) (by rw[List.length_take];omega) hcap
    rwa[hk2]at this
   refine Nm [cAcc (.slice oa ops.length oc) 55 7 (List.map eOp ops),(cPlace pb x)] ?_
   try simp only[aQ]
   refine jT [(0,true),(1,true),(2,true),(3,true),(4,true),(5,true),(6,true),(7,true),(8,true),(9,true),(10,true),(11,true),(12,false),(13,false),(14,true),(15,true),(16,false)] [(13,[]),(16,[1])] ?_
   refine Ym (Rds 0 3++[.rd 3 [.o 0 none] 0 0]++Rds 4 7++[.rd 7 [.o 0 none] 0 0,zR 8,zR 9,.rd 10 [.o 1 none] 0 0,.rd 11 (hnO 2 7) 0 0,.wr 12 [] 0]) [3,0] (fun nu2=>[zP 82 tb,zS 89 oa ops.length oc,zS 91 (sA (nu2 0) 0) 1 1]) o0 (fun nu2=>[(nu2 0,.cells #[nI (↑ops.length:Int),.string ky,nI kd,.string tx,nI nn,.bool true,.slice ua ((List.take 60 D).length) uc] 55 (0,0))]) [(13,[]),(16,[1])] (fun nu2=>?_)
   refine JR_appm 0 33 55 7 88 (.agg #[.int .i64 0,.string (ByteArray.mk #[]),.int .i64 0,.string (ByteArray.mk #[]),.int .i64 0,.bool false,.slice none 0 0]) (a0:=oa) (len:=ops.length) (cap0:=oc) (ax:=(some (⟨nu2 0,0,none⟩))) (m:=1) (c:=1) (dst:=(some 92)) [⟨ops.length,ky,kd,tx,nn,true,D.take 60⟩] (by kernel_rfl) (by kernel_rfl) (by kernel_rfl) (by kernel_rfl) rfl (by decide) rfl (fun _ _ _ s=>src_one s 3 rfl rfl ⟨.inl ⟨rfl,rfl⟩,⟨.inl ⟨rfl,rfl⟩,⟨.inl ⟨rfl,rfl⟩,⟨.inl ⟨rfl,rfl⟩,⟨.inl ⟨rfl,rfl⟩,⟨.inl ⟨rfl,rfl⟩,⟨.inr (.inl (List.mem_of_getElem? (i:=5) rfl)),trivial⟩⟩⟩⟩⟩⟩⟩) (by simp only[maxLen];omega) (by omega) (fun av1 cv1=>?_)
   try simp only[aQ]
   refine Ym [zR 14,zR 15,.wr 16 [.o 1 none] 0] [92,82,89,91] (fun _=>[]) (fun _=>[(1,.cells #[.pointer (sA pb 0),.slice aa at'.length ac,.slice av1 (ops.length+1) cv1] 184 (0,0))]) o0 [] (fun _=>?_)
   try simp only[aQ]
   refine JR_end ?_
   try simp only[aQ]
   refine J_seq ?_
   try simp only[aQ]
   refine Za [zR 0] [] [] ?_
   try simp only[aQ]
   refine Yr [[]] (.nilIface) fun a w s=>?_
   have s2:=((s.hide 0 rfl).hide 0 rfl).stp (stp_closebox (C:=fun y:SesX=>[cObj sb (sesO (some ⟨y.tb,0,none⟩) (.slice y.ta y.tn y.tc)),cObj y.tb (turnO pb (.slice y.aa y.an y.ac) (.slice y.oa y.on y.oc)),cAcc (.slice y.oa y.on y.oc) 55 7 ((ops++[(⟨ops.length,ky,kd,tx,nn,true,D.take 60⟩:OpT)]).map eOp)]) (G:=fun y:SesX=>[(.slice y.ta y.tn y.tc,dInts tok),(.slice y.aa y.an y.ac,dInts at')]) (p:=fun _=>True) [2,3,1] ⟨ta,tn,tc,tb,aa,at'.length,ac,av1,ops.length+1,cv1⟩ rfl (by simp) trivial)
   exact⟨_,s2.ret (by simp) [0,1] [] rfl rfl,.inl ⟨rfl,rfl⟩⟩
 | false=>
  have he:sesErr x at' ops ⟨z,ky,kd,tx,nn,false,[]⟩=0:=by rw[sesErr,if_neg h12,if_neg (by simp[hv0]),if_neg (by simp)]
  have ho:sesOps x at' ops ⟨z,ky,kd,tx,nn,false,[]⟩=ops++[sesPut x at' ops ⟨z,ky,kd,tx,nn,false,[]⟩]:=by rw[sesOps,if_pos he]
  rw[he,ho,show sesPut x at' ops ⟨z,ky,kd,tx,nn,false,[]⟩=⟨ops.length,ky,kd,tx,nn,false,[]⟩ from rfl]
  try simp only[aQ]
  refine Ya [zR 10] [42,33,41] [zV 5 .nilIface] ?_
  refine JR_end ?_
  refine Zs [zR 0,zR 1] [] [zB 44 false] ?_
  refine cF ?_
  refine J_skip (J_seq ?_)
  refine Zs [zR 0,.rd 1 [.o 2 none] 0 0] [44,5] [zB 47 false] ?_
  refine cF ?_
  refine J_skip ?_
  refine jS [(0,true),(1,true),(2,true),(3,true),(4,true),(5,true),(6,true),(7,true),(8,true),(9,true),(10,true),(11,true),(12,false),(13,false),(14,true),(15,true),(16,false)] [(13,[]),(16,[1])] ?_
  refine Ym (Rds 0 3++[.rd 3 [.o 0 none] 0 0]++Rds 4 7++[.rd 7 [.o 0 none] 0 0,zR 8,zR 9,.rd 10 [.o 1 none] 0 0,.rd 11 (hnO 2 7) 0 0,.wr 12 [] 0]) [47,3,0] (fun nu2=>[zP 82 tb,zS 89 oa ops.length oc,zS 91 (sA (nu2 0) 0) 1 1]) o0 (fun nu2=>[(nu2 0,.cells #[nI (↑ops.length:Int),.string ky,nI kd,.string tx,nI nn,.bool false,.slice none 0 0] 55 (0,0))]) [(13,[]),(16,[1])] (fun nu2=>?_)
  refine JR_appm 1 33 55 7 88 (.agg #[.int .i64 0,.string (ByteArray.mk #[]),.int .i64 0,.string (ByteArray.mk #[]),.int .i64 0,.bool false,.slice none 0 0]) (a0:=oa) (len:=ops.length) (cap0:=oc) (ax:=(some (⟨nu2 0,0,none⟩))) (m:=1) (c:=1) (dst:=(some 92)) [⟨ops.length,ky,kd,tx,nn,false,[]⟩] (by kernel_rfl) (by kernel_rfl) (by kernel_rfl) (by kernel_rfl) rfl (by decide) rfl (fun _ _ _ s=>src_one s 3 rfl rfl ⟨.inl ⟨rfl,rfl⟩,⟨.inl ⟨rfl,rfl⟩,⟨.inl ⟨rfl,rfl⟩,⟨.inl ⟨rfl,rfl⟩,⟨.inl ⟨rfl,rfl⟩,⟨.inl ⟨rfl,rfl⟩,⟨.inr (.inr ⟨_,_,_,rfl,rfl⟩),trivial⟩⟩⟩⟩⟩⟩⟩) (by simp only[maxLen];omega) (by omega) (fun av1 cv1=>?_)
  try simp only[aQ]
  refine Ym [zR 14,zR 15,.wr 16 [.o 1 none] 0] [92,82,89,91] (fun _=>[]) (fun _=>[(1,.cells #[.pointer (sA pb 0),.slice aa at'.length ac,.slice av1 (ops.length+1) cv1] 184 (0,0))]) o0 [] (fun _=>?_)
  try simp only[aQ]
  refine JR_end ?_
  try simp only[aQ]
  refine J_seq ?_
  try simp only[aQ]
  refine Za [zR 0] [] [] ?_
  try simp only[aQ]
  refine Yr [[]] (.nilIface) fun a w s=>?_
  have s2:=((s.hide 0 rfl).hide 0 rfl).stp (stp_closebox (C:=fun y:SesX=>[cObj sb (sesO (some ⟨y.tb,0,none⟩) (.slice y.ta y.tn y.tc)),cObj y.tb (turnO pb (.slice y.aa y.an y.ac) (.slice y.oa y.on y.oc)),cAcc (.slice y.oa y.on y.oc) 55 7 ((ops++[(⟨ops.length,ky,kd,tx,nn,false,[]⟩:OpT)]).map eOp)]) (G:=fun y:SesX=>[(.slice y.ta y.tn y.tc,dInts tok),(.slice y.aa y.an y.ac,dInts at')]) (p:=fun _=>True) [2,3,1] ⟨ta,tn,tc,tb,aa,at'.length,ac,av1,ops.length+1,cv1⟩ rfl (by simp) trivial)
  exact⟨_,s2.ret (by simp) [0,1] [] rfl rfl,.inl ⟨rfl,rfl⟩⟩
end ses
end Go.Proofs.YtmkapocibaojdaaGreatDoor
end
section
namespace Go.Proofs.YtmkapocibaojdaaGreatDoor
open Go Go.Sx
theorem oneC_fine {c:ComT} {q:PutT} (h1:q.place=c.place) (h2:q.when=c.when) (h3:q.op∈c.ops) (hc:(comFault c).code=0):(comFault (oneC q)).code=0:=
 PartOf.fault ⟨h1,h2,by simp[oneC],List.singleton_sublist.2 h3⟩ hc
theorem PlIn.mono {x:PlT} {n k:Nat} (h:PlIn x n) (hk:n≤k):PlIn x k:=
 { h with clk:=by have:=h.clk;omega,snd:=fun s hs=>by have:=h.snd s hs;omega,rcv:=fun r hr=>by have:=h.rcv r hr;exact⟨this.1,by omega,this.2.2⟩ }
theorem com_in {x:PlT} {n:Nat} {at':List Int} {ops:List OpT} (hx:PlIn x n) (h:(comErr x at' ops).code=0) (hd:∀o∈ops,o.dots.length≤1000000):PlIn (comPl x (comP x at' ops)) (n+1):=by
 have h0:=hx.mono (Nat.le_succ n)
 obtain⟨h1,h2,h3⟩:=comErr_ok h
 obtain⟨_,h4,_⟩:=known_len h1
 have hid:=hx.id
 have hw:=comP_when (ops:=ops) (by omega:x.id<at'.length)
 have hr:=right_of h3
 have hwl:(comP x at' ops).when.length=x.places:=by simp[comP,h4]
 have hc:=hx.clk
 have hc0:=hx.c0
 have hp6:=hx.p6
 refine{ h0 with c0:=?_,c1:=?_,ss:=?_,clk:=?_,bclk:=?_,dots:=fun q hq hp=>?_,put:=fun q hq=>?_,snd:=fun s hs=>?_,way:=fun s hs=>?_,fit:=fun s hs z hz=>?_,few:=?_ }
 ·show 0≤x.clock+1
  omega
 ·show x.clock+1≤_
  omega
 ·show(x.ss.map (sndC x.shards (comP x at' ops))).map PlT.pair=_
  rw[List.map_map]
  refine Eq.trans (List.map_congr_left fun y _=>?_) h0.ss
  show PlT.pair (sndC x.shards (comP x at' ops) y)=_
  unfold sndC
  split <;> rfl
 ·show x.clock+1≤_
  omega
 ·have:=hx.bclk
  show x.base.getD x.id 0≤x.clock+1
  omega
 ·show q.when.getD x.id 0≤x.clock+1
  rcases List.mem_append.1 hq with hq|hq
  ·have:=hx.dots q hq hp
   omega
  ·obtain⟨o,ho,rfl⟩:=List.mem_map.1 hq
   show(comP x at' ops).when.getD x.id 0≤_
   omega
 ·rcases List.mem_append.1 hq with hq|hq
  ·exact hx.put q hq
  ·obtain⟨o,ho,rfl⟩:=List.mem_map.1 hq
   exact⟨oneC_fine rfl rfl ho h3,hwl⟩
 ·obtain⟨y,hy,rfl⟩:=List.mem_map.1 hs
  have hy2:=hx.snd y hy
  unfold sndC
  split
  ·refine⟨hy2.1,?_,hy2.2.2.1,by omega,by omega⟩
   show y.t≤x.clock+1
   omega
  ·refine⟨hy2.1,?_,?_,?_,?_⟩
   ·show(comP x at' ops).when.getD (x.id:Int).toNat 0≤x.clock+1
    rw[Int.toNat_natCast,hw]
    exact Int.le_refl _
   ·show 0≤y.q+1
    omega
   ·show y.q+1≤_
    omega
   ·show(y.l++_).length≤_
    simp
    omega
 ·obtain⟨y,hy,rfl⟩:=List.mem_map.1 hs
  have:=hx.way y hy
  unfold sndC
  split <;> exact this
 ·obtain⟨y,hy,rfl⟩:=List.mem_map.1 hs
  unfold sndC at hz
  split at hz
  ·exact hx.fit y hy z hz
  ·rcases List.mem_append.1 hz with hz|hz
   ·exact hx.fit y hy z hz
   ·obtain rfl:=List.mem_singleton.1 hz
    refine⟨?_,?_,fun o ho=>?_⟩
    ·show(comP x at' ops).when.length≤_
     omega
    ·have h5:(partC x.shards (comP x at' ops) y.sh).ops.length≤(comP x at' ops).ops.length:=List.length_filter_le _ _
     have h6:=hr.o2
     show(partC x.shards (comP x at' ops) y.sh).ops.length≤_
     omega
    ·exact renum_dots hd o (List.mem_filter.1 ho).1
 ·have h5:=hx.few
  have h6:=hr.o2
  show((x.L++putsOf (comP x at' ops) (comP x at' ops).ops).length:Int)≤12*(x.clock+1+(x.rs.map (·.q)).sum)
  simp only[List.length_append,putsOf,List.length_map]
  omega
end Go.Proofs.YtmkapocibaojdaaGreatDoor
end
section
namespace Go.Proofs.YtmkapocibaojdaaGreatDoor
open Go Go.Sx
structure KeepI (x:PlT) (n:Nat):Prop where
 pin:PlIn x n
 p:x.places=1
 id:x.id=0
 base:x.base=[0]
 lone:Lone x.L x.clock
structure OsOk (t:Int) (os:List OpT):Prop where
 len:os.length≤12
 no:∀(i:Nat) o,os[i]?=some o→o.no=i
 err:∀o∈os,opErr o 1=0
 dots:∀o∈os,∀d∈o.dots,d.time≤t
theorem KeepI.new {n:Nat}:KeepI (newP 0 1 1) n:=⟨newP_in n (by omega) (by omega) (by omega) (by omega) (by omega),rfl,rfl,rfl,by simp[newP],by simp[newP]⟩
theorem KeepI.snap {x:PlT} {n:Nat} (h:KeepI x n):snapL x=[x.clock]:=by
 rw[snapL,h.p]
 show[snapT x 0]=[x.clock]
 rw[snapT,if_pos h.id.symm]
theorem KeepI.clk {x:PlT} {n:Nat} (h:KeepI x n):0≤x.clock∧x.clock≤n∧x.clock≤1099511627776:=⟨h.pin.c0,h.pin.clk,h.pin.c1⟩
theorem vec1_ok {t:Int} (h0:0≤t) (h1:t≤1099511627776):vecErr [t]=0:=by
 rw[vecErr,if_neg (by simp),if_neg]
 simp[badT]
 omega
theorem in1_ok {s t:Int} (h:s≤t):inL [s] [t]=true:=by simp[inL,h]
theorem KeepI.known {x:PlT} {n:Nat} (h:KeepI x n):knownErr x [x.clock]=0:=by
 obtain⟨h0,_,h1⟩:=h.clk
 rw[knownErr,if_neg (by simp[vec1_ok h0 h1]),if_neg (by simp[h.p]),h.snap,if_pos (in1_ok (Int.le_refl _))]
theorem KeepI.atE {x:PlT} {n:Nat} (h:KeepI x n) (key:ByteArray):atErr x.places x.base key [x.clock]=if nameOk key=true then 0 else 4:=by
 obtain⟨h0,_,h1⟩:=h.clk
 rw[atErr]
 cases hk:nameOk key with
 | false=>rfl
 | true=>rw[if_neg (by simp),if_neg (by simp[vec1_ok h0 h1]),if_neg (by simp[h.p]),h.base,in1_ok h0];rfl
theorem KeepI.readE {x:PlT} {n:Nat} (h:KeepI x n) (key:ByteArray):readK x key [x.clock]=if nameOk key=true then 0 else 4:=by
 rw[readK,h.atE,readErr,h.known]
 cases hk:nameOk key <;> rfl
theorem KeepI.op {x:PlT} {n:Nat} (h:KeepI x n) {q:PutT} (hq:q∈x.L):∃s,q.when=[s]∧q.place=0∧1≤s∧s≤x.clock∧opErr q.op 1=0:=by
 obtain⟨s,h1,h2,h3⟩:=h.lone.at' q hq
 obtain⟨h4,_⟩:=h.pin.put q hq
 have hr:=right_of h4
 have hw:(oneC q).when=[s]:=h1
 have hv:=hr.vec
 rw[hw]at hv
 have ht:=hr.t0
 rw[hw,show(oneC q).place=0 from h2]at ht
 have hs:s≠0:=fun h0=>ht (by rw[h0];rfl)
 have hs0:0≤s:=by
  rw[vecErr,if_neg (by simp)]at hv
  split at hv
  ·cases hv
  ·rename_i hb
   simp[badT]at hb
   omega
 have ho:=right_ops h4 q.op (List.mem_singleton.2 rfl)
 rw[hw]at ho
 exact⟨s,h1,h2,by omega,h3,ho⟩
theorem dots_mem {key text:ByteArray} {l:List ComT} {d:DotT} (h:d∈dotsOf key text l):∃x∈allDone l,d=x.d:=by
 unfold dotsOf at h
 split at h
 ·rw[sortDots,List.mem_mergeSort,textDots]at h
  obtain⟨x,hx,rfl⟩:=List.mem_map.1 h
  have h1:=(List.mem_filter.1 hx).1
  have h2:=(List.mem_filter.1 h1).1
  have h3:=(List.mem_filter.1 h2).1
  exact⟨x,(firsts_sub (opsOf_mem.1 h3).1).1,rfl⟩
 ·cases h
theorem opErr_no {o:OpT} {p:Int} (h:opErr o p=0):0≤o.no∧o.no<12:=by
 unfold opErr at h
 split at h
 ·cases h
 ·omega
theorem KeepI.dot {x:PlT} {n:Nat} (h:KeepI x n) {key text:ByteArray} {d:DotT} (hd:d∈dotsOf key text (withinC x.L key [x.clock])):d.time≤x.clock∧dotOk 1 d=true:=by
 obtain⟨y,hy,rfl⟩:=dots_mem hd
 obtain⟨q,hq,rfl⟩:=within_done hy
 obtain⟨s,h1,h2,h3,h4,h5⟩:=h.op hq
 have hc:=h.clk
 obtain⟨h6,h7⟩:=opErr_no h5
 have e:dotP q=⟨0,s,q.op.no⟩:=by rw[dotP,h1,h2];rfl
 show(dotP q).time≤x.clock∧dotOk 1 (dotP q)=true
 rw[e]
 refine⟨h4,?_⟩
 simp[dotOk]
 omega
theorem OsOk.nil (t:Int):OsOk t []:=⟨by simp,by simp,by simp,by simp⟩
theorem OsOk.pair {t:Int} {os:List OpT} (h:OsOk t os):os.Pairwise fun a b=>a.no<b.no:=List.pairwise_iff_getElem.2 fun i j hi hj hij=>by
 rw[h.no i _ (List.getElem?_eq_getElem hi),h.no j _ (List.getElem?_eq_getElem hj)]
 omega
theorem OsOk.renum {t:Int} {os:List OpT} (h:OsOk t os):renum os=os:=by
 apply List.ext_getElem?
 intro i
 cases ho:os[i]? with
 | none=>
  rw[List.getElem?_eq_none_iff]at ho ⊢
  rwa[renum_len]
 | some o=>
  rw[renum_at ho]
  have:=h.no i o ho
  cases o
  simp_all
theorem err_dots {D:List DotT} (hl:D.length≤60) (hm:∀d∈D,dotOk 1 d=true) {q:OpT} (hq:opErr q 1=0) (hr:q.remove=true):opErr { q with dots:=D } 1=0:=by
 unfold opErr at hq ⊢
 split at hq
 ·cases hq
 rename_i c1
 split at hq
 ·cases hq
 rename_i c2
 split at hq
 ·cases hq
 rename_i c3
 split at hq
 ·cases hq
 rename_i c4
 split at hq
 ·cases hq
 rename_i c5
 have hs:shapeOk { q with dots:=D }=true:=by
  rw[Bool.not_eq_false]at c4
  unfold shapeOk at c4 ⊢
  split at c4
  ·simp[hr]at c4
  ·rename_i k1
   split at c4
   ·simp[hr]at c4
   ·rename_i k2
    rw[if_neg k1,if_neg k2]
    simp[hr]at c4 ⊢
    exact c4
 have hb:badDots 1 D=false:=List.any_eq_false.2 fun d hd=>by simp[hm d hd]
 rw[if_neg c1,if_neg c2,if_neg c3,if_neg (by simp[hs]),if_neg (by simp only;omega),if_neg (by simp[hb])]
theorem put_err {x:PlT} {n:Nat} (h:KeepI x n) {ops:List OpT} {o:OpT} (hd:o.dots=[]) (h1:opErr (sesPre ops o) 1=0):opErr (sesPut x [x.clock] ops o) 1=0∧∀d∈(sesPut x [x.clock] ops o).dots,d.time≤x.clock:=by
 unfold sesPut
 split
 ·rename_i hr
  have hm:∀d∈(dotsOf o.key o.text (withinC x.L o.key [x.clock])).take 60,d.time≤x.clock∧dotOk 1 d=true:=fun d hd=>h.dot (List.mem_of_mem_take hd)
  exact⟨err_dots (by rw[List.length_take];omega) (fun d hd=>(hm d hd).2) h1 hr,fun d hd=>(hm d hd).1⟩
 ·refine⟨h1,fun d hdm=>?_⟩
  rw[sesPre,hd]at hdm
  cases hdm
theorem OsOk.write {x:PlT} {n:Nat} (h:KeepI x n) {os:List OpT} (hs:OsOk x.clock os) {o:OpT} (hd:o.dots=[]):OsOk x.clock (sesOps x [x.clock] os o):=by
 unfold sesOps
 split
 ·rename_i he
  unfold sesErr at he
  split at he
  ·cases he
  ·rename_i h12
   split at he
   ·rename_i h2
    exact absurd he h2
   ·rename_i h2
    have h3:opErr (sesPre os o) 1=0:=by simpa using h2
    obtain⟨h4,h5⟩:=put_err h hd h3
    have hno:(sesPut x [x.clock] os o).no=os.length:=by unfold sesPut;split <;> rfl
    refine⟨by rw[List.length_append,List.length_singleton];omega,fun i q hq=>?_,fun q hq=>?_,fun q hq d hdq=>?_⟩
    ·rcases Nat.lt_or_ge i os.length with hi|hi
     ·rw[List.getElem?_append_left hi]at hq
      exact hs.no i q hq
     ·rw[List.getElem?_append_right hi]at hq
      have h6:=(List.getElem?_eq_some_iff.1 hq).1
      rw[List.length_singleton]at h6
      have h7:i - os.length=0:=by omega
      rw[h7]at hq
      cases hq
      rw[hno]
      omega
    ·rcases List.mem_append.1 hq with hq|hq
     ·exact hs.err q hq
     ·rw[List.mem_singleton.1 hq]
      exact h4
    ·rcases List.mem_append.1 hq with hq|hq
     ·exact hs.dots q hq d hdq
     ·rw[List.mem_singleton.1 hq]at hdq
      exact h5 d hdq
 ·exact hs
theorem KeepI.comP {x:PlT} {n:Nat} (h:KeepI x n) {os:List OpT} (hs:OsOk x.clock os):comP x [x.clock] os=⟨[x.clock+1],0,os⟩:=by
 rw[Go.Proofs.YtmkapocibaojdaaGreatDoor.comP,hs.renum,h.id]
 rfl
theorem KeepI.comE {x:PlT} {n:Nat} (h:KeepI x n) (hn:n<1000000) {os:List OpT} (hs:OsOk x.clock os) (h0:os≠[]):(comErr x [x.clock] os).code=0:=by
 obtain⟨h1,h2,h3⟩:=h.clk
 rw[comErr,if_neg (by simp[h.known]),if_neg (by omega),h.comP hs]
 exact comFault_mk (vec1_ok (by omega) (by omega)) (by simp) (by simp) hs.len (by simp;omega) h0 hs.err hs.pair
theorem KeepI.com {x:PlT} {n:Nat} (h:KeepI x n) (hn:n<1000000) {os:List OpT} (hs:OsOk x.clock os) (h0:os≠[]) (hd:∀o∈os,o.dots.length≤1000000):KeepI (comPl x (Go.Proofs.YtmkapocibaojdaaGreatDoor.comP x [x.clock] os)) (n+1):=by
 refine⟨com_in h.pin (h.comE hn hs h0) hd,h.p,h.id,h.base,?_⟩
 rw[h.comP hs]
 exact h.lone.put hs.dots
theorem late_ok {x:PlT} {n:Nat} (h:KeepI x n) {os:List OpT} (hs:OsOk x.clock os) (h0:os≠[]) {key:ByteArray} (hk:nameOk key=true):(valFault key (withinC x.L key [x.clock]++[⟨[1099511627776],0,os⟩])).code=0:=by
 refine valFault_mk hk (fun c hc=>?_) 1 fun c hc=>?_
 ·rcases List.mem_append.1 hc with hc|hc
  ·obtain⟨q,hq,rfl⟩:=mem_keyC (List.mem_filter.1 hc).1
   exact(h.pin.put q hq).1
  ·rw[List.mem_singleton.1 hc]
   exact comFault_mk (vec1_ok (by omega) (by omega)) (by simp) (by simp) hs.len (by simp) h0 hs.err hs.pair
 ·rcases List.mem_append.1 hc with hc|hc
  ·obtain⟨q,hq,rfl⟩:=mem_keyC (List.mem_filter.1 hc).1
   have:=(h.pin.put q hq).2
   rw[h.p]at this
   exact this
  ·rw[List.mem_singleton.1 hc]
   rfl
theorem KeepI.val {x:PlT} {n:Nat} (h:KeepI x n) (hn:n<1000000) {os:List OpT} (hs:OsOk x.clock os) (key:ByteArray):Sx.valOf key (withinC (comPl x (Go.Proofs.YtmkapocibaojdaaGreatDoor.comP x [x.clock] os)).L key [x.clock+1])=Sx.valOf key (withinC x.L key [x.clock]++[⟨[1099511627776],0,os⟩]):=by
 have hc:=h.clk
 rw[h.comP hs]
 exact keeps_val h.lone (by omega) hs.dots hs.pair
end Go.Proofs.YtmkapocibaojdaaGreatDoor
end
section
namespace Go.Proofs.YtmkapocibaojdaaGreatDoor
open Go Go.Sx
section ses
variable {w:World} {S:Nat→Prop} {M:List Nat} {er:Nat→Addr} {eb:Nat→Array Value×TypeId} {x:PlT} {b pb sb n:Nat} {tok at':List Int} {ops:List OpT} {key:ByteArray}
set_option maxHeartbeats 4000000 in
theorem vWithinP {b mk md:Nat} {ba a1:Option Addr} {p nb cb n1 c1 clock:Nat} {base:List Int} {es:Array MapEntry} {ks:List ByteArray} {F:ByteArray→Value} {L:List PutT} (hC:Rep w S .nilIface (dC er eb))
  (hP:Pre w S M (chV b mk md ba p nb cb clock es ks F L))
  (hb:Rep w S (.slice ba nb cb) (dInts base)) (hbv:vecErr base=0) (hbl:base.length=p) (h1:Rep w S (.slice a1 n1 c1) (dInts at')) (hl1:at'.length≤1000000) (hL:L.length≤300000) (hLv:∀q∈L,vecErr q.when=0∧q.when.length=p)
  (hm:MapG (MapKept.IsKey .string) es (strG ks F)) (hnd:ks.Nodup) (hiff:∀t,t∈ks↔keyC L t≠[]) :
  Calls Tryz.prog 103 #[.pointer (some ⟨b,0,none⟩),.string key,.slice a1 n1 c1] w fun e w'=>
   (atErr p base key at'≠0∧Ret M w S w' e (.tuple #[.slice none 0 0,.iface 390 (.pointer (some (er (atErr p base key at'))))]) (chV b mk md ba p nb cb clock es ks F L) []) ∨
   (atErr p base key at'=0∧∃ua un uc,Ret M w S w' e (.tuple #[.slice ua un uc,.nilIface]) (chV b mk md ba p nb cb clock es ks F L++[cAcc (.slice ua un uc) 35 3 ((withinC L key at').map eCom)]) []):=by
 refine enG Tryz.func103 bd103 (args:=[.pointer (some ⟨b,0,none⟩),.string key,.slice a1 n1 c1]) (S:=S) (G:=[(_,dC er eb),(_,dInts at'),(_,dInts base)]) (by kernel_rfl) hP (.cons hC (.cons h1 (.cons hb (.nil _ _)))) ?_
 refine Nm [cObj b (.cells #[nI (↑p:Int),.slice ba nb cb,.map (some mk),.map (some md)] 218 (0,0)),cObj mk (Obj.map es clock),(cStar (List.map (fun t=>cAcc (F t) 35 3 (List.map eCom (keyC L t))) ks)),(cMapG md okDot (dotSet (List.map dotP L)))] ?_
 refine Zs [zR 0,zR 1] [] [zS 6 none 0 0,zV 7 .nilIface] ?_
 refine jS [(0,true),(1,true),(2,true),(3,false),(4,true),(5,true),(6,true),(7,true)] [] ?_
 refine Ya (Rds 0 3) [0,1,2] [zP 8 b,zV 9 (.string key),zS 10 a1 n1 c1] ?_
 refine JR_call [] [0,1,2,3] 155 #[.pointer (some (⟨b,0,none⟩)),.string key,.slice a1 n1 c1] (some 11) (by kernel_rfl) (by kernel_rfl) (by decide) (fun w S M hP hG _=>?_)
 refine(vWithinA (hG.at 0 rfl) hP (hG.at 2 rfl) hbv hbl (hG.at 1 rfl) hl1 (by omega) hLv hm hnd hiff).mono ?_
 rintro e1 w1 (⟨hf,hR⟩|⟨hf,ua,un,uc,hR⟩)
 ·refine⟨_,_,_,hR,?_⟩
  try simp only[aQ]
  refine Ya (Rds 4 8) [11,8,9,10] [zV 7 (.iface 390 (.pointer (some (er (atErr p base key at')))))] ?_
  try simp only[aQ]
  refine JR_end ?_
  try simp only[aQ]
  refine Yr [[],[]] (.tuple #[.slice none 0 0,.iface 390 (.pointer (some (er (atErr p base key at'))))]) fun a w s=>?_
  exact .inl ⟨hf,s.ret (by simp) [0,1,2,3] [] rfl rfl⟩
 ·refine⟨_,_,_,hR,?_⟩
  try simp only[aQ]
  refine Ya (Rds 4 8) [11,8,9,10] [zS 6 ua un uc] ?_
  try simp only[aQ]
  refine JR_end ?_
  try simp only[aQ]
  refine Yr [[],[]] (.tuple #[.slice ua un uc,.nilIface]) fun a w s=>?_
  exact .inr ⟨hf,_,_,_,s.ret (by simp) [1,2,3,4,0] [] rfl rfl⟩
theorem verWithin {p:Nat} {base:List Int} {L:List PutT} {a1:Option Addr} {n1 c1:Nat} (hC:Rep w S .nilIface (dC er eb)) (hP:Pre w S M [cVer b p base L]) (h:VerI p base L) (h1:Rep w S (.slice a1 n1 c1) (dInts at')) (hl1:at'.length≤1000000) :
  Calls Tryz.prog 103 #[.pointer (some ⟨b,0,none⟩),.string key,.slice a1 n1 c1] w fun e w'=>
   (atErr p base key at'≠0∧Ret M w S w' e (.tuple #[.slice none 0 0,.iface 390 (.pointer (some (er (atErr p base key at'))))]) [cVer b p base L] []) ∨
   (atErr p base key at'=0∧∃ua un uc,Ret M w S w' e (.tuple #[.slice ua un uc,.nilIface]) [cVer b p base L,cAcc (.slice ua un uc) 35 3 ((withinC L key at').map eCom)] []):=by
 obtain⟨y,hy,hG,hP2⟩:=hP.open1
 refine(vWithinP hC hP2 (hG.at 0 rfl) h.bok h.basel h1 hl1 h.few (fun q hq=>⟨(right_of (h.put q hq).1).vec,(h.put q hq).2⟩) hy.m hy.nd hy.iff).mono ?_
 rintro e w' (⟨hf,hR⟩|⟨hf,ua,un,uc,hR⟩)
 ·exact .inl ⟨hf,hR.close1 y hy hG hP.no⟩
 ·exact .inr ⟨hf,ua,un,uc,((hR.more hP.no hG).close y hy fun z hz=>List.mem_append.2 (.inr hz)).less (by simp)⟩
def sesK (x:PlT) (at':List Int) (ops:List OpT) (key:ByteArray):Nat:=if ops=[]then readK x key at' else atErr x.places x.base key at'
def sesL (x:PlT) (at':List Int) (ops:List OpT) (key:ByteArray):List ComT:=if ops=[]then withinC x.L key at' else withinC x.L key at'++[⟨List.replicate at'.length 1099511627776,x.id,ops⟩]
set_option maxHeartbeats 8000000 in
theorem sesRead (hC:Rep w S .nilIface (dC er eb)) (hP:Pre w S M [cPlace pb x,cSes2 sb tok pb at' ops]) (hx:PlIn x n) (hn:n≤600) (hat:at'.length=1) (hl:ops.length≤1000000) (hv:ops≠[]→nameOk key=true→(valFault key (sesL x at' ops key)).code=0) :
  Calls Tryz.prog 38 #[.pointer (some ⟨sb,0,none⟩),.string key] w fun e w'=>
   (sesK x at' ops key≠0∧Ret M (zero w) S w' e (.tuple #[valZ,.iface 390 (.pointer (some (er (sesK x at' ops key))))]) [cPlace pb x,cSes2 sb tok pb at' ops] []) ∨
   (sesK x at' ops key=0∧∃ua un uc,Ret M (zero w) S w' e (.tuple #[valA (Sx.valOf key (sesL x at' ops key)) (.slice ua un uc),.nilIface]) [cPlace pb x,cSes2 sb tok pb at' ops] [(.slice ua un uc,dStrs (Sx.valOf key (sesL x at' ops key)).set)]):=by
 refine enG Tryz.func38 bd38 (args:=[.pointer (some ⟨sb,0,none⟩),.string key]) (S:=S) (C:=[cPlace pb x,cSes2 sb tok pb at' ops]) (G:=[(_,dC er eb)]) (by kernel_rfl) hP (.cons hC (.nil _ _)) ?_
 refine J_zero ?_
 refine J_stpx (stp_openbox 1 rfl) fun y _=>?_
 obtain⟨ta,tn,tc,tb,aa,an,ac,oa,on,oc⟩:=y
 dsimp only
 refine Nm [(cPlace pb x),cObj sb (.cells #[.pointer (sA tb 0),.slice ta tn tc] 181 (0,0)),cObj tb (.cells #[.pointer (sA pb 0),.slice aa an ac,.slice oa on oc] 184 (0,0))] ?_
 refine J_stpx (stp_replen 3 rfl) fun _ hon=>?_
 rw[List.length_map]at hon
 subst hon
 refine J_stpx (stp_replen 2 rfl) fun _ han=>?_
 rw[List.length_map,hat]at han
 subst han
 refine J_show 1 rfl ?_
 refine J_show 1 rfl ?_
 by_cases h0:ops=[]
 ·subst h0
  have hk:sesK x at' [] key=readK x key at':=rfl
  have hL:sesL x at' [] key=withinC x.L key at':=rfl
  rw[hk,hL]
  try simp only[aQ]
  refine Zv [.wr 0 [] 0,zR 1] [] [] (fun nu1=>[zP 4 (nu1 0),zV 5 .nilIface]) o0 (fun nu1=>[(nu1 0,.cells #[nI 0,.string (ByteArray.mk #[]),nI 0,.slice none 0 0] 64 (0,0))]) (fun nu1=>?_)
  refine J_seq ?_
  refine Zs (Rds 0 3++[.rd 3 [.o 0 none] 0 0,zR 4]) [] [zB 13 false] ?_
  refine cF ?_
  refine J_skip (J_seq ?_)
  refine Zs (Rds 0 3++[.rd 3 [.o 0 none] 0 0,zR 4,zR 5,.rd 6 [.o 1 none] 0 0,zR 7,zR 8]) [13] [zB 24 true] ?_
  refine cTt ?_
  refine jS [(0,true),(1,true),(2,true),(3,true),(4,true),(5,true),(6,true),(7,true),(8,true),(9,true),(10,true),(11,true),(12,true),(13,true),(14,true),(15,false),(16,true),(17,true),(18,false),(19,true)] [(15,[]),(18,[2])] ?_
  refine Ya (Rds 0 3++[.rd 3 [.o 0 none] 0 0,zR 4,zR 5,.rd 6 [.o 1 none] 0 0]++Rds 7 11++[.rd 11 [.o 0 none] 0 0,zR 12,zR 13,.rd 14 [.o 1 none] 0 0]) [24] [zP 31 pb,zV 32 (.string key),zS 39 aa 1 ac] ?_
  refine JR_callz [] [0] 25 #[.pointer (some (⟨pb,0,none⟩)),.string key,.slice aa 1 ac] (some 40) zero_all (by kernel_rfl) (by kernel_rfl) (by decide) (fun w S M hP hG _=>?_)
  refine(placeRead (hG.at 0 rfl) hP hx hn (hG.at 2 rfl) (by omega)).mono ?_
  rintro e1 w1 (⟨hf,hR⟩|⟨hf,ua,un,uc,hR⟩)
  ·refine⟨_,_,_,hR,?_⟩
   try simp only[aQ]
   refine Ym [zR 16,zR 17,.wr 18 (hnO 2 4) 0,zR 19] [40,31,32,39] (fun _=>[zV 5 (.iface 390 (.pointer (some (er (readK x key at')))))]) o0 o0 [] (fun _=>?_)
   try simp only[aQ]
   refine JR_end ?_
   try simp only[aQ]
   refine Yr [(hnO 2 4),[]] (.tuple #[.agg #[nI 0,.string (ByteArray.mk #[]),nI 0,.slice none 0 0],.iface 390 (.pointer (some (er (readK x key at'))))]) fun a w s=>?_
   have s2:=((s.hide 0 rfl).hide 0 rfl).stp (stp_closebox (C:=fun y:SesX=>[cObj sb (sesO (some ⟨y.tb,0,none⟩) (.slice y.ta y.tn y.tc)),cObj y.tb (turnO pb (.slice y.aa y.an y.ac) (.slice y.oa y.on y.oc))]) (G:=fun y:SesX=>[(.slice y.ta y.tn y.tc,dInts tok),(.slice y.aa y.an y.ac,dInts at'),(.slice y.oa y.on y.oc,.sl 7 (([]:List OpT).map eOp))]) (p:=fun _=>True) [1,2] ⟨ta,tn,tc,tb,aa,1,ac,oa,0,oc⟩ rfl (by simp) trivial)
   exact .inl ⟨hf,s2.retz (by simp) [0,1] [] rfl rfl⟩
  ·refine⟨_,_,_,hR,?_⟩
   try simp only[aQ]
   refine Ym [zR 16,zR 17,.wr 18 (hnO 2 4) 0,zR 19] [40,31,32,39] (fun _=>[]) (fun _=>[(2,.cells #[nI ((Sx.valOf key (withinC x.L key at')).kind),.string ((Sx.valOf key (withinC x.L key at')).text),nI ((Sx.valOf key (withinC x.L key at')).n),.slice ua un uc] 64 (0,0))]) o0 [] (fun _=>?_)
   try simp only[aQ]
   refine JR_end ?_
   try simp only[aQ]
   refine Yr [(hnO 2 4),[]] (.tuple #[.agg #[nI ((Sx.valOf key (withinC x.L key at')).kind),.string ((Sx.valOf key (withinC x.L key at')).text),nI ((Sx.valOf key (withinC x.L key at')).n),.slice ua un uc],.nilIface]) fun a w s=>?_
   have s2:=((s.hide 0 rfl).hide 0 rfl).stp (stp_closebox (C:=fun y:SesX=>[cObj sb (sesO (some ⟨y.tb,0,none⟩) (.slice y.ta y.tn y.tc)),cObj y.tb (turnO pb (.slice y.aa y.an y.ac) (.slice y.oa y.on y.oc))]) (G:=fun y:SesX=>[(.slice y.ta y.tn y.tc,dInts tok),(.slice y.aa y.an y.ac,dInts at'),(.slice y.oa y.on y.oc,.sl 7 (([]:List OpT).map eOp))]) (p:=fun _=>True) [1,2] ⟨ta,tn,tc,tb,aa,1,ac,oa,0,oc⟩ rfl (by simp) trivial)
   exact .inr ⟨hf,_,_,_,s2.retz (by simp) [0,1] [4] rfl rfl⟩
 ·have h1:¬((ops.length:Int)=0):=by
   intro hc
   exact h0 (List.length_eq_zero_iff.1 (by omega))
  have hk:sesK x at' ops key=atErr x.places x.base key at':=if_neg h0
  have hL:sesL x at' ops key=withinC x.L key at'++[⟨[1099511627776],x.id,ops⟩]:=by rw[sesL,if_neg h0,hat];rfl
  rw[hk]
  try simp only[aQ]
  refine Zv [.wr 0 [] 0,zR 1] [] [] (fun nu1=>[zP 4 (nu1 0),zV 5 .nilIface]) o0 (fun nu1=>[(nu1 0,.cells #[nI 0,.string (ByteArray.mk #[]),nI 0,.slice none 0 0] 64 (0,0))]) (fun nu1=>?_)
  refine J_seq ?_
  refine Zs (Rds 0 3++[.rd 3 [.o 0 none] 0 0,zR 4]) [] [zB 13 false] ?_
  refine cF ?_
  refine J_skip (J_seq ?_)
  refine Zt (Rds 0 3++[.rd 3 [.o 0 none] 0 0,zR 4,zR 5,.rd 6 [.o 1 none] 0 0,zR 7,.rd 8 [] 0 7]) [13] [zB 24 false] (oC (show((↑ops.length:Int)==(0:Int))=false from by simp;omega) oN) ?_
  refine cF ?_
  refine J_skip (J_seq ?_)
  refine J_stpx (stp_openbox 0 rfl) fun z hz=>?_
  obtain⟨vb,pa,pc,ia,ic,om,im⟩:=z
  refine Nm [cObj pb (.cells #[.pointer (sA vb 0),nI (↑x.id:Int),nI (↑x.places:Int),nI (↑x.shards:Int),nI x.clock,.slice (PlBx.mk vb pa pc ia ic om im).oa x.places pc,.slice (PlBx.mk vb pa pc ia ic om im).ia x.places ic] 124 (0,0)),(cVer (PlBx.mk vb pa pc ia ic om im).vb x.places x.base x.L),(cSnds (PlBx.mk vb pa pc ia ic om im).om.flatten x.ss),(cRcvs (PlBx.mk vb pa pc ia ic om im).im.flatten x.rs)] ?_
  refine J_show 0 rfl ?_
  try simp only[aQ]
  refine jT [(0,true),(1,true),(2,true),(3,true),(4,true),(5,true),(6,true),(7,true),(8,true),(9,true),(10,true),(11,true),(12,true),(13,true),(14,true),(15,true),(16,true),(17,true),(18,false),(19,true),(20,true),(21,true),(22,true),(23,true)] [(18,[])] ?_
  refine Ya (Rds 0 3++[.rd 3 [.o 0 none] 0 0,zR 4,zR 5,.rd 6 [.o 1 none] 0 0,zR 7,zR 8,.rd 9 [.o 3 none] 0 0]++Rds 10 14++[.rd 14 [.o 0 none] 0 0,zR 15,zR 16,.rd 17 [.o 1 none] 0 0]) [24] [zP 53 vb,zV 54 (.string key),zS 61 aa 1 ac] ?_
  refine JR_call [] [0] 103 #[.pointer (some (⟨vb,0,none⟩)),.string key,.slice aa 1 ac] (some 62) (by kernel_rfl) (by kernel_rfl) (by decide) (fun w S M hP hG _=>?_)
  refine(verWithin (hG.at 0 rfl) hP (hx.ver (by omega)) (hG.at 2 rfl) (by omega)).mono ?_
  rintro e1 w1 (⟨hf,hR⟩|⟨hf,ua,un,uc,hR⟩)
  ·refine⟨_,_,_,hR,?_⟩
   try simp only[aQ]
   refine Ya (Rds 19 24) [62,53,54,61] [zS 6 none 0 0,zV 7 (.iface 390 (.pointer (some (er (atErr x.places x.base key at')))))] ?_
   try simp only[aQ]
   refine JR_end ?_
   try simp only[aQ]
   refine J_seq ?_
   try simp only[aQ]
   refine J_seq ?_
   try simp only[aQ]
   refine J_hide 3 rfl ?_
   refine J_stp (stp_closePl (x:=x) ⟨vb,pa,pc,ia,ic,om,im⟩ [3,2,0,1] 4 5 rfl rfl rfl hz) ?_
   refine Nm [(cPlace pb x)] ?_
   refine Za [zR 0,zR 1] [] [zB 66 true] ?_
   refine cTt ?_
   refine Zv [zR 0,zR 1,.wr 2 (hnO 2 4) 0,zR 3] [(2,[2])] [66,7] (fun _=>[zV 5 (.iface 390 (.pointer (some (er (atErr x.places x.base key at')))))]) o0 o0 (fun _=>?_)
   refine Yr [(hnO 2 4),[]] (.tuple #[.agg #[nI 0,.string (ByteArray.mk #[]),nI 0,.slice none 0 0],.iface 390 (.pointer (some (er (atErr x.places x.base key at'))))]) fun a w s=>?_
   have s2:=((s.hide 0 rfl).hide 0 rfl).stp (stp_closebox (C:=fun y:SesX=>[cObj sb (sesO (some ⟨y.tb,0,none⟩) (.slice y.ta y.tn y.tc)),cObj y.tb (turnO pb (.slice y.aa y.an y.ac) (.slice y.oa y.on y.oc))]) (G:=fun y:SesX=>[(.slice y.ta y.tn y.tc,dInts tok),(.slice y.aa y.an y.ac,dInts at'),(.slice y.oa y.on y.oc,.sl 7 (ops.map eOp))]) (p:=fun _=>True) [1,2] ⟨ta,tn,tc,tb,aa,1,ac,oa,ops.length,oc⟩ rfl (by simp) trivial)
   exact .inl ⟨hf,s2.retz (by simp) [0,1] [] rfl rfl⟩
  ·refine⟨_,_,_,hR,?_⟩
   rw[hL]
   try simp only[aQ]
   refine Ya (Rds 19 24) [62,53,54,61] [zS 6 ua un uc,zV 7 .nilIface] ?_
   try simp only[aQ]
   refine JR_end ?_
   try simp only[aQ]
   refine J_seq ?_
   try simp only[aQ]
   refine J_seq ?_
   try simp only[aQ]
   refine J_hide 3 rfl ?_
   refine J_stp (stp_closePl (x:=x) ⟨vb,pa,pc,ia,ic,om,im⟩ [4,2,0,1] 4 5 rfl rfl rfl hz) ?_
   refine Nm [cAcc (.slice ua un uc) 35 3 (List.map eCom (withinC x.L key at')),(cPlace pb x)] ?_
   refine J_stpx (stp_acclen 0 rfl) fun _ hun=>?_
   rw[List.length_map]at hun
   subst hun
   have hwl:(withinC x.L key at').length≤x.L.length:=Nat.le_trans (List.length_filter_le _ _) (by rw[keyC,List.length_map];exact List.length_filter_le _ _)
   have hfew:=hx.len
   have hnm:nameOk key=true:=Classical.byContradiction fun hc=>by
    rw[atErr,if_pos (by simpa using hc)]at hf
    cases hf
   refine Za [zR 0,zR 1] [] [zB 66 false] ?_
   refine cF ?_
   refine J_skip ?_
   refine jS [(0,false),(1,true),(2,true),(3,true),(4,true),(5,true),(6,true),(7,true),(8,true),(9,false),(10,true)] [] ?_
   refine Ym ([.wr 0 [] 0]++Rds 1 4++[.rd 4 [.o 0 none] 0 0,zR 5,zR 6,.rd 7 [.o 1 none] 0 0,zR 8]) [66,7] (fun nu2=>[zS 69 (sA (nu2 0) 0) 1 1,zI 77 1]) o0 (fun nu2=>[(nu2 0,.cells #[nI 1099511627776] 3 (0,0))]) [] (fun nu2=>?_)
   refine JR_data (size:=1) 3 eI [(1099511627776:Int)] 1 rfl (by kernel_rfl) (by decide) (by intro x _;rfl) (by simp) ⟨.inl ⟨rfl,rfl⟩,trivial⟩ ?_
   refine Yc 104 #[.slice (sA (nu2 0) 0) 1 1,nI 1] (some 78) fun w S hG=>?_
   refine(repeat1 (hG.at 6 rfl)).mono ?_
   rintro e2 w2 ⟨ra,rn,rc,hR⟩
   refine⟨_,_,_,hR,?_⟩
   try simp only[aQ]
   refine Ya [zR 10] [78,69,77] [zS 8 ra rn rc] ?_
   refine JR_end ?_
   refine jS [(0,true),(1,true),(2,true),(3,true),(4,true),(5,true),(6,true),(7,true),(8,true),(9,true),(11,true),(12,true),(13,true),(14,true),(15,true),(16,true),(17,true),(10,false),(18,true),(19,false),(20,false),(21,false),(22,true),(23,true),(24,false),(25,true)] [(10,[]),(20,[]),(21,[]),(24,[2])] ?_
   refine Ya (Rds 0 6++[.rd 6 [.o 0 none] 0 0,zR 7,zR 8,.rd 9 [.o 1 none] 0 0]++Rds 11 14++[.rd 14 [.o 0 none] 0 0,zR 15,zR 16,.rd 17 [.o 1 none] 0 0]) [8,6,0,1] [zV 79 (.string key),zS 80 ua ((withinC x.L key at').length) uc,zS 81 ra rn rc,zP 88 pb,zS 96 oa ops.length oc] ?_
   refine JR_call [] [1] 106 #[.pointer (some (⟨pb,0,none⟩))] (some 89) (by kernel_rfl) (by kernel_rfl) (by decide) (fun w S M hP hG _=>?_)
   refine(placeID hP).mono ?_
   rintro e3 w3 hR
   refine⟨_,_,_,hR,?_⟩
   try simp only[aQ]
   refine Ym [zR 18,.wr 19 [] 0] [89,81,88,96] (fun nu3=>[zS 98 (sA (nu3 0) 0) 1 1]) o0 (fun nu3=>[(nu3 0,.cells #[.slice ra rn rc,nI (↑x.id:Int),.slice oa ops.length oc] 35 (0,0))]) [(20,[]),(21,[]),(24,[2])] (fun nu3=>?_)
   try simp only[aQ]
   refine JN [cAcc (.slice ua ((withinC x.L key at').length) uc) 35 3 (List.map eCom (withinC x.L key at')),(cPlace pb x)] ?_
   refine JR_appm 0 153 35 3 56 (.agg #[.slice none 0 0,.int .i64 0,.slice none 0 0]) (a0:=ua) (len:=(withinC x.L key at').length) (cap0:=uc) (ax:=(some (⟨nu3 0,0,none⟩))) (m:=1) (c:=1) (dst:=(some 99)) [(⟨[1099511627776],x.id,ops⟩:ComT)] (by kernel_rfl) (by kernel_rfl) (by kernel_rfl) (by kernel_rfl) rfl (by decide) rfl (fun _ _ _ s=>src_one s 3 rfl rfl ⟨.inr (.inl (List.mem_of_getElem? (i:=7) rfl)),⟨.inl ⟨rfl,rfl⟩,⟨.inr (.inl (List.mem_of_getElem? (i:=3) rfl)),trivial⟩⟩⟩) (by simp only[maxLen];omega) (by omega) (fun av1 cv1=>?_)
   refine JN [(cPlace pb x),cAcc (.slice av1 ((withinC x.L key at').length+1) cv1) 35 3 (List.map eCom (withinC x.L key at'++[ComT.mk [1099511627776] (↑x.id:Int) ops]))] ?_
   refine JR_stp (stp_freeze 1 rfl) ?_
   try simp only[aQ]
   refine JR_callzp [] 105 #[.string key,.slice av1 ((withinC x.L key at').length+1) cv1] (some 100) zero_all (by kernel_rfl) (fun w S hG=>?_)
   refine(vOf (key:=key) (hG.at 0 rfl) (hG.at 8 rfl) (by rw[List.length_append,List.length_singleton];omega) (fun c hc=>?_) (fun c hc=>?_)).mono ?_
   ·rcases List.mem_append.1 hc with hc|hc
    ·obtain⟨q,hq,rfl⟩:=mem_keyC (List.mem_filter.1 hc).1
     have h6:=(vecErr_len (right_of (hx.put q hq).1).vec).2
     exact Nat.le_trans h6 (by decide)
    ·rw[List.mem_singleton.1 hc]
     exact(by decide:1≤1000000)
   ·rcases List.mem_append.1 hc with hc|hc
    ·obtain⟨q,hq,rfl⟩:=mem_keyC (List.mem_filter.1 hc).1
     exact(by decide:1≤1000000)
    ·rw[List.mem_singleton.1 hc]
     exact hl
   rintro e4 w4 (⟨hf2,_⟩|⟨_,va,vn,vc,hR⟩)
   ·exact absurd (hL ▸ hv h0 hnm) hf2
   refine⟨_,_,_,hR,?_⟩
   try simp only[aQ]
   refine Ym [zR 22,zR 23,.wr 24 (hnO 2 4) 0,zR 25] [100,99,98,79,80] (fun _=>[]) (fun _=>[(2,.cells #[nI ((Sx.valOf key (withinC x.L key at'++[ComT.mk [1099511627776] (↑x.id:Int) ops])).kind),.string ((Sx.valOf key (withinC x.L key at'++[ComT.mk [1099511627776] (↑x.id:Int) ops])).text),nI ((Sx.valOf key (withinC x.L key at'++[ComT.mk [1099511627776] (↑x.id:Int) ops])).n),.slice va vn vc] 64 (0,0))]) o0 [] (fun _=>?_)
   refine JR_end ?_
   refine Yr [(hnO 2 4),[]] (.tuple #[.agg #[nI ((Sx.valOf key (withinC x.L key at'++[ComT.mk [1099511627776] (↑x.id:Int) ops])).kind),.string ((Sx.valOf key (withinC x.L key at'++[ComT.mk [1099511627776] (↑x.id:Int) ops])).text),nI ((Sx.valOf key (withinC x.L key at'++[ComT.mk [1099511627776] (↑x.id:Int) ops])).n),.slice va vn vc],.nilIface]) fun a w s=>?_
   have s2:=((s.hide 0 rfl).hide 0 rfl).stp (stp_closebox (C:=fun y:SesX=>[cObj sb (sesO (some ⟨y.tb,0,none⟩) (.slice y.ta y.tn y.tc)),cObj y.tb (turnO pb (.slice y.aa y.an y.ac) (.slice y.oa y.on y.oc))]) (G:=fun y:SesX=>[(.slice y.ta y.tn y.tc,dInts tok),(.slice y.aa y.an y.ac,dInts at'),(.slice y.oa y.on y.oc,.sl 7 (ops.map eOp))]) (p:=fun _=>True) [1,2] ⟨ta,tn,tc,tb,aa,1,ac,oa,ops.length,oc⟩ rfl (by simp) trivial)
   exact .inr ⟨hf,_,_,_,s2.retz (by simp) [0,1] [9] rfl rfl⟩
end ses
end Go.Proofs.YtmkapocibaojdaaGreatDoor
end
section
namespace Go.Proofs.YtmkapocibaojdaaGreatDoor
open Go Go.Sx
section ses
variable {w:World} {S:Nat→Prop} {M:List Nat} {er:Nat→Addr} {eb:Nat→Array Value×TypeId} {x:PlT} {pb sb n:Nat} {tok at':List Int} {ops:List OpT}
set_option maxHeartbeats 8000000 in
theorem sesCommit (hC:Rep w S .nilIface (dC er eb)) (hP:Pre w S M [cPlace pb x,cSes2 sb tok pb at' ops]) (hx:PlIn x n) (hn:n<600) (hl1:at'.length≤1000000) (hl2:ops.length≤1000000) (hl3:∀o∈ops,o.dots.length≤1000000) (hc0:ops≠[]→(comErr x at' ops).code=0) :
  Calls Tryz.prog 39 #[.pointer (some ⟨sb,0,none⟩)] w fun e w'=>
   (ops=[]∧∃u1 m1 d1,Ret M w S w' e (.tuple #[.agg #[.slice u1 m1 d1,.int .i64 x.id,.slice none 0 0],.slice none 0 0,.nilIface]) [cPlace pb x,cSes0 sb tok] [(.slice u1 m1 d1,dInts at')]) ∨
   (ops≠[]∧∃u1 m1 d1 u2 m2 d2 u3 m3 d3,Ret M w S w' e (.tuple #[.agg #[.slice u1 m1 d1,.int .i64 x.id,.slice u2 m2 d2],.slice u3 m3 d3,.nilIface]) [cPlace pb (comPl x (comP x at' ops)),cSes0 sb (comP x at' ops).when]
    [(.slice u1 m1 d1,dInts (comP x at' ops).when),(.slice u2 m2 d2,.sl 7 ((comP x at' ops).ops.map eOp)),(.slice u3 m3 d3,.sl 9 ((comMs x (comP x at' ops)).map eMsg))]):=by
 refine enG Tryz.func39 bd39 (args:=[.pointer (some ⟨sb,0,none⟩)]) (S:=S) (C:=[cPlace pb x,cSes2 sb tok pb at' ops]) (G:=[(_,dC er eb)]) (by kernel_rfl) hP (.cons hC (.nil _ _)) ?_
 refine J_stpx (stp_openbox 1 rfl) fun y _=>?_
 obtain⟨ta,tn,tc,tb,aa,an,ac,oa,on,oc⟩:=y
 dsimp only
 refine Nm [(cPlace pb x),cObj sb (.cells #[.pointer (sA tb 0),.slice ta tn tc] 181 (0,0)),cObj tb (.cells #[.pointer (sA pb 0),.slice aa an ac,.slice oa on oc] 184 (0,0))] ?_
 refine J_stpx (stp_replen 3 rfl) fun _ hon=>?_
 rw[List.length_map]at hon
 subst hon
 refine J_show 1 rfl ?_
 refine J_show 1 rfl ?_
 by_cases h0:ops=[]
 ·subst h0
  try simp only[aQ]
  refine Zv [.wr 0 [] 0,zR 1,zR 2] [] [] (fun nu1=>[zP 2 (nu1 0),zS 3 none 0 0,zV 4 .nilIface]) o0 (fun nu1=>[(nu1 0,.cells #[.slice none 0 0,nI 0,.slice none 0 0] 35 (0,0))]) (fun nu1=>?_)
  refine Zs (Rds 0 3++[.rd 3 [.o 0 none] 0 0,zR 4]) [] [zP 5 tb] ?_
  refine J_seq ?_
  refine Zs [zR 0,zR 1] [] [zB 14 false] ?_
  refine cF ?_
  refine J_skip ?_
  refine Zv (Rds 0 3++[.wr 3 [.o 0 none] 0]) [(3,[0])] [14] (fun _=>[]) (fun _=>[(0,.cells #[.pointer none,.slice ta tn tc] 181 (0,0))]) o0 (fun _=>?_)
  refine J_seq ?_
  refine Zs (Rds 0 3++[.rd 3 [.o 1 none] 0 0,zR 4,zR 5]) [] [zB 25 true] ?_
  refine cTt ?_
  refine jS [(0,true),(1,true),(2,true),(3,true),(4,true),(5,true),(6,true),(7,true),(8,false),(9,true),(10,false),(11,true),(12,true)] [(8,[]),(10,[2])] ?_
  refine Ya (Rds 0 3++[.rd 3 [.o 1 none] 0 0]++Rds 4 7++[.rd 7 [.o 1 none] 0 0]) [25] [zS 29 aa an ac,zP 33 pb] ?_
  refine JR_call [] [0] 106 #[.pointer (some (⟨pb,0,none⟩))] (some 34) (by kernel_rfl) (by kernel_rfl) (by decide) (fun w S M hP hG _=>?_)
  refine(placeID hP).mono ?_
  rintro e1 w1 hR
  refine⟨_,_,_,hR,?_⟩
  try simp only[aQ]
  refine Ym [zR 9,.wr 10 (hnO 2 3) 0,zR 11,zR 12] [34,29,33] (fun _=>[]) (fun _=>[(2,.cells #[.slice aa an ac,nI (↑x.id:Int),.slice none 0 0] 35 (0,0))]) o0 [] (fun _=>?_)
  try simp only[aQ]
  refine JR_end ?_
  try simp only[aQ]
  refine Yr [(hnO 2 3),[],[]] (.tuple #[.agg #[.slice aa an ac,nI (↑x.id:Int),.slice none 0 0],.slice none 0 0,.nilIface]) fun a w s=>?_
  have s2:=(s.hide 0 rfl).stp (stp_closebox (C:=fun y:SesX=>[cObj sb (sesO none (.slice y.ta y.tn y.tc))]) (G:=fun y:SesX=>[(.slice y.ta y.tn y.tc,dInts tok)]) (p:=fun _=>True) [1] ⟨ta,tn,tc,0,none,0,0,none,0,0⟩ rfl (by simp) trivial)
  exact .inl ⟨trivial,_,_,_,s2.ret (by simp) [0,1] [2] rfl rfl⟩
 ·have h1:¬((ops.length:Int)=0):=by
   intro hc
   exact h0 (List.length_eq_zero_iff.1 (by omega))
  try simp only[aQ]
  refine Zv [.wr 0 [] 0,zR 1,zR 2] [] [] (fun nu1=>[zP 2 (nu1 0),zS 3 none 0 0,zV 4 .nilIface]) o0 (fun nu1=>[(nu1 0,.cells #[.slice none 0 0,nI 0,.slice none 0 0] 35 (0,0))]) (fun nu1=>?_)
  refine Zs (Rds 0 3++[.rd 3 [.o 0 none] 0 0,zR 4]) [] [zP 5 tb] ?_
  refine J_seq ?_
  refine Zs [zR 0,zR 1] [] [zB 14 false] ?_
  refine cF ?_
  refine J_skip ?_
  refine Zv (Rds 0 3++[.wr 3 [.o 0 none] 0]) [(3,[0])] [14] (fun _=>[]) (fun _=>[(0,.cells #[.pointer none,.slice ta tn tc] 181 (0,0))]) o0 (fun _=>?_)
  refine J_seq ?_
  refine Zt (Rds 0 3++[.rd 3 [.o 1 none] 0 0,zR 4,.rd 5 [] 0 7]) [] [zB 25 false] (oC (show((↑ops.length:Int)==(0:Int))=false from by simp;omega) oN) ?_
  refine cF ?_
  refine J_skip (J_seq ?_)
  have hwl:(comP x at' ops).when.length≤1000000:=by
   show(at'.set x.id (x.clock+1)).length≤1000000
   rw[List.length_set]
   exact hl1
  refine J_fork mixed 12 [(0,true),(1,true),(2,true),(3,true),(4,true),(5,true),(6,true),(7,true),(8,true),(9,true),(10,true),(11,true),(12,false),(13,true),(14,true),(15,true),(16,true),(17,false),(18,false),(19,true),(20,true)] [(0,true),(1,true),(2,true),(3,true),(4,true),(5,true),(6,true),(7,true),(8,true),(9,true),(10,true),(11,true),(17,false),(12,false),(13,true),(14,true),(15,true),(16,true),(18,false),(19,true),(20,true)] [(12,[]),(18,[])] (by kernel_rfl) (by kernel_rfl) ?_ ?_
  ·refine Ya (Rds 0 3++[.rd 3 [.o 1 none] 0 0]++Rds 4 7++[.rd 7 [.o 1 none] 0 0]++Rds 8 11++[.rd 11 [.o 1 none] 0 0]) [25,5] [(40,.val (.pointer (some (⟨pb,0,none⟩)))),(44,.val (.slice aa an ac)),(48,.val (.slice oa ops.length oc))] ?_
   refine JR_call [] [0] 22 #[.pointer (some (⟨pb,0,none⟩)),.slice aa an ac,.slice oa ops.length oc] (some 49) (by kernel_rfl) (by kernel_rfl) (by decide) (fun w S M hP hG _=>?_)
   refine(placeCommit (hG.at 0 rfl) hP hx hn (hG.at 2 rfl) (hG.at 3 rfl) hl1 hl2 hl3).mono ?_
   rintro e1 w1 (⟨hc,_⟩|⟨hok,u1,m1,d1,u2,m2,d2,u3,m3,d3,hR⟩)
   ·exact absurd (hc0 h0) hc
   refine⟨_,_,_,hR,?_⟩
   try simp only[aQ]
   refine Ym (Rds 13 17++[.wr 17 [] 0,.wr 18 (hnO 3 3) 0,zR 19,zR 20]) [49,40,44,48] (fun nu2=>[zP 6 (nu2 0),zS 7 u3 m3 d3,zV 8 .nilIface]) o0 (fun nu2=>[(nu2 0,.cells #[.slice u1 m1 d1,nI (↑x.id:Int),.slice u2 m2 d2] 35 (0,0))]) [] (fun nu2=>?_)
   try simp only[aQ]
   refine JR_end ?_
   try simp only[aQ]
   refine J_seq ?_
   try simp only[aQ]
   refine J_seq ?_
   try simp only[aQ]
   refine Za [zR 0,zR 1] [] [zB 54 false] ?_
   try simp only[aQ]
   refine cF ?_
   try simp only[aQ]
   refine J_skip ?_
   try simp only[aQ]
   refine J_seq ?_
   try simp only[aQ]
   refine jT [(0,true),(1,true),(2,true),(3,false),(4,true),(5,true),(6,false)] [] ?_
   refine Ya [zR 0,zR 1,.rd 2 [.o 3 none] 0 0] [54,8,0] [zP 57 sb,zS 59 u1 m1 d1] ?_
   refine Yc 101 #[.slice u1 m1 d1] (some 60) fun w S hG=>?_
   refine(cloneInts (hG.at 4 rfl) hwl).mono ?_
   rintro e2 w2 ⟨a4,c4,hR⟩
   refine⟨_,_,_,hR,?_⟩
   try simp only[aQ]
   refine Ym [zR 4,zR 5,.wr 6 [.o 0 none] 0] [60,57,59] (fun _=>[]) (fun _=>[(0,.cells #[.pointer none,.slice a4 m1 c4] 181 (0,0))]) o0 [] (fun _=>?_)
   try simp only[aQ]
   refine JR_end ?_
   try simp only[aQ]
   refine J_seq ?_
   try simp only[aQ]
   refine J_stp (stp_freeze 1 rfl) ?_
   refine Nm [(cPlace pb (comPl x (comP x at' ops)))] ?_
   try simp only[aQ]
   refine jT [(0,true),(1,false),(2,true),(3,false),(4,true),(5,true)] [] ?_
   refine Ya [.rd 0 (hnO 3 3) 0 0] [6] [zV 63 (.agg #[.slice u1 m1 d1,nI (↑x.id:Int),.slice u2 m2 d2])] ?_
   refine Yc 84 #[.agg #[.slice u1 m1 d1,nI (↑x.id:Int),.slice u2 m2 d2]] (some 64) fun w S hG=>?_
   refine(vOwnC (c:=comP x at' ops) (hG.at 4 rfl) (hG.at 5 rfl) hwl (by rw[comP,renum_len];exact hl2) (renum_dots hl3)).mono ?_
   rintro e3 w3 ⟨v1,z1,v2,z2,hR⟩
   refine⟨_,_,_,hR,?_⟩
   try simp only[aQ]
   refine Ym [zR 2,.wr 3 (hnO 2 3) 0,zR 4,zR 5] [64,63,7] (fun _=>[zS 3 u3 m3 d3]) (fun _=>[(2,.cells #[.slice v1 m1 z1,nI ((comP x at' ops).place),.slice v2 m2 z2] 35 (0,0))]) o0 [] (fun _=>?_)
   refine JR_end ?_
   refine Yr [(hnO 2 3),[],[]] (.tuple #[.agg #[.slice v1 m1 z1,nI ((comP x at' ops).place),.slice v2 m2 z2],.slice u3 m3 d3,.nilIface]) fun a w s=>?_
   have s2:=(((s.stp (stp_freeze 1 rfl)).stp (stp_freeze 1 rfl)).hide 0 rfl).stp (stp_closebox (C:=fun y:SesX=>[cObj sb (sesO none (.slice y.ta y.tn y.tc))]) (G:=fun y:SesX=>[(.slice y.ta y.tn y.tc,dInts (comP x at' ops).when)]) (p:=fun _=>True) [1] ⟨a4,m1,c4,0,none,0,0,none,0,0⟩ rfl (by simp) trivial)
   exact .inr ⟨h0,_,_,_,_,_,_,_,_,_,s2.ret (by simp) [0,1] [8,9,6] rfl rfl⟩
  ·refine Ym (Rds 0 3++[.rd 3 [.o 1 none] 0 0]++Rds 4 7++[.rd 7 [.o 1 none] 0 0]++Rds 8 11++[.rd 11 [.o 1 none] 0 0,.wr 17 [] 0]) [25,5] (fun nu2=>[(6,.val (.pointer (some (⟨nu2 0,0,none⟩)))),(40,.val (.pointer (some (⟨pb,0,none⟩)))),(44,.val (.slice aa an ac)),(48,.val (.slice oa ops.length oc))]) o0 (fun nu2=>[(nu2 0,.cells #[.slice none 0 0,.int .i64 0,.slice none 0 0] 35 (0,0))]) [(12,[]),(18,[])] (fun nu2=>?_)
   refine JR_call [] [0] 22 #[.pointer (some (⟨pb,0,none⟩)),.slice aa an ac,.slice oa ops.length oc] (some 49) (by kernel_rfl) (by kernel_rfl) (by decide) (fun w S M hP hG _=>?_)
   refine(placeCommit (hG.at 0 rfl) hP hx hn (hG.at 2 rfl) (hG.at 3 rfl) hl1 hl2 hl3).mono ?_
   rintro e1 w1 (⟨hc,_⟩|⟨hok,u1,m1,d1,u2,m2,d2,u3,m3,d3,hR⟩)
   ·exact absurd (hc0 h0) hc
   refine⟨_,_,_,hR,?_⟩
   try simp only[aQ]
   refine Ym (Rds 13 17++[.wr 18 (hnO 3 3) 0,zR 19,zR 20]) [49,40,44,48] (fun _=>[zS 7 u3 m3 d3,zV 8 .nilIface]) (fun _=>[(3,.cells #[.slice u1 m1 d1,nI (↑x.id:Int),.slice u2 m2 d2] 35 (0,0))]) o0 [] (fun _=>?_)
   try simp only[aQ]
   refine JR_end ?_
   try simp only[aQ]
   refine J_seq ?_
   try simp only[aQ]
   refine J_seq ?_
   try simp only[aQ]
   refine Za [zR 0,zR 1] [] [zB 54 false] ?_
   try simp only[aQ]
   refine cF ?_
   try simp only[aQ]
   refine J_skip ?_
   try simp only[aQ]
   refine J_seq ?_
   try simp only[aQ]
   refine jT [(0,true),(1,true),(2,true),(3,false),(4,true),(5,true),(6,false)] [] ?_
   refine Ya [zR 0,zR 1,.rd 2 [.o 3 none] 0 0] [54,8,0] [zP 57 sb,zS 59 u1 m1 d1] ?_
   refine Yc 101 #[.slice u1 m1 d1] (some 60) fun w S hG=>?_
   refine(cloneInts (hG.at 4 rfl) hwl).mono ?_
   rintro e2 w2 ⟨a4,c4,hR⟩
   refine⟨_,_,_,hR,?_⟩
   try simp only[aQ]
   refine Ym [zR 4,zR 5,.wr 6 [.o 0 none] 0] [60,57,59] (fun _=>[]) (fun _=>[(0,.cells #[.pointer none,.slice a4 m1 c4] 181 (0,0))]) o0 [] (fun _=>?_)
   try simp only[aQ]
   refine JR_end ?_
   try simp only[aQ]
   refine J_seq ?_
   try simp only[aQ]
   refine J_stp (stp_freeze 1 rfl) ?_
   refine Nm [(cPlace pb (comPl x (comP x at' ops)))] ?_
   try simp only[aQ]
   refine jT [(0,true),(1,false),(2,true),(3,false),(4,true),(5,true)] [] ?_
   refine Ya [.rd 0 (hnO 3 3) 0 0] [6] [zV 63 (.agg #[.slice u1 m1 d1,nI (↑x.id:Int),.slice u2 m2 d2])] ?_
   refine Yc 84 #[.agg #[.slice u1 m1 d1,nI (↑x.id:Int),.slice u2 m2 d2]] (some 64) fun w S hG=>?_
   refine(vOwnC (c:=comP x at' ops) (hG.at 4 rfl) (hG.at 5 rfl) hwl (by rw[comP,renum_len];exact hl2) (renum_dots hl3)).mono ?_
   rintro e3 w3 ⟨v1,z1,v2,z2,hR⟩
   refine⟨_,_,_,hR,?_⟩
   try simp only[aQ]
   refine Ym [zR 2,.wr 3 (hnO 2 3) 0,zR 4,zR 5] [64,63,7] (fun _=>[zS 3 u3 m3 d3]) (fun _=>[(2,.cells #[.slice v1 m1 z1,nI ((comP x at' ops).place),.slice v2 m2 z2] 35 (0,0))]) o0 [] (fun _=>?_)
   refine JR_end ?_
   refine Yr [(hnO 2 3),[],[]] (.tuple #[.agg #[.slice v1 m1 z1,nI ((comP x at' ops).place),.slice v2 m2 z2],.slice u3 m3 d3,.nilIface]) fun a w s=>?_
   have s2:=(((s.stp (stp_freeze 1 rfl)).stp (stp_freeze 1 rfl)).hide 0 rfl).stp (stp_closebox (C:=fun y:SesX=>[cObj sb (sesO none (.slice y.ta y.tn y.tc))]) (G:=fun y:SesX=>[(.slice y.ta y.tn y.tc,dInts (comP x at' ops).when)]) (p:=fun _=>True) [1] ⟨a4,m1,c4,0,none,0,0,none,0,0⟩ rfl (by simp) trivial)
   exact .inr ⟨h0,_,_,_,_,_,_,_,_,_,s2.ret (by simp) [0,1] [8,9,6] rfl rfl⟩
end ses
end Go.Proofs.YtmkapocibaojdaaGreatDoor
end
section
namespace Go.Proofs.YtmkapocibaojdaaGreatDoor
open Go Go.Sx
def kpK (key:ByteArray):Nat:=if nameOk key=true then 0 else 4
def kpV (x:PlT) (os:List OpT) (key:ByteArray):ValT:=if nameOk key=true then Sx.valOf key (sesL x [x.clock] os key)else ⟨0,ByteArray.mk #[],0,[]⟩
theorem opErr_few {o:OpT} {p:Int} (h:opErr o p=0):o.dots.length≤60:=by
 unfold opErr at h
 split at h
 ·cases h
 split at h
 ·cases h
 split at h
 ·cases h
 split at h
 ·cases h
 split at h
 ·cases h
 omega
theorem OsOk.few {t:Int} {os:List OpT} (h:OsOk t os):∀o∈os,o.dots.length≤1000000:=fun o ho=>by
 have:=opErr_few (h.err o ho)
 omega
theorem KeepI.mono {x:PlT} {n m:Nat} (h:KeepI x n) (hm:n≤m):KeepI x m:=⟨h.pin.mono hm,h.p,h.id,h.base,h.lone⟩
theorem KeepI.same {x:PlT} {n:Nat} (h:KeepI x n) (hn:n<1000000) {os:List OpT} (hs:OsOk x.clock os) (h0:os≠[]) (key:ByteArray):kpV (comPl x (Go.Proofs.YtmkapocibaojdaaGreatDoor.comP x [x.clock] os)) [] key=kpV x os key:=by
 have e:=h.val hn hs key
 unfold kpV
 split
 ·rw[sesL,sesL,if_pos rfl,if_neg h0]
  show Sx.valOf key (withinC (comPl x (Go.Proofs.YtmkapocibaojdaaGreatDoor.comP x [x.clock] os)).L key [x.clock+1])=_
  rw[e,h.id]
  rfl
 ·rfl
section ses
variable {w:World} {S:Nat→Prop} {M:List Nat} {er:Nat→Addr} {eb:Nat→Array Value×TypeId} {x:PlT} {pb sb n:Nat} {os:List OpT}
theorem keepBegin (hC:Rep w S .nilIface (dC er eb)) (hP:Pre w S M [cPlace pb x,cSes0 sb [x.clock]]) (h:KeepI x n) :
  Calls Tryz.prog 33 #[.pointer (some ⟨sb,0,none⟩),.pointer (some ⟨pb,0,none⟩)] w fun e w'=>∃a' n' c',Ret M w S w' e (.tuple #[.slice a' n' c',.nilIface]) [cPlace pb x,cSes1 sb [x.clock] pb [x.clock] []] []:=by
 obtain⟨h0,_,h1⟩:=h.clk
 refine(sesBegin hC hP h.pin.toPlOk (vec1_ok h0 h1) (by simp[h.p])).mono ?_
 rintro e w' (⟨hf,_⟩|⟨_,a',n',c',hR⟩)
 ·rw[h.snap,in1_ok (Int.le_refl _)]at hf
  cases hf
 ·rw[h.snap]at hR
  exact⟨_,_,_,hR.less (by simp)⟩
theorem keepRead (hC:Rep w S .nilIface (dC er eb)) (hP:Pre w S M [cPlace pb x,cSes2 sb [x.clock] pb [x.clock] os]) (h:KeepI x n) (hn:n≤600) (hs:OsOk x.clock os) (key:ByteArray) :
  Calls Tryz.prog 38 #[.pointer (some ⟨sb,0,none⟩),.string key] w fun e w'=>∃ua un uc r,Ret M (zero w) S w' e (.tuple #[valA (kpV x os key) (.slice ua un uc),r]) [cPlace pb x,cSes2 sb [x.clock] pb [x.clock] os] [(.slice ua un uc,dStrs (kpV x os key).set)]∧ErrIs 390 er (kpK key) r:=by
 have hk:sesK x [x.clock] os key=kpK key:=by
  unfold sesK
  split
  ·exact h.readE key
  ·exact h.atE key
 have hlen:=hs.len
 refine(sesRead hC hP h.pin hn rfl (by omega) fun h0 hk=>?_).mono ?_
 ·rw[sesL,if_neg h0,h.id]
  exact late_ok h hs h0 hk
 rintro e w' (⟨hf,hR⟩|⟨hf,ua,un,uc,hR⟩)
 ·rw[hk]at hf hR
  have hno:nameOk key≠true:=fun hc=>hf (by rw[kpK,if_pos hc])
  have hv:kpV x os key=⟨0,ByteArray.mk #[],0,[]⟩:=by rw[kpV,if_neg hno]
  rw[hv]
  refine⟨none,0,0,_,hR.more hP.no (G0:=[(.slice none 0 0,dStrs [])]) ?_,.inr ⟨hf,rfl⟩⟩
  exact .cons .nil (.nil _ _)
 ·rw[hk]at hf
  have hyes:nameOk key=true:=Classical.byContradiction fun hc=>by rw[kpK,if_neg hc]at hf;cases hf
  have hv:kpV x os key=Sx.valOf key (sesL x [x.clock] os key):=by rw[kpV,if_pos hyes]
  rw[hv]
  exact⟨ua,un,uc,_,hR,.inl ⟨hf,rfl⟩⟩
theorem keepCommit (hC:Rep w S .nilIface (dC er eb)) (hP:Pre w S M [cPlace pb x,cSes2 sb [x.clock] pb [x.clock] os]) (h:KeepI x n) (hn:n<600) (hs:OsOk x.clock os) :
  Calls Tryz.prog 39 #[.pointer (some ⟨sb,0,none⟩)] w fun e w'=>∃u1 m1 d1 z u2 m2 d2 u3 m3 d3 x',Ret M w S w' e (.tuple #[.agg #[.slice u1 m1 d1,.int .i64 z,.slice u2 m2 d2],.slice u3 m3 d3,.nilIface]) [cPlace pb x',cSes0 sb [x'.clock]] []∧KeepI x' (n+1)∧∀key,kpV x' [] key=kpV x os key:=by
 have hlen:=hs.len
 refine(sesCommit hC hP h.pin hn (by simp) (by omega) hs.few fun h0=>h.comE (by omega) hs h0).mono ?_
 rintro e w' (⟨h0,u1,m1,d1,hR⟩|⟨h0,u1,m1,d1,u2,m2,d2,u3,m3,d3,hR⟩)
 ·subst h0
  exact⟨_,_,_,_,_,_,_,_,_,_,x,hR.less (by simp),h.mono (Nat.le_succ n),fun _=>rfl⟩
 ·have ew:(comP x [x.clock] os).when=[(comPl x (comP x [x.clock] os)).clock]:=by rw[h.comP hs];rfl
  rw[ew]at hR
  exact⟨_,_,_,_,_,_,_,_,_,_,_,hR.less (by simp),h.com (by omega) hs h0 hs.few,h.same (by omega) hs h0⟩
end ses
end Go.Proofs.YtmkapocibaojdaaGreatDoor
end
section
namespace Go.Proofs.YtmkapocibaojdaaGreatDoor
open Go Go.Sx
section ses
variable {w:World} {S:Nat→Prop} {M:List Nat} {er:Nat→Addr} {eb:Nat→Array Value×TypeId} {x:PlT} {pb sb n:Nat} {tok at':List Int} {ops:List OpT} {key text:ByteArray} {z:Int}
theorem sesSet (hC:Rep w S .nilIface (dC er eb)) (hP:Pre w S M [cPlace pb x,cSes1 sb tok pb at' ops]) (hx:PlIn x n) (hn:n≤600) (hl1:at'.length≤1000000) (hl:ops.length≤1000000) :
  Calls Tryz.prog 34 #[.pointer (some ⟨sb,0,none⟩),.string key,.string text] w fun e w'=>∃v,Ret M w S w' e v [cPlace pb x,cSes1 sb tok pb at' (sesOps x at' ops ⟨0,key,1,text,0,false,[]⟩)] []∧ErrIs 390 er (sesErr x at' ops ⟨0,key,1,text,0,false,[]⟩) v:=by
 refine enG Tryz.func34 bd34 (args:=[.pointer (some ⟨sb,0,none⟩),.string key,.string text]) (S:=S) (C:=[cPlace pb x,cSes1 sb tok pb at' ops]) (G:=[(_,dC er eb)]) (by kernel_rfl) hP (.cons hC (.nil _ _)) ?_
 refine Zs [zR 0] [] [zV 6 .nilIface] ?_
 refine jS [(0,true),(1,true),(2,true),(3,true),(4,false),(5,true)] [] ?_
 refine Ya (Rds 0 4) [0,1,2] [zP 7 sb,zV 10 (.agg #[nI 0,.string key,nI 1,.string text,nI 0,.bool false,.slice none 0 0])] ?_
 refine JR_call [] [0,1] 102 #[.pointer (some (⟨sb,0,none⟩)),.agg #[.int .i64 0,.string key,.int .i64 1,.string text,.int .i64 0,.bool false,.slice none 0 0]] (some 11) (by kernel_rfl) (by kernel_rfl) (by decide) (fun w S M hP hG _=>?_)
 refine(sesWrite (hG.at 0 rfl) hP hx hn hl1 hl).mono ?_
 rintro e1 w1 ⟨v,hR,hv⟩
 refine⟨_,_,_,hR,?_⟩
 try simp only[aQ]
 refine Ya [zR 5] [11,7,10] [zV 6 v] ?_
 try simp only[aQ]
 refine JR_end ?_
 try simp only[aQ]
 refine Yr [[]] (v) fun a w s=>?_
 exact⟨_,s.ret (by simp) [0,1] [] rfl rfl,hv⟩
theorem sesAdd (hC:Rep w S .nilIface (dC er eb)) (hP:Pre w S M [cPlace pb x,cSes1 sb tok pb at' ops]) (hx:PlIn x n) (hn:n≤600) (hl1:at'.length≤1000000) (hl:ops.length≤1000000) :
  Calls Tryz.prog 35 #[.pointer (some ⟨sb,0,none⟩),.string key,.int .i64 z] w fun e w'=>∃v,Ret M w S w' e v [cPlace pb x,cSes1 sb tok pb at' (sesOps x at' ops ⟨0,key,2,ByteArray.mk #[],z,false,[]⟩)] []∧ErrIs 390 er (sesErr x at' ops ⟨0,key,2,ByteArray.mk #[],z,false,[]⟩) v:=by
 refine enG Tryz.func35 bd35 (args:=[.pointer (some ⟨sb,0,none⟩),.string key,.int .i64 z]) (S:=S) (C:=[cPlace pb x,cSes1 sb tok pb at' ops]) (G:=[(_,dC er eb)]) (by kernel_rfl) hP (.cons hC (.nil _ _)) ?_
 refine Zs [zR 0] [] [zV 6 .nilIface] ?_
 refine jS [(0,true),(1,true),(2,true),(3,true),(4,false),(5,true)] [] ?_
 refine Ya (Rds 0 4) [0,1,2] [zP 7 sb,zV 10 (.agg #[nI 0,.string key,nI 2,.string (ByteArray.mk #[]),nI z,.bool false,.slice none 0 0])] ?_
 refine JR_call [] [0,1] 102 #[.pointer (some (⟨sb,0,none⟩)),.agg #[.int .i64 0,.string key,.int .i64 2,.string (ByteArray.mk #[]),.int .i64 z,.bool false,.slice none 0 0]] (some 11) (by kernel_rfl) (by kernel_rfl) (by decide) (fun w S M hP hG _=>?_)
 refine(sesWrite (hG.at 0 rfl) hP hx hn hl1 hl).mono ?_
 rintro e1 w1 ⟨v,hR,hv⟩
 refine⟨_,_,_,hR,?_⟩
 try simp only[aQ]
 refine Ya [zR 5] [11,7,10] [zV 6 v] ?_
 try simp only[aQ]
 refine JR_end ?_
 try simp only[aQ]
 refine Yr [[]] (v) fun a w s=>?_
 exact⟨_,s.ret (by simp) [0,1] [] rfl rfl,hv⟩
theorem sesPutT (hC:Rep w S .nilIface (dC er eb)) (hP:Pre w S M [cPlace pb x,cSes1 sb tok pb at' ops]) (hx:PlIn x n) (hn:n≤600) (hl1:at'.length≤1000000) (hl:ops.length≤1000000) :
  Calls Tryz.prog 36 #[.pointer (some ⟨sb,0,none⟩),.string key,.string text] w fun e w'=>∃v,Ret M w S w' e v [cPlace pb x,cSes1 sb tok pb at' (sesOps x at' ops ⟨0,key,3,text,0,false,[]⟩)] []∧ErrIs 390 er (sesErr x at' ops ⟨0,key,3,text,0,false,[]⟩) v:=by
 refine enG Tryz.func36 bd36 (args:=[.pointer (some ⟨sb,0,none⟩),.string key,.string text]) (S:=S) (C:=[cPlace pb x,cSes1 sb tok pb at' ops]) (G:=[(_,dC er eb)]) (by kernel_rfl) hP (.cons hC (.nil _ _)) ?_
 refine Zs [zR 0] [] [zV 6 .nilIface] ?_
 refine jS [(0,true),(1,true),(2,true),(3,true),(4,false),(5,true)] [] ?_
 refine Ya (Rds 0 4) [0,1,2] [zP 7 sb,zV 10 (.agg #[nI 0,.string key,nI 3,.string text,nI 0,.bool false,.slice none 0 0])] ?_
 refine JR_call [] [0,1] 102 #[.pointer (some (⟨sb,0,none⟩)),.agg #[.int .i64 0,.string key,.int .i64 3,.string text,.int .i64 0,.bool false,.slice none 0 0]] (some 11) (by kernel_rfl) (by kernel_rfl) (by decide) (fun w S M hP hG _=>?_)
 refine(sesWrite (hG.at 0 rfl) hP hx hn hl1 hl).mono ?_
 rintro e1 w1 ⟨v,hR,hv⟩
 refine⟨_,_,_,hR,?_⟩
 try simp only[aQ]
 refine Ya [zR 5] [11,7,10] [zV 6 v] ?_
 try simp only[aQ]
 refine JR_end ?_
 try simp only[aQ]
 refine Yr [[]] (v) fun a w s=>?_
 exact⟨_,s.ret (by simp) [0,1] [] rfl rfl,hv⟩
theorem sesDrop (hC:Rep w S .nilIface (dC er eb)) (hP:Pre w S M [cPlace pb x,cSes1 sb tok pb at' ops]) (hx:PlIn x n) (hn:n≤600) (hl1:at'.length≤1000000) (hl:ops.length≤1000000) :
  Calls Tryz.prog 37 #[.pointer (some ⟨sb,0,none⟩),.string key,.string text] w fun e w'=>∃v,Ret M w S w' e v [cPlace pb x,cSes1 sb tok pb at' (sesOps x at' ops ⟨0,key,3,text,0,true,[]⟩)] []∧ErrIs 390 er (sesErr x at' ops ⟨0,key,3,text,0,true,[]⟩) v:=by
 refine enG Tryz.func37 bd37 (args:=[.pointer (some ⟨sb,0,none⟩),.string key,.string text]) (S:=S) (C:=[cPlace pb x,cSes1 sb tok pb at' ops]) (G:=[(_,dC er eb)]) (by kernel_rfl) hP (.cons hC (.nil _ _)) ?_
 refine Zs [zR 0] [] [zV 6 .nilIface] ?_
 refine jS [(0,true),(1,true),(2,true),(3,true),(4,false),(5,true)] [] ?_
 refine Ya (Rds 0 4) [0,1,2] [zP 7 sb,zV 10 (.agg #[nI 0,.string key,nI 3,.string text,nI 0,.bool true,.slice none 0 0])] ?_
 refine JR_call [] [0,1] 102 #[.pointer (some (⟨sb,0,none⟩)),.agg #[.int .i64 0,.string key,.int .i64 3,.string text,.int .i64 0,.bool true,.slice none 0 0]] (some 11) (by kernel_rfl) (by kernel_rfl) (by decide) (fun w S M hP hG _=>?_)
 refine(sesWrite (hG.at 0 rfl) hP hx hn hl1 hl).mono ?_
 rintro e1 w1 ⟨v,hR,hv⟩
 refine⟨_,_,_,hR,?_⟩
 try simp only[aQ]
 refine Ya [zR 5] [11,7,10] [zV 6 v] ?_
 try simp only[aQ]
 refine JR_end ?_
 try simp only[aQ]
 refine Yr [[]] (v) fun a w s=>?_
 exact⟨_,s.ret (by simp) [0,1] [] rfl rfl,hv⟩
end ses
end Go.Proofs.YtmkapocibaojdaaGreatDoor
end
section
namespace Go.Proofs.YtmkapocibaojdaaGreatDoor
open Go Go.Sx
set_option maxHeartbeats 4000000 in
theorem stp_closeS2 {h r:List (Nat×Obj)} {F:List (List Nat×World)} {S0:Nat→Prop} {C0:List Chunk} {G0:List (Value×D)} {b pb:Nat} {tok at':List Int} {ops:List OpT} (ps:List Nat) (y:SesX) (hC:pick C0 ps=[cObj b (sesO (some ⟨y.tb,0,none⟩) (.slice y.ta y.tn y.tc)),cObj y.tb (turnO pb (.slice y.aa y.an y.ac) (.slice y.oa y.on y.oc))]) (hG:∀x∈[(Value.slice y.ta y.tn y.tc,dInts tok),(.slice y.aa y.an y.ac,dInts at'),(.slice y.oa y.on y.oc,.sl 7 (ops.map eOp))],x∈G0) (hnd:ps.Nodup:=by decide) :
  Stp h r F ⟨S0,C0,G0⟩ (fun _:Unit=>True) fun _=>⟨S0,restC C0 ps++[cSes2 b tok pb at' ops],G0⟩:=stp_closebox ps y hC hG trivial hnd
abbrev keyK1:ByteArray:=⟨#[107]⟩
abbrev texX1:ByteArray:=⟨#[120]⟩
abbrev opn1:OpT:=⟨0,keyK1,1,texX1,0,false,[]⟩
theorem openV:kpV (newP 0 1 1) [opn1] keyK1=⟨1,texX1,0,[]⟩:=by
 have h:=(KeepI.new (n:=0)).lone
 have e:=h.ops (u:=1099511627776) (by decide) (key:=keyK1) (m:=[⟨[1099511627776],0,[opn1]⟩]) (os:=[opn1]) (done_own _ _) (by simp)
 have e2:sesL (newP 0 1 1) [(newP 0 1 1).clock] [opn1] keyK1=keyC (newP 0 1 1).L keyK1++[⟨[1099511627776],0,[opn1]⟩]:=rfl
 have e3:opsOf keyK1 (keyC (newP 0 1 1).L keyK1)=[]:=by simp[opsOf,opsRaw,sortDone,newP,keyC,allDone,firsts]
 rw[kpV,if_pos (by kernel_rfl),e2,valOf_D,e,e3]
 rfl
theorem openOk:OsOk (newP 0 1 1).clock [opn1]:=by
 refine⟨by simp,fun i o h=>?_,fun o ho=>?_,fun o ho d hd=>?_⟩
 ·obtain⟨hi,he⟩:=List.getElem?_eq_some_iff.1 h
  rw[List.length_singleton]at hi
  obtain rfl:i=0:=by omega
  rw[←he]
  rfl
 ·rw[List.mem_singleton.1 ho]
  kernel_rfl
 ·rw[List.mem_singleton.1 ho]at hd
  cases hd
set_option maxHeartbeats 8000000 in
theorem sesOpened {w:World} {S:Nat→Prop} {er:Nat→Addr} {eb:Nat→Array Value×TypeId} (hC:Rep w S .nilIface (dC er eb)) :
  Calls Tryz.prog 31 #[] w fun e w'=>Ret [] (zero w) S w' e (.bool true) [] []:=by
 refine epG Tryz.func31 bd31 (args:=[]) (S:=S) (G:=[(_,dC er eb)]) (by kernel_rfl) (.cons hC (.nil _ _)) ?_
 refine J_zero ?_
 refine Zs [zR 0] [] [zB 0 false] ?_
 refine jS [(0,false),(1,true),(2,true),(3,true),(4,true),(5,true)] [] ?_
 refine Yc 12 #[nI 0,nI 1,nI 1] (some 8) fun w S hG=>?_
 refine(placeNew (id:=0) (places:=1) (shards:=1) (hG.at 0 rfl)).mono ?_
 rintro e1 w1 (⟨h,_⟩|⟨_,pb,hR⟩)
 ·exact absurd (by decide) h
 rw[show newP (0:Int).toNat (1:Int).toNat (1:Int).toNat=newP 0 1 1 from rfl]at hR
 refine⟨_,_,_,hR,?_⟩
 try simp only[aQ]
 refine Ya (Rds 1 6) [8] [zP 1 pb,zV 2 .nilIface] ?_
 refine JR_end ?_
 refine jS [(0,false),(1,true),(2,true),(3,true),(4,true),(5,true)] [] ?_
 refine Yc 32 #[nI 1] (some 12) fun w S hG=>?_
 refine(sesNew (p:=1) (hG.at 0 rfl) (by decide) (by decide)).mono ?_
 rintro e2 w2 ⟨sb,hR⟩
 rw[show List.replicate (1:Int).toNat (0:Int)=[(newP 0 1 1).clock] from rfl]at hR
 refine⟨_,_,_,hR,?_⟩
 try simp only[aQ]
 refine Ya (Rds 1 6) [12] [zP 3 sb,zV 4 .nilIface] ?_
 refine JR_end (J_seq ?_)
 refine Zs (Rds 0 14) [] [zB 28 false] ?_
 refine cF ?_
 refine J_skip ?_
 refine jS [(0,true),(1,true),(2,false),(3,true),(4,true),(5,true),(6,true)] [] ?_
 refine Ya [zR 0,zR 1] [28,1] [zP 30 sb,zP 31 pb] ?_
 refine JR_call [] [0,1] 33 #[.pointer (some (⟨sb,0,none⟩)),.pointer (some (⟨pb,0,none⟩))] (some 32) (by kernel_rfl) (by kernel_rfl) (by decide) (fun w S M hP hG _=>?_)
 refine(keepBegin (n:=0) (hG.at 0 rfl) hP KeepI.new).mono ?_
 rintro e3 w3 ⟨a3,n3,c3,hR⟩
 refine⟨_,_,_,hR,?_⟩
 try simp only[aQ]
 refine Ya (Rds 3 7) [32,30,31] [] ?_
 try simp only[aQ]
 refine JR_end ?_
 try simp only[aQ]
 refine J_seq ?_
 try simp only[aQ]
 refine jT [(0,true),(1,false),(2,true)] [] ?_
 refine Ya [zR 0] [] [zP 35 sb] ?_
 refine JR_call [] [0,1] 34 #[.pointer (some (⟨sb,0,none⟩)),.string (ByteArray.mk #[107]),.string (ByteArray.mk #[120])] (some 36) (by kernel_rfl) (by kernel_rfl) (by decide) (fun w S M hP hG _=>?_)
 refine(sesSet (n:=0) (hG.at 0 rfl) hP (KeepI.new (n:=0)).pin (by decide) (by decide) (by decide)).mono ?_
 rintro e4 w4 ⟨v,hR,hv⟩
 rw[show sesErr (newP 0 1 1) [(newP 0 1 1).clock] [] ⟨0,⟨#[107]⟩,1,⟨#[120]⟩,0,false,[]⟩=0 by kernel_rfl]at hv
 rw[show sesOps (newP 0 1 1) [(newP 0 1 1).clock] [] ⟨0,⟨#[107]⟩,1,⟨#[120]⟩,0,false,[]⟩=[opn1]by kernel_rfl]at hR
 obtain⟨_,rfl⟩|⟨h0,_⟩:=hv
 rotate_left
 ·exact absurd rfl h0
 refine⟨_,_,_,hR,?_⟩
 try simp only[aQ]
 refine Ya [zR 2] [36,35] [] ?_
 try simp only[aQ]
 refine JR_end ?_
 try simp only[aQ]
 refine J_seq ?_
 try simp only[aQ]
 refine J_stpx (stp_openbox 1 rfl) fun y _=>?_
 obtain⟨ta,tn,tc,tb,aa,an,ac,oa,on,oc⟩:=y
 dsimp only
 refine Nm [(cPlace pb (newP 0 1 1)),cObj sb (.cells #[.pointer (sA tb 0),.slice ta tn tc] 181 (0,0)),cObj tb (.cells #[.pointer (sA pb 0),.slice aa an ac,.slice oa on oc] 184 (0,0)),cAcc (.slice oa on oc) 55 7 (List.map eOp [opn1])] ?_
 refine J_stp (stp_freeze 3 rfl) ?_
 refine Nm [(cPlace pb (newP 0 1 1)),cObj sb (.cells #[.pointer (sA tb 0),.slice ta tn tc] 181 (0,0)),cObj tb (.cells #[.pointer (sA pb 0),.slice aa an ac,.slice oa on oc] 184 (0,0))] ?_
 refine J_stp (stp_closeS2 (tok:=[(newP 0 1 1).clock]) (at':=[(newP 0 1 1).clock]) (ops:=[opn1]) [1,2] ⟨ta,tn,tc,tb,aa,an,ac,oa,on,oc⟩ rfl (by simp)) ?_
 refine Nm [(cPlace pb (newP 0 1 1)),(cSes2 sb [(newP 0 1 1).clock] pb [(newP 0 1 1).clock] [opn1])] ?_
 try simp only[aQ]
 refine jT [(0,true),(1,false),(2,true),(3,true),(4,true),(5,false),(6,false),(7,true)] [] ?_
 refine Ya [zR 0] [] [zP 38 sb] ?_
 refine JR_callz [] [0,1] 38 #[.pointer (some (⟨sb,0,none⟩)),.string (ByteArray.mk #[107])] (some 39) zero_all (by kernel_rfl) (by kernel_rfl) (by decide) (fun w S M hP hG _=>?_)
 refine(keepRead (n:=0) (hG.at 0 rfl) hP KeepI.new (by decide) openOk keyK1).mono ?_
 rintro e5 w5 ⟨ua,un,uc,r,hR,hr⟩
 rw[openV]at hR
 rw[show kpK keyK1=0 by kernel_rfl]at hr
 obtain⟨_,rfl⟩|⟨h0,_⟩:=hr
 rotate_left
 ·exact absurd rfl h0
 refine⟨_,_,_,hR,?_⟩
 try simp only[aQ]
 refine Ym (Rds 2 5++[.wr 5 [] 0,.wr 6 (hnO 0 4) 0,zR 7]) [39,38] (fun nu1=>[zP 5 (nu1 0),zV 6 .nilIface]) o0 (fun nu1=>[(nu1 0,.cells #[nI 1,.string texX1,nI 0,.slice ua un uc] 64 (0,0))]) [] (fun nu1=>?_)
 try simp only[aQ]
 refine JR_end ?_
 try simp only[aQ]
 refine J_seq ?_
 try simp only[aQ]
 refine jT [(0,true),(1,true),(2,true),(3,true),(4,true),(5,true),(6,true),(7,true),(8,true),(9,true),(10,true),(11,true),(12,true),(13,true),(14,true),(15,true),(16,true),(17,false),(18,true),(19,true)] [] ?_
 refine Ya (Rds 0 12++[.rd 12 [.o 0 none] 0 0]++Rds 13 17) [5,6,3,4,2] [zB 57 true,zP 58 sb] ?_
 refine JR_call [] [1] 43 #[.pointer (some (⟨sb,0,none⟩))] (some 59) (by kernel_rfl) (by kernel_rfl) (by decide) (fun w S M hP hG _=>?_)
 refine(sesOpen hP).mono ?_
 rintro e6 w6 hR
 refine⟨_,_,_,hR,?_⟩
 try simp only[aQ]
 refine Ya [zR 18,zR 19] [59,57,58] [zB 0 true] ?_
 try simp only[aQ]
 refine JR_end ?_
 try simp only[aQ]
 refine Yr [[]] (.bool true) fun a w s=>?_
 exact s.retz (by simp) [] [] rfl rfl
end Go.Proofs.YtmkapocibaojdaaGreatDoor
end
section
namespace Go.Sx
open Go
structure StepT where
 kind:ByteArray
 key:ByteArray
 text:ByteArray
 p:Int
 n:Int
abbrev eStep (s:StepT):List D:=[.v (.string s.kind),.v (.string s.key),.v (.string s.text),dI s.p,dI s.n]
end Go.Sx
end
