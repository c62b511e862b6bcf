/- Part 13 of the texts of a claim: SkL Tx9. -/
import Derived.Stop.LaidErr
import Derived.Below
import Derived.Carry
import Derived.ChangeSame
import Derived.OpenShut
import Derived.ChangeSlices
import Derived.Test.YtmkapocibaojdaaGreatDoorTs12
section
namespace Go.Proofs.YtmkapocibaojdaaGreatDoor
open Go Go.Sx
structure RndS where
 r:Int
 x:PlT
structure KopS where
 i:Int
 os:List OpT
theorem kp_few {x:PlT} {n:Nat} (h:KeepI x n) (hn:n≤600) (key:ByteArray):(kpV x [] key).set.length≤4000000:=by
 unfold kpV
 split
 ·rename_i hk
  have hl:=h.pin.len
  have hw:(withinC x.L key [x.clock]).length≤x.L.length:=Nat.le_trans (List.length_filter_le _ _) (by rw[keyC,List.length_map];exact List.length_filter_le _ _)
  have hv:=valOf_len (key:=key) (l:=withinC x.L key [x.clock]) (valFault_mk hk (fun c hc=>by
   obtain⟨q,hq,rfl⟩:=mem_keyC (List.mem_filter.1 hc).1
   exact(h.pin.put q hq).1) x.places fun c hc=>by
   obtain⟨q,hq,rfl⟩:=mem_keyC (List.mem_filter.1 hc).1
   exact(h.pin.put q hq).2)
  show(Sx.valOf key (withinC x.L key [x.clock])).set.length≤4000000
  omega
 ·simp
set_option maxHeartbeats 16000000 in
theorem sessionKeeps {w:World} {S:Nat→Prop} {er:Nat→Addr} {eb:Nat→Array Value×TypeId} {ua:Option Addr} {un uc:Nat} {l:List StepT} {key:ByteArray} (hC:Rep w S .nilIface (dC er eb)) (hI:Inj er) (h:Rep w S (.slice ua un uc) (.sl 5 (l.map eStep))) :
  Calls Tryz.prog 7 #[.slice ua un uc,.string key] w fun e w'=>Ret [] (zero w) S w' e (.bool true) [] []:=by
 have e1:=h.slen
 rw[List.length_map]at e1
 subst e1
 refine epG Tryz.func7 bd7 (args:=[.slice ua l.length uc,.string key]) (S:=S) (G:=[(_,dC er eb),(_,.sl 5 (l.map eStep))]) (by kernel_rfl) (.cons hC (.cons h (.nil _ _))) ?_
 refine J_zero ?_
 refine Zs [zR 0] [] [zB 4 false] ?_
 refine jS [(0,false),(1,true)] [] ?_
 refine JR_callzp [] 31 #[] (some 22) zero_all (by kernel_rfl) (fun w S hG=>?_)
 refine(sesOpened (hG.at 0 rfl)).mono ?_
 rintro e1 w1 hR
 refine⟨_,_,_,hR,?_⟩
 by_cases hbig:(l.length:Int)>12
 ·try simp only[aQ]
  refine Ya [zR 1] [22] [zB 5 true] ?_
  refine JR_end (J_seq ?_)
  refine Zt (Rds 0 5++[.rd 5 [] 0 6,zR 6,zR 7,.rd 8 [] 1 0,.rd 9 [] 1 0,.rd 10 [] 1 0,zR 11]) [] [zB 34 true] (oC (show decide ((↑l.length:Int)>(12:Int))=true from by simp;omega) oN) ?_
  refine cTt ?_
  refine Zs [zR 0,zR 1] [34,5] [zB 4 true] ?_
  refine Yr [[]] (.bool true) fun a w s=>?_
  exact s.retz (by simp) [] [] rfl rfl
 by_cases hbk:(key.size:Int)>60
 ·try simp only[aQ]
  refine Ya [zR 1] [22] [zB 5 true] ?_
  refine JR_end (J_seq ?_)
  refine Zt (Rds 0 5++[.rd 5 [] 0 7]++Rds 6 10++[.rd 10 [] 0 6,zR 11]) [] [zB 34 true] (oC (show decide ((↑l.length:Int)>(12:Int))=false from by simp;omega) (oC (show decide ((↑key.size:Int)>(60:Int))=true from by simp;omega) oN)) ?_
  refine cTt ?_
  refine Zs [zR 0,zR 1] [34,5] [zB 4 true] ?_
  refine Yr [[]] (.bool true) fun a w s=>?_
  exact s.retz (by simp) [] [] rfl rfl
 have hl12:l.length≤12:=by omega
 try simp only[aQ]
 refine Ya [zR 1] [22] [zB 5 true] ?_
 refine JR_end (J_seq ?_)
 refine Zt (Rds 0 5++[.rd 5 [] 0 7]++Rds 6 10++[.rd 10 [] 0 7,zR 11]) [] [zB 34 false] (oC (show decide ((↑l.length:Int)>(12:Int))=false from by simp;omega) (oC (show decide ((↑key.size:Int)>(60:Int))=false from by simp;omega) oN)) ?_
 refine cF ?_
 refine J_skip ?_
 refine jS [(0,false),(1,true),(2,true),(3,true),(4,true),(5,true)] [] ?_
 refine Yc 12 #[nI 0,nI 1,nI 1] (some 37) fun w S hG=>?_
 refine(placeNew (id:=0) (places:=1) (shards:=1) (hG.at 0 rfl)).mono ?_
 rintro e2 w2 (⟨h,_⟩|⟨_,pb,hR⟩)
 ·exact absurd (by decide) h
 rw[show newP (0:Int).toNat (1:Int).toNat (1:Int).toNat=newP 0 1 1 from rfl]at hR
 refine⟨_,_,_,hR,?_⟩
 try simp only[aQ]
 refine Ya (Rds 1 6) [37,34,5] [zP 6 pb,zV 7 .nilIface] ?_
 refine JR_end ?_
 refine jS [(0,false),(1,true),(2,true),(3,true),(4,true),(5,true)] [] ?_
 refine Yc 32 #[nI 1] (some 41) fun w S hG=>?_
 refine(sesNew (p:=1) (hG.at 0 rfl) (by decide) (by decide)).mono ?_
 rintro e3 w3 ⟨sb,hR⟩
 rw[show List.replicate (1:Int).toNat (0:Int)=[(newP 0 1 1).clock] from rfl]at hR
 refine⟨_,_,_,hR,?_⟩
 try simp only[aQ]
 refine Ya (Rds 1 6) [41] [zP 8 sb,zV 9 .nilIface] ?_
 refine JR_end (J_seq ?_)
 refine Zs (Rds 0 14) [9,7] [zB 57 false] ?_
 refine cF ?_
 refine J_skip (J_seq ?_)
 refine Zs [zR 0] [57] [zI 10 0] ?_
 refine J_block ?_
 refine J_loopx (fun z:RndS=>[zS 0 ua l.length uc,zV 1 (.string key),zB 4 false,zP 6 pb,zP 8 sb,zI 10 z.r]) (fun z:RndS=>[]) (fun z:RndS=>[cPlace pb z.x,cSes0 sb [z.x.clock]]) (fun z:RndS=>[(.nilIface,(dC er eb)),(.slice ua l.length uc,(D.sl 5 (List.map eStep l)))]) (fun z:RndS=>(2 - z.r).toNat) (fun z:RndS=>(0≤z.r∧z.r≤2∧KeepI z.x z.r.toNat)) ⟨0,newP 0 1 1⟩ [0,1,4,6,8,10] [] [0,1] [0,1] ?_ (by kernel_rfl) rfl rfl rfl ?_
 ·exact⟨by decide,by decide,KeepI.new⟩
 rintro⟨r,x⟩ ⟨hr0,hr2,hx⟩
 dsimp only at hr0 hr2 hx ⊢
 refine J_seq ?_
 refine Zs [zR 0,zR 1] [] [zB 59 (decide (r<2))] ?_
 refine cC (t:=decide (r<2)) (fun hlt=>?_) (fun hlt=>?_)
 ·have hlt2:r<2:=by simpa using hlt
  refine J_skip (J_seq (J_block ?_))
  refine jS [(0,true),(1,true),(2,false),(3,true),(4,true),(5,true),(6,true),(7,true)] [] ?_
  refine Ya [zR 0,zR 1] [59] [zP 63 sb,zP 64 pb] ?_
  refine JR_call [] [0,1] 33 #[.pointer (some (⟨sb,0,none⟩)),.pointer (some (⟨pb,0,none⟩))] (some 65) (by kernel_rfl) (by kernel_rfl) (by decide) (fun w S M hP hG _=>?_)
  refine(keepBegin (hG.at 0 rfl) hP hx).mono ?_
  rintro e4 w4 ⟨a4,n4,c4,hR⟩
  refine⟨_,_,_,hR,?_⟩
  try simp only[aQ]
  refine Ya (Rds 3 8) [65,63,64] [zV 12 .nilIface] ?_
  try simp only[aQ]
  refine JR_end ?_
  try simp only[aQ]
  refine J_seq ?_
  try simp only[aQ]
  refine J_seq ?_
  try simp only[aQ]
  refine Za [zR 0,zR 1] [] [zB 69 false] ?_
  try simp only[aQ]
  refine cF ?_
  try simp only[aQ]
  refine J_skip ?_
  try simp only[aQ]
  refine J_seq ?_
  try simp only[aQ]
  refine J_seq ?_
  try simp only[aQ]
  refine Za [zR 0] [69] [zI 13 0] ?_
  try simp only[aQ]
  refine J_block ?_
  try simp only[aQ]
  refine J_loopx (fun y:KopS=>[zS 0 ua l.length uc,zV 1 (.string key),zB 4 false,zP 6 pb,zP 8 sb,zI 10 r,zV 12 .nilIface,zI 13 y.i]) (fun y:KopS=>[]) (fun y:KopS=>[cPlace pb x,cSes1 sb [x.clock] pb [x.clock] y.os]) (fun y:KopS=>[(.nilIface,(dC er eb)),(.slice ua l.length uc,(D.sl 5 (List.map eStep l)))]) (fun y:KopS=>(l.length - y.i).toNat) (fun y:KopS=>(0≤y.i∧y.i≤l.length∧OsOk x.clock y.os)) ⟨0,[]⟩ [0,1,4,6,8,10,12,13] [] [0,1] [0,1] ?_ (by kernel_rfl) rfl rfl rfl ?_
  ·exact⟨by simp,by simp,OsOk.nil _⟩
  rintro⟨i,os⟩ ⟨hi0,hi,hos⟩
  dsimp only at hi0 hi hos ⊢
  refine J_seq ?_
  refine Zs (Rds 0 4) [] [zB 73 (decide (i<(↑l.length:Int)))] ?_
  refine cC (t:=decide (i<(↑l.length:Int))) (fun hlt3=>?_) (fun hlt3=>?_)
  ·have hlt4:i<l.length:=by simpa using hlt3
   obtain⟨q,hq⟩:∃q,l[i.toNat]?=some q:=⟨_,List.getElem?_eq_getElem (by omega)⟩
   refine J_read0 1 rfl i.toNat (map_at hq) (by kernel_rfl) (fun b1 off1 cs1 ty1 fz1 ha1 hrd1=>?_)
   cases ha1
   have hrd1_0:=rd0 (hrd1 0 _ rfl)
   have hrd1_1:=hrd1 1 _ rfl
   have hrd1_2:=hrd1 2 _ rfl
   have hrd1_3:=hrd1 3 _ rfl
   have hrd1_4:=hrd1 4 _ rfl
   by_cases hb1:(q.key.size:Int)>60
   ·try simp only[aQ]
    refine J_skip (J_seq (J_block ?_))
    refine Zu [zR 0,zR 1,.rd 2 [] 0 2,.rd 3 [.r 0 (some (.string q.kind)),.r 0 (some (.string q.key)),.r 0 (some (.string q.text)),.r 0 (some (nI q.p)),.r 0 (some (nI q.n))] 0 0,.wr 4 [] 0,.wr 5 (hnO 0 5) 0] [(5,[])] [73] (fun nu1=>[zP 14 (nu1 0)]) o0 (fun nu1=>[(nu1 0,.cells #[.string q.kind,.string q.key,.string q.text,nI q.p,nI q.n] 81 (0,0))]) (fun nu1=>(oC hi0 (oC hlt4 (oC hrd1_0 (oC hrd1_1 (oC hrd1_2 (oC hrd1_3 (oC hrd1_4 oN)))))))) (fun nu1=>?_)
    refine J_seq ?_
    refine Zt [zR 0,.rd 1 [.o 0 none] 0 0,zR 2,.rd 3 [] 0 6,zR 4,.rd 5 [] 1 0,.rd 6 [] 1 0,.rd 7 [] 1 0,.rd 8 [] 1 0,zR 9] [] [zB 89 true] (oC (show decide ((↑q.key.size:Int)>(60:Int))=true from by simp;omega) oN) ?_
    refine cTt ?_
    refine Zs [zR 0] [89] [zB 4 true] ?_
    refine Yr [[]] (.bool true) fun a w s=>?_
    exact s.retz (by simp) [] [] rfl rfl
   by_cases hb2:(q.text.size:Int)>200
   ·try simp only[aQ]
    refine J_skip (J_seq (J_block ?_))
    refine Zu [zR 0,zR 1,.rd 2 [] 0 2,.rd 3 [.r 0 (some (.string q.kind)),.r 0 (some (.string q.key)),.r 0 (some (.string q.text)),.r 0 (some (nI q.p)),.r 0 (some (nI q.n))] 0 0,.wr 4 [] 0,.wr 5 (hnO 0 5) 0] [(5,[])] [73] (fun nu1=>[zP 14 (nu1 0)]) o0 (fun nu1=>[(nu1 0,.cells #[.string q.kind,.string q.key,.string q.text,nI q.p,nI q.n] 81 (0,0))]) (fun nu1=>(oC hi0 (oC hlt4 (oC hrd1_0 (oC hrd1_1 (oC hrd1_2 (oC hrd1_3 (oC hrd1_4 oN)))))))) (fun nu1=>?_)
    refine J_seq ?_
    refine Zt [zR 0,.rd 1 [.o 0 none] 0 0,zR 2,.rd 3 [] 0 7,zR 4,zR 5,.rd 6 [.o 0 none] 0 0,zR 7,.rd 8 [] 0 6,zR 9] [] [zB 89 true] (oC (show decide ((↑q.key.size:Int)>(60:Int))=false from by simp;omega) (oC (show decide ((↑q.text.size:Int)>(200:Int))=true from by simp;omega) oN)) ?_
    refine cTt ?_
    refine Zs [zR 0] [89] [zB 4 true] ?_
    refine Yr [[]] (.bool true) fun a w s=>?_
    exact s.retz (by simp) [] [] rfl rfl
   try simp only[aQ]
   refine J_skip (J_seq (J_block ?_))
   refine Zu [zR 0,zR 1,.rd 2 [] 0 2,.rd 3 [.r 0 (some (.string q.kind)),.r 0 (some (.string q.key)),.r 0 (some (.string q.text)),.r 0 (some (nI q.p)),.r 0 (some (nI q.n))] 0 0,.wr 4 [] 0,.wr 5 (hnO 0 5) 0] [(5,[])] [73] (fun nu1=>[zP 14 (nu1 0)]) o0 (fun nu1=>[(nu1 0,.cells #[.string q.kind,.string q.key,.string q.text,nI q.p,nI q.n] 81 (0,0))]) (fun nu1=>(oC hi0 (oC hlt4 (oC hrd1_0 (oC hrd1_1 (oC hrd1_2 (oC hrd1_3 (oC hrd1_4 oN)))))))) (fun nu1=>?_)
   refine J_seq ?_
   refine Zt [zR 0,.rd 1 [.o 0 none] 0 0,zR 2,.rd 3 [] 0 7,zR 4,zR 5,.rd 6 [.o 0 none] 0 0,zR 7,.rd 8 [] 0 7,zR 9] [] [zB 89 false] (oC (show decide ((↑q.key.size:Int)>(60:Int))=false from by simp;omega) (oC (show decide ((↑q.text.size:Int)>(200:Int))=false from by simp;omega) oN)) ?_
   refine cF ?_
   refine J_skip ?_
   refine Zs [zR 0,.rd 1 [.o 0 none] 0 0] [89] [zV 91 (.string q.kind)] ?_
   refine J_block ?_
   refine Zs [zR 0,zR 1] [] [zB 92 (q.kind.toList==(ByteArray.mk #[115,101,116]).toList)] ?_
   have hos12:=hos.len
   refine cC (t:=q.kind.toList==(ByteArray.mk #[115,101,116]).toList) (fun k1=>?_) (fun k1=>?_)
   ·refine jT [(0,true),(1,true),(2,true),(3,true),(4,true),(5,false)] [] ?_
    refine Ya [zR 0,zR 1,.rd 2 [.o 0 none] 0 0,zR 3,.rd 4 [.o 0 none] 0 0] [92] [zP 94 sb,zV 96 (.string q.key),zV 98 (.string q.text)] ?_
    refine JR_call [] [0,1] 34 #[.pointer (some (⟨sb,0,none⟩)),.string q.key,.string q.text] (some 99) (by kernel_rfl) (by kernel_rfl) (by decide) (fun w S M hP hG _=>?_)
    refine(sesSet (hG.at 0 rfl) hP hx.pin (by omega) (by simp) (by omega)).mono ?_
    rintro e5 w5 ⟨v,hR,hv⟩
    refine⟨_,_,_,hR,?_⟩
    try simp only[aQ]
    refine JR_end ?_
    try simp only[aQ]
    refine J_eb ?_
    try simp only[aQ]
    refine J_eb ?_
    try simp only[aQ]
    refine Zp [zR 0,.rd 1 [] 0 1,zR 2] [99] [zI 13 (i+1)] (oC (show IntKind.i64.wrap (i+1)=i+1 from wrap_i64 (by omega) (by omega)) oN) ?_
    try simp only[aQ]
    refine J_backx ⟨i+1,sesOps x [x.clock] os ⟨0,q.key,1,q.text,0,false,[]⟩⟩ [0,1,4,6,8,10,12,13] [] [0,1] [0,1] ?_ ?_ (by kernel_rfl) rfl rfl rfl
    ·exact⟨by simp only;omega,by simp only;omega,hos.write hx rfl⟩
    ·simp only
     omega
   refine Zs [zR 0,zR 1] [92] [zB 100 (q.kind.toList==(ByteArray.mk #[97,100,100]).toList)] ?_
   refine cC (t:=q.kind.toList==(ByteArray.mk #[97,100,100]).toList) (fun k2=>?_) (fun k2=>?_)
   ·refine jT [(0,true),(1,true),(2,true),(3,true),(4,true),(5,false)] [] ?_
    refine Ya [zR 0,zR 1,.rd 2 [.o 0 none] 0 0,zR 3,.rd 4 [.o 0 none] 0 0] [100] [zP 102 sb,zV 104 (.string q.key),zI 106 q.n] ?_
    refine JR_call [] [0,1] 35 #[.pointer (some (⟨sb,0,none⟩)),.string q.key,.int .i64 q.n] (some 107) (by kernel_rfl) (by kernel_rfl) (by decide) (fun w S M hP hG _=>?_)
    refine(sesAdd (hG.at 0 rfl) hP hx.pin (by omega) (by simp) (by omega)).mono ?_
    rintro e5 w5 ⟨v,hR,hv⟩
    refine⟨_,_,_,hR,?_⟩
    try simp only[aQ]
    refine JR_end ?_
    try simp only[aQ]
    refine J_eb ?_
    try simp only[aQ]
    refine J_eb ?_
    try simp only[aQ]
    refine Zp [zR 0,.rd 1 [] 0 1,zR 2] [107] [zI 13 (i+1)] (oC (show IntKind.i64.wrap (i+1)=i+1 from wrap_i64 (by omega) (by omega)) oN) ?_
    try simp only[aQ]
    refine J_backx ⟨i+1,sesOps x [x.clock] os ⟨0,q.key,2,ByteArray.mk #[],q.n,false,[]⟩⟩ [0,1,4,6,8,10,12,13] [] [0,1] [0,1] ?_ ?_ (by kernel_rfl) rfl rfl rfl
    ·exact⟨by simp only;omega,by simp only;omega,hos.write hx rfl⟩
    ·simp only
     omega
   refine Zs [zR 0,zR 1] [100] [zB 108 (q.kind.toList==(ByteArray.mk #[112,117,116]).toList)] ?_
   refine cC (t:=q.kind.toList==(ByteArray.mk #[112,117,116]).toList) (fun k3=>?_) (fun k3=>?_)
   ·refine jT [(0,true),(1,true),(2,true),(3,true),(4,true),(5,false)] [] ?_
    refine Ya [zR 0,zR 1,.rd 2 [.o 0 none] 0 0,zR 3,.rd 4 [.o 0 none] 0 0] [108] [zP 110 sb,zV 112 (.string q.key),zV 114 (.string q.text)] ?_
    refine JR_call [] [0,1] 36 #[.pointer (some (⟨sb,0,none⟩)),.string q.key,.string q.text] (some 115) (by kernel_rfl) (by kernel_rfl) (by decide) (fun w S M hP hG _=>?_)
    refine(sesPutT (hG.at 0 rfl) hP hx.pin (by omega) (by simp) (by omega)).mono ?_
    rintro e5 w5 ⟨v,hR,hv⟩
    refine⟨_,_,_,hR,?_⟩
    try simp only[aQ]
    refine JR_end ?_
    try simp only[aQ]
    refine J_eb ?_
    try simp only[aQ]
    refine J_eb ?_
    try simp only[aQ]
    refine Zp [zR 0,.rd 1 [] 0 1,zR 2] [115] [zI 13 (i+1)] (oC (show IntKind.i64.wrap (i+1)=i+1 from wrap_i64 (by omega) (by omega)) oN) ?_
    try simp only[aQ]
    refine J_backx ⟨i+1,sesOps x [x.clock] os ⟨0,q.key,3,q.text,0,false,[]⟩⟩ [0,1,4,6,8,10,12,13] [] [0,1] [0,1] ?_ ?_ (by kernel_rfl) rfl rfl rfl
    ·exact⟨by simp only;omega,by simp only;omega,hos.write hx rfl⟩
    ·simp only
     omega
   refine Zs [zR 0,zR 1] [108] [zB 116 (q.kind.toList==(ByteArray.mk #[100,114,111,112]).toList)] ?_
   refine cC (t:=q.kind.toList==(ByteArray.mk #[100,114,111,112]).toList) (fun k4=>?_) (fun k4=>?_)
   ·refine jT [(0,true),(1,true),(2,true),(3,true),(4,true),(5,false)] [] ?_
    refine Ya [zR 0,zR 1,.rd 2 [.o 0 none] 0 0,zR 3,.rd 4 [.o 0 none] 0 0] [116] [zP 118 sb,zV 120 (.string q.key),zV 122 (.string q.text)] ?_
    refine JR_call [] [0,1] 37 #[.pointer (some (⟨sb,0,none⟩)),.string q.key,.string q.text] (some 123) (by kernel_rfl) (by kernel_rfl) (by decide) (fun w S M hP hG _=>?_)
    refine(sesDrop (hG.at 0 rfl) hP hx.pin (by omega) (by simp) (by omega)).mono ?_
    rintro e5 w5 ⟨v,hR,hv⟩
    refine⟨_,_,_,hR,?_⟩
    try simp only[aQ]
    refine JR_end ?_
    try simp only[aQ]
    refine J_eb ?_
    try simp only[aQ]
    refine J_eb ?_
    try simp only[aQ]
    refine Zp [zR 0,.rd 1 [] 0 1,zR 2] [123] [zI 13 (i+1)] (oC (show IntKind.i64.wrap (i+1)=i+1 from wrap_i64 (by omega) (by omega)) oN) ?_
    try simp only[aQ]
    refine J_backx ⟨i+1,sesOps x [x.clock] os ⟨0,q.key,3,q.text,0,true,[]⟩⟩ [0,1,4,6,8,10,12,13] [] [0,1] [0,1] ?_ ?_ (by kernel_rfl) rfl rfl rfl
    ·exact⟨by simp only;omega,by simp only;omega,hos.write hx rfl⟩
    ·simp only
     omega
   refine J_skip (J_eb (J_eb ?_))
   refine Zp [zR 0,.rd 1 [] 0 1,zR 2] [116] [zI 13 (i+1)] (oC (show IntKind.i64.wrap (i+1)=i+1 from wrap_i64 (by omega) (by omega)) oN) ?_
   refine J_backx ⟨i+1,os⟩ [0,1,4,6,8,10,12,13] [] [0,1] [0,1] ?_ ?_ (by kernel_rfl) rfl rfl rfl
   ·exact⟨by simp only;omega,by simp only;omega,hos⟩
   ·simp only
    omega
  ·refine J_exit rfl ?_
   refine J_seq ?_
   refine J_stpx (stp_openbox 1 rfl) fun y _=>?_
   obtain⟨ta,tn,tc,tb,aa,an,ac,oa,on,oc⟩:=y
   dsimp only
   refine Nm [(cPlace pb x),cObj sb (.cells #[.pointer (sA tb 0),.slice ta tn tc] 181 (0,0)),cObj tb (.cells #[.pointer (sA pb 0),.slice aa an ac,.slice oa on oc] 184 (0,0)),cAcc (.slice oa on oc) 55 7 (List.map eOp os)] ?_
   refine J_stp (stp_freeze 3 rfl) ?_
   refine Nm [(cPlace pb x),cObj sb (.cells #[.pointer (sA tb 0),.slice ta tn tc] 181 (0,0)),cObj tb (.cells #[.pointer (sA pb 0),.slice aa an ac,.slice oa on oc] 184 (0,0))] ?_
   refine J_stp (stp_closeS2 (tok:=[x.clock]) (at':=[x.clock]) (ops:=os) [1,2] ⟨ta,tn,tc,tb,aa,an,ac,oa,on,oc⟩ rfl (by simp)) ?_
   refine Nm [(cPlace pb x),(cSes2 sb [x.clock] pb [x.clock] os)] ?_
   try simp only[aQ]
   refine jT [(0,true),(1,true),(2,false),(3,true),(4,true),(5,true),(6,false),(7,false),(8,true)] [] ?_
   refine Ya [zR 0,zR 1] [73] [zP 125 sb,zV 126 (.string key)] ?_
   refine JR_callz [] [0,1] 38 #[.pointer (some (⟨sb,0,none⟩)),.string key] (some 127) zero_all (by kernel_rfl) (by kernel_rfl) (by decide) (fun w S M hP hG _=>?_)
   refine(keepRead (hG.at 0 rfl) hP hx (by omega) hos key).mono ?_
   rintro e5 w5 ⟨va,vn,vc,r1,hR,hr1⟩
   have ho1:r1.oneCell'=true:=by rcases hr1 with ⟨_,rfl⟩|⟨_,rfl⟩ <;> rfl
   refine⟨_,_,_,hR,?_⟩
   try simp only[aQ]
   refine Ym (Rds 3 6++[.wr 6 [] 0,.wr 7 (hnO 0 4) 0,zR 8]) [127,125,126] (fun nu1=>[zP 15 (nu1 0),zV 16 r1]) o0 (fun nu1=>[(nu1 0,.cells #[nI ((kpV x os key).kind),.string ((kpV x os key).text),nI ((kpV x os key).n),.slice va vn vc] 64 (0,0))]) [] (fun nu1=>?_)
   try simp only[aQ]
   refine JR_end ?_
   try simp only[aQ]
   refine J_seq ?_
   try simp only[aQ]
   refine jT [(0,true),(1,false),(2,true),(3,true),(4,true),(5,true),(6,false),(7,false),(8,true),(9,true)] [] ?_
   refine Ya [zR 0] [] [zP 131 sb] ?_
   refine JR_call [] [0,1] 39 #[.pointer (some (⟨sb,0,none⟩))] (some 132) (by kernel_rfl) (by kernel_rfl) (by decide) (fun w S M hP hG _=>?_)
   refine(keepCommit (hG.at 0 rfl) hP hx (by omega) hos).mono ?_
   rintro e6 w6 ⟨u1,m1,d1,z1,u2,m2,d2,u3,m3,d3,x2,hR,hx2,hsame⟩
   refine⟨_,_,_,hR,?_⟩
   try simp only[aQ]
   refine Ym (Rds 2 6++[.wr 6 [] 0,.wr 7 (hnO 1 3) 0,zR 8,zR 9]) [132,131] (fun nu2=>[zV 19 .nilIface]) o0 (fun nu2=>[(nu2 0,.cells #[.slice u1 m1 d1,nI z1,.slice u2 m2 d2] 35 (0,0))]) [] (fun nu2=>?_)
   try simp only[aQ]
   refine JR_end ?_
   try simp only[aQ]
   refine J_seq ?_
   try simp only[aQ]
   refine J_seq ?_
   try simp only[aQ]
   refine Za [zR 0,zR 1] [] [zB 137 false] ?_
   try simp only[aQ]
   refine cF ?_
   try simp only[aQ]
   refine J_skip ?_
   try simp only[aQ]
   refine J_seq ?_
   try simp only[aQ]
   refine jT [(0,true),(1,true),(2,false),(3,true),(4,true),(5,true),(6,true)] [] ?_
   refine Ya [zR 0,zR 1] [137] [zP 139 sb,zP 140 pb] ?_
   refine JR_call [] [0,1] 33 #[.pointer (some (⟨sb,0,none⟩)),.pointer (some (⟨pb,0,none⟩))] (some 141) (by kernel_rfl) (by kernel_rfl) (by decide) (fun w S M hP hG _=>?_)
   refine(keepBegin (hG.at 0 rfl) hP hx2).mono ?_
   rintro e7 w7 ⟨a7,n7,c7,hR⟩
   refine⟨_,_,_,hR,?_⟩
   try simp only[aQ]
   refine Ya (Rds 3 7) [141,139,140] [] ?_
   try simp only[aQ]
   refine JR_end ?_
   try simp only[aQ]
   refine J_seq ?_
   try simp only[aQ]
   refine J_seq ?_
   try simp only[aQ]
   refine Za [zR 0,zR 1] [] [zB 145 false] ?_
   try simp only[aQ]
   refine cF ?_
   try simp only[aQ]
   refine J_skip ?_
   try simp only[aQ]
   refine J_seq ?_
   try simp only[aQ]
   refine Nm [(cPlace pb x2),(cSes1 sb [x2.clock] pb [x2.clock] [])] ?_
   refine J_stpx (stp_openbox 1 rfl) fun y _=>?_
   obtain⟨ta2,tn2,tc2,tb2,aa2,an2,ac2,oa2,on2,oc2⟩:=y
   dsimp only
   refine Nm [(cPlace pb x2),cObj sb (.cells #[.pointer (sA tb2 0),.slice ta2 tn2 tc2] 181 (0,0)),cObj tb2 (.cells #[.pointer (sA pb 0),.slice aa2 an2 ac2,.slice oa2 on2 oc2] 184 (0,0)),cAcc (.slice oa2 on2 oc2) 55 7 (List.map eOp [])] ?_
   refine J_stp (stp_freeze 3 rfl) ?_
   refine Nm [(cPlace pb x2),cObj sb (.cells #[.pointer (sA tb2 0),.slice ta2 tn2 tc2] 181 (0,0)),cObj tb2 (.cells #[.pointer (sA pb 0),.slice aa2 an2 ac2,.slice oa2 on2 oc2] 184 (0,0))] ?_
   refine J_stp (stp_closeS2 (tok:=[x2.clock]) (at':=[x2.clock]) (ops:=[]) [1,2] ⟨ta2,tn2,tc2,tb2,aa2,an2,ac2,oa2,on2,oc2⟩ rfl (by simp)) ?_
   refine Nm [(cPlace pb x2),(cSes2 sb [x2.clock] pb [x2.clock] [])] ?_
   try simp only[aQ]
   refine jT [(0,true),(1,true),(2,false),(3,true),(4,true),(5,true),(6,false),(7,false),(8,true)] [] ?_
   refine Ya [zR 0,zR 1] [145] [zP 147 sb,zV 148 (.string key)] ?_
   refine JR_callz [] [0,1] 38 #[.pointer (some (⟨sb,0,none⟩)),.string key] (some 149) zero_all (by kernel_rfl) (by kernel_rfl) (by decide) (fun w S M hP hG _=>?_)
   refine(keepRead (hG.at 0 rfl) hP hx2 (by omega) (OsOk.nil _) key).mono ?_
   rintro e8 w8 ⟨vb,vm,vd,r2,hR,hr2⟩
   have ho2:r2.oneCell'=true:=by rcases hr2 with ⟨_,rfl⟩|⟨_,rfl⟩ <;> rfl
   rw[hsame key]at hR
   refine⟨_,_,_,hR,?_⟩
   try simp only[aQ]
   refine Ym (Rds 3 6++[.wr 6 [] 0,.wr 7 (hnO 2 4) 0,zR 8]) [149,147,148] (fun nu3=>[zP 20 (nu3 0),zV 21 r2]) o0 (fun nu3=>[(nu3 0,.cells #[nI ((kpV x os key).kind),.string ((kpV x os key).text),nI ((kpV x os key).n),.slice vb vm vd] 64 (0,0))]) [] (fun nu3=>?_)
   try simp only[aQ]
   refine JR_end ?_
   try simp only[aQ]
   refine J_seq ?_
   try simp only[aQ]
   refine J_seq ?_
   try simp only[aQ]
   refine jT [(0,true),(1,false),(2,true)] [] ?_
   refine Ya [zR 0] [] [zP 152 sb] ?_
   refine JR_call [] [1] 40 #[.pointer (some (⟨sb,0,none⟩))] (some 153) (by kernel_rfl) (by kernel_rfl) (by decide) (fun w S M hP hG _=>?_)
   refine(sesAbort hP).mono ?_
   rintro e9 w9 hR
   refine⟨_,_,_,hR,?_⟩
   try simp only[aQ]
   refine Ya [zR 2] [153,152] [zB 154 false] ?_
   try simp only[aQ]
   refine JR_end ?_
   try simp only[aQ]
   refine cF ?_
   try simp only[aQ]
   refine J_skip ?_
   try simp only[aQ]
   refine J_seq ?_
   try simp only[aQ]
   refine J_seq ?_
   try simp only[aQ]
   have hset:(kpV x os key).set.length≤4000000:=by
    rw[←hsame key]
    exact kp_few hx2 (by omega) key
   obtain⟨hk0,rfl⟩|⟨hk0,rfl⟩:=hr1
   ·obtain⟨_,rfl⟩|⟨hk1,_⟩:=hr2
    rotate_left
    ·exact absurd hk0 hk1
    try simp only[aQ]
    refine Za (Rds 0 6) [154] [zB 160 false] ?_
    try simp only[aQ]
    refine cF ?_
    try simp only[aQ]
    refine J_skip ?_
    try simp only[aQ]
    refine J_seq ?_
    try simp only[aQ]
    refine jT [(0,true),(1,true),(2,false),(3,true)] [] ?_
    refine Ya [.rd 0 (hnO 0 4) 0 0,.rd 1 (hnO 2 4) 0 0] [160] [zV 167 (.agg #[nI ((kpV x os key).kind),.string ((kpV x os key).text),nI ((kpV x os key).n),.slice va vn vc]),zV 168 (.agg #[nI ((kpV x os key).kind),.string ((kpV x os key).text),nI ((kpV x os key).n),.slice vb vm vd])] ?_
    refine Yc 30 #[.agg #[nI ((kpV x os key).kind),.string ((kpV x os key).text),nI ((kpV x os key).n),.slice va vn vc],.agg #[nI ((kpV x os key).kind),.string ((kpV x os key).text),nI ((kpV x os key).n),.slice vb vm vd]] (some 169) fun w S hG=>?_
    refine(sameValue_eq (v:=kpV x os key) (hG.at 5 rfl) (hG.at 9 rfl) hset).mono ?_
    rintro e10 w10 hR
    refine⟨_,_,_,hR,?_⟩
    try simp only[aQ]
    refine Ya [zR 3] [169,167,168] [zB 170 false] ?_
    try simp only[aQ]
    refine JR_end ?_
    try simp only[aQ]
    refine cF ?_
    try simp only[aQ]
    refine J_skip ?_
    try simp only[aQ]
    refine J_eb ?_
    try simp only[aQ]
    refine Zp [zR 0,.rd 1 [] 0 1,zR 2] [170] [zI 10 (r+1)] (oC (show IntKind.i64.wrap (r+1)=r+1 from wrap_i64 (by omega) (by omega)) oN) ?_
    try simp only[aQ]
    refine J_backx ⟨r+1,x2⟩ [0,1,4,6,8,10] [] [0,1] [0,1] ?_ ?_ (by kernel_rfl) rfl rfl rfl
    ·exact⟨by simp only;omega,by simp only;omega,by simp only;rw[show(r+1).toNat=r.toNat+1 by omega];exact hx2⟩
    ·simp only
     omega
   ·obtain⟨hk1,_⟩|⟨_,rfl⟩:=hr2
    ·exact absurd hk1 hk0
    have hk4:decide ((kpK key:Int)=4)=true:=by
     unfold kpK at hk0 ⊢
     split at hk0
     ·exact absurd rfl hk0
     ·rename_i hn
      rw[if_neg hn]
      rfl
    have hk12:kpK key≤12:=by
     unfold kpK
     split <;> omega
    try simp only[aQ]
    refine Za (Rds 0 3++[.rd 3 [] 1 0,.rd 4 [] 1 0,zR 5]) [154] [zB 160 true] ?_
    try simp only[aQ]
    refine cTt ?_
    try simp only[aQ]
    refine J_seq ?_
    try simp only[aQ]
    refine jT [(0,true),(1,false),(2,true),(3,true),(4,false),(5,true),(6,true)] [] ?_
    refine Ya [zR 0] [160] [zV 161 (.iface 390 (.pointer (some (er (kpK key)))))] ?_
    refine Yc 13 #[.iface 390 (.pointer (some (er (kpK key)))),nI 4] (some 162) fun w S hG=>?_
    refine(codedErr (c:=4) (hG.at 0 rfl) hI hk12 (.inr ⟨hk0,rfl⟩)).mono ?_
    rintro e10 w10 hR
    rw[hk4]at hR
    refine⟨_,_,_,hR,?_⟩
    try simp only[aQ]
    refine Ya [zR 2,zR 3] [162,161] [zB 163 true,zV 164 (.iface 390 (.pointer (some (er (kpK key)))))] ?_
    try simp only[aQ]
    refine Yc 13 #[.iface 390 (.pointer (some (er (kpK key)))),nI 4] (some 165) fun w S hG=>?_
    refine(codedErr (c:=4) (hG.at 0 rfl) hI hk12 (.inr ⟨hk0,rfl⟩)).mono ?_
    rintro e11 w11 hR
    rw[hk4]at hR
    refine⟨_,_,_,hR,?_⟩
    try simp only[aQ]
    refine Ya [zR 5,zR 6] [165,163,164] [zB 4 true] ?_
    try simp only[aQ]
    refine JR_end ?_
    try simp only[aQ]
    refine Yr [[]] (.bool true) fun a w s=>?_
    exact s.retz (by simp) [] [] rfl rfl
 ·refine J_exit rfl ?_
  refine Zs [zR 0] [59,0,1,6,8,10] [zB 4 true] ?_
  refine Yr [[]] (.bool true) fun a w s=>?_
  exact s.retz (by simp) [] [] rfl rfl
end Go.Proofs.YtmkapocibaojdaaGreatDoor
end
section
namespace Go.Sx
open Go Go.RowKit Go.ChangeShapes Go.WideShapes
theorem Fr.below {w w':World} (h:Fr [] w w'):Below w.heap.size w w':=⟨h.os,h.tape,h.output,h.size,fun b hb=>h.block b hb (by simp)⟩
theorem cell_blk {w:World} {a:Addr} {v:Value} (h:w.cell? a=some v):∃cs ty fz,w.heap[a.block]?=some (.cells cs ty fz)∧a.spot=none∧cs[a.off]?=some v:=by
 unfold World.cell? at h
 split at h
 ·rename_i cs ty fz hb
  split at h
  ·cases h
  ·rename_i hs
   exact⟨cs,ty,fz,hb,by simpa using hs,h⟩
 ·cases h
section
variable {H:Type} {enc:TypeId×Value→H} {P:Program}
theorem rep_var {W:World} {n:String} {g:Nat} {x:Value} (hg:P.globalNamed n=some g) (h:W.var? P n=some #[x]) (hx:x.oneCell'=true):Rep W (fun _=>True) (.pointer (some ⟨g,0,none⟩)) (.ptr [.v x]):=by
 unfold World.var? at h
 simp only[hg,Option.bind_some]at h
 split at h
 ·rename_i cs ty fz hb
  cases h
  refine .ptr (fun _=>x) hb trivial (fun j hj=>?_) (fun j d hj=>?_)
  ·obtain rfl:j=0:=by simpa using hj
   rfl
  ·match j,hj with
   | 0,hj=>
    simp only[List.getElem?_cons_zero,Option.some.injEq]at hj
    subst hj
    exact .v hx
   | j+1,hj=>simp at hj
 ·cases h
theorem sents {W:World} {ti tp te ts:TypeId} {ms:Array (String×TypeId)} {nm:String} {f:Field} (hi:P.underlying ti=some (.interface ms)) (hrow:∀u,P.typeName? 3 u=some nm→u=tp)
  (hp:P.underlying tp=some (.pointer te)) (he:P.underlying te=some (.struct #[f])) (hft:f.type=ts) (hfo:f.offset=0) (hs:P.underlying ts=some .string) (hc:P.cellsOf te=1) (hcs:P.cellsOf ts=1) :
  ∀(ns:List (String×List UInt8)) (ps:List MemPlace),DataW.LaidVars P W (ns.map fun x=>(x.1,DataW.iface nm (.ptr (.agg [.lit (.string x.2)])))) ps →
   ns.all (fun x=>match P.globalNamed x.1 with
    | some g=>(P.globals[g]?).map (·.type)==some ti
    | none=>false)=true →
   (∀b off,MemPlace.cell b off∈ps→∀u v,W.cell? ⟨b,off,none⟩=some (.iface u v)→Value.okWide P W .any 0 u v) →
   ∃adz:List Addr,adz.length=ns.length∧(∀(i:Nat) x a,ns[i]?=some x→adz[i]?=some a→W.var? P x.1=some #[.iface tp (.pointer (some a))]∧a.spot=none)∧(adz.map fun a=>MemPlace.cell a.block a.off).Sublist ps
 | [],ps,_,_,_=>⟨[],rfl,by simp,by simp⟩
 | (n,text)::ns,ps,h,hg,hr=>by
  rw[List.map_cons]at h
  obtain⟨g0,t0,cs0,f0,p0,q0,hg0,ht0,hv0,hd0,hq,e0⟩:=h
  rw[List.all_cons,Bool.and_eq_true]at hg
  obtain⟨hg1,hg2⟩:=hg
  simp only[hg0,ht0,beq_iff_eq,Option.some.injEq]at hg1
  subst hg1 e0
  obtain⟨l0⟩:=cs0
  have ok0:∀u v,l0=[.iface u v]→Value.okWide P W .any 0 u v:=fun u v e=>by
   subst e
   exact hr g0 0 (by simp[MemPlace.row]) u v (by simpa using World.var?_cell hg0 hv0 0)
  obtain⟨a0,s0,rfl,hc0,hs0,hz0,rfl⟩:=errorString_of_trod hi hrow hp he hft hfo hs hc hcs hd0 ok0
  obtain⟨adz,h1,h2,h3⟩:=sents hi hrow hp he hft hfo hs hc hcs ns q0 hq hg2 fun b off hm=>hr b off (List.mem_append_right _ hm)
  obtain⟨_,_,_,_,hspot,_⟩:=cell_blk hc0
  refine⟨a0::adz,by simp[h1],fun i x a hx ha=>?_,?_⟩
  ·cases i with
   | zero=>
    simp only[List.getElem?_cons_zero,Option.some.injEq]at hx ha
    subst hx ha
    exact⟨hv0,hspot⟩
   | succ i=>
    simp only[List.getElem?_cons_succ]at hx ha
    exact h2 i x a hx ha
  ·rw[List.map_cons,List.append_assoc]
   refine(List.Sublist.cons_cons _ h3).trans (?_:List.Sublist _ (MemPlace.row a0 1++q0)) |>.trans (List.sublist_append_right _ _)
   simp[MemPlace.row]
theorem errs_of {W:World} {ti tp te ts:TypeId} {ms:Array (String×TypeId)} {nm:String} {f:Field} (hi:P.underlying ti=some (.interface ms)) (hrow:∀u,P.typeName? 3 u=some nm→u=tp)
  (hp:P.underlying tp=some (.pointer te)) (he:P.underlying te=some (.struct #[f])) (hft:f.type=ts) (hfo:f.offset=0) (hs:P.underlying ts=some .string) (hc:P.cellsOf te=1) (hcs:P.cellsOf ts=1)
  (ns:List (String×List UInt8)) (h:laidMet P (ns.map fun x=>(x.1,DataW.iface nm (.ptr (.agg [.lit (.string x.2)])))) W)
  (hg:ns.all (fun x=>match P.globalNamed x.1 with
    | some g=>(P.globals[g]?).map (·.type)==some ti
    | none=>false)=true) :
  ∃(er:Nat→Addr) (eb:Nat→Array Value×TypeId),(∀(i:Nat) x,ns[i]?=some x→W.var? P x.1=some #[.iface tp (.pointer (some (er (i+1))))]∧W.heap[(er (i+1)).block]?=some (.cells (eb (i+1)).1 (eb (i+1)).2 (0,0))) ∧
   ∀i j,1≤i→i≤ns.length→1≤j→j≤ns.length→er i=er j→i=j:=by
 obtain⟨ps,hv,hnd,hrows⟩:=h
 obtain⟨adz,h1,h2,h3⟩:=sents hi hrow hp he hft hfo hs hc hcs ns ps hv hg fun b off hm=>(hrows b off hm).2
 have hnd2:=h3.nodup hnd
 have key:∀i:Nat,i<ns.length→∃a,adz[i]?=some a:=fun i hi=>⟨_,List.getElem?_eq_getElem (by omega)⟩
 have hcell:∀(i:Nat) a,adz[i]?=some a→∃c:Array Value×TypeId,W.heap[a.block]?=some (.cells c.1 c.2 (0,0)):=fun i a ha=>by
  obtain⟨c,t,hct⟩:=(hrows a.block a.off (h3.subset (List.mem_map.2 ⟨a,List.mem_of_getElem? ha,rfl⟩))).1
  exact⟨(c,t),hct⟩
 classical
 refine⟨fun k=>adz.getD (k - 1) ⟨0,0,none⟩,fun k=>if hx:∃c:Array Value×TypeId,W.heap[(adz.getD (k - 1) ⟨0,0,none⟩).block]?=some (.cells c.1 c.2 (0,0))then hx.choose else (#[],0),fun i x hx=>?_,fun i j hi1 hi2 hj1 hj2 he=>?_⟩
 ·obtain⟨a,ha⟩:=key i (List.getElem?_eq_some_iff.1 hx).1
  have e:adz.getD (i+1 - 1) ⟨0,0,none⟩=a:=by simp[List.getD_eq_getElem?_getD,ha]
  have hh:=hcell i a ha
  simp only[e]
  refine⟨(h2 i x a hx ha).1,?_⟩
  rw[dif_pos hh]
  exact hh.choose_spec
 ·obtain⟨a,ha⟩:=key (i - 1) (by omega)
  obtain⟨b,hb⟩:=key (j - 1) (by omega)
  simp only[List.getD_eq_getElem?_getD,ha,hb,Option.getD_some]at he
  subst he
  have e1:(adz.map fun a=>MemPlace.cell a.block a.off)[i - 1]?=some (.cell a.block a.off):=by simp[ha]
  have e2:(adz.map fun a=>MemPlace.cell a.block a.off)[j - 1]?=some (.cell a.block a.off):=by simp[hb]
  have:=(List.getElem?_inj (List.getElem?_eq_some_iff.1 e1).1 hnd2).1 (e1.trans e2.symm)
  omega
theorem trodAll_again (hl:laidOutB P=true) {W W':World} {sp:Nat→Bool} (hb:Below W.heap.size W W'):∀{ts:List TypeId} {vs:List Value} {ds:List (DataW H)} {ps:List MemPlace},
  (∀t∈ts,P.readableRec t=true∧t<P.types.size)→DataW.TrodAll enc P W 0 (fun _=>true) true ts vs ds ps→(∀x∈ps,x.block<W.heap.size)→(∀x∈ps,sp x.block=true)→DataW.TrodAll enc P W' 0 sp true ts vs ds ps
 | [],vs,ds,ps,_,h,_,_=>by
  obtain⟨rfl,rfl,rfl⟩:=trodAll_nil h
  exact trodAll_mk0
 | t::ts,vs,ds,ps,ht,h,hlt,hsp=>by
  obtain⟨v,vs',d,ds',p,q,rfl,rfl,rfl,h0,h1⟩:=trodAll_cons h
  obtain⟨hr,hrow⟩:=ht t (List.mem_cons_self ..)
  refine trodAll_cons_mk (WideElems.Trod_stays hl hr hrow h0 (fun x hx=>hb.same (hlt x (List.mem_append_left _ hx))) fun x hx=>hsp x (List.mem_append_left _ hx)) ?_
  exact trodAll_again hl hb (fun t ht'=>ht t (List.mem_cons_of_mem _ ht')) h1 (fun x hx=>hlt x (List.mem_append_right _ hx)) fun x hx=>hsp x (List.mem_append_right _ hx)
theorem law_post {f:Func} {s:ChangeSpec} {apart fresh handsOn again:Bool} {W W':World} {args:Array Value} {ds gs:List (DataW H)} {before:List MemPlace} {tb:TypeId}
  (hl:laidOutB P=true) (hts:f.params.toList.all (fun t=>P.readableRec t&&Nat.blt t P.types.size)=true) (hb4:P.underlying tb=some .bool) (hrt:f.resultTypes = #[tb]) (hvs:s.vars=[])
  (hW:DataW.Whole enc P f.params.toList s.vars apart W args.toList ds gs before) (hfn:∀gs,gs=[]→s.fn H (ds++gs)={ results:=[.lit (.bool true)],args:=ds })
  (hb:Below W.heap.size W W'):s.post enc P f apart fresh handsOn again W args (.bool true) W':=by
 have hlt:∀x∈before,x.block<W.heap.size:=fun x hx=>hW.lt x hx
 have hold:∀x∈before,(fun b=>decide (b<W.heap.size)) x.block=true:=fun x hx=>by simpa using hlt x hx
 have hW':=hW
 obtain⟨p,q,hA,hV,hpq,hz,hn⟩:=hW'
 rw[hvs]at hV
 obtain⟨rfl,rfl⟩:=trodVars_none hV
 rw[List.append_nil]at hpq
 subst hpq
 have hfn:=hfn [] rfl
 have htt:∀t∈f.params.toList,P.readableRec t=true∧t<P.types.size:=fun t ht=>by
  have:=List.all_eq_true.1 hts t ht
  simp only[Bool.and_eq_true]at this
  exact⟨this.1,Nat.lt_of_succ_le (Nat.le_of_ble_eq_true this.2)⟩
 have hres:∀(b:Nat) (sp:Nat→Bool) (hd:Bool),DataW.TrodAll enc P W' b sp hd f.resultTypes.toList ((Value.bool true).resultList f.resultTypes.size) (s.fn H (ds++[])).results []:=fun b sp hd=>by
  rw[hfn,hrt]
  exact trodAll_mk1 ⟨1,by simp[DataW.trod,Value.cells,hb4]⟩
 have hargs:∀sp:Nat→Bool,(∀x∈before,sp x.block=true)→DataW.TrodAll enc P W' 0 sp true f.params.toList args.toList (s.fn H (ds++[])).args before:=fun sp hsp=>by
  rw[hfn]
  exact trodAll_again hl hb htt hA hlt hsp
 have hvars:∀sp:Nat→Bool,DataW.TrodVars enc P W' sp s.vars (s.fn H (ds++[])).vars []:=fun sp=>by
  rw[hvs,hfn]
  rfl
 refine⟨ds,[],before,[],before,[],hW,hres _ _ _,hargs _ hold,hvars _,World.keptBut_mono (fun x hx=>⟨hx,.inr (.inl hx)⟩) (hb.frame (·∈before)),fun _=>?_⟩
 refine⟨?_,_,_,([]++before)++[],⟨[]++before,[],trodAll_append (hargs _ (fun _ _=>rfl)) (hres _ _ _),hvars _,rfl,?_,?_⟩,?_⟩
 ·intro j t r hj hv
  rw[hrt]at hj hv
  match j,hj,hv with
  | 0,hj,hv=>
   simp[Value.resultList]at hj hv
   subst hj;subst hv
   simp[Value.okWide,hb4,Cell.okWide,Cell.ok]
  | j+1,hj,hv=>simp at hj
 ·intro b off hp
  have hin:MemPlace.cell b off∈before:=by simpa using hp
  rw[hb.frozen (hlt _ hin)]
  exact hz b off hin
 ·intro ha
  simpa using hn ha
 ·intro x hx _
  simpa using hx
end
end Go.Sx
end
