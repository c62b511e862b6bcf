/- Part 9 of the texts of a claim: Put Within PartP Read DotsV Cut AckD Send Send3 PlV PlC. -/
import Derived.Test.YtmkapocibaojdaaGreatDoorTs8
section
namespace Go.Sx
open Go
structure PutS where
 i:Int
 es:Array MapEntry
 clock:Nat
 ks:List ByteArray
 F:ByteArray→Value
 es1:Array MapEntry
 clock1:Nat
end Go.Sx
namespace Go.Proofs.YtmkapocibaojdaaGreatDoor
open Go Go.Sx
def exiAt (L:List PutT) (c:ComT) (i:Nat):Nat:=match c.ops[i]? with
 | none=>0
 | some o=>if dotOf c o∈L.map dotP then 6 else 0
def putFault (p:Nat) (base:List Int) (L:List PutT) (c:ComT):FT:=
 if (comFault c).code≠0 then comFault c
 else if c.when.length≠p then ⟨3,-1⟩
 else if inL c.when base=true then ⟨9,-1⟩
 else scanF (exiAt L c) c.ops.length 0
def putsOf (c:ComT) (l:List OpT):List PutT:=l.map fun o=>⟨c.when,c.place,o⟩
theorem keyC_snoc (A:List PutT) (q:PutT) (t:ByteArray):keyC (A++[q]) t=keyC A t++if q.op.key=t then [oneC q]else []:=by
 rw[keyC,keyC,List.filter_append,List.map_append]
 congr 1
 by_cases h:q.op.key=t <;> simp[h]
theorem keyC_len (A:List PutT) (t:ByteArray):(keyC A t).length≤A.length:=by
 rw[keyC,List.length_map]
 exact List.length_filter_le _ _
set_option maxHeartbeats 4000000 in
theorem verDot {w:World} {S:Nat→Prop} {a1 a2:Option Addr} {n1 c1 n2 c2:Nat} {c:ComT} {o:OpT} {v:Value} (ov:v.oneCell'=true) (h1:Rep w S (.slice a1 n1 c1) (dInts c.when)) (hp0:0≤c.place) (hp1:c.place<c.when.length) :
  Calls Tryz.prog 145 #[.agg #[.slice a1 n1 c1,.int .i64 c.place,.slice a2 n2 c2],opA o v] w fun e w'=>Ret [] w S w' e (dotV (dotOf c o)) [] []:=by
 obtain rfl:=rep_ints_len h1
 refine epG Tryz.func145 bd145 (args:=[.agg #[.slice a1 c.when.length c1,.int .i64 c.place,.slice a2 n2 c2],opA o v]) (S:=S) (G:=[(_,dInts c.when)]) (by kernel_rfl) (.cons h1 (.nil _ _)) ?_
 obtain⟨t,ht⟩:∃t,c.when[c.place.toNat]?=some t:=⟨_,List.getElem?_eq_getElem (by omega)⟩
 have hd:dotOf c o=⟨c.place,t,o.no⟩:=by simp[dotOf,List.getD_eq_getElem?_getD,ht]
 refine J_read0 0 rfl c.place.toNat (map_at ht) (by kernel_rfl) (fun b1 off1 cs1 ty1 fz1 ha1 hrd1=>?_)
 cases ha1
 have hrd1_0:=rd0 (hrd1 0 _ rfl)
 try simp only[aQ]
 refine Zv [.wr 0 [] 0,.wr 1 [] 0,.wr 2 [] 0] [] [0,1] (fun nu1=>[zP 2 (nu1 0),zP 3 (nu1 1),zP 4 (nu1 2)]) o0 (fun nu1=>[(nu1 0,.cells #[.slice (sA b1 off1) c.when.length c1,nI c.place,.slice a2 n2 c2] 35 (0,0)),(nu1 1,.cells #[nI o.no,.string o.key,nI o.kind,.string o.text,nI o.n,.bool o.remove,v] 55 (0,0)),(nu1 2,.cells #[nI 0,nI 0,nI 0] 177 (0,0))]) (fun nu1=>?_)
 refine J_seq ?_
 all_goals first|assumption|skip
 refine Zn [zR 0,.rd 1 [.o 0 none] 0 0,zR 2,.rd 3 [.o 0 none] 0 0,zR 4,.rd 5 [.o 0 none] 0 0,.rd 6 [] 0 2,.rd 7 [.r 0 (some (nI t))] 0 0,zR 8,.rd 9 [.o 1 none] 0 0,zR 10,.wr 11 (hnO 2 3) 0] [(11,[2])] [2,3] (fun _=>[]) (fun _=>[(2,.cells #[nI c.place,nI t,nI o.no] 177 (0,0))]) o0 (fun _=>(oC hp0 (oC hp1 (oC hrd1_0 oN)))) (fun _=>?_)
 refine Yr [(hnO 2 3)] (.agg #[nI c.place,nI t,nI o.no]) fun a w s=>?_
 rw[hd]
 exact s.ret (by simp) [] [] rfl rfl
set_option maxHeartbeats 4000000 in
theorem vPut {w:World} {S:Nat→Prop} {M:List Nat} {er:Nat→Addr} {eb:Nat→Array Value×TypeId} {b mk md:Nat} {ba a1 a2:Option Addr} {p nb cb n1 c1 n2 c2 clock:Nat} {base:List Int} {es:Array MapEntry} {ks:List ByteArray} {F:ByteArray→Value} {L:List PutT} {c:ComT} (hC:Rep w S .nilIface (dC er eb))
  (hP:Pre w S M [cObj b (.cells #[.int .i64 p,.slice ba nb cb,.map (some mk),.map (some md)] 218 (0,0)),cObj mk (.map es clock),cStar (ks.map fun t=>cAcc (F t) 35 3 ((keyC L t).map eCom)),cMapG md okDot (dotSet (L.map dotP))])
  (hb:Rep w S (.slice ba nb cb) (dInts base)) (hbv:vecErr base=0) (hbl:base.length=p) (h1:Rep w S (.slice a1 n1 c1) (dInts c.when)) (h2:Rep w S (.slice a2 n2 c2) (.sl 7 (c.ops.map eOp))) (hl1:c.when.length≤1000000) (hl2:c.ops.length≤1000000) (hl3:∀o∈c.ops,o.dots.length≤1000000) (hL:L.length≤1000000)
  (hm:MapG (MapKept.IsKey .string) es (strG ks F)) (hst:MapKept.Stamped es clock) (hnd:ks.Nodup) (hiff:∀t,t∈ks↔keyC L t≠[]) :
  Calls Tryz.prog 86 #[.pointer (some ⟨b,0,none⟩),.agg #[.slice a1 n1 c1,.int .i64 c.place,.slice a2 n2 c2]] w fun e w'=>
   ((putFault p base L c).code≠0∧∃v G,Ret M w S w' e v [cObj b (.cells #[.int .i64 p,.slice ba nb cb,.map (some mk),.map (some md)] 218 (0,0)),cObj mk (.map es clock),cStar (ks.map fun t=>cAcc (F t) 35 3 ((keyC L t).map eCom)),cMapG md okDot (dotSet (L.map dotP))] G ∧
    (((putFault p base L c).at' = -1∧ErrIs 390 er (putFault p base L c).code v∧G=[])∨(1≤(putFault p base L c).code∧0≤(putFault p base L c).at'∧∃pb,v=.iface 202 (.pointer (some ⟨pb,0,none⟩))∧G=[(.pointer (some ⟨pb,0,none⟩),.ptr [.v (.int .i64 (putFault p base L c).at'),.v (.iface 390 (.pointer (some (er (putFault p base L c).code))))])]))) ∨
   ((putFault p base L c).code=0∧∃es' clock' ks' F',Ret M w S w' e .nilIface [cObj b (.cells #[.int .i64 p,.slice ba nb cb,.map (some mk),.map (some md)] 218 (0,0)),cObj mk (.map es' clock'),cStar (ks'.map fun t=>cAcc (F' t) 35 3 ((keyC (L++putsOf c c.ops) t).map eCom)),cMapG md okDot (dotSet ((L++putsOf c c.ops).map dotP))] [] ∧
    MapG (MapKept.IsKey .string) es' (strG ks' F')∧MapKept.Stamped es' clock'∧ks'.Nodup∧∀t,t∈ks'↔keyC (L++putsOf c c.ops) t≠[]):=by
 obtain rfl:=rep_ints_len h1
 obtain rfl:=rep_ints_len hb
 subst hbl
 have e2:=h2.slen
 rw[List.length_map]at e2
 subst e2
 refine enG Tryz.func86 bd86 (args:=[.pointer (some ⟨b,0,none⟩),.agg #[.slice a1 c.when.length c1,.int .i64 c.place,.slice a2 c.ops.length c2]]) (S:=S) (G:=[(_,dC er eb),(_,dInts c.when),(_,.sl 7 (c.ops.map eOp)),(_,dInts base)]) (by kernel_rfl) hP (.cons hC (.cons h1 (.cons h2 (.cons hb (.nil _ _))))) ?_
 refine J_show 0 rfl ?_
 refine J_stp (stp_all 0 [2,8,5] rfl rfl) ?_
 refine J_glob 4 rfl (fun csg1 tyg1 fzg1 hglob1=>?_)
 refine J_glob 5 rfl (fun csg2 tyg2 fzg2 hglob2=>?_)
 refine J_glob 6 rfl (fun csg3 tyg3 fzg3 hglob3=>?_)
 try simp only[aQ]
 refine Zv [.wr 0 [] 0,zR 1] [] [1] (fun nu1=>[zP 3 (nu1 0),zV 4 .nilIface]) o0 (fun nu1=>[(nu1 0,.cells #[.slice a1 c.when.length c1,nI c.place,.slice a2 c.ops.length c2] 35 (0,0))]) (fun nu1=>?_)
 refine J_seq ?_
 refine jS [(0,true),(1,false),(2,true)] [] ?_
 refine Ya [.rd 0 (hnO 1 3) 0 0] [] [zV 13 (.agg #[.slice a1 c.when.length c1,nI c.place,.slice a2 c.ops.length c2])] ?_
 refine Yc 85 #[.agg #[.slice a1 c.when.length c1,nI c.place,.slice a2 c.ops.length c2]] (some 14) fun w S hG=>?_
 refine(checkCommit (c:=c) (hG.at 0 rfl) (hG.at 1 rfl) (hG.at 2 rfl) hl1 hl2).mono ?_
 rintro e1 w1 (⟨ha,v,hR,hv⟩|⟨hc1,h0,pb,hR⟩)
 case inr=>
  have hpf:putFault base.length base L c=comFault c:=by rw[putFault,if_pos (by omega)]
  rw[hpf]
  refine⟨_,_,_,hR,?_⟩
  try simp only[aQ]
  refine Ya [zR 2] [14,13] [zV 5 (.iface 202 (.pointer (sA pb 0)))] ?_
  refine JR_end ?_
  refine Zs [zR 0,zR 1] [] [zB 16 true] ?_
  refine cTt ?_
  refine Zs [zR 0,zR 1] [16,5] [zV 4 (.iface 202 (.pointer (sA pb 0)))] ?_
  refine Yr [[]] (.iface 202 (.pointer (sA pb 0))) fun a w s=>?_
  exact .inl ⟨by omega,_,_,(s.hide 0 rfl).ret (by simp) [3,0,1,2] [7] rfl rfl,.inr ⟨hc1,h0,pb,rfl,rfl⟩⟩
 refine⟨_,_,_,hR,?_⟩
 obtain⟨hv0,rfl⟩|⟨hv0,rfl⟩:=hv
 case inr=>
  have hpf:putFault base.length base L c=comFault c:=by rw[putFault,if_pos hv0]
  rw[hpf]
  try simp only[aQ]
  refine Ya [zR 2] [14,13] [zV 5 (.iface 390 (.pointer (some (er (comFault c).code))))] ?_
  refine JR_end ?_
  refine Zs [zR 0,zR 1] [] [zB 16 true] ?_
  refine cTt ?_
  refine Zs [zR 0,zR 1] [16,5] [zV 4 (.iface 390 (.pointer (some (er (comFault c).code))))] ?_
  refine Yr [[]] (.iface 390 (.pointer (some (er (comFault c).code)))) fun a w s=>?_
  exact .inl ⟨hv0,_,_,(s.hide 0 rfl).ret (by simp) [3,0,1,2] [] rfl rfl,.inl ⟨ha,.inr ⟨hv0,rfl⟩,rfl⟩⟩
 have hrc:=right_of hv0
 by_cases hwl:c.when.length=base.length
 case neg=>
  have hpf:putFault base.length base L c=⟨3,-1⟩:=by rw[putFault,if_neg (by simp[hv0]),if_pos hwl]
  have hwl2:¬(c.when.length:Int)=base.length:=by omega
  rw[hpf]
  try simp only[aQ]
  refine Ya [zR 2] [14,13] [zV 5 .nilIface] ?_
  refine JR_end ?_
  refine Zs [zR 0,zR 1] [] [zB 16 false] ?_
  refine cF ?_
  refine J_skip (J_seq ?_)
  refine Zt ([zR 0,.rd 1 [.o 1 none] 0 0]++Rds 2 6++[.rd 6 [.o 0 none] 0 0,.rd 7 [] 0 6]) [16,5] [zB 25 true] (oC (show((↑c.when.length:Int) != (↑base.length:Int))=true from by simp;omega) oN) ?_
  refine cTt ?_
  refine Zt [.rd 0 [.r 0 (some (.iface 390 (.pointer (some (er 3)))))] 0 0,zR 1] [25] [zV 4 (.iface 390 (.pointer (some (er 3))))] (oC hglob1 oN) ?_
  refine Yr [[]] (.iface 390 (.pointer (some (er 3)))) fun a w s=>?_
  exact .inl ⟨by decide,_,_,(s.hide 0 rfl).ret (by simp) [3,0,1,2] [] rfl rfl,.inl ⟨by first|rfl|trivial,.inr ⟨by decide,rfl⟩,rfl⟩⟩
 have htw:twoErr c.when base=0:=by rw[twoErr,if_neg (by simp[hrc.vec]),if_neg (by simp[hbv]),if_neg (by simp[hwl])]
 have hvl:=vecErr_len hbv
 have hwl2:(c.when.length:Int)=base.length:=by omega
 try simp only[aQ]
 refine Ya [zR 2] [14,13] [zV 5 .nilIface] ?_
 refine JR_end ?_
 refine Zs [zR 0,zR 1] [] [zB 16 false] ?_
 refine cF ?_
 refine J_skip (J_seq ?_)
 refine Zt ([zR 0,.rd 1 [.o 1 none] 0 0]++Rds 2 6++[.rd 6 [.o 0 none] 0 0,.rd 7 [] 0 7]) [16,5] [zB 25 false] (oC (show((↑c.when.length:Int) != (↑base.length:Int))=false from by simp;omega) oN) ?_
 refine cF ?_
 refine J_skip (J_seq ?_)
 refine jS [(0,true),(1,true),(2,true),(3,true),(4,true),(5,true),(6,false),(7,true),(8,true),(9,true),(10,true),(11,true)] [] ?_
 refine Ya ([zR 0,.rd 1 [.o 1 none] 0 0]++Rds 2 5++[.rd 5 [.o 0 none] 0 0]) [25] [zS 29 a1 c.when.length c1,zS 33 ba base.length cb] ?_
 refine Yc 100 #[.slice a1 c.when.length c1,.slice ba base.length cb] (some 34) fun w S hG=>?_
 refine(vwithin (globs_of (hG.at 0 rfl)) (hG.at 1 rfl) (hG.at 3 rfl) hl1 (by omega)).mono ?_
 rintro e2 w2 (⟨htw2,_⟩|⟨_,hR⟩)
 ·exact absurd htw htw2
 refine⟨_,_,_,hR,?_⟩
 cases hin:inL c.when base with
 | true=>
  have hpf:putFault base.length base L c=⟨9,-1⟩:=by rw[putFault,if_neg (by simp[hv0]),if_neg (by simp[hwl]),if_pos hin]
  rw[hpf]
  try simp only[aQ]
  refine Ya (Rds 7 12) [34,29,33] [zB 6 true] ?_
  refine JR_end ?_
  refine Zs [zR 0] [6] [zB 37 true] ?_
  refine cTt ?_
  refine Zt [.rd 0 [.r 1 (some (.iface 390 (.pointer (some (er 9)))))] 0 0,zR 1] [37] [zV 4 (.iface 390 (.pointer (some (er 9))))] (oC hglob2 oN) ?_
  refine Yr [[]] (.iface 390 (.pointer (some (er 9)))) fun a w s=>?_
  exact .inl ⟨by decide,_,_,(s.hide 0 rfl).ret (by simp) [3,0,1,2] [] rfl rfl,.inl ⟨by first|rfl|trivial,.inr ⟨by decide,rfl⟩,rfl⟩⟩
 | false=>
  have hpf:putFault base.length base L c=scanF (exiAt L c) c.ops.length 0:=by rw[putFault,if_neg (by simp[hv0]),if_neg (by simp[hwl]),if_neg (by simp[hin])]
  rw[hpf]
  try simp only[aQ]
  refine Ya (Rds 7 12) [34,29,33] [zB 6 false] ?_
  refine JR_end ?_
  refine Zs [zR 0] [6] [zB 37 false] ?_
  refine cF ?_
  refine J_skip (J_seq (J_seq ?_))
  refine J_openmapg 2 rfl fun es1 clock1 hm1=>?_
  refine Nm [cObj mk (Obj.map es clock),(cStar (List.map (fun t=>cAcc (F t) 35 3 (List.map eCom (keyC L t))) ks))] ?_
  refine Za [zR 0,.rd 1 [.o 1 none] 0 0,zR 2,zR 3] [37] [zS 40 a2 c.ops.length c2,zI 41 (↑c.ops.length:Int),zI 42 0] ?_
  refine J_block ?_
  refine J_loopx (fun i:Int=>[zP 0 b,zP 3 (nu1 0),zV 4 .nilIface,zS 40 a2 c.ops.length c2,zI 41 (↑c.ops.length:Int),zI 42 i]) (fun i:Int=>[(b,.cells #[nI (↑base.length:Int),.slice ba base.length cb,.map (some mk),.map (some md)] 218 (0,0)),(nu1 0,.cells #[.slice a1 c.when.length c1,nI c.place,.slice a2 c.ops.length c2] 35 (0,0)),(md,Obj.map es1 clock1)]) (fun i:Int=>[cObj mk (.map es clock),cStar (ks.map fun t=>cAcc (F t) 35 3 ((keyC L t).map eCom))]) (fun i:Int=>[(.nilIface,(dC er eb)),(.slice a1 c.when.length c1,(dInts c.when)),(.slice a2 c.ops.length c2,(D.sl 7 (List.map eOp c.ops))),(.slice ba base.length cb,(dInts base)),(.pointer (sA 1 0),(D.ptr [D.v (Value.iface 390 (Value.pointer (some (er 3))))])),(.pointer (sA 5 0),(D.ptr [D.v (Value.iface 390 (Value.pointer (some (er 9))))])),(.pointer (sA 9 0),(D.ptr [D.v (Value.iface 390 (Value.pointer (some (er 6))))]))]) (fun i:Int=>(c.ops.length - i).toNat) (fun i:Int=>(0≤i∧i≤c.ops.length∧∀j:Nat,j<i.toNat→exiAt L c j=0)) 0 [0,3,4,40,41,42] [0,1,2] [0,1] [0,1,2,3,4,5,6] ?_ (by kernel_rfl) rfl rfl rfl ?_
  ·exact⟨by simp,by simp,by simp⟩
  rintro i ⟨hi0,hi,hex⟩
  refine Zs [zR 0] [] [zB 43 (decide (i<(↑c.ops.length:Int)))] ?_
  refine J_seq ?_
  refine cC (t:=decide (i<(↑c.ops.length:Int))) (fun hlt=>?_) (fun hlt=>?_)
  ·have hlt2:i<c.ops.length:=by simpa using hlt
   obtain⟨o,ho⟩:∃o,c.ops[i.toNat]?=some o:=⟨_,List.getElem?_eq_getElem (by omega)⟩
   refine J_read1 2 rfl i.toNat (map_at ho) (by kernel_rfl) (fun b1 off1 cs1 ty1 fz1 a1_0 c1_0 ha1 hrd1=>?_)
   cases ha1
   have hrd1_0:=rd0 (hrd1 0 _ rfl)
   have hrd1_1:=hrd1 1 _ rfl
   have hrd1_2:=hrd1 2 _ rfl
   have hrd1_3:=hrd1 3 _ rfl
   have hrd1_4:=hrd1 4 _ rfl
   have hrd1_5:=hrd1 5 _ rfl
   have hrd1_6:=hrd1 6 _ rfl
   try simp only[aQ]
   refine J_skip (J_seq (J_block ?_))
   refine Zu [zR 0,.rd 1 [] 0 2,.rd 2 [.r 3 (some (nI o.no)),.r 3 (some (.string o.key)),.r 3 (some (nI o.kind)),.r 3 (some (.string o.text)),.r 3 (some (nI o.n)),.r 3 (some (.bool o.remove)),.r 3 (some (.slice (a1_0,c1_0).fst ((List.map eDot o.dots).length) c1_0))] 0 0,.wr 3 [] 0,zR 4,.wr 5 (hnO 3 7) 0] [(5,[])] [43] (fun nu2=>[zI 8 i,zP 9 (nu2 0)]) o0 (fun nu2=>[(nu2 0,.cells #[nI o.no,.string o.key,nI o.kind,.string o.text,nI o.n,.bool o.remove,.slice (a1_0,c1_0).fst ((List.map eDot o.dots).length) c1_0] 55 (0,0))]) (fun nu2=>(oC hi0 (oC hlt2 (oC hrd1_0 (oC hrd1_1 (oC hrd1_2 (oC hrd1_3 (oC hrd1_4 (oC hrd1_5 (oC hrd1_6 oN)))))))))) (fun nu2=>?_)
   refine jS [(0,true),(1,true),(2,true),(3,true),(4,true),(5,true),(6,false),(7,true)] [] ?_
   refine Ya (Rds 0 3++[.rd 3 [.o 0 none] 0 0,.rd 4 (hnO 1 3) 0 0,.rd 5 (hnO 3 7) 0 0]) [] [zV 50 (.map (some md)),zV 51 (.agg #[.slice a1 c.when.length c1,nI c.place,.slice (sA b1 off1) c.ops.length c2]),zV 52 (.agg #[nI o.no,.string o.key,nI o.kind,.string o.text,nI o.n,.bool o.remove,.slice (a1_0,c1_0).fst ((List.map eDot o.dots).length) c1_0])] ?_
   refine Yc 145 #[.agg #[.slice a1 c.when.length c1,nI c.place,.slice (sA b1 off1) c.ops.length c2],.agg #[nI o.no,.string o.key,nI o.kind,.string o.text,nI o.n,.bool o.remove,.slice (a1_0,c1_0).fst ((List.map eDot o.dots).length) c1_0]] (some 53) fun w S hG=>?_
   refine(verDot (c:=c) (o:=o) rfl (hG.at 1 rfl) hrc.p0 hrc.p1).mono ?_
   rintro e3 w3 hR
   refine⟨_,_,_,hR,?_⟩
   refine JRg_lookr (.o 2 none) md 216 177 4 okDot (.agg #[.int .i64 ((dotOf c o).place),.int .i64 ((dotOf c o).time),.int .i64 ((dotOf c o).no)]) (.bool false) false (some 54) (by kernel_rfl) (by kernel_rfl) (by kernel_rfl) keyOk_177 (by first|exact⟨_,_,_,rfl⟩|simp[MapKept.IsKey]) (by kernel_rfl) rfl hm1 (fun hno=>?_) (fun v hv=>?_)
   ·have hnd:dotOf c o∉L.map dotP:=fun h=>by
     rw[dotSet_in h]at hno
     cases hno
    have hz:exiAt L c i.toNat=0:=by simp[exiAt,ho,hnd]
    try simp only[aQ]
    refine JR_end ?_
    refine cF ?_
    refine J_skip (J_eb ?_)
    refine Zp [.rd 0 [] 0 1,zR 1] [54] [zI 42 (i+1)] (oC (show IntKind.i64.wrap (i+1)=i+1 from wrap_i64 (by omega) (by omega)) oN) ?_
    refine J_backx (i+1) [0,3,4,40,41,42] [0,1,2] [0,1] [0,1,2,3,4,5,6] ?_ ?_ (by kernel_rfl) rfl rfl rfl
    ·refine⟨by omega,by omega,fun j hj=>?_⟩
     by_cases hji:j=i.toNat
     ·rw[hji]
      exact hz
     ·exact hex j (by omega)
    ·omega
   ·have hin2:dotOf c o∈L.map dotP:=Classical.byContradiction fun h=>by
     rw[dotSet_out h]at hv
     cases hv
    rw[dotSet_in hin2]at hv
    cases hv
    have hz:exiAt L c i.toNat=6:=by simp[exiAt,ho,hin2]
    have hsc:scanF (exiAt L c) c.ops.length 0=⟨6,i⟩:=by
     rw[(scanF_from c.ops.length 0 i.toNat (Nat.zero_le _) fun j _ hj=>hex j hj).2 (by omega) (by omega),hz]
     congr 1
     omega
    rw[hsc]
    try simp only[aQ]
    refine JR_end ?_
    refine cTt ?_
    refine Zu [zR 0,.rd 1 [.r 2 (some (.iface 390 (.pointer (some (er 6)))))] 0 0,zR 2,.wr 3 [] 0,zR 4,zR 5] [] [54] (fun nu3=>[zV 4 (.iface 202 (.pointer (sA (nu3 0) 0)))]) o0 (fun nu3=>[(nu3 0,.cells #[nI i,.iface 390 (.pointer (some (er 6)))] 204 (0,0))]) (fun nu3=>(oC hglob3 oN)) (fun nu3=>?_)
    refine Yr [[]] (.iface 202 (.pointer (sA (nu3 0) 0))) fun a w s=>?_
    exact .inl ⟨by decide,_,_,(((((s.share 4 rfl).stp (stp_fact fun w S H=>ptr_of_obj rfl rfl (H (_,_) (List.mem_of_getElem? (i:=8) rfl)))).hide 0 rfl).hide 1 rfl).stp (stp_conv 3 rfl (mapg_eqv hm1))).ret (by simp) [2,0,1,3] [9] rfl rfl,.inr ⟨by decide,hi0,_,rfl,rfl⟩⟩
  ·have hil:i=c.ops.length:=by simp at hlt;omega
   subst hil
   have hsc:(scanF (exiAt L c) c.ops.length 0).code=0:=by
    rw[(scanF_from c.ops.length 0 c.ops.length (Nat.zero_le _) fun j _ hj=>hex j (by omega)).1 (by omega)]
   refine J_exit rfl ?_
   refine jS [(0,true),(1,false),(2,false)] [] ?_
   refine Ya [.rd 0 (hnO 1 3) 0 0] [43,40,41,42] [zV 61 (.agg #[.slice a1 c.when.length c1,nI c.place,.slice a2 c.ops.length c2])] ?_
   refine Yc 84 #[.agg #[.slice a1 c.when.length c1,nI c.place,.slice a2 c.ops.length c2]] (some 62) fun w S hG=>?_
   refine(vOwn (c:=c) (hG.at 1 rfl) (hG.at 2 rfl) hl1 hl2 hl3).mono ?_
   rintro e3 w3 ⟨u1,d1,u2,d2,hR⟩
   refine⟨_,_,_,hR,?_⟩
   try simp only[aQ]
   refine Ym [.wr 2 (hnO 1 3) 0] [62,61] (fun _=>[]) (fun _=>[(1,.cells #[.slice u1 c.when.length d1,nI c.place,.slice u2 c.ops.length d2] 35 (0,0))]) o0 [] (fun _=>?_)
   refine JR_end (J_seq (J_seq ?_))
   refine J_stpx (stp_know (p:=c.ops.length≤d2) fun _ _ H=>(H.g (_,_) (List.mem_of_getElem? (i:=8) rfl)).cap) fun _ hd2=>?_
   refine J_stpx (stp_know (p:=∃bq oq,u2=some ⟨bq,oq,none⟩) fun _ _ H=>Rep.someA (H.g (.slice u2 c.ops.length d2,.sl 7 (c.ops.map eOp)) (List.mem_of_getElem? (i:=8) rfl)) (fun h=>by rw[List.map_eq_nil_iff]at h;have:=hrc.o1;rw[h]at this;simp at this)) fun _ hu2=>?_
   obtain⟨bq,oq,rfl⟩:=hu2
   refine J_show 0 rfl ?_
   have eK:(fun t=>cAcc (F t) 35 3 ((keyC L t).map eCom))=fun t=>cAcc (F t) 35 3 ((keyC (L++putsOf c (c.ops.take (0:Int).toNat)) t).map eCom):=by simp[putsOf]
   rw[eK]
   refine Nm [(cStar (List.map (fun t=>cAcc (F t) 35 3 (List.map eCom (keyC (L++putsOf c (List.take (Int.toNat 0) c.ops)) t))) ks))] ?_
   refine Za [zR 0,.rd 1 [.o 1 none] 0 0,zR 2,zR 3] [] [zS 64 (sA bq oq) c.ops.length d2,zI 65 (↑c.ops.length:Int),zI 66 0] ?_
   refine J_block ?_
   refine J_loopx (fun y:PutS=>[zP 0 b,zP 3 (nu1 0),zV 4 .nilIface,zS 64 (sA bq oq) c.ops.length d2,zI 65 (↑c.ops.length:Int),zI 66 y.i]) (fun y:PutS=>[(b,.cells #[nI (↑base.length:Int),.slice ba base.length cb,.map (some mk),.map (some md)] 218 (0,0)),(nu1 0,.cells #[.slice u1 c.when.length d1,nI c.place,.slice (sA bq oq) c.ops.length d2] 35 (0,0)),(md,.map y.es1 y.clock1),(mk,.map y.es y.clock)]) (fun y:PutS=>[cStar (y.ks.map fun t=>cAcc (y.F t) 35 3 ((keyC (L++putsOf c (c.ops.take y.i.toNat)) t).map eCom))]) (fun y:PutS=>[(.nilIface,(dC er eb)),(.slice a1 c.when.length c1,(dInts c.when)),(.slice a2 c.ops.length c2,(D.sl 7 (List.map eOp c.ops))),(.slice ba base.length cb,(dInts base)),(.pointer (sA 1 0),(D.ptr [D.v (Value.iface 390 (Value.pointer (some (er 3))))])),(.pointer (sA 5 0),(D.ptr [D.v (Value.iface 390 (Value.pointer (some (er 9))))])),(.pointer (sA 9 0),(D.ptr [D.v (Value.iface 390 (Value.pointer (some (er 6))))])),(.slice u1 c.when.length d1,(dInts c.when)),(.slice (sA bq oq) c.ops.length d2,(D.sl 7 (List.map eOp c.ops)))]) (fun y:PutS=>(c.ops.length - y.i).toNat) (fun y:PutS=>(0≤y.i∧y.i≤c.ops.length∧MapG (MapKept.IsKey .string) y.es (strG y.ks y.F)∧MapKept.Stamped y.es y.clock∧y.ks.Nodup∧(∀t,t∈y.ks↔keyC (L++putsOf c (c.ops.take y.i.toNat)) t≠[])∧MapG okDot y.es1 (dotSet ((L++putsOf c (c.ops.take y.i.toNat)).map dotP)))) ⟨0,es,clock,ks,F,es1,clock1⟩ [0,3,4,64,65,66] [0,1,2,3] [0] [0,1,2,3,4,5,6,7,8] ?_ (by kernel_rfl) rfl rfl rfl ?_
   ·exact⟨by simp,by simp,hm,hst,hnd,by simpa [putsOf]using hiff,by simpa [putsOf]using hm1⟩
   rintro⟨i,es2,clock2,ks2,F2,es3,clock3⟩ ⟨hi0,hi,hmo,hst2,hnd2,hiff2,hmd⟩
   dsimp only at hi0 hi hmo hst2 hnd2 hiff2 hmd ⊢
   refine Zs [zR 0] [] [zB 67 (decide (i<(↑c.ops.length:Int)))] ?_
   refine J_seq ?_
   refine cC (t:=decide (i<(↑c.ops.length:Int))) (fun hlt5=>?_) (fun hlt5=>?_)
   ·have hlt6:i<c.ops.length:=by simpa using hlt5
    obtain⟨o,ho⟩:∃o,c.ops[i.toNat]?=some o:=⟨_,List.getElem?_eq_getElem (by omega)⟩
    refine J_read1 8 rfl i.toNat (map_at ho) (by kernel_rfl) (fun b1 off1 cs1 ty1 fz1 a1_0 c1_0 ha1 hrd1=>?_)
    cases ha1
    have hrd1_0:=rd0 (hrd1 0 _ rfl)
    have hrd1_1:=hrd1 1 _ rfl
    have hrd1_2:=hrd1 2 _ rfl
    have hrd1_3:=hrd1 3 _ rfl
    have hrd1_4:=hrd1 4 _ rfl
    have hrd1_5:=hrd1 5 _ rfl
    have hrd1_6:=hrd1 6 _ rfl
    try simp only[aQ]
    refine J_skip (J_seq (J_block ?_))
    refine Zu [zR 0,.rd 1 [] 0 2,.rd 2 [.r 3 (some (nI o.no)),.r 3 (some (.string o.key)),.r 3 (some (nI o.kind)),.r 3 (some (.string o.text)),.r 3 (some (nI o.n)),.r 3 (some (.bool o.remove)),.r 3 (some (.slice (a1_0,c1_0).fst ((List.map eDot o.dots).length) c1_0))] 0 0,.wr 3 [] 0,zR 4,.wr 5 (hnO 4 7) 0] [(5,[])] [67] (fun nu2=>[zI 10 i,zP 11 (nu2 0)]) o0 (fun nu2=>[(nu2 0,.cells #[nI o.no,.string o.key,nI o.kind,.string o.text,nI o.n,.bool o.remove,.slice (a1_0,c1_0).fst ((List.map eDot o.dots).length) c1_0] 55 (0,0))]) (fun nu2=>(oC hi0 (oC hlt6 (oC hrd1_0 (oC hrd1_1 (oC hrd1_2 (oC hrd1_3 (oC hrd1_4 (oC hrd1_5 (oC hrd1_6 oN)))))))))) (fun nu2=>?_)
    refine jS [(0,true),(1,true),(2,true),(3,true),(4,true),(5,true),(6,false),(7,false)] [(7,[2])] ?_
    refine Ya (Rds 0 3++[.rd 3 [.o 0 none] 0 0,.rd 4 (hnO 1 3) 0 0,.rd 5 (hnO 4 7) 0 0]) [] [zV 74 (.map (some md)),zV 75 (.agg #[.slice u1 c.when.length d1,nI c.place,.slice (sA bq oq) c.ops.length d2]),zV 76 (.agg #[nI o.no,.string o.key,nI o.kind,.string o.text,nI o.n,.bool o.remove,.slice (a1_0,c1_0).fst ((List.map eDot o.dots).length) c1_0])] ?_
    refine Yc 145 #[.agg #[.slice u1 c.when.length d1,nI c.place,.slice (sA bq oq) c.ops.length d2],.agg #[nI o.no,.string o.key,nI o.kind,.string o.text,nI o.n,.bool o.remove,.slice (a1_0,c1_0).fst ((List.map eDot o.dots).length) c1_0]] (some 77) fun w S hG=>?_
    refine(verDot (c:=c) (o:=o) rfl (hG.at 7 rfl) hrc.p0 hrc.p1).mono ?_
    rintro e4 w4 hR
    refine⟨_,_,_,hR,?_⟩
    try simp only[aQ]
    refine JRg_put 2 md 216 177 4 okDot (.agg #[.int .i64 ((dotOf c o).place),.int .i64 ((dotOf c o).time),.int .i64 ((dotOf c o).no)]) (.bool true) none (by kernel_rfl) (by kernel_rfl) (by kernel_rfl) keyOk_177 (by first|exact⟨_,_,_,rfl⟩|simp[MapKept.IsKey]) rfl hmd (fun es4 clock4 hm4 hsz4=>?_)
    refine JR_end ?_
    refine Zv [.rd 0 (hnO 1 3) 0 0,.wr 1 [] 0,.wr 2 (hnO 5 3) 0] [(2,[])] [] (fun nu3=>[zP 12 (nu3 0)]) o0 (fun nu3=>[(nu3 0,.cells #[.slice u1 c.when.length d1,nI c.place,.slice (sA bq oq) c.ops.length d2] 35 (0,0))]) (fun nu3=>?_)
    refine Zu [zR 0,.rd 1 [.o 1 none] 0 0,zR 2,zR 3,.rd 4 [] 0 1,.rd 5 [] 0 4,zR 6,.wr 7 [.o 5 none] 0] [(7,[5])] [] (fun _=>[]) (fun _=>[(5,.cells #[.slice u1 c.when.length d1,nI c.place,.slice (sA bq (oq+i.toNat*7)) ((i+1).toNat - i.toNat) (d2 - i.toNat)] 35 (0,0))]) o0 (fun _=>(oC (show IntKind.i64.wrap (i+1)=i+1 from wrap_i64 (by omega) (by omega)) (oC hi0 (oC (show i≤i+1 from by omega) (oC (show i+1≤(↑d2:Int) from by omega) (oC (show i<(↑d2:Int) from by omega) oN)))))) (fun _=>?_)
    have hA2:L++putsOf c (c.ops.take (i+1).toNat)=(L++putsOf c (c.ops.take i.toNat))++[⟨c.when,c.place,o⟩]:=by
     rw[←take_snoc hi0 ho,putsOf,putsOf,List.map_append,←List.append_assoc]
     rfl
    have hAl:(L++putsOf c (c.ops.take i.toNat)).length≤1000020:=by
     have:=hrc.o2
     rw[List.length_append,putsOf,List.length_map,List.length_take]
     omega
    have hone:(c.ops.drop i.toNat).take 1=[o]:=by
     rw[List.drop_eq_getElem_cons (by omega)]
     have:=(List.getElem?_eq_some_iff.1 ho).2
     simp[this]
    refine J_stp (stp_fact fun w S H=>(H (_,_) (List.mem_of_getElem? (i:=8) rfl)).dropM i.toNat (by omega)) ?_
    have h11:(i+1).toNat - i.toNat=1:=by omega
    rw[h11]
    refine J_stp (stp_fact fun w S H=>(H (_,_) (List.mem_of_getElem? (i:=10) rfl)).takeM 1 (by rw[List.length_drop];omega)) ?_
    rw[hone]
    generalize L++putsOf c (c.ops.take i.toNat)=A at hA2 hAl hiff2 hmd hm4 ⊢
    have hkl:=keyC_len A o.key
    have hmd2:MapG okDot es4 (dotSet ((A++[(⟨c.when,c.place,o⟩:PutT)]).map dotP)):=by
     rw[List.map_append]
     exact hm4.congr (dotSet_snoc (d:=dotOf c o))
    have hko:∀t,t≠o.key→keyC (A++[(⟨c.when,c.place,o⟩:PutT)]) t=keyC A t:=fun t ht=>by
     rw[keyC_snoc,if_neg fun h=>ht h.symm,List.append_nil]
    have hkn:keyC (A++[(⟨c.when,c.place,o⟩:PutT)]) o.key=keyC A o.key++[⟨c.when,c.place,[o]⟩]:=by
     rw[keyC_snoc,if_pos rfl]
     rfl
    by_cases hT2:o.key∈ks2
    ·obtain⟨i2,hit2⟩:=List.getElem?_of_mem hT2
     refine J_stp (stp_take (c:=cAcc (F2 o.key) 35 3 ((keyC A o.key).map eCom)) 0 i2 rfl (by rw[List.getElem?_map,hit2];rfl)) ?_
     refine J_stpx (stp_accform 0 rfl) fun y hF=>?_
     obtain⟨av,nv,cv⟩:=y
     obtain⟨hF,hn⟩:=hF
     dsimp only at hF hn
     rw[List.length_map]at hn
     have hnb:nv≤4000000:=by omega
     rw[hF]
     refine Nm [cAcc (.slice av nv cv) 35 3 (List.map eCom (keyC A o.key)),(cStar ((List.map (fun t=>cAcc (F2 t) 35 3 (List.map eCom (keyC A t))) ks2).eraseIdx i2))] ?_
     try simp only[aQ]
     refine jT [(0,true),(1,true),(2,true),(3,true),(4,true),(5,true),(6,true),(7,true),(8,true),(9,true),(10,true),(11,true),(12,true),(13,true),(14,false),(15,false),(16,false)] [(15,[]),(16,[3])] ?_
     refine Ya (Rds 0 3++[.rd 3 [.o 0 none] 0 0,zR 4,.rd 5 [.o 4 none] 0 0]++Rds 6 9++[.rd 9 [.o 0 none] 0 0,zR 10,.rd 11 [.o 4 none] 0 0]) [] [zV 89 (.map (some mk)),zV 91 (.string o.key),zV 95 (.map (some mk)),zV 97 (.string o.key)] ?_
     refine JRg_lookr (.o 3 none) mk 215 9 153 (MapKept.IsKey TypeDesc.string) (.string o.key) (.slice none 0 0) false (some 98) (by kernel_rfl) (by kernel_rfl) (by kernel_rfl) keyOk_9 (by first|exact⟨_,_,_,rfl⟩|simp[MapKept.IsKey]) (by kernel_rfl) rfl hmo (fun hno=>?_) (fun v hv=>?_)
     ·rw[strG_in hT2]at hno
      cases hno
     ·rw[strG_in hT2,hF]at hv
      cases hv
      refine Ym [.rd 13 (hnO 5 3) 0 0,.wr 14 [] 0] [95,97] (fun nu4=>[zS 100 (sA (nu4 0) 0) 1 1]) o0 (fun nu4=>[(nu4 0,.cells #[.slice u1 c.when.length d1,nI c.place,.slice (sA bq (oq+i.toNat*7)) 1 (d2 - i.toNat)] 35 (0,0))]) [(15,[]),(16,[3])] (fun nu4=>?_)
      refine JR_appm 0 153 35 3 56 (.agg #[.slice none 0 0,.int .i64 0,.slice none 0 0]) (a0:=av) (len:=nv) (cap0:=cv) (ax:=(some (⟨nu4 0,0,none⟩))) (m:=1) (c:=1) (dst:=(some 101)) [(⟨c.when,c.place,[o]⟩:ComT)] (by kernel_rfl) (by kernel_rfl) (by kernel_rfl) (by kernel_rfl) rfl (by decide) rfl (fun _ _ _ s=>src_one s 6 rfl rfl ⟨.inr (.inl (List.mem_of_getElem? (i:=7) rfl)),⟨.inl ⟨rfl,rfl⟩,⟨.inr (.inl (List.mem_of_getElem? (i:=11) rfl)),trivial⟩⟩⟩) (by simp only[maxLen];omega) (by omega) (fun av1 cv1=>?_)
      try simp only[aQ]
      refine JRg_puts 3 mk 215 9 153 (MapKept.IsKey TypeDesc.string) (.string o.key) (.slice av1 (nv+1) cv1) none (by kernel_rfl) (by kernel_rfl) (by kernel_rfl) keyOk_9 (by first|exact⟨_,_,_,rfl⟩|simp[MapKept.IsKey]) rfl hmo (fun es5 clock5 hm5 hsz5 hst5=>?_)
      try simp only[aQ]
      refine JR_end ?_
      try simp only[aQ]
      refine J_eb ?_
      try simp only[aQ]
      refine Zp [.rd 0 [] 0 1,zR 1] [] [zI 66 (i+1)] (oC (show IntKind.i64.wrap (i+1)=i+1 from wrap_i64 (by omega) (by omega)) oN) ?_
      try simp only[aQ]
      refine Nm [(cStar ((List.map (fun t=>cAcc (F2 t) 35 3 (List.map eCom (keyC A t))) ks2).eraseIdx i2)),cAcc (.slice av1 (nv+1) cv1) 35 3 (List.map eCom (keyC A o.key++[ComT.mk c.when c.place [o]]))] ?_
      have hE2:=map_out (Q:=fun t=>cAcc (F2 t) 35 3 ((keyC A t).map eCom)) (Q':=fun t=>cAcc (upd F2 o.key (.slice av1 (nv+1) cv1) t) 35 3 ((keyC (A++[(⟨c.when,c.place,o⟩:PutT)]) t).map eCom)) hnd2 hit2 fun s hs=>by
       show cAcc (upd F2 o.key (.slice av1 (nv+1) cv1) s) _ 3 ((keyC (A++[(⟨c.when,c.place,o⟩:PutT)]) s).map eCom)=cAcc (F2 s) _ 3 ((keyC A s).map eCom)
       rw[upd_ne _ _ hs,hko s hs]
      refine J_stp (stp_join 1 0 i2 (cs':=ks2.map fun t=>cAcc (upd F2 o.key (.slice av1 (nv+1) cv1) t) 35 3 ((keyC (A++[(⟨c.when,c.place,o⟩:PutT)]) t).map eCom)) rfl rfl (by decide) (by
       rw[List.getElem?_map,hit2]
       show some (cAcc (upd F2 o.key (.slice av1 (nv+1) cv1) o.key) _ 3 ((keyC (A++[(⟨c.when,c.place,o⟩:PutT)]) o.key).map eCom))=_
       rw[upd_at,hkn]) hE2) ?_
      rw[←hA2]
      refine Nm [(cStar (List.map (fun t=>cAcc (upd F2 o.key (Value.slice av1 (nv+1) cv1) t) 35 3 (List.map eCom (keyC (L++putsOf c (List.take (i+1).toNat c.ops)) t))) ks2))] ?_
      refine J_backx ⟨i+1,_,_,ks2,upd F2 o.key (.slice av1 (nv+1) cv1),_,_⟩ [0,3,4,64,65,66] [0,1,2,3] [0] [0,1,2,3,4,5,6,7,8] ?_ ?_ (by kernel_rfl) rfl rfl rfl
      ·refine⟨by simp only;omega,by simp only;omega,hm5.congr (strG_set hT2),hst5 hst2,hnd2,fun t=>?_,?_⟩
       ·dsimp only
        rw[hA2]
        by_cases hs:t=o.key
        ·subst hs
         rw[hkn]
         simp[hT2]
        ·rw[hko t hs]
         exact hiff2 t
       ·dsimp only
        rw[hA2]
        exact hmd2
      ·simp only
       omega
    ·have ho0:keyC A o.key=[]:=Classical.byContradiction fun h=>hT2 ((hiff2 _).2 h)
     refine J_stp (stp_accm eCom 35 3) ?_
     refine Nm [(cStar (List.map (fun t=>cAcc (F2 t) 35 3 (List.map eCom (keyC A t))) ks2)),cAcc (.slice none 0 0) 35 3 (List.map eCom [])] ?_
     try simp only[aQ]
     refine jT [(0,true),(1,true),(2,true),(3,true),(4,true),(5,true),(6,true),(7,true),(8,true),(9,true),(10,true),(11,true),(12,true),(13,true),(14,false),(15,false),(16,false)] [(15,[]),(16,[3])] ?_
     refine Ya (Rds 0 3++[.rd 3 [.o 0 none] 0 0,zR 4,.rd 5 [.o 4 none] 0 0]++Rds 6 9++[.rd 9 [.o 0 none] 0 0,zR 10,.rd 11 [.o 4 none] 0 0]) [] [zV 89 (.map (some mk)),zV 91 (.string o.key),zV 95 (.map (some mk)),zV 97 (.string o.key)] ?_
     refine JRg_lookr (.o 3 none) mk 215 9 153 (MapKept.IsKey TypeDesc.string) (.string o.key) (.slice none 0 0) false (some 98) (by kernel_rfl) (by kernel_rfl) (by kernel_rfl) keyOk_9 (by first|exact⟨_,_,_,rfl⟩|simp[MapKept.IsKey]) (by kernel_rfl) rfl hmo (fun hno=>?_) (fun v hv=>?_)
     ·refine Ym [.rd 13 [.o 5 none,.o 5 none,.o 5 none] 0 0,.wr 14 [] 0] [95,97] (fun nu4=>[(100,.val (.slice (some (⟨nu4 0,0,none⟩)) 1 1))]) o0 (fun nu4=>[(nu4 0,.cells #[.slice u1 c.when.length d1,.int .i64 c.place,.slice (some (⟨bq,oq+i.toNat*7,none⟩)) 1 (d2 - i.toNat)] 35 (0,0))]) [(15,[]),(16,[3])] (fun nu4=>?_)
      refine JR_appm 1 153 35 3 56 (.agg #[.slice none 0 0,.int .i64 0,.slice none 0 0]) (a0:=none) (len:=0) (cap0:=0) (ax:=(some (⟨nu4 0,0,none⟩))) (m:=1) (c:=1) (dst:=(some 101)) [(⟨c.when,c.place,[o]⟩:ComT)] (by kernel_rfl) (by kernel_rfl) (by kernel_rfl) (by kernel_rfl) rfl (by decide) rfl (fun _ _ _ s=>src_one s 6 rfl rfl ⟨.inr (.inl (List.mem_of_getElem? (i:=7) rfl)),⟨.inl ⟨rfl,rfl⟩,⟨.inr (.inl (List.mem_of_getElem? (i:=11) rfl)),trivial⟩⟩⟩) (by simp only[maxLen];omega) (by omega) (fun av1 cv1=>?_)
      try simp only[aQ]
      refine JRg_puts 3 mk 215 9 153 (MapKept.IsKey TypeDesc.string) (.string o.key) (.slice av1 1 cv1) none (by kernel_rfl) (by kernel_rfl) (by kernel_rfl) keyOk_9 (by first|exact⟨_,_,_,rfl⟩|simp[MapKept.IsKey]) rfl hmo (fun es5 clock5 hm5 hsz5 hst5=>?_)
      try simp only[aQ]
      refine JR_end ?_
      try simp only[aQ]
      refine J_eb ?_
      try simp only[aQ]
      refine Zp [.rd 0 [] 0 1,zR 1] [] [zI 66 (i+1)] (oC (show IntKind.i64.wrap (i+1)=i+1 from wrap_i64 (by omega) (by omega)) oN) ?_
      try simp only[aQ]
      refine Nm [(cStar (List.map (fun t=>cAcc (F2 t) 35 3 (List.map eCom (keyC A t))) ks2)),cAcc (.slice av1 1 cv1) 35 3 (List.map eCom [ComT.mk c.when c.place [o]])] ?_
      have hE2:=map_new (t:=o.key) (Q:=fun t=>cAcc (F2 t) 35 3 ((keyC A t).map eCom)) (Q':=fun t=>cAcc (upd F2 o.key (.slice av1 1 cv1) t) 35 3 ((keyC (A++[(⟨c.when,c.place,o⟩:PutT)]) t).map eCom)) (ks:=ks2) fun s hs=>by
       have hne:s≠o.key:=fun he=>hT2 (he ▸ hs)
       show cAcc (upd F2 o.key (.slice av1 1 cv1) s) _ 3 ((keyC (A++[(⟨c.when,c.place,o⟩:PutT)]) s).map eCom)=cAcc (F2 s) _ 3 ((keyC A s).map eCom)
       rw[upd_ne _ _ hne,hko s hne]
      refine J_stp (stp_join 1 0 ks2.length (cs':=(ks2++[o.key]).map fun t=>cAcc (upd F2 o.key (.slice av1 1 cv1) t) 35 3 ((keyC (A++[(⟨c.when,c.place,o⟩:PutT)]) t).map eCom)) rfl rfl (by decide) (by
       rw[List.getElem?_map,show(ks2++[o.key])[ks2.length]?=some o.key by simp]
       show some (cAcc (upd F2 o.key (.slice av1 1 cv1) o.key) _ 3 ((keyC (A++[(⟨c.when,c.place,o⟩:PutT)]) o.key).map eCom))=_
       rw[upd_at,hkn,ho0]
       rfl) hE2) ?_
      rw[←hA2]
      refine Nm [(cStar (List.map (fun t=>cAcc (upd F2 o.key (Value.slice av1 1 cv1) t) 35 3 (List.map eCom (keyC (L++putsOf c (List.take (i+1).toNat c.ops)) t))) (ks2++[o.key])))] ?_
      refine J_backx ⟨i+1,_,_,ks2++[o.key],upd F2 o.key (.slice av1 1 cv1),_,_⟩ [0,3,4,64,65,66] [0,1,2,3] [0] [0,1,2,3,4,5,6,7,8] ?_ ?_ (by kernel_rfl) rfl rfl rfl
      ·refine⟨by simp only;omega,by simp only;omega,hm5.congr (strG_new hT2),hst5 hst2,List.nodup_append.2 ⟨hnd2,by simp,fun a ha b hb=>?_⟩,fun t=>?_,?_⟩
       ·rw[List.mem_singleton]at hb
        subst hb
        exact fun he=>hT2 (by rw[←he];exact ha)
       ·dsimp only
        rw[hA2]
        by_cases hs:t=o.key
        ·subst hs
         rw[hkn]
         simp
        ·rw[hko t hs,List.mem_append,List.mem_singleton]
         exact⟨fun h=>h.elim (hiff2 t).1 fun h=>absurd h hs,fun h=>.inl ((hiff2 t).2 h)⟩
       ·dsimp only
        rw[hA2]
        exact hmd2
      ·simp only
       omega
     ·rw[strG_out hT2]at hv
      cases hv
   ·have hil6:c.ops.take i.toNat=c.ops:=List.take_of_length_le (by simp at hlt5;omega)
    rw[hil6]at hiff2 hmd
    rw[hil6]
    refine J_exit rfl ?_
    refine Zs [zR 0] [67,0,3,64,65,66] [] ?_
    refine Yr [[]] (.nilIface) fun a w s=>?_
    exact .inr ⟨hsc,_,_,ks2,F2,((((s.hide 0 rfl).hide 1 rfl).hide 1 rfl).stp (stp_conv 2 rfl (mapg_eqv hmd))).ret (by simp) [1,3,0,2] [] rfl rfl,hmo,hst2,hnd2,hiff2⟩
end Go.Proofs.YtmkapocibaojdaaGreatDoor
end
section
namespace Go.Proofs.YtmkapocibaojdaaGreatDoor
open Go Go.Sx
def atErr (p:Nat) (base:List Int) (key:ByteArray) (at':List Int):Nat:=
 if nameOk key=false then 4 else if vecErr at'≠0 then vecErr at' else if at'.length≠p then 3 else if inL base at'=false then 9 else 0
def withinC (L:List PutT) (key:ByteArray) (at':List Int):List ComT:=(keyC L key).filter fun c=>inL c.when at'
theorem len2w {α:Type} {l:List α} (h:l.length=2):∃x y,l=[x,y]:=by
 match l,h with
 | [x,y],_=>exact⟨x,y,rfl⟩
theorem mem_keyC {L:List PutT} {key:ByteArray} {x:ComT} (h:x∈keyC L key):∃q∈L,x=oneC q:=by
 obtain⟨q,hq,rfl⟩:=List.mem_map.1 h
 exact⟨q,(List.mem_filter.1 hq).1,rfl⟩
structure WithR where
 i:Int
 a:Option Addr
 k:Nat
 c:Nat
set_option maxHeartbeats 4000000 in
theorem vWithinA {w:World} {S:Nat→Prop} {M:List Nat} {er:Nat→Addr} {eb:Nat→Array Value×TypeId} {b mk md:Nat} {ba a1:Option Addr} {p nb cb n1 c1 clock:Nat} {base at':List Int} {es:Array MapEntry} {ks:List ByteArray} {F:ByteArray→Value} {L:List PutT} {key:ByteArray} (hC:Rep w S .nilIface (dC er eb))
  (hP:Pre w S M [cObj b (.cells #[.int .i64 p,.slice ba nb cb,.map (some mk),.map (some md)] 218 (0,0)),cObj mk (.map es clock),cStar (ks.map fun t=>cAcc (F t) 35 3 ((keyC L t).map eCom)),cMapG md okDot (dotSet (L.map dotP))])
  (hb:Rep w S (.slice ba nb cb) (dInts base)) (hbv:vecErr base=0) (hbl:base.length=p) (h1:Rep w S (.slice a1 n1 c1) (dInts at')) (hl1:at'.length≤1000000) (hL:L.length≤1000000) (hLv:∀q∈L,vecErr q.when=0∧q.when.length=p)
  (hm:MapG (MapKept.IsKey .string) es (strG ks F)) (hnd:ks.Nodup) (hiff:∀t,t∈ks↔keyC L t≠[]) :
  Calls Tryz.prog 155 #[.pointer (some ⟨b,0,none⟩),.string key,.slice a1 n1 c1] w fun e w'=>
   (atErr p base key at'≠0∧Ret M w S w' e (.tuple #[.slice none 0 0,.iface 390 (.pointer (some (er (atErr p base key at'))))]) [cObj b (.cells #[.int .i64 p,.slice ba nb cb,.map (some mk),.map (some md)] 218 (0,0)),cObj mk (.map es clock),cStar (ks.map fun t=>cAcc (F t) 35 3 ((keyC L t).map eCom)),cMapG md okDot (dotSet (L.map dotP))] []) ∨
   (atErr p base key at'=0∧∃ua un uc,Ret M w S w' e (.tuple #[.slice ua un uc,.nilIface]) [cAcc (.slice ua un uc) 35 3 ((withinC L key at').map eCom),cObj b (.cells #[.int .i64 p,.slice ba nb cb,.map (some mk),.map (some md)] 218 (0,0)),cObj mk (.map es clock),cStar (ks.map fun t=>cAcc (F t) 35 3 ((keyC L t).map eCom)),cMapG md okDot (dotSet (L.map dotP))] []):=by
 obtain rfl:=rep_ints_len h1
 obtain rfl:=rep_ints_len hb
 subst hbl
 refine enG Tryz.func155 bd155 (args:=[.pointer (some ⟨b,0,none⟩),.string key,.slice a1 at'.length c1]) (S:=S) (G:=[(_,dC er eb),(_,dInts at'),(_,dInts base)]) (by kernel_rfl) hP (.cons hC (.cons h1 (.cons hb (.nil _ _)))) ?_
 refine J_show 0 rfl ?_
 refine J_stp (stp_all 0 [3,2,8] rfl rfl) ?_
 refine J_glob 3 rfl (fun csg1 tyg1 fzg1 hglob1=>?_)
 refine J_glob 4 rfl (fun csg2 tyg2 fzg2 hglob2=>?_)
 refine J_glob 5 rfl (fun csg3 tyg3 fzg3 hglob3=>?_)
 try simp only[aQ]
 refine Zs [zR 0,zR 1] [] [zS 6 none 0 0,zV 7 .nilIface] ?_
 refine J_seq ?_
 refine jS [(0,true),(1,false),(2,true)] [] ?_
 refine Ya [zR 0] [] [zV 16 (.string key)] ?_
 refine Yc 154 #[.string key] (some 17) fun w S hG=>?_
 refine(vName (w:=w) (S:=S) (s0:=key)).mono ?_
 rintro e1 w1 hR
 refine⟨_,_,_,hR,?_⟩
 cases hnm:nameOk key with
 | false=>
  have hae:atErr base.length base key at'=4:=by rw[atErr,if_pos hnm]
  rw[hae]
  try simp only[aQ]
  refine Ya [zR 2] [17,16] [zB 18 true] ?_
  refine JR_end ?_
  refine cTt ?_
  refine Zt [.rd 0 [.r 0 (some (.iface 390 (.pointer (some (er 4)))))] 0 0,zR 1,zR 2] [18] [zV 7 (.iface 390 (.pointer (some (er 4))))] (oC hglob1 oN) ?_
  refine Yr [[],[]] (.tuple #[.slice none 0 0,.iface 390 (.pointer (some (er 4)))]) fun a w s=>?_
  exact .inl ⟨by decide,(s.hide 0 rfl).ret (by simp) [3,0,1,2] [] rfl rfl⟩
 | true=>
 try simp only[aQ]
 refine Ya [zR 2] [17,16] [zB 18 false] ?_
 refine JR_end ?_
 refine cF ?_
 refine J_skip (J_seq ?_)
 refine jS [(0,true),(1,false),(2,true)] [] ?_
 refine Ya [zR 0] [18] [zS 20 a1 at'.length c1] ?_
 refine Yc 141 #[.slice a1 at'.length c1] (some 21) fun w S hG=>?_
 refine(vcheck (globs_of (hG.at 0 rfl)) (hG.at 1 rfl) hl1).mono ?_
 rintro e2 w2 ⟨v,hR,hv⟩
 refine⟨_,_,_,hR,?_⟩
 obtain⟨hv0,rfl⟩|⟨hv0,rfl⟩:=hv
 case inr=>
  have hae:atErr base.length base key at'=vecErr at':=by rw[atErr,if_neg (by simp[hnm]),if_pos hv0]
  rw[hae]
  try simp only[aQ]
  refine Ya [zR 2] [21,20] [zV 8 (.iface 390 (.pointer (some (er (vecErr at')))))] ?_
  refine JR_end ?_
  refine Zs [zR 0,zR 1] [] [zB 23 true] ?_
  refine cTt ?_
  refine Zs (Rds 0 3) [23,8] [zV 7 (.iface 390 (.pointer (some (er (vecErr at')))))] ?_
  refine Yr [[],[]] (.tuple #[.slice none 0 0,.iface 390 (.pointer (some (er (vecErr at'))))]) fun a w s=>?_
  exact .inl ⟨hv0,(s.hide 0 rfl).ret (by simp) [3,0,1,2] [] rfl rfl⟩
 by_cases hal:at'.length=base.length
 case neg=>
  have hae:atErr base.length base key at'=3:=by rw[atErr,if_neg (by simp[hnm]),if_neg (by simp[hv0]),if_pos hal]
  have hal2:¬(at'.length:Int)=base.length:=by omega
  rw[hae]
  try simp only[aQ]
  refine Ya [zR 2] [21,20] [zV 8 .nilIface] ?_
  refine JR_end ?_
  refine Zs [zR 0,zR 1] [] [zB 23 false] ?_
  refine cF ?_
  refine J_skip (J_seq ?_)
  refine Zt (Rds 0 5++[.rd 5 [.o 0 none] 0 0,.rd 6 [] 0 6]) [23,8] [zB 31 true] (oC (show((↑at'.length:Int) != (↑base.length:Int))=true from by simp;omega) oN) ?_
  refine cTt ?_
  refine Zt [.rd 0 [.r 1 (some (.iface 390 (.pointer (some (er 3)))))] 0 0,zR 1,zR 2] [31] [zV 7 (.iface 390 (.pointer (some (er 3))))] (oC hglob2 oN) ?_
  refine Yr [[],[]] (.tuple #[.slice none 0 0,.iface 390 (.pointer (some (er 3)))]) fun a w s=>?_
  exact .inl ⟨by decide,(s.hide 0 rfl).ret (by simp) [3,0,1,2] [] rfl rfl⟩
 have htw:twoErr base at'=0:=by rw[twoErr,if_neg (by simp[hbv]),if_neg (by simp[hv0]),if_neg (by simp[hal])]
 have hvl:=vecErr_len hbv
 have hal2:(at'.length:Int)=base.length:=by omega
 try simp only[aQ]
 refine Ya [zR 2] [21,20] [zV 8 .nilIface] ?_
 refine JR_end ?_
 refine Zs [zR 0,zR 1] [] [zB 23 false] ?_
 refine cF ?_
 refine J_skip (J_seq ?_)
 refine Zt (Rds 0 5++[.rd 5 [.o 0 none] 0 0,.rd 6 [] 0 7]) [23,8] [zB 31 false] (oC (show((↑at'.length:Int) != (↑base.length:Int))=false from by simp;omega) oN) ?_
 refine cF ?_
 refine J_skip (J_seq ?_)
 refine jS [(0,true),(1,true),(2,true),(3,true),(4,true),(5,false),(6,true),(7,true),(8,true),(9,true),(10,true)] [] ?_
 refine Ya (Rds 0 3++[.rd 3 [.o 0 none] 0 0,zR 4]) [31] [zS 37 ba base.length cb,zS 38 a1 at'.length c1] ?_
 refine Yc 100 #[.slice ba base.length cb,.slice a1 at'.length c1] (some 39) fun w S hG=>?_
 refine(vwithin (globs_of (hG.at 0 rfl)) (hG.at 2 rfl) (hG.at 1 rfl) (by omega) hl1).mono ?_
 rintro e3 w3 (⟨htw2,_⟩|⟨_,hR⟩)
 ·exact absurd htw htw2
 refine⟨_,_,_,hR,?_⟩
 cases hin:inL base at' with
 | false=>
  have hae:atErr base.length base key at'=9:=by rw[atErr,if_neg (by simp[hnm]),if_neg (by simp[hv0]),if_neg (by simp[hal]),if_pos hin]
  rw[hae]
  try simp only[aQ]
  refine Ya (Rds 6 11) [39,37,38] [zB 9 false] ?_
  refine JR_end ?_
  refine Zs [zR 0,zR 1] [9] [zB 43 true] ?_
  refine cTt ?_
  refine Zt [.rd 0 [.r 2 (some (.iface 390 (.pointer (some (er 9)))))] 0 0,zR 1,zR 2] [43] [zV 7 (.iface 390 (.pointer (some (er 9))))] (oC hglob3 oN) ?_
  refine Yr [[],[]] (.tuple #[.slice none 0 0,.iface 390 (.pointer (some (er 9)))]) fun a w s=>?_
  exact .inl ⟨by decide,(s.hide 0 rfl).ret (by simp) [3,0,1,2] [] rfl rfl⟩
 | true=>
  have hae:atErr base.length base key at'=0:=by rw[atErr,if_neg (by simp[hnm]),if_neg (by simp[hv0]),if_neg (by simp[hal]),if_neg (by simp[hin])]
  rw[hae]
  try simp only[aQ]
  refine Ya (Rds 6 11) [39,37,38] [zB 9 true] ?_
  refine JR_end ?_
  refine Zs [zR 0,zR 1] [9] [zB 43 false] ?_
  refine cF ?_
  refine J_skip ?_
  refine Zs [zR 0] [43] [zS 11 none 0 0] ?_
  refine J_seq (J_seq ?_)
  refine J_show 0 rfl ?_
  by_cases hT:key∈ks
  ·obtain⟨iT,hit⟩:=List.getElem?_of_mem hT
   refine Nm [(cStar (List.map (fun t=>cAcc (F t) 35 3 (List.map eCom (keyC L t))) ks)),(cMapG md okDot (dotSet (List.map dotP L)))] ?_
   refine J_stp (stp_take (c:=cAcc (F key) 35 3 ((keyC L key).map eCom)) 0 iT rfl (by rw[List.getElem?_map,hit];rfl)) ?_
   refine J_stpx (stp_accform 1 rfl) fun y hF=>?_
   obtain⟨av,nv,cv⟩:=y
   obtain⟨hF,hn⟩:=hF
   dsimp only at hF hn
   rw[List.length_map]at hn
   rw[hF]
   refine J_stp (stp_accm eCom 35 3) ?_
   refine Nm [(cMapG md okDot (dotSet (List.map dotP L))),cAcc (.slice av nv cv) 35 3 (List.map eCom (keyC L key)),(cStar ((List.map (fun t=>cAcc (F t) 35 3 (List.map eCom (keyC L t))) ks).eraseIdx iT)),cAcc (.slice none 0 0) 35 3 (List.map eCom [])] ?_
   refine jT [(0,true),(1,true),(2,true),(3,true),(4,true),(5,true),(6,true),(7,true)] [] ?_
   refine Ya (Rds 0 3++[.rd 3 [.o 0 none] 0 0,zR 4]) [0,1] [zV 48 (.map (some mk)),zV 49 (.string key)] ?_
   refine JRg_lookr (.o 1 none) mk 215 9 153 (MapKept.IsKey TypeDesc.string) (.string key) (.slice none 0 0) false (some 50) (by kernel_rfl) (by kernel_rfl) (by kernel_rfl) keyOk_9 (by first|exact⟨_,_,_,rfl⟩|simp[MapKept.IsKey]) (by kernel_rfl) rfl hm (fun hno=>?_) (fun v hv=>?_)
   ·rw[strG_in hT]at hno
    cases hno
   ·rw[strG_in hT,hF]at hv
    cases hv
    have hkl:=keyC_len L key
    subst hn
    refine Ya [zR 6,zR 7] [48,49] [zI 51 ((↑(keyC L key).length:Int)),zI 52 0] ?_
    refine JR_end (J_block ?_)
    have hwd:withinC L key at'=((keyC L key).take (keyC L key).length).filter fun c=>inL c.when at':=by rw[List.take_length];rfl
    rw[hwd]
    have hKv:∀x∈keyC L key,twoErr x.when at'=0∧x.when.length≤6:=fun x hx=>by
     obtain⟨q,hq,rfl⟩:=mem_keyC hx
     obtain⟨h1,h2⟩:=hLv q hq
     have h3:(oneC q).when=q.when:=rfl
     rw[h3]
     refine⟨?_,?_⟩
     ·rw[twoErr,if_neg (by simp[h1]),if_neg (by simp[hv0]),if_neg (by simp[h2,hal])]
     ·omega
    generalize hKL:keyC L key=KL at hkl hKv ⊢
    refine J_loopx (fun x:WithR=>[zS 2 a1 at'.length c1,zS 6 none 0 0,zV 7 .nilIface,zS 11 x.a x.k x.c,zS 50 av KL.length cv,zI 51 (↑KL.length:Int),zI 52 x.i]) (fun x:WithR=>[(b,.cells #[nI (↑base.length:Int),.slice ba base.length cb,.map (some mk),.map (some md)] 218 (0,0)),(mk,Obj.map es clock)]) (fun x:WithR=>[cMapG md okDot (dotSet (L.map dotP)),cAcc (.slice av KL.length cv) 35 3 (KL.map eCom),cStar ((ks.map fun t=>cAcc (F t) 35 3 ((keyC L t).map eCom)).eraseIdx iT),cAcc (.slice x.a x.k x.c) 35 3 (((KL.take x.i.toNat).filter fun c=>inL c.when at').map eCom)]) (fun x:WithR=>[(.nilIface,(dC er eb)),(.slice a1 at'.length c1,(dInts at')),(.slice ba base.length cb,(dInts base)),(.pointer (sA 8 0),(D.ptr [D.v (Value.iface 390 (Value.pointer (some (er 4))))])),(.pointer (sA 1 0),(D.ptr [D.v (Value.iface 390 (Value.pointer (some (er 3))))])),(.pointer (sA 5 0),(D.ptr [D.v (Value.iface 390 (Value.pointer (some (er 9))))]))]) (fun x:WithR=>(KL.length - x.i).toNat) (fun x:WithR=>(0≤x.i∧x.i≤KL.length)) ⟨0,none,0,0⟩ [2,6,7,11,50,51,52] [0,1] [0,1,2,3] [0,1,2,3,4,5] ?_ (by kernel_rfl) rfl rfl rfl ?_
    ·exact⟨by simp,by simp⟩
    rintro⟨i,a3,k3,c3⟩ ⟨hi0,hi⟩
    dsimp only at hi0 hi ⊢
    refine J_stpx (stp_acclen 3 rfl) fun _ hk3=>?_
    have hk4:k3≤1000000:=by
     rw[List.length_map]at hk3
     have h1:=List.length_filter_le (fun c:ComT=>inL c.when at') (KL.take i.toNat)
     rw[List.length_take]at h1
     omega
    refine Zs [zR 0] [] [zB 53 (decide (i<(↑KL.length:Int)))] ?_
    refine J_seq ?_
    refine cC (t:=decide (i<(↑KL.length:Int))) (fun hlt=>?_) (fun hlt=>?_)
    ·have hlt2:i<KL.length:=by simpa using hlt
     obtain⟨x,hx⟩:∃x,KL[i.toNat]?=some x:=⟨_,List.getElem?_eq_getElem (by omega)⟩
     obtain⟨hx1,hx2⟩:=hKv x (List.mem_of_getElem? hx)
     refine J_openacc 1 rfl (by intro h0;rw[List.map_eq_nil_iff]at h0;rw[h0]at hx;simp at hx) fun g cur xs hu _ _ hrow=>?_
     subst hu
     refine J_stpx (stp_readrows 3 rfl i.toNat (map_at hx)) fun ls hls=>?_
     obtain⟨hls1,hls2⟩:=hls
     obtain⟨⟨xa,xc⟩,⟨ya,yc⟩,rfl⟩:=len2w hls1
     have f:=fun(j:Nat) v h=>hrow.atx (hls2 j v h)
     have r0:=f 0 _ rfl
     have r1:=f 1 _ rfl
     have r2:=f 2 _ rfl
     rw[Nat.add_zero]at r0
     rw[←Nat.zero_add (i.toNat*3)]at r0 r1 r2
     refine Nm [(cMapG md okDot (dotSet (List.map dotP L))),(cStar ((List.map (fun t=>cAcc (F t) 35 3 (List.map eCom (keyC L t))) ks).eraseIdx iT)),cAcc (.slice a3 k3 c3) 35 3 (List.map eCom (List.filter (fun c=>inL c.when at') (List.take i.toNat KL))),(cRows xs 3 (List.map eCom KL))] ?_
     try simp only[aQ]
     refine J_skip (J_seq (J_block ?_))
     refine Zu [.rd 0 [] 0 2,.rd 1 [.o 2 (some (.slice (xa,xc).fst ((List.map eI x.when).length) xc)),.o 2 (some (nI x.place)),.o 2 (some (.slice (ya,yc).fst ((List.map eOp x.ops).length) yc))] 0 0,.wr 2 [] 0,.wr 3 (hnO 3 3) 0] [(3,[])] [53] (fun nu1=>[zP 13 (nu1 0)]) o0 (fun nu1=>[(nu1 0,.cells #[.slice (xa,xc).fst ((List.map eI x.when).length) xc,nI x.place,.slice (ya,yc).fst ((List.map eOp x.ops).length) yc] 35 (0,0))]) (fun nu1=>(oC hi0 (oC hlt2 (oC r0 (oC r1 (oC r2 oN)))))) (fun nu1=>?_)
     refine J_seq ?_
     refine J_hide 2 rfl ?_
     refine J_stp (stp_closeacc 4 3 rfl rfl hrow (by decide)) ?_
     rw[show(List.map eCom KL).length=KL.length from List.length_map ..]
     refine Nm [(cMapG md okDot (dotSet (List.map dotP L))),(cStar ((List.map (fun t=>cAcc (F t) 35 3 (List.map eCom (keyC L t))) ks).eraseIdx iT)),cAcc (.slice a3 k3 c3) 35 3 (List.map eCom (List.filter (fun c=>inL c.when at') (List.take i.toNat KL))),cAcc (.slice (sA g 0) KL.length cv) 35 3 (List.map eCom KL)] ?_
     refine jT [(0,true),(1,true),(2,true),(3,false),(4,true),(5,true),(6,true),(7,true),(8,true)] [] ?_
     refine Ya [zR 0,.rd 1 [.o 2 none] 0 0,zR 2] [] [zS 58 (xa,xc).fst ((List.map eI x.when).length) xc,zS 59 a1 at'.length c1] ?_
     refine Yc 100 #[.slice (xa,xc).fst ((List.map eI x.when).length) xc,.slice a1 at'.length c1] (some 60) fun w S hG=>?_
     refine(vwithin (globs_of (hG.at 0 rfl)) (hG.at 6 rfl) (hG.at 1 rfl) (by omega) hl1).mono ?_
     rintro e4 w4 (⟨hx3,_⟩|⟨_,hR⟩)
     ·exact absurd hx1 hx3
     refine⟨_,_,_,hR,?_⟩
     cases hxi:inL x.when at' with
     | false=>
      have e9:(KL.take i.toNat).filter (fun c=>inL c.when at')=(KL.take (i+1).toNat).filter fun c=>inL c.when at':=by
       rw[←take_snoc hi0 hx,List.filter_append]
       simp[hxi]
      try simp only[aQ]
      refine Ya (Rds 4 9) [60,58,59] [zB 14 false] ?_
      refine JR_end ?_
      refine Zs [zR 0] [] [zB 63 false] ?_
      refine cF ?_
      refine J_skip (J_eb ?_)
      refine Zp [.rd 0 [] 0 1,zR 1] [63] [zI 52 (i+1)] (oC (show IntKind.i64.wrap (i+1)=i+1 from wrap_i64 (by omega) (by omega)) oN) ?_
      rw[e9]
      refine J_backx ⟨i+1,_,_,_⟩ [2,6,7,11,50,51,52] [0,1] [0,3,1,2] [0,1,2,3,4,5] ?_ ?_ (by kernel_rfl) rfl rfl rfl
      ·exact⟨by simp only;omega,by simp only;omega⟩
      ·simp only
       omega
     | true=>
      have e9:(KL.take i.toNat).filter (fun c=>inL c.when at')++[x]=(KL.take (i+1).toNat).filter fun c=>inL c.when at':=by
       rw[←take_snoc hi0 hx,List.filter_append]
       simp[hxi]
      try simp only[aQ]
      refine Ya (Rds 4 9) [60,58,59] [zB 14 true] ?_
      refine JR_end ?_
      refine Zs [zR 0] [] [zB 63 true] ?_
      refine cTt ?_
      refine jT [(0,true),(1,true),(2,false),(3,false),(4,true)] [] ?_
      refine Ym [zR 0,.rd 1 (hnO 2 3) 0 0,.wr 2 [] 0] [63] (fun nu2=>[zS 64 a3 k3 c3,zS 66 (sA (nu2 0) 0) 1 1]) o0 (fun nu2=>[(nu2 0,.cells #[.slice xa ((List.map eI x.when).length) xc,nI x.place,.slice ya ((List.map eOp x.ops).length) yc] 35 (0,0))]) [] (fun nu2=>?_)
      refine JR_appm 2 153 35 3 56 (.agg #[.slice none 0 0,.int .i64 0,.slice none 0 0]) (a0:=a3) (len:=k3) (cap0:=c3) (ax:=(some (⟨nu2 0,0,none⟩))) (m:=1) (c:=1) (dst:=(some 67)) [x] (by kernel_rfl) (by kernel_rfl) (by kernel_rfl) (by kernel_rfl) rfl (by decide) rfl (fun _ _ _ s=>src_one s 3 rfl rfl ⟨.inr (.inl (List.mem_of_getElem? (i:=6) rfl)),⟨.inl ⟨rfl,rfl⟩,⟨.inr (.inl (List.mem_of_getElem? (i:=7) rfl)),trivial⟩⟩⟩) (by simp only[maxLen];omega) (by omega) (fun av1 cv1=>?_)
      rw[e9]
      try simp only[aQ]
      refine Ya [zR 4] [67,64,66] [zS 11 av1 (k3+1) cv1] ?_
      try simp only[aQ]
      refine JR_end ?_
      try simp only[aQ]
      refine J_eb ?_
      try simp only[aQ]
      refine Zp [.rd 0 [] 0 1,zR 1] [] [zI 52 (i+1)] (oC (show IntKind.i64.wrap (i+1)=i+1 from wrap_i64 (by omega) (by omega)) oN) ?_
      try simp only[aQ]
      refine J_backx ⟨i+1,_,_,_⟩ [2,6,7,11,50,51,52] [0,1] [0,2,1,3] [0,1,2,3,4,5] ?_ ?_ (by kernel_rfl) rfl rfl rfl
      ·exact⟨by simp only;omega,by simp only;omega⟩
      ·simp only
       omega
    ·have hil:KL.take i.toNat=KL:=List.take_of_length_le (by simp at hlt;omega)
     rw[hil,List.take_length]
     refine J_exit rfl ?_
     refine Zs (Rds 0 3) [53,2,11,50,51,52] [zS 6 a3 k3 c3] ?_
     refine Yr [[],[]] (.tuple #[.slice a3 k3 c3,.nilIface]) fun a w s=>?_
     have hjn:(ks.map fun t=>cAcc (F t) 35 3 ((keyC L t).map eCom))[iT]?=some (cAcc (.slice av KL.length cv) 35 3 (KL.map eCom)):=by
      rw[List.getElem?_map,hit]
      show some (cAcc (F key) _ 3 ((keyC L key).map eCom))=_
      rw[hF,hKL]
     exact .inr ⟨by first|rfl|trivial,_,_,_,(((s.stp (stp_join 1 2 iT (cs':=ks.map fun t=>cAcc (F t) 35 3 ((keyC L t).map eCom)) rfl rfl (by decide) hjn rfl)).hide 0 rfl).hide 0 rfl).ret (by simp) [1,3,4,2,0] [] rfl rfl⟩
  ·have ho0:keyC L key=[]:=Classical.byContradiction fun h=>hT ((hiff _).2 h)
   refine jT [(0,true),(1,true),(2,true),(3,true),(4,true),(5,true),(6,true),(7,true)] [] ?_
   refine Ya (Rds 0 3++[.rd 3 [.o 0 none] 0 0,zR 4]) [0,1] [zV 48 (.map (some mk)),zV 49 (.string key)] ?_
   refine JRg_lookr (.o 1 none) mk 215 9 153 (MapKept.IsKey TypeDesc.string) (.string key) (.slice none 0 0) false (some 50) (by kernel_rfl) (by kernel_rfl) (by kernel_rfl) keyOk_9 (by first|exact⟨_,_,_,rfl⟩|simp[MapKept.IsKey]) (by kernel_rfl) rfl hm (fun hno=>?_) (fun v hv=>?_)
   ·have hw0:withinC L key at'=[]:=by rw[withinC,ho0];rfl
    rw[hw0]
    refine Ya [zR 6,zR 7] [48,49] [zI 51 0,zI 52 0] ?_
    refine JR_end (J_block ?_)
    refine J_loop1 fun I=>?_
    refine Zs [zR 0] [] [zB 53 false] ?_
    refine J_seq ?_
    refine cF ?_
    refine J_exit rfl ?_
    refine Zs (Rds 0 3) [53,51,52,50,11,2] [] ?_
    refine Yr [[],[]] (.tuple #[.slice none 0 0,.nilIface]) fun a w s=>?_
    exact .inr ⟨by first|rfl|trivial,_,_,_,(((s.stp (stp_accm eCom 35 3)).hide 0 rfl).hide 0 rfl).ret (by simp) [2,3,4,0,1] [] rfl rfl⟩
   ·rw[strG_out hT]at hv
    cases hv
set_option maxHeartbeats 4000000 in
theorem vWithinK {w:World} {S:Nat→Prop} {M:List Nat} {er:Nat→Addr} {eb:Nat→Array Value×TypeId} {b mk md:Nat} {ba a1:Option Addr} {p nb cb n1 c1 clock:Nat} {base at':List Int} {es:Array MapEntry} {ks:List ByteArray} {F:ByteArray→Value} {L:List PutT} {key:ByteArray} (hC:Rep w S .nilIface (dC er eb))
  (hP:Pre w S M [cObj b (.cells #[.int .i64 p,.slice ba nb cb,.map (some mk),.map (some md)] 218 (0,0)),cObj mk (.map es clock),cStar (ks.map fun t=>cAcc (F t) 35 3 ((keyC L t).map eCom)),cMapG md okDot (dotSet (L.map dotP))])
  (hb:Rep w S (.slice ba nb cb) (dInts base)) (hbv:vecErr base=0) (hbl:base.length=p) (h1:Rep w S (.slice a1 n1 c1) (dInts at')) (hl1:at'.length≤1000000) (hL:L.length≤1000000) (hLv:∀q∈L,vecErr q.when=0∧q.when.length=p)
  (hm:MapG (MapKept.IsKey .string) es (strG ks F)) (hnd:ks.Nodup) (hiff:∀t,t∈ks↔keyC L t≠[]) :
  Calls Tryz.prog 155 #[.pointer (some ⟨b,0,none⟩),.string key,.slice a1 n1 c1] w fun e w'=>
   (atErr p base key at'≠0∧Ret M w S w' e (.tuple #[.slice none 0 0,.iface 390 (.pointer (some (er (atErr p base key at'))))]) [cObj b (.cells #[.int .i64 p,.slice ba nb cb,.map (some mk),.map (some md)] 218 (0,0)),cObj mk (.map es clock),cStar (ks.map fun t=>cAcc (F t) 35 3 ((keyC L t).map eCom)),cMapG md okDot (dotSet (L.map dotP))] []) ∨
   (atErr p base key at'=0∧∃ua un uc,Ret M w S w' e (.tuple #[.slice ua un uc,.nilIface]) [cObj b (.cells #[.int .i64 p,.slice ba nb cb,.map (some mk),.map (some md)] 218 (0,0)),cObj mk (.map es clock),cStar (ks.map fun t=>cAcc (F t) 35 3 ((keyC L t).map eCom)),cMapG md okDot (dotSet (L.map dotP))] [(.slice ua un uc,.sl 3 ((withinC L key at').map eCom))]):=by
 refine(vWithinA hC hP hb hbv hbl h1 hl1 hL hLv hm hnd hiff).mono ?_
 rintro e w' (h|⟨h0,ua,un,uc,hR⟩)
 ·exact .inl h
 ·exact .inr ⟨h0,ua,un,uc,hR.freeze⟩
end Go.Proofs.YtmkapocibaojdaaGreatDoor
end
section
namespace Go.Proofs.YtmkapocibaojdaaGreatDoor
open Go Go.Sx
theorem opErrAt_iff {l:List OpT} {p:Int} {i:Nat} {o:OpT} (h:l[i]?=some o):opErrAt l p i=0↔opErr o p=0∧∀q,0<i→l[i - 1]?=some q→q.no<o.no:=by
 by_cases h0:opErr o p=0
 ·cases i with
  | zero=>exact⟨fun _=>⟨h0,fun q h=>absurd h (by omega)⟩,fun _=>opErrAt_first h h0⟩
  | succ i=>
   have hi:=(List.getElem?_eq_some_iff.1 h).1
   obtain⟨q,hq⟩:∃q,l[i]?=some q:=⟨_,List.getElem?_eq_getElem (by omega)⟩
   rw[opErrAt_next h hq h0]
   constructor
   ·intro h1
    refine⟨h0,fun q' _ hq'=>?_⟩
    rw[Nat.add_sub_cancel,hq]at hq'
    cases hq'
    split at h1
    ·cases h1
    ·omega
   ·rintro⟨_,h1⟩
    have:=h1 q (by omega) (by rw[Nat.add_sub_cancel];exact hq)
    rw[if_neg (by omega)]
 ·rw[opErrAt_own h h0]
  exact⟨fun h1=>absurd h1 h0,fun h1=>absurd h1.1 h0⟩
theorem ops_fine {l:List OpT} {p:Int}:(∀j,j<l.length→opErrAt l p j=0)↔(∀o∈l,opErr o p=0)∧l.Pairwise fun a b=>a.no<b.no:=by
 constructor
 ·intro h
  have h1:∀j (hj:j<l.length),opErr l[j] p=0∧∀q,0<j→l[j - 1]?=some q→q.no<l[j].no:=fun j hj=>(opErrAt_iff (List.getElem?_eq_getElem hj)).1 (h j hj)
  have h2:∀j (hj:j<l.length) i (hi:i<j),(l[i]'(by omega)).no<l[j].no:=by
   intro j
   induction j with
   | zero=>exact fun _ i hi=>absurd hi (by omega)
   | succ j ih=>
    intro hj i hi
    have h3:=(h1 (j+1) hj).2 (l[j]'(by omega)) (by omega) (by rw[Nat.add_sub_cancel];exact List.getElem?_eq_getElem _)
    rcases Nat.lt_or_ge i j with h4|h4
    ·exact Int.lt_trans (ih (by omega) i h4) h3
    ·obtain rfl:i=j:=by omega
     exact h3
  refine⟨fun o ho=>?_,List.pairwise_iff_getElem.2 fun i j hi hj hij=>h2 j hj i hij⟩
  obtain⟨j,hj,rfl⟩:=List.getElem_of_mem ho
  exact(h1 j hj).1
 ·rintro⟨h1,h2⟩ j hj
  refine(opErrAt_iff (List.getElem?_eq_getElem hj)).2 ⟨h1 _ (List.getElem_mem _),fun q h0 hq=>?_⟩
  obtain⟨hq1,rfl⟩:=List.getElem?_eq_some_iff.1 hq
  exact List.pairwise_iff_getElem.1 h2 (j - 1) j hq1 hj (by omega)
theorem comFault_mk {c:ComT} (h1:vecErr c.when=0) (h2:0≤c.place) (h3:c.place<c.when.length) (h4:c.ops.length≤12) (h5:c.when[c.place.toNat]?≠some 0) (h6:c.ops≠[]) (h7:∀o∈c.ops,opErr o c.when.length=0) (h8:c.ops.Pairwise fun a b=>a.no<b.no):(comFault c).code=0:=by
 have h9:¬c.ops.length=0:=fun h=>h6 (List.length_eq_zero_iff.1 h)
 have h10:=ops_fine.2 ⟨h7,h8⟩
 rw[comFault,if_neg (by simp[h1]),if_neg (by omega),if_neg h5,if_neg h9,(opsFault_from c.ops.length 0 c.ops.length (Nat.zero_le _) fun j _ hj=>h10 j hj).1 (by omega)]
theorem right_pair {c:ComT} (h:(comFault c).code=0):c.ops.Pairwise fun a b=>a.no<b.no:=by
 have hr:=right_of h
 rw[←hr.op]at h
 exact(ops_fine.1 (opsFault_zero h)).2
theorem valFault_mk {key:ByteArray} {l:List ComT} (hk:nameOk key=true) (h:∀c∈l,(comFault c).code=0) (m:Nat) (hm:∀c∈l,c.when.length=m):(valFault key l).code=0:=by
 rw[valFault,if_neg (by simp[hk]),listFault_none fun j hj=>?_]
 have hj2:l[j]?=some l[j]:=List.getElem?_eq_getElem hj
 refine comErrAt_fine hj2 (h _ (List.getElem_mem _)) ?_
 rw[hm _ (List.getElem_mem _)]
 match l,hj,hm with
 | c::r,_,hm=>exact(hm c (List.mem_cons_self ..)).symm
structure PartOf (c' c:ComT):Prop where
 place:c'.place=c.place
 time:c'.when=c.when
 ne:c'.ops≠[]
 ops:c'.ops.Sublist c.ops
theorem PartOf.fault {c' c:ComT} (h:PartOf c' c) (hc:(comFault c).code=0):(comFault c').code=0:=by
 have hr:=right_of hc
 obtain⟨h1,h2,h3,h4⟩:=h
 refine comFault_mk (by rw[h2];exact hr.vec) (by rw[h1];exact hr.p0) (by rw[h1,h2];exact hr.p1) (Nat.le_trans h4.length_le hr.o2) (by rw[h1,h2];exact hr.t0) h3 (fun o ho=>?_) ((right_pair hc).sublist h4)
 rw[h2]
 exact right_ops hc o (h4.subset ho)
theorem mem_allDone {l:List ComT} {x:DoneT}:x∈allDone l↔∃c∈l,∃o∈c.ops,x=doneOf c o:=by
 unfold allDone
 rw[List.mem_flatMap]
 constructor
 ·rintro⟨c,hc,h⟩
  obtain⟨o,ho,rfl⟩:=List.mem_map.1 h
  exact⟨c,hc,o,ho,rfl⟩
 ·rintro⟨c,hc,o,ho,rfl⟩
  exact⟨c,hc,List.mem_map_of_mem ho⟩
theorem PartOf.done {c' c:ComT} (h:PartOf c' c) (o:OpT):doneOf c' o=doneOf c o:=by
 simp only[doneOf,dotOf,h.place,h.time]
theorem opsRaw_nodup (key:ByteArray) (l:List ComT):((opsRaw key l).map (·.d)).Nodup:=(firsts_nodup (s:=[]) (l:=allDone l)).sublist ((List.filter_sublist ..).map _)
theorem opsOf_strict (key:ByteArray) (l:List ComT):(opsOf key l).Pairwise fun a b=>doneLt a b=true:=by
 have hn:=opsRaw_nodup key l
 rw[opsOf,←sort_done hn]
 refine(insG_fold doneLt (fun _ _ _=>doneLt_trans) List.Pairwise.nil (by simp) ((List.pairwise_map.1 hn).imp fun{a b} hne=>?_)).1
 rcases doneLt_tri a b with h1|h1|h1
 ·exact .inl h1
 ·exact absurd (doneKey_dot h1) hne
 ·exact .inr h1
theorem opsOf_mem {key:ByteArray} {l:List ComT} {x:DoneT}:x∈opsOf key l↔x∈firsts [] (allDone l)∧x.o.key=key:=by
 rw[opsOf,sortDone,List.mem_mergeSort,opsRaw,List.mem_filter,decide_eq_true_eq]
def Apart (l:List ComT):Prop:=∀(i k:Nat) (c d:ComT),k<i→l[i]?=some c→l[k]?=some d→¬(d.place=c.place∧d.when.getD d.place.toNat 0=c.when.getD c.place.toNat 0)
theorem Apart.fun {l:List ComT} (h:Apart l) (hr:∀c∈l,(comFault c).code=0):∀x∈allDone l,∀y∈allDone l,x.d=y.d→x=y:=by
 intro x hx y hy he
 obtain⟨c,hc,o,ho,rfl⟩:=mem_allDone.1 hx
 obtain⟨d,hd,q,hq,rfl⟩:=mem_allDone.1 hy
 obtain⟨i,hi⟩:=List.getElem?_of_mem hc
 obtain⟨k,hk⟩:=List.getElem?_of_mem hd
 simp only[doneOf,dotOf,DotT.mk.injEq]at he
 obtain⟨e1,e2,e3⟩:=he
 have hik:i=k:=by
  rcases Nat.lt_trichotomy i k with hlt|heq|hlt
  ·exact absurd ⟨e1,e2⟩ (h k i d c hlt hk hi)
  ·exact heq
  ·exact absurd ⟨e1.symm,e2.symm⟩ (h i k c d hlt hi hk)
 subst hik
 rw[hi]at hk
 cases hk
 have hp:=right_pair (hr c hc)
 obtain⟨a,ha,rfl⟩:=List.getElem_of_mem ho
 obtain⟨b,hb,rfl⟩:=List.getElem_of_mem hq
 have hab:a=b:=by
  rcases Nat.lt_trichotomy a b with hlt|heq|hlt
  ·have:=List.pairwise_iff_getElem.1 hp a b ha hb hlt
   omega
  ·exact heq
  ·have:=List.pairwise_iff_getElem.1 hp b a hb ha hlt
   omega
 subst hab
 rfl
end Go.Proofs.YtmkapocibaojdaaGreatDoor
end
section
namespace Go.Proofs.YtmkapocibaojdaaGreatDoor
open Go Go.Sx
theorem withinC_fine {L:List PutT} {key:ByteArray} {at':List Int} {p:Nat} (hk:nameOk key=true) (h:∀q∈L,(comFault (oneC q)).code=0∧q.when.length=p):(valFault key (withinC L key at')).code=0:=by
 refine valFault_mk hk (fun c hc=>?_) p fun c hc=>?_
 ·obtain⟨q,hq,rfl⟩:=mem_keyC (List.mem_filter.1 hc).1
  exact(h q hq).1
 ·obtain⟨q,hq,rfl⟩:=mem_keyC (List.mem_filter.1 hc).1
  exact(h q hq).2
theorem withinC_len (L:List PutT) (key:ByteArray) (at':List Int):(withinC L key at').length≤L.length:=
 Nat.le_trans (List.length_filter_le _ _) (keyC_len L key)
noncomputable abbrev chV (b mk md:Nat) (ba:Option Addr) (p nb cb clock:Nat) (es:Array MapEntry) (ks:List ByteArray) (F:ByteArray→Value) (L:List PutT):List Chunk:=[cObj b (.cells #[.int .i64 p,.slice ba nb cb,.map (some mk),.map (some md)] 218 (0,0)),cObj mk (.map es clock),cStar (ks.map fun t=>cAcc (F t) 35 3 ((keyC L t).map eCom)),cMapG md okDot (dotSet (L.map dotP))]
set_option maxHeartbeats 4000000 in
theorem vRead {w:World} {S:Nat→Prop} {M:List Nat} {er:Nat→Addr} {eb:Nat→Array Value×TypeId} {b mk md:Nat} {ba a1:Option Addr} {p nb cb n1 c1 clock:Nat} {base at':List Int} {es:Array MapEntry} {ks:List ByteArray} {F:ByteArray→Value} {L:List PutT} {key:ByteArray} (hC:Rep w S .nilIface (dC er eb))
  (hP:Pre w S M (chV b mk md ba p nb cb clock es ks F L))
  (hb:Rep w S (.slice ba nb cb) (dInts base)) (hbv:vecErr base=0) (hbl:base.length=p) (h1:Rep w S (.slice a1 n1 c1) (dInts at')) (hl1:at'.length≤1000000) (hL:L.length≤300000) (hLr:∀q∈L,(comFault (oneC q)).code=0∧q.when.length=p)
  (hm:MapG (MapKept.IsKey .string) es (strG ks F)) (hnd:ks.Nodup) (hiff:∀t,t∈ks↔keyC L t≠[]) :
  Calls Tryz.prog 95 #[.pointer (some ⟨b,0,none⟩),.string key,.slice a1 n1 c1] w fun e w'=>
   (atErr p base key at'≠0∧Ret M (zero w) S w' e (.tuple #[valZ,.iface 390 (.pointer (some (er (atErr p base key at'))))]) (chV b mk md ba p nb cb clock es ks F L) []) ∨
   (atErr p base key at'=0∧∃ua un uc,Ret M (zero w) S w' e (.tuple #[valA (Sx.valOf key (withinC L key at')) (.slice ua un uc),.nilIface]) (chV b mk md ba p nb cb clock es ks F L) [(.slice ua un uc,dStrs (Sx.valOf key (withinC L key at')).set)]):=by
 have hLv:∀q∈L,vecErr q.when=0∧q.when.length=p:=fun q hq=>⟨(right_of (hLr q hq).1).vec,(hLr q hq).2⟩
 have hvl:=vecErr_len hbv
 refine enG Tryz.func95 bd95 (args:=[.pointer (some ⟨b,0,none⟩),.string key,.slice a1 n1 c1]) (S:=S) (G:=[(_,dC er eb),(_,dInts at'),(_,dInts base)]) (by kernel_rfl) hP (.cons hC (.cons h1 (.cons hb (.nil _ _)))) ?_
 refine J_zero ?_
 refine Zv [.wr 0 [] 0,zR 1] [] [] (fun nu1=>[zP 6 (nu1 0),zV 7 .nilIface]) o0 (fun nu1=>[(nu1 0,.cells #[nI 0,.string (ByteArray.mk #[]),nI 0,.slice none 0 0] 64 (0,0))]) (fun nu1=>?_)
 refine jS [(0,true),(1,true),(2,true),(3,false),(4,true),(5,true),(6,true),(7,true),(8,true)] [] ?_
 refine Ya (Rds 0 3) [0,2] [zP 11 b,zV 12 (.string key),zS 13 a1 n1 c1] ?_
 refine JR_call [] [0,1,2,3] 155 #[.pointer (some (⟨b,0,none⟩)),.string key,.slice a1 n1 c1] (some 14) (by kernel_rfl) (by kernel_rfl) (by decide) (fun w S M hP hG _=>?_)
 refine(vWithinK (key:=key) (hG.at 0 rfl) hP (hG.at 2 rfl) hbv hbl (hG.at 1 rfl) hl1 (by omega) hLv hm hnd hiff).mono ?_
 rintro e1 w1 (⟨hae,hR⟩|⟨hae,ua,un,uc,hR⟩)
 ·refine⟨_,_,_,hR,?_⟩
  try simp only[aQ]
  refine Ya (Rds 4 9) [14,11,12,13] [zS 8 none 0 0,zV 9 (.iface 390 (.pointer (some (er (atErr p base key at')))))] ?_
  try simp only[aQ]
  refine JR_end ?_
  try simp only[aQ]
  refine J_seq ?_
  try simp only[aQ]
  refine J_seq ?_
  try simp only[aQ]
  refine Za [zR 0,zR 1] [] [zB 18 true] ?_
  try simp only[aQ]
  refine cTt ?_
  try simp only[aQ]
  refine J_seq ?_
  try simp only[aQ]
  refine Zm [zR 0,zR 1,.wr 2 (hnO 0 4) 0,zR 3] [(2,[0])] [18,9] (fun _=>[zV 7 (.iface 390 (.pointer (some (er (atErr p base key at')))))]) o0 o0 (fun _=>?_)
  try simp only[aQ]
  refine Yr [(hnO 0 4),[]] (.tuple #[.agg #[nI 0,.string (ByteArray.mk #[]),nI 0,.slice none 0 0],.iface 390 (.pointer (some (er (atErr p base key at'))))]) fun a w s=>?_
  exact .inl ⟨hae,s.retz (by simp) [0,1,2,3] [] rfl rfl⟩
 ·have hnm:nameOk key=true:=by
   cases hn:nameOk key with
   | true=>rfl
   | false=>
    rw[atErr,if_pos hn]at hae
    cases hae
  have hvf:=withinC_fine (key:=key) (at':=at') hnm hLr
  have hwl:=withinC_len L key at'
  have hwm:∀x∈withinC L key at',x.when.length≤1000000∧x.ops.length≤1000000:=fun x hx=>by
   obtain⟨q,hq,rfl⟩:=mem_keyC (List.mem_filter.1 hx).1
   refine⟨?_,by simp[oneC]⟩
   show q.when.length≤1000000
   have:=(hLr q hq).2
   omega
  refine⟨_,_,_,hR,?_⟩
  try simp only[aQ]
  refine Ya (Rds 4 9) [14,11,12,13] [zS 8 ua un uc,zV 9 .nilIface] ?_
  try simp only[aQ]
  refine JR_end ?_
  try simp only[aQ]
  refine J_seq ?_
  try simp only[aQ]
  refine J_seq ?_
  try simp only[aQ]
  refine Za [zR 0,zR 1] [] [zB 18 false] ?_
  try simp only[aQ]
  refine cF ?_
  try simp only[aQ]
  refine J_skip ?_
  try simp only[aQ]
  refine J_seq ?_
  try simp only[aQ]
  refine jT [(0,true),(1,true),(2,false),(3,true),(4,true),(5,false),(6,true)] [] ?_
  refine Ya [zR 0,zR 1] [18,8,9,1] [zV 21 (.string key),zS 22 ua un uc] ?_
  refine JR_callzp [] 105 #[.string key,.slice ua un uc] (some 23) zero_all (by kernel_rfl) (fun w S hG=>?_)
  refine(vOf (key:=key) (hG.at 0 rfl) (hG.at 3 rfl) (by omega) (fun x hx=>(hwm x hx).1) (fun x hx=>(hwm x hx).2)).mono ?_
  rintro e2 w2 (⟨hc,_⟩|⟨hc,va,vn,vc,hR⟩)
  ·exact absurd hvf hc
  refine⟨_,_,_,hR,?_⟩
  try simp only[aQ]
  refine Ym [zR 3,zR 4,.wr 5 (hnO 0 4) 0,zR 6] [23,21,22] (fun _=>[]) (fun _=>[(0,.cells #[nI ((Sx.valOf key (withinC L key at')).kind),.string ((Sx.valOf key (withinC L key at')).text),nI ((Sx.valOf key (withinC L key at')).n),.slice va vn vc] 64 (0,0))]) o0 [] (fun _=>?_)
  try simp only[aQ]
  refine JR_end ?_
  try simp only[aQ]
  refine Yr [(hnO 0 4),[]] (.tuple #[.agg #[nI ((Sx.valOf key (withinC L key at')).kind),.string ((Sx.valOf key (withinC L key at')).text),nI ((Sx.valOf key (withinC L key at')).n),.slice va vn vc],.nilIface]) fun a w s=>?_
  exact .inr ⟨hae,_,_,_,s.retz (by simp) [0,1,2,3] [4] rfl rfl⟩
end Go.Proofs.YtmkapocibaojdaaGreatDoor
end
section
namespace Go.Proofs.YtmkapocibaojdaaGreatDoor
open Go Go.Sx
set_option maxHeartbeats 4000000 in
theorem vVDots {w:World} {S:Nat→Prop} {M:List Nat} {er:Nat→Addr} {eb:Nat→Array Value×TypeId} {b mk md:Nat} {ba a1:Option Addr} {p nb cb n1 c1 clock:Nat} {base at':List Int} {es:Array MapEntry} {ks:List ByteArray} {F:ByteArray→Value} {L:List PutT} {key text:ByteArray} (hC:Rep w S .nilIface (dC er eb))
  (hP:Pre w S M (chV b mk md ba p nb cb clock es ks F L))
  (hb:Rep w S (.slice ba nb cb) (dInts base)) (hbv:vecErr base=0) (hbl:base.length=p) (h1:Rep w S (.slice a1 n1 c1) (dInts at')) (hl1:at'.length≤1000000) (hL:L.length≤300000) (hLr:∀q∈L,(comFault (oneC q)).code=0∧q.when.length=p)
  (hm:MapG (MapKept.IsKey .string) es (strG ks F)) (hnd:ks.Nodup) (hiff:∀t,t∈ks↔keyC L t≠[]) :
  Calls Tryz.prog 138 #[.pointer (some ⟨b,0,none⟩),.string key,.string text,.slice a1 n1 c1] w fun e w'=>
   (atErr p base key at'≠0∧Ret M w S w' e (.tuple #[.slice none 0 0,.iface 390 (.pointer (some (er (atErr p base key at'))))]) (chV b mk md ba p nb cb clock es ks F L) []) ∨
   (atErr p base key at'=0∧∃ua un uc,Ret M w S w' e (.tuple #[.slice ua un uc,.nilIface]) (chV b mk md ba p nb cb clock es ks F L) [(.slice ua un uc,.sl 3 ((dotsOf key text (withinC L key at')).map eDot))]):=by
 have hLv:∀q∈L,vecErr q.when=0∧q.when.length=p:=fun q hq=>⟨(right_of (hLr q hq).1).vec,(hLr q hq).2⟩
 have hvl:=vecErr_len hbv
 refine enG Tryz.func138 bd138 (args:=[.pointer (some ⟨b,0,none⟩),.string key,.string text,.slice a1 n1 c1]) (S:=S) (G:=[(_,dC er eb),(_,dInts at'),(_,dInts base)]) (by kernel_rfl) hP (.cons hC (.cons h1 (.cons hb (.nil _ _)))) ?_
 refine Zs [zR 0,zR 1] [] [zS 8 none 0 0,zV 9 .nilIface] ?_
 refine jS [(0,true),(1,true),(2,true),(3,false),(4,true),(5,true),(6,true),(7,true),(8,true)] [] ?_
 refine Ya (Rds 0 3) [0,3] [zP 13 b,zV 14 (.string key),zS 15 a1 n1 c1] ?_
 refine JR_call [] [0,1,2,3] 155 #[.pointer (some (⟨b,0,none⟩)),.string key,.slice a1 n1 c1] (some 16) (by kernel_rfl) (by kernel_rfl) (by decide) (fun w S M hP hG _=>?_)
 refine(vWithinK (key:=key) (hG.at 0 rfl) hP (hG.at 2 rfl) hbv hbl (hG.at 1 rfl) hl1 (by omega) hLv hm hnd hiff).mono ?_
 rintro e1 w1 (⟨hae,hR⟩|⟨hae,ua,un,uc,hR⟩)
 ·refine⟨_,_,_,hR,?_⟩
  try simp only[aQ]
  refine Ya (Rds 4 9) [16,13,14,15] [zS 10 none 0 0,zV 11 (.iface 390 (.pointer (some (er (atErr p base key at')))))] ?_
  try simp only[aQ]
  refine JR_end ?_
  try simp only[aQ]
  refine J_seq ?_
  try simp only[aQ]
  refine J_seq ?_
  try simp only[aQ]
  refine Za [zR 0,zR 1] [] [zB 20 true] ?_
  try simp only[aQ]
  refine cTt ?_
  try simp only[aQ]
  refine J_seq ?_
  try simp only[aQ]
  refine Za (Rds 0 3) [20,11] [zV 9 (.iface 390 (.pointer (some (er (atErr p base key at')))))] ?_
  try simp only[aQ]
  refine Yr [[],[]] (.tuple #[.slice none 0 0,.iface 390 (.pointer (some (er (atErr p base key at'))))]) fun a w s=>?_
  exact .inl ⟨hae,s.ret (by simp) [0,1,2,3] [] rfl rfl⟩
 ·have hnm:nameOk key=true:=by
   cases hn:nameOk key with
   | true=>rfl
   | false=>
    rw[atErr,if_pos hn]at hae
    cases hae
  have hvf:=withinC_fine (key:=key) (at':=at') hnm hLr
  have hwl:=withinC_len L key at'
  have hwm:∀x∈withinC L key at',x.when.length≤1000000∧x.ops.length≤1000000:=fun x hx=>by
   obtain⟨q,hq,rfl⟩:=mem_keyC (List.mem_filter.1 hx).1
   refine⟨?_,by simp[oneC]⟩
   show q.when.length≤1000000
   have:=(hLr q hq).2
   omega
  refine⟨_,_,_,hR,?_⟩
  try simp only[aQ]
  refine Ya (Rds 4 9) [16,13,14,15] [zS 10 ua un uc,zV 11 .nilIface] ?_
  try simp only[aQ]
  refine JR_end ?_
  try simp only[aQ]
  refine J_seq ?_
  try simp only[aQ]
  refine J_seq ?_
  try simp only[aQ]
  refine Za [zR 0,zR 1] [] [zB 20 false] ?_
  try simp only[aQ]
  refine cF ?_
  try simp only[aQ]
  refine J_skip ?_
  try simp only[aQ]
  refine J_seq ?_
  try simp only[aQ]
  refine jT [(0,true),(1,true),(2,true),(3,false),(4,true),(5,true),(6,true),(7,true)] [] ?_
  refine Ya (Rds 0 3) [20,10,11,1,2] [zV 22 (.string key),zV 23 (.string text),zS 24 ua un uc] ?_
  refine Yc 180 #[.string key,.string text,.slice ua un uc] (some 25) fun w S hG=>?_
  refine(vDots (key:=key) (text:=text) (hG.at 0 rfl) (hG.at 3 rfl) (by omega) (fun x hx=>(hwm x hx).1) (fun x hx=>(hwm x hx).2)).mono ?_
  rintro e2 w2 (⟨hc,_⟩|⟨hc,va,vn,vc,hR⟩)
  ·exact absurd hvf hc
  refine⟨_,_,_,hR,?_⟩
  try simp only[aQ]
  refine Ya (Rds 4 8) [25,22,23,24] [zS 8 va vn vc] ?_
  try simp only[aQ]
  refine JR_end ?_
  try simp only[aQ]
  refine Yr [[],[]] (.tuple #[.slice va vn vc,.nilIface]) fun a w s=>?_
  exact .inr ⟨hae,_,_,_,s.ret (by simp) [0,1,2,3] [4] rfl rfl⟩
end Go.Proofs.YtmkapocibaojdaaGreatDoor
end
section
namespace Go.Sx
open Go
theorem Rep.take {w:World} {S:Nat→Prop} {a:Option Addr} {n c k:Nat} {rows:List (List D)} (h:Rep w S (.slice a n c) (.sl k rows)) {i c':Nat} (hi:i≤n) (hc':n≤c'):Rep w S (.slice a i c') (.sl k (rows.take i)):=by
 have hn:=h.slen
 cases h with
 | nil=>
  obtain rfl:i=0:=by omega
  exact .nil
 | sl u hb hS hc hk hl hcell hrep=>
  have hlen:(rows.take i).length=i:=by rw[List.length_take];omega
  have hx:=Rep.sl (rows:=rows.take i) (cap:=c') u hb hS (by rw[hlen];omega) hk (fun row hr=>hl row (List.mem_of_mem_take hr)) (fun p j hp hj=>hcell p j (by rw[hlen]at hp;omega) hj) (fun p j row d hp hj=>hrep p j row d (by
   rw[List.getElem?_take]at hp
   split at hp
   ·exact hp
   ·cases hp) hj)
  rwa[hlen]at hx
theorem Rep.drop {w:World} {S:Nat→Prop} {b off n c k:Nat} {rows:List (List D)} (h:Rep w S (.slice (some ⟨b,off,none⟩) n c) (.sl k rows)) {i c':Nat} (hi:i≤n) (hc':n - i≤c'):Rep w S (.slice (some ⟨b,off+i*k,none⟩) (n - i) c') (.sl k (rows.drop i)):=by
 have hn:=h.slen
 cases h with
 | nil=>
  obtain rfl:i=0:=by omega
  exact .nil
 | sl u hb hS hc hk hl hcell hrep=>
  have hlen:(rows.drop i).length=rows.length - i:=by rw[List.length_drop]
  have hx:=Rep.sl (rows:=rows.drop i) (cap:=c') (off:=off+i*k) (fun p j=>u (p+i) j) hb hS (by rw[hlen];omega) hk (fun row hr=>hl row (List.mem_of_mem_drop hr)) (fun p j hp hj=>by
   have h1:=hcell (p+i) j (by rw[hlen]at hp;omega) hj
   rw[show off+i*k+(p*k+j)=off+((p+i)*k+j)by rw[Nat.add_mul];omega]
   exact h1) (fun p j row d hp hj=>hrep (p+i) j row d (by
   rw[List.getElem?_drop]at hp
   rwa[Nat.add_comm]) hj)
  rwa[hlen]at hx
theorem hit {k:Int}:∀{L:List MsgT} {i:Nat} {x:MsgT},L[i]?=some x→x.seq=k→(∀m∈L.take i,m.seq≠k)→kept L k=some x∧L.take i++L.drop (i+1)=dropK L k
 | [],i,x,h,_,_=>by simp at h
 | m::L,0,x,h,hs,_=>by
  simp only[List.getElem?_cons_zero,Option.some.injEq]at h
  subst h
  simp[kept,dropK,hs]
 | m::L,i+1,x,h,hs,hn=>by
  have hm:m.seq≠k:=hn m (by simp)
  obtain⟨h1,h2⟩:=hit (by simpa using h) hs fun y hy=>hn y (by simp[hy])
  refine⟨by simpa [kept,hm]using h1,?_⟩
  simp only[List.take_succ_cons,List.drop_succ_cons,List.cons_append,h2]
  simp[dropK,hm]
end Go.Sx
end
section
namespace Go.Proofs.YtmkapocibaojdaaGreatDoor
open Go Go.Sx
def keepL (L:List MsgT) (seq:Int):List MsgT:=L.filter fun m=>decide (seq<m.seq)
theorem keepL_snoc {L:List MsgT} {seq:Int} {x:MsgT}:keepL (L++[x]) seq=keepL L seq++if seq<x.seq then [x]else []:=by
 unfold keepL
 rw[List.filter_append]
 congr 1
 by_cases h:seq<x.seq <;> simp[h]
theorem set_take {L:List MsgT} {i:Nat} {x:MsgT} (hi:i<L.length):(L.set i x).take (i+1)=L.take i++[x]:=by
 rw[List.take_add_one,List.take_set_of_le (Nat.le_refl _)]
 simp[hi]
theorem set_drop {L:List MsgT} {i j:Nat} {x:MsgT} (hi:i<j):(L.set i x).drop j=L.drop j:=List.drop_set_of_lt hi
structure DelInv (L:List MsgT) (seq:Int) (i j:Int) (Lc:List MsgT):Prop where
 len:Lc.length=L.length
 take:Lc.take i.toNat=keepL (L.take j.toNat) seq
 drop:Lc.drop j.toNat=L.drop j.toNat
theorem DelInv.at {L Lc:List MsgT} {seq i j:Int} {x:MsgT} (h:DelInv L seq i j Lc) (hx:L[j.toNat]?=some x):Lc[j.toNat]?=some x:=by
 have h1:(Lc.drop j.toNat)[0]?=(L.drop j.toNat)[0]?:=by rw[h.drop]
 rw[List.getElem?_drop,List.getElem?_drop,Nat.add_zero]at h1
 rw[h1,hx]
theorem DelInv.skip {L Lc:List MsgT} {seq i j:Int} {x:MsgT} (h:DelInv L seq i j Lc) (hj:0≤j) (hx:L[j.toNat]?=some x) (hk:¬seq<x.seq):DelInv L seq i (j+1) Lc:=by
 refine⟨h.len,?_,?_⟩
 ·rw[h.take,←take_snoc hj hx,keepL_snoc,if_neg hk,List.append_nil]
 ·rw[show(j+1).toNat=j.toNat+1 by omega,←List.drop_drop,←List.drop_drop,h.drop]
theorem DelInv.keep {L Lc:List MsgT} {seq i j:Int} {x:MsgT} (h:DelInv L seq i j Lc) (hi:0≤i) (hij:i<j) (hj:j<L.length) (hx:L[j.toNat]?=some x) (hk:seq<x.seq):DelInv L seq (i+1) (j+1) (Lc.set i.toNat x):=by
 refine⟨by rw[List.length_set];exact h.len,?_,?_⟩
 ·rw[show(i+1).toNat=i.toNat+1 by omega,set_take (by have:=h.len;omega),h.take,←take_snoc (by omega) hx,keepL_snoc,if_pos hk]
 ·rw[set_drop (by omega),show(j+1).toNat=j.toNat+1 by omega,←List.drop_drop,←List.drop_drop,h.drop]
end Go.Proofs.YtmkapocibaojdaaGreatDoor
end
section
namespace Go.Proofs.YtmkapocibaojdaaGreatDoor
open Go Go.Sx
abbrev sCells (fm to sh q t:Int) (l:Value):Obj:=.cells #[.int .i64 fm,.int .i64 to,.int .i64 sh,.int .i64 q,.int .i64 t,l] 224 (0,0)
set_option maxHeartbeats 4000000 in
theorem newSender {w0:World} {S:Nat→Prop} {er:Nat→Addr} {fm to sh:Int} (hE:AllG w0 S (globs er)) (h0:wayErr fm to sh=0) :
  Calls Tryz.prog 58 #[.int .i64 fm,.int .i64 to,.int .i64 sh] w0 fun e w'=>∃b,
   Ret [] w0 S w' e (.tuple #[.pointer (some ⟨b,0,none⟩),.nilIface]) [cObj b (sCells fm to sh 0 0 (.slice none 0 0))] []:=by
 refine epG Tryz.func58 bd58 (args:=[.int .i64 fm,.int .i64 to,.int .i64 sh]) (G:=globs er) (by kernel_rfl) hE ?_
 refine Zs [zR 0,zR 1] [] [zV 6 (.pointer none),zV 7 .nilIface] ?_
 refine jS [(0,true),(1,true),(2,true),(3,false),(4,true),(5,true),(6,true),(7,false),(8,false),(9,true)] [] ?_
 refine Ya (Rds 0 3) [0,1,2] [zI 11 fm,zI 12 to,zI 13 sh] ?_
 refine Yc 122 #[nI fm,nI to,nI sh] (some 14) fun w S hG=>?_
 refine(newWay (hG.pick [0,1,2] rfl)).mono ?_
 rintro e1 w1 (⟨h1,hR⟩|⟨h1,hR⟩)
 ·exact absurd h0 h1
 refine⟨_,_,_,hR,?_⟩
 try simp only[aQ]
 refine Ym (Rds 4 7++[.wr 7 [] 0,.wr 8 (hnO 0 3) 0,zR 9]) [14,11,12,13] (fun nu1=>[zP 8 (nu1 0),zV 9 .nilIface]) o0 (fun nu1=>[(nu1 0,.cells #[nI fm,nI to,nI sh] 220 (0,0))]) [] (fun nu1=>?_)
 refine JR_end (J_seq ?_)
 refine Zs [zR 0,zR 1] [] [zB 18 false] ?_
 refine cF ?_
 refine J_skip ?_
 refine Zv [.rd 0 (hnO 0 3) 0 0,zR 1,.wr 2 [] 0,zR 3,zR 4] [] [18,8,9] (fun nu2=>[zP 6 (nu2 0)]) o0 (fun nu2=>[(nu2 0,.cells #[nI fm,nI to,nI sh,nI 0,nI 0,.slice none 0 0] 224 (0,0))]) (fun nu2=>?_)
 refine Yr [[],[]] (.tuple #[.pointer (sA (nu2 0) 0),.nilIface]) fun a w s=>?_
 exact⟨_,(s.hide 1 rfl).ret (by simp) [0] [] rfl rfl⟩
set_option maxHeartbeats 4000000 in
theorem snext {w0:World} {S:Nat→Prop} {M:List Nat} {b:Nat} {fm to sh q t time:Int} {beat:Bool} {a:Option Addr} {k cc:Nat} {L:List MsgT} {c:ComT} {a1 a2:Option Addr} {n1 c1 n2 c2:Nat}
  (hP:Pre w0 S M [cObj b (sCells fm to sh q t (.slice a k cc)),cAcc (.slice a k cc) 62 9 (L.map eMsg)]) (h1:Rep w0 S (.slice a1 n1 c1) (dInts c.when)) (h2:Rep w0 S (.slice a2 n2 c2) (.sl 7 (c.ops.map eOp))) (hl1:c.when.length≤1000000) (hl2:c.ops.length≤1000000) (hl3:∀o∈c.ops,o.dots.length≤1000000)
  (hq0:0≤q) (hq1:q<1000000) (hL:L.length<1000000) :
  Calls Tryz.prog 149 #[.pointer (some ⟨b,0,none⟩),.int .i64 time,.agg #[.slice a1 n1 c1,.int .i64 c.place,.slice a2 n2 c2],.bool beat] w0 fun e w'=>∃a' k' c' u1 d1 u2 d2,
   Ret M w0 S w' e (.agg #[.int .i64 fm,.int .i64 to,.int .i64 sh,.int .i64 (q+1),.int .i64 time,.bool beat,.slice u1 n1 d1,.int .i64 c.place,.slice u2 n2 d2])
    [cObj b (sCells fm to sh (q+1) time (.slice a' k' c')),cAcc (.slice a' k' c') 62 9 ((L++[(⟨fm,to,sh,q+1,time,beat,c⟩:MsgT)]).map eMsg)] [(.slice u1 n1 d1,dInts c.when),(.slice u2 n2 d2,.sl 7 (c.ops.map eOp))]:=by
 refine enG Tryz.func149 bd149 (args:=[.pointer (some ⟨b,0,none⟩),.int .i64 time,.agg #[.slice a1 n1 c1,.int .i64 c.place,.slice a2 n2 c2],.bool beat]) (S:=S) (C:=[cObj b (sCells fm to sh q t (.slice a k cc)),cAcc (.slice a k cc) 62 9 (L.map eMsg)]) (G:=[(_,dInts c.when),(_,.sl 7 (c.ops.map eOp))]) (by kernel_rfl) hP (.cons h1 (.cons h2 (.nil _ _))) ?_
 refine J_show 0 rfl ?_
 refine J_stpx (stp_acclen 0 rfl) fun _ hk=>?_
 rw[List.length_map]at hk
 refine Zv [.wr 0 [] 0,.wr 1 [] 0] [] [2] (fun nu1=>[zP 6 (nu1 0),zP 8 (nu1 1)]) o0 (fun nu1=>[(nu1 0,.cells #[.slice a1 n1 c1,nI c.place,.slice a2 n2 c2] 35 (0,0)),(nu1 1,.cells #[nI 0,nI 0,nI 0,nI 0,nI 0,.bool false,.slice none 0 0,nI 0,.slice none 0 0] 62 (0,0))]) (fun nu1=>?_)
 refine Zu (Rds 0 3++[.rd 3 [.o 0 none] 0 0,.rd 4 [] 0 1,zR 5,zR 6,.wr 7 [.o 0 none] 0]) [(7,[0])] [] (fun _=>[]) (fun _=>[(0,.cells #[nI fm,nI to,nI sh,nI (q+1),nI t,.slice a k cc] 224 (0,0))]) o0 (fun _=>(oC (show IntKind.i64.wrap (q+1)=q+1 from wrap_i64 (by omega) (by omega)) oN)) (fun _=>?_)
 refine Zv (Rds 0 4++[.wr 4 [.o 0 none] 0]) [(4,[0])] [] (fun _=>[]) (fun _=>[(0,.cells #[nI fm,nI to,nI sh,nI (q+1),nI time,.slice a k cc] 224 (0,0))]) o0 (fun _=>?_)
 refine Zv (Rds 0 4++[.rd 4 [.o 0 none] 0 0]++Rds 5 9++[.rd 9 [.o 0 none] 0 0]++Rds 10 14++[.rd 14 [.o 0 none] 0 0]++Rds 15 18++[.rd 18 [.o 0 none] 0 0,zR 19,zR 20,.rd 21 (hnO 1 3) 0 0,zR 22,.wr 23 [] 0,.wr 24 (hnO 3 9) 0]) [(24,[])] [6,1,3] (fun nu2=>[zP 9 (nu2 0)]) o0 (fun nu2=>[(nu2 0,.cells #[nI fm,nI to,nI sh,nI (q+1),nI time,.bool beat,.slice a1 n1 c1,nI c.place,.slice a2 n2 c2] 62 (0,0))]) (fun nu2=>?_)
 refine jS [(0,true),(1,true),(2,true),(3,true),(4,true),(5,true),(6,false),(7,false),(8,false),(9,true),(10,true),(11,false)] [(8,[]),(11,[0])] ?_
 refine Ya (Rds 0 4++[.rd 4 [.o 0 none] 0 0,.rd 5 (hnO 3 9) 0 0]) [0] [zP 44 b,zS 48 a k cc,zV 49 (.agg #[nI fm,nI to,nI sh,nI (q+1),nI time,.bool beat,.slice a1 n1 c1,nI c.place,.slice a2 n2 c2])] ?_
 refine Yc 153 #[.agg #[nI fm,nI to,nI sh,nI (q+1),nI time,.bool beat,.slice a1 n1 c1,nI c.place,.slice a2 n2 c2]] (some 50) fun w S hG=>?_
 refine(sOwn (m:=⟨fm,to,sh,q+1,time,beat,c⟩) (hG.at 0 rfl) (hG.at 1 rfl) hl1 hl2 hl3).mono ?_
 rintro e1 w1 ⟨u1,d1,u2,d2,hR⟩
 refine⟨_,_,_,hR,?_⟩
 try simp only[aQ]
 refine Ym [.wr 7 [] 0] [50,49] (fun nu3=>[zS 51 (sA (nu3 0) 0) 1 1]) o0 (fun nu3=>[(nu3 0,.cells #[nI fm,nI to,nI sh,nI (q+1),nI time,.bool beat,.slice u1 n1 d1,nI c.place,.slice u2 n2 d2] 62 (0,0))]) [(8,[]),(11,[0])] (fun nu3=>?_)
 refine JR_appm 0 56 62 9 104 (.agg #[.int .i64 0,.int .i64 0,.int .i64 0,.int .i64 0,.int .i64 0,.bool false,.slice none 0 0,.int .i64 0,.slice none 0 0]) (a0:=a) (len:=k) (cap0:=cc) (ax:=(some (⟨nu3 0,0,none⟩))) (m:=1) (c:=1) (dst:=(some 52)) [(⟨fm,to,sh,q+1,time,beat,c⟩:MsgT)] (by kernel_rfl) (by kernel_rfl) (by kernel_rfl) (by kernel_rfl) rfl (by decide) rfl (fun _ _ _ s=>src_one s 4 rfl rfl ⟨.inl ⟨rfl,rfl⟩,⟨.inl ⟨rfl,rfl⟩,⟨.inl ⟨rfl,rfl⟩,⟨.inl ⟨rfl,rfl⟩,⟨.inl ⟨rfl,rfl⟩,⟨.inl ⟨rfl,rfl⟩,⟨.inr (.inl (List.mem_of_getElem? (i:=2) rfl)),⟨.inl ⟨rfl,rfl⟩,⟨.inr (.inl (List.mem_of_getElem? (i:=3) rfl)),trivial⟩⟩⟩⟩⟩⟩⟩⟩⟩) (by simp only[maxLen];omega) (by omega) (fun av1 cv1=>?_)
 try simp only[aQ]
 refine Ym [zR 9,zR 10,.wr 11 [.o 0 none] 0] [52,51,44,48] (fun _=>[]) (fun _=>[(0,.cells #[nI fm,nI to,nI sh,nI (q+1),nI time,.slice av1 (k+1) cv1] 224 (0,0))]) o0 [] (fun _=>?_)
 try simp only[aQ]
 refine JR_end ?_
 try simp only[aQ]
 refine J_seq ?_
 try simp only[aQ]
 refine jT [(0,true),(1,false),(2,false)] [] ?_
 refine Ya [.rd 0 (hnO 3 9) 0 0] [9] [zV 55 (.agg #[nI fm,nI to,nI sh,nI (q+1),nI time,.bool beat,.slice a1 n1 c1,nI c.place,.slice a2 n2 c2])] ?_
 refine Yc 153 #[.agg #[nI fm,nI to,nI sh,nI (q+1),nI time,.bool beat,.slice a1 n1 c1,nI c.place,.slice a2 n2 c2]] (some 56) fun w S hG=>?_
 refine(sOwn (m:=⟨fm,to,sh,q+1,time,beat,c⟩) (hG.at 0 rfl) (hG.at 1 rfl) hl1 hl2 hl3).mono ?_
 rintro e2 w2 ⟨u3,d3,u4,d4,hR⟩
 refine⟨_,_,_,hR,?_⟩
 try simp only[aQ]
 refine Ym [.wr 2 (hnO 2 9) 0] [56,55] (fun _=>[]) (fun _=>[(2,.cells #[nI fm,nI to,nI sh,nI (q+1),nI time,.bool beat,.slice u3 n1 d3,nI c.place,.slice u4 n2 d4] 62 (0,0))]) o0 [] (fun _=>?_)
 try simp only[aQ]
 refine JR_end ?_
 try simp only[aQ]
 refine Yr [(hnO 2 9)] (.agg #[nI fm,nI to,nI sh,nI (q+1),nI time,.bool beat,.slice u3 n1 d3,nI c.place,.slice u4 n2 d4]) fun a w s=>?_
 exact⟨_,_,_,u3,d3,u4,d4,(s.hide 0 rfl).ret (by simp) [1,0] [4,5] rfl rfl⟩
end Go.Proofs.YtmkapocibaojdaaGreatDoor
end
section
namespace Go.Proofs.YtmkapocibaojdaaGreatDoor
open Go Go.Sx
def FErrV (er:Nat→Addr) (f:FT) (v:Value) (G:List (Value×D)):Prop:=
 (f.at' = -1∧ErrIs 390 er f.code v∧G=[]) ∨
 (1≤f.code∧0≤f.at'∧∃pb,v=.iface 202 (.pointer (some ⟨pb,0,none⟩))∧G=[(.pointer (some ⟨pb,0,none⟩),.ptr [.v (.int .i64 f.at'),.v (.iface 390 (.pointer (some (er f.code))))])])
def scomErr (c:ComT) (fm t:Int):FT:=
 if (comFault c).code≠0 then comFault c
 else if c.place≠fm then ⟨3,-1⟩
 else if c.when.getD c.place.toNat 0≤t then ⟨9,-1⟩
 else ⟨0,-1⟩
theorem comFault_ok {c:ComT} (h:(comFault c).code=0):comFault c=⟨0,-1⟩∧0≤c.place∧c.place<c.when.length:=by
 unfold comFault at h ⊢
 split at h
 ·rename_i h1;exact absurd h h1
 rw[if_neg (by assumption)]
 split at h
 ·cases h
 rw[if_neg (by assumption)]
 rename_i h2
 split at h
 ·cases h
 rw[if_neg (by assumption)]
 split at h
 ·cases h
 rw[if_neg (by assumption)]
 refine⟨?_,by omega,by omega⟩
 obtain⟨h3,h4⟩:=opsFault_from (l:=c.ops) (places:=c.when.length) c.ops.length 0 c.ops.length (Nat.zero_le _) fun j _ hj=>by
  have key:∀n k,(opsFault c.ops c.when.length n k).code=0→∀j,k≤j→j<k+n→opErrAt c.ops c.when.length j=0:=by
   intro n
   induction n with
   | zero=>intro k _ j h1 h2;omega
   | succ n ih=>
    intro k hk j h1 h2
    unfold opsFault at hk
    split at hk
    ·rename_i h0
     rcases Nat.eq_or_lt_of_le h1 with rfl|hlt
     ·exact h0
     ·exact ih (k+1) hk j hlt (by omega)
    ·rename_i h0
     exact absurd hk h0
  exact key _ _ h j (Nat.zero_le _) (by omega)
 exact h3 (by omega)
abbrev zMsg:Value:=.agg #[.int .i64 0,.int .i64 0,.int .i64 0,.int .i64 0,.int .i64 0,.bool false,.slice none 0 0,.int .i64 0,.slice none 0 0]
set_option maxHeartbeats 2000000 in
theorem scommit {w0:World} {S:Nat→Prop} {M:List Nat} {er:Nat→Addr} {eb:Nat→Array Value×TypeId} {b:Nat} {fm to sh q t:Int} {a:Option Addr} {k cc:Nat} {L:List MsgT} {c:ComT} {a1 a2:Option Addr} {n1 c1 n2 c2:Nat} (hC:Rep w0 S .nilIface (dC er eb))
  (hP:Pre w0 S M [cObj b (sCells fm to sh q t (.slice a k cc)),cAcc (.slice a k cc) 62 9 (L.map eMsg)]) (h1:Rep w0 S (.slice a1 n1 c1) (dInts c.when)) (h2:Rep w0 S (.slice a2 n2 c2) (.sl 7 (c.ops.map eOp))) (hl1:c.when.length≤1000000) (hl2:c.ops.length≤1000000) (hl3:∀o∈c.ops,o.dots.length≤1000000)
  (hq0:0≤q) (hq1:q<1000000) (hL:L.length<1000000) :
  Calls Tryz.prog 88 #[.pointer (some ⟨b,0,none⟩),.agg #[.slice a1 n1 c1,.int .i64 c.place,.slice a2 n2 c2]] w0 fun e w'=>
   ((scomErr c fm t).code≠0∧∃v G',Ret M w0 S w' e (.tuple #[zMsg,v]) [cObj b (sCells fm to sh q t (.slice a k cc)),cAcc (.slice a k cc) 62 9 (L.map eMsg)] G'∧FErrV er (scomErr c fm t) v G') ∨
   (scomErr c fm t=⟨0,-1⟩∧∃a' k' c' u1 d1 u2 d2,
   Ret M w0 S w' e (.tuple #[.agg #[.int .i64 fm,.int .i64 to,.int .i64 sh,.int .i64 (q+1),.int .i64 (c.when.getD c.place.toNat 0),.bool false,.slice u1 n1 d1,.int .i64 c.place,.slice u2 n2 d2],.nilIface])
    [cObj b (sCells fm to sh (q+1) (c.when.getD c.place.toNat 0) (.slice a' k' c')),cAcc (.slice a' k' c') 62 9 ((L++[(⟨fm,to,sh,q+1,c.when.getD c.place.toNat 0,false,c⟩:MsgT)]).map eMsg)] [(.slice u1 n1 d1,dInts c.when),(.slice u2 n2 d2,.sl 7 (c.ops.map eOp))]):=by
 obtain rfl:=rep_ints_len h1
 refine enG Tryz.func88 bd88 (args:=[.pointer (some ⟨b,0,none⟩),.agg #[.slice a1 c.when.length c1,.int .i64 c.place,.slice a2 n2 c2]]) (S:=S) (C:=[cObj b (sCells fm to sh q t (.slice a k cc)),cAcc (.slice a k cc) 62 9 (L.map eMsg)]) (G:=[(_,dC er eb),(_,dInts c.when),(_,.sl 7 (c.ops.map eOp))]) (by kernel_rfl) hP (.cons hC (.cons h1 (.cons h2 (.nil _ _)))) ?_
 refine J_show 0 rfl ?_
 refine J_stp (stp_all 0 [2,8] rfl rfl) ?_
 refine J_glob 3 rfl (fun csg1 tyg1 fzg1 hglob1=>?_)
 refine J_glob 4 rfl (fun csg2 tyg2 fzg2 hglob2=>?_)
 try simp only[aQ]
 refine Zv [.wr 0 [] 0,.wr 1 [] 0,zR 2] [] [1] (fun nu1=>[zP 3 (nu1 0),zP 4 (nu1 1),zV 5 .nilIface]) o0 (fun nu1=>[(nu1 0,.cells #[.slice a1 c.when.length c1,nI c.place,.slice a2 n2 c2] 35 (0,0)),(nu1 1,.cells #[nI 0,nI 0,nI 0,nI 0,nI 0,.bool false,.slice none 0 0,nI 0,.slice none 0 0] 62 (0,0))]) (fun nu1=>?_)
 refine J_seq ?_
 refine jS [(0,true),(1,false),(2,true)] [] ?_
 refine Ya [.rd 0 (hnO 1 3) 0 0] [] [zV 7 (.agg #[.slice a1 c.when.length c1,nI c.place,.slice a2 n2 c2])] ?_
 refine Yc 85 #[.agg #[.slice a1 c.when.length c1,nI c.place,.slice a2 n2 c2]] (some 8) fun w S hG=>?_
 refine(checkCommit (c:=c) (hG.at 0 rfl) (hG.at 1 rfl) (hG.at 2 rfl) hl1 hl2).mono ?_
 rintro e1 w1 (⟨hat,v,hR,hv⟩|⟨hc1,hc2,pb,hR⟩)
 ·refine⟨_,_,_,hR,?_⟩
  obtain⟨hc0,rfl⟩|⟨hc0,rfl⟩:=hv
  ·obtain⟨hcf,hp0,hp1⟩:=comFault_ok hc0
   try simp only[aQ]
   refine Ya [zR 2] [8,7] [zV 6 .nilIface] ?_
   refine JR_end ?_
   refine Zs [zR 0,zR 1] [] [zB 10 false] ?_
   refine cF ?_
   refine J_skip (J_seq ?_)
   refine Zs ([zR 0,.rd 1 [.o 1 none] 0 0]++Rds 2 6++[.rd 6 [.o 0 none] 0 0,zR 7]) [10,6] [zB 20 (c.place != fm)] ?_
   have hcc:¬((comFault c).code≠0):=by simp[hc0]
   refine cC (t:=c.place != fm) (fun hpl=>?_) (fun hpl=>?_)
   ·have e:scomErr c fm t=⟨3,-1⟩:=by rw[scomErr,if_neg hcc,if_pos (by simpa using hpl)]
    rw[e]
    refine Zu [zR 0,.rd 1 [.r 0 (some (.iface 390 (.pointer (some (er 3)))))] 0 0,.wr 2 (hnO 2 9) 0,zR 3] [(2,[2])] [20] (fun _=>[zV 5 (.iface 390 (.pointer (some (er 3))))]) o0 o0 (fun _=>(oC hglob1 oN)) (fun _=>?_)
    refine Yr [(hnO 2 9),[]] (.tuple #[.agg #[nI 0,nI 0,nI 0,nI 0,nI 0,.bool false,.slice none 0 0,nI 0,.slice none 0 0],.iface 390 (.pointer (some (er 3)))]) fun a w s=>?_
    exact .inl ⟨by decide,_,_,(s.hide 0 rfl).ret (by simp) [1,0] [] rfl rfl,.inl ⟨rfl,.inr ⟨by decide,rfl⟩,rfl⟩⟩
   have hpl2:¬c.place≠fm:=by simpa using hpl
   obtain⟨t1,ht1⟩:∃t1,c.when[c.place.toNat]?=some t1:=⟨_,List.getElem?_eq_getElem (by omega)⟩
   have hgd:c.when.getD c.place.toNat 0=t1:=by rw[List.getD_eq_getElem?_getD,ht1];rfl
   rw[hgd]
   refine J_read0 1 rfl c.place.toNat (map_at ht1) (by kernel_rfl) (fun b1 off1 cs1 ty1 fz1 ha1 hrd1=>?_)
   cases ha1
   have hrd1_0:=rd0 (hrd1 0 _ rfl)
   try simp only[aQ]
   refine J_skip (J_seq ?_)
   refine Zt ([zR 0,.rd 1 [.o 1 none] 0 0,zR 2,.rd 3 [.o 1 none] 0 0,.rd 4 [] 0 2,.rd 5 [.r 2 (some (nI t1))] 0 0]++Rds 6 9++[.rd 9 [.o 0 none] 0 0,zR 10]) [20] [zB 33 (decide (t1≤t))] (oC hp0 (oC hp1 (oC hrd1_0 oN))) ?_
   refine cC (t:=decide (t1≤t)) (fun hold=>?_) (fun hold=>?_)
   ·have e:scomErr c fm t=⟨9,-1⟩:=by rw[scomErr,if_neg hcc,if_neg hpl2,hgd,if_pos (by simpa using hold)]
    rw[e]
    refine Zu [zR 0,.rd 1 [.r 1 (some (.iface 390 (.pointer (some (er 9)))))] 0 0,.wr 2 (hnO 2 9) 0,zR 3] [(2,[2])] [33] (fun _=>[zV 5 (.iface 390 (.pointer (some (er 9))))]) o0 o0 (fun _=>(oC hglob2 oN)) (fun _=>?_)
    refine Yr [(hnO 2 9),[]] (.tuple #[.agg #[nI 0,nI 0,nI 0,nI 0,nI 0,.bool false,.slice none 0 0,nI 0,.slice none 0 0],.iface 390 (.pointer (some (er 9)))]) fun a w s=>?_
    exact .inl ⟨by decide,_,_,(s.hide 0 rfl).ret (by simp) [1,0] [] rfl rfl,.inl ⟨rfl,.inr ⟨by decide,rfl⟩,rfl⟩⟩
   have e:scomErr c fm t=⟨0,-1⟩:=by rw[scomErr,if_neg hcc,if_neg hpl2,hgd,if_neg (by simpa using hold)]
   refine J_skip (J_seq ?_)
   refine J_hide 0 rfl ?_
   try simp only[aQ]
   refine jT [(0,true),(1,true),(2,true),(3,true),(4,true),(5,true),(6,true),(7,true),(8,false),(9,false),(10,true)] [(8,[]),(9,[1])] ?_
   refine Yp [zR 0,zR 1,.rd 2 [.o 0 none] 0 0,zR 3,.rd 4 [.o 0 none] 0 0,.rd 5 [] 0 2,.rd 6 [.r 2 (some (nI t1))] 0 0,.rd 7 (hnO 0 3) 0 0] [33,3,0] [zP 36 b,zI 42 t1,zV 43 (.agg #[.slice (sA b1 off1) c.when.length c1,nI c.place,.slice a2 n2 c2])] (oC hp0 (oC hp1 (oC hrd1_0 oN))) ?_
   refine JR_call [] [1,0] 149 #[.pointer (some (⟨b,0,none⟩)),.int .i64 t1,.agg #[.slice (some (⟨b1,off1,none⟩)) c.when.length c1,.int .i64 c.place,.slice a2 n2 c2],.bool false] (some 44) (by kernel_rfl) (by kernel_rfl) (by decide) (fun w S M hP hG _=>?_)
   refine(snext (c:=c) hP (hG.at 1 rfl) (hG.at 2 rfl) hl1 hl2 hl3 hq0 hq1 hL).mono ?_
   rintro e2 w2 ⟨a',k',c',u1,d1,u2,d2,hR⟩
   refine⟨_,_,_,hR,?_⟩
   try simp only[aQ]
   refine Ym [.wr 9 (hnO 1 9) 0,zR 10] [44,36,42,43] (fun _=>[]) (fun _=>[(1,.cells #[nI fm,nI to,nI sh,nI (q+1),nI t1,.bool false,.slice u1 c.when.length d1,nI c.place,.slice u2 n2 d2] 62 (0,0))]) o0 [] (fun _=>?_)
   try simp only[aQ]
   refine JR_end ?_
   try simp only[aQ]
   refine Yr [(hnO 1 9),[]] (.tuple #[.agg #[nI fm,nI to,nI sh,nI (q+1),nI t1,.bool false,.slice u1 c.when.length d1,nI c.place,.slice u2 n2 d2],.nilIface]) fun a w s=>?_
   exact .inr ⟨e,a',k',c',u1,d1,u2,d2,s.ret (by simp) [0,1] [5,6] rfl rfl⟩
  ·have e:scomErr c fm t=comFault c:=by rw[scomErr,if_pos hc0]
   rw[e]
   try simp only[aQ]
   refine Ya [zR 2] [8,7] [zV 6 (.iface 390 (.pointer (some (er (comFault c).code))))] ?_
   refine JR_end ?_
   refine Zs [zR 0,zR 1] [] [zB 10 true] ?_
   refine cTt ?_
   refine Zv [zR 0,zR 1,.wr 2 (hnO 2 9) 0,zR 3] [(2,[2])] [10,6] (fun _=>[zV 5 (.iface 390 (.pointer (some (er (comFault c).code))))]) o0 o0 (fun _=>?_)
   refine Yr [(hnO 2 9),[]] (.tuple #[.agg #[nI 0,nI 0,nI 0,nI 0,nI 0,.bool false,.slice none 0 0,nI 0,.slice none 0 0],.iface 390 (.pointer (some (er (comFault c).code)))]) fun a w s=>?_
   exact .inl ⟨hc0,_,_,(s.hide 0 rfl).ret (by simp) [1,0] [] rfl rfl,.inl ⟨hat,.inr ⟨hc0,rfl⟩,rfl⟩⟩
 ·refine⟨_,_,_,hR,?_⟩
  have hc0:(comFault c).code≠0:=by omega
  have e:scomErr c fm t=comFault c:=by rw[scomErr,if_pos hc0]
  rw[e]
  try simp only[aQ]
  refine Ya [zR 2] [8,7] [zV 6 (.iface 202 (.pointer (sA pb 0)))] ?_
  refine JR_end ?_
  refine Zs [zR 0,zR 1] [] [zB 10 true] ?_
  refine cTt ?_
  refine Zv [zR 0,zR 1,.wr 2 (hnO 2 9) 0,zR 3] [(2,[2])] [10,6] (fun _=>[zV 5 (.iface 202 (.pointer (sA pb 0)))]) o0 o0 (fun _=>?_)
  refine Yr [(hnO 2 9),[]] (.tuple #[.agg #[nI 0,nI 0,nI 0,nI 0,nI 0,.bool false,.slice none 0 0,nI 0,.slice none 0 0],.iface 202 (.pointer (sA pb 0))]) fun a w s=>?_
  exact .inl ⟨hc0,_,_,(s.hide 0 rfl).ret (by simp) [1,0] [5] rfl rfl,.inr ⟨hc1,hc2,pb,rfl,rfl⟩⟩
end Go.Proofs.YtmkapocibaojdaaGreatDoor
end
section
namespace Go.Sx
open Go
structure VerP where
 kb:Nat
 db:Nat
 ba:Option Addr
 nb:Nat
 cb:Nat
 clock:Nat
 es:Array MapEntry
 ks:List ByteArray
 F:ByteArray→Value
end Go.Sx
namespace Go.Proofs.YtmkapocibaojdaaGreatDoor
open Go Go.Sx
structure VerOk (L:List PutT) (v:VerP):Prop where
 m:MapG (MapKept.IsKey .string) v.es (strG v.ks v.F)
 st:MapKept.Stamped v.es v.clock
 nd:v.ks.Nodup
 iff:∀t,t∈v.ks↔keyC L t≠[]
noncomputable def cVer (b p:Nat) (base:List Int) (L:List PutT):Chunk:=cBox (VerOk L) (fun v=>[(.slice v.ba v.nb v.cb,dInts base)]) fun v=>chV b v.kb v.db v.ba p v.nb v.cb v.clock v.es v.ks v.F L
structure VerI (p:Nat) (base:List Int) (L:List PutT):Prop where
 bok:vecErr base=0
 basel:base.length=p
 few:L.length≤300000
 put:∀q∈L,(comFault (oneC q)).code=0∧q.when.length=p
def putL (p:Nat) (base:List Int) (L:List PutT) (c:ComT):List PutT:=if (putFault p base L c).code=0 then L++putsOf c c.ops else L
theorem scanF_ok {f:Nat→Nat}:∀(n k:Nat),(scanF f n k).code=0→scanF f n k=⟨0,-1⟩
 | 0,_,_=>rfl
 | n+1,k,h=>by
  unfold scanF at h ⊢
  split at h
  ·rename_i h0
   rw[if_pos h0]
   exact scanF_ok n (k+1) h
  ·rename_i h0
   exact absurd h h0
theorem putFault_ok {p:Nat} {base:List Int} {L:List PutT} {c:ComT} (h:(putFault p base L c).code=0):putFault p base L c=⟨0,-1⟩:=by
 unfold putFault at h ⊢
 split at h
 ·rename_i h1
  exact absurd h h1
 rw[if_neg (by assumption)]
 split at h
 ·cases h
 rw[if_neg (by assumption)]
 split at h
 ·cases h
 rw[if_neg (by assumption)]
 exact scanF_ok _ _ h
section vers
variable {w:World} {S:Nat→Prop} {M:List Nat} {er:Nat→Addr} {eb:Nat→Array Value×TypeId} {b p:Nat} {base:List Int} {L:List PutT}
theorem verPut {a1 a2:Option Addr} {n1 c1 n2 c2:Nat} {c:ComT} (hC:Rep w S .nilIface (dC er eb)) (hP:Pre w S M [cVer b p base L]) (h:VerI p base L) (h1:Rep w S (.slice a1 n1 c1) (dInts c.when)) (h2:Rep w S (.slice a2 n2 c2) (.sl 7 (c.ops.map eOp))) (hl1:c.when.length≤1000000) (hl2:c.ops.length≤1000000) (hl3:∀o∈c.ops,o.dots.length≤1000000) :
  Calls Tryz.prog 86 #[.pointer (some ⟨b,0,none⟩),.agg #[.slice a1 n1 c1,.int .i64 c.place,.slice a2 n2 c2]] w fun e w'=>∃v G,Ret M w S w' e v [cVer b p base (putL p base L c)] G∧FErrV er (putFault p base L c) v G:=by
 obtain⟨x,hx,hG,hP2⟩:=hP.open1
 have hf0:=h.few
 refine(vPut hC hP2 (hG.at 0 rfl) h.bok h.basel h1 h2 hl1 hl2 hl3 (by omega) hx.m hx.st hx.nd hx.iff).mono ?_
 rintro e w' (⟨hf,v,G,hR,hv⟩|⟨hf,es,ck,ks,F,hR,hm,hst,hnd,hiff⟩)
 ·refine⟨v,G,?_,hv⟩
  rw[putL,if_neg hf]
  exact hR.close1 x hx hG hP.no
 ·refine⟨_,[],?_,.inl ⟨?_,.inl ⟨hf,rfl⟩,rfl⟩⟩
  ·rw[putL,if_pos hf]
   exact hR.close1 ⟨x.kb,x.db,x.ba,x.nb,x.cb,ck,es,ks,F⟩ ⟨hm,hst,hnd,hiff⟩ hG hP.no
  ·rw[putFault_ok hf]
theorem verRead {a1:Option Addr} {n1 c1:Nat} {key:ByteArray} {at':List Int} (hC:Rep w S .nilIface (dC er eb)) (hP:Pre w S M [cVer b p base L]) (h:VerI p base L) (h1:Rep w S (.slice a1 n1 c1) (dInts at')) (hl1:at'.length≤1000000) :
  Calls Tryz.prog 95 #[.pointer (some ⟨b,0,none⟩),.string key,.slice a1 n1 c1] w fun e w'=>
   (atErr p base key at'≠0∧Ret M (zero w) S w' e (.tuple #[valZ,.iface 390 (.pointer (some (er (atErr p base key at'))))]) [cVer b p base L] []) ∨
   (atErr p base key at'=0∧∃ua un uc,Ret M (zero w) S w' e (.tuple #[valA (Sx.valOf key (withinC L key at')) (.slice ua un uc),.nilIface]) [cVer b p base L] [(.slice ua un uc,dStrs (Sx.valOf key (withinC L key at')).set)]):=by
 obtain⟨x,hx,hG,hP2⟩:=hP.open1
 refine(vRead hC hP2 (hG.at 0 rfl) h.bok h.basel h1 hl1 h.few h.put hx.m hx.nd hx.iff).mono ?_
 rintro e w' (⟨hf,hR⟩|⟨hf,ua,un,uc,hR⟩)
 ·exact .inl ⟨hf,hR.close1 x hx hG.zero hP.no⟩
 ·exact .inr ⟨hf,ua,un,uc,hR.close1 x hx hG.zero hP.no⟩
theorem verDots {a1:Option Addr} {n1 c1:Nat} {key text:ByteArray} {at':List Int} (hC:Rep w S .nilIface (dC er eb)) (hP:Pre w S M [cVer b p base L]) (h:VerI p base L) (h1:Rep w S (.slice a1 n1 c1) (dInts at')) (hl1:at'.length≤1000000) :
  Calls Tryz.prog 138 #[.pointer (some ⟨b,0,none⟩),.string key,.string text,.slice a1 n1 c1] w fun e w'=>
   (atErr p base key at'≠0∧Ret M w S w' e (.tuple #[.slice none 0 0,.iface 390 (.pointer (some (er (atErr p base key at'))))]) [cVer b p base L] []) ∨
   (atErr p base key at'=0∧∃ua un uc,Ret M w S w' e (.tuple #[.slice ua un uc,.nilIface]) [cVer b p base L] [(.slice ua un uc,.sl 3 ((dotsOf key text (withinC L key at')).map eDot))]):=by
 obtain⟨x,hx,hG,hP2⟩:=hP.open1
 refine(vVDots hC hP2 (hG.at 0 rfl) h.bok h.basel h1 hl1 h.few h.put hx.m hx.nd hx.iff).mono ?_
 rintro e w' (⟨hf,hR⟩|⟨hf,ua,un,uc,hR⟩)
 ·exact .inl ⟨hf,hR.close1 x hx hG hP.no⟩
 ·exact .inr ⟨hf,ua,un,uc,hR.close1 x hx hG hP.no⟩
theorem verNew {p:Int} (hC:Rep w S .nilIface (dC er eb)) (h1:1≤p) (h6:p≤6) :
  Calls Tryz.prog 57 #[.int .i64 p] w fun e w'=>∃b,Ret [] w S w' e (.tuple #[.pointer (some ⟨b,0,none⟩),.nilIface]) [cVer b p.toNat (List.replicate p.toNat 0) []] []:=by
 refine(vNew (p:=p) hC).mono ?_
 rintro e w' (⟨h,_⟩|⟨_,b,ba,mk,md,hR⟩)
 ·omega
 ·have hm0:MapG (MapKept.IsKey .string) #[] (strG [] fun _=>.nilIface):=(MapG.empty _).congr fun k=>(strG_nil _ k).symm
  obtain⟨n,rfl⟩:∃n:Nat,p=n:=⟨p.toNat,by omega⟩
  exact⟨b,(hR.close1g ⟨mk,md,some ⟨ba,0,none⟩,n,n,0,#[],[],fun _=>.nilIface⟩ ⟨hm0,MapKept.stamped_empty 0,by simp,by simp[keyC]⟩ fun y hy=>hy).less (by simp)⟩
end vers
end Go.Proofs.YtmkapocibaojdaaGreatDoor
end
section
namespace Go.Sx
open Go
theorem zip_at {α β:Type} {us:List α} {bs:List β} {p:Nat} {a:α} {b:β} (h1:us[p]?=some a) (h2:bs[p]?=some b):(us.zip bs)[p]?=some (a,b):=by
 rw[List.getElem?_zip_eq_some]
 exact⟨h1,h2⟩
theorem zip_map_at {α β γ:Type} {us:List α} {bs:List β} {f:α×β→γ} {p:Nat} {a:α} {b:β} (h1:us[p]?=some a) (h2:bs[p]?=some b):((us.zip bs).map f)[p]?=some (f (a,b)):=by
 rw[List.getElem?_map,zip_at h1 h2]
 rfl
theorem zip_put {α β γ:Type} {f:α×β→γ} {a:α} {b:β}:∀{us:List α} {bs:List β} {p:Nat},us[p]?=some a→((us.zip bs).map f).set p (f (a,b))=(us.zip (bs.set p b)).map f
 | [],_,_,h=>by simp at h
 | _::_,[],_,_=>by simp
 | _::_,_::_,0,h=>by
  simp only[List.getElem?_cons_zero,Option.some.injEq]at h
  simp[h]
 | _::us,_::bs,p+1,h=>by
  have ih:=zip_put (f:=f) (b:=b) (us:=us) (bs:=bs) (p:=p) (by simpa using h)
  simp only[List.zip_cons_cons,List.map_cons,List.set_cons_succ,ih]
end Go.Sx
namespace Go.Proofs.YtmkapocibaojdaaGreatDoor
open Go Go.Sx
abbrev eP (b:Nat):List D:=[.v (.pointer (some ⟨b,0,none⟩))]
abbrev dPtrs (bs:List Nat):D:=.sl 1 (bs.map eP)
abbrev eRow (bs:List Nat):List D:=[dPtrs bs]
abbrev dRows (rows:List (List Nat)):D:=.sl 1 (rows.map eRow)
def cSnd (y:Nat×SndT):Chunk:=cBox (α:=Option Addr×Nat×Nat) (fun _=>True) (fun _=>[]) fun v=>[cObj y.1 (sCells y.2.fm y.2.to y.2.sh y.2.q y.2.t (.slice v.1 v.2.1 v.2.2)),cAcc (.slice v.1 v.2.1 v.2.2) 62 9 (y.2.l.map eMsg)]
def cRcv (y:Nat×RcvT):Chunk:=cBox (α:=Nat) (fun _=>True) (fun _=>[]) fun mb=>[cObj y.1 (rCells y.2.fm y.2.to y.2.sh y.2.q y.2.t mb),cMap mb (.int .i64) (KL y.2.l)]
set_option maxHeartbeats 4000000 in
theorem stp_closeRcv {h r:List (Nat×Obj)} {F:List (List Nat×World)} {S0:Nat→Prop} {C0:List Chunk} {G0:List (Value×D)} {y:Nat×RcvT} {mb:Nat} (ps:List Nat) (hC:pick C0 ps=[cObj y.1 (rCells y.2.fm y.2.to y.2.sh y.2.q y.2.t mb),cMap mb (.int .i64) (KL y.2.l)]) (hnd:ps.Nodup:=by decide) :
  Stp h r F ⟨S0,C0,G0⟩ (fun _:Unit=>True) fun _=>⟨S0,restC C0 ps++[cRcv y],G0⟩:=stp_closebox ps mb hC (fun _ h=>by cases h) trivial hnd
def cSnds (bs:List Nat) (ss:List SndT):Chunk:=cStar ((bs.zip ss).map cSnd)
def cRcvs (bs:List Nat) (rs:List RcvT):Chunk:=cStar ((bs.zip rs).map cRcv)
abbrev plC (vb:Nat) (id places shards clock:Int) (o i:Value):Obj:=.cells #[.pointer (some ⟨vb,0,none⟩),.int .i64 id,.int .i64 places,.int .i64 shards,.int .i64 clock,o,i] 124 (0,0)
end Go.Proofs.YtmkapocibaojdaaGreatDoor
end
