/- Part 11 of the texts of a claim: Put Within PartP Read Prune KeysV PartsV PruneP RVec. -/
import Derived.Test.YtpjkiomccpjboaaGreatDoorTg10
section
namespace Go.Sx
open Go
structure PutS where
 i:Int
 es:Array MapEntry
 clock:Nat
 ks:List ByteArray
 F:ByteArray→Value
 es1:Array MapEntry
 clock1:Nat
end Go.Sx
namespace Go.Proofs.YtpjkiomccpjboaaGreatDoor
open Go Go.Sx
def exiAt (L:List PutT) (c:ComT) (i:Nat):Nat:=match c.ops[i]? with
 | none=>0
 | some o=>if dotOf c o∈L.map dotP then 6 else 0
def putFault (p:Nat) (base:List Int) (L:List PutT) (c:ComT):FT:=
 if (comFault c).code≠0 then comFault c
 else if c.when.length≠p then ⟨3,-1⟩
 else if inL c.when base=true then ⟨9,-1⟩
 else scanF (exiAt L c) c.ops.length 0
def putsOf (c:ComT) (l:List OpT):List PutT:=l.map fun o=>⟨c.when,c.place,o⟩
theorem keyC_snoc (A:List PutT) (q:PutT) (t:ByteArray):keyC (A++[q]) t=keyC A t++if q.op.key=t then [oneC q]else []:=by
 rw[keyC,keyC,List.filter_append,List.map_append]
 congr 1
 by_cases h:q.op.key=t <;> simp[h]
theorem keyC_len (A:List PutT) (t:ByteArray):(keyC A t).length≤A.length:=by
 rw[keyC,List.length_map]
 exact List.length_filter_le _ _
set_option maxHeartbeats 4000000 in
theorem verDot {w:World} {S:Nat→Prop} {a1 a2:Option Addr} {n1 c1 n2 c2:Nat} {c:ComT} {o:OpT} {v:Value} (ov:v.oneCell'=true) (h1:Rep w S (.slice a1 n1 c1) (dInts c.when)) (hp0:0≤c.place) (hp1:c.place<c.when.length) :
  Calls Tryz.prog 74 #[.agg #[.slice a1 n1 c1,.int .i64 c.place,.slice a2 n2 c2],opA o v] w fun e w'=>Ret [] w S w' e (dotV (dotOf c o)) [] []:=by
 obtain rfl:=rep_ints_len h1
 refine epG Tryz.func74 bd74 (args:=[.agg #[.slice a1 c.when.length c1,.int .i64 c.place,.slice a2 n2 c2],opA o v]) (S:=S) (G:=[(_,dInts c.when)]) (by kernel_rfl) (.cons h1 (.nil _ _)) ?_
 obtain⟨t,ht⟩:∃t,c.when[c.place.toNat]?=some t:=⟨_,List.getElem?_eq_getElem (by omega)⟩
 have hd:dotOf c o=⟨c.place,t,o.no⟩:=by simp[dotOf,List.getD_eq_getElem?_getD,ht]
 refine J_read0 0 rfl c.place.toNat (map_at ht) (by kernel_rfl) (fun b1 off1 cs1 ty1 fz1 ha1 hrd1=>?_)
 cases ha1
 have hrd1_0:=rd0 (hrd1 0 _ rfl)
 try simp only[aQ]
 refine Zv [.wr 0 [] 0,.wr 1 [] 0,.wr 2 [] 0] [] [0,1] (fun nu1=>[zP 2 (nu1 0),zP 3 (nu1 1),zP 4 (nu1 2)]) (fun nu1=>[(nu1 0,.cells #[.slice (sA b1 off1) c.when.length c1,nI c.place,.slice a2 n2 c2] 28 (0,0)),(nu1 1,.cells #[nI o.no,.string o.key,nI o.kind,.string o.text,nI o.n,.bool o.remove,v] 24 (0,0)),(nu1 2,.cells #[nI 0,nI 0,nI 0] 65 (0,0))]) (fun nu1=>?_)
 refine J_seq ?_
 all_goals first|assumption|skip
 refine Zn [zR 0,.rd 1 [.o 0 none] 0 0,zR 2,.rd 3 [.o 0 none] 0 0,zR 4,.rd 5 [.o 0 none] 0 0,.rd 6 [] 0 2,.rd 7 [.r 0 (some (nI t))] 0 0,zR 8,.rd 9 [.o 1 none] 0 0,zR 10,.wr 11 (hnO 2 3) 0] [(11,[2])] [2,3] (fun _=>[]) (fun _=>[(nu1 0,.cells #[.slice (sA b1 off1) c.when.length c1,nI c.place,.slice a2 n2 c2] 28 (0,0)),(nu1 1,.cells #[nI o.no,.string o.key,nI o.kind,.string o.text,nI o.n,.bool o.remove,v] 24 (0,0)),(nu1 2,.cells #[nI c.place,nI t,nI o.no] 65 (0,0))]) (fun _=>[0≤c.place,c.place<(↑c.when.length:Int),cs1[off1+c.place.toNat*1]?=some (nI t)]) (fun _=>⟨hp0,hp1,hrd1_0,trivial⟩) (fun _=>?_)
 refine Yr [(hnO 2 3)] (.agg #[nI c.place,nI t,nI o.no]) fun a w s=>?_
 rw[hd]
 exact s.ret (by simp) [] [] rfl rfl
set_option maxHeartbeats 4000000 in
theorem vPut {w:World} {S:Nat→Prop} {M:List Nat} {er:Nat→Addr} {eb:Nat→Array Value×TypeId} {b mk md:Nat} {ba a1 a2:Option Addr} {p nb cb n1 c1 n2 c2 clock:Nat} {base:List Int} {es:Array MapEntry} {ks:List ByteArray} {F:ByteArray→Value} {L:List PutT} {c:ComT} (hC:Rep w S .nilIface (dC er eb))
  (hP:Pre w S M [cObj b (.cells #[.int .i64 p,.slice ba nb cb,.map (some mk),.map (some md)] 133 (0,0)),cObj mk (.map es clock),cStar (ks.map fun t=>cAcc (F t) 28 3 ((keyC L t).map eCom)),cMapG md okDot (dotSet (L.map dotP))])
  (hb:Rep w S (.slice ba nb cb) (dInts base)) (hbv:vecErr base=0) (hbl:base.length=p) (h1:Rep w S (.slice a1 n1 c1) (dInts c.when)) (h2:Rep w S (.slice a2 n2 c2) (.sl 7 (c.ops.map eOp))) (hl1:c.when.length≤1000000) (hl2:c.ops.length≤1000000) (hl3:∀o∈c.ops,o.dots.length≤1000000) (hL:L.length≤1000000)
  (hm:MapG (MapKept.IsKey .string) es (strG ks F)) (hst:MapKept.Stamped es clock) (hnd:ks.Nodup) (hiff:∀t,t∈ks↔keyC L t≠[]) :
  Calls Tryz.prog 36 #[.pointer (some ⟨b,0,none⟩),.agg #[.slice a1 n1 c1,.int .i64 c.place,.slice a2 n2 c2]] w fun e w'=>
   ((putFault p base L c).code≠0∧∃v G,Ret M w S w' e v [cObj b (.cells #[.int .i64 p,.slice ba nb cb,.map (some mk),.map (some md)] 133 (0,0)),cObj mk (.map es clock),cStar (ks.map fun t=>cAcc (F t) 28 3 ((keyC L t).map eCom)),cMapG md okDot (dotSet (L.map dotP))] G ∧
    (((putFault p base L c).at' = -1∧ErrIs 243 er (putFault p base L c).code v∧G=[])∨(1≤(putFault p base L c).code∧0≤(putFault p base L c).at'∧∃pb,v=.iface 102 (.pointer (some ⟨pb,0,none⟩))∧G=[(.pointer (some ⟨pb,0,none⟩),.ptr [.v (.int .i64 (putFault p base L c).at'),.v (.iface 243 (.pointer (some (er (putFault p base L c).code))))])]))) ∨
   ((putFault p base L c).code=0∧∃es' clock' ks' F',Ret M w S w' e .nilIface [cObj b (.cells #[.int .i64 p,.slice ba nb cb,.map (some mk),.map (some md)] 133 (0,0)),cObj mk (.map es' clock'),cStar (ks'.map fun t=>cAcc (F' t) 28 3 ((keyC (L++putsOf c c.ops) t).map eCom)),cMapG md okDot (dotSet ((L++putsOf c c.ops).map dotP))] [] ∧
    MapG (MapKept.IsKey .string) es' (strG ks' F')∧MapKept.Stamped es' clock'∧ks'.Nodup∧∀t,t∈ks'↔keyC (L++putsOf c c.ops) t≠[]):=by
 obtain rfl:=rep_ints_len h1
 obtain rfl:=rep_ints_len hb
 subst hbl
 have e2:=h2.slen
 rw[List.length_map]at e2
 subst e2
 refine enG Tryz.func36 bd36 (args:=[.pointer (some ⟨b,0,none⟩),.agg #[.slice a1 c.when.length c1,.int .i64 c.place,.slice a2 c.ops.length c2]]) (S:=S) (G:=[(_,dC er eb),(_,dInts c.when),(_,.sl 7 (c.ops.map eOp)),(_,dInts base)]) (by kernel_rfl) hP (.cons hC (.cons h1 (.cons h2 (.cons hb (.nil _ _))))) ?_
 refine J_show 0 rfl ?_
 refine J_stp (stp_all 0 [2,8,5] rfl rfl) ?_
 refine J_glob 4 rfl (fun csg1 tyg1 fzg1 hglob1=>?_)
 refine J_glob 5 rfl (fun csg2 tyg2 fzg2 hglob2=>?_)
 refine J_glob 6 rfl (fun csg3 tyg3 fzg3 hglob3=>?_)
 try simp only[aQ]
 refine Zv [.wr 0 [] 0,zR 1] [] [1] (fun nu1=>[zP 3 (nu1 0),zV 4 .nilIface]) (fun nu1=>[(b,.cells #[nI (↑base.length:Int),.slice ba base.length cb,.map (some mk),.map (some md)] 133 (0,0)),(nu1 0,.cells #[.slice a1 c.when.length c1,nI c.place,.slice a2 c.ops.length c2] 28 (0,0))]) (fun nu1=>?_)
 refine J_seq ?_
 refine jS [(0,true),(1,false),(2,true)] [] ?_
 refine Ya (id:=1) (rest:=[(1,false),(2,true)]) [.rd 0 (hnO 1 3) 0 0] [] [zV 13 (.agg #[.slice a1 c.when.length c1,nI c.place,.slice a2 c.ops.length c2])] ?_
 refine Yc 17 #[.agg #[.slice a1 c.when.length c1,nI c.place,.slice a2 c.ops.length c2]] (some 14) fun w S hG=>?_
 refine(checkCommit (c:=c) (hG.at 0 rfl) (hG.at 1 rfl) (hG.at 2 rfl) hl1 hl2).mono ?_
 rintro e1 w1 (⟨ha,v,hR,hv⟩|⟨hc1,h0,pb,hR⟩)
 case inr=>
  have hpf:putFault base.length base L c=comFault c:=by rw[putFault,if_pos (by omega)]
  rw[hpf]
  refine⟨_,_,_,hR,?_⟩
  try simp only[aQ]
  refine Ya (id:=1) (rest:=[]) [zR 2] [14,13] [zV 5 (.iface 102 (.pointer (sA pb 0)))] ?_
  refine JR_end ?_
  refine Zs [zR 0,zR 1] [] [zB 16 true] ?_
  refine cTt ?_
  refine Zs [zR 0,zR 1] [16,5] [zV 4 (.iface 102 (.pointer (sA pb 0)))] ?_
  refine Yr [[]] (.iface 102 (.pointer (sA pb 0))) fun a w s=>?_
  exact .inl ⟨by omega,_,_,(s.hide 0 rfl).ret (by simp) [3,0,1,2] [7] rfl rfl,.inr ⟨hc1,h0,pb,rfl,rfl⟩⟩
 refine⟨_,_,_,hR,?_⟩
 obtain⟨hv0,rfl⟩|⟨hv0,rfl⟩:=hv
 case inr=>
  have hpf:putFault base.length base L c=comFault c:=by rw[putFault,if_pos hv0]
  rw[hpf]
  try simp only[aQ]
  refine Ya (id:=1) (rest:=[]) [zR 2] [14,13] [zV 5 (.iface 243 (.pointer (some (er (comFault c).code))))] ?_
  refine JR_end ?_
  refine Zs [zR 0,zR 1] [] [zB 16 true] ?_
  refine cTt ?_
  refine Zs [zR 0,zR 1] [16,5] [zV 4 (.iface 243 (.pointer (some (er (comFault c).code))))] ?_
  refine Yr [[]] (.iface 243 (.pointer (some (er (comFault c).code)))) fun a w s=>?_
  exact .inl ⟨hv0,_,_,(s.hide 0 rfl).ret (by simp) [3,0,1,2] [] rfl rfl,.inl ⟨ha,.inr ⟨hv0,rfl⟩,rfl⟩⟩
 have hrc:=right_of hv0
 by_cases hwl:c.when.length=base.length
 case neg=>
  have hpf:putFault base.length base L c=⟨3,-1⟩:=by rw[putFault,if_neg (by simp[hv0]),if_pos hwl]
  have hwl2:¬(c.when.length:Int)=base.length:=by omega
  rw[hpf]
  try simp only[aQ]
  refine Ya (id:=1) (rest:=[]) [zR 2] [14,13] [zV 5 .nilIface] ?_
  refine JR_end ?_
  refine Zs [zR 0,zR 1] [] [zB 16 false] ?_
  refine cF ?_
  refine J_skip (J_seq ?_)
  refine Zt ([zR 0,.rd 1 [.o 1 none] 0 0]++Rds 2 6++[.rd 6 [.o 0 none] 0 0,.rd 7 [] 0 6]) [16,5] [zB 25 true] [((↑c.when.length:Int) != (↑base.length:Int))=true] ⟨by simp;omega,trivial⟩ ?_
  refine cTt ?_
  refine Zt [.rd 0 [.r 0 (some (.iface 243 (.pointer (some (er 3)))))] 0 0,zR 1] [25] [zV 4 (.iface 243 (.pointer (some (er 3))))] [csg1[(0:Nat)]?=some (Value.iface (243:Nat) (Value.pointer (some (er (3:Nat)))))] ⟨hglob1,trivial⟩ ?_
  refine Yr [[]] (.iface 243 (.pointer (some (er 3)))) fun a w s=>?_
  exact .inl ⟨by decide,_,_,(s.hide 0 rfl).ret (by simp) [3,0,1,2] [] rfl rfl,.inl ⟨by first|rfl|trivial,.inr ⟨by decide,rfl⟩,rfl⟩⟩
 have htw:twoErr c.when base=0:=by rw[twoErr,if_neg (by simp[hrc.vec]),if_neg (by simp[hbv]),if_neg (by simp[hwl])]
 have hvl:=vecErr_len hbv
 have hwl2:(c.when.length:Int)=base.length:=by omega
 try simp only[aQ]
 refine Ya (id:=1) (rest:=[]) [zR 2] [14,13] [zV 5 .nilIface] ?_
 refine JR_end ?_
 refine Zs [zR 0,zR 1] [] [zB 16 false] ?_
 refine cF ?_
 refine J_skip (J_seq ?_)
 refine Zt ([zR 0,.rd 1 [.o 1 none] 0 0]++Rds 2 6++[.rd 6 [.o 0 none] 0 0,.rd 7 [] 0 7]) [16,5] [zB 25 false] [((↑c.when.length:Int) != (↑base.length:Int))=false] ⟨by simp;omega,trivial⟩ ?_
 refine cF ?_
 refine J_skip (J_seq ?_)
 refine jS [(0,true),(1,true),(2,true),(3,true),(4,true),(5,true),(6,false),(7,true),(8,true),(9,true),(10,true),(11,true)] [] ?_
 refine Ya (id:=6) (rest:=[(6,false),(7,true),(8,true),(9,true),(10,true),(11,true)]) ([zR 0,.rd 1 [.o 1 none] 0 0]++Rds 2 5++[.rd 5 [.o 0 none] 0 0]) [25] [zS 29 a1 c.when.length c1,zS 33 ba base.length cb] ?_
 refine Yc 52 #[.slice a1 c.when.length c1,.slice ba base.length cb] (some 34) fun w S hG=>?_
 refine(vwithin (globs_of (hG.at 0 rfl)) (hG.at 1 rfl) (hG.at 3 rfl) hl1 (by omega)).mono ?_
 rintro e2 w2 (⟨htw2,_⟩|⟨_,hR⟩)
 ·exact absurd htw htw2
 refine⟨_,_,_,hR,?_⟩
 cases hin:inL c.when base with
 | true=>
  have hpf:putFault base.length base L c=⟨9,-1⟩:=by rw[putFault,if_neg (by simp[hv0]),if_neg (by simp[hwl]),if_pos hin]
  rw[hpf]
  try simp only[aQ]
  refine Ya (id:=6) (rest:=[]) (Rds 7 12) [34,29,33] [zB 6 true] ?_
  refine JR_end ?_
  refine Zs [zR 0] [6] [zB 37 true] ?_
  refine cTt ?_
  refine Zt [.rd 0 [.r 1 (some (.iface 243 (.pointer (some (er 9)))))] 0 0,zR 1] [37] [zV 4 (.iface 243 (.pointer (some (er 9))))] [csg2[(0:Nat)]?=some (Value.iface (243:Nat) (Value.pointer (some (er (9:Nat)))))] ⟨hglob2,trivial⟩ ?_
  refine Yr [[]] (.iface 243 (.pointer (some (er 9)))) fun a w s=>?_
  exact .inl ⟨by decide,_,_,(s.hide 0 rfl).ret (by simp) [3,0,1,2] [] rfl rfl,.inl ⟨by first|rfl|trivial,.inr ⟨by decide,rfl⟩,rfl⟩⟩
 | false=>
  have hpf:putFault base.length base L c=scanF (exiAt L c) c.ops.length 0:=by rw[putFault,if_neg (by simp[hv0]),if_neg (by simp[hwl]),if_neg (by simp[hin])]
  rw[hpf]
  try simp only[aQ]
  refine Ya (id:=6) (rest:=[]) (Rds 7 12) [34,29,33] [zB 6 false] ?_
  refine JR_end ?_
  refine Zs [zR 0] [6] [zB 37 false] ?_
  refine cF ?_
  refine J_skip (J_seq (J_seq ?_))
  refine J_openmapg 2 rfl fun es1 clock1 hm1=>?_
  refine Nm [cObj mk (Obj.map es clock),(cStar (List.map (fun t=>cAcc (F t) 28 3 (List.map eCom (keyC L t))) ks))] ?_
  refine Za [zR 0,.rd 1 [.o 1 none] 0 0,zR 2,zR 3] [37] [zS 40 a2 c.ops.length c2,zI 41 (↑c.ops.length:Int),zI 42 0] ?_
  refine J_block ?_
  refine J_loopx (fun i:Int=>[zP 0 b,zP 3 (nu1 0),zV 4 .nilIface,zS 40 a2 c.ops.length c2,zI 41 (↑c.ops.length:Int),zI 42 i]) (fun i:Int=>[(b,.cells #[nI (↑base.length:Int),.slice ba base.length cb,.map (some mk),.map (some md)] 133 (0,0)),(nu1 0,.cells #[.slice a1 c.when.length c1,nI c.place,.slice a2 c.ops.length c2] 28 (0,0)),(md,Obj.map es1 clock1)]) (fun i:Int=>[cObj mk (.map es clock),cStar (ks.map fun t=>cAcc (F t) 28 3 ((keyC L t).map eCom))]) (fun i:Int=>[(.nilIface,(dC er eb)),(.slice a1 c.when.length c1,(dInts c.when)),(.slice a2 c.ops.length c2,(D.sl 7 (List.map eOp c.ops))),(.slice ba base.length cb,(dInts base)),(.pointer (sA 3 0),(D.ptr [D.v (Value.iface 243 (Value.pointer (some (er 3))))])),(.pointer (sA 4 0),(D.ptr [D.v (Value.iface 243 (Value.pointer (some (er 9))))])),(.pointer (sA 5 0),(D.ptr [D.v (Value.iface 243 (Value.pointer (some (er 6))))]))]) (fun i:Int=>(c.ops.length - i).toNat) (fun i:Int=>(0≤i∧i≤c.ops.length∧∀j:Nat,j<i.toNat→exiAt L c j=0)) 0 [0,3,4,40,41,42] [0,1,2] [0,1] [0,1,2,3,4,5,6] ?_ (by kernel_rfl) rfl rfl rfl ?_
  ·exact⟨by simp,by simp,by simp⟩
  rintro i ⟨hi0,hi,hex⟩
  refine Zs [zR 0] [] [zB 43 (decide (i<(↑c.ops.length:Int)))] ?_
  refine J_seq ?_
  refine cC (t:=decide (i<(↑c.ops.length:Int))) (fun hlt=>?_) (fun hlt=>?_)
  ·have hlt2:i<c.ops.length:=by simpa using hlt
   obtain⟨o,ho⟩:∃o,c.ops[i.toNat]?=some o:=⟨_,List.getElem?_eq_getElem (by omega)⟩
   refine J_read1 2 rfl i.toNat (map_at ho) (by kernel_rfl) (fun b1 off1 cs1 ty1 fz1 a1_0 c1_0 ha1 hrd1=>?_)
   cases ha1
   have hrd1_0:=rd0 (hrd1 0 _ rfl)
   have hrd1_1:=hrd1 1 _ rfl
   have hrd1_2:=hrd1 2 _ rfl
   have hrd1_3:=hrd1 3 _ rfl
   have hrd1_4:=hrd1 4 _ rfl
   have hrd1_5:=hrd1 5 _ rfl
   have hrd1_6:=hrd1 6 _ rfl
   try simp only[aQ]
   refine J_skip (J_seq (J_block ?_))
   refine Zu [zR 0,.rd 1 [] 0 2,.rd 2 [.r 3 (some (nI o.no)),.r 3 (some (.string o.key)),.r 3 (some (nI o.kind)),.r 3 (some (.string o.text)),.r 3 (some (nI o.n)),.r 3 (some (.bool o.remove)),.r 3 (some (.slice (a1_0,c1_0).fst ((List.map eDot o.dots).length) c1_0))] 0 0,.wr 3 [] 0,zR 4,.wr 5 (hnO 3 7) 0] [(5,[])] [43] (fun nu2=>[zI 8 i,zP 9 (nu2 0)]) (fun nu2=>[(b,.cells #[nI (↑base.length:Int),.slice ba base.length cb,.map (some mk),.map (some md)] 133 (0,0)),(nu1 0,.cells #[.slice a1 c.when.length c1,nI c.place,.slice (sA b1 off1) c.ops.length c2] 28 (0,0)),(md,Obj.map es1 clock1),(nu2 0,.cells #[nI o.no,.string o.key,nI o.kind,.string o.text,nI o.n,.bool o.remove,.slice (a1_0,c1_0).fst ((List.map eDot o.dots).length) c1_0] 24 (0,0))]) (fun nu2=>[0≤i,i<(↑c.ops.length:Int),cs1[off1+i.toNat*7]?=some (nI o.no),cs1[off1+i.toNat*7+(1:Nat)]?=some (Value.string o.key),cs1[off1+i.toNat*7+(2:Nat)]?=some (nI o.kind),cs1[off1+i.toNat*7+(3:Nat)]?=some (Value.string o.text),cs1[off1+i.toNat*7+(4:Nat)]?=some (nI o.n),cs1[off1+i.toNat*7+(5:Nat)]?=some (Value.bool o.remove),cs1[off1+i.toNat*7+(6:Nat)]?=some (Value.slice (a1_0,c1_0).fst (List.map eDot o.dots).length (a1_0,c1_0).snd)]) (fun _=>⟨hi0,hlt2,hrd1_0,hrd1_1,hrd1_2,hrd1_3,hrd1_4,hrd1_5,hrd1_6,trivial⟩) (fun nu2=>?_)
   refine jS [(0,true),(1,true),(2,true),(3,true),(4,true),(5,true),(6,false),(7,true)] [] ?_
   refine Ya (id:=12) (rest:=[(6,false),(7,true)]) (Rds 0 3++[.rd 3 [.o 0 none] 0 0,.rd 4 (hnO 1 3) 0 0,.rd 5 (hnO 3 7) 0 0]) [] [zV 50 (.map (some md)),zV 51 (.agg #[.slice a1 c.when.length c1,nI c.place,.slice (sA b1 off1) c.ops.length c2]),zV 52 (.agg #[nI o.no,.string o.key,nI o.kind,.string o.text,nI o.n,.bool o.remove,.slice (a1_0,c1_0).fst ((List.map eDot o.dots).length) c1_0])] ?_
   refine Yc 74 #[.agg #[.slice a1 c.when.length c1,nI c.place,.slice (sA b1 off1) c.ops.length c2],.agg #[nI o.no,.string o.key,nI o.kind,.string o.text,nI o.n,.bool o.remove,.slice (a1_0,c1_0).fst ((List.map eDot o.dots).length) c1_0]] (some 53) fun w S hG=>?_
   refine(verDot (c:=c) (o:=o) rfl (hG.at 1 rfl) hrc.p0 hrc.p1).mono ?_
   rintro e3 w3 hR
   refine⟨_,_,_,hR,?_⟩
   refine JRg_lookr (.o 2 none) md 131 65 4 okDot (.agg #[.int .i64 ((dotOf c o).place),.int .i64 ((dotOf c o).time),.int .i64 ((dotOf c o).no)]) (.bool false) false (some 54) (by kernel_rfl) (by kernel_rfl) (by kernel_rfl) keyOk_65 (by first|exact⟨_,_,_,rfl⟩|simp[MapKept.IsKey]) (by kernel_rfl) rfl hm1 (fun hno=>?_) (fun v hv=>?_)
   ·have hnd:dotOf c o∉L.map dotP:=fun h=>by
     rw[dotSet_in h]at hno
     cases hno
    have hz:exiAt L c i.toNat=0:=by simp[exiAt,ho,hnd]
    try simp only[aQ]
    refine JR_end ?_
    refine cF ?_
    refine J_skip (J_eb ?_)
    refine Zp [.rd 0 [] 0 1,zR 1] [54] [zI 42 (i+1)] [IntKind.i64.wrap (i+1)=i+1] ⟨wrap_i64 (by omega) (by omega),trivial⟩ ?_
    refine J_backx (i+1) [0,3,4,40,41,42] [0,1,2] [0,1] [0,1,2,3,4,5,6] ?_ ?_ (by kernel_rfl) rfl rfl rfl
    ·refine⟨by omega,by omega,fun j hj=>?_⟩
     by_cases hji:j=i.toNat
     ·rw[hji]
      exact hz
     ·exact hex j (by omega)
    ·omega
   ·have hin2:dotOf c o∈L.map dotP:=Classical.byContradiction fun h=>by
     rw[dotSet_out h]at hv
     cases hv
    rw[dotSet_in hin2]at hv
    cases hv
    have hz:exiAt L c i.toNat=6:=by simp[exiAt,ho,hin2]
    have hsc:scanF (exiAt L c) c.ops.length 0=⟨6,i⟩:=by
     rw[(scanF_from c.ops.length 0 i.toNat (Nat.zero_le _) fun j _ hj=>hex j hj).2 (by omega) (by omega),hz]
     congr 1
     omega
    rw[hsc]
    try simp only[aQ]
    refine JR_end ?_
    refine cTt ?_
    refine Zu [zR 0,.rd 1 [.r 2 (some (.iface 243 (.pointer (some (er 6)))))] 0 0,zR 2,.wr 3 [] 0,zR 4,zR 5] [] [54] (fun nu3=>[zV 4 (.iface 102 (.pointer (sA (nu3 0) 0)))]) (fun nu3=>[(b,.cells #[nI (↑base.length:Int),.slice ba base.length cb,.map (some mk),.map (some md)] 133 (0,0)),(nu1 0,.cells #[.slice a1 c.when.length c1,nI c.place,.slice (sA b1 off1) c.ops.length c2] 28 (0,0)),(md,Obj.map es1 clock1),(nu2 0,.cells #[nI o.no,.string o.key,nI o.kind,.string o.text,nI o.n,.bool o.remove,.slice a1_0 ((List.map eDot o.dots).length) c1_0] 24 (0,0)),(nu3 0,.cells #[nI i,.iface 243 (.pointer (some (er 6)))] 104 (0,0))]) (fun nu3=>[csg3[(0:Nat)]?=some (Value.iface (243:Nat) (Value.pointer (some (er (6:Nat)))))]) (fun _=>⟨hglob3,trivial⟩) (fun nu3=>?_)
    refine Yr [[]] (.iface 102 (.pointer (sA (nu3 0) 0))) fun a w s=>?_
    exact .inl ⟨by decide,_,_,(((((s.share 4 rfl).stp (stp_fact fun w S H=>ptr_of_obj rfl rfl (H (_,_) (List.mem_of_getElem? (i:=8) rfl)))).hide 0 rfl).hide 1 rfl).stp (stp_conv 3 rfl (mapg_eqv hm1))).ret (by simp) [2,0,1,3] [9] rfl rfl,.inr ⟨by decide,hi0,_,rfl,rfl⟩⟩
  ·have hil:i=c.ops.length:=by simp at hlt;omega
   subst hil
   have hsc:(scanF (exiAt L c) c.ops.length 0).code=0:=by
    rw[(scanF_from c.ops.length 0 c.ops.length (Nat.zero_le _) fun j _ hj=>hex j (by omega)).1 (by omega)]
   refine J_exit rfl ?_
   refine jS [(0,true),(1,false),(2,false)] [] ?_
   refine Ya (id:=15) (rest:=[(1,false),(2,false)]) [.rd 0 (hnO 1 3) 0 0] [43,40,41,42] [zV 61 (.agg #[.slice a1 c.when.length c1,nI c.place,.slice a2 c.ops.length c2])] ?_
   refine Yc 75 #[.agg #[.slice a1 c.when.length c1,nI c.place,.slice a2 c.ops.length c2]] (some 62) fun w S hG=>?_
   refine(vOwn (c:=c) (hG.at 1 rfl) (hG.at 2 rfl) hl1 hl2 hl3).mono ?_
   rintro e3 w3 ⟨u1,d1,u2,d2,hR⟩
   refine⟨_,_,_,hR,?_⟩
   try simp only[aQ]
   refine Ym (id:=15) (rest:=[]) [.wr 2 (hnO 1 3) 0] [62,61] (fun _=>[]) (fun _=>[(b,.cells #[nI (↑base.length:Int),.slice ba base.length cb,.map (some mk),.map (some md)] 133 (0,0)),(nu1 0,.cells #[.slice u1 c.when.length d1,nI c.place,.slice u2 c.ops.length d2] 28 (0,0)),(md,Obj.map es1 clock1)]) [] (fun _=>?_)
   refine JR_end (J_seq (J_seq ?_))
   refine J_stpx (stp_know (p:=c.ops.length≤d2) fun _ _ H=>(H.g (_,_) (List.mem_of_getElem? (i:=8) rfl)).cap) fun _ hd2=>?_
   refine J_stpx (stp_know (p:=∃bq oq,u2=some ⟨bq,oq,none⟩) fun _ _ H=>Rep.someA (H.g (.slice u2 c.ops.length d2,.sl 7 (c.ops.map eOp)) (List.mem_of_getElem? (i:=8) rfl)) (fun h=>by rw[List.map_eq_nil_iff]at h;have:=hrc.o1;rw[h]at this;simp at this)) fun _ hu2=>?_
   obtain⟨bq,oq,rfl⟩:=hu2
   refine J_show 0 rfl ?_
   have eK:(fun t=>cAcc (F t) 28 3 ((keyC L t).map eCom))=fun t=>cAcc (F t) 28 3 ((keyC (L++putsOf c (c.ops.take (0:Int).toNat)) t).map eCom):=by simp[putsOf]
   rw[eK]
   refine Nm [(cStar (List.map (fun t=>cAcc (F t) 28 3 (List.map eCom (keyC (L++putsOf c (List.take (Int.toNat 0) c.ops)) t))) ks))] ?_
   refine Za [zR 0,.rd 1 [.o 1 none] 0 0,zR 2,zR 3] [] [zS 64 (sA bq oq) c.ops.length d2,zI 65 (↑c.ops.length:Int),zI 66 0] ?_
   refine J_block ?_
   refine J_loopx (fun y:PutS=>[zP 0 b,zP 3 (nu1 0),zV 4 .nilIface,zS 64 (sA bq oq) c.ops.length d2,zI 65 (↑c.ops.length:Int),zI 66 y.i]) (fun y:PutS=>[(b,.cells #[nI (↑base.length:Int),.slice ba base.length cb,.map (some mk),.map (some md)] 133 (0,0)),(nu1 0,.cells #[.slice u1 c.when.length d1,nI c.place,.slice (sA bq oq) c.ops.length d2] 28 (0,0)),(md,.map y.es1 y.clock1),(mk,.map y.es y.clock)]) (fun y:PutS=>[cStar (y.ks.map fun t=>cAcc (y.F t) 28 3 ((keyC (L++putsOf c (c.ops.take y.i.toNat)) t).map eCom))]) (fun y:PutS=>[(.nilIface,(dC er eb)),(.slice a1 c.when.length c1,(dInts c.when)),(.slice a2 c.ops.length c2,(D.sl 7 (List.map eOp c.ops))),(.slice ba base.length cb,(dInts base)),(.pointer (sA 3 0),(D.ptr [D.v (Value.iface 243 (Value.pointer (some (er 3))))])),(.pointer (sA 4 0),(D.ptr [D.v (Value.iface 243 (Value.pointer (some (er 9))))])),(.pointer (sA 5 0),(D.ptr [D.v (Value.iface 243 (Value.pointer (some (er 6))))])),(.slice u1 c.when.length d1,(dInts c.when)),(.slice (sA bq oq) c.ops.length d2,(D.sl 7 (List.map eOp c.ops)))]) (fun y:PutS=>(c.ops.length - y.i).toNat) (fun y:PutS=>(0≤y.i∧y.i≤c.ops.length∧MapG (MapKept.IsKey .string) y.es (strG y.ks y.F)∧MapKept.Stamped y.es y.clock∧y.ks.Nodup∧(∀t,t∈y.ks↔keyC (L++putsOf c (c.ops.take y.i.toNat)) t≠[])∧MapG okDot y.es1 (dotSet ((L++putsOf c (c.ops.take y.i.toNat)).map dotP)))) ⟨0,es,clock,ks,F,es1,clock1⟩ [0,3,4,64,65,66] [0,1,2,3] [0] [0,1,2,3,4,5,6,7,8] ?_ (by kernel_rfl) rfl rfl rfl ?_
   ·exact⟨by simp,by simp,hm,hst,hnd,by simpa [putsOf]using hiff,by simpa [putsOf]using hm1⟩
   rintro⟨i,es2,clock2,ks2,F2,es3,clock3⟩ ⟨hi0,hi,hmo,hst2,hnd2,hiff2,hmd⟩
   dsimp only at hi0 hi hmo hst2 hnd2 hiff2 hmd ⊢
   refine Zs [zR 0] [] [zB 67 (decide (i<(↑c.ops.length:Int)))] ?_
   refine J_seq ?_
   refine cC (t:=decide (i<(↑c.ops.length:Int))) (fun hlt5=>?_) (fun hlt5=>?_)
   ·have hlt6:i<c.ops.length:=by simpa using hlt5
    obtain⟨o,ho⟩:∃o,c.ops[i.toNat]?=some o:=⟨_,List.getElem?_eq_getElem (by omega)⟩
    refine J_read1 8 rfl i.toNat (map_at ho) (by kernel_rfl) (fun b1 off1 cs1 ty1 fz1 a1_0 c1_0 ha1 hrd1=>?_)
    cases ha1
    have hrd1_0:=rd0 (hrd1 0 _ rfl)
    have hrd1_1:=hrd1 1 _ rfl
    have hrd1_2:=hrd1 2 _ rfl
    have hrd1_3:=hrd1 3 _ rfl
    have hrd1_4:=hrd1 4 _ rfl
    have hrd1_5:=hrd1 5 _ rfl
    have hrd1_6:=hrd1 6 _ rfl
    try simp only[aQ]
    refine J_skip (J_seq (J_block ?_))
    refine Zu [zR 0,.rd 1 [] 0 2,.rd 2 [.r 3 (some (nI o.no)),.r 3 (some (.string o.key)),.r 3 (some (nI o.kind)),.r 3 (some (.string o.text)),.r 3 (some (nI o.n)),.r 3 (some (.bool o.remove)),.r 3 (some (.slice (a1_0,c1_0).fst ((List.map eDot o.dots).length) c1_0))] 0 0,.wr 3 [] 0,zR 4,.wr 5 (hnO 4 7) 0] [(5,[])] [67] (fun nu2=>[zI 10 i,zP 11 (nu2 0)]) (fun nu2=>[(b,.cells #[nI (↑base.length:Int),.slice ba base.length cb,.map (some mk),.map (some md)] 133 (0,0)),(nu1 0,.cells #[.slice u1 c.when.length d1,nI c.place,.slice (sA bq oq) c.ops.length d2] 28 (0,0)),(md,Obj.map es3 clock3),(mk,Obj.map es2 clock2),(nu2 0,.cells #[nI o.no,.string o.key,nI o.kind,.string o.text,nI o.n,.bool o.remove,.slice (a1_0,c1_0).fst ((List.map eDot o.dots).length) c1_0] 24 (0,0))]) (fun nu2=>[0≤i,i<(↑c.ops.length:Int),cs1[oq+i.toNat*7]?=some (nI o.no),cs1[oq+i.toNat*7+(1:Nat)]?=some (Value.string o.key),cs1[oq+i.toNat*7+(2:Nat)]?=some (nI o.kind),cs1[oq+i.toNat*7+(3:Nat)]?=some (Value.string o.text),cs1[oq+i.toNat*7+(4:Nat)]?=some (nI o.n),cs1[oq+i.toNat*7+(5:Nat)]?=some (Value.bool o.remove),cs1[oq+i.toNat*7+(6:Nat)]?=some (Value.slice (a1_0,c1_0).fst (List.map eDot o.dots).length (a1_0,c1_0).snd)]) (fun _=>⟨hi0,hlt6,hrd1_0,hrd1_1,hrd1_2,hrd1_3,hrd1_4,hrd1_5,hrd1_6,trivial⟩) (fun nu2=>?_)
    refine jS [(0,true),(1,true),(2,true),(3,true),(4,true),(5,true),(6,false),(7,false)] [(7,[2])] ?_
    refine Ya (id:=19) (rest:=[(6,false),(7,false)]) (Rds 0 3++[.rd 3 [.o 0 none] 0 0,.rd 4 (hnO 1 3) 0 0,.rd 5 (hnO 4 7) 0 0]) [] [zV 74 (.map (some md)),zV 75 (.agg #[.slice u1 c.when.length d1,nI c.place,.slice (sA bq oq) c.ops.length d2]),zV 76 (.agg #[nI o.no,.string o.key,nI o.kind,.string o.text,nI o.n,.bool o.remove,.slice (a1_0,c1_0).fst ((List.map eDot o.dots).length) c1_0])] ?_
    refine Yc 74 #[.agg #[.slice u1 c.when.length d1,nI c.place,.slice (sA bq oq) c.ops.length d2],.agg #[nI o.no,.string o.key,nI o.kind,.string o.text,nI o.n,.bool o.remove,.slice (a1_0,c1_0).fst ((List.map eDot o.dots).length) c1_0]] (some 77) fun w S hG=>?_
    refine(verDot (c:=c) (o:=o) rfl (hG.at 7 rfl) hrc.p0 hrc.p1).mono ?_
    rintro e4 w4 hR
    refine⟨_,_,_,hR,?_⟩
    try simp only[aQ]
    refine JRg_put 2 md 131 65 4 okDot (.agg #[.int .i64 ((dotOf c o).place),.int .i64 ((dotOf c o).time),.int .i64 ((dotOf c o).no)]) (.bool true) none (by kernel_rfl) (by kernel_rfl) (by kernel_rfl) keyOk_65 (by first|exact⟨_,_,_,rfl⟩|simp[MapKept.IsKey]) rfl hmd (fun es4 clock4 hm4 hsz4=>?_)
    refine JR_end ?_
    refine Zv [.rd 0 (hnO 1 3) 0 0,.wr 1 [] 0,.wr 2 (hnO 5 3) 0] [(2,[])] [] (fun nu3=>[zP 12 (nu3 0)]) (fun nu3=>[(b,.cells #[nI (↑base.length:Int),.slice ba base.length cb,.map (some mk),.map (some md)] 133 (0,0)),(nu1 0,.cells #[.slice u1 c.when.length d1,nI c.place,.slice (sA bq oq) c.ops.length d2] 28 (0,0)),(md,Obj.map es4 clock4),(mk,Obj.map es2 clock2),(nu2 0,.cells #[nI o.no,.string o.key,nI o.kind,.string o.text,nI o.n,.bool o.remove,.slice a1_0 ((List.map eDot o.dots).length) c1_0] 24 (0,0)),(nu3 0,.cells #[.slice u1 c.when.length d1,nI c.place,.slice (sA bq oq) c.ops.length d2] 28 (0,0))]) (fun nu3=>?_)
    refine Zu [zR 0,.rd 1 [.o 1 none] 0 0,zR 2,zR 3,.rd 4 [] 0 1,.rd 5 [] 0 4,zR 6,.wr 7 [.o 5 none] 0] [(7,[5])] [] (fun _=>[]) (fun _=>[(b,.cells #[nI (↑base.length:Int),.slice ba base.length cb,.map (some mk),.map (some md)] 133 (0,0)),(nu1 0,.cells #[.slice u1 c.when.length d1,nI c.place,.slice (sA bq oq) c.ops.length d2] 28 (0,0)),(md,Obj.map es4 clock4),(mk,Obj.map es2 clock2),(nu2 0,.cells #[nI o.no,.string o.key,nI o.kind,.string o.text,nI o.n,.bool o.remove,.slice a1_0 ((List.map eDot o.dots).length) c1_0] 24 (0,0)),(nu3 0,.cells #[.slice u1 c.when.length d1,nI c.place,.slice (sA bq (oq+i.toNat*7)) ((i+1).toNat - i.toNat) (d2 - i.toNat)] 28 (0,0))]) (fun _=>[IntKind.i64.wrap (i+1)=i+1,0≤i,i≤i+1,i+1≤(↑d2:Int),i<(↑d2:Int)]) (fun _=>⟨wrap_i64 (by omega) (by omega),hi0,by omega,by omega,by omega,trivial⟩) (fun _=>?_)
    have hA2:L++putsOf c (c.ops.take (i+1).toNat)=(L++putsOf c (c.ops.take i.toNat))++[⟨c.when,c.place,o⟩]:=by
     rw[←take_snoc hi0 ho,putsOf,putsOf,List.map_append,←List.append_assoc]
     rfl
    have hAl:(L++putsOf c (c.ops.take i.toNat)).length≤1000020:=by
     have:=hrc.o2
     rw[List.length_append,putsOf,List.length_map,List.length_take]
     omega
    have hone:(c.ops.drop i.toNat).take 1=[o]:=by
     rw[List.drop_eq_getElem_cons (by omega)]
     have:=(List.getElem?_eq_some_iff.1 ho).2
     simp[this]
    refine J_stp (stp_fact fun w S H=>(H (_,_) (List.mem_of_getElem? (i:=8) rfl)).dropM i.toNat (by omega)) ?_
    have h11:(i+1).toNat - i.toNat=1:=by omega
    rw[h11]
    refine J_stp (stp_fact fun w S H=>(H (_,_) (List.mem_of_getElem? (i:=10) rfl)).takeM 1 (by rw[List.length_drop];omega)) ?_
    rw[hone]
    generalize L++putsOf c (c.ops.take i.toNat)=A at hA2 hAl hiff2 hmd hm4 ⊢
    have hkl:=keyC_len A o.key
    have hmd2:MapG okDot es4 (dotSet ((A++[(⟨c.when,c.place,o⟩:PutT)]).map dotP)):=by
     rw[List.map_append]
     exact hm4.congr (dotSet_snoc (d:=dotOf c o))
    have hko:∀t,t≠o.key→keyC (A++[(⟨c.when,c.place,o⟩:PutT)]) t=keyC A t:=fun t ht=>by
     rw[keyC_snoc,if_neg fun h=>ht h.symm,List.append_nil]
    have hkn:keyC (A++[(⟨c.when,c.place,o⟩:PutT)]) o.key=keyC A o.key++[⟨c.when,c.place,[o]⟩]:=by
     rw[keyC_snoc,if_pos rfl]
     rfl
    by_cases hT2:o.key∈ks2
    ·obtain⟨i2,hit2⟩:=List.getElem?_of_mem hT2
     refine J_stp (stp_take (c:=cAcc (F2 o.key) 28 3 ((keyC A o.key).map eCom)) 0 i2 rfl (by rw[List.getElem?_map,hit2];rfl)) ?_
     refine J_stpx (stp_accform 0 rfl) fun y hF=>?_
     obtain⟨av,nv,cv⟩:=y
     obtain⟨hF,hn⟩:=hF
     dsimp only at hF hn
     rw[List.length_map]at hn
     have hnb:nv≤4000000:=by omega
     rw[hF]
     refine Nm [cAcc (.slice av nv cv) 28 3 (List.map eCom (keyC A o.key)),(cStar ((List.map (fun t=>cAcc (F2 t) 28 3 (List.map eCom (keyC A t))) ks2).eraseIdx i2))] ?_
     try simp only[aQ]
     refine jT [(0,true),(1,true),(2,true),(3,true),(4,true),(5,true),(6,true),(7,true),(8,true),(9,true),(10,true),(11,true),(12,true),(13,true),(14,false),(15,false),(16,false)] [(15,[]),(16,[3])] ?_
     refine Ya (id:=22) (rest:=[(12,true),(13,true),(14,false),(15,false),(16,false)]) (Rds 0 3++[.rd 3 [.o 0 none] 0 0,zR 4,.rd 5 [.o 4 none] 0 0]++Rds 6 9++[.rd 9 [.o 0 none] 0 0,zR 10,.rd 11 [.o 4 none] 0 0]) [] [zV 89 (.map (some mk)),zV 91 (.string o.key),zV 95 (.map (some mk)),zV 97 (.string o.key)] ?_
     refine JRg_lookr (.o 3 none) mk 130 9 43 (MapKept.IsKey TypeDesc.string) (.string o.key) (.slice none 0 0) false (some 98) (by kernel_rfl) (by kernel_rfl) (by kernel_rfl) keyOk_9 (by first|exact⟨_,_,_,rfl⟩|simp[MapKept.IsKey]) (by kernel_rfl) rfl hmo (fun hno=>?_) (fun v hv=>?_)
     ·rw[strG_in hT2]at hno
      cases hno
     ·rw[strG_in hT2,hF]at hv
      cases hv
      refine Ym (id:=22) (rest:=[(15,false),(16,false)]) [.rd 13 (hnO 5 3) 0 0,.wr 14 [] 0] [95,97] (fun nu4=>[zS 100 (sA (nu4 0) 0) 1 1]) (fun nu4=>[(b,.cells #[nI (↑base.length:Int),.slice ba base.length cb,.map (some mk),.map (some md)] 133 (0,0)),(nu1 0,.cells #[.slice u1 c.when.length d1,nI c.place,.slice (sA bq oq) c.ops.length d2] 28 (0,0)),(md,Obj.map es4 clock4),(mk,Obj.map es2 clock2),(nu2 0,.cells #[nI o.no,.string o.key,nI o.kind,.string o.text,nI o.n,.bool o.remove,.slice a1_0 ((List.map eDot o.dots).length) c1_0] 24 (0,0)),(nu3 0,.cells #[.slice u1 c.when.length d1,nI c.place,.slice (sA bq (oq+i.toNat*7)) 1 (d2 - i.toNat)] 28 (0,0)),(nu4 0,.cells #[.slice u1 c.when.length d1,nI c.place,.slice (sA bq (oq+i.toNat*7)) 1 (d2 - i.toNat)] 28 (0,0))]) [(15,[]),(16,[3])] (fun nu4=>?_)
      refine JR_appm 0 43 28 3 56 (.agg #[.slice none 0 0,.int .i64 0,.slice none 0 0]) (a0:=av) (len:=nv) (cap0:=cv) (ax:=(some (⟨nu4 0,0,none⟩))) (m:=1) (c:=1) (dst:=(some 101)) [(⟨c.when,c.place,[o]⟩:ComT)] (by kernel_rfl) (by kernel_rfl) (by kernel_rfl) (by kernel_rfl) rfl (by decide) rfl (fun _ _ _ s=>src_one s 6 rfl rfl ⟨.inr (.inl (List.mem_of_getElem? (i:=7) rfl)),⟨.inl ⟨rfl,rfl⟩,⟨.inr (.inl (List.mem_of_getElem? (i:=11) rfl)),trivial⟩⟩⟩) (by simp only[maxLen];omega) (by omega) (fun av1 cv1=>?_)
      try simp only[aQ]
      refine JRg_puts 3 mk 130 9 43 (MapKept.IsKey TypeDesc.string) (.string o.key) (.slice av1 (nv+1) cv1) none (by kernel_rfl) (by kernel_rfl) (by kernel_rfl) keyOk_9 (by first|exact⟨_,_,_,rfl⟩|simp[MapKept.IsKey]) rfl hmo (fun es5 clock5 hm5 hsz5 hst5=>?_)
      try simp only[aQ]
      refine JR_end ?_
      try simp only[aQ]
      refine J_eb ?_
      try simp only[aQ]
      refine Zp [.rd 0 [] 0 1,zR 1] [] [zI 66 (i+1)] [IntKind.i64.wrap (i+1)=i+1] ⟨wrap_i64 (by omega) (by omega),trivial⟩ ?_
      try simp only[aQ]
      refine Nm [(cStar ((List.map (fun t=>cAcc (F2 t) 28 3 (List.map eCom (keyC A t))) ks2).eraseIdx i2)),cAcc (.slice av1 (nv+1) cv1) 28 3 (List.map eCom (keyC A o.key++[ComT.mk c.when c.place [o]]))] ?_
      have hE2:=map_out (Q:=fun t=>cAcc (F2 t) 28 3 ((keyC A t).map eCom)) (Q':=fun t=>cAcc (upd F2 o.key (.slice av1 (nv+1) cv1) t) 28 3 ((keyC (A++[(⟨c.when,c.place,o⟩:PutT)]) t).map eCom)) hnd2 hit2 fun s hs=>by
       show cAcc (upd F2 o.key (.slice av1 (nv+1) cv1) s) _ 3 ((keyC (A++[(⟨c.when,c.place,o⟩:PutT)]) s).map eCom)=cAcc (F2 s) _ 3 ((keyC A s).map eCom)
       rw[upd_ne _ _ hs,hko s hs]
      refine J_stp (stp_join 1 0 i2 (cs':=ks2.map fun t=>cAcc (upd F2 o.key (.slice av1 (nv+1) cv1) t) 28 3 ((keyC (A++[(⟨c.when,c.place,o⟩:PutT)]) t).map eCom)) rfl rfl (by decide) (by
       rw[List.getElem?_map,hit2]
       show some (cAcc (upd F2 o.key (.slice av1 (nv+1) cv1) o.key) _ 3 ((keyC (A++[(⟨c.when,c.place,o⟩:PutT)]) o.key).map eCom))=_
       rw[upd_at,hkn]) hE2) ?_
      rw[←hA2]
      refine Nm [(cStar (List.map (fun t=>cAcc (upd F2 o.key (Value.slice av1 (nv+1) cv1) t) 28 3 (List.map eCom (keyC (L++putsOf c (List.take (i+1).toNat c.ops)) t))) ks2))] ?_
      refine J_backx ⟨i+1,_,_,ks2,upd F2 o.key (.slice av1 (nv+1) cv1),_,_⟩ [0,3,4,64,65,66] [0,1,2,3] [0] [0,1,2,3,4,5,6,7,8] ?_ ?_ (by kernel_rfl) rfl rfl rfl
      ·refine⟨by simp only;omega,by simp only;omega,hm5.congr (strG_set hT2),hst5 hst2,hnd2,fun t=>?_,?_⟩
       ·dsimp only
        rw[hA2]
        by_cases hs:t=o.key
        ·subst hs
         rw[hkn]
         simp[hT2]
        ·rw[hko t hs]
         exact hiff2 t
       ·dsimp only
        rw[hA2]
        exact hmd2
      ·simp only
       omega
    ·have ho0:keyC A o.key=[]:=Classical.byContradiction fun h=>hT2 ((hiff2 _).2 h)
     refine J_stp (stp_accm eCom 28 3) ?_
     refine Nm [(cStar (List.map (fun t=>cAcc (F2 t) 28 3 (List.map eCom (keyC A t))) ks2)),cAcc (.slice none 0 0) 28 3 (List.map eCom [])] ?_
     try simp only[aQ]
     refine jT [(0,true),(1,true),(2,true),(3,true),(4,true),(5,true),(6,true),(7,true),(8,true),(9,true),(10,true),(11,true),(12,true),(13,true),(14,false),(15,false),(16,false)] [(15,[]),(16,[3])] ?_
     refine Ya (id:=22) (rest:=[(12,true),(13,true),(14,false),(15,false),(16,false)]) (Rds 0 3++[.rd 3 [.o 0 none] 0 0,zR 4,.rd 5 [.o 4 none] 0 0]++Rds 6 9++[.rd 9 [.o 0 none] 0 0,zR 10,.rd 11 [.o 4 none] 0 0]) [] [zV 89 (.map (some mk)),zV 91 (.string o.key),zV 95 (.map (some mk)),zV 97 (.string o.key)] ?_
     refine JRg_lookr (.o 3 none) mk 130 9 43 (MapKept.IsKey TypeDesc.string) (.string o.key) (.slice none 0 0) false (some 98) (by kernel_rfl) (by kernel_rfl) (by kernel_rfl) keyOk_9 (by first|exact⟨_,_,_,rfl⟩|simp[MapKept.IsKey]) (by kernel_rfl) rfl hmo (fun hno=>?_) (fun v hv=>?_)
     ·refine Ym (id:=22) (rest:=[(15,false),(16,false)]) [.rd 13 [.o 5 none,.o 5 none,.o 5 none] 0 0,.wr 14 [] 0] [95,97] (fun nu4=>[(100,.val (.slice (some (⟨nu4 0,0,none⟩)) 1 1))]) (fun nu4=>[(b,.cells #[.int .i64 (↑base.length:Int),.slice ba base.length cb,.map (some mk),.map (some md)] 133 (0,0)),(nu1 0,.cells #[.slice u1 c.when.length d1,.int .i64 c.place,.slice (some (⟨bq,oq,none⟩)) c.ops.length d2] 28 (0,0)),(md,Obj.map es4 clock4),(mk,Obj.map es2 clock2),(nu2 0,.cells #[.int .i64 o.no,.string o.key,.int .i64 o.kind,.string o.text,.int .i64 o.n,.bool o.remove,.slice a1_0 ((List.map eDot o.dots).length) c1_0] 24 (0,0)),(nu3 0,.cells #[.slice u1 c.when.length d1,.int .i64 c.place,.slice (some (⟨bq,oq+i.toNat*7,none⟩)) 1 (d2 - i.toNat)] 28 (0,0)),(nu4 0,.cells #[.slice u1 c.when.length d1,.int .i64 c.place,.slice (some (⟨bq,oq+i.toNat*7,none⟩)) 1 (d2 - i.toNat)] 28 (0,0))]) [(15,[]),(16,[3])] (fun nu4=>?_)
      refine JR_appm 1 43 28 3 56 (.agg #[.slice none 0 0,.int .i64 0,.slice none 0 0]) (a0:=none) (len:=0) (cap0:=0) (ax:=(some (⟨nu4 0,0,none⟩))) (m:=1) (c:=1) (dst:=(some 101)) [(⟨c.when,c.place,[o]⟩:ComT)] (by kernel_rfl) (by kernel_rfl) (by kernel_rfl) (by kernel_rfl) rfl (by decide) rfl (fun _ _ _ s=>src_one s 6 rfl rfl ⟨.inr (.inl (List.mem_of_getElem? (i:=7) rfl)),⟨.inl ⟨rfl,rfl⟩,⟨.inr (.inl (List.mem_of_getElem? (i:=11) rfl)),trivial⟩⟩⟩) (by simp only[maxLen];omega) (by omega) (fun av1 cv1=>?_)
      try simp only[aQ]
      refine JRg_puts 3 mk 130 9 43 (MapKept.IsKey TypeDesc.string) (.string o.key) (.slice av1 1 cv1) none (by kernel_rfl) (by kernel_rfl) (by kernel_rfl) keyOk_9 (by first|exact⟨_,_,_,rfl⟩|simp[MapKept.IsKey]) rfl hmo (fun es5 clock5 hm5 hsz5 hst5=>?_)
      try simp only[aQ]
      refine JR_end ?_
      try simp only[aQ]
      refine J_eb ?_
      try simp only[aQ]
      refine Zp [.rd 0 [] 0 1,zR 1] [] [zI 66 (i+1)] [IntKind.i64.wrap (i+1)=i+1] ⟨wrap_i64 (by omega) (by omega),trivial⟩ ?_
      try simp only[aQ]
      refine Nm [(cStar (List.map (fun t=>cAcc (F2 t) 28 3 (List.map eCom (keyC A t))) ks2)),cAcc (.slice av1 1 cv1) 28 3 (List.map eCom [ComT.mk c.when c.place [o]])] ?_
      have hE2:=map_new (t:=o.key) (Q:=fun t=>cAcc (F2 t) 28 3 ((keyC A t).map eCom)) (Q':=fun t=>cAcc (upd F2 o.key (.slice av1 1 cv1) t) 28 3 ((keyC (A++[(⟨c.when,c.place,o⟩:PutT)]) t).map eCom)) (ks:=ks2) fun s hs=>by
       have hne:s≠o.key:=fun he=>hT2 (he ▸ hs)
       show cAcc (upd F2 o.key (.slice av1 1 cv1) s) _ 3 ((keyC (A++[(⟨c.when,c.place,o⟩:PutT)]) s).map eCom)=cAcc (F2 s) _ 3 ((keyC A s).map eCom)
       rw[upd_ne _ _ hne,hko s hne]
      refine J_stp (stp_join 1 0 ks2.length (cs':=(ks2++[o.key]).map fun t=>cAcc (upd F2 o.key (.slice av1 1 cv1) t) 28 3 ((keyC (A++[(⟨c.when,c.place,o⟩:PutT)]) t).map eCom)) rfl rfl (by decide) (by
       rw[List.getElem?_map,show(ks2++[o.key])[ks2.length]?=some o.key by simp]
       show some (cAcc (upd F2 o.key (.slice av1 1 cv1) o.key) _ 3 ((keyC (A++[(⟨c.when,c.place,o⟩:PutT)]) o.key).map eCom))=_
       rw[upd_at,hkn,ho0]
       rfl) hE2) ?_
      rw[←hA2]
      refine Nm [(cStar (List.map (fun t=>cAcc (upd F2 o.key (Value.slice av1 1 cv1) t) 28 3 (List.map eCom (keyC (L++putsOf c (List.take (i+1).toNat c.ops)) t))) (ks2++[o.key])))] ?_
      refine J_backx ⟨i+1,_,_,ks2++[o.key],upd F2 o.key (.slice av1 1 cv1),_,_⟩ [0,3,4,64,65,66] [0,1,2,3] [0] [0,1,2,3,4,5,6,7,8] ?_ ?_ (by kernel_rfl) rfl rfl rfl
      ·refine⟨by simp only;omega,by simp only;omega,hm5.congr (strG_new hT2),hst5 hst2,List.nodup_append.2 ⟨hnd2,by simp,fun a ha b hb=>?_⟩,fun t=>?_,?_⟩
       ·rw[List.mem_singleton]at hb
        subst hb
        exact fun he=>hT2 (by rw[←he];exact ha)
       ·dsimp only
        rw[hA2]
        by_cases hs:t=o.key
        ·subst hs
         rw[hkn]
         simp
        ·rw[hko t hs,List.mem_append,List.mem_singleton]
         exact⟨fun h=>h.elim (hiff2 t).1 fun h=>absurd h hs,fun h=>.inl ((hiff2 t).2 h)⟩
       ·dsimp only
        rw[hA2]
        exact hmd2
      ·simp only
       omega
     ·rw[strG_out hT2]at hv
      cases hv
   ·have hil6:c.ops.take i.toNat=c.ops:=List.take_of_length_le (by simp at hlt5;omega)
    rw[hil6]at hiff2 hmd
    rw[hil6]
    refine J_exit rfl ?_
    refine Zs [zR 0] [67,0,3,64,65,66] [] ?_
    refine Yr [[]] (.nilIface) fun a w s=>?_
    exact .inr ⟨hsc,_,_,ks2,F2,((((s.hide 0 rfl).hide 1 rfl).hide 1 rfl).stp (stp_conv 2 rfl (mapg_eqv hmd))).ret (by simp) [1,3,0,2] [] rfl rfl,hmo,hst2,hnd2,hiff2⟩
end Go.Proofs.YtpjkiomccpjboaaGreatDoor
end
section
namespace Go.Proofs.YtpjkiomccpjboaaGreatDoor
open Go Go.Sx
def atErr (p:Nat) (base:List Int) (key:ByteArray) (at':List Int):Nat:=
 if nameOk key=false then 4 else if vecErr at'≠0 then vecErr at' else if at'.length≠p then 3 else if inL base at'=false then 9 else 0
def withinC (L:List PutT) (key:ByteArray) (at':List Int):List ComT:=(keyC L key).filter fun c=>inL c.when at'
theorem len2 {α:Type} {l:List α} (h:l.length=2):∃x y,l=[x,y]:=by
 match l,h with
 | [x,y],_=>exact⟨x,y,rfl⟩
theorem mem_keyC {L:List PutT} {key:ByteArray} {x:ComT} (h:x∈keyC L key):∃q∈L,x=oneC q:=by
 obtain⟨q,hq,rfl⟩:=List.mem_map.1 h
 exact⟨q,(List.mem_filter.1 hq).1,rfl⟩
structure WithR where
 i:Int
 a:Option Addr
 k:Nat
 c:Nat
set_option maxHeartbeats 4000000 in
theorem vWithinK {w:World} {S:Nat→Prop} {M:List Nat} {er:Nat→Addr} {eb:Nat→Array Value×TypeId} {b mk md:Nat} {ba a1:Option Addr} {p nb cb n1 c1 clock:Nat} {base at':List Int} {es:Array MapEntry} {ks:List ByteArray} {F:ByteArray→Value} {L:List PutT} {key:ByteArray} (hC:Rep w S .nilIface (dC er eb))
  (hP:Pre w S M [cObj b (.cells #[.int .i64 p,.slice ba nb cb,.map (some mk),.map (some md)] 133 (0,0)),cObj mk (.map es clock),cStar (ks.map fun t=>cAcc (F t) 28 3 ((keyC L t).map eCom)),cMapG md okDot (dotSet (L.map dotP))])
  (hb:Rep w S (.slice ba nb cb) (dInts base)) (hbv:vecErr base=0) (hbl:base.length=p) (h1:Rep w S (.slice a1 n1 c1) (dInts at')) (hl1:at'.length≤1000000) (hL:L.length≤1000000) (hLv:∀q∈L,vecErr q.when=0∧q.when.length=p)
  (hm:MapG (MapKept.IsKey .string) es (strG ks F)) (hnd:ks.Nodup) (hiff:∀t,t∈ks↔keyC L t≠[]) :
  Calls Tryz.prog 78 #[.pointer (some ⟨b,0,none⟩),.string key,.slice a1 n1 c1] w fun e w'=>
   (atErr p base key at'≠0∧Ret M w S w' e (.tuple #[.slice none 0 0,.iface 243 (.pointer (some (er (atErr p base key at'))))]) [cObj b (.cells #[.int .i64 p,.slice ba nb cb,.map (some mk),.map (some md)] 133 (0,0)),cObj mk (.map es clock),cStar (ks.map fun t=>cAcc (F t) 28 3 ((keyC L t).map eCom)),cMapG md okDot (dotSet (L.map dotP))] []) ∨
   (atErr p base key at'=0∧∃ua un uc,Ret M w S w' e (.tuple #[.slice ua un uc,.nilIface]) [cObj b (.cells #[.int .i64 p,.slice ba nb cb,.map (some mk),.map (some md)] 133 (0,0)),cObj mk (.map es clock),cStar (ks.map fun t=>cAcc (F t) 28 3 ((keyC L t).map eCom)),cMapG md okDot (dotSet (L.map dotP))] [(.slice ua un uc,.sl 3 ((withinC L key at').map eCom))]):=by
 obtain rfl:=rep_ints_len h1
 obtain rfl:=rep_ints_len hb
 subst hbl
 refine enG Tryz.func78 bd78 (args:=[.pointer (some ⟨b,0,none⟩),.string key,.slice a1 at'.length c1]) (S:=S) (G:=[(_,dC er eb),(_,dInts at'),(_,dInts base)]) (by kernel_rfl) hP (.cons hC (.cons h1 (.cons hb (.nil _ _)))) ?_
 refine J_show 0 rfl ?_
 refine J_stp (stp_all 0 [3,2,8] rfl rfl) ?_
 refine J_glob 3 rfl (fun csg1 tyg1 fzg1 hglob1=>?_)
 refine J_glob 4 rfl (fun csg2 tyg2 fzg2 hglob2=>?_)
 refine J_glob 5 rfl (fun csg3 tyg3 fzg3 hglob3=>?_)
 try simp only[aQ]
 refine Zs [zR 0,zR 1] [] [zS 6 none 0 0,zV 7 .nilIface] ?_
 refine J_seq ?_
 refine jS [(0,true),(1,false),(2,true)] [] ?_
 refine Ya (id:=1) (rest:=[(1,false),(2,true)]) [zR 0] [] [zV 16 (.string key)] ?_
 refine Yc 54 #[.string key] (some 17) fun w S hG=>?_
 refine(vName (w:=w) (S:=S) (s0:=key)).mono ?_
 rintro e1 w1 hR
 refine⟨_,_,_,hR,?_⟩
 cases hnm:nameOk key with
 | false=>
  have hae:atErr base.length base key at'=4:=by rw[atErr,if_pos hnm]
  rw[hae]
  try simp only[aQ]
  refine Ya (id:=1) (rest:=[]) [zR 2] [17,16] [zB 18 true] ?_
  refine JR_end ?_
  refine cTt ?_
  refine Zt [.rd 0 [.r 0 (some (.iface 243 (.pointer (some (er 4)))))] 0 0,zR 1,zR 2] [18] [zV 7 (.iface 243 (.pointer (some (er 4))))] [csg1[(0:Nat)]?=some (Value.iface (243:Nat) (Value.pointer (some (er (4:Nat)))))] ⟨hglob1,trivial⟩ ?_
  refine Yr [[],[]] (.tuple #[.slice none 0 0,.iface 243 (.pointer (some (er 4)))]) fun a w s=>?_
  exact .inl ⟨by decide,(s.hide 0 rfl).ret (by simp) [3,0,1,2] [] rfl rfl⟩
 | true=>
 try simp only[aQ]
 refine Ya (id:=1) (rest:=[]) [zR 2] [17,16] [zB 18 false] ?_
 refine JR_end ?_
 refine cF ?_
 refine J_skip (J_seq ?_)
 refine jS [(0,true),(1,false),(2,true)] [] ?_
 refine Ya (id:=3) (rest:=[(1,false),(2,true)]) [zR 0] [18] [zS 20 a1 at'.length c1] ?_
 refine Yc 59 #[.slice a1 at'.length c1] (some 21) fun w S hG=>?_
 refine(vcheck (globs_of (hG.at 0 rfl)) (hG.at 1 rfl) hl1).mono ?_
 rintro e2 w2 ⟨v,hR,hv⟩
 refine⟨_,_,_,hR,?_⟩
 obtain⟨hv0,rfl⟩|⟨hv0,rfl⟩:=hv
 case inr=>
  have hae:atErr base.length base key at'=vecErr at':=by rw[atErr,if_neg (by simp[hnm]),if_pos hv0]
  rw[hae]
  try simp only[aQ]
  refine Ya (id:=3) (rest:=[]) [zR 2] [21,20] [zV 8 (.iface 243 (.pointer (some (er (vecErr at')))))] ?_
  refine JR_end ?_
  refine Zs [zR 0,zR 1] [] [zB 23 true] ?_
  refine cTt ?_
  refine Zs (Rds 0 3) [23,8] [zV 7 (.iface 243 (.pointer (some (er (vecErr at')))))] ?_
  refine Yr [[],[]] (.tuple #[.slice none 0 0,.iface 243 (.pointer (some (er (vecErr at'))))]) fun a w s=>?_
  exact .inl ⟨hv0,(s.hide 0 rfl).ret (by simp) [3,0,1,2] [] rfl rfl⟩
 by_cases hal:at'.length=base.length
 case neg=>
  have hae:atErr base.length base key at'=3:=by rw[atErr,if_neg (by simp[hnm]),if_neg (by simp[hv0]),if_pos hal]
  have hal2:¬(at'.length:Int)=base.length:=by omega
  rw[hae]
  try simp only[aQ]
  refine Ya (id:=3) (rest:=[]) [zR 2] [21,20] [zV 8 .nilIface] ?_
  refine JR_end ?_
  refine Zs [zR 0,zR 1] [] [zB 23 false] ?_
  refine cF ?_
  refine J_skip (J_seq ?_)
  refine Zt (Rds 0 5++[.rd 5 [.o 0 none] 0 0,.rd 6 [] 0 6]) [23,8] [zB 31 true] [((↑at'.length:Int) != (↑base.length:Int))=true] ⟨by simp;omega,trivial⟩ ?_
  refine cTt ?_
  refine Zt [.rd 0 [.r 1 (some (.iface 243 (.pointer (some (er 3)))))] 0 0,zR 1,zR 2] [31] [zV 7 (.iface 243 (.pointer (some (er 3))))] [csg2[(0:Nat)]?=some (Value.iface (243:Nat) (Value.pointer (some (er (3:Nat)))))] ⟨hglob2,trivial⟩ ?_
  refine Yr [[],[]] (.tuple #[.slice none 0 0,.iface 243 (.pointer (some (er 3)))]) fun a w s=>?_
  exact .inl ⟨by decide,(s.hide 0 rfl).ret (by simp) [3,0,1,2] [] rfl rfl⟩
 have htw:twoErr base at'=0:=by rw[twoErr,if_neg (by simp[hbv]),if_neg (by simp[hv0]),if_neg (by simp[hal])]
 have hvl:=vecErr_len hbv
 have hal2:(at'.length:Int)=base.length:=by omega
 try simp only[aQ]
 refine Ya (id:=3) (rest:=[]) [zR 2] [21,20] [zV 8 .nilIface] ?_
 refine JR_end ?_
 refine Zs [zR 0,zR 1] [] [zB 23 false] ?_
 refine cF ?_
 refine J_skip (J_seq ?_)
 refine Zt (Rds 0 5++[.rd 5 [.o 0 none] 0 0,.rd 6 [] 0 7]) [23,8] [zB 31 false] [((↑at'.length:Int) != (↑base.length:Int))=false] ⟨by simp;omega,trivial⟩ ?_
 refine cF ?_
 refine J_skip (J_seq ?_)
 refine jS [(0,true),(1,true),(2,true),(3,true),(4,true),(5,false),(6,true),(7,true),(8,true),(9,true),(10,true)] [] ?_
 refine Ya (id:=8) (rest:=[(5,false),(6,true),(7,true),(8,true),(9,true),(10,true)]) (Rds 0 3++[.rd 3 [.o 0 none] 0 0,zR 4]) [31] [zS 37 ba base.length cb,zS 38 a1 at'.length c1] ?_
 refine Yc 52 #[.slice ba base.length cb,.slice a1 at'.length c1] (some 39) fun w S hG=>?_
 refine(vwithin (globs_of (hG.at 0 rfl)) (hG.at 2 rfl) (hG.at 1 rfl) (by omega) hl1).mono ?_
 rintro e3 w3 (⟨htw2,_⟩|⟨_,hR⟩)
 ·exact absurd htw htw2
 refine⟨_,_,_,hR,?_⟩
 cases hin:inL base at' with
 | false=>
  have hae:atErr base.length base key at'=9:=by rw[atErr,if_neg (by simp[hnm]),if_neg (by simp[hv0]),if_neg (by simp[hal]),if_pos hin]
  rw[hae]
  try simp only[aQ]
  refine Ya (id:=8) (rest:=[]) (Rds 6 11) [39,37,38] [zB 9 false] ?_
  refine JR_end ?_
  refine Zs [zR 0,zR 1] [9] [zB 43 true] ?_
  refine cTt ?_
  refine Zt [.rd 0 [.r 2 (some (.iface 243 (.pointer (some (er 9)))))] 0 0,zR 1,zR 2] [43] [zV 7 (.iface 243 (.pointer (some (er 9))))] [csg3[(0:Nat)]?=some (Value.iface (243:Nat) (Value.pointer (some (er (9:Nat)))))] ⟨hglob3,trivial⟩ ?_
  refine Yr [[],[]] (.tuple #[.slice none 0 0,.iface 243 (.pointer (some (er 9)))]) fun a w s=>?_
  exact .inl ⟨by decide,(s.hide 0 rfl).ret (by simp) [3,0,1,2] [] rfl rfl⟩
 | true=>
  have hae:atErr base.length base key at'=0:=by rw[atErr,if_neg (by simp[hnm]),if_neg (by simp[hv0]),if_neg (by simp[hal]),if_neg (by simp[hin])]
  rw[hae]
  try simp only[aQ]
  refine Ya (id:=8) (rest:=[]) (Rds 6 11) [39,37,38] [zB 9 true] ?_
  refine JR_end ?_
  refine Zs [zR 0,zR 1] [9] [zB 43 false] ?_
  refine cF ?_
  refine J_skip ?_
  refine Zs [zR 0] [43] [zS 11 none 0 0] ?_
  refine J_seq (J_seq ?_)
  refine J_show 0 rfl ?_
  by_cases hT:key∈ks
  ·obtain⟨iT,hit⟩:=List.getElem?_of_mem hT
   refine Nm [(cStar (List.map (fun t=>cAcc (F t) 28 3 (List.map eCom (keyC L t))) ks)),(cMapG md okDot (dotSet (List.map dotP L)))] ?_
   refine J_stp (stp_take (c:=cAcc (F key) 28 3 ((keyC L key).map eCom)) 0 iT rfl (by rw[List.getElem?_map,hit];rfl)) ?_
   refine J_stpx (stp_accform 1 rfl) fun y hF=>?_
   obtain⟨av,nv,cv⟩:=y
   obtain⟨hF,hn⟩:=hF
   dsimp only at hF hn
   rw[List.length_map]at hn
   rw[hF]
   refine J_stp (stp_accm eCom 28 3) ?_
   refine Nm [(cMapG md okDot (dotSet (List.map dotP L))),cAcc (.slice av nv cv) 28 3 (List.map eCom (keyC L key)),(cStar ((List.map (fun t=>cAcc (F t) 28 3 (List.map eCom (keyC L t))) ks).eraseIdx iT)),cAcc (.slice none 0 0) 28 3 (List.map eCom [])] ?_
   refine jT [(0,true),(1,true),(2,true),(3,true),(4,true),(5,true),(6,true),(7,true)] [] ?_
   refine Ya (id:=12) (rest:=[(5,true),(6,true),(7,true)]) (Rds 0 3++[.rd 3 [.o 0 none] 0 0,zR 4]) [0,1] [zV 48 (.map (some mk)),zV 49 (.string key)] ?_
   refine JRg_lookr (.o 1 none) mk 130 9 43 (MapKept.IsKey TypeDesc.string) (.string key) (.slice none 0 0) false (some 50) (by kernel_rfl) (by kernel_rfl) (by kernel_rfl) keyOk_9 (by first|exact⟨_,_,_,rfl⟩|simp[MapKept.IsKey]) (by kernel_rfl) rfl hm (fun hno=>?_) (fun v hv=>?_)
   ·rw[strG_in hT]at hno
    cases hno
   ·rw[strG_in hT,hF]at hv
    cases hv
    have hkl:=keyC_len L key
    subst hn
    refine Ya (id:=12) (rest:=[]) [zR 6,zR 7] [48,49] [zI 51 ((↑(keyC L key).length:Int)),zI 52 0] ?_
    refine JR_end (J_block ?_)
    have hwd:withinC L key at'=((keyC L key).take (keyC L key).length).filter fun c=>inL c.when at':=by rw[List.take_length];rfl
    rw[hwd]
    have hKv:∀x∈keyC L key,twoErr x.when at'=0∧x.when.length≤6:=fun x hx=>by
     obtain⟨q,hq,rfl⟩:=mem_keyC hx
     obtain⟨h1,h2⟩:=hLv q hq
     have h3:(oneC q).when=q.when:=rfl
     rw[h3]
     refine⟨?_,?_⟩
     ·rw[twoErr,if_neg (by simp[h1]),if_neg (by simp[hv0]),if_neg (by simp[h2,hal])]
     ·omega
    generalize hKL:keyC L key=KL at hkl hKv ⊢
    refine J_loopx (fun x:WithR=>[zS 2 a1 at'.length c1,zS 6 none 0 0,zV 7 .nilIface,zS 11 x.a x.k x.c,zS 50 av KL.length cv,zI 51 (↑KL.length:Int),zI 52 x.i]) (fun x:WithR=>[(b,.cells #[nI (↑base.length:Int),.slice ba base.length cb,.map (some mk),.map (some md)] 133 (0,0)),(mk,Obj.map es clock)]) (fun x:WithR=>[cMapG md okDot (dotSet (L.map dotP)),cAcc (.slice av KL.length cv) 28 3 (KL.map eCom),cStar ((ks.map fun t=>cAcc (F t) 28 3 ((keyC L t).map eCom)).eraseIdx iT),cAcc (.slice x.a x.k x.c) 28 3 (((KL.take x.i.toNat).filter fun c=>inL c.when at').map eCom)]) (fun x:WithR=>[(.nilIface,(dC er eb)),(.slice a1 at'.length c1,(dInts at')),(.slice ba base.length cb,(dInts base)),(.pointer (sA 1 0),(D.ptr [D.v (Value.iface 243 (Value.pointer (some (er 4))))])),(.pointer (sA 3 0),(D.ptr [D.v (Value.iface 243 (Value.pointer (some (er 3))))])),(.pointer (sA 4 0),(D.ptr [D.v (Value.iface 243 (Value.pointer (some (er 9))))]))]) (fun x:WithR=>(KL.length - x.i).toNat) (fun x:WithR=>(0≤x.i∧x.i≤KL.length)) ⟨0,none,0,0⟩ [2,6,7,11,50,51,52] [0,1] [0,1,2,3] [0,1,2,3,4,5] ?_ (by kernel_rfl) rfl rfl rfl ?_
    ·exact⟨by simp,by simp⟩
    rintro⟨i,a3,k3,c3⟩ ⟨hi0,hi⟩
    dsimp only at hi0 hi ⊢
    refine J_stpx (stp_acclen 3 rfl) fun _ hk3=>?_
    have hk4:k3≤1000000:=by
     rw[List.length_map]at hk3
     have h1:=List.length_filter_le (fun c:ComT=>inL c.when at') (KL.take i.toNat)
     rw[List.length_take]at h1
     omega
    refine Zs [zR 0] [] [zB 53 (decide (i<(↑KL.length:Int)))] ?_
    refine J_seq ?_
    refine cC (t:=decide (i<(↑KL.length:Int))) (fun hlt=>?_) (fun hlt=>?_)
    ·have hlt2:i<KL.length:=by simpa using hlt
     obtain⟨x,hx⟩:∃x,KL[i.toNat]?=some x:=⟨_,List.getElem?_eq_getElem (by omega)⟩
     obtain⟨hx1,hx2⟩:=hKv x (List.mem_of_getElem? hx)
     refine J_openacc 1 rfl (by intro h0;rw[List.map_eq_nil_iff]at h0;rw[h0]at hx;simp at hx) fun g cur xs hu _ _ hrow=>?_
     subst hu
     refine J_stpx (stp_readrows 3 rfl i.toNat (map_at hx)) fun ls hls=>?_
     obtain⟨hls1,hls2⟩:=hls
     obtain⟨⟨xa,xc⟩,⟨ya,yc⟩,rfl⟩:=len2 hls1
     have f:=fun(j:Nat) v h=>hrow.atx (hls2 j v h)
     have r0:=f 0 _ rfl
     have r1:=f 1 _ rfl
     have r2:=f 2 _ rfl
     rw[Nat.add_zero]at r0
     rw[←Nat.zero_add (i.toNat*3)]at r0 r1 r2
     refine Nm [(cMapG md okDot (dotSet (List.map dotP L))),(cStar ((List.map (fun t=>cAcc (F t) 28 3 (List.map eCom (keyC L t))) ks).eraseIdx iT)),cAcc (.slice a3 k3 c3) 28 3 (List.map eCom (List.filter (fun c=>inL c.when at') (List.take i.toNat KL))),(cRows xs 3 (List.map eCom KL))] ?_
     try simp only[aQ]
     refine J_skip (J_seq (J_block ?_))
     refine Zu [.rd 0 [] 0 2,.rd 1 [.o 2 (some (.slice (xa,xc).fst ((List.map eI x.when).length) xc)),.o 2 (some (nI x.place)),.o 2 (some (.slice (ya,yc).fst ((List.map eOp x.ops).length) yc))] 0 0,.wr 2 [] 0,.wr 3 (hnO 3 3) 0] [(3,[])] [53] (fun nu1=>[zP 13 (nu1 0)]) (fun nu1=>[(b,.cells #[nI (↑base.length:Int),.slice ba base.length cb,.map (some mk),.map (some md)] 133 (0,0)),(mk,Obj.map es clock),(g,.cells cur 28 (0,0)),(nu1 0,.cells #[.slice (xa,xc).fst ((List.map eI x.when).length) xc,nI x.place,.slice (ya,yc).fst ((List.map eOp x.ops).length) yc] 28 (0,0))]) (fun nu1=>[0≤i,i<(↑KL.length:Int),cur[(0:Nat)+i.toNat*3]?=some (Value.slice (xa,xc).fst (List.map eI x.when).length (xa,xc).snd),cur[(0:Nat)+i.toNat*3+(1:Nat)]?=some (nI x.place),cur[(0:Nat)+i.toNat*3+(2:Nat)]?=some (Value.slice (ya,yc).fst (List.map eOp x.ops).length (ya,yc).snd)]) (fun _=>⟨hi0,hlt2,r0,r1,r2,trivial⟩) (fun nu1=>?_)
     refine J_seq ?_
     refine J_hide 2 rfl ?_
     refine J_stp (stp_closeacc 4 3 rfl rfl hrow (by decide)) ?_
     rw[show(List.map eCom KL).length=KL.length from List.length_map ..]
     refine Nm [(cMapG md okDot (dotSet (List.map dotP L))),(cStar ((List.map (fun t=>cAcc (F t) 28 3 (List.map eCom (keyC L t))) ks).eraseIdx iT)),cAcc (.slice a3 k3 c3) 28 3 (List.map eCom (List.filter (fun c=>inL c.when at') (List.take i.toNat KL))),cAcc (.slice (sA g 0) KL.length cv) 28 3 (List.map eCom KL)] ?_
     refine jT [(0,true),(1,true),(2,true),(3,false),(4,true),(5,true),(6,true),(7,true),(8,true)] [] ?_
     refine Ya (id:=15) (rest:=[(3,false),(4,true),(5,true),(6,true),(7,true),(8,true)]) [zR 0,.rd 1 [.o 2 none] 0 0,zR 2] [] [zS 58 (xa,xc).fst ((List.map eI x.when).length) xc,zS 59 a1 at'.length c1] ?_
     refine Yc 52 #[.slice (xa,xc).fst ((List.map eI x.when).length) xc,.slice a1 at'.length c1] (some 60) fun w S hG=>?_
     refine(vwithin (globs_of (hG.at 0 rfl)) (hG.at 6 rfl) (hG.at 1 rfl) (by omega) hl1).mono ?_
     rintro e4 w4 (⟨hx3,_⟩|⟨_,hR⟩)
     ·exact absurd hx1 hx3
     refine⟨_,_,_,hR,?_⟩
     cases hxi:inL x.when at' with
     | false=>
      have e9:(KL.take i.toNat).filter (fun c=>inL c.when at')=(KL.take (i+1).toNat).filter fun c=>inL c.when at':=by
       rw[←take_snoc hi0 hx,List.filter_append]
       simp[hxi]
      try simp only[aQ]
      refine Ya (id:=15) (rest:=[]) (Rds 4 9) [60,58,59] [zB 14 false] ?_
      refine JR_end ?_
      refine Zs [zR 0] [] [zB 63 false] ?_
      refine cF ?_
      refine J_skip (J_eb ?_)
      refine Zp [.rd 0 [] 0 1,zR 1] [63] [zI 52 (i+1)] [IntKind.i64.wrap (i+1)=i+1] ⟨wrap_i64 (by omega) (by omega),trivial⟩ ?_
      rw[e9]
      refine J_backx ⟨i+1,_,_,_⟩ [2,6,7,11,50,51,52] [0,1] [0,3,1,2] [0,1,2,3,4,5] ?_ ?_ (by kernel_rfl) rfl rfl rfl
      ·exact⟨by simp only;omega,by simp only;omega⟩
      ·simp only
       omega
     | true=>
      have e9:(KL.take i.toNat).filter (fun c=>inL c.when at')++[x]=(KL.take (i+1).toNat).filter fun c=>inL c.when at':=by
       rw[←take_snoc hi0 hx,List.filter_append]
       simp[hxi]
      try simp only[aQ]
      refine Ya (id:=15) (rest:=[]) (Rds 4 9) [60,58,59] [zB 14 true] ?_
      refine JR_end ?_
      refine Zs [zR 0] [] [zB 63 true] ?_
      refine cTt ?_
      refine jT [(0,true),(1,true),(2,false),(3,false),(4,true)] [] ?_
      refine Ym (id:=17) (rest:=[(3,false),(4,true)]) [zR 0,.rd 1 (hnO 2 3) 0 0,.wr 2 [] 0] [63] (fun nu2=>[zS 64 a3 k3 c3,zS 66 (sA (nu2 0) 0) 1 1]) (fun nu2=>[(b,.cells #[nI (↑base.length:Int),.slice ba base.length cb,.map (some mk),.map (some md)] 133 (0,0)),(mk,Obj.map es clock),(nu1 0,.cells #[.slice xa ((List.map eI x.when).length) xc,nI x.place,.slice ya ((List.map eOp x.ops).length) yc] 28 (0,0)),(nu2 0,.cells #[.slice xa ((List.map eI x.when).length) xc,nI x.place,.slice ya ((List.map eOp x.ops).length) yc] 28 (0,0))]) [] (fun nu2=>?_)
      refine JR_appm 2 43 28 3 56 (.agg #[.slice none 0 0,.int .i64 0,.slice none 0 0]) (a0:=a3) (len:=k3) (cap0:=c3) (ax:=(some (⟨nu2 0,0,none⟩))) (m:=1) (c:=1) (dst:=(some 67)) [x] (by kernel_rfl) (by kernel_rfl) (by kernel_rfl) (by kernel_rfl) rfl (by decide) rfl (fun _ _ _ s=>src_one s 3 rfl rfl ⟨.inr (.inl (List.mem_of_getElem? (i:=6) rfl)),⟨.inl ⟨rfl,rfl⟩,⟨.inr (.inl (List.mem_of_getElem? (i:=7) rfl)),trivial⟩⟩⟩) (by simp only[maxLen];omega) (by omega) (fun av1 cv1=>?_)
      rw[e9]
      try simp only[aQ]
      refine Ya (id:=17) (rest:=[]) [zR 4] [67,64,66] [zS 11 av1 (k3+1) cv1] ?_
      try simp only[aQ]
      refine JR_end ?_
      try simp only[aQ]
      refine J_eb ?_
      try simp only[aQ]
      refine Zp [.rd 0 [] 0 1,zR 1] [] [zI 52 (i+1)] [IntKind.i64.wrap (i+1)=i+1] ⟨wrap_i64 (by omega) (by omega),trivial⟩ ?_
      try simp only[aQ]
      refine J_backx ⟨i+1,_,_,_⟩ [2,6,7,11,50,51,52] [0,1] [0,2,1,3] [0,1,2,3,4,5] ?_ ?_ (by kernel_rfl) rfl rfl rfl
      ·exact⟨by simp only;omega,by simp only;omega⟩
      ·simp only
       omega
    ·have hil:KL.take i.toNat=KL:=List.take_of_length_le (by simp at hlt;omega)
     rw[hil,List.take_length]
     refine J_exit rfl ?_
     refine Zs (Rds 0 3) [53,2,11,50,51,52] [zS 6 a3 k3 c3] ?_
     refine Yr [[],[]] (.tuple #[.slice a3 k3 c3,.nilIface]) fun a w s=>?_
     have hjn:(ks.map fun t=>cAcc (F t) 28 3 ((keyC L t).map eCom))[iT]?=some (cAcc (.slice av KL.length cv) 28 3 (KL.map eCom)):=by
      rw[List.getElem?_map,hit]
      show some (cAcc (F key) _ 3 ((keyC L key).map eCom))=_
      rw[hF,hKL]
     exact .inr ⟨by first|rfl|trivial,_,_,_,((((s.stp (stp_freeze 3 rfl)).stp (stp_join 1 2 iT (cs':=ks.map fun t=>cAcc (F t) 28 3 ((keyC L t).map eCom)) rfl rfl (by decide) hjn rfl)).hide 0 rfl).hide 0 rfl).ret (by simp) [2,3,1,0] [6] rfl rfl⟩
  ·have ho0:keyC L key=[]:=Classical.byContradiction fun h=>hT ((hiff _).2 h)
   refine jT [(0,true),(1,true),(2,true),(3,true),(4,true),(5,true),(6,true),(7,true)] [] ?_
   refine Ya (id:=12) (rest:=[(5,true),(6,true),(7,true)]) (Rds 0 3++[.rd 3 [.o 0 none] 0 0,zR 4]) [0,1] [zV 48 (.map (some mk)),zV 49 (.string key)] ?_
   refine JRg_lookr (.o 1 none) mk 130 9 43 (MapKept.IsKey TypeDesc.string) (.string key) (.slice none 0 0) false (some 50) (by kernel_rfl) (by kernel_rfl) (by kernel_rfl) keyOk_9 (by first|exact⟨_,_,_,rfl⟩|simp[MapKept.IsKey]) (by kernel_rfl) rfl hm (fun hno=>?_) (fun v hv=>?_)
   ·have hw0:withinC L key at'=[]:=by rw[withinC,ho0];rfl
    rw[hw0]
    refine Ya (id:=12) (rest:=[]) [zR 6,zR 7] [48,49] [zI 51 0,zI 52 0] ?_
    refine JR_end (J_block ?_)
    refine J_loop1 fun I=>?_
    refine Zs [zR 0] [] [zB 53 false] ?_
    refine J_seq ?_
    refine cF ?_
    refine J_exit rfl ?_
    refine Zs (Rds 0 3) [53,51,52,50,11,2] [] ?_
    refine Yr [[],[]] (.tuple #[.slice none 0 0,.nilIface]) fun a w s=>?_
    exact .inr ⟨by first|rfl|trivial,_,_,_,(((s.stp (stp_fact (v:=.slice none 0 0) (d:=.sl 3 (([]:List ComT).map eCom)) fun _ _ _=>.nil)).hide 0 rfl).hide 0 rfl).ret (by simp) [2,3,0,1] [6] rfl rfl⟩
   ·rw[strG_out hT]at hv
    cases hv
end Go.Proofs.YtpjkiomccpjboaaGreatDoor
end
section
namespace Go.Proofs.YtpjkiomccpjboaaGreatDoor
open Go Go.Sx
theorem opErrAt_iff {l:List OpT} {p:Int} {i:Nat} {o:OpT} (h:l[i]?=some o):opErrAt l p i=0↔opErr o p=0∧∀q,0<i→l[i - 1]?=some q→q.no<o.no:=by
 by_cases h0:opErr o p=0
 ·cases i with
  | zero=>exact⟨fun _=>⟨h0,fun q h=>absurd h (by omega)⟩,fun _=>opErrAt_first h h0⟩
  | succ i=>
   have hi:=(List.getElem?_eq_some_iff.1 h).1
   obtain⟨q,hq⟩:∃q,l[i]?=some q:=⟨_,List.getElem?_eq_getElem (by omega)⟩
   rw[opErrAt_next h hq h0]
   constructor
   ·intro h1
    refine⟨h0,fun q' _ hq'=>?_⟩
    rw[Nat.add_sub_cancel,hq]at hq'
    cases hq'
    split at h1
    ·cases h1
    ·omega
   ·rintro⟨_,h1⟩
    have:=h1 q (by omega) (by rw[Nat.add_sub_cancel];exact hq)
    rw[if_neg (by omega)]
 ·rw[opErrAt_own h h0]
  exact⟨fun h1=>absurd h1 h0,fun h1=>absurd h1.1 h0⟩
theorem ops_fine {l:List OpT} {p:Int}:(∀j,j<l.length→opErrAt l p j=0)↔(∀o∈l,opErr o p=0)∧l.Pairwise fun a b=>a.no<b.no:=by
 constructor
 ·intro h
  have h1:∀j (hj:j<l.length),opErr l[j] p=0∧∀q,0<j→l[j - 1]?=some q→q.no<l[j].no:=fun j hj=>(opErrAt_iff (List.getElem?_eq_getElem hj)).1 (h j hj)
  have h2:∀j (hj:j<l.length) i (hi:i<j),(l[i]'(by omega)).no<l[j].no:=by
   intro j
   induction j with
   | zero=>exact fun _ i hi=>absurd hi (by omega)
   | succ j ih=>
    intro hj i hi
    have h3:=(h1 (j+1) hj).2 (l[j]'(by omega)) (by omega) (by rw[Nat.add_sub_cancel];exact List.getElem?_eq_getElem _)
    rcases Nat.lt_or_ge i j with h4|h4
    ·exact Int.lt_trans (ih (by omega) i h4) h3
    ·obtain rfl:i=j:=by omega
     exact h3
  refine⟨fun o ho=>?_,List.pairwise_iff_getElem.2 fun i j hi hj hij=>h2 j hj i hij⟩
  obtain⟨j,hj,rfl⟩:=List.getElem_of_mem ho
  exact(h1 j hj).1
 ·rintro⟨h1,h2⟩ j hj
  refine(opErrAt_iff (List.getElem?_eq_getElem hj)).2 ⟨h1 _ (List.getElem_mem _),fun q h0 hq=>?_⟩
  obtain⟨hq1,rfl⟩:=List.getElem?_eq_some_iff.1 hq
  exact List.pairwise_iff_getElem.1 h2 (j - 1) j hq1 hj (by omega)
theorem comFault_mk {c:ComT} (h1:vecErr c.when=0) (h2:0≤c.place) (h3:c.place<c.when.length) (h4:c.ops.length≤12) (h5:c.when[c.place.toNat]?≠some 0) (h6:c.ops≠[]) (h7:∀o∈c.ops,opErr o c.when.length=0) (h8:c.ops.Pairwise fun a b=>a.no<b.no):(comFault c).code=0:=by
 have h9:¬c.ops.length=0:=fun h=>h6 (List.length_eq_zero_iff.1 h)
 have h10:=ops_fine.2 ⟨h7,h8⟩
 rw[comFault,if_neg (by simp[h1]),if_neg (by omega),if_neg h5,if_neg h9,(opsFault_from c.ops.length 0 c.ops.length (Nat.zero_le _) fun j _ hj=>h10 j hj).1 (by omega)]
theorem right_pair {c:ComT} (h:(comFault c).code=0):c.ops.Pairwise fun a b=>a.no<b.no:=by
 have hr:=right_of h
 rw[←hr.op]at h
 exact(ops_fine.1 (opsFault_zero h)).2
theorem valFault_mk {key:ByteArray} {l:List ComT} (hk:nameOk key=true) (h:∀c∈l,(comFault c).code=0) (m:Nat) (hm:∀c∈l,c.when.length=m):(valFault key l).code=0:=by
 rw[valFault,if_neg (by simp[hk]),listFault_none fun j hj=>?_]
 have hj2:l[j]?=some l[j]:=List.getElem?_eq_getElem hj
 refine comErrAt_fine hj2 (h _ (List.getElem_mem _)) ?_
 rw[hm _ (List.getElem_mem _)]
 match l,hj,hm with
 | c::r,_,hm=>exact(hm c (List.mem_cons_self ..)).symm
structure PartOf (c' c:ComT):Prop where
 place:c'.place=c.place
 time:c'.when=c.when
 ne:c'.ops≠[]
 ops:c'.ops.Sublist c.ops
theorem PartOf.fault {c' c:ComT} (h:PartOf c' c) (hc:(comFault c).code=0):(comFault c').code=0:=by
 have hr:=right_of hc
 obtain⟨h1,h2,h3,h4⟩:=h
 refine comFault_mk (by rw[h2];exact hr.vec) (by rw[h1];exact hr.p0) (by rw[h1,h2];exact hr.p1) (Nat.le_trans h4.length_le hr.o2) (by rw[h1,h2];exact hr.t0) h3 (fun o ho=>?_) ((right_pair hc).sublist h4)
 rw[h2]
 exact right_ops hc o (h4.subset ho)
theorem mem_allDone {l:List ComT} {x:DoneT}:x∈allDone l↔∃c∈l,∃o∈c.ops,x=doneOf c o:=by
 unfold allDone
 rw[List.mem_flatMap]
 constructor
 ·rintro⟨c,hc,h⟩
  obtain⟨o,ho,rfl⟩:=List.mem_map.1 h
  exact⟨c,hc,o,ho,rfl⟩
 ·rintro⟨c,hc,o,ho,rfl⟩
  exact⟨c,hc,List.mem_map_of_mem ho⟩
theorem PartOf.done {c' c:ComT} (h:PartOf c' c) (o:OpT):doneOf c' o=doneOf c o:=by
 simp only[doneOf,dotOf,h.place,h.time]
theorem firsts_mem {A:List DoneT} (hf:∀x∈A,∀y∈A,x.d=y.d→x=y) {x:DoneT}:x∈firsts [] A↔x∈A:=by
 refine⟨fun h=>(firsts_sub h).1,fun h=>?_⟩
 obtain⟨y,hy,he⟩:=firsts_has (s:=[]) h (by simp)
 obtain rfl:=hf y (firsts_sub hy).1 x h he
 exact hy
theorem opsRaw_nodup (key:ByteArray) (l:List ComT):((opsRaw key l).map (·.d)).Nodup:=(firsts_nodup (s:=[]) (l:=allDone l)).sublist ((List.filter_sublist ..).map _)
theorem opsOf_strict (key:ByteArray) (l:List ComT):(opsOf key l).Pairwise fun a b=>doneLt a b=true:=by
 have hn:=opsRaw_nodup key l
 rw[opsOf,←sort_done hn]
 refine(insG_fold doneLt (fun _ _ _=>doneLt_trans) List.Pairwise.nil (by simp) ((List.pairwise_map.1 hn).imp fun{a b} hne=>?_)).1
 rcases doneLt_tri a b with h1|h1|h1
 ·exact .inl h1
 ·exact absurd (doneKey_dot h1) hne
 ·exact .inr h1
theorem opsOf_mem {key:ByteArray} {l:List ComT} {x:DoneT}:x∈opsOf key l↔x∈firsts [] (allDone l)∧x.o.key=key:=by
 rw[opsOf,sortDone,List.mem_mergeSort,opsRaw,List.mem_filter,decide_eq_true_eq]
theorem valOf_same {key:ByteArray} {l l':List ComT} (h:opsOf key l'=opsOf key l):Sx.valOf key l'=Sx.valOf key l:=by
 simp only[Sx.valOf,ofKey,h]
def Apart (l:List ComT):Prop:=∀(i k:Nat) (c d:ComT),k<i→l[i]?=some c→l[k]?=some d→¬(d.place=c.place∧d.when.getD d.place.toNat 0=c.when.getD c.place.toNat 0)
theorem Apart.fun {l:List ComT} (h:Apart l) (hr:∀c∈l,(comFault c).code=0):∀x∈allDone l,∀y∈allDone l,x.d=y.d→x=y:=by
 intro x hx y hy he
 obtain⟨c,hc,o,ho,rfl⟩:=mem_allDone.1 hx
 obtain⟨d,hd,q,hq,rfl⟩:=mem_allDone.1 hy
 obtain⟨i,hi⟩:=List.getElem?_of_mem hc
 obtain⟨k,hk⟩:=List.getElem?_of_mem hd
 simp only[doneOf,dotOf,DotT.mk.injEq]at he
 obtain⟨e1,e2,e3⟩:=he
 have hik:i=k:=by
  rcases Nat.lt_trichotomy i k with hlt|heq|hlt
  ·exact absurd ⟨e1,e2⟩ (h k i d c hlt hk hi)
  ·exact heq
  ·exact absurd ⟨e1.symm,e2.symm⟩ (h i k c d hlt hi hk)
 subst hik
 rw[hi]at hk
 cases hk
 have hp:=right_pair (hr c hc)
 obtain⟨a,ha,rfl⟩:=List.getElem_of_mem ho
 obtain⟨b,hb,rfl⟩:=List.getElem_of_mem hq
 have hab:a=b:=by
  rcases Nat.lt_trichotomy a b with hlt|heq|hlt
  ·have:=List.pairwise_iff_getElem.1 hp a b ha hb hlt
   omega
  ·exact heq
  ·have:=List.pairwise_iff_getElem.1 hp b a hb ha hlt
   omega
 subst hab
 rfl
end Go.Proofs.YtpjkiomccpjboaaGreatDoor
end
section
namespace Go.Proofs.YtpjkiomccpjboaaGreatDoor
open Go Go.Sx
theorem withinC_fine {L:List PutT} {key:ByteArray} {at':List Int} {p:Nat} (hk:nameOk key=true) (h:∀q∈L,(comFault (oneC q)).code=0∧q.when.length=p):(valFault key (withinC L key at')).code=0:=by
 refine valFault_mk hk (fun c hc=>?_) p fun c hc=>?_
 ·obtain⟨q,hq,rfl⟩:=mem_keyC (List.mem_filter.1 hc).1
  exact(h q hq).1
 ·obtain⟨q,hq,rfl⟩:=mem_keyC (List.mem_filter.1 hc).1
  exact(h q hq).2
theorem withinC_len (L:List PutT) (key:ByteArray) (at':List Int):(withinC L key at').length≤L.length:=
 Nat.le_trans (List.length_filter_le _ _) (keyC_len L key)
noncomputable abbrev chV (b mk md:Nat) (ba:Option Addr) (p nb cb clock:Nat) (es:Array MapEntry) (ks:List ByteArray) (F:ByteArray→Value) (L:List PutT):List Chunk:=[cObj b (.cells #[.int .i64 p,.slice ba nb cb,.map (some mk),.map (some md)] 133 (0,0)),cObj mk (.map es clock),cStar (ks.map fun t=>cAcc (F t) 28 3 ((keyC L t).map eCom)),cMapG md okDot (dotSet (L.map dotP))]
set_option maxHeartbeats 4000000 in
theorem vRead {w:World} {S:Nat→Prop} {M:List Nat} {er:Nat→Addr} {eb:Nat→Array Value×TypeId} {b mk md:Nat} {ba a1:Option Addr} {p nb cb n1 c1 clock:Nat} {base at':List Int} {es:Array MapEntry} {ks:List ByteArray} {F:ByteArray→Value} {L:List PutT} {key:ByteArray} (hC:Rep w S .nilIface (dC er eb))
  (hP:Pre w S M (chV b mk md ba p nb cb clock es ks F L))
  (hb:Rep w S (.slice ba nb cb) (dInts base)) (hbv:vecErr base=0) (hbl:base.length=p) (h1:Rep w S (.slice a1 n1 c1) (dInts at')) (hl1:at'.length≤1000000) (hL:L.length≤300000) (hLr:∀q∈L,(comFault (oneC q)).code=0∧q.when.length=p)
  (hm:MapG (MapKept.IsKey .string) es (strG ks F)) (hnd:ks.Nodup) (hiff:∀t,t∈ks↔keyC L t≠[]) :
  Calls Tryz.prog 38 #[.pointer (some ⟨b,0,none⟩),.string key,.slice a1 n1 c1] w fun e w'=>
   (atErr p base key at'≠0∧Ret M (zero w) S w' e (.tuple #[valZ,.iface 243 (.pointer (some (er (atErr p base key at'))))]) (chV b mk md ba p nb cb clock es ks F L) []) ∨
   (atErr p base key at'=0∧∃ua un uc,Ret M (zero w) S w' e (.tuple #[valA (Sx.valOf key (withinC L key at')) (.slice ua un uc),.nilIface]) (chV b mk md ba p nb cb clock es ks F L) [(.slice ua un uc,dStrs (Sx.valOf key (withinC L key at')).set)]):=by
 have hLv:∀q∈L,vecErr q.when=0∧q.when.length=p:=fun q hq=>⟨(right_of (hLr q hq).1).vec,(hLr q hq).2⟩
 have hvl:=vecErr_len hbv
 refine enG Tryz.func38 bd38 (args:=[.pointer (some ⟨b,0,none⟩),.string key,.slice a1 n1 c1]) (S:=S) (G:=[(_,dC er eb),(_,dInts at'),(_,dInts base)]) (by kernel_rfl) hP (.cons hC (.cons h1 (.cons hb (.nil _ _)))) ?_
 refine J_zero ?_
 refine Zv [.wr 0 [] 0,zR 1] [] [] (fun nu1=>[zP 6 (nu1 0),zV 7 .nilIface]) (fun nu1=>[(nu1 0,.cells #[nI 0,.string (ByteArray.mk #[]),nI 0,.slice none 0 0] 47 (0,0))]) (fun nu1=>?_)
 refine jS [(0,true),(1,true),(2,true),(3,false),(4,true),(5,true),(6,true),(7,true),(8,true)] [] ?_
 refine Ya (id:=1) (rest:=[(3,false),(4,true),(5,true),(6,true),(7,true),(8,true)]) (Rds 0 3) [0,2] [zP 11 b,zV 12 (.string key),zS 13 a1 n1 c1] ?_
 refine JR_call [] [0,1,2,3] 78 #[.pointer (some (⟨b,0,none⟩)),.string key,.slice a1 n1 c1] (some 14) (by kernel_rfl) (by kernel_rfl) (by decide) (fun w S M hP hG _=>?_)
 refine(vWithinK (key:=key) (hG.at 0 rfl) hP (hG.at 2 rfl) hbv hbl (hG.at 1 rfl) hl1 (by omega) hLv hm hnd hiff).mono ?_
 rintro e1 w1 (⟨hae,hR⟩|⟨hae,ua,un,uc,hR⟩)
 ·refine⟨_,_,_,hR,?_⟩
  try simp only[aQ]
  refine Ya (id:=1) (rest:=[]) (Rds 4 9) [14,11,12,13] [zS 8 none 0 0,zV 9 (.iface 243 (.pointer (some (er (atErr p base key at')))))] ?_
  try simp only[aQ]
  refine JR_end ?_
  try simp only[aQ]
  refine J_seq ?_
  try simp only[aQ]
  refine J_seq ?_
  try simp only[aQ]
  refine Za [zR 0,zR 1] [] [zB 18 true] ?_
  try simp only[aQ]
  refine cTt ?_
  try simp only[aQ]
  refine J_seq ?_
  try simp only[aQ]
  refine Zm [zR 0,zR 1,.wr 2 (hnO 0 4) 0,zR 3] [(2,[0])] [18,9] (fun _=>[zV 7 (.iface 243 (.pointer (some (er (atErr p base key at')))))]) (fun _=>[(nu1 0,.cells #[nI 0,.string (ByteArray.mk #[]),nI 0,.slice none 0 0] 47 (0,0))]) (fun _=>?_)
  try simp only[aQ]
  refine Yr [(hnO 0 4),[]] (.tuple #[.agg #[nI 0,.string (ByteArray.mk #[]),nI 0,.slice none 0 0],.iface 243 (.pointer (some (er (atErr p base key at'))))]) fun a w s=>?_
  exact .inl ⟨hae,s.retz (by simp) [0,1,2,3] [] rfl rfl⟩
 ·have hnm:nameOk key=true:=by
   cases hn:nameOk key with
   | true=>rfl
   | false=>
    rw[atErr,if_pos hn]at hae
    cases hae
  have hvf:=withinC_fine (key:=key) (at':=at') hnm hLr
  have hwl:=withinC_len L key at'
  have hwm:∀x∈withinC L key at',x.when.length≤1000000∧x.ops.length≤1000000:=fun x hx=>by
   obtain⟨q,hq,rfl⟩:=mem_keyC (List.mem_filter.1 hx).1
   refine⟨?_,by simp[oneC]⟩
   show q.when.length≤1000000
   have:=(hLr q hq).2
   omega
  refine⟨_,_,_,hR,?_⟩
  try simp only[aQ]
  refine Ya (id:=1) (rest:=[]) (Rds 4 9) [14,11,12,13] [zS 8 ua un uc,zV 9 .nilIface] ?_
  try simp only[aQ]
  refine JR_end ?_
  try simp only[aQ]
  refine J_seq ?_
  try simp only[aQ]
  refine J_seq ?_
  try simp only[aQ]
  refine Za [zR 0,zR 1] [] [zB 18 false] ?_
  try simp only[aQ]
  refine cF ?_
  try simp only[aQ]
  refine J_skip ?_
  try simp only[aQ]
  refine J_seq ?_
  try simp only[aQ]
  refine jT [(0,true),(1,true),(2,false),(3,true),(4,true),(5,false),(6,true)] [] ?_
  refine Ya (id:=4) (rest:=[(2,false),(3,true),(4,true),(5,false),(6,true)]) [zR 0,zR 1] [18,8,9,1] [zV 21 (.string key),zS 22 ua un uc] ?_
  refine JR_callzp [] 21 #[.string key,.slice ua un uc] (some 23) zero_all (by kernel_rfl) (fun w S hG=>?_)
  refine(vOf (key:=key) (hG.at 0 rfl) (hG.at 3 rfl) (by omega) (fun x hx=>(hwm x hx).1) (fun x hx=>(hwm x hx).2)).mono ?_
  rintro e2 w2 (⟨hc,_⟩|⟨hc,va,vn,vc,hR⟩)
  ·exact absurd hvf hc
  refine⟨_,_,_,hR,?_⟩
  try simp only[aQ]
  refine Ym (id:=4) (rest:=[]) [zR 3,zR 4,.wr 5 (hnO 0 4) 0,zR 6] [23,21,22] (fun _=>[]) (fun _=>[(nu1 0,.cells #[nI ((Sx.valOf key (withinC L key at')).kind),.string ((Sx.valOf key (withinC L key at')).text),nI ((Sx.valOf key (withinC L key at')).n),.slice va vn vc] 47 (0,0))]) [] (fun _=>?_)
  try simp only[aQ]
  refine JR_end ?_
  try simp only[aQ]
  refine Yr [(hnO 0 4),[]] (.tuple #[.agg #[nI ((Sx.valOf key (withinC L key at')).kind),.string ((Sx.valOf key (withinC L key at')).text),nI ((Sx.valOf key (withinC L key at')).n),.slice va vn vc],.nilIface]) fun a w s=>?_
  exact .inr ⟨hae,_,_,_,s.retz (by simp) [0,1,2,3] [4] rfl rfl⟩
end Go.Proofs.YtpjkiomccpjboaaGreatDoor
end
section
namespace Go.Proofs.YtpjkiomccpjboaaGreatDoor
open Go Go.Sx
def pruneErr (p:Nat) (at':List Int):Nat:=if vecErr at'≠0 then vecErr at' else if at'.length≠p then 3 else 0
set_option maxHeartbeats 4000000 in
theorem vPrune {w:World} {S:Nat→Prop} {M:List Nat} {er:Nat→Addr} {eb:Nat→Array Value×TypeId} {b mk md:Nat} {ba a1:Option Addr} {p nb cb n1 c1 clock:Nat} {base at':List Int} {es:Array MapEntry} {ks:List ByteArray} {F:ByteArray→Value} {L:List PutT} (hC:Rep w S .nilIface (dC er eb))
  (hP:Pre w S M [cObj b (.cells #[.int .i64 p,.slice ba nb cb,.map (some mk),.map (some md)] 133 (0,0))])
  (hb:Rep w S (.slice ba nb cb) (dInts base)) (hbv:vecErr base=0) (hbl:base.length=p) (h1:Rep w S (.slice a1 n1 c1) (dInts at')) (hl1:at'.length≤1000000) :
  Calls Tryz.prog 44 #[.pointer (some ⟨b,0,none⟩),.slice a1 n1 c1] w fun e w'=>
   (pruneErr p at'≠0∧Ret M w S w' e (.iface 243 (.pointer (some (er (pruneErr p at'))))) [cObj b (.cells #[.int .i64 p,.slice ba nb cb,.map (some mk),.map (some md)] 133 (0,0))] []) ∨
   (pruneErr p at'=0∧∃ua un uc,Ret M w S w' e .nilIface [cObj b (.cells #[.int .i64 p,.slice ua un uc,.map (some mk),.map (some md)] 133 (0,0))] [(.slice ua un uc,dInts (List.zipWith max base at'))]):=by
 obtain rfl:=rep_ints_len h1
 obtain rfl:=rep_ints_len hb
 subst hbl
 have hvl:=vecErr_len hbv
 refine enG Tryz.func44 bd44 (args:=[.pointer (some ⟨b,0,none⟩),.slice a1 at'.length c1]) (S:=S) (G:=[(_,dC er eb),(_,dInts at'),(_,dInts base)]) (by kernel_rfl) hP (.cons hC (.cons h1 (.cons hb (.nil _ _)))) ?_
 refine J_show 0 rfl ?_
 refine J_stp (stp_all 0 [2] rfl rfl) ?_
 refine J_glob 3 rfl (fun csg1 tyg1 fzg1 hglob1=>?_)
 try simp only[aQ]
 refine Zs [zR 0] [] [zV 4 .nilIface] ?_
 refine J_seq ?_
 refine jS [(0,true),(1,false),(2,true)] [] ?_
 refine Ya (id:=1) (rest:=[(1,false),(2,true)]) [zR 0] [] [zS 6 a1 at'.length c1] ?_
 refine Yc 59 #[.slice a1 at'.length c1] (some 7) fun w S hG=>?_
 refine(vcheck (globs_of (hG.at 0 rfl)) (hG.at 1 rfl) hl1).mono ?_
 rintro e2 w2 ⟨v,hR,hv⟩
 refine⟨_,_,_,hR,?_⟩
 obtain⟨hv0,rfl⟩|⟨hv0,rfl⟩:=hv
 case inr=>
  have hae:pruneErr base.length at'=vecErr at':=by rw[pruneErr,if_pos hv0]
  rw[hae]
  try simp only[aQ]
  refine Ya (id:=1) (rest:=[]) [zR 2] [7,6] [zV 5 (.iface 243 (.pointer (some (er (vecErr at')))))] ?_
  refine JR_end ?_
  refine Zs [zR 0,zR 1] [] [zB 9 true] ?_
  refine cTt ?_
  refine Zs [zR 0,zR 1] [9,5] [zV 4 (.iface 243 (.pointer (some (er (vecErr at')))))] ?_
  refine Yr [[]] (.iface 243 (.pointer (some (er (vecErr at'))))) fun a w s=>?_
  exact .inl ⟨hv0,(s.hide 0 rfl).ret (by simp) [0] [] rfl rfl⟩
 by_cases hal:at'.length=base.length
 case neg=>
  have hae:pruneErr base.length at'=3:=by rw[pruneErr,if_neg (by simp[hv0]),if_pos hal]
  have hal2:¬(at'.length:Int)=base.length:=by omega
  rw[hae]
  try simp only[aQ]
  refine Ya (id:=1) (rest:=[]) [zR 2] [7,6] [zV 5 .nilIface] ?_
  refine JR_end ?_
  refine Zs [zR 0,zR 1] [] [zB 9 false] ?_
  refine cF ?_
  refine J_skip (J_seq ?_)
  refine Zt (Rds 0 5++[.rd 5 [.o 0 none] 0 0,.rd 6 [] 0 6]) [9,5] [zB 17 true] [((↑at'.length:Int) != (↑base.length:Int))=true] ⟨by simp;omega,trivial⟩ ?_
  refine cTt ?_
  refine Zt [.rd 0 [.r 0 (some (.iface 243 (.pointer (some (er 3)))))] 0 0,zR 1] [17] [zV 4 (.iface 243 (.pointer (some (er 3))))] [csg1[(0:Nat)]?=some (Value.iface (243:Nat) (Value.pointer (some (er (3:Nat)))))] ⟨hglob1,trivial⟩ ?_
  refine Yr [[]] (.iface 243 (.pointer (some (er 3)))) fun a w s=>?_
  exact .inl ⟨by decide,(s.hide 0 rfl).ret (by simp) [0] [] rfl rfl⟩
 have hae:pruneErr base.length at'=0:=by rw[pruneErr,if_neg (by simp[hv0]),if_neg (by simp[hal])]
 have htw:twoErr base at'=0:=by rw[twoErr,if_neg (by simp[hbv]),if_neg (by simp[hv0]),if_neg (by simp[hal])]
 have hal2:(at'.length:Int)=base.length:=by omega
 rw[hae]
 try simp only[aQ]
 refine Ya (id:=1) (rest:=[]) [zR 2] [7,6] [zV 5 .nilIface] ?_
 refine JR_end ?_
 refine Zs [zR 0,zR 1] [] [zB 9 false] ?_
 refine cF ?_
 refine J_skip (J_seq ?_)
 refine Zt (Rds 0 5++[.rd 5 [.o 0 none] 0 0,.rd 6 [] 0 7]) [9,5] [zB 17 false] [((↑at'.length:Int) != (↑base.length:Int))=false] ⟨by simp;omega,trivial⟩ ?_
 refine cF ?_
 refine J_skip ?_
 refine jS [(0,true),(1,true),(2,true),(3,true),(4,true),(5,true),(6,false),(7,true),(8,true),(9,true),(10,true),(11,true),(12,false)] [] ?_
 refine Ya (id:=6) (rest:=[(6,false),(7,true),(8,true),(9,true),(10,true),(11,true),(12,false)]) (Rds 0 4++[.rd 4 [.o 0 none] 0 0,zR 5]) [17,0,1] [zP 20 b,zS 24 ba base.length cb,zS 25 a1 at'.length c1] ?_
 refine Yc 79 #[.slice ba base.length cb,.slice a1 at'.length c1] (some 26) fun w S hG=>?_
 refine(vMost (globs_of (hG.at 0 rfl)) (hG.at 2 rfl) (hG.at 1 rfl) (by omega) hl1).mono ?_
 rintro e3 w3 (⟨htw2,_⟩|⟨_,ua,un,uc,hR⟩)
 ·exact absurd htw htw2
 refine⟨_,_,_,hR,?_⟩
 try simp only[aQ]
 refine Ym (id:=6) (rest:=[]) (Rds 7 12++[.wr 12 [.o 0 none] 0]) [26,20,24,25] (fun _=>[]) (fun _=>[(b,.cells #[nI (↑base.length:Int),.slice ua un uc,.map (some mk),.map (some md)] 133 (0,0))]) [] (fun _=>?_)
 refine JR_end ?_
 refine Zs [zR 0] [] [] ?_
 refine Yr [[]] (.nilIface) fun a w s=>?_
 exact .inr ⟨by first|rfl|trivial,_,_,_,(s.hide 0 rfl).ret (by simp) [0] [4] rfl rfl⟩
end Go.Proofs.YtpjkiomccpjboaaGreatDoor
end
section
namespace Go.Proofs.YtpjkiomccpjboaaGreatDoor
open Go Go.Sx Go.RowKit Go.Maps Go.Sort Go.Shelf
set_option maxHeartbeats 4000000 in
theorem vKeysB {w:World} {S:Nat→Prop} {mb:Nat}:Calls Tryz.prog 83 #[.map (some mb)] w fun e w'=>∃b ty,Ret [] w S w' e (.func (.func 113) #[] #[.pointer (some ⟨b,0,none⟩)]) [] [(.pointer (some ⟨b,0,none⟩),.obj (.cells #[.map (some mb)] ty (0,0)))]:=by
 refine epG Tryz.func83 bd83 (args:=[.map (some mb)]) (S:=S) (G:=[]) (by kernel_rfl) (.nil _ _) ?_
 refine Zv [.wr 0 [] 0,zR 1] [] [0] (fun nu1=>[zP 1 (nu1 0),zV 2 .nilFunc]) (fun nu1=>[(nu1 0,.cells #[.map (some mb)] 130 (0,0))]) (fun nu1=>?_)
 refine Zs [zR 0,zR 1] [1] [zV 2 (.func (.func 113) #[] #[.pointer (sA (nu1 0) 0)])] ?_
 refine Yr [[]] (.func (.func 113) #[] #[.pointer (sA (nu1 0) 0)]) fun a w s=>?_
 exact⟨_,_,(s.share 0 rfl).ret (by simp) [] [0] rfl rfl⟩
set_option maxHeartbeats 4000000 in
theorem sortedKeysB {w:World} {S:Nat→Prop} {M:List Nat} {mb bx clock:Nat} {es:Array MapEntry} {ty:TypeId} (hP:Pre w S M [cObj mb (.map es clock)]) (hkey:∀x∈es.toList,MapKept.IsKey .string x.key) (hst:MapKept.Stamped es clock) (hn:es.size≤4000000) (hsz:∀x∈es.toList,(keyB x.key).size≤1000000) (hbx:Rep w S (.pointer (some ⟨bx,0,none⟩)) (.obj (.cells #[.map (some mb)] ty (0,0)))) :
  Calls Tryz.prog 63 #[.func (.func 113) #[] #[.pointer (some ⟨bx,0,none⟩)]] w fun e w'=>∃ua un uc,Ret M (zero w) S w' e (.slice ua un uc) [cObj mb (.map es clock)] [(.slice ua un uc,dStrs (sortB (es.toList.map fun x=>keyB x.key)))]:=by
 obtain⟨fps,hch,rfl,hnd,hM⟩:=hP
 match fps,hch with
 | [fp],⟨⟨hfp,hmb⟩,_⟩=>
  subst hfp
  obtain⟨D0,hown,hsD,hperm⟩:=owns_of (k:=9) (P:=Tryz.prog) Tryz.underlying9 hmb hkey hst hn hsz
  have hmlt:=(Array.getElem?_eq_some_iff.1 hmb).1
  have hbx2:=blk_of hbx
  have hlt:=(Array.getElem?_eq_some_iff.1 hbx2).1
  have hseq:SeqGives Fence.wide 2 Tryz.prog 113 #[.pointer (some ⟨bx,0,none⟩)] encStr (fun ss=>ss.Perm (strKeys D0)) (Maps.size D0) w:=
   AnyZ.keys_gives (ρ:=Tryz.keysB_ren) { Tryz.keysB with } Fence.wide _ trivial rfl (by omega) bx mb es.size D0 w hlt (by simp[World.cell?,hbx2]) hown
  have cS:=AnyZ.sorted_in Tryz.sorted Fence.wide 5 trivial trivial trivial trivial rfl (by omega) (sortsS _) (enters_of Tryz.func101 (by kernel_rfl) rfl) 113 #[.pointer (some ⟨bx,0,none⟩)] trivial (enters_of Tryz.func113 (by kernel_rfl) rfl) _ _ (by rw[hsD];unfold maxLen;omega) (by rw[hsD];omega) w hseq
  change CallsIn _ _ Tryz.prog 63 _ _ _ at cS
  refine(callsIn_wide.1 cS).mono ?_
  rintro e w' ⟨v,ss,rfl,hS,hrow,_,hb⟩
  have e1:sortB (es.toList.map fun x=>keyB x.key)=(ss.mergeSort leB).map fun x=>⟨x.toArray⟩:=by
   unfold sortB
   rw[List.map_map,mergeSort_of_perm (hS.trans hperm)]
   rfl
  have hrep:Rep w' (retS S ([[mb]]:List (List Nat)).flatten (zero w) [[mb]]) v (dStrs (sortB (es.toList.map fun x=>keyB x.key))):=by
   rw[e1]
   refine rep_row (base:=w.heap.size) (e:=9) ?_ fun b hb2=>⟨.inr (.inr hb2),fun hm=>?_⟩
   ·rw[List.length_mergeSort]
    exact hrow
   ·have:b=mb:=by simpa using hm
    omega
  obtain⟨ua,uc,rfl,_⟩:=hrep.form
  refine⟨ua,_,uc,rfl,⟨hb.os,hb.tape,hb.output,hb.size,fun b hb2 _=>hb.block b hb2,Nat.zero_le _⟩,[[mb]],⟨⟨rfl,by rw[hb.block mb hmlt];exact hmb⟩,trivial⟩,by simp,fun b hb2=>?_,fun x hx=>?_⟩
  ·have:b=mb:=by simpa using hb2
   subst this
   exact⟨.inl (by simp),Nat.lt_of_lt_of_le hmlt hb.size⟩
  ·obtain rfl:=List.mem_singleton.1 hx
   exact hrep
 | [],h=>exact h.elim
 | _::_::_,h=>exact h.2.elim
set_option maxHeartbeats 4000000 in
theorem vVKeys {w:World} {S:Nat→Prop} {M:List Nat} {b mk md:Nat} {ba:Option Addr} {p nb cb clock:Nat} {es:Array MapEntry} {ks:List ByteArray} {F:ByteArray→Value} {L:List PutT} (hP:Pre w S M (chV b mk md ba p nb cb clock es ks F L))
  (hm:MapG (MapKept.IsKey .string) es (strG ks F)) (hst:MapKept.Stamped es clock) (hnd:ks.Nodup) (hkl:ks.length≤1000000) (hks:∀t∈ks,t.size≤1000000) :
  Calls Tryz.prog 50 #[.pointer (some ⟨b,0,none⟩)] w fun e w'=>∃ua un uc,Ret M (zero w) S w' e (.slice ua un uc) (chV b mk md ba p nb cb clock es ks F L) [(.slice ua un uc,dStrs (sortB ks))]:=by
 have hpm:=ks_len hm hnd
 have hsz:es.size=ks.length:=by
  have:=hpm.length_eq
  rw[List.length_map,Array.length_toList]at this
  exact this
 refine enG Tryz.func50 bd50 (args:=[.pointer (some ⟨b,0,none⟩)]) (S:=S) (G:=[]) (by kernel_rfl) hP (.nil _ _) ?_
 refine J_zero ?_
 refine J_show 0 rfl ?_
 refine Zs [zR 0] [] [zS 2 none 0 0] ?_
 refine jS [(0,true),(1,true),(2,true),(3,true),(4,false),(5,false),(6,true)] [] ?_
 refine Ya (id:=1) (rest:=[(4,false),(5,false),(6,true)]) (Rds 0 3++[.rd 3 [.o 0 none] 0 0]) [0] [zV 6 (.map (some mk))] ?_
 refine Yc 83 #[.map (some mk)] (some 7) fun w S hG=>?_
 refine(vKeysB (w:=w) (S:=S) (mb:=mk)).mono ?_
 rintro e1 w1 ⟨bx,ty,hR⟩
 refine⟨_,_,_,hR,?_⟩
 try simp only[aQ]
 refine JR_callz [] [0] 63 #[.func (.func 113) #[] #[.pointer (some (⟨bx,0,none⟩))]] (some 8) zero_all (by kernel_rfl) (by kernel_rfl) (by decide) (fun w S M hP hG _=>?_)
 refine(sortedKeysB hP (fun x hx=>hm.key x hx) hst (by omega) (fun x hx=>hks _ (hpm.mem_iff.1 (List.mem_map.2 ⟨x,hx,rfl⟩))) (hG.at 0 rfl)).mono ?_
 rintro e2 w2 ⟨ua,un,uc,hR⟩
 rw[sortB_perm hpm]at hR
 refine⟨_,_,_,hR,?_⟩
 try simp only[aQ]
 refine Ya (id:=1) (rest:=[]) [zR 6] [8,7,6] [zS 2 ua un uc] ?_
 try simp only[aQ]
 refine JR_end ?_
 try simp only[aQ]
 refine Yr [[]] (.slice ua un uc) fun a w s=>?_
 exact⟨_,_,_,(s.hide 0 rfl).retz (by simp) [3,2,0,1] [1] rfl rfl⟩
end Go.Proofs.YtpjkiomccpjboaaGreatDoor
end
section
namespace Go.Proofs.YtpjkiomccpjboaaGreatDoor
open Go Go.Sx
def putsAll (K:List ComT):List PutT:=K.flatMap fun c=>putsOf c c.ops
theorem putsAll_snoc (K:List ComT) (c:ComT):putsAll (K++[c])=putsAll K++putsOf c c.ops:=by simp[putsAll]
theorem dotP_puts (c:ComT) (l:List OpT):(putsOf c l).map dotP=l.map (dotOf c):=by
 rw[putsOf,List.map_map]
 rfl
theorem exiAt_zero {L:List PutT} {c:ComT}:(∀j,j<c.ops.length→exiAt L c j=0)↔∀o∈c.ops,dotOf c o∉L.map dotP:=by
 constructor
 ·intro h o ho
  obtain⟨j,hj⟩:=List.getElem?_of_mem ho
  have:=h j (List.getElem?_eq_some_iff.1 hj).1
  simp only[exiAt,hj]at this
  split at this
  ·cases this
  ·assumption
 ·intro h j hj
  have h1:c.ops[j]?=some c.ops[j]:=List.getElem?_eq_getElem hj
  simp only[exiAt,h1]
  rw[if_neg (h _ (List.getElem_mem hj))]
structure CanPut (p:Nat) (base:List Int) (L:List PutT) (c:ComT):Prop where
 com:(comFault c).code=0
 len:c.when.length=p
 new:inL c.when base=false
 dots:∀o∈c.ops,dotOf c o∉L.map dotP
theorem scanF_zero {f:Nat→Nat} {n:Nat} (h:(scanF f n 0).code=0):∀j,j<n→f j=0:=by
 intro j
 induction j using Nat.strongRecOn with
 | ind j ih=>
  intro hj
  rcases Nat.eq_zero_or_pos (f j)with h0|h0
  ·exact h0
  ·have:=(scanF_from n 0 j (Nat.zero_le _) fun i _ hi=>ih i hi (by omega)).2 (by omega) (by omega)
   rw[this]at h
   exact h
theorem putFault_zero {p:Nat} {base:List Int} {L:List PutT} {c:ComT}:(putFault p base L c).code=0↔CanPut p base L c:=by
 constructor
 ·intro h
  unfold putFault at h
  split at h
  ·exact absurd h ‹_›
  ·split at h
   ·cases h
   ·split at h
    ·cases h
    ·rename_i h1 h2 h3
     exact⟨by simpa using h1,by simpa using h2,by simpa using h3,exiAt_zero.1 (scanF_zero h)⟩
 ·rintro⟨h1,h2,h3,h4⟩
  rw[putFault,if_neg (by simp[h1]),if_neg (by simp[h2]),if_neg (by simp[h3]),(scanF_from c.ops.length 0 c.ops.length (Nat.zero_le _) fun j _ hj=>exiAt_zero.2 h4 j hj).1 (by omega)]
theorem dots_own {c:ComT} (h:(comFault c).code=0):(c.ops.map (dotOf c)).Nodup:=by
 rw[List.nodup_iff_pairwise_ne,List.pairwise_map]
 refine(right_pair h).imp fun{a b} hab he=>?_
 simp only[dotOf,DotT.mk.injEq]at he
 omega
theorem CanPut.nodup {p:Nat} {base:List Int} {L:List PutT} {c:ComT} (h:CanPut p base L c) (hn:(L.map dotP).Nodup):((L++putsOf c c.ops).map dotP).Nodup:=by
 rw[List.map_append,dotP_puts,List.nodup_append]
 refine⟨hn,dots_own h.com,fun x hx y hy he=>?_⟩
 subst he
 obtain⟨o,ho,rfl⟩:=List.mem_map.1 hy
 exact h.dots o ho hx
end Go.Proofs.YtpjkiomccpjboaaGreatDoor
end
section
namespace Go.Proofs.YtpjkiomccpjboaaGreatDoor
open Go Go.Sx
theorem zip_len {g:Int→Int→Int} {xs ys:List Int} (h:xs.length=ys.length):(List.zipWith g xs ys).length=xs.length:=by simp[h]
theorem zip_fine {g:Int→Int→Int} (hg:∀x y,g x y=x∨g x y=y) {xs ys:List Int} (hx:vecErr xs=0) (hy:vecErr ys=0) (h:xs.length=ys.length):vecErr (List.zipWith g xs ys)=0:=by
 have hl:=vecErr_len hx
 unfold vecErr
 rw[zip_len h,if_neg (by omega),if_neg]
 rw[Bool.not_eq_true,List.any_eq_false]
 intro t ht
 obtain⟨j,hj⟩:=List.getElem?_of_mem ht
 obtain⟨x,y,hx1,hy1,rfl⟩:=List.getElem?_zipWith_eq_some.1 hj
 have h1:=vecErr_in hx x (List.mem_of_getElem? hx1)
 have h2:=vecErr_in hy y (List.mem_of_getElem? hy1)
 rcases hg x y with h|h <;> rw[h] <;> simp[badT] <;> omega
theorem max_or (x y:Int):max x y=x∨max x y=y:=by omega
theorem vecErr_zeros {p:Nat} (h1:1≤p) (h6:p≤6):vecErr (List.replicate p (0:Int))=0:=by
 rcases(by omega:p=1∨p=2∨p=3∨p=4∨p=5∨p=6)with rfl|rfl|rfl|rfl|rfl|rfl <;> decide
theorem prune_fine {p:Nat} {at':List Int} (h:pruneErr p at'=0):vecErr at'=0∧at'.length=p:=by
 unfold pruneErr at h
 split at h
 ·exact absurd h ‹_›
 ·rename_i h1
  split at h
  ·cases h
  ·rename_i h2
   exact⟨by simpa using h1,by simpa using h2⟩
end Go.Proofs.YtpjkiomccpjboaaGreatDoor
end
section
namespace Go.Proofs.YtpjkiomccpjboaaGreatDoor
open Go Go.Sx
set_option maxHeartbeats 4000000 in
theorem rIn {w:World} {S:Nat→Prop} {a b:Option Addr} {n m c d:Nat} {xs ys:List Int} (ha:Rep w S (.slice a n c) (dInts xs)) (hb:Rep w S (.slice b m d) (dInts ys)) (hl:xs.length≤1000000) (hxy:xs.length=ys.length) :
  Calls Tryz.prog 76 #[.slice a n c,.slice b m d] w fun e w'=>Ret [] w S w' e (.bool (inL xs ys)) [] []:=by
 obtain rfl:=rep_ints_len ha
 obtain rfl:=rep_ints_len hb
 refine epG Tryz.func76 bd76 (args:=[.slice a xs.length c,.slice b ys.length d]) (G:=[(_,dInts xs),(_,dInts ys)]) (by kernel_rfl) (.cons ha (.cons hb (.nil _ _))) ?_
 refine Zs [zR 0] [] [zB 4 false] ?_
 refine J_seq ?_
 refine Zs [zR 0] [] [zI 5 0] ?_
 refine J_block ?_
 refine J_loopx (fun i:Int=>[zS 0 a xs.length c,zS 1 b ys.length d,zB 4 false,zI 5 i]) (fun i:Int=>[]) (fun i:Int=>[]) (fun i:Int=>[(.slice a xs.length c,(dInts xs)),(.slice b ys.length d,(dInts ys))]) (fun i:Int=>(xs.length - i).toNat) (fun i:Int=>(0≤i∧i≤xs.length∧∀j:Nat,j<i.toNat→∀x y,xs[j]?=some x→ys[j]?=some y→x≤y)) 0 [0,1,4,5] [] [] [0,1] ?_ (by kernel_rfl) rfl rfl rfl ?_
 ·exact⟨by simp,by omega,by simp⟩
 rintro i ⟨hi0,hi,hno⟩
 refine J_seq ?_
 refine Zs (Rds 0 4) [] [zB 9 (decide (i<(↑xs.length:Int)))] ?_
 refine cC (t:=decide (i<(↑xs.length:Int))) (fun hlt=>?_) (fun hlt=>?_)
 ·have hlt2:i<xs.length:=by simpa using hlt
  obtain⟨x,hx⟩:∃x,xs[i.toNat]?=some x:=⟨_,List.getElem?_eq_getElem (by omega)⟩
  obtain⟨y,hy⟩:∃y,ys[i.toNat]?=some y:=⟨_,List.getElem?_eq_getElem (by omega)⟩
  refine J_read0 0 rfl i.toNat (map_at hx) (by kernel_rfl) (fun b1 off1 cs1 ty1 fz1 ha1 hrd1=>?_)
  cases ha1
  have hrd1_0:=rd0 (hrd1 0 _ rfl)
  refine J_read0 1 rfl i.toNat (map_at hy) (by kernel_rfl) (fun b2 off2 cs2 ty2 fz2 ha2 hrd2=>?_)
  cases ha2
  have hrd2_0:=rd0 (hrd2 0 _ rfl)
  try simp only[aQ]
  refine J_skip (J_seq (J_block ?_))
  refine Zt [zR 0,zR 1,.rd 2 [] 0 2,.rd 3 [.r 0 (some (nI x))] 0 0,zR 4,zR 5,.rd 6 [] 0 2,.rd 7 [.r 1 (some (nI y))] 0 0,zR 8] [9] [zB 20 (decide (x>y))] [0≤i,i<(↑xs.length:Int),cs1[off1+i.toNat*1]?=some (nI x),0≤i,i<(↑ys.length:Int),cs2[off2+i.toNat*1]?=some (nI y)] ⟨hi0,hlt2,hrd1_0,hi0,by omega,hrd2_0,trivial⟩ ?_
  refine cC (t:=decide (x>y)) (fun hgt=>?_) (fun hgt=>?_)
  ·refine J_seq ?_
   refine Za [zR 0] [20] [] ?_
   refine Yr [[]] (.bool false) fun a w s=>?_
   rw[inL_false hx hy (by simpa using hgt)]
   exact s.ret (by simp) [] [] rfl rfl
  ·refine J_skip ?_
   refine J_eb ?_
   refine Zp [zR 0,.rd 1 [] 0 1,zR 2] [20] [zI 5 (i+1)] [IntKind.i64.wrap (i+1)=i+1] ⟨wrap_i64 (by omega) (by omega),trivial⟩ ?_
   refine J_backx (i+1) [0,1,4,5] [] [] [0,1] ?_ ?_ (by kernel_rfl) rfl rfl rfl
   ·refine⟨by omega,by omega,fun j hj x' y' hx' hy'=>?_⟩
    by_cases hji:j=i.toNat
    ·subst hji
     rw[hx]at hx'
     rw[hy]at hy'
     cases hx'
     cases hy'
     simpa using hgt
    ·exact hno j (by omega) x' y' hx' hy'
   ·omega
 ·refine J_exit rfl ?_
  refine Zs [zR 0] [9,0,1,5] [zB 4 true] ?_
  refine Yr [[]] (.bool true) fun a w s=>?_
  rw[inL_true hxy fun j x y hx hy=>hno j (by have:=(List.getElem?_eq_some_iff.1 hx).1;simp at hlt;omega) x y hx hy]
  exact s.ret (by simp) [] [] rfl rfl
set_option maxHeartbeats 4000000 in
theorem rMost {w:World} {S:Nat→Prop} {a b:Option Addr} {n m c d:Nat} {xs ys:List Int} (ha:Rep w S (.slice a n c) (dInts xs)) (hb:Rep w S (.slice b m d) (dInts ys)) (hl:xs.length≤1000000) (hxy:xs.length=ys.length) :
  Calls Tryz.prog 45 #[.slice a n c,.slice b m d] w fun e w'=>∃a' n' c',Ret [] w S w' e (.slice a' n' c') [] [(.slice a' n' c',dInts (List.zipWith max xs ys))]:=by
 obtain rfl:=rep_ints_len ha
 obtain rfl:=rep_ints_len hb
 refine epG Tryz.func45 bd45 (args:=[.slice a xs.length c,.slice b ys.length d]) (G:=[(_,dInts xs),(_,dInts ys)]) (by kernel_rfl) (.cons ha (.cons hb (.nil _ _))) ?_
 refine Zs [zR 0] [] [zS 4 none 0 0] ?_
 refine Zs [zR 0] [] [zS 5 none 0 0] ?_
 refine J_seq ?_
 refine Zs [zR 0] [] [zI 6 0] ?_
 refine J_block ?_
 refine J_stp (stp_acc 3 1) ?_
 refine J_loopx (fun x:AccI=>[zS 0 a xs.length c,zS 1 b ys.length d,zS 4 none 0 0,zS 5 x.a x.k x.c,zI 6 x.i]) (fun x:AccI=>[]) (fun x:AccI=>[cAcc (.slice x.a x.k x.c) 3 1 ((List.take x.i.toNat (List.zipWith max xs ys)).map eI)]) (fun x:AccI=>[(.slice a xs.length c,(dInts xs)),(.slice b ys.length d,(dInts ys))]) (fun x:AccI=>(xs.length - x.i).toNat) (fun x:AccI=>(0≤x.i∧x.i≤xs.length)) ⟨0,none,0,0⟩ [0,1,4,5,6] [] [0] [0,1] ?_ (by kernel_rfl) rfl rfl rfl ?_
 ·exact⟨by simp,by simp⟩
 rintro⟨i,av,k,cv⟩ ⟨hi0,hi⟩
 dsimp only at hi0 hi ⊢
 refine J_stpx (stp_acclen 0 rfl) fun _ hk=>?_
 have hk2:k≤xs.length:=by simp at hk;omega
 refine J_seq ?_
 refine Zs (Rds 0 4) [] [zB 11 (decide (i<(↑xs.length:Int)))] ?_
 refine cC (t:=decide (i<(↑xs.length:Int))) (fun hlt=>?_) (fun hlt=>?_)
 ·have hlt2:i<xs.length:=by simpa using hlt
  obtain⟨x,hx⟩:∃x,xs[i.toNat]?=some x:=⟨_,List.getElem?_eq_getElem (by omega)⟩
  obtain⟨y,hy⟩:∃y,ys[i.toNat]?=some y:=⟨_,List.getElem?_eq_getElem (by omega)⟩
  refine J_read0 0 rfl i.toNat (map_at hx) (by kernel_rfl) (fun b1 off1 cs1 ty1 fz1 ha1 hrd1=>?_)
  cases ha1
  have hrd1_0:=rd0 (hrd1 0 _ rfl)
  refine J_read0 1 rfl i.toNat (map_at hy) (by kernel_rfl) (fun b2 off2 cs2 ty2 fz2 ha2 hrd2=>?_)
  cases ha2
  have hrd2_0:=rd0 (hrd2 0 _ rfl)
  try simp only[aQ]
  refine J_skip (J_seq (J_block ?_))
  refine Zt [zR 0,zR 1,.rd 2 [] 0 2,.rd 3 [.r 0 (some (nI x))] 0 0,zR 4] [11] [zI 7 x] [0≤i,i<(↑xs.length:Int),cs1[off1+i.toNat*1]?=some (nI x)] ⟨hi0,hlt2,hrd1_0,trivial⟩ ?_
  refine J_seq ?_
  refine Zt [zR 0,zR 1,.rd 2 [] 0 2,.rd 3 [.r 1 (some (nI y))] 0 0,zR 4,zR 5] [] [zB 23 (decide (y>x))] [0≤i,i<(↑ys.length:Int),cs2[off2+i.toNat*1]?=some (nI y)] ⟨hi0,by omega,hrd2_0,trivial⟩ ?_
  refine cC (t:=decide (y>x)) (fun hyx=>?_) (fun hyx=>?_)
  ·have em:max x y=y:=by simp at hyx;omega
   refine Zp [zR 0,zR 1,.rd 2 [] 0 2,.rd 3 [.r 1 (some (nI y))] 0 0,zR 4] [23] [zI 7 y] [0≤i,i<(↑ys.length:Int),cs2[off2+i.toNat*1]?=some (nI y)] ⟨hi0,by omega,hrd2_0,trivial⟩ ?_
   refine jT [(0,true),(1,true),(2,false),(3,false),(4,true)] [] ?_
   refine Ym (id:=8) (rest:=[(3,false),(4,true)]) [zR 0,zR 1,.wr 2 [] 0] [] (fun nu1=>[zS 28 av k cv,zS 30 (sA (nu1 0) 0) 1 1]) (fun nu1=>[(nu1 0,.cells #[nI y] 3 (0,0))]) [] (fun nu1=>?_)
   refine JR_appm 0 25 3 1 8 (.int .i64 0) (a0:=av) (len:=k) (cap0:=cv) (ax:=(some (⟨nu1 0,0,none⟩))) (m:=1) (c:=1) (dst:=(some 31)) [y] (by kernel_rfl) (by kernel_rfl) (by kernel_rfl) (by kernel_rfl) rfl (by decide) rfl (fun _ _ _ s=>src_one s 0 rfl rfl ⟨.inl ⟨rfl,rfl⟩,trivial⟩) (by simp only[maxLen];omega) (by omega) (fun av1 cv1=>?_)
   try simp only[aQ]
   refine Ya (id:=8) (rest:=[]) [zR 4] [31,28,30] [zS 5 av1 (k+1) cv1] ?_
   try simp only[aQ]
   refine JR_end ?_
   try simp only[aQ]
   refine J_eb ?_
   try simp only[aQ]
   refine Zp [zR 0,.rd 1 [] 0 1,zR 2] [] [zI 6 (i+1)] [IntKind.i64.wrap (i+1)=i+1] ⟨wrap_i64 (by omega) (by omega),trivial⟩ ?_
   try simp only[aQ]
   rw[take_snoc hi0 (List.getElem?_zipWith_eq_some.2 ⟨x,y,hx,hy,em⟩)]
   refine J_backx ⟨i+1,av1,k+1,cv1⟩ [0,1,4,5,6] [] [0] [0,1] ?_ ?_ (by kernel_rfl) rfl rfl rfl
   ·exact⟨by simp only;omega,by simp only;omega⟩
   ·simp only
    omega
  ·have em:max x y=x:=by simp at hyx;omega
   refine J_skip ?_
   refine jT [(0,true),(1,true),(2,false),(3,false),(4,true)] [] ?_
   refine Ym (id:=8) (rest:=[(3,false),(4,true)]) [zR 0,zR 1,.wr 2 [] 0] [23] (fun nu1=>[zS 28 av k cv,zS 30 (sA (nu1 0) 0) 1 1]) (fun nu1=>[(nu1 0,.cells #[nI x] 3 (0,0))]) [] (fun nu1=>?_)
   refine JR_appm 0 25 3 1 8 (.int .i64 0) (a0:=av) (len:=k) (cap0:=cv) (ax:=(some (⟨nu1 0,0,none⟩))) (m:=1) (c:=1) (dst:=(some 31)) [x] (by kernel_rfl) (by kernel_rfl) (by kernel_rfl) (by kernel_rfl) rfl (by decide) rfl (fun _ _ _ s=>src_one s 0 rfl rfl ⟨.inl ⟨rfl,rfl⟩,trivial⟩) (by simp only[maxLen];omega) (by omega) (fun av1 cv1=>?_)
   try simp only[aQ]
   refine Ya (id:=8) (rest:=[]) [zR 4] [31,28,30] [zS 5 av1 (k+1) cv1] ?_
   try simp only[aQ]
   refine JR_end ?_
   try simp only[aQ]
   refine J_eb ?_
   try simp only[aQ]
   refine Zp [zR 0,.rd 1 [] 0 1,zR 2] [] [zI 6 (i+1)] [IntKind.i64.wrap (i+1)=i+1] ⟨wrap_i64 (by omega) (by omega),trivial⟩ ?_
   try simp only[aQ]
   rw[take_snoc hi0 (List.getElem?_zipWith_eq_some.2 ⟨x,y,hx,hy,em⟩)]
   refine J_backx ⟨i+1,av1,k+1,cv1⟩ [0,1,4,5,6] [] [0] [0,1] ?_ ?_ (by kernel_rfl) rfl rfl rfl
   ·exact⟨by simp only;omega,by simp only;omega⟩
   ·simp only
    omega
 ·refine J_exit rfl ?_
  refine Zs [zR 0,zR 1] [11,0,1,5,6] [zS 4 av k cv] ?_
  refine Yr [[]] (.slice av k cv) fun a w s=>?_
  have e:List.take i.toNat (List.zipWith max xs ys)=List.zipWith max xs ys:=List.take_of_length_le (by simp at hlt ⊢;omega)
  have s2:=s.stp (stp_freeze 0 rfl)
  rw[e]at s2
  exact⟨av,k,cv,s2.ret (by simp) [] [2] rfl rfl⟩
end Go.Proofs.YtpjkiomccpjboaaGreatDoor
end
