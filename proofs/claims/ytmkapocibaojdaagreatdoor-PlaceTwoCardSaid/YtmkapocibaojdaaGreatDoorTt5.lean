/- Part 5 of the texts of a claim: Name Vec1 Vec2 Vec3 Errs Code. -/
import Derived.Test.YtmkapocibaojdaaGreatDoorProg
import Derived.WalkKit
import Derived.LaidEql
import Derived.Stop.Asserts
import Derived.RowKitTokens
import Derived.Test.YtmkapocibaojdaaGreatDoorTt4
section
namespace Go.Proofs.YtmkapocibaojdaaGreatDoor
open Go Go.Sx
def badC (c:Int):Bool:=((decide (c<97)||decide (122<c))&&(decide (c<48)||decide (57<c)))&&(c != 45)
def badL (l:List UInt8):Bool:=l.any fun b=>badC b.toNat
def nameOk (s:ByteArray):Bool:=decide (1≤s.size)&&decide (s.size≤16)&&!badL s.data.toList
set_option maxHeartbeats 4000000 in
theorem name1 {w:World} {S:Nat→Prop} {c:Int}:Calls Tryz.prog 192 #[.int .u8 c] w fun e w'=>Ret [] w S w' e (.bool (badC c)) [] []:=by
 refine epG Tryz.func192 bd192 (args:=[.int .u8 c]) (G:=[]) (by kernel_rfl) (AllG.nil w S) ?_
 obtain h|h|h|h|h|h|h:c<45∨c=45∨(45<c∧c<48)∨(48≤c∧c≤57)∨(57<c∧c<97)∨(97≤c∧c≤122)∨122<c:=by omega
 ·have e:badC c=true:=by simp[badC];omega
  refine Zs [zR 0] [] [zB 2 false] ?_
  refine Zt ([zR 0,.rd 1 [] 0 6,zR 2,.rd 3 [] 1 0,.rd 4 [] 1 0]++Rds 5 8++[.rd 8 [] 0 6,zR 9,.rd 10 [] 1 0,.rd 11 [] 1 0]++Rds 12 16++[.rd 16 [] 0 6,zR 17,zR 18]) [0] [zB 2 true] (oC (show decide (c<(97:Int))=true from by simp;omega) (oC (show decide (c<(48:Int))=true from by simp;omega) (oC (show(c != (45:Int))=true from by simp;omega) oN))) ?_
  refine Yr [[]] (.bool true) fun a w s=>?_
  rw[e]
  exact s.ret (by simp) [] [] rfl rfl
 ·subst h
  refine Zs [zR 0] [] [zB 2 false] ?_
  refine Zs (Rds 0 3++[.rd 3 [] 1 0,.rd 4 [] 1 0]++Rds 5 10++[.rd 10 [] 1 0,.rd 11 [] 1 0]++Rds 12 19) [0] [] ?_
  refine Yr [[]] (.bool false) fun a w s=>?_
  exact s.ret (by simp) [] [] rfl rfl
 ·have e:badC c=true:=by simp[badC];omega
  refine Zs [zR 0] [] [zB 2 false] ?_
  refine Zt ([zR 0,.rd 1 [] 0 6,zR 2,.rd 3 [] 1 0,.rd 4 [] 1 0]++Rds 5 8++[.rd 8 [] 0 6,zR 9,.rd 10 [] 1 0,.rd 11 [] 1 0]++Rds 12 16++[.rd 16 [] 0 6,zR 17,zR 18]) [0] [zB 2 true] (oC (show decide (c<(97:Int))=true from by simp;omega) (oC (show decide (c<(48:Int))=true from by simp;omega) (oC (show(c != (45:Int))=true from by simp;omega) oN))) ?_
  refine Yr [[]] (.bool true) fun a w s=>?_
  rw[e]
  exact s.ret (by simp) [] [] rfl rfl
 ·have e:badC c=false:=by simp[badC];omega
  refine Zs [zR 0] [] [zB 2 false] ?_
  refine Zt ([zR 0,.rd 1 [] 0 6,zR 2,.rd 3 [] 1 0,.rd 4 [] 1 0]++Rds 5 8++[.rd 8 [] 0 7,zR 9,zR 10,.rd 11 [] 0 7]++Rds 12 15++[.rd 15 [] 1 0,.rd 16 [] 1 0,zR 17,zR 18]) [0] [] (oC (show decide (c<(97:Int))=true from by simp;omega) (oC (show decide (c<(48:Int))=false from by simp;omega) (oC (show decide (c>(57:Int))=false from by simp;omega) oN))) ?_
  refine Yr [[]] (.bool false) fun a w s=>?_
  rw[e]
  exact s.ret (by simp) [] [] rfl rfl
 ·have e:badC c=true:=by simp[badC];omega
  refine Zs [zR 0] [] [zB 2 false] ?_
  refine Zt ([zR 0,.rd 1 [] 0 6,zR 2,.rd 3 [] 1 0,.rd 4 [] 1 0]++Rds 5 8++[.rd 8 [] 0 7,zR 9,zR 10,.rd 11 [] 0 6]++Rds 12 16++[.rd 16 [] 0 6,zR 17,zR 18]) [0] [zB 2 true] (oC (show decide (c<(97:Int))=true from by simp;omega) (oC (show decide (c<(48:Int))=false from by simp;omega) (oC (show decide (c>(57:Int))=true from by simp;omega) (oC (show(c != (45:Int))=true from by simp;omega) oN)))) ?_
  refine Yr [[]] (.bool true) fun a w s=>?_
  rw[e]
  exact s.ret (by simp) [] [] rfl rfl
 ·have e:badC c=false:=by simp[badC];omega
  refine Zs [zR 0] [] [zB 2 false] ?_
  refine Zt [zR 0,.rd 1 [] 0 7,zR 2,zR 3,.rd 4 [] 0 7,zR 5,zR 6,.rd 7 [] 1 0,.rd 8 [] 1 0,.rd 9 [] 1 0,.rd 10 [] 1 0,.rd 11 [] 1 0,.rd 12 [] 1 0,zR 13,zR 14,.rd 15 [] 1 0,.rd 16 [] 1 0,zR 17,zR 18] [0] [] (oC (show decide (c<(97:Int))=false from by simp;omega) (oC (show decide (c>(122:Int))=false from by simp;omega) oN)) ?_
  refine Yr [[]] (.bool false) fun a w s=>?_
  rw[e]
  exact s.ret (by simp) [] [] rfl rfl
 ·have e:badC c=true:=by simp[badC];omega
  refine Zs [zR 0] [] [zB 2 false] ?_
  refine Zt ([zR 0,.rd 1 [] 0 7,zR 2,zR 3,.rd 4 [] 0 6]++Rds 5 8++[.rd 8 [] 0 7,zR 9,zR 10,.rd 11 [] 0 6]++Rds 12 16++[.rd 16 [] 0 6,zR 17,zR 18]) [0] [zB 2 true] (oC (show decide (c<(97:Int))=false from by simp;omega) (oC (show decide (c>(122:Int))=true from by simp;omega) (oC (show decide (c<(48:Int))=false from by simp;omega) (oC (show decide (c>(57:Int))=true from by simp;omega) (oC (show(c != (45:Int))=true from by simp;omega) oN))))) ?_
  refine Yr [[]] (.bool true) fun a w s=>?_
  rw[e]
  exact s.ret (by simp) [] [] rfl rfl
set_option maxHeartbeats 4000000 in
theorem indexBadB {w:World} {S:Nat→Prop} {a:Option Addr} {n c:Nat} {l:List UInt8} (h:Rep w S (.slice a n c) (.sl 1 (l.map eB))) (hl:l.length≤1000000) :
  Calls Tryz.prog 216 #[.slice a n c,.func (.func 192) #[] #[]] w fun e w'=>∃r,Ret [] w S w' e (.int .i64 r) [] []∧decide (0≤r)=badL l:=by
 have e1:=h.slen
 rw[List.length_map]at e1
 subst e1
 refine epG Tryz.func216 bd216 (args:=[.slice a l.length c,.func (.func 192) #[] #[]]) (G:=[(_,.sl 1 (l.map eB))]) (by kernel_rfl) (.cons h (.nil _ _)) ?_
 refine Zs [zR 0] [] [zI 4 0] ?_
 refine J_seq ?_
 refine Zs (Rds 0 3) [] [zI 7 (↑l.length:Int),zI 8 0] ?_
 refine J_block ?_
 refine J_loopx (fun i:Int=>[zS 0 a l.length c,zV 1 (.func (.func 192) #[] #[]),zI 4 0,zI 7 (↑l.length:Int),zI 8 i]) (fun i:Int=>[]) (fun i:Int=>[]) (fun i:Int=>[(.slice a l.length c,(D.sl 1 (List.map eB l)))]) (fun i:Int=>(l.length - i).toNat) (fun i:Int=>(0≤i∧i≤l.length∧∀j:Nat,j<i.toNat→∀b,l[j]?=some b→badC b.toNat=false)) 0 [0,1,4,7,8] [] [] [0] ?_ (by kernel_rfl) rfl rfl rfl ?_
 ·exact⟨by simp,by omega,by simp⟩
 rintro i ⟨hi0,hi,hno⟩
 refine Zs [zR 0] [] [zB 9 (decide (i<(↑l.length:Int)))] ?_
 refine J_seq ?_
 refine cC (t:=decide (i<(↑l.length:Int))) (fun hlt=>?_) (fun hlt=>?_)
 ·have hlt2:i<l.length:=by simpa using hlt
  obtain⟨x,hx⟩:∃x,l[i.toNat]?=some x:=⟨_,List.getElem?_eq_getElem (by omega)⟩
  refine J_read0 0 rfl i.toNat (map_at hx) (by kernel_rfl) (fun b1 off1 cs1 ty1 fz1 ha1 hrd1=>?_)
  cases ha1
  have hrd1_0:=rd0 (hrd1 0 _ rfl)
  try simp only[aQ]
  refine J_skip (J_seq (J_block ?_))
  refine Zs [zR 0,zR 1] [9] [zI 5 i] ?_
  refine jS [(0,true),(1,true),(2,true),(3,true),(4,true),(5,false)] [] ?_
  refine Yp (Rds 0 3++[.rd 3 [] 0 2,.rd 4 [.r 0 (some (.int .u8 (↑x.toNat:Int)))] 0 0]) [] [zV 11 (.func (.func 192) #[] #[]),zV 15 (.int .u8 (↑x.toNat:Int))] (oC hi0 (oC hlt2 (oC hrd1_0 oN))) ?_
  refine Yc 192 #[.int .u8 (↑x.toNat:Int)] (some 16) fun w S hG=>?_
  refine(name1 (S:=S)).mono ?_
  rintro e w2 hR
  refine⟨_,_,_,hR,?_⟩
  try simp only[aQ]
  refine JR_end ?_
  refine cC (t:=badC (↑x.toNat:Int)) (fun hb=>?_) (fun hb=>?_)
  ·refine J_seq ?_
   refine Za [zR 0,zR 1] [16] [zI 4 i] ?_
   refine Yr [[]] (nI i) fun a w s=>?_
   refine⟨_,s.ret (by simp) [] [] rfl rfl,?_⟩
   rw[show badL l=true from List.any_eq_true.2 ⟨x,List.mem_of_getElem? hx,hb⟩]
   simpa using hi0
  ·refine J_skip ?_
   refine J_eb ?_
   refine Zp [.rd 0 [] 0 1,zR 1] [16] [zI 8 (i+1)] (oC (show IntKind.i64.wrap (i+1)=i+1 from wrap_i64 (by omega) (by omega)) oN) ?_
   refine J_backx (i+1) [0,1,4,7,8] [] [] [0] ?_ ?_ (by kernel_rfl) rfl rfl rfl
   ·refine⟨by omega,by omega,fun j hj t ht=>?_⟩
    by_cases hji:j=i.toNat
    ·subst hji
     rw[hx]at ht
     cases ht
     exact hb
    ·exact hno j (by omega) t ht
   ·omega
 ·refine J_exit rfl ?_
  refine Zs [zR 0] [9,0,1,7,8] [zI 4 (-1)] ?_
  refine Yr [[]] (nI (-1)) fun a w s=>?_
  refine⟨_,s.ret (by simp) [] [] rfl rfl,?_⟩
  have e:badL l=false:=by
   unfold badL
   rw[List.any_eq_false]
   intro t ht
   obtain⟨j,hj⟩:=List.getElem?_of_mem ht
   have hjl:=(List.getElem?_eq_some_iff.1 hj).1
   simp[hno j (by simp at hlt;omega) t hj]
  rw[e]
  decide
set_option maxHeartbeats 4000000 in
theorem containsBadB {w:World} {S:Nat→Prop} {a:Option Addr} {n c:Nat} {l:List UInt8} (h:Rep w S (.slice a n c) (.sl 1 (l.map eB))) (hl:l.length≤1000000) :
  Calls Tryz.prog 191 #[.slice a n c,.func (.func 192) #[] #[]] w fun e w'=>Ret [] w S w' e (.bool (badL l)) [] []:=by
 refine epG Tryz.func191 bd191 (args:=[.slice a n c,.func (.func 192) #[] #[]]) (G:=[(_,.sl 1 (l.map eB))]) (by kernel_rfl) (.cons h (.nil _ _)) ?_
 refine Zs [zR 0] [] [zB 4 false] ?_
 refine jS [(0,true),(1,true),(2,false),(3,true),(4,true)] [] ?_
 refine Ya [zR 0,zR 1] [0,1] [zS 5 a n c,zV 6 (.func (.func 192) #[] #[])] ?_
 refine Yc 216 #[.slice a n c,.func (.func 192) #[] #[]] (some 7) fun w S hG=>?_
 refine(indexBadB (hG.at 0 rfl) hl).mono ?_
 rintro e w2 ⟨r,hR,hr⟩
 refine⟨_,_,_,hR,?_⟩
 try simp only[aQ]
 refine Ya [zR 3,zR 4] [7,5,6] [zB 4 (decide (r≥0))] ?_
 refine JR_end ?_
 refine Yr [[]] (.bool (decide (r≥0))) fun a w s=>?_
 rw[←hr]
 exact s.ret (by simp) [] [] rfl rfl
set_option maxHeartbeats 4000000 in
theorem vName {w:World} {S:Nat→Prop} {s0:ByteArray}:Calls Tryz.prog 154 #[.string s0] w fun e w'=>Ret [] w S w' e (.bool (nameOk s0)) [] []:=by
 refine epG Tryz.func154 bd154 (args:=[.string s0]) (G:=[]) (by kernel_rfl) (AllG.nil w S) ?_
 have hz:s0.data.toList.length=s0.size:=by simp
 by_cases h1:s0.size=0
 ·have hE0:s0.toList=(ByteArray.mk #[]).toList:=by
   rw[ByteArray.toList_eq,ByteArray.toList_eq]
   exact List.eq_nil_of_length_eq_zero (by omega)
  have hE:(!s0.toList==(ByteArray.mk #[]).toList)=false:=by rw[hE0];simp
  have e:nameOk s0=false:=by simp[nameOk,h1]
  refine Zs [zR 0] [] [zB 2 false] ?_
  refine Zt [zR 0,.rd 1 [] 0 7,zR 2,.rd 3 [] 1 0,.rd 4 [] 1 0,.rd 5 [] 1 0,zR 6,zR 7,.rd 8 [] 1 0,.wr 9 [] 1,.wr 10 [] 1,.rd 11 [] 1 0,zR 12,zR 13] [0] [] (oC (show(!s0.toList==(ByteArray.mk #[]).toList)=false from by assumption) oN) ?_
  refine Yr [[]] (.bool false) fun a w s=>?_
  rw[e]
  exact s.ret (by simp) [] [] rfl rfl
 ·have hE:(!s0.toList==(ByteArray.mk #[]).toList)=true:=by
   rw[ByteArray.toList_eq,ByteArray.toList_eq]
   cases h:s0.data.toList with
   | nil=>rw[h]at hz;exact absurd hz.symm h1
   | cons x l=>rfl
  by_cases h2:16<s0.size
  ·have e:nameOk s0=false:=by simp[nameOk];omega
   refine Zs [zR 0] [] [zB 2 false] ?_
   refine Zt ([zR 0,.rd 1 [] 0 6]++Rds 2 5++[.rd 5 [] 0 7,zR 6,zR 7,.rd 8 [] 1 0,.wr 9 [] 1,.wr 10 [] 1,.rd 11 [] 1 0,zR 12,zR 13]) [0] [] (oC (show(!s0.toList==(ByteArray.mk #[]).toList)=true from by assumption) (oC (show decide ((↑s0.size:Int)≤(16:Int))=false from by simp;omega) oN)) ?_
   refine Yr [[]] (.bool false) fun a w s=>?_
   rw[e]
   exact s.ret (by simp) [] [] rfl rfl
  ·refine J_seq ?_
   refine Za [zR 0] [] [zB 2 false] ?_
   refine jS [(0,true),(1,true),(2,true),(3,true),(4,true),(5,true),(6,true),(7,true),(8,true),(9,false),(10,false),(11,true),(12,true),(13,true)] [] ?_
   refine Yp ([zR 0,.rd 1 [] 0 6]++Rds 2 5++[.rd 5 [] 0 6]++Rds 6 9) [0] [zB 10 true,zV 11 (.string s0)] (oC (show(!s0.toList==(ByteArray.mk #[]).toList)=true from by assumption) (oC (show decide ((↑s0.size:Int)≤(16:Int))=true from by simp;omega) oN)) ?_
   refine JR_bytes 9 311 5 s0 (some 12) (by kernel_rfl) (by kernel_rfl) (by kernel_rfl) (by kernel_rfl) (fun bg1 bc1=>?_)
   try simp only[aQ]
   refine Yc 191 #[.slice (sA bg1 0) s0.size bc1,.func (.func 192) #[] #[]] (some 13) fun w S hG=>?_
   refine(containsBadB (l:=s0.data.toList) (hG.at 0 rfl) (by omega)).mono ?_
   rintro e w2 hR
   refine⟨_,_,_,hR,?_⟩
   have e:nameOk s0=!badL s0.data.toList:=by simp[nameOk];omega
   rw[e]
   try simp only[aQ]
   refine Ya (Rds 11 14) [13,12,10,11] [zB 2 (!badL s0.data.toList)] ?_
   refine JR_end ?_
   refine Yr [[]] (.bool (!badL s0.data.toList)) fun a w s=>?_
   exact s.ret (by simp) [] [] rfl rfl
set_option maxHeartbeats 4000000 in
theorem isName {w:World} {S:Nat→Prop} {s0:ByteArray}:Calls Tryz.prog 21 #[.string s0] w fun e w'=>Ret [] w S w' e (.bool (nameOk s0)) [] []:=by
 refine epG Tryz.func21 bd21 (args:=[.string s0]) (G:=[]) (by kernel_rfl) (AllG.nil w S) ?_
 refine Zs [zR 0] [] [zB 2 false] ?_
 refine J_seq ?_
 refine Zs (Rds 0 4++[.rd 4 [] 2 0,.rd 5 [] 2 0,.rd 6 [] 2 0,.rd 7 [] 0 3]) [] [zB 13 (decide ((↑s0.size:Int)<1)||decide ((↑s0.size:Int)>16))] ?_
 refine cC (t:=decide ((↑s0.size:Int)<1)||decide ((↑s0.size:Int)>16)) (fun hn=>?_) (fun hn=>?_)
 ·have e:nameOk s0=false:=by simp at hn;simp[nameOk];omega
  refine Zs [zR 0] [13] [] ?_
  refine Yr [[]] (.bool false) fun a w s=>?_
  rw[e]
  exact s.ret (by simp) [] [] rfl rfl
 ·have e:nameOk s0=!badL s0.data.toList:=by simp at hn;simp[nameOk];omega
  rw[e]
  have hz:s0.data.toList.length=s0.size:=by simp
  have h16:s0.size≤16:=by simp at hn;omega
  refine J_skip (J_seq ?_)
  refine Zs [zR 0] [13] [zI 3 0] ?_
  refine J_block ?_
  refine J_loopx (fun i:Int=>[zV 0 (.string s0),zB 2 false,zI 3 i]) (fun i:Int=>[]) (fun i:Int=>[]) (fun i:Int=>[]) (fun i:Int=>(s0.size - i).toNat) (fun i:Int=>(0≤i∧i≤s0.size∧∀j:Nat,j<i.toNat→∀b,s0.data.toList[j]?=some b→badC b.toNat=false)) 0 [0,2,3] [] [] [] ?_ (by kernel_rfl) rfl rfl rfl ?_
  ·exact⟨by simp,by omega,by simp⟩
  rintro i ⟨hi0,hi,hno⟩
  refine J_seq ?_
  refine Zs (Rds 0 4) [] [zB 17 (decide (i<(↑s0.size:Int)))] ?_
  refine cC (t:=decide (i<(↑s0.size:Int))) (fun hlt=>?_) (fun hlt=>?_)
  ·have hlt2:i<s0.size:=by simpa using hlt
   obtain⟨x,hx⟩:∃x,s0.data.toList[i.toNat]?=some x:=⟨_,List.getElem?_eq_getElem (by omega)⟩
   refine J_skip (J_seq (J_block ?_))
   refine jS [(0,true),(1,true),(2,false),(3,true)] [] ?_
   refine Ya [zR 0,zR 1] [17] [zV 20 (.string s0),zI 21 i] ?_
   refine JR_idx 9 s0 i _ (some 22) (by kernel_rfl) (by kernel_rfl) hi0 hx ?_
   refine Ya [zR 3] [22,20,21] [zV 4 (.int .u8 (↑x.toNat:Int))] ?_
   refine JR_end (J_seq ?_)
   have back:∀c:Int,c=(x.toNat:Int)→badC c=false→∀j:Nat,j<(i+1).toNat→∀b,s0.data.toList[j]?=some b→badC b.toNat=false:=fun c hc hcf j hj b hb=>by
    by_cases hji:j=i.toNat
    ·subst hji
     rw[hx]at hb
     cases hb
     rw[←hc]
     exact hcf
    ·exact hno j (by omega) b hb
   have bad:∀c:Int,c=(x.toNat:Int)→badC c=true→badL s0.data.toList=true:=fun c hc hcf=>List.any_eq_true.2 ⟨x,List.mem_of_getElem? hx,by rw[←hc];exact hcf⟩
   obtain⟨c,hc⟩:∃c:Int,c=(x.toNat:Int):=⟨_,rfl⟩
   rw[←hc]
   obtain h|h|h|h|h|h|h:c<45∨c=45∨(45<c∧c<48)∨(48≤c∧c≤57)∨(57<c∧c<97)∨(97≤c∧c≤122)∨122<c:=by omega
   ·refine Zp ([.rd 0 [] 0 0,.rd 1 [] 0 7,.rd 2 [] 0 0,.rd 3 [] 1 0,.rd 4 [] 1 0]++Rds 5 8++[.rd 8 [] 0 7,.rd 9 [] 0 0,.rd 10 [] 1 0,.rd 11 [] 1 0]++Rds 12 16++[.rd 16 [] 0 7,.rd 17 [] 0 0,.rd 18 [] 0 0]) [] [(5,.val (.bool false))] (oC (show decide (c≥(97:Int))=false from by simp;omega) (oC (show decide (c≥(48:Int))=false from by simp;omega) (oC (show(c==(45:Int))=false from by simp;omega) oN))) ?_
    refine Zs [zR 0,zR 1] [] [zB 42 true] ?_
    refine cTt ?_
    refine Zs [zR 0] [42] [] ?_
    refine Yr [[]] (.bool false) fun a w s=>?_
    rw[bad c hc (by simp[badC];omega)]
    exact s.ret (by simp) [] [] rfl rfl
   ·refine Zp ([.rd 0 [] 0 0,.rd 1 [] 0 7,.rd 2 [] 0 0,.rd 3 [] 1 0,.rd 4 [] 1 0]++Rds 5 8++[.rd 8 [] 0 7,.rd 9 [] 0 0,.rd 10 [] 1 0,.rd 11 [] 1 0]++Rds 12 16++[.rd 16 [] 0 6,.rd 17 [] 0 0,.rd 18 [] 0 0]) [] [(5,.val (.bool true))] (oC (show decide (c≥(97:Int))=false from by simp;omega) (oC (show decide (c≥(48:Int))=false from by simp;omega) (oC (show(c==(45:Int))=true from by simp;omega) oN))) ?_
    refine Zs [zR 0,zR 1] [] [zB 42 false] ?_
    refine cF ?_
    refine J_skip (J_eb ?_)
    refine Zp [zR 0,.rd 1 [] 0 1,zR 2] [42] [zI 3 (i+1)] (oC (show IntKind.i64.wrap (i+1)=i+1 from wrap_i64 (by omega) (by omega)) oN) ?_
    refine J_backx (i+1) [0,2,3] [] [] [] ?_ ?_ (by kernel_rfl) rfl rfl rfl
    ·exact⟨by omega,by omega,back c hc (by simp[badC];omega)⟩
    ·omega
   ·refine Zp ([.rd 0 [] 0 0,.rd 1 [] 0 7,.rd 2 [] 0 0,.rd 3 [] 1 0,.rd 4 [] 1 0]++Rds 5 8++[.rd 8 [] 0 7,.rd 9 [] 0 0,.rd 10 [] 1 0,.rd 11 [] 1 0]++Rds 12 16++[.rd 16 [] 0 7,.rd 17 [] 0 0,.rd 18 [] 0 0]) [] [(5,.val (.bool false))] (oC (show decide (c≥(97:Int))=false from by simp;omega) (oC (show decide (c≥(48:Int))=false from by simp;omega) (oC (show(c==(45:Int))=false from by simp;omega) oN))) ?_
    refine Zs [zR 0,zR 1] [] [zB 42 true] ?_
    refine cTt ?_
    refine Zs [zR 0] [42] [] ?_
    refine Yr [[]] (.bool false) fun a w s=>?_
    rw[bad c hc (by simp[badC];omega)]
    exact s.ret (by simp) [] [] rfl rfl
   ·refine Zp ([.rd 0 [] 0 0,.rd 1 [] 0 7,.rd 2 [] 0 0,.rd 3 [] 1 0,.rd 4 [] 1 0]++Rds 5 8++[.rd 8 [] 0 6,.rd 9 [] 0 0,.rd 10 [] 0 0,.rd 11 [] 0 6]++Rds 12 15++[.rd 15 [] 1 0,.rd 16 [] 1 0,.rd 17 [] 0 0,.rd 18 [] 0 0]) [] [(5,.val (.bool true))] (oC (show decide (c≥(97:Int))=false from by simp;omega) (oC (show decide (c≥(48:Int))=true from by simp;omega) (oC (show decide (c≤(57:Int))=true from by simp;omega) oN))) ?_
    refine Zs [zR 0,zR 1] [] [zB 42 false] ?_
    refine cF ?_
    refine J_skip (J_eb ?_)
    refine Zp [zR 0,.rd 1 [] 0 1,zR 2] [42] [zI 3 (i+1)] (oC (show IntKind.i64.wrap (i+1)=i+1 from wrap_i64 (by omega) (by omega)) oN) ?_
    refine J_backx (i+1) [0,2,3] [] [] [] ?_ ?_ (by kernel_rfl) rfl rfl rfl
    ·exact⟨by omega,by omega,back c hc (by simp[badC];omega)⟩
    ·omega
   ·refine Zp ([.rd 0 [] 0 0,.rd 1 [] 0 7,.rd 2 [] 0 0,.rd 3 [] 1 0,.rd 4 [] 1 0]++Rds 5 8++[.rd 8 [] 0 6,.rd 9 [] 0 0,.rd 10 [] 0 0,.rd 11 [] 0 7]++Rds 12 16++[.rd 16 [] 0 7,.rd 17 [] 0 0,.rd 18 [] 0 0]) [] [(5,.val (.bool false))] (oC (show decide (c≥(97:Int))=false from by simp;omega) (oC (show decide (c≥(48:Int))=true from by simp;omega) (oC (show decide (c≤(57:Int))=false from by simp;omega) (oC (show(c==(45:Int))=false from by simp;omega) oN)))) ?_
    refine Zs [zR 0,zR 1] [] [zB 42 true] ?_
    refine cTt ?_
    refine Zs [zR 0] [42] [] ?_
    refine Yr [[]] (.bool false) fun a w s=>?_
    rw[bad c hc (by simp[badC];omega)]
    exact s.ret (by simp) [] [] rfl rfl
   ·refine Zp [.rd 0 [] 0 0,.rd 1 [] 0 6,.rd 2 [] 0 0,.rd 3 [] 0 0,.rd 4 [] 0 6,.rd 5 [] 0 0,.rd 6 [] 0 0,.rd 7 [] 1 0,.rd 8 [] 1 0,.rd 9 [] 1 0,.rd 10 [] 1 0,.rd 11 [] 1 0,.rd 12 [] 1 0,.rd 13 [] 0 0,.rd 14 [] 0 0,.rd 15 [] 1 0,.rd 16 [] 1 0,.rd 17 [] 0 0,.rd 18 [] 0 0] [] [(5,.val (.bool true))] (oC (show decide (c≥(97:Int))=true from by simp;omega) (oC (show decide (c≤(122:Int))=true from by simp;omega) oN)) ?_
    refine Zs [zR 0,zR 1] [] [zB 42 false] ?_
    refine cF ?_
    refine J_skip (J_eb ?_)
    refine Zp [zR 0,.rd 1 [] 0 1,zR 2] [42] [zI 3 (i+1)] (oC (show IntKind.i64.wrap (i+1)=i+1 from wrap_i64 (by omega) (by omega)) oN) ?_
    refine J_backx (i+1) [0,2,3] [] [] [] ?_ ?_ (by kernel_rfl) rfl rfl rfl
    ·exact⟨by omega,by omega,back c hc (by simp[badC];omega)⟩
    ·omega
   ·refine Zp ([.rd 0 [] 0 0,.rd 1 [] 0 6,.rd 2 [] 0 0,.rd 3 [] 0 0,.rd 4 [] 0 7]++Rds 5 8++[.rd 8 [] 0 6,.rd 9 [] 0 0,.rd 10 [] 0 0,.rd 11 [] 0 7]++Rds 12 16++[.rd 16 [] 0 7,.rd 17 [] 0 0,.rd 18 [] 0 0]) [] [(5,.val (.bool false))] (oC (show decide (c≥(97:Int))=true from by simp;omega) (oC (show decide (c≤(122:Int))=false from by simp;omega) (oC (show decide (c≥(48:Int))=true from by simp;omega) (oC (show decide (c≤(57:Int))=false from by simp;omega) (oC (show(c==(45:Int))=false from by simp;omega) oN))))) ?_
    refine Zs [zR 0,zR 1] [] [zB 42 true] ?_
    refine cTt ?_
    refine Zs [zR 0] [42] [] ?_
    refine Yr [[]] (.bool false) fun a w s=>?_
    rw[bad c hc (by simp[badC];omega)]
    exact s.ret (by simp) [] [] rfl rfl
  ·have e2:badL s0.data.toList=false:=by
    unfold badL
    rw[List.any_eq_false]
    intro t ht
    obtain⟨j,hj⟩:=List.getElem?_of_mem ht
    have hjl:=(List.getElem?_eq_some_iff.1 hj).1
    simp[hno j (by simp at hlt;omega) t hj]
   refine J_exit rfl ?_
   refine Zs [zR 0] [17,0,3] [zB 2 true] ?_
   refine Yr [[]] (.bool true) fun a w s=>?_
   rw[e2]
   exact s.ret (by simp) [] [] rfl rfl
end Go.Proofs.YtmkapocibaojdaaGreatDoor
end
section
namespace Go.Proofs.YtmkapocibaojdaaGreatDoor
open Go Go.Sx
abbrev globs (er:Nat→Addr):List (Value×D):=[(.nilIface,.v .nilIface),dE 390 er 0 2,dE 390 er 1 3]
def badT (t:Int):Bool:=decide (t<0)||decide (1099511627776<t)
def vecErr (xs:List Int):Nat:=if xs.length<1∨6<xs.length then 3 else if xs.any badT then 2 else 0
set_option maxHeartbeats 4000000 in
theorem check1 {w:World} {S:Nat→Prop} {t:Int}:Calls Tryz.prog 183 #[.int .i64 t] w fun e w'=>Ret [] w S w' e (.bool (badT t)) [] []:=by
 refine epG Tryz.func183 bd183 (args:=[.int .i64 t]) (G:=[]) (by kernel_rfl) (AllG.nil w S) ?_
 refine Zs [zR 0] [] [zB 2 false] ?_
 refine Zs (Rds 0 3++[.rd 3 [] 2 0,.rd 4 [] 2 0,.rd 5 [] 0 3,zR 6]) [0] [zB 2 (decide (t<0)||decide (t>1099511627776))] ?_
 refine Yr [[]] (.bool (decide (t<0)||decide (t>1099511627776))) fun a w s=>?_
 exact s.ret (by simp) [] [] rfl rfl
set_option maxHeartbeats 4000000 in
theorem indexBad {w:World} {S:Nat→Prop} {a:Option Addr} {n c:Nat} {xs:List Int} (h:Rep w S (.slice a n c) (dInts xs)) (hl:xs.length≤1000000) :
  Calls Tryz.prog 214 #[.slice a n c,.func (.func 183) #[] #[]] w fun e w'=>∃r,Ret [] w S w' e (.int .i64 r) [] []∧decide (0≤r)=xs.any badT:=by
 obtain rfl:=rep_ints_len h
 refine epG Tryz.func214 bd214 (args:=[.slice a xs.length c,.func (.func 183) #[] #[]]) (G:=[(_,dInts xs)]) (by kernel_rfl) (.cons h (.nil _ _)) ?_
 refine Zs [zR 0] [] [zI 4 0] ?_
 refine J_seq ?_
 refine Zs (Rds 0 3) [] [zI 7 (↑xs.length:Int),zI 8 0] ?_
 refine J_block ?_
 refine J_loopx (fun i:Int=>[zS 0 a xs.length c,zV 1 (.func (.func 183) #[] #[]),zI 4 0,zI 7 (↑xs.length:Int),zI 8 i]) (fun i:Int=>[]) (fun i:Int=>[]) (fun i:Int=>[(.slice a xs.length c,(dInts xs))]) (fun i:Int=>(xs.length - i).toNat) (fun i:Int=>(0≤i∧i≤xs.length∧∀j:Nat,j<i.toNat→∀t,xs[j]?=some t→badT t=false)) 0 [0,1,4,7,8] [] [] [0] ?_ (by kernel_rfl) rfl rfl rfl ?_
 ·exact⟨by simp,by omega,by simp⟩
 rintro i ⟨hi0,hi,hno⟩
 refine Zs [zR 0] [] [zB 9 (decide (i<(↑xs.length:Int)))] ?_
 refine J_seq ?_
 refine cC (t:=decide (i<(↑xs.length:Int))) (fun hlt=>?_) (fun hlt=>?_)
 ·have hlt2:i<xs.length:=by simpa using hlt
  obtain⟨x,hx⟩:∃x,xs[i.toNat]?=some x:=⟨_,List.getElem?_eq_getElem (by omega)⟩
  refine J_read0 0 rfl i.toNat (map_at hx) (by kernel_rfl) (fun b1 off1 cs1 ty1 fz1 ha1 hrd1=>?_)
  cases ha1
  have hrd1_0:=rd0 (hrd1 0 _ rfl)
  try simp only[aQ]
  refine J_skip (J_seq (J_block ?_))
  refine Zs [zR 0,zR 1] [9] [zI 5 i] ?_
  refine jS [(0,true),(1,true),(2,true),(3,true),(4,true),(5,false)] [] ?_
  refine Yp (Rds 0 3++[.rd 3 [] 0 2,.rd 4 [.r 0 (some (nI x))] 0 0]) [] [zV 11 (.func (.func 183) #[] #[]),zI 15 x] (oC hi0 (oC hlt2 (oC hrd1_0 oN))) ?_
  refine Yc 183 #[nI x] (some 16) fun w S hG=>?_
  refine(check1 (S:=S)).mono ?_
  rintro e w2 hR
  refine⟨_,_,_,hR,?_⟩
  try simp only[aQ]
  refine JR_end ?_
  refine cC (t:=badT x) (fun hb=>?_) (fun hb=>?_)
  ·refine J_seq ?_
   refine Za [zR 0,zR 1] [16] [zI 4 i] ?_
   refine Yr [[]] (nI i) fun a w s=>?_
   refine⟨_,s.ret (by simp) [] [] rfl rfl,?_⟩
   rw[List.any_eq_true.2 ⟨x,List.mem_of_getElem? hx,hb⟩]
   simpa using hi0
  ·refine J_skip ?_
   refine J_eb ?_
   refine Zp [.rd 0 [] 0 1,zR 1] [16] [zI 8 (i+1)] (oC (show IntKind.i64.wrap (i+1)=i+1 from wrap_i64 (by omega) (by omega)) oN) ?_
   refine J_backx (i+1) [0,1,4,7,8] [] [] [0] ?_ ?_ (by kernel_rfl) rfl rfl rfl
   ·refine⟨by omega,by omega,fun j hj t ht=>?_⟩
    by_cases hji:j=i.toNat
    ·subst hji
     rw[hx]at ht
     cases ht
     exact hb
    ·exact hno j (by omega) t ht
   ·omega
 ·refine J_exit rfl ?_
  refine Zs [zR 0] [9,0,1,7,8] [zI 4 (-1)] ?_
  refine Yr [[]] (nI (-1)) fun a w s=>?_
  refine⟨_,s.ret (by simp) [] [] rfl rfl,?_⟩
  have e:xs.any badT=false:=by
   rw[List.any_eq_false]
   intro t ht
   obtain⟨j,hj⟩:=List.getElem?_of_mem ht
   have hjl:=(List.getElem?_eq_some_iff.1 hj).1
   simp[hno j (by simp at hlt;omega) t hj]
  rw[e]
  decide
set_option maxHeartbeats 4000000 in
theorem containsBad {w:World} {S:Nat→Prop} {a:Option Addr} {n c:Nat} {xs:List Int} (h:Rep w S (.slice a n c) (dInts xs)) (hl:xs.length≤1000000) :
  Calls Tryz.prog 182 #[.slice a n c,.func (.func 183) #[] #[]] w fun e w'=>Ret [] w S w' e (.bool (xs.any badT)) [] []:=by
 refine epG Tryz.func182 bd182 (args:=[.slice a n c,.func (.func 183) #[] #[]]) (G:=[(_,dInts xs)]) (by kernel_rfl) (.cons h (.nil _ _)) ?_
 refine Zs [zR 0] [] [zB 4 false] ?_
 refine jS [(0,true),(1,true),(2,false),(3,true),(4,true)] [] ?_
 refine Ya [zR 0,zR 1] [0,1] [zS 5 a n c,zV 6 (.func (.func 183) #[] #[])] ?_
 refine Yc 214 #[.slice a n c,.func (.func 183) #[] #[]] (some 7) fun w S hG=>?_
 refine(indexBad (hG.at 0 rfl) hl).mono ?_
 rintro e w2 ⟨r,hR,hr⟩
 refine⟨_,_,_,hR,?_⟩
 try simp only[aQ]
 refine Ya [zR 3,zR 4] [7,5,6] [zB 4 (decide (r≥0))] ?_
 refine JR_end ?_
 refine Yr [[]] (.bool (decide (r≥0))) fun a w s=>?_
 rw[←hr]
 exact s.ret (by simp) [] [] rfl rfl
set_option maxHeartbeats 4000000 in
theorem vcheck {w:World} {S:Nat→Prop} {er:Nat→Addr} {a:Option Addr} {n c:Nat} {xs:List Int} (hE:AllG w S (globs er)) (h:Rep w S (.slice a n c) (dInts xs)) (hl:xs.length≤1000000) :
  Calls Tryz.prog 141 #[.slice a n c] w fun e w'=>∃v,Ret [] w S w' e v [] []∧ErrIs 390 er (vecErr xs) v:=by
 obtain rfl:=rep_ints_len h
 refine epG Tryz.func141 bd141 (args:=[.slice a xs.length c]) (G:=globs er++[(_,dInts xs)]) (by kernel_rfl) (hE.app (.cons h (.nil _ _))) ?_
 refine J_glob 1 rfl (fun csg1 tyg1 fzg1 hglob1=>?_)
 refine J_glob 2 rfl (fun csg2 tyg2 fzg2 hglob2=>?_)
 try simp only[aQ]
 refine Zs [zR 0] [] [zV 2 .nilIface] ?_
 refine J_seq ?_
 refine Zs (Rds 0 4++[.rd 4 [] 2 0,.rd 5 [] 2 0,.rd 6 [] 2 0,.rd 7 [] 0 3]) [] [zB 10 (decide ((↑xs.length:Int)<1)||decide ((↑xs.length:Int)>6))] ?_
 refine cC (t:=decide ((↑xs.length:Int)<1)||decide ((↑xs.length:Int)>6)) (fun hn=>?_) (fun hn=>?_)
 ·refine J_seq ?_
  refine Zp [.rd 0 [.r 1 (some (.iface 390 (.pointer (some (er 3)))))] 0 0,zR 1] [10] [zV 2 (.iface 390 (.pointer (some (er 3))))] (oC hglob2 oN) ?_
  refine Yr [[]] (.iface 390 (.pointer (some (er 3)))) fun a w s=>?_
  refine⟨_,s.ret (by simp) [] [] rfl rfl,.inr ⟨?_,?_⟩⟩ <;> rw[vecErr,if_pos (by simp at hn;omega)]
  ·decide
 ·have hn2:¬(xs.length<1∨6<xs.length):=by simp at hn;omega
  refine J_skip (J_seq ?_)
  refine jS [(0,true),(1,false)] [] ?_
  refine Ya [zR 0] [10,0] [zS 12 a xs.length c] ?_
  refine Yc 182 #[.slice a xs.length c,.func (.func 183) #[] #[]] (some 13) fun w S hG=>?_
  refine(containsBad (hG.at 3 rfl) hl).mono ?_
  rintro e w2 hR
  refine⟨_,_,_,hR,?_⟩
  try simp only[aQ]
  refine JR_end ?_
  refine cC (t:=xs.any badT) (fun hb=>?_) (fun hb=>?_)
  ·refine J_seq ?_
   refine Zp [.rd 0 [.r 0 (some (.iface 390 (.pointer (some (er 2)))))] 0 0,zR 1] [13,12] [zV 2 (.iface 390 (.pointer (some (er 2))))] (oC hglob1 oN) ?_
   refine Yr [[]] (.iface 390 (.pointer (some (er 2)))) fun a w s=>?_
   refine⟨_,s.ret (by simp) [] [] rfl rfl,.inr ⟨?_,?_⟩⟩ <;> rw[vecErr,if_neg hn2,if_pos hb]
   ·decide
  ·refine J_skip ?_
   refine Zs [zR 0] [13,12] [] ?_
   refine Yr [[]] (.nilIface) fun a w s=>?_
   exact⟨_,s.ret (by simp) [] [] rfl rfl,.inl ⟨by rw[vecErr,if_neg hn2,hb];rfl,rfl⟩⟩
end Go.Proofs.YtmkapocibaojdaaGreatDoor
end
section
namespace Go.Proofs.YtmkapocibaojdaaGreatDoor
open Go Go.Sx
def twoErr (xs ys:List Int):Nat:=if vecErr xs≠0 then vecErr xs else if vecErr ys≠0 then vecErr ys else if xs.length≠ys.length then 3 else 0
theorem vecErr_len {xs:List Int} (h:vecErr xs=0):1≤xs.length∧xs.length≤6:=by
 unfold vecErr at h
 split at h
 ·cases h
 ·omega
theorem vecErr_in {xs:List Int} (h:vecErr xs=0):∀t∈xs,0≤t∧t≤1099511627776:=by
 unfold vecErr at h
 split at h
 ·cases h
 ·split at h
  ·cases h
  ·rename_i hb
   intro t ht
   simp only[Bool.not_eq_true,List.any_eq_false]at hb
   have:=hb t ht
   simp[badT]at this
   omega
set_option maxHeartbeats 4000000 in
theorem vtwo {w:World} {S:Nat→Prop} {er:Nat→Addr} {a b:Option Addr} {n m c d:Nat} {xs ys:List Int} (hE:AllG w S (globs er)) (ha:Rep w S (.slice a n c) (dInts xs)) (hb:Rep w S (.slice b m d) (dInts ys)) (hl:xs.length≤1000000) (hl2:ys.length≤1000000) :
  Calls Tryz.prog 156 #[.slice a n c,.slice b m d] w fun e w'=>∃v,Ret [] w S w' e v [] []∧ErrIs 390 er (twoErr xs ys) v:=by
 obtain rfl:=rep_ints_len ha
 obtain rfl:=rep_ints_len hb
 refine epG Tryz.func156 bd156 (args:=[.slice a xs.length c,.slice b ys.length d]) (G:=globs er++[(_,dInts xs),(_,dInts ys)]) (by kernel_rfl) (hE.app (.cons ha (.cons hb (.nil _ _)))) ?_
 refine J_glob 2 rfl (fun csg1 tyg1 fzg1 hglob1=>?_)
 try simp only[aQ]
 refine Zs [zR 0] [] [zV 4 .nilIface] ?_
 refine J_seq ?_
 refine Zv [zR 0,zR 1,.wr 2 [] 0,zR 3,zR 4] [] [] (fun nu1=>[zS 10 (sA (nu1 0) 0) 2 2,zI 11 2,zI 12 0]) o0 (fun nu1=>[(nu1 0,.cells #[.slice a xs.length c,.slice b ys.length d] 32 (0,0))]) (fun nu1=>?_)
 refine J_block ?_
 refine J_loopx (fun i:Int=>[zS 0 a xs.length c,zS 1 b ys.length d,zV 4 .nilIface,zS 10 (sA (nu1 0) 0) 2 2,zI 11 2,zI 12 i]) (fun i:Int=>[(nu1 0,.cells #[.slice a xs.length c,.slice b ys.length d] 32 (0,0))]) (fun i:Int=>[]) (fun i:Int=>[(.nilIface,(D.v Value.nilIface)),(.pointer (sA 0 0),(D.ptr [D.v (Value.iface 390 (Value.pointer (some (er 2))))])),(.pointer (sA 1 0),(D.ptr [D.v (Value.iface 390 (Value.pointer (some (er 3))))])),(.slice a xs.length c,(dInts xs)),(.slice b ys.length d,(dInts ys))]) (fun i:Int=>(2 - i).toNat) (fun i:Int=>(i=0∨(i=1∧vecErr xs=0)∨(i=2∧vecErr xs=0∧vecErr ys=0))) 0 [0,1,4,10,11,12] [0] [] [0,1,2,3,4] ?_ (by kernel_rfl) rfl rfl rfl ?_
 ·exact .inl rfl
 rintro i (rfl|⟨rfl,h0⟩|⟨rfl,h0,h1⟩)
 ·refine J_seq ?_
  refine Za [zR 0] [] [zB 13 true] ?_
  refine J_seq ?_
  refine cTt ?_
  refine J_skip (J_seq (J_block ?_))
  refine Zs [zR 0,.rd 1 [.o 0 none] 0 0,zR 2] [13] [zS 6 a xs.length c] ?_
  refine jS [(0,true),(1,false),(2,true)] [] ?_
  refine Ya [zR 0] [] [zS 16 a xs.length c] ?_
  refine Yc 141 #[.slice a xs.length c] (some 17) fun w S hG=>?_
  refine(vcheck (hG.pick [0,1,2] rfl) (hG.at 3 rfl) hl).mono ?_
  rintro e w2 ⟨v,hR,⟨h2,rfl⟩|⟨h2,rfl⟩⟩
  ·refine⟨_,_,_,hR,?_⟩
   try simp only[aQ]
   refine Ya [zR 2] [17,16] [zV 7 .nilIface] ?_
   refine JR_end ?_
   refine Zs [zR 0,zR 1] [] [zB 19 false] ?_
   refine cF ?_
   refine J_skip (J_eb ?_)
   refine Za [zR 0,zR 1] [19] [zI 12 1] ?_
   refine J_backx 1 [0,1,4,10,11,12] [0] [] [0,1,2,3,4] ?_ ?_ (by kernel_rfl) rfl rfl rfl
   ·exact .inr (.inl ⟨rfl,h2⟩)
   ·omega
  ·refine⟨_,_,_,hR,?_⟩
   try simp only[aQ]
   refine Ya [zR 2] [17,16] [zV 7 (.iface 390 (.pointer (some (er (vecErr xs)))))] ?_
   refine JR_end ?_
   refine Zs [zR 0,zR 1] [] [zB 19 true] ?_
   refine cTt ?_
   refine Zs [zR 0,zR 1] [19] [zV 4 (.iface 390 (.pointer (some (er (vecErr xs)))))] ?_
   refine Yr [[]] (.iface 390 (.pointer (some (er (vecErr xs))))) fun a w s=>?_
   exact⟨_,s.ret (by simp) [] [] rfl rfl,.inr (by rw[twoErr,if_pos h2];exact⟨h2,rfl⟩)⟩
 ·refine J_seq ?_
  refine Za [zR 0] [] [zB 13 true] ?_
  refine J_seq ?_
  refine cTt ?_
  refine J_skip (J_seq (J_block ?_))
  refine Zs [zR 0,.rd 1 [.o 0 none] 0 0,zR 2] [13] [zS 6 b ys.length d] ?_
  refine jS [(0,true),(1,false),(2,true)] [] ?_
  refine Ya [zR 0] [] [zS 16 b ys.length d] ?_
  refine Yc 141 #[.slice b ys.length d] (some 17) fun w S hG=>?_
  refine(vcheck (hG.pick [0,1,2] rfl) (hG.at 4 rfl) hl2).mono ?_
  rintro e w2 ⟨v,hR,⟨h2,rfl⟩|⟨h2,rfl⟩⟩
  ·refine⟨_,_,_,hR,?_⟩
   try simp only[aQ]
   refine Ya [zR 2] [17,16] [zV 7 .nilIface] ?_
   refine JR_end ?_
   refine Zs [zR 0,zR 1] [] [zB 19 false] ?_
   refine cF ?_
   refine J_skip (J_eb ?_)
   refine Za [zR 0,zR 1] [19] [zI 12 2] ?_
   refine J_backx 2 [0,1,4,10,11,12] [0] [] [0,1,2,3,4] ?_ ?_ (by kernel_rfl) rfl rfl rfl
   ·exact .inr (.inr ⟨rfl,h0,h2⟩)
   ·omega
  ·refine⟨_,_,_,hR,?_⟩
   try simp only[aQ]
   refine Ya [zR 2] [17,16] [zV 7 (.iface 390 (.pointer (some (er (vecErr ys)))))] ?_
   refine JR_end ?_
   refine Zs [zR 0,zR 1] [] [zB 19 true] ?_
   refine cTt ?_
   refine Zs [zR 0,zR 1] [19] [zV 4 (.iface 390 (.pointer (some (er (vecErr ys)))))] ?_
   refine Yr [[]] (.iface 390 (.pointer (some (er (vecErr ys))))) fun a w s=>?_
   exact⟨_,s.ret (by simp) [] [] rfl rfl,.inr (by rw[twoErr,if_neg (by simp[h0]),if_pos h2];exact⟨h2,rfl⟩)⟩
 ·refine J_seq ?_
  refine Za [zR 0] [] [zB 13 false] ?_
  refine J_seq ?_
  refine cF ?_
  refine J_exit rfl ?_
  refine J_seq ?_
  refine Zs (Rds 0 5) [13,0,1,10,11,12] [zB 26 ((↑xs.length:Int) != (↑ys.length:Int))] ?_
  refine cC (t:=(↑xs.length:Int) != (↑ys.length:Int)) (fun hne=>?_) (fun hne=>?_)
  ·refine J_seq ?_
   refine Zp [.rd 0 [.r 0 (some (.iface 390 (.pointer (some (er 3)))))] 0 0,zR 1] [26] [zV 4 (.iface 390 (.pointer (some (er 3))))] (oC hglob1 oN) ?_
   refine Yr [[]] (.iface 390 (.pointer (some (er 3)))) fun a w s=>?_
   exact⟨_,s.ret (by simp) [] [] rfl rfl,.inr (by rw[twoErr,if_neg (by simp[h0]),if_neg (by simp[h1]),if_pos (by simp at hne;omega)];exact⟨by decide,rfl⟩)⟩
  ·refine J_skip ?_
   refine Zs [zR 0] [26] [] ?_
   refine Yr [[]] (.nilIface) fun a w s=>?_
   exact⟨_,s.ret (by simp) [] [] rfl rfl,.inl ⟨by rw[twoErr,if_neg (by simp[h0]),if_neg (by simp[h1]),if_neg (by simp at hne;omega)],rfl⟩⟩
def inL (xs ys:List Int):Bool:=(xs.zip ys).all fun p=>decide (p.1≤p.2)
theorem inL_true {xs ys:List Int} (hl:xs.length=ys.length) (h:∀(j:Nat) x y,xs[j]?=some x→ys[j]?=some y→x≤y):inL xs ys=true:=by
 unfold inL
 rw[List.all_eq_true]
 rintro⟨x,y⟩ hm
 obtain⟨j,hj⟩:=List.getElem?_of_mem hm
 rw[List.getElem?_zip_eq_some]at hj
 simpa using h j x y hj.1 hj.2
theorem inL_false {xs ys:List Int} {j:Nat} {x y:Int} (hx:xs[j]?=some x) (hy:ys[j]?=some y) (h:y<x):inL xs ys=false:=by
 unfold inL
 rw[List.all_eq_false]
 exact⟨(x,y),List.mem_of_getElem? (List.getElem?_zip_eq_some.2 ⟨hx,hy⟩),by simpa using h⟩
set_option maxHeartbeats 4000000 in
theorem vin {w:World} {S:Nat→Prop} {a b:Option Addr} {n m c d:Nat} {xs ys:List Int} (ha:Rep w S (.slice a n c) (dInts xs)) (hb:Rep w S (.slice b m d) (dInts ys)) (hl:xs.length≤1000000) (hxy:xs.length=ys.length) :
  Calls Tryz.prog 157 #[.slice a n c,.slice b m d] w fun e w'=>Ret [] w S w' e (.bool (inL xs ys)) [] []:=by
 obtain rfl:=rep_ints_len ha
 obtain rfl:=rep_ints_len hb
 refine epG Tryz.func157 bd157 (args:=[.slice a xs.length c,.slice b ys.length d]) (G:=[(_,dInts xs),(_,dInts ys)]) (by kernel_rfl) (.cons ha (.cons hb (.nil _ _))) ?_
 refine Zs [zR 0] [] [zB 4 false] ?_
 refine J_seq ?_
 refine Zs (Rds 0 3) [0] [zS 7 a xs.length c,zI 8 (↑xs.length:Int),zI 9 0] ?_
 refine J_block ?_
 refine J_loopx (fun i:Int=>[zS 1 b ys.length d,zB 4 false,zS 7 a xs.length c,zI 8 (↑xs.length:Int),zI 9 i]) (fun i:Int=>[]) (fun i:Int=>[]) (fun i:Int=>[(.slice a xs.length c,(dInts xs)),(.slice b ys.length d,(dInts ys))]) (fun i:Int=>(xs.length - i).toNat) (fun i:Int=>(0≤i∧i≤xs.length∧∀j:Nat,j<i.toNat→∀x y,xs[j]?=some x→ys[j]?=some y→x≤y)) 0 [1,4,7,8,9] [] [] [0,1] ?_ (by kernel_rfl) rfl rfl rfl ?_
 ·exact⟨by simp,by omega,by simp⟩
 rintro i ⟨hi0,hi,hno⟩
 refine Zs [zR 0] [] [zB 10 (decide (i<(↑xs.length:Int)))] ?_
 refine J_seq ?_
 refine cC (t:=decide (i<(↑xs.length:Int))) (fun hlt=>?_) (fun hlt=>?_)
 ·have hlt2:i<xs.length:=by simpa using hlt
  obtain⟨x,hx⟩:∃x,xs[i.toNat]?=some x:=⟨_,List.getElem?_eq_getElem (by omega)⟩
  obtain⟨y,hy⟩:∃y,ys[i.toNat]?=some y:=⟨_,List.getElem?_eq_getElem (by omega)⟩
  refine J_read0 0 rfl i.toNat (map_at hx) (by kernel_rfl) (fun b1 off1 cs1 ty1 fz1 ha1 hrd1=>?_)
  cases ha1
  have hrd1_0:=rd0 (hrd1 0 _ rfl)
  refine J_read0 1 rfl i.toNat (map_at hy) (by kernel_rfl) (fun b2 off2 cs2 ty2 fz2 ha2 hrd2=>?_)
  cases ha2
  have hrd2_0:=rd0 (hrd2 0 _ rfl)
  try simp only[aQ]
  refine J_skip (J_seq (J_block ?_))
  refine Zt [zR 0,.rd 1 [] 0 2,.rd 2 [.r 0 (some (nI x))] 0 0,zR 3,zR 4] [10] [zI 5 i,zI 6 x] (oC hi0 (oC hlt2 (oC hrd1_0 oN))) ?_
  refine Zt (Rds 0 3++[.rd 3 [] 0 2,.rd 4 [.r 1 (some (nI y))] 0 0,zR 5]) [] [zB 19 (decide (x>y))] (oC hi0 (oC (show i<(↑ys.length:Int) from by omega) (oC hrd2_0 oN))) ?_
  refine cC (t:=decide (x>y)) (fun hgt=>?_) (fun hgt=>?_)
  ·refine J_seq ?_
   refine Za [zR 0] [19] [] ?_
   refine Yr [[]] (.bool false) fun a w s=>?_
   rw[inL_false hx hy (by simpa using hgt)]
   exact s.ret (by simp) [] [] rfl rfl
  ·refine J_skip ?_
   refine J_eb ?_
   refine Zp [.rd 0 [] 0 1,zR 1] [19] [zI 9 (i+1)] (oC (show IntKind.i64.wrap (i+1)=i+1 from wrap_i64 (by omega) (by omega)) oN) ?_
   refine J_backx (i+1) [1,4,7,8,9] [] [] [0,1] ?_ ?_ (by kernel_rfl) rfl rfl rfl
   ·refine⟨by omega,by omega,fun j hj x' y' hx' hy'=>?_⟩
    by_cases hji:j=i.toNat
    ·subst hji
     rw[hx]at hx'
     rw[hy]at hy'
     cases hx'
     cases hy'
     simpa using hgt
    ·exact hno j (by omega) x' y' hx' hy'
   ·omega
 ·refine J_exit rfl ?_
  refine Zs [zR 0] [10,1,7,8,9] [zB 4 true] ?_
  refine Yr [[]] (.bool true) fun a w s=>?_
  rw[inL_true hxy fun j x y hx hy=>hno j (by have:=(List.getElem?_eq_some_iff.1 hx).1;simp at hlt;omega) x y hx hy]
  exact s.ret (by simp) [] [] rfl rfl
end Go.Proofs.YtmkapocibaojdaaGreatDoor
end
section
namespace Go.Proofs.YtmkapocibaojdaaGreatDoor
open Go Go.Sx
theorem twoErr_fine {xs ys:List Int} (h:twoErr xs ys=0):vecErr xs=0∧vecErr ys=0∧xs.length=ys.length:=by
 unfold twoErr at h
 split at h
 ·exact absurd h ‹_›
 ·split at h
  ·exact absurd h ‹_›
  ·split at h
   ·cases h
   ·rename_i h1 h2 h3
    exact⟨by simpa using h1,by simpa using h2,by omega⟩
set_option maxHeartbeats 4000000 in
theorem vwithin {w:World} {S:Nat→Prop} {er:Nat→Addr} {a b:Option Addr} {n m c d:Nat} {xs ys:List Int} (hE:AllG w S (globs er)) (ha:Rep w S (.slice a n c) (dInts xs)) (hb:Rep w S (.slice b m d) (dInts ys)) (hl:xs.length≤1000000) (hl2:ys.length≤1000000) :
  Calls Tryz.prog 100 #[.slice a n c,.slice b m d] w fun e w'=>
   (twoErr xs ys≠0∧Ret [] w S w' e (.tuple #[.bool false,errV 390 er (twoErr xs ys)]) [] []) ∨
   (twoErr xs ys=0∧Ret [] w S w' e (.tuple #[.bool (inL xs ys),.nilIface]) [] []):=by
 refine epG Tryz.func100 bd100 (args:=[.slice a n c,.slice b m d]) (G:=globs er++[(_,dInts xs),(_,dInts ys)]) (by kernel_rfl) (hE.app (.cons ha (.cons hb (.nil _ _)))) ?_
 try simp only[aQ]
 refine Zs [zR 0,zR 1] [] [zB 4 false,zV 5 .nilIface] ?_
 refine J_seq ?_
 refine jS [(0,true),(1,true),(2,false),(3,true)] [] ?_
 refine Ya [zR 0,zR 1] [] [zS 7 a n c,zS 8 b m d] ?_
 refine Yc 156 #[.slice a n c,.slice b m d] (some 9) fun w S hG=>?_
 refine(vtwo (hG.pick [0,1,2] rfl) (hG.at 3 rfl) (hG.at 4 rfl) hl hl2).mono ?_
 rintro e w2 ⟨v,hR,⟨h2,rfl⟩|⟨h2,rfl⟩⟩
 ·refine⟨_,_,_,hR,?_⟩
  try simp only[aQ]
  refine Ya [zR 3] [9,7,8] [zV 6 .nilIface] ?_
  refine JR_end ?_
  refine Zs [zR 0,zR 1] [] [zB 11 false] ?_
  refine cF ?_
  refine J_skip ?_
  refine jS [(0,true),(1,true),(2,false),(3,true),(4,true)] [] ?_
  refine Ya [zR 0,zR 1] [11,6,0,1] [zS 13 a n c,zS 14 b m d] ?_
  refine Yc 157 #[.slice a n c,.slice b m d] (some 15) fun w S hG=>?_
  refine(vin (hG.at 3 rfl) (hG.at 4 rfl) hl (twoErr_fine h2).2.2).mono ?_
  rintro e w2 hR
  refine⟨_,_,_,hR,?_⟩
  try simp only[aQ]
  refine Ya [zR 3,zR 4] [15,13,14] [zB 4 (inL xs ys)] ?_
  refine JR_end ?_
  refine Yr [[],[]] (.tuple #[.bool (inL xs ys),.nilIface]) fun a w s=>?_
  exact .inr ⟨h2,s.ret (by simp) [] [] rfl rfl⟩
 ·refine⟨_,_,_,hR,?_⟩
  try simp only[aQ]
  refine Ya [zR 3] [9,7,8] [zV 6 (.iface 390 (.pointer (some (er (twoErr xs ys)))))] ?_
  refine JR_end ?_
  refine Zs [zR 0,zR 1] [] [zB 11 true] ?_
  refine cTt ?_
  refine Zs (Rds 0 3) [11,6] [zV 5 (.iface 390 (.pointer (some (er (twoErr xs ys)))))] ?_
  refine Yr [[],[]] (.tuple #[.bool false,.iface 390 (.pointer (some (er (twoErr xs ys))))]) fun a w s=>?_
  exact .inl ⟨h2,s.ret (by simp) [] [] rfl rfl⟩
def sumL (xs:List Int):Int:=xs.foldl (· + ·) 0
theorem sumL_snoc (xs:List Int) (x:Int):sumL (xs++[x])=sumL xs+x:=by simp[sumL]
theorem sumL_le {xs:List Int} (h:∀t∈xs,0≤t∧t≤1099511627776) (i:Nat):0≤sumL (xs.take i)∧sumL (xs.take i)≤1099511627776*i:=by
 induction i with
 | zero=>simp[sumL]
 | succ i ih=>
  cases hx:xs[i]? with
  | none=>
   rw[List.take_add_one,hx]
   simp only[Option.toList_none,List.append_nil]
   omega
  | some x=>
   rw[List.take_add_one,hx]
   have:=h x (List.mem_of_getElem? hx)
   simp only[Option.toList_some,sumL_snoc]
   omega
set_option maxHeartbeats 4000000 in
theorem vweight {w:World} {S:Nat→Prop} {er:Nat→Addr} {a:Option Addr} {n c:Nat} {xs:List Int} (hE:AllG w S (globs er)) (ha:Rep w S (.slice a n c) (dInts xs)) (hl:xs.length≤1000000) :
  Calls Tryz.prog 195 #[.slice a n c] w fun e w'=>
   (vecErr xs≠0∧Ret [] w S w' e (.tuple #[.int .i64 0,errV 390 er (vecErr xs)]) [] []) ∨
   (vecErr xs=0∧Ret [] w S w' e (.tuple #[.int .i64 (sumL xs),.nilIface]) [] []):=by
 obtain rfl:=rep_ints_len ha
 refine epG Tryz.func195 bd195 (args:=[.slice a xs.length c]) (G:=globs er++[(_,dInts xs)]) (by kernel_rfl) (hE.app (.cons ha (.nil _ _))) ?_
 try simp only[aQ]
 refine Zs [zR 0,zR 1] [] [zI 2 0,zV 3 .nilIface] ?_
 refine J_seq ?_
 refine jS [(0,true),(1,false),(2,true)] [] ?_
 refine Ya [zR 0] [] [zS 8 a xs.length c] ?_
 refine Yc 141 #[.slice a xs.length c] (some 9) fun w S hG=>?_
 refine(vcheck (hG.pick [0,1,2] rfl) (hG.at 3 rfl) hl).mono ?_
 rintro e w2 ⟨v,hR,⟨h2,rfl⟩|⟨h2,rfl⟩⟩
 ·refine⟨_,_,_,hR,?_⟩
  have h6:=vecErr_len h2
  try simp only[aQ]
  refine Ya [zR 2] [9,8] [zV 4 .nilIface] ?_
  refine JR_end ?_
  refine Zs [zR 0,zR 1] [] [zB 11 false] ?_
  refine cF ?_
  refine J_skip ?_
  refine Zs [zR 0] [11,4] [zI 5 0] ?_
  refine J_seq ?_
  refine Zs (Rds 0 3) [0] [zS 13 a xs.length c,zI 14 (↑xs.length:Int),zI 15 0] ?_
  refine J_block ?_
  refine J_loopx (fun i:Int=>[zI 2 0,zV 3 .nilIface,zI 5 (sumL (xs.take i.toNat)),zS 13 a xs.length c,zI 14 (↑xs.length:Int),zI 15 i]) (fun i:Int=>[]) (fun i:Int=>[]) (fun i:Int=>[(.nilIface,(D.v Value.nilIface)),(.pointer (sA 0 0),(D.ptr [D.v (Value.iface 390 (Value.pointer (some (er 2))))])),(.pointer (sA 1 0),(D.ptr [D.v (Value.iface 390 (Value.pointer (some (er 3))))])),(.slice a xs.length c,(dInts xs))]) (fun i:Int=>(xs.length - i).toNat) (fun i:Int=>(0≤i∧i≤xs.length)) 0 [2,3,5,13,14,15] [] [] [0,1,2,3] ?_ (by kernel_rfl) rfl rfl rfl ?_
  ·exact⟨by simp,by omega⟩
  rintro i ⟨hi0,hi⟩
  refine Zs [zR 0] [] [zB 16 (decide (i<(↑xs.length:Int)))] ?_
  refine J_seq ?_
  refine cC (t:=decide (i<(↑xs.length:Int))) (fun hlt=>?_) (fun hlt=>?_)
  ·have hlt2:i<xs.length:=by simpa using hlt
   obtain⟨x,hx⟩:∃x,xs[i.toNat]?=some x:=⟨_,List.getElem?_eq_getElem (by omega)⟩
   have hs:=sumL_le (vecErr_in h2) i.toNat
   have hs2:=vecErr_in h2 x (List.mem_of_getElem? hx)
   refine J_read0 3 rfl i.toNat (map_at hx) (by kernel_rfl) (fun b1 off1 cs1 ty1 fz1 ha1 hrd1=>?_)
   cases ha1
   have hrd1_0:=rd0 (hrd1 0 _ rfl)
   try simp only[aQ]
   refine J_skip (J_seq (J_block ?_))
   refine Zt [.rd 0 [] 0 2,.rd 1 [.r 0 (some (nI x))] 0 0,zR 2] [16] [zI 7 x] (oC hi0 (oC hlt2 (oC hrd1_0 oN))) ?_
   refine Zp [zR 0,zR 1,.rd 2 [] 0 1,zR 3] [] [zI 5 (sumL (List.take i.toNat xs)+x)] (oC (show IntKind.i64.wrap (sumL (List.take i.toNat xs)+x)=sumL (List.take i.toNat xs)+x from wrap_i64 (by omega) (by omega)) oN) ?_
   refine J_eb ?_
   refine Zp [.rd 0 [] 0 1,zR 1] [] [zI 15 (i+1)] (oC (show IntKind.i64.wrap (i+1)=i+1 from wrap_i64 (by omega) (by omega)) oN) ?_
   rw[←sumL_snoc,take_snoc hi0 hx]
   refine J_backx (i+1) [2,3,5,13,14,15] [] [] [0,1,2,3] ?_ ?_ (by kernel_rfl) rfl rfl rfl
   ·exact⟨by omega,by omega⟩
   ·omega
  ·have e:xs.take i.toNat=xs:=List.take_of_length_le (by simp at hlt;omega)
   refine J_exit rfl ?_
   refine Zs (Rds 0 3) [16,5,13,14,15] [zI 2 (sumL (List.take i.toNat xs))] ?_
   refine Yr [[],[]] (.tuple #[nI (sumL (List.take i.toNat xs)),.nilIface]) fun a w s=>?_
   rw[e]
   exact .inr ⟨h2,s.ret (by simp) [] [] rfl rfl⟩
 ·refine⟨_,_,_,hR,?_⟩
  try simp only[aQ]
  refine Ya [zR 2] [9,8] [zV 4 (.iface 390 (.pointer (some (er (vecErr xs)))))] ?_
  refine JR_end ?_
  refine Zs [zR 0,zR 1] [] [zB 11 true] ?_
  refine cTt ?_
  refine Zs (Rds 0 3) [11,4] [zV 3 (.iface 390 (.pointer (some (er (vecErr xs)))))] ?_
  refine Yr [[],[]] (.tuple #[nI 0,.iface 390 (.pointer (some (er (vecErr xs))))]) fun a w s=>?_
  exact .inl ⟨h2,s.ret (by simp) [] [] rfl rfl⟩
end Go.Proofs.YtmkapocibaojdaaGreatDoor
end
section
namespace Go.Proofs.YtmkapocibaojdaaGreatDoor.Er
open Go Go.RowKit Go.Extern.Stop Go.Stop Go.Extern
theorem isTypeOf (v:Value) (w:World):(Extern.ReflectliteType.typeOf #[.iface 390 v]).run Tryz.prog w=.ok (.iface 330 (.agg #[.pointer (some ⟨13,390,none⟩)])) w:=by kernel_rfl
theorem isComparable (w:World):(callFunc 292 #[.agg #[.pointer (some ⟨13,390,none⟩)]]).run Tryz.prog w=.ok (.value (.bool true)) w:=by kernel_rfl
theorem isMethodComparable (v:Value) (w:World):(Go.method 523 330 v "Comparable").run Tryz.prog w=.ok (292,v) w:=by kernel_rfl
theorem isComp:(Tryz.prog.info? 390).map (·.comparable)=some true:=by kernel_rfl
theorem isSize:(Tryz.prog.info? 411).map (·.size)=some 1:=by kernel_rfl
theorem noIsE (v:Value) (xT:TypeId) (w:World):(Instr.typeAssert (.iface 390 v) xT 340 true).run Tryz.prog w=.ok (.tuple #[.nilIface,.bool false]) w:=run_typeAssert_lacksB Tryz.underlying340 (by kernel_rfl) (by kernel_rfl) v xT w
theorem noUnwrapE (v:Value) (xT:TypeId) (w:World):(Instr.typeAssert (.iface 390 v) xT 337 true).run Tryz.prog w=.ok (.tuple #[.nilIface,.bool false]) w:=run_typeAssert_lacksB Tryz.underlying337 (by kernel_rfl) (by kernel_rfl) v xT w
theorem noUnwrapsE (v:Value) (xT:TypeId) (w:World):(Instr.typeAssert (.iface 390 v) xT 338 true).run Tryz.prog w=.ok (.tuple #[.nilIface,.bool false]) w:=run_typeAssert_lacksB Tryz.underlying338 (by kernel_rfl) (by kernel_rfl) v xT w
theorem noAsE (v:Value) (xT:TypeId) (w:World):(Instr.typeAssert (.iface 390 v) xT 334 true).run Tryz.prog w=.ok (.tuple #[.nilIface,.bool false]) w:=run_typeAssert_lacksB Tryz.underlying334 (by kernel_rfl) (by kernel_rfl) v xT w
theorem is_same (a:Addr) (w:World) :
  Calls Tryz.prog 124 #[.iface 390 (.pointer (some a)),.iface 390 (.pointer (some a))] w fun e w'=>e=.returned (.bool true)∧w'=w:=by
 obtain⟨i,hi,hcmp⟩:=Option.map_eq_some_iff.1 isComp
 obtain⟨j,hj,hjs⟩:=Option.map_eq_some_iff.1 isSize
 have h8:=@run_callFunc_extern Tryz.prog 173 _ Extern.ReflectliteType.typeOf Tryz.func173 (by kernel_rfl) (by kernel_rfl) (by kernel_rfl) (by kernel_rfl)
 have tT:=isTypeOf
 have cT:=isComparable
 have mR:=isMethodComparable
 have heq:=run_eql_iface_ptr_same (P:=Tryz.prog) w a Tryz.underlying26 Tryz.underlying390 hi hcmp hj
 go_enter Tryz.func124,Tryz.ntmps124
 go_wp2
 refine wp_loop_rounds 1 ?_
 rw[rounds_succ]
 go_wp2
 go_ret
 exact⟨rfl,rfl⟩
theorem is_other (a b:Addr) (ca cb:Array Value) (ta tb:TypeId) (w:World) (hne:a≠b) (ha:w.heap[a.block]?=some (.cells ca ta (0,0))) (hb:w.heap[b.block]?=some (.cells cb tb (0,0))) :
  Calls Tryz.prog 124 #[.iface 390 (.pointer (some a)),.iface 390 (.pointer (some b))] w fun e w'=>e=.returned (.bool false)∧w'=w:=by
 obtain⟨i,hi,hcmp⟩:=Option.map_eq_some_iff.1 isComp
 obtain⟨j,hj,hjs⟩:=Option.map_eq_some_iff.1 isSize
 have h8:=@run_callFunc_extern Tryz.prog 173 _ Extern.ReflectliteType.typeOf Tryz.func173 (by kernel_rfl) (by kernel_rfl) (by kernel_rfl) (by kernel_rfl)
 have tT:=isTypeOf
 have cT:=isComparable
 have mR:=isMethodComparable
 have nE:=noIsE
 have uE:=noUnwrapE
 have vE:=noUnwrapsE
 have heq:=run_eql_iface_ptr_other (P:=Tryz.prog) w Tryz.underlying26 Tryz.underlying390 hi hcmp hj (by rw[hjs];decide) hne ha hb
 go_enter Tryz.func124,Tryz.ntmps124
 go_wp2
 refine wp_loop_rounds 1 ?_
 rw[rounds_succ]
 go_wp2
 go_ret
 exact⟨rfl,rfl⟩
theorem valueOfFF (t:Addr) (w:World):(ReflectliteValue.unpack (.iface 229 (.pointer (some t)))).run Tryz.prog w
  = .ok (.agg #[.pointer (some ⟨13,229,none⟩),.pointer (some ⟨w.heap.size,0,none⟩),.int .u64 150]) (w.alloc (.cells #[.pointer (some t)] 229)):=by kernel_rfl
theorem typeFF (a:Addr) (w:World):(ReflectliteValue.methodAny (ReflectliteValue.valueError "reflectlite.Value.Type" 0) (fun t _ _ _=>ReflectliteType.toType t) #[.agg #[.pointer (some ⟨13,229,none⟩),.pointer (some a),.int .u64 150]]).run Tryz.prog w
  = .ok (.iface 330 (.agg #[.pointer (some ⟨13,229,none⟩)])) w:=by kernel_rfl
theorem methodKind (h:Value) (w:World):(Go.method 523 330 (.agg #[h]) "Kind").run Tryz.prog w=.ok (280,h) w:=by kernel_rfl
theorem kindFF (w:World):((ReflectliteType.abiMethod fun t=>(fun a:Nat=>Value.int IntKind.u8 (a:Int)) <$> Rtype.kind t) #[.pointer (some ⟨13,229,none⟩)]).run Tryz.prog w=.ok (.int .u8 22) w:=by kernel_rfl
theorem kindF (w:World):((ReflectliteType.abiMethod fun t=>(fun a:Nat=>Value.int IntKind.u8 (a:Int)) <$> Rtype.kind t) #[.pointer (some ⟨13,202,none⟩)]).run Tryz.prog w=.ok (.int .u8 22) w:=by kernel_rfl
theorem rlm (z:Sem Value) (f:TypeId→Addr→Nat→Nat→Sem Value) (v:Value) :
  ReflectliteValue.method z f #[v]=(do match ← ReflectliteValue.parts v with|none=>z|some (t,a,fl)=>f t a fl (fl % 32)):=rfl
theorem partsFF (a:Addr) (w:World):(ReflectliteValue.parts (.agg #[.pointer (some ⟨13,229,none⟩),.pointer (some a),.int .u64 150])).run Tryz.prog w=.ok (some (229,a,150)) w:=by kernel_rfl
theorem isNilFF (a p:Addr) (W:World) (ha:W.cell? a=some (.pointer (some p))) :
  (ReflectliteValue.method (ReflectliteValue.valueError "reflectlite.Value.IsNil" 0) ReflectliteValue.isNil #[.agg #[.pointer (some ⟨13,229,none⟩),.pointer (some a),.int .u64 150]]).run Tryz.prog W=.ok (.bool false) W:=by
 rw[rlm]
 simp only[Sem.run_bind,partsFF,Result.andThen]
 simp[ReflectliteValue.isNil,loadVar,isAgg,underlying,Tryz.underlying229,ha,Result.andThen]
theorem methodElem (h:Value) (w:World):(Go.method 523 330 (.agg #[h]) "Elem").run Tryz.prog w=.ok (293,.agg #[h]) w:=by kernel_rfl
theorem methodImplements (h:Value) (w:World):(Go.method 523 330 (.agg #[h]) "Implements").run Tryz.prog w=.ok (294,.agg #[h]) w:=by kernel_rfl
theorem methodAssignableTo (h:Value) (w:World):(Go.method 523 330 (.agg #[h]) "AssignableTo").run Tryz.prog w=.ok (291,.agg #[h]) w:=by kernel_rfl
theorem elemFF (w:World):(ReflectliteType.method ReflectliteType.elem #[.agg #[.pointer (some ⟨13,229,none⟩)]]).run Tryz.prog w=.ok (.iface 330 (.agg #[.pointer (some ⟨13,202,none⟩)])) w:=by kernel_rfl
theorem implementsF (w:World):(ReflectliteType.relation "Implements" ReflectliteType.implements_ #[.agg #[.pointer (some ⟨13,202,none⟩)],.iface 330 (.agg #[.pointer (some ⟨13,26,none⟩)])]).run Tryz.prog w=.ok (.bool true) w:=by kernel_rfl
theorem typeOfF (v:Value) (w:World):(ReflectliteType.typeOf #[.iface 202 v]).run Tryz.prog w=.ok (.iface 330 (.agg #[.pointer (some ⟨13,202,none⟩)])) w:=by kernel_rfl
theorem assignableF (w:World):(ReflectliteType.relation "AssignableTo" ReflectliteType.assignableTo #[.agg #[.pointer (some ⟨13,202,none⟩)],.iface 330 (.agg #[.pointer (some ⟨13,202,none⟩)])]).run Tryz.prog w=.ok (.bool true) w:=by kernel_rfl
theorem assignableT (w:World):(ReflectliteType.relation "AssignableTo" ReflectliteType.assignableTo #[.agg #[.pointer (some ⟨13,390,none⟩)],.iface 330 (.agg #[.pointer (some ⟨13,202,none⟩)])]).run Tryz.prog w=.ok (.bool false) w:=by kernel_rfl
theorem valueOfF (e:Addr) (w:World):(ReflectliteValue.unpack (.iface 202 (.pointer (some e)))).run Tryz.prog w
  = .ok (.agg #[.pointer (some ⟨13,202,none⟩),.pointer (some ⟨w.heap.size,0,none⟩),.int .u64 150]) (w.alloc (.cells #[.pointer (some e)] 202)):=by kernel_rfl
theorem elemOfFF (w:World):(Rtype.elem? 229).run Tryz.prog w=.ok (some 202) w:=by kernel_rfl
theorem mkF (p:Addr) (w:World):(ReflectliteValue.mk 202 p ReflectliteValue.flagAddr).run Tryz.prog w=.ok (.agg #[.pointer (some ⟨13,202,none⟩),.pointer (some p),.int .u64 406]) w:=by kernel_rfl
theorem elemVFF (a p:Addr) (W:World) (ha:W.cell? a=some (.pointer (some p))) :
  (ReflectliteValue.method (ReflectliteValue.valueError "reflectlite.Value.Elem" 0) ReflectliteValue.elem #[.agg #[.pointer (some ⟨13,229,none⟩),.pointer (some a),.int .u64 150]]).run Tryz.prog W
   = .ok (.agg #[.pointer (some ⟨13,202,none⟩),.pointer (some p),.int .u64 406]) W:=by
 rw[rlm]
 simp only[Sem.run_bind,partsFF,Result.andThen]
 simp[ReflectliteValue.elem,loadVar,isAgg,underlying,Tryz.underlying229,ha,Result.andThen,elemOfFF,mkF]
theorem rls (v x:Value):ReflectliteValue.set #[v,x]=(do
  let (some (dst,a,fl),some (src,b,_)):=(← ReflectliteValue.parts v,←ReflectliteValue.parts x)
   | unsupported (.noEntry "extern/(internal/reflectlite.Value).Set.zeroValue")
  if fl / ReflectliteValue.flagAddr % 2==0 then unsupported (.noEntry "extern/(internal/reflectlite.Value).Set.unaddressable")
  let val ← loadVar src b
  if ← Rtype.directlyAssignable dst src then storeVar dst a val
  else if ← Rtype.implements dst src then
   if (← Rtype.kind src)==20 then
    match val with
    | .nilIface=>unsupported (.noEntry "extern/reflectlite: a nil value of one interface type handed on as a value of another")
    | _=>storeVar dst a val
   else storeVar dst a (.iface src val)
  else panicString ("reflectlite.Set: value of type " ++ (← Rtype.spelt src) ++ " is not assignable to type " ++ (← Rtype.spelt dst))
  pure (.tuple #[])):=rfl
theorem partsFa (a:Addr) (w:World):(ReflectliteValue.parts (.agg #[.pointer (some ⟨13,202,none⟩),.pointer (some a),.int .u64 406])).run Tryz.prog w=.ok (some (202,a,406)) w:=by kernel_rfl
theorem partsF (a:Addr) (w:World):(ReflectliteValue.parts (.agg #[.pointer (some ⟨13,202,none⟩),.pointer (some a),.int .u64 150])).run Tryz.prog w=.ok (some (202,a,150)) w:=by kernel_rfl
theorem directF (w:World):(Rtype.directlyAssignable 202 202).run Tryz.prog w=.ok true w:=by kernel_rfl
theorem setF (ta b e:Addr) (old:Value) (W:World) (hb:W.cell? b=some (.pointer (some e))) (ht:W.cell? ta=some old) (hf:W.frozen? ta=false) :
  (ReflectliteValue.set #[.agg #[.pointer (some ⟨13,202,none⟩),.pointer (some ta),.int .u64 406],.agg #[.pointer (some ⟨13,202,none⟩),.pointer (some b),.int .u64 150]]).run Tryz.prog W
   = .ok (.tuple #[]) (W.setCell ta (.pointer (some e))):=by
 rw[rls]
 simp only[Sem.run_bind,partsFa,partsF,Result.andThen]
 simp[ReflectliteValue.flagAddr,loadVar,isAgg,underlying,Tryz.underlying202,hb,Result.andThen,directF,storeVar,Value.cells,storeCells,Addr.add]
 rw[run_store Tryz.prog W ta _ _ (by rfl)]
 simp[ht,hf]
theorem cell_lt {w:World} {a:Addr} {v:Value} (h:w.cell? a=some v):a.block<w.heap.size:=by
 rcases Nat.lt_or_ge a.block w.heap.size with h'|h'
 ·exact h'
 ·simp[World.cell?,Array.getElem?_eq_none h']at h
set_option maxHeartbeats 4000000 in
theorem as_hit (e t:Addr) (old:Value) (w:World) (hg:w.cell? ⟨12,0,none⟩=some (.iface 330 (.agg #[.pointer (some ⟨13,26,none⟩)]))) (ht0:w.cell? t=some old) (hf0:w.frozen? t=false) :
  Calls Tryz.prog 123 #[.iface 202 (.pointer (some e)),.iface 229 (.pointer (some t))] w fun ev w'=>ev=.returned (.bool true)∧w'=((((w.alloc (.cells #[.pointer (some t)] 229)).alloc (.cells #[.pointer (some ⟨13,229,none⟩),.pointer (some ⟨w.heap.size,0,none⟩),.int .u64 150] 285)).alloc (.cells #[.pointer (some ⟨13,229,none⟩),.pointer (some ⟨w.heap.size,0,none⟩),.int .u64 150] 285)).alloc (.cells #[.pointer (some e)] 202)).setCell t (.pointer (some e)):=by
 have h6:=@run_callFunc_extern Tryz.prog 169 _ (fun args=>ReflectliteValue.unpack (args.getD 0 (.tuple #[]))) Tryz.func169 (by kernel_rfl) (by kernel_rfl) (by kernel_rfl) (by kernel_rfl)
 have h7:=@run_callFunc_extern Tryz.prog 170 _ (ReflectliteValue.methodAny (ReflectliteValue.valueError "reflectlite.Value.Type" 0) (fun t _ _ _=>ReflectliteType.toType t)) Tryz.func170 (by kernel_rfl) (by kernel_rfl) (by kernel_rfl) (by kernel_rfl)
 have h8:=@run_callFunc_extern Tryz.prog 171 _ (ReflectliteValue.method (ReflectliteValue.valueError "reflectlite.Value.IsNil" 0) ReflectliteValue.isNil) Tryz.func171 (by kernel_rfl) (by kernel_rfl) (by kernel_rfl) (by kernel_rfl)
 have h27:=@run_callFunc_extern Tryz.prog 280 _ (ReflectliteType.abiMethod fun t=>do pure (.int .u8 (← Rtype.kind t))) Tryz.func280 (by kernel_rfl) (by kernel_rfl) (by kernel_rfl) (by kernel_rfl)
 have h37:=@run_callFunc_extern Tryz.prog 293 _ (ReflectliteType.method ReflectliteType.elem) Tryz.func293 (by kernel_rfl) (by kernel_rfl) (by kernel_rfl) (by kernel_rfl)
 have h38:=@run_callFunc_extern Tryz.prog 294 _ (ReflectliteType.relation "Implements" ReflectliteType.implements_) Tryz.func294 (by kernel_rfl) (by kernel_rfl) (by kernel_rfl) (by kernel_rfl)
 have h10:=@run_callFunc_extern Tryz.prog 173 _ ReflectliteType.typeOf Tryz.func173 (by kernel_rfl) (by kernel_rfl) (by kernel_rfl) (by kernel_rfl)
 have h35:=@run_callFunc_extern Tryz.prog 291 _ (ReflectliteType.relation "AssignableTo" ReflectliteType.assignableTo) Tryz.func291 (by kernel_rfl) (by kernel_rfl) (by kernel_rfl) (by kernel_rfl)
 have h11:=@run_callFunc_extern Tryz.prog 208 _ (ReflectliteValue.method (ReflectliteValue.valueError "reflectlite.Value.Elem" 0) ReflectliteValue.elem) Tryz.func208 (by kernel_rfl) (by kernel_rfl) (by kernel_rfl) (by kernel_rfl)
 have h12:=@run_callFunc_extern Tryz.prog 209 _ ReflectliteValue.set Tryz.func209 (by kernel_rfl) (by kernel_rfl) (by kernel_rfl) (by kernel_rfl)
 have tO:=typeOfF
 have mA:=methodAssignableTo
 have a25:=assignableF
 have v25:=valueOfF
 have f6:=valueOfFF
 have f7:=typeFF
 have mK:=methodKind
 have mE:=methodElem
 have mI:=methodImplements
 have k27:=kindFF
 have k25:=kindF
 have e27:=elemFF
 have i25:=implementsF
 have n8:=isNilFF ⟨w.heap.size,0,none⟩ t ((w.alloc (.cells #[.pointer (some t)] 229)).alloc (.cells #[.pointer (some ⟨13,229,none⟩),.pointer (some ⟨w.heap.size,0,none⟩),.int .u64 150] 285)) (by simp)
 have hlt:12<w.heap.size:=cell_lt hg
 have hg2:((w.alloc (.cells #[.pointer (some t)] 229)).alloc (.cells #[.pointer (some ⟨13,229,none⟩),.pointer (some ⟨w.heap.size,0,none⟩),.int .u64 150] 285)).cell? ⟨12,0,none⟩=some (.iface 330 (.agg #[.pointer (some ⟨13,26,none⟩)])):=by
  rw[World.cell?_alloc_lt _ _ ⟨12,0,none⟩ (by simp;omega),World.cell?_alloc_lt _ _ ⟨12,0,none⟩ hlt];exact hg
 have htl:t.block<w.heap.size:=cell_lt ht0
 have el:=elemVFF ⟨w.heap.size,0,none⟩ t (((w.alloc (.cells #[.pointer (some t)] 229)).alloc (.cells #[.pointer (some ⟨13,229,none⟩),.pointer (some ⟨w.heap.size,0,none⟩),.int .u64 150] 285)).alloc (.cells #[.pointer (some ⟨13,229,none⟩),.pointer (some ⟨w.heap.size,0,none⟩),.int .u64 150] 285)) (by rw[World.cell?_alloc_lt _ _ _ (by simp;omega),World.cell?_alloc_lt _ _ _ (by simp),World.cell?_alloc_at _ _ _ _ (by simp)];rfl)
 have st:=setF t ⟨w.heap.size+1+1+1,0,none⟩ e old ((((w.alloc (.cells #[.pointer (some t)] 229)).alloc (.cells #[.pointer (some ⟨13,229,none⟩),.pointer (some ⟨w.heap.size,0,none⟩),.int .u64 150] 285)).alloc (.cells #[.pointer (some ⟨13,229,none⟩),.pointer (some ⟨w.heap.size,0,none⟩),.int .u64 150] 285)).alloc (.cells #[.pointer (some e)] 202))
  (by rw[World.cell?_alloc_at _ _ _ _ (by simp)];rfl)
  (by rw[World.cell?_alloc_lt _ _ t (by simp;omega),World.cell?_alloc_lt _ _ t (by simp;omega),World.cell?_alloc_lt _ _ t (by simp;omega),World.cell?_alloc_lt _ _ t htl];exact ht0)
  (by rw[World.frozen?_alloc_old _ _ t (by simp;omega),World.frozen?_alloc_old _ _ t (by simp;omega),World.frozen?_alloc_old _ _ t (by simp;omega),World.frozen?_alloc_old _ _ t (Nat.ne_of_lt htl)];exact hf0)
 go_enter Tryz.func123,Tryz.ntmps123
 go_wp2
 refine wp_loop_rounds 1 ?_
 rw[rounds_succ]
 go_wp2
 go_ret
 exact⟨rfl,rfl⟩
set_option maxHeartbeats 4000000 in
theorem as_miss (e t:Addr) (w:World) (hg:w.cell? ⟨12,0,none⟩=some (.iface 330 (.agg #[.pointer (some ⟨13,26,none⟩)]))) :
  Calls Tryz.prog 123 #[.iface 390 (.pointer (some e)),.iface 229 (.pointer (some t))] w fun ev w'=>ev=.returned (.bool false)∧w'=(((w.alloc (.cells #[.pointer (some t)] 229)).alloc (.cells #[.pointer (some ⟨13,229,none⟩),.pointer (some ⟨w.heap.size,0,none⟩),.int .u64 150] 285)).alloc (.cells #[.pointer (some ⟨13,229,none⟩),.pointer (some ⟨w.heap.size,0,none⟩),.int .u64 150] 285)):=by
 have h6:=@run_callFunc_extern Tryz.prog 169 _ (fun args=>ReflectliteValue.unpack (args.getD 0 (.tuple #[]))) Tryz.func169 (by kernel_rfl) (by kernel_rfl) (by kernel_rfl) (by kernel_rfl)
 have h7:=@run_callFunc_extern Tryz.prog 170 _ (ReflectliteValue.methodAny (ReflectliteValue.valueError "reflectlite.Value.Type" 0) (fun t _ _ _=>ReflectliteType.toType t)) Tryz.func170 (by kernel_rfl) (by kernel_rfl) (by kernel_rfl) (by kernel_rfl)
 have h8:=@run_callFunc_extern Tryz.prog 171 _ (ReflectliteValue.method (ReflectliteValue.valueError "reflectlite.Value.IsNil" 0) ReflectliteValue.isNil) Tryz.func171 (by kernel_rfl) (by kernel_rfl) (by kernel_rfl) (by kernel_rfl)
 have h27:=@run_callFunc_extern Tryz.prog 280 _ (ReflectliteType.abiMethod fun t=>do pure (.int .u8 (← Rtype.kind t))) Tryz.func280 (by kernel_rfl) (by kernel_rfl) (by kernel_rfl) (by kernel_rfl)
 have h37:=@run_callFunc_extern Tryz.prog 293 _ (ReflectliteType.method ReflectliteType.elem) Tryz.func293 (by kernel_rfl) (by kernel_rfl) (by kernel_rfl) (by kernel_rfl)
 have h38:=@run_callFunc_extern Tryz.prog 294 _ (ReflectliteType.relation "Implements" ReflectliteType.implements_) Tryz.func294 (by kernel_rfl) (by kernel_rfl) (by kernel_rfl) (by kernel_rfl)
 have h10:=@run_callFunc_extern Tryz.prog 173 _ ReflectliteType.typeOf Tryz.func173 (by kernel_rfl) (by kernel_rfl) (by kernel_rfl) (by kernel_rfl)
 have h35:=@run_callFunc_extern Tryz.prog 291 _ (ReflectliteType.relation "AssignableTo" ReflectliteType.assignableTo) Tryz.func291 (by kernel_rfl) (by kernel_rfl) (by kernel_rfl) (by kernel_rfl)
 have tO:=isTypeOf
 have mA:=methodAssignableTo
 have a25:=assignableT
 have f6:=valueOfFF
 have f7:=typeFF
 have mK:=methodKind
 have mE:=methodElem
 have mI:=methodImplements
 have k27:=kindFF
 have k25:=kindF
 have e27:=elemFF
 have i25:=implementsF
 have nA:=noAsE
 have uE:=noUnwrapE
 have vE:=noUnwrapsE
 have n8:=isNilFF ⟨w.heap.size,0,none⟩ t ((w.alloc (.cells #[.pointer (some t)] 229)).alloc (.cells #[.pointer (some ⟨13,229,none⟩),.pointer (some ⟨w.heap.size,0,none⟩),.int .u64 150] 285)) (by simp)
 have hlt:12<w.heap.size:=cell_lt hg
 have hg2:((w.alloc (.cells #[.pointer (some t)] 229)).alloc (.cells #[.pointer (some ⟨13,229,none⟩),.pointer (some ⟨w.heap.size,0,none⟩),.int .u64 150] 285)).cell? ⟨12,0,none⟩=some (.iface 330 (.agg #[.pointer (some ⟨13,26,none⟩)])):=by
  rw[World.cell?_alloc_lt _ _ ⟨12,0,none⟩ (by simp;omega),World.cell?_alloc_lt _ _ ⟨12,0,none⟩ hlt];exact hg
 go_enter Tryz.func123,Tryz.ntmps123
 go_wp2
 refine wp_loop_rounds 1 ?_
 rw[rounds_succ]
 go_wp2
 go_ret
 exact⟨rfl,rfl⟩
end Go.Proofs.YtmkapocibaojdaaGreatDoor.Er
end
section
namespace Go.Proofs.YtmkapocibaojdaaGreatDoor
open Go Go.Sx
abbrev eO (er:Nat→Addr) (eb:Nat→Array Value×TypeId) (k:Nat):Value×D:=(.pointer (some (er k)),.obj (.cells (eb k).1 (eb k).2 (0,0)))
def cglobs (er:Nat→Addr) (eb:Nat→Array Value×TypeId):List (Value×D):=[dE 390 er 7 1,dE 390 er 0 2,dE 390 er 1 3,dE 390 er 8 4,dE 390 er 4 5,dE 390 er 9 6,dE 390 er 10 7,dE 390 er 6 8,dE 390 er 5 9,dE 390 er 2 10,dE 390 er 3 11,dE 390 er 11 12,(.pointer (some ⟨12,0,none⟩),.ptr [.v (.iface 330 (.agg #[.pointer (some ⟨13,26,none⟩)]))]),eO er eb 1,eO er eb 2,eO er eb 3,eO er eb 4,eO er eb 5,eO er eb 6,eO er eb 7,eO er eb 8,eO er eb 9,eO er eb 10,eO er eb 11,eO er eb 12]
abbrev dC (er:Nat→Addr) (eb:Nat→Array Value×TypeId):D:=.all (cglobs er eb)
def Inj (er:Nat→Addr):Prop:=∀i j,1≤i→i≤12→1≤j→j≤12→er i=er j→i=j
theorem eO_mem (er:Nat→Addr) (eb:Nat→Array Value×TypeId) {k:Nat} (h1:1≤k) (h2:k≤12):eO er eb k∈cglobs er eb:=by
 rcases(by omega:k=1∨k=2∨k=3∨k=4∨k=5∨k=6∨k=7∨k=8∨k=9∨k=10∨k=11∨k=12)with rfl|rfl|rfl|rfl|rfl|rfl|rfl|rfl|rfl|rfl|rfl|rfl <;> simp[cglobs,eO]
set_option maxHeartbeats 4000000 in
theorem globs_of {w:World} {S:Nat→Prop} {er:Nat→Addr} {eb:Nat→Array Value×TypeId} (h:Rep w S .nilIface (dC er eb)):AllG w S (globs er):=
 .cons (.v rfl) (.cons (h.part _ (List.mem_of_getElem? (i:=1) rfl)) (.cons (h.part _ (List.mem_of_getElem? (i:=2) rfl)) (.nil _ _)))
set_option maxHeartbeats 4000000 in
theorem blk_of {w:World} {S:Nat→Prop} {a:Addr} {o:Obj} (h:Rep w S (.pointer (some a)) (.obj o)):w.heap[a.block]?=some o:=by
 cases h with
 | obj hb=>exact hb
set_option maxHeartbeats 4000000 in
theorem var_of {w:World} {S:Nat→Prop} {g:Nat} {v:Value} (h:Rep w S (.pointer (some ⟨g,0,none⟩)) (.ptr [.v v])):w.cell? ⟨g,0,none⟩=some v:=by
 cases h with
 | ptr u hb hS hcell hrep=>
  have h1:=(hrep 0 _ rfl).plain
  have h2:=hcell 0 (by simp)
  rw[h1]at h2
  simpa [World.cell?,hb]using h2
set_option maxHeartbeats 4000000 in
theorem isAt {w:World} {S:Nat→Prop} {a:Addr} {ca:Array Value} {ta:TypeId} {er:Nat→Addr} {eb:Nat→Array Value×TypeId} {j:Nat} (hC:Rep w S .nilIface (dC er eb)) (ha:Rep w S (.pointer (some a)) (.obj (.cells ca ta (0,0)))) (h1:1≤j) (h2:j≤12) :
  Calls Tryz.prog 124 #[.iface 390 (.pointer (some a)),.iface 390 (.pointer (some (er j)))] w fun e w'=>Ret [] w S w' e (.bool (decide (a=er j))) [] []:=by
 by_cases h:a=er j
 ·subst h
  rw[decide_eq_true rfl]
  exact(Er.is_same _ w).mono fun e w' h=>ret_same h.1 h.2
 ·rw[decide_eq_false h]
  exact(Er.is_other a (er j) ca (eb j).1 ta (eb j).2 w h (blk_of ha) (blk_of (hC.part _ (eO_mem er eb h1 h2)))).mono fun e w' h=>ret_same h.1 h.2
set_option maxHeartbeats 4000000 in
theorem asMiss {w:World} {S:Nat→Prop} {a t:Addr} {er:Nat→Addr} {eb:Nat→Array Value×TypeId} (hC:Rep w S .nilIface (dC er eb)) :
  Calls Tryz.prog 123 #[.iface 390 (.pointer (some a)),.iface 229 (.pointer (some t))] w fun e w'=>Ret [] w S w' e (.bool false) [] []:=
 (Er.as_miss a t w (var_of (hC.part _ (List.mem_of_getElem? (i:=12) rfl)))).mono fun e w' h=>ret_below h.1 (by
  rw[h.2]
  exact(((RowKit.Below.refl _ w).alloc (Nat.le_refl _) _).alloc (by simp) _).alloc (by simp;omega) _) (by rw[h.2];exact Nat.le_refl _)
abbrev eEr (er:Nat→Addr) (k:Nat):List D:=[.v (.iface 390 (.pointer (some (er k))))]
theorem row12 {i:Int} (h0:0≤i) (h1:i<12):([1,2,3,4,5,6,7,8,9,10,11,12]:List Nat)[i.toNat]?=some (i.toNat+1):=by
 obtain⟨n,rfl⟩:∃n:Nat,i=n:=⟨i.toNat,by omega⟩
 rcases(by omega:n=0∨n=1∨n=2∨n=3∨n=4∨n=5∨n=6∨n=7∨n=8∨n=9∨n=10∨n=11)with rfl|rfl|rfl|rfl|rfl|rfl|rfl|rfl|rfl|rfl|rfl|rfl <;> rfl
set_option maxHeartbeats 4000000 in
theorem codeErr {w:World} {S:Nat→Prop} {er:Nat→Addr} {eb:Nat→Array Value×TypeId} {k:Nat} {v:Value} (hC:Rep w S .nilIface (dC er eb)) (hI:Inj er) (hk:k≤12) (hv:ErrIs 390 er k v) :
  Calls Tryz.prog 60 #[v] w fun e w'=>Ret [] w S w' e (.tuple #[.int .i64 k,.int .i64 (-1)]) [] []:=by
 rcases hv with ⟨rfl,rfl⟩|⟨h0,rfl⟩
 ·refine epG Tryz.func60 bd60 (args:=[.nilIface]) (S:=S) (G:=[]) (by kernel_rfl) (.nil _ _) ?_
  refine Zs [zR 0,zR 1] [] [zI 2 0,zI 3 0] ?_
  refine J_seq ?_
  refine Zs [zR 0,zR 1] [] [zB 8 true] ?_
  refine cTt ?_
  refine Zs [zR 0,zR 1] [8] [zI 3 (-1)] ?_
  refine Yr [[],[]] (.tuple #[nI 0,nI (-1)]) fun a w s=>?_
  exact s.ret (by simp) [] [] rfl rfl
 ·refine epG Tryz.func60 bd60 (args:=[.iface 390 (.pointer (some (er k)))]) (G:=[(_,dC er eb)]) (by kernel_rfl) (.cons hC (.nil _ _)) ?_
  refine J_stp (stp_all 0 [0,1,2,3,4,5,6,7,8,9,10,11] rfl rfl) ?_
  refine J_glob 1 rfl (fun csg1 tyg1 fzg1 hglob1=>?_)
  refine J_glob 2 rfl (fun csg2 tyg2 fzg2 hglob2=>?_)
  refine J_glob 3 rfl (fun csg3 tyg3 fzg3 hglob3=>?_)
  refine J_glob 4 rfl (fun csg4 tyg4 fzg4 hglob4=>?_)
  refine J_glob 5 rfl (fun csg5 tyg5 fzg5 hglob5=>?_)
  refine J_glob 6 rfl (fun csg6 tyg6 fzg6 hglob6=>?_)
  refine J_glob 7 rfl (fun csg7 tyg7 fzg7 hglob7=>?_)
  refine J_glob 8 rfl (fun csg8 tyg8 fzg8 hglob8=>?_)
  refine J_glob 9 rfl (fun csg9 tyg9 fzg9 hglob9=>?_)
  refine J_glob 10 rfl (fun csg10 tyg10 fzg10 hglob10=>?_)
  refine J_glob 11 rfl (fun csg11 tyg11 fzg11 hglob11=>?_)
  refine J_glob 12 rfl (fun csg12 tyg12 fzg12 hglob12=>?_)
  try simp only[aQ]
  refine Zs [zR 0,zR 1] [] [zI 2 0,zI 3 0] ?_
  refine J_seq ?_
  refine Zs [zR 0,zR 1] [] [zB 8 false] ?_
  refine cF ?_
  refine J_skip ?_
  refine Zs [zR 0] [8] [zI 3 (-1)] ?_
  refine Zv [.wr 0 [] 0] [] [] (fun nu1=>[zP 4 (nu1 0)]) o0 (fun nu1=>[(nu1 0,.cells #[.pointer none] 202 (0,0))]) (fun nu1=>?_)
  refine J_seq ?_
  refine jS [(0,true),(1,true),(2,false)] [] ?_
  refine Ya [zR 0,zR 1] [] [zV 9 (.iface 390 (.pointer (some (er k)))),zV 10 (.iface 229 (.pointer (sA (nu1 0) 0)))] ?_
  refine Yc 123 #[.iface 390 (.pointer (some (er k))),.iface 229 (.pointer (sA (nu1 0) 0))] (some 11) fun w S hG=>?_
  refine(asMiss (hG.at 0 rfl)).mono ?_
  rintro e1 w1 hR
  refine⟨_,_,_,hR,?_⟩
  try simp only[aQ]
  refine JR_end ?_
  refine cF ?_
  refine J_skip (J_seq ?_)
  refine Zu [.rd 0 [.r 0 (some (.iface 390 (.pointer (some (er 1)))))] 0 0,.rd 1 [.r 1 (some (.iface 390 (.pointer (some (er 2)))))] 0 0,.rd 2 [.r 2 (some (.iface 390 (.pointer (some (er 3)))))] 0 0,.rd 3 [.r 3 (some (.iface 390 (.pointer (some (er 4)))))] 0 0,.rd 4 [.r 4 (some (.iface 390 (.pointer (some (er 5)))))] 0 0,.rd 5 [.r 5 (some (.iface 390 (.pointer (some (er 6)))))] 0 0,.rd 6 [.r 6 (some (.iface 390 (.pointer (some (er 7)))))] 0 0,.rd 7 [.r 7 (some (.iface 390 (.pointer (some (er 8)))))] 0 0,.rd 8 [.r 8 (some (.iface 390 (.pointer (some (er 9)))))] 0 0,.rd 9 [.r 9 (some (.iface 390 (.pointer (some (er 10)))))] 0 0,.rd 10 [.r 10 (some (.iface 390 (.pointer (some (er 11)))))] 0 0,.rd 11 [.r 11 (some (.iface 390 (.pointer (some (er 12)))))] 0 0,.wr 12 [] 0,zR 13,zR 14] [] [11,9,10,4] (fun nu2=>[zS 28 (sA (nu2 0) 0) 12 12,zI 29 12,zI 30 0]) o0 (fun nu2=>[(nu2 0,.cells #[.iface 390 (.pointer (some (er 1))),.iface 390 (.pointer (some (er 2))),.iface 390 (.pointer (some (er 3))),.iface 390 (.pointer (some (er 4))),.iface 390 (.pointer (some (er 5))),.iface 390 (.pointer (some (er 6))),.iface 390 (.pointer (some (er 7))),.iface 390 (.pointer (some (er 8))),.iface 390 (.pointer (some (er 9))),.iface 390 (.pointer (some (er 10))),.iface 390 (.pointer (some (er 11))),.iface 390 (.pointer (some (er 12)))] 26 (0,0))]) (fun nu2=>(oC hglob1 (oC hglob2 (oC hglob3 (oC hglob4 (oC hglob5 (oC hglob6 (oC hglob7 (oC hglob8 (oC hglob9 (oC hglob10 (oC hglob11 (oC hglob12 oN))))))))))))) (fun nu2=>?_)
  refine J_block ?_
  refine J_data (size:=1) 1 (eEr er) [1,2,3,4,5,6,7,8,9,10,11,12] 12 rfl (by decide) (by intro x _;rfl) (by simp) ⟨.inl ⟨rfl,rfl⟩,⟨.inl ⟨rfl,rfl⟩,⟨.inl ⟨rfl,rfl⟩,⟨.inl ⟨rfl,rfl⟩,⟨.inl ⟨rfl,rfl⟩,⟨.inl ⟨rfl,rfl⟩,⟨.inl ⟨rfl,rfl⟩,⟨.inl ⟨rfl,rfl⟩,⟨.inl ⟨rfl,rfl⟩,⟨.inl ⟨rfl,rfl⟩,⟨.inl ⟨rfl,rfl⟩,⟨.inl ⟨rfl,rfl⟩,trivial⟩⟩⟩⟩⟩⟩⟩⟩⟩⟩⟩⟩ ?_
  refine J_loopx (fun i:Int=>[zV 0 (.iface 390 (.pointer (some (er k)))),zI 2 0,zI 3 (-1),zS 28 (sA (nu2 0) 0) 12 12,zI 29 12,zI 30 i]) (fun i:Int=>[]) (fun i:Int=>[]) (fun i:Int=>[(.nilIface,(dC er eb)),(.slice (sA (nu2 0) 0) ((List.map (eEr er) [1,2,3,4,5,6,7,8,9,10,11,12]).length) 12,(D.sl 1 (List.map (eEr er) [1,2,3,4,5,6,7,8,9,10,11,12])))]) (fun i:Int=>(12 - i).toNat) (fun i:Int=>(0≤i∧i<k)) 0 [0,2,3,28,29,30] [] [] [0,13] ?_ (by kernel_rfl) rfl rfl rfl ?_
  ·exact⟨by omega,by omega⟩
  rintro i ⟨hi0,hi⟩
  have hx:=row12 hi0 (by omega)
  refine J_read0 1 rfl i.toNat (map_at hx) (by kernel_rfl) (fun b1 off1 cs1 ty1 fz1 ha1 hrd1=>?_)
  cases ha1
  have hrd1_0:=rd0 (hrd1 0 _ rfl)
  try simp only[aQ]
  refine Zs [zR 0] [] [zB 31 (decide (i<12))] ?_
  refine J_seq ?_
  refine J_condT (decide (i<12)) (by kernel_rfl) (by kernel_rfl) (by simp;omega) ?_
  refine J_skip (J_seq (J_block ?_))
  refine Zt [zR 0,.rd 1 [] 0 2,.rd 2 [.r 12 (some (.iface 390 (.pointer (some (er (i.toNat+1))))))] 0 0,zR 3,zR 4] [31] [zI 5 i,zV 6 (.iface 390 (.pointer (some (er (i.toNat+1)))))] (oC hi0 (oC (show i<(↑(12:Nat):Int) from by omega) (oC hrd1_0 oN))) ?_
  refine jS [(0,true),(1,true),(2,false)] [] ?_
  refine Ya [zR 0,zR 1] [] [zV 35 (.iface 390 (.pointer (some (er k)))),zV 36 (.iface 390 (.pointer (some (er (i.toNat+1)))))] ?_
  refine Yc 124 #[.iface 390 (.pointer (some (er k))),.iface 390 (.pointer (some (er (i.toNat+1))))] (some 37) fun w S hG=>?_
  refine(isAt (hG.at 0 rfl) ((hG.at 0 rfl).part _ (eO_mem er eb (k:=k) (by omega) hk)) (by omega) (by omega)).mono ?_
  rintro e2 w2 hR
  refine⟨_,_,_,hR,?_⟩
  try simp only[aQ]
  refine JR_end ?_
  refine cC (t:=decide (er k=er (i.toNat+1))) (fun hb=>?_) (fun hb=>?_)
  ·refine J_seq ?_
   refine Zp ([zR 0,.rd 1 [] 0 1]++Rds 2 5) [37] [zI 2 (i+1)] (oC (show IntKind.i64.wrap (i+1)=i+1 from wrap_i64 (by omega) (by omega)) oN) ?_
   refine Yr [[],[]] (.tuple #[nI (i+1),nI (-1)]) fun a w s=>?_
   have e:i+1=k:=by
    have:=hI k (i.toNat+1) (by omega) hk (by omega) (by omega) (of_decide_eq_true hb)
    omega
   rw[e]
   exact s.ret (by simp) [] [] rfl rfl
  ·refine J_skip ?_
   refine J_eb ?_
   refine Zp [.rd 0 [] 0 1,zR 1] [37] [zI 30 (i+1)] (oC (show IntKind.i64.wrap (i+1)=i+1 from wrap_i64 (by omega) (by omega)) oN) ?_
   refine J_backx (i+1) [0,2,3,28,29,30] [] [] [0,1] ?_ ?_ (by kernel_rfl) rfl rfl rfl
   ·refine⟨by omega,?_⟩
    rcases(by omega:i+1<k∨(i.toNat+1=k))with h|h
    ·exact h
    ·rw[h]at hb
     simp at hb
   ·omega
set_option maxHeartbeats 4000000 in
theorem codedErr {w:World} {S:Nat→Prop} {er:Nat→Addr} {eb:Nat→Array Value×TypeId} {k:Nat} {c:Int} {v:Value} (hC:Rep w S .nilIface (dC er eb)) (hI:Inj er) (hk:k≤12) (hv:ErrIs 390 er k v) :
  Calls Tryz.prog 13 #[v,.int .i64 c] w fun e w'=>Ret [] w S w' e (.bool (decide ((k:Int)=c))) [] []:=by
 refine epG Tryz.func13 bd13 (args:=[v,.int .i64 c]) (G:=[(_,dC er eb)]) (by kernel_rfl) (.cons hC (.nil _ _)) ?_
 refine Zs [zR 0] [] [zB 4 false] ?_
 refine jS [(0,true),(1,false),(2,true),(3,true),(4,true),(5,true),(6,true)] [] ?_
 refine Ya [zR 0] [0] [zV 8 v] ?_
 refine Yc 60 #[v] (some 9) fun w S hG=>?_
 refine(codeErr (er:=er) (eb:=eb) (k:=k) (hG.at 0 rfl) hI hk hv).mono ?_
 rintro e1 w1 hR
 refine⟨_,_,_,hR,?_⟩
 try simp only[aQ]
 refine Ya (Rds 2 7) [9,8] [zI 5 (↑k:Int),zI 6 (-1)] ?_
 refine JR_end ?_
 refine Zs (Rds 0 4++[.rd 4 [] 2 0,.rd 5 [] 2 0,.rd 6 [] 0 3,zR 7]) [5,6,1] [zB 4 ((↑k:Int)==c&&true)] ?_
 refine Yr [[]] (.bool ((↑k:Int)==c&&true)) fun a w s=>?_
 have e:decide ((k:Int)=c)=(decide ((k:Int)=c)&&true):=by simp
 rw[e]
 exact s.ret (by simp) [] [] rfl rfl
end Go.Proofs.YtmkapocibaojdaaGreatDoor
end
