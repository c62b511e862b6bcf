/- Part 6 of the texts of a claim: OpErr2 Fault Msg2. -/
import Derived.Test.YtpjkiomccpjboaaGreatDoorTg5
section
namespace Go.Proofs.YtpjkiomccpjboaaGreatDoor
open Go Go.Sx
def dotOk (places:Int) (d:DotT):Bool:=((((decide (d.place≥0)&&decide (d.place<places))&&decide (d.time≥1))&&decide (d.time≤1099511627776))&&decide (d.no≥0))&&decide (d.no<12)
def shapeOk (o:OpT):Bool:=
 if o.kind=1 then o.n==0&&!o.remove&&(o.dots.length:Int)==0
 else if o.kind=2 then o.text.toList==(ByteArray.mk #[]).toList&&!o.remove&&(o.dots.length:Int)==0
 else o.n==0&&(o.remove||(o.dots.length:Int)==0)
def badDots (places:Int) (l:List DotT):Bool:=l.any fun d=>!dotOk places d
def opErr (o:OpT) (places:Int):Nat:=
 if places<1∨6<places∨o.no<0∨12≤o.no then 2
 else if nameOk o.key=false then 4
 else if o.kind≠1∧o.kind≠2∧o.kind≠3 then 12
 else if shapeOk o=false then 3
 else if 60<o.text.size∨o.n < -1099511627776∨1099511627776<o.n∨60<o.dots.length then 2
 else if badDots places o.dots=true then 2
 else 0
abbrev dotA (d:DotT):Value:=.agg #[.int .i64 d.place,.int .i64 d.time,.int .i64 d.no]
abbrev opA (o:OpT) (v:Value):Value:=.agg #[.int .i64 o.no,.string o.key,.int .i64 o.kind,.string o.text,.int .i64 o.n,.bool o.remove,v]
set_option maxHeartbeats 4000000 in
theorem vDot {w:World} {S:Nat→Prop} {d:DotT} {places:Int}:Calls Tryz.prog 58 #[dotA d,.int .i64 places] w fun e w'=>Ret [] w S w' e (.bool (dotOk places d)) [] []:=by
 refine epG Tryz.func58 bd58 (args:=[dotA d,.int .i64 places]) (G:=[]) (by kernel_rfl) (AllG.nil w S) ?_
 refine Zv [.wr 0 [] 0,zR 1] [] [0] (fun nu1=>[zP 2 (nu1 0),zB 4 false]) (fun nu1=>[(nu1 0,.cells #[nI d.place,nI d.time,nI d.no] 65 (0,0))]) (fun nu1=>?_)
 refine Zs [zR 0,.rd 1 [.o 0 none] 0 0,zR 2,zR 3,.rd 4 [] 2 0,.rd 5 [.o 0 none] 2 0,.rd 6 [] 2 0,.rd 7 [] 2 0,.rd 8 [] 0 3,zR 9,.rd 10 [] 2 0,.rd 11 [.o 0 none] 2 0,.rd 12 [] 2 0,.rd 13 [] 0 3,zR 14,.rd 15 [] 2 0,.rd 16 [.o 0 none] 2 0,.rd 17 [] 2 0,.rd 18 [] 0 3,zR 19,.rd 20 [] 2 0,.rd 21 [.o 0 none] 2 0,.rd 22 [] 2 0,.rd 23 [] 0 3,zR 24,.rd 25 [] 2 0,.rd 26 [.o 0 none] 2 0,.rd 27 [] 2 0,.rd 28 [] 0 3,zR 29] [2,1] [zB 4 (decide (d.place≥0)&&decide (d.place<places)&&decide (d.time≥1)&&decide (d.time≤1099511627776)&&decide (d.no≥0)&&decide (d.no<12))] ?_
 refine Yr [[]] (.bool (decide (d.place≥0)&&decide (d.place<places)&&decide (d.time≥1)&&decide (d.time≤1099511627776)&&decide (d.no≥0)&&decide (d.no<12))) fun a w s=>?_
 exact s.ret (by simp) [] [] rfl rfl
set_option maxHeartbeats 4000000 in
theorem vShape {w:World} {S:Nat→Prop} {o:OpT} {a:Option Addr} {n c:Nat} (h:Rep w S (.slice a n c) (.sl 3 (o.dots.map eDot))):Calls Tryz.prog 55 #[opA o (.slice a n c)] w fun e w'=>Ret [] w S w' e (.bool (shapeOk o)) [] []:=by
 have e1:=h.slen
 rw[List.length_map]at e1
 subst e1
 refine epG Tryz.func55 bd55 (args:=[opA o (.slice a o.dots.length c)]) (G:=[]) (by kernel_rfl) (AllG.nil w S) ?_
 by_cases h1:o.kind=1
 ·refine J_seq ?_
  refine Zm [.wr 0 [] 0,zR 1] [] [0] (fun nu1=>[zP 1 (nu1 0),zB 2 false]) (fun nu1=>[(nu1 0,.cells #[nI o.no,.string o.key,nI o.kind,.string o.text,nI o.n,.bool o.remove,.slice a o.dots.length c] 24 (0,0))]) (fun nu1=>?_)
  refine J_seq ?_
  refine Zs [zR 0,.rd 1 [.o 0 none] 0 0] [] [zI 4 o.kind] ?_
  refine J_block ?_
  refine Zt [.rd 0 [] 0 6,zR 1] [] [zB 5 true] [(o.kind==(1:Int))=true] ⟨by simp;omega,trivial⟩ ?_
  refine cTt ?_
  refine Zs [zR 0,.rd 1 [.o 0 none] 0 0,zR 2,zR 3,.rd 4 [] 2 0,.rd 5 [.o 0 none] 2 0,.rd 6 [] 2 0,.rd 7 [] 0 3,zR 8,.rd 9 [] 2 0,.rd 10 [.o 0 none] 2 0,.rd 11 [] 2 0,.rd 12 [] 2 0,.rd 13 [] 0 3,zR 14] [5,4] [zB 2 (o.n==0&&!o.remove&&(↑o.dots.length:Int)==0)] ?_
  refine Yr [[]] (.bool (o.n==0&&!o.remove&&(↑o.dots.length:Int)==0)) fun a w s=>?_
  rw[shapeOk,if_pos h1]
  exact s.ret (by simp) [] [] rfl rfl
 ·by_cases h2:o.kind=2
  ·refine J_seq ?_
   refine Zm [.wr 0 [] 0,zR 1] [] [0] (fun nu1=>[zP 1 (nu1 0),zB 2 false]) (fun nu1=>[(nu1 0,.cells #[nI o.no,.string o.key,nI o.kind,.string o.text,nI o.n,.bool o.remove,.slice a o.dots.length c] 24 (0,0))]) (fun nu1=>?_)
   refine J_seq ?_
   refine Zs [zR 0,.rd 1 [.o 0 none] 0 0] [] [zI 4 o.kind] ?_
   refine J_block ?_
   refine Zt [.rd 0 [] 0 7,zR 1] [] [zB 5 false] [(o.kind==(1:Int))=false] ⟨by simp;omega,trivial⟩ ?_
   refine cF ?_
   refine Zt [.rd 0 [] 0 6,zR 1] [5,4] [zB 21 true] [(o.kind==(2:Int))=true] ⟨by simp;omega,trivial⟩ ?_
   refine cTt ?_
   refine Zs [zR 0,.rd 1 [.o 0 none] 0 0,zR 2,zR 3,.rd 4 [] 2 0,.rd 5 [.o 0 none] 2 0,.rd 6 [] 2 0,.rd 7 [] 0 3,zR 8,.rd 9 [] 2 0,.rd 10 [.o 0 none] 2 0,.rd 11 [] 2 0,.rd 12 [] 2 0,.rd 13 [] 0 3,zR 14] [21] [zB 2 (o.text.toList==(ByteArray.mk #[]).toList&&!o.remove&&(↑o.dots.length:Int)==0)] ?_
   refine Yr [[]] (.bool (o.text.toList==(ByteArray.mk #[]).toList&&!o.remove&&(↑o.dots.length:Int)==0)) fun a w s=>?_
   rw[shapeOk,if_neg h1,if_pos h2]
   exact s.ret (by simp) [] [] rfl rfl
  ·by_cases h3:o.n=0
   ·refine J_seq ?_
    refine Zm [.wr 0 [] 0,zR 1] [] [0] (fun nu1=>[zP 1 (nu1 0),zB 2 false]) (fun nu1=>[(nu1 0,.cells #[nI o.no,.string o.key,nI o.kind,.string o.text,nI o.n,.bool o.remove,.slice a o.dots.length c] 24 (0,0))]) (fun nu1=>?_)
    refine J_seq ?_
    refine Zs [zR 0,.rd 1 [.o 0 none] 0 0] [] [zI 4 o.kind] ?_
    refine J_block ?_
    refine Zt [.rd 0 [] 0 7,zR 1] [] [zB 5 false] [(o.kind==(1:Int))=false] ⟨by simp;omega,trivial⟩ ?_
    refine cF ?_
    refine Zt [.rd 0 [] 0 7,zR 1] [5,4] [zB 21 false] [(o.kind==(2:Int))=false] ⟨by simp;omega,trivial⟩ ?_
    refine cF ?_
    refine J_skip (J_eb ?_)
    refine Zt [zR 0,.rd 1 [.o 0 none] 0 0,.rd 2 [] 0 6,zR 3,zR 4,.rd 5 [.o 0 none] 0 0,zR 6,.rd 7 [] 2 0,.rd 8 [.o 0 none] 2 0,.rd 9 [] 2 0,.rd 10 [] 2 0,.rd 11 [] 0 3,zR 12,zR 13] [21,1] [zB 2 (o.remove||(↑o.dots.length:Int)==0)] [(o.n==(0:Int))=true] ⟨by simp;omega,trivial⟩ ?_
    refine Yr [[]] (.bool (o.remove||(↑o.dots.length:Int)==0)) fun a w s=>?_
    rw[shapeOk,if_neg h1,if_neg h2,show(o.n==0)=true by simpa using h3,Bool.true_and]
    exact s.ret (by simp) [] [] rfl rfl
   ·refine J_seq ?_
    refine Zm [.wr 0 [] 0,zR 1] [] [0] (fun nu1=>[zP 1 (nu1 0),zB 2 false]) (fun nu1=>[(nu1 0,.cells #[nI o.no,.string o.key,nI o.kind,.string o.text,nI o.n,.bool o.remove,.slice a o.dots.length c] 24 (0,0))]) (fun nu1=>?_)
    refine J_seq ?_
    refine Zs [zR 0,.rd 1 [.o 0 none] 0 0] [] [zI 4 o.kind] ?_
    refine J_block ?_
    refine Zt [.rd 0 [] 0 7,zR 1] [] [zB 5 false] [(o.kind==(1:Int))=false] ⟨by simp;omega,trivial⟩ ?_
    refine cF ?_
    refine Zt [.rd 0 [] 0 7,zR 1] [5,4] [zB 21 false] [(o.kind==(2:Int))=false] ⟨by simp;omega,trivial⟩ ?_
    refine cF ?_
    refine J_skip (J_eb ?_)
    refine Zt [zR 0,.rd 1 [.o 0 none] 0 0,.rd 2 [] 0 7,zR 3,.rd 4 [] 1 0,.rd 5 [] 1 0,.rd 6 [] 1 0,.rd 7 [] 1 0,.rd 8 [] 1 0,.rd 9 [] 1 0,.rd 10 [] 1 0,.rd 11 [] 1 0,zR 12,zR 13] [21,1] [] [(o.n==(0:Int))=false] ⟨by simp;omega,trivial⟩ ?_
    refine Yr [[]] (.bool false) fun a w s=>?_
    rw[shapeOk,if_neg h1,if_neg h2,show(o.n==0)=false by simpa using h3,Bool.false_and]
    exact s.ret (by simp) [] [] rfl rfl
theorem opRest {o:OpT} {places:Int} (h1:¬(places<1∨6<places∨o.no<0∨12≤o.no)) (h2:nameOk o.key=true) (h3:o.kind=1∨o.kind=2∨o.kind=3) (h4:shapeOk o=true):opErr o places=if 60<o.text.size∨o.n < -1099511627776∨1099511627776<o.n∨60<o.dots.length then 2 else if badDots places o.dots=true then 2 else 0:=by
 unfold opErr
 rw[if_neg h1,if_neg (by simp[h2]),if_neg (by omega),if_neg (by simp[h4])]
theorem opShape {o:OpT} {places:Int} (h1:¬(places<1∨6<places∨o.no<0∨12≤o.no)) (h2:nameOk o.key=true) (h3:o.kind=1∨o.kind=2∨o.kind=3) (h4:shapeOk o=false):opErr o places=3:=by
 unfold opErr
 rw[if_neg h1,if_neg (by simp[h2]),if_neg (by omega),if_pos h4]
theorem gt0 (l:Nat):decide ((l:Int)>0)=!((l:Int)==0):=by
 by_cases h:l=0
 ·subst h;rfl
 ·rw[decide_eq_true (by omega),show((l:Int)==0)=false by simpa using h];rfl
theorem nsh (e r:Bool) (l:Nat):(!e||r||decide ((l:Int)>0))=!(e&&!r&&(l:Int)==0):=by
 rw[gt0]
 generalize ((l:Int)==0)=x
 cases e <;> cases r <;> cases x <;> rfl
theorem nsh3 (r:Bool) (l:Nat):(!r&&decide ((l:Int)>0))=!(r||(l:Int)==0):=by
 rw[gt0]
 generalize ((l:Int)==0)=x
 cases r <;> cases x <;> rfl
theorem not_t {x:Bool} (h:(!x)=true):x=false:=by cases x <;> simp_all
theorem not_f {x:Bool} (h:(!x)=false):x=true:=by cases x <;> simp_all
set_option maxHeartbeats 2000000 in
theorem opTail {w0:World} {S:Nat→Prop} {nb:Nat} {o:OpT} {a:Option Addr} {c:Nat} {places:Int} :
  J Tryz.prog Tryz.f15 (retR Tryz.prog Tryz.f15 fun e w'=>Ret [] w0 S w' e (.int .i64 (if 60<o.text.size∨o.n < -1099511627776∨1099511627776<o.n∨60<o.dots.length then 2 else if badDots places o.dots=true then 2 else 0:Nat)) [] []) Tryz.f15.ntmps
   [.c (.rg 17 false),.c (.cond (.tmp 96) (.seq (.rg 18 false) .ret) .skip),.c (.seq (.seq (.rg 19 false) (.block 1 (.loop (.seq (.seq (.rg 20 false) (.cond (.tmp 101) .skip (.exit 1))) (.seq (.block 2 (.seq (.rg 22 false) (.seq (.rg 23 false) (.cond (.tmp 137) (.seq (.rg 24 false) .ret) .skip)))) (.rg 21 false)))))) (.seq (.rg 25 false) .ret))]
   [(1,.val (.int .i64 places)),(2,.val (.pointer (some ⟨nb,0,none⟩))),(4,.val (.int .i64 0))] [(nb,.cells #[.int .i64 o.no,.string o.key,.int .i64 o.kind,.string o.text,.int .i64 o.n,.bool o.remove,.slice a o.dots.length c] 24 (0,0))] [] [([],w0)] ⟨newS S [] w0,[],[(.slice a o.dots.length c,.sl 3 (o.dots.map eDot))]⟩:=by
 refine Za ([zR 0,.rd 1 [.o 0 none] 0 0]++Rds 2 5++[.rd 5 [] 2 0,.rd 6 [.o 0 none] 2 0,.rd 7 [] 2 0,.rd 8 [] 0 3,zR 9,.rd 10 [] 2 0,.rd 11 [.o 0 none] 2 0,.rd 12 [] 2 0,.rd 13 [] 0 3,zR 14,.rd 15 [] 2 0,.rd 16 [.o 0 none] 2 0,.rd 17 [] 2 0,.rd 18 [] 2 0,.rd 19 [] 0 3]) [] [zB 96 (decide ((↑o.text.size:Int)>60)||decide (o.n < -1099511627776)||decide (o.n>1099511627776)||decide ((↑o.dots.length:Int)>60))] ?_
 refine cC (t:=decide ((↑o.text.size:Int)>60)||decide (o.n < -1099511627776)||decide (o.n>1099511627776)||decide ((↑o.dots.length:Int)>60)) (fun hb=>?_) (fun hb=>?_)
 ·rw[if_pos (by simp at hb;omega)]
  refine Zs [zR 0] [96] [zI 4 2] ?_
  refine Yr [[]] (nI 2) fun a w s=>?_
  exact s.ret (by simp) [] [] rfl rfl
 have hb2:¬(60<o.text.size∨o.n < -1099511627776∨1099511627776<o.n∨60<o.dots.length):=by simp at hb;omega
 rw[if_neg hb2]
 refine J_skip (J_seq ?_)
 refine Zs [zR 0] [96] [zI 6 0] ?_
 refine J_block ?_
 refine J_loopx (fun i:Int=>[zI 1 places,zP 2 nb,zI 4 0,zI 6 i]) (fun i:Int=>[(nb,.cells #[nI o.no,.string o.key,nI o.kind,.string o.text,nI o.n,.bool o.remove,.slice a o.dots.length c] 24 (0,0))]) (fun i:Int=>[]) (fun i:Int=>[(.slice a o.dots.length c,(D.sl 3 (List.map eDot o.dots)))]) (fun i:Int=>(o.dots.length - i).toNat) (fun i:Int=>(0≤i∧i≤o.dots.length∧∀j:Nat,j<i.toNat→∀d,o.dots[j]?=some d→dotOk places d=true)) 0 [1,2,4,6] [0] [] [0] ?_ (by kernel_rfl) rfl rfl rfl ?_
 ·exact⟨by simp,by omega,by simp⟩
 rintro i ⟨hi0,hi,hno⟩
 refine J_seq ?_
 refine Zs [zR 0,zR 1,.rd 2 [.o 0 none] 0 0,zR 3,zR 4] [] [zB 101 (decide (i<(↑o.dots.length:Int)))] ?_
 refine cC (t:=decide (i<(↑o.dots.length:Int))) (fun hlt=>?_) (fun hlt=>?_)
 ·have hlt2:i<o.dots.length:=by simpa using hlt
  obtain⟨x,hx⟩:∃x,o.dots[i.toNat]?=some x:=⟨_,List.getElem?_eq_getElem (by omega)⟩
  refine J_read0 0 rfl i.toNat (map_at hx) (by kernel_rfl) (fun b1 off1 cs1 ty1 fz1 ha1 hrd1=>?_)
  cases ha1
  have hrd1_0:=rd0 (hrd1 0 _ rfl)
  have hrd1_1:=hrd1 1 _ rfl
  have hrd1_2:=hrd1 2 _ rfl
  try simp only[aQ]
  refine J_skip (J_seq (J_block ?_))
  refine Zu [zR 0,.rd 1 [.o 0 none] 0 0,zR 2,.rd 3 [] 0 2,.rd 4 [.r 0 (some (nI x.place)),.r 0 (some (nI x.time)),.r 0 (some (nI x.no))] 0 0,.wr 5 [] 0,.wr 6 (hnO 1 3) 0] [(6,[])] [101] (fun nu1=>[zP 7 (nu1 0)]) (fun nu1=>[(nb,.cells #[nI o.no,.string o.key,nI o.kind,.string o.text,nI o.n,.bool o.remove,.slice (sA b1 off1) o.dots.length c] 24 (0,0)),(nu1 0,.cells #[nI x.place,nI x.time,nI x.no] 65 (0,0))]) (fun nu1=>[0≤i,i<(↑o.dots.length:Int),cs1[off1+i.toNat*3]?=some (nI x.place),cs1[off1+i.toNat*3+(1:Nat)]?=some (nI x.time),cs1[off1+i.toNat*3+(2:Nat)]?=some (nI x.no)]) (fun _=>⟨hi0,hlt2,hrd1_0,hrd1_1,hrd1_2,trivial⟩) (fun nu1=>?_)
  refine Zs [zR 0,.rd 1 [.o 1 none] 0 0,zR 2,zR 3,.rd 4 [] 2 0,.rd 5 [.o 1 none] 2 0,.rd 6 [] 2 0,.rd 7 [] 2 0,.rd 8 [] 0 3,zR 9,.rd 10 [] 2 0,.rd 11 [.o 1 none] 2 0,.rd 12 [] 2 0,.rd 13 [] 0 3,zR 14,.rd 15 [] 2 0,.rd 16 [.o 1 none] 2 0,.rd 17 [] 2 0,.rd 18 [] 0 3,zR 19,.rd 20 [] 2 0,.rd 21 [.o 1 none] 2 0,.rd 22 [] 2 0,.rd 23 [] 0 3,zR 24,.rd 25 [] 2 0,.rd 26 [.o 1 none] 2 0,.rd 27 [] 2 0,.rd 28 [] 0 3] [] [zB 137 (decide (x.place<0)||decide (x.place≥places)||decide (x.time<1)||decide (x.time>1099511627776)||decide (x.no<0)||decide (x.no≥12))] ?_
  refine cC (t:=decide (x.place<0)||decide (x.place≥places)||decide (x.time<1)||decide (x.time>1099511627776)||decide (x.no<0)||decide (x.no≥12)) (fun hbad=>?_) (fun hbad=>?_)
  ·have e2:badDots places o.dots=true:=List.any_eq_true.2 ⟨x,List.mem_of_getElem? hx,by
    simp[dotOk]at hbad ⊢
    omega⟩
   refine Zs [zR 0] [137] [zI 4 2] ?_
   refine Yr [[]] (nI 2) fun a w s=>?_
   rw[e2]
   exact s.ret (by simp) [] [] rfl rfl
  ·have e2:dotOk places x=true:=by
    simp[dotOk]at hbad ⊢
    omega
   refine J_skip (J_eb ?_)
   refine Zp [zR 0,.rd 1 [] 0 1,zR 2] [137] [zI 6 (i+1)] [IntKind.i64.wrap (i+1)=i+1] ⟨wrap_i64 (by omega) (by omega),trivial⟩ ?_
   refine J_backx (i+1) [1,2,4,6] [0] [] [0] ?_ ?_ (by kernel_rfl) rfl rfl rfl
   ·refine⟨by omega,by omega,fun j hj t ht=>?_⟩
    by_cases hji:j=i.toNat
    ·subst hji
     rw[hx]at ht
     cases ht
     exact e2
    ·exact hno j (by omega) t ht
   ·omega
 ·have e2:badDots places o.dots=false:=by
   unfold badDots
   rw[List.any_eq_false]
   intro t ht
   obtain⟨j,hj⟩:=List.getElem?_of_mem ht
   have hjl:=(List.getElem?_eq_some_iff.1 hj).1
   simp[hno j (by simp at hlt;omega) t hj]
  refine J_exit rfl ?_
  refine Zs [zR 0] [101,1,2,6] [] ?_
  refine Yr [[]] (nI 0) fun a w s=>?_
  rw[e2]
  exact s.ret (by simp) [] [] rfl rfl
set_option maxHeartbeats 4000000 in
theorem opError {w:World} {S:Nat→Prop} {o:OpT} {a:Option Addr} {n c:Nat} {places:Int} (h:Rep w S (.slice a n c) (.sl 3 (o.dots.map eDot))):Calls Tryz.prog 15 #[opA o (.slice a n c),.int .i64 places] w fun e w'=>Ret [] w S w' e (.int .i64 (opErr o places)) [] []:=by
 have e1:=h.slen
 rw[List.length_map]at e1
 subst e1
 refine epG Tryz.func15 bd15 (args:=[opA o (.slice a o.dots.length c),.int .i64 places]) (G:=[(_,.sl 3 (o.dots.map eDot))]) (by kernel_rfl) (.cons h (.nil _ _)) ?_
 refine Zv [.wr 0 [] 0,zR 1] [] [0] (fun nu1=>[zP 2 (nu1 0),zI 4 0]) (fun nu1=>[(nu1 0,.cells #[nI o.no,.string o.key,nI o.kind,.string o.text,nI o.n,.bool o.remove,.slice a o.dots.length c] 24 (0,0))]) (fun nu1=>?_)
 refine J_seq ?_
 refine Zs (Rds 0 3++[.rd 3 [] 2 0,.rd 4 [] 2 0,.rd 5 [] 0 3,zR 6,.rd 7 [] 2 0,.rd 8 [.o 0 none] 2 0,.rd 9 [] 2 0,.rd 10 [] 0 3,zR 11,.rd 12 [] 2 0,.rd 13 [.o 0 none] 2 0,.rd 14 [] 2 0,.rd 15 [] 0 3]) [] [zB 23 (decide (places<1)||decide (places>6)||decide (o.no<0)||decide (o.no≥12))] ?_
 refine cC (t:=decide (places<1)||decide (places>6)||decide (o.no<0)||decide (o.no≥12)) (fun hb=>?_) (fun hb=>?_)
 ·have e:opErr o places=2:=by rw[opErr,if_pos (by simp at hb;omega)]
  refine Zs [zR 0] [23] [zI 4 2] ?_
  refine Yr [[]] (nI 2) fun a w s=>?_
  rw[e]
  exact s.ret (by simp) [] [] rfl rfl
 have hb2:¬(places<1∨6<places∨o.no<0∨12≤o.no):=by simp at hb;omega
 refine J_skip ?_
 refine jS [(0,true),(1,true),(2,false),(3,true)] [] ?_
 refine Ya (id:=3) (rest:=[(2,false),(3,true)]) [zR 0,.rd 1 [.o 0 none] 0 0] [23] [zV 25 (.string o.key)] ?_
 refine Yc 25 #[.string o.key] (some 26) fun w S hG=>?_
 refine(isName (w:=w) (S:=S) (s0:=o.key)).mono ?_
 rintro e1 w1 hR
 refine⟨_,_,_,hR,?_⟩
 cases hname:nameOk o.key with
 | false=>
  have e:opErr o places=4:=by rw[opErr,if_neg hb2,if_pos hname]
  try simp only[aQ]
  refine Ya (id:=3) (rest:=[]) [zR 3] [26,25] [zB 5 false] ?_
  refine JR_end (J_seq ?_)
  refine Zs [zR 0,zR 1] [5] [zB 28 true] ?_
  refine cTt ?_
  refine Zs [zR 0] [28] [zI 4 4] ?_
  refine Yr [[]] (nI 4) fun a w s=>?_
  rw[e]
  exact s.ret (by simp) [] [] rfl rfl
 | true=>
  by_cases h1:o.kind=1
  ·try simp only[aQ]
   refine Ya (id:=3) (rest:=[]) [zR 3] [26,25] [zB 5 true] ?_
   refine JR_end (J_seq ?_)
   refine Zs [zR 0,zR 1] [5] [zB 28 false] ?_
   refine cF ?_
   refine J_skip (J_seq ?_)
   refine Zs [zR 0,.rd 1 [.o 0 none] 0 0] [28] [zI 30 o.kind] ?_
   refine J_block ?_
   refine Zt [.rd 0 [] 0 6,zR 1] [] [zB 31 true] [(o.kind==(1:Int))=true] ⟨by simp;omega,trivial⟩ ?_
   refine cTt ?_
   refine Zs [zR 0,.rd 1 [.o 0 none] 0 0,zR 2,zR 3,.rd 4 [] 2 0,.rd 5 [.o 0 none] 2 0,.rd 6 [] 0 3,zR 7,.rd 8 [] 2 0,.rd 9 [.o 0 none] 2 0,.rd 10 [] 2 0,.rd 11 [] 2 0,.rd 12 [] 0 3] [31,30] [zB 45 (o.n != 0||o.remove||decide ((↑o.dots.length:Int)>0))] ?_
   refine cC (t:=o.n != 0||o.remove||decide ((↑o.dots.length:Int)>0)) (fun hsh=>?_) (fun hsh=>?_)
   ·have e:opErr o places=3:=opShape hb2 hname (.inl h1) (by
     rw[shapeOk,if_pos h1]
     have:=(nsh (o.n==0) o.remove o.dots.length).symm.trans hsh
     exact not_t this)
    refine Zs [zR 0] [45] [zI 4 3] ?_
    refine Yr [[]] (nI 3) fun a w s=>?_
    rw[e]
    exact s.ret (by simp) [] [] rfl rfl
   ·have e:=opRest hb2 hname (.inl h1) (by
     rw[shapeOk,if_pos h1]
     have:=(nsh (o.n==0) o.remove o.dots.length).symm.trans hsh
     exact not_f this)
    refine J_skip (J_eb (J_seq (J_seq ?_)))
    rw[e]
    exact J_cut [1,2,4] [0] [] [0] (by kernel_rfl) (by kernel_rfl) (by kernel_rfl) (by kernel_rfl) (opTail (nb:=nu1 0) (a:=a) (c:=c))
  ·by_cases h2:o.kind=2
   ·try simp only[aQ]
    refine Ya (id:=3) (rest:=[]) [zR 3] [26,25] [zB 5 true] ?_
    refine JR_end (J_seq ?_)
    refine Zs [zR 0,zR 1] [5] [zB 28 false] ?_
    refine cF ?_
    refine J_skip (J_seq ?_)
    refine Zs [zR 0,.rd 1 [.o 0 none] 0 0] [28] [zI 30 o.kind] ?_
    refine J_block ?_
    refine Zt [.rd 0 [] 0 7,zR 1] [] [zB 31 false] [(o.kind==(1:Int))=false] ⟨by simp;omega,trivial⟩ ?_
    refine cF ?_
    refine Zt [.rd 0 [] 0 6,zR 1] [31] [zB 46 true] [(o.kind==(2:Int))=true] ⟨by simp;omega,trivial⟩ ?_
    refine cTt ?_
    refine Zs [zR 0,.rd 1 [.o 0 none] 0 0,zR 2,zR 3,.rd 4 [] 2 0,.rd 5 [.o 0 none] 2 0,.rd 6 [] 0 3,zR 7,.rd 8 [] 2 0,.rd 9 [.o 0 none] 2 0,.rd 10 [] 2 0,.rd 11 [] 2 0,.rd 12 [] 0 3] [46,30] [zB 60 (!o.text.toList==(ByteArray.mk #[]).toList||o.remove||decide ((↑o.dots.length:Int)>0))] ?_
    refine cC (t:=!o.text.toList==(ByteArray.mk #[]).toList||o.remove||decide ((↑o.dots.length:Int)>0)) (fun hsh=>?_) (fun hsh=>?_)
    ·have e:opErr o places=3:=opShape hb2 hname (.inr (.inl h2)) (by
      rw[shapeOk,if_neg h1,if_pos h2]
      have:=(nsh (o.text.toList==(ByteArray.mk #[]).toList) o.remove o.dots.length).symm.trans hsh
      exact not_t this)
     refine Zs [zR 0] [60] [zI 4 3] ?_
     refine Yr [[]] (nI 3) fun a w s=>?_
     rw[e]
     exact s.ret (by simp) [] [] rfl rfl
    ·have e:=opRest hb2 hname (.inr (.inl h2)) (by
      rw[shapeOk,if_neg h1,if_pos h2]
      have:=(nsh (o.text.toList==(ByteArray.mk #[]).toList) o.remove o.dots.length).symm.trans hsh
      exact not_f this)
     refine J_skip (J_eb (J_seq (J_seq ?_)))
     rw[e]
     exact J_cut [1,2,4] [0] [] [0] (by kernel_rfl) (by kernel_rfl) (by kernel_rfl) (by kernel_rfl) (opTail (nb:=nu1 0) (a:=a) (c:=c))
   ·by_cases h3:o.kind=3
    ·by_cases h4:o.n=0
     ·try simp only[aQ]
      refine Ya (id:=3) (rest:=[]) [zR 3] [26,25] [zB 5 true] ?_
      refine JR_end (J_seq ?_)
      refine Zs [zR 0,zR 1] [5] [zB 28 false] ?_
      refine cF ?_
      refine J_skip (J_seq ?_)
      refine Zs [zR 0,.rd 1 [.o 0 none] 0 0] [28] [zI 30 o.kind] ?_
      refine J_block ?_
      refine Zt [.rd 0 [] 0 7,zR 1] [] [zB 31 false] [(o.kind==(1:Int))=false] ⟨by simp;omega,trivial⟩ ?_
      refine cF ?_
      refine Zt [.rd 0 [] 0 7,zR 1] [31] [zB 46 false] [(o.kind==(2:Int))=false] ⟨by simp;omega,trivial⟩ ?_
      refine cF ?_
      refine Zt [.rd 0 [] 0 6,zR 1] [46,30] [zB 61 true] [(o.kind==(3:Int))=true] ⟨by simp;omega,trivial⟩ ?_
      refine cTt ?_
      refine Zt [zR 0,.rd 1 [.o 0 none] 0 0,.rd 2 [] 0 7,zR 3,zR 4,.rd 5 [.o 0 none] 0 0,zR 6,zR 7,.rd 8 [] 2 0,.rd 9 [.o 0 none] 2 0,.rd 10 [] 2 0,.rd 11 [] 2 0,.rd 12 [] 0 3,zR 13] [61] [zB 76 (!o.remove&&decide ((↑o.dots.length:Int)>0))] [(o.n != (0:Int))=false] ⟨by simp;omega,trivial⟩ ?_
      refine cC (t:=!o.remove&&decide ((↑o.dots.length:Int)>0)) (fun hsh=>?_) (fun hsh=>?_)
      ·have e:opErr o places=3:=opShape hb2 hname (.inr (.inr h3)) (by
        rw[shapeOk,if_neg h1,if_neg h2,show(o.n==0)=true by simpa using h4,Bool.true_and]
        have:=(nsh3 o.remove o.dots.length).symm.trans hsh
        exact not_t this)
       refine Zs [zR 0] [76] [zI 4 3] ?_
       refine Yr [[]] (nI 3) fun a w s=>?_
       rw[e]
       exact s.ret (by simp) [] [] rfl rfl
      ·have e:=opRest hb2 hname (.inr (.inr h3)) (by
        rw[shapeOk,if_neg h1,if_neg h2,show(o.n==0)=true by simpa using h4,Bool.true_and]
        have:=(nsh3 o.remove o.dots.length).symm.trans hsh
        exact not_f this)
       refine J_skip (J_eb (J_seq (J_seq ?_)))
       rw[e]
       exact J_cut [1,2,4] [0] [] [0] (by kernel_rfl) (by kernel_rfl) (by kernel_rfl) (by kernel_rfl) (opTail (nb:=nu1 0) (a:=a) (c:=c))
     ·have e:opErr o places=3:=opShape hb2 hname (.inr (.inr h3)) (by
       rw[shapeOk,if_neg h1,if_neg h2,show(o.n==0)=false by simpa using h4,Bool.false_and])
      try simp only[aQ]
      refine Ya (id:=3) (rest:=[]) [zR 3] [26,25] [zB 5 true] ?_
      refine JR_end (J_seq ?_)
      refine Zs [zR 0,zR 1] [5] [zB 28 false] ?_
      refine cF ?_
      refine J_skip (J_seq ?_)
      refine Zs [zR 0,.rd 1 [.o 0 none] 0 0] [28] [zI 30 o.kind] ?_
      refine J_block ?_
      refine Zt [.rd 0 [] 0 7,zR 1] [] [zB 31 false] [(o.kind==(1:Int))=false] ⟨by simp;omega,trivial⟩ ?_
      refine cF ?_
      refine Zt [.rd 0 [] 0 7,zR 1] [31] [zB 46 false] [(o.kind==(2:Int))=false] ⟨by simp;omega,trivial⟩ ?_
      refine cF ?_
      refine Zt [.rd 0 [] 0 6,zR 1] [46,30] [zB 61 true] [(o.kind==(3:Int))=true] ⟨by simp;omega,trivial⟩ ?_
      refine cTt ?_
      refine Zt [zR 0,.rd 1 [.o 0 none] 0 0,.rd 2 [] 0 6,zR 3,.rd 4 [] 1 0,.rd 5 [] 1 0,.rd 6 [] 1 0,.rd 7 [] 1 0,.rd 8 [] 1 0,.rd 9 [] 1 0,.rd 10 [] 1 0,.rd 11 [] 1 0,.rd 12 [] 1 0,zR 13] [61] [zB 76 true] [(o.n != (0:Int))=true] ⟨by simp;omega,trivial⟩ ?_
      refine cTt ?_
      refine Zs [zR 0] [76] [zI 4 3] ?_
      refine Yr [[]] (nI 3) fun a w s=>?_
      rw[e]
      exact s.ret (by simp) [] [] rfl rfl
    ·have e:opErr o places=12:=by rw[opErr,if_neg hb2,if_neg (by simp[hname]),if_pos ⟨h1,h2,h3⟩]
     try simp only[aQ]
     refine Ya (id:=3) (rest:=[]) [zR 3] [26,25] [zB 5 true] ?_
     refine JR_end (J_seq ?_)
     refine Zs [zR 0,zR 1] [5] [zB 28 false] ?_
     refine cF ?_
     refine J_skip (J_seq ?_)
     refine Zs [zR 0,.rd 1 [.o 0 none] 0 0] [28] [zI 30 o.kind] ?_
     refine J_block ?_
     refine Zt [.rd 0 [] 0 7,zR 1] [] [zB 31 false] [(o.kind==(1:Int))=false] ⟨by simp;omega,trivial⟩ ?_
     refine cF ?_
     refine Zt [.rd 0 [] 0 7,zR 1] [31] [zB 46 false] [(o.kind==(2:Int))=false] ⟨by simp;omega,trivial⟩ ?_
     refine cF ?_
     refine Zt [.rd 0 [] 0 7,zR 1] [46,30] [zB 61 false] [(o.kind==(3:Int))=false] ⟨by simp;omega,trivial⟩ ?_
     refine cF ?_
     refine Zs [zR 0] [61] [zI 4 12] ?_
     refine Yr [[]] (nI 12) fun a w s=>?_
     rw[e]
     exact s.ret (by simp) [] [] rfl rfl
end Go.Proofs.YtpjkiomccpjboaaGreatDoor
namespace Go.Proofs.YtpjkiomccpjboaaGreatDoor
open Go Go.Sx
set_option maxHeartbeats 4000000 in
theorem obj_ptr {w:World} {S:Nat→Prop} {b:Nat} {x:Value} {ty:TypeId} {fz:Nat×Nat} (h:Rep w S (.pointer (some ⟨b,0,none⟩)) (.obj (.cells #[x] ty fz))) (hx:x.oneCell'=true):Rep w S (.pointer (some ⟨b,0,none⟩)) (.ptr [.v x]):=by
 cases h with
 | obj hb hS=>
  refine .ptr (fun _=>x) hb hS (fun j hj=>?_) (fun j d hj=>?_)
  ·obtain rfl:j=0:=by simpa using hj
   rfl
  ·match j,hj with
   | 0,hj=>
    simp only[List.getElem?_cons_zero,Option.some.injEq]at hj
    subst hj
    exact .v hx
   | j+1,hj=>simp at hj
set_option maxHeartbeats 4000000 in
theorem check68 {w:World} {S:Nat→Prop} {d:DotT} {places:Int} {b:Nat} (h:Rep w S (.pointer (some ⟨b,0,none⟩)) (.ptr [.v (.int .i64 places)])):Calls Tryz.prog 57 #[dotA d,.pointer (some ⟨b,0,none⟩)] w fun e w'=>Ret [] w S w' e (.bool (!dotOk places d)) [] []:=by
 refine epG Tryz.func57 bd57 (args:=[dotA d,.pointer (some ⟨b,0,none⟩)]) (G:=[(_,.ptr [.v (.int .i64 places)])]) (by kernel_rfl) (.cons h (.nil _ _)) ?_
 refine J_glob 0 rfl (fun csg1 tyg1 fzg1 hglob1=>?_)
 refine Zv [.wr 0 [] 0,zR 1] [] [0] (fun nu1=>[zP 2 (nu1 0),zB 3 false]) (fun nu1=>[(nu1 0,.cells #[nI d.place,nI d.time,nI d.no] 65 (0,0))]) (fun nu1=>?_)
 refine jS [(0,true),(1,true),(2,false),(3,true),(4,true)] [] ?_
 refine Yp (id:=1) (rest:=[(2,false),(3,true),(4,true)]) [.rd 0 (hnO 0 3) 0 0,.rd 1 [.r 0 (some (nI places))] 0 0] [2,1] [zV 4 (.agg #[nI d.place,nI d.time,nI d.no]),zI 5 places] [csg1[(0:Nat)]?=some (nI places)] ⟨hglob1,trivial⟩ ?_
 refine Yc 58 #[.agg #[nI d.place,nI d.time,nI d.no],nI places] (some 6) fun w S hG=>?_
 refine(vDot (w:=w) (S:=S)).mono ?_
 rintro e1 w1 hR
 refine⟨_,_,_,hR,?_⟩
 try simp only[aQ]
 refine Ya (id:=1) (rest:=[]) [zR 3,zR 4] [6,4,5] [zB 3 (!dotOk places d)] ?_
 refine JR_end ?_
 refine Yr [[]] (.bool (!dotOk places d)) fun a w s=>?_
 exact s.ret (by simp) [] [] rfl rfl
set_option maxHeartbeats 4000000 in
theorem indexBadD {w:World} {S:Nat→Prop} {a:Option Addr} {n c:Nat} {l:List DotT} {places:Int} {b:Nat} (h:Rep w S (.slice a n c) (.sl 3 (l.map eDot))) (hl:l.length≤1000000) (hp:Rep w S (.pointer (some ⟨b,0,none⟩)) (.ptr [.v (.int .i64 places)])) :
  Calls Tryz.prog 90 #[.slice a n c,.func (.func 57) #[] #[.pointer (some ⟨b,0,none⟩)]] w fun e w'=>∃r,Ret [] w S w' e (.int .i64 r) [] []∧decide (0≤r)=badDots places l:=by
 have e1:=h.slen
 rw[List.length_map]at e1
 subst e1
 refine epG Tryz.func90 bd90 (args:=[.slice a l.length c,.func (.func 57) #[] #[.pointer (some ⟨b,0,none⟩)]]) (G:=[(_,.sl 3 (l.map eDot)),(_,.ptr [.v (.int .i64 places)])]) (by kernel_rfl) (.cons h (.cons hp (.nil _ _))) ?_
 refine Zs [zR 0] [] [zI 4 0] ?_
 refine J_seq ?_
 refine Zs (Rds 0 3) [] [zI 7 (↑l.length:Int),zI 8 0] ?_
 refine J_block ?_
 refine J_loopx (fun i:Int=>[zS 0 a l.length c,zV 1 (.func (.func 57) #[] #[.pointer (sA b 0)]),zI 4 0,zI 7 (↑l.length:Int),zI 8 i]) (fun i:Int=>[]) (fun i:Int=>[]) (fun i:Int=>[(.slice a l.length c,(D.sl 3 (List.map eDot l))),(.pointer (sA b 0),(D.ptr [D.v (nI places)]))]) (fun i:Int=>(l.length - i).toNat) (fun i:Int=>(0≤i∧i≤l.length∧∀j:Nat,j<i.toNat→∀d,l[j]?=some d→dotOk places d=true)) 0 [0,1,4,7,8] [] [] [0,1] ?_ (by kernel_rfl) rfl rfl rfl ?_
 ·exact⟨by simp,by omega,by simp⟩
 rintro i ⟨hi0,hi,hno⟩
 refine Zs [zR 0] [] [zB 9 (decide (i<(↑l.length:Int)))] ?_
 refine J_seq ?_
 refine cC (t:=decide (i<(↑l.length:Int))) (fun hlt=>?_) (fun hlt=>?_)
 ·have hlt2:i<l.length:=by simpa using hlt
  obtain⟨x,hx⟩:∃x,l[i.toNat]?=some x:=⟨_,List.getElem?_eq_getElem (by omega)⟩
  refine J_read0 0 rfl i.toNat (map_at hx) (by kernel_rfl) (fun b1 off1 cs1 ty1 fz1 ha1 hrd1=>?_)
  cases ha1
  have hrd1_0:=rd0 (hrd1 0 _ rfl)
  have hrd1_1:=hrd1 1 _ rfl
  have hrd1_2:=hrd1 2 _ rfl
  try simp only[aQ]
  refine J_skip (J_seq (J_block ?_))
  refine Zs [zR 0,zR 1] [9] [zI 5 i] ?_
  refine jS [(0,true),(1,true),(2,true),(3,true),(4,true),(5,false)] [] ?_
  refine Yp (id:=4) (rest:=[(5,false)]) (Rds 0 3++[.rd 3 [] 0 2,.rd 4 [.r 0 (some (nI x.place)),.r 0 (some (nI x.time)),.r 0 (some (nI x.no))] 0 0]) [] [zV 11 (.func (.func 57) #[] #[.pointer (sA b 0)]),zV 15 (.agg #[nI x.place,nI x.time,nI x.no])] [0≤i,i<(↑l.length:Int),cs1[off1+i.toNat*3]?=some (nI x.place),cs1[off1+i.toNat*3+(1:Nat)]?=some (nI x.time),cs1[off1+i.toNat*3+(2:Nat)]?=some (nI x.no)] ⟨hi0,hlt2,hrd1_0,hrd1_1,hrd1_2,trivial⟩ ?_
  refine Yc 57 #[.agg #[nI x.place,nI x.time,nI x.no],.pointer (sA b 0)] (some 16) fun w S hG=>?_
  refine(check68 (d:=x) (hG.at 1 rfl)).mono ?_
  rintro e w2 hR
  refine⟨_,_,_,hR,?_⟩
  try simp only[aQ]
  refine JR_end ?_
  refine cC (t:=!dotOk places x) (fun hb=>?_) (fun hb=>?_)
  ·refine J_seq ?_
   refine Za [zR 0,zR 1] [16] [zI 4 i] ?_
   refine Yr [[]] (nI i) fun a w s=>?_
   refine⟨_,s.ret (by simp) [] [] rfl rfl,?_⟩
   rw[show badDots places l=true from List.any_eq_true.2 ⟨x,List.mem_of_getElem? hx,hb⟩]
   simpa using hi0
  ·refine J_skip ?_
   refine J_eb ?_
   refine Zp [.rd 0 [] 0 1,zR 1] [16] [zI 8 (i+1)] [IntKind.i64.wrap (i+1)=i+1] ⟨wrap_i64 (by omega) (by omega),trivial⟩ ?_
   refine J_backx (i+1) [0,1,4,7,8] [] [] [0,1] ?_ ?_ (by kernel_rfl) rfl rfl rfl
   ·refine⟨by omega,by omega,fun j hj t ht=>?_⟩
    by_cases hji:j=i.toNat
    ·subst hji
     rw[hx]at ht
     cases ht
     exact not_f hb
    ·exact hno j (by omega) t ht
   ·omega
 ·refine J_exit rfl ?_
  refine Zs [zR 0] [9,0,1,7,8] [zI 4 (-1)] ?_
  refine Yr [[]] (nI (-1)) fun a w s=>?_
  refine⟨_,s.ret (by simp) [] [] rfl rfl,?_⟩
  have e:badDots places l=false:=by
   unfold badDots
   rw[List.any_eq_false]
   intro t ht
   obtain⟨j,hj⟩:=List.getElem?_of_mem ht
   have hjl:=(List.getElem?_eq_some_iff.1 hj).1
   simp[hno j (by simp at hlt;omega) t hj]
  rw[e]
  decide
set_option maxHeartbeats 4000000 in
theorem containsBadD {w:World} {S:Nat→Prop} {a:Option Addr} {n c:Nat} {l:List DotT} {places:Int} {b:Nat} (h:Rep w S (.slice a n c) (.sl 3 (l.map eDot))) (hl:l.length≤1000000) (hp:Rep w S (.pointer (some ⟨b,0,none⟩)) (.ptr [.v (.int .i64 places)])) :
  Calls Tryz.prog 56 #[.slice a n c,.func (.func 57) #[] #[.pointer (some ⟨b,0,none⟩)]] w fun e w'=>Ret [] w S w' e (.bool (badDots places l)) [] []:=by
 refine epG Tryz.func56 bd56 (args:=[.slice a n c,.func (.func 57) #[] #[.pointer (some ⟨b,0,none⟩)]]) (G:=[(_,.sl 3 (l.map eDot)),(_,.ptr [.v (.int .i64 places)])]) (by kernel_rfl) (.cons h (.cons hp (.nil _ _))) ?_
 refine Zs [zR 0] [] [zB 4 false] ?_
 refine jS [(0,true),(1,true),(2,false),(3,true),(4,true)] [] ?_
 refine Ya (id:=1) (rest:=[(2,false),(3,true),(4,true)]) [zR 0,zR 1] [0,1] [zS 5 a n c,zV 6 (.func (.func 57) #[] #[.pointer (sA b 0)])] ?_
 refine Yc 90 #[.slice a n c,.func (.func 57) #[] #[.pointer (sA b 0)]] (some 7) fun w S hG=>?_
 refine(indexBadD (hG.at 0 rfl) hl (hG.at 1 rfl)).mono ?_
 rintro e w2 ⟨r,hR,hr⟩
 refine⟨_,_,_,hR,?_⟩
 try simp only[aQ]
 refine Ya (id:=1) (rest:=[]) [zR 3,zR 4] [7,5,6] [zB 4 (decide (r≥0))] ?_
 refine JR_end ?_
 refine Yr [[]] (.bool (decide (r≥0))) fun a w s=>?_
 rw[←hr]
 exact s.ret (by simp) [] [] rfl rfl
set_option maxHeartbeats 4000000 in
theorem vCheckOp {w:World} {S:Nat→Prop} {er:Nat→Addr} {eb:Nat→Array Value×TypeId} {o:OpT} {a:Option Addr} {n c:Nat} {places:Int} (hC:Rep w S .nilIface (dC er eb)) (h:Rep w S (.slice a n c) (.sl 3 (o.dots.map eDot))) :
  Calls Tryz.prog 14 #[opA o (.slice a n c),.int .i64 places] w fun e w'=>∃v,Ret [] w S w' e v [] []∧ErrIs 243 er (opErr o places) v:=by
 have e1:=h.slen
 rw[List.length_map]at e1
 subst e1
 refine epG Tryz.func14 bd14 (args:=[opA o (.slice a o.dots.length c),.int .i64 places]) (G:=[(_,dC er eb),(_,.sl 3 (o.dots.map eDot))]) (by kernel_rfl) (.cons hC (.cons h (.nil _ _))) ?_
 refine J_stp (stp_all 0 [1,2,3,11] rfl rfl) ?_
 refine J_glob 2 rfl (fun csg1 tyg1 fzg1 hglob1=>?_)
 refine J_glob 3 rfl (fun csg2 tyg2 fzg2 hglob2=>?_)
 refine J_glob 4 rfl (fun csg3 tyg3 fzg3 hglob3=>?_)
 refine J_glob 5 rfl (fun csg4 tyg4 fzg4 hglob4=>?_)
 try simp only[aQ]
 refine Zv [.wr 0 [] 0,.wr 1 [] 0,zR 2] [] [0,1] (fun nu1=>[zP 2 (nu1 0),zP 3 (nu1 1),zV 4 .nilIface]) (fun nu1=>[(nu1 0,.cells #[nI o.no,.string o.key,nI o.kind,.string o.text,nI o.n,.bool o.remove,.slice a o.dots.length c] 24 (0,0)),(nu1 1,.cells #[nI places] 3 (0,0))]) (fun nu1=>?_)
 refine J_seq (J_block ?_)
 refine Zs [.rd 0 [.o 1 none] 0 0,zR 1,zR 2,.rd 3 [.o 1 none] 2 0,.rd 4 [] 2 0,.rd 5 [] 0 3,zR 6,.rd 7 [] 2 0,.rd 8 [.o 0 none] 2 0,.rd 9 [] 2 0,.rd 10 [] 0 3,zR 11,.rd 12 [] 2 0,.rd 13 [.o 0 none] 2 0,.rd 14 [] 2 0,.rd 15 [] 0 3,zR 16] [] [zB 5 (decide (places<1)||decide (places>6)||decide (o.no<0)||decide (o.no≥12))] ?_
 refine cC (t:=decide (places<1)||decide (places>6)||decide (o.no<0)||decide (o.no≥12)) (fun hb=>?_) (fun hb=>?_)
 ·have e:opErr o places=2:=by rw[opErr,if_pos (by simp at hb;omega)]
  refine Zt [.rd 0 [.r 0 (some (.iface 243 (.pointer (some (er 2)))))] 0 0,zR 1] [5,2,3] [zV 4 (.iface 243 (.pointer (some (er 2))))] [csg1[(0:Nat)]?=some (Value.iface (243:Nat) (Value.pointer (some (er (2:Nat)))))] ⟨hglob1,trivial⟩ ?_
  refine Yr [[]] (.iface 243 (.pointer (some (er 2)))) fun a w s=>?_
  rw[e]
  exact⟨_,s.ret (by simp) [] [] rfl rfl,.inr ⟨by decide,rfl⟩⟩
 have hb2:¬(places<1∨6<places∨o.no<0∨12≤o.no):=by simp at hb;omega
 refine jS [(0,true),(1,true),(2,false),(3,true),(4,true)] [] ?_
 refine Ya (id:=3) (rest:=[(2,false),(3,true),(4,true)]) [zR 0,.rd 1 [.o 0 none] 0 0] [5] [zV 25 (.string o.key)] ?_
 refine Yc 54 #[.string o.key] (some 26) fun w S hG=>?_
 refine(vName (w:=w) (S:=S) (s0:=o.key)).mono ?_
 rintro e1 w1 hR
 refine⟨_,_,_,hR,?_⟩
 cases hname:nameOk o.key with
 | false=>
  have e:opErr o places=4:=by rw[opErr,if_neg hb2,if_pos hname]
  try simp only[aQ]
  refine Ya (id:=3) (rest:=[]) [zR 3,zR 4] [26,25] [zB 23 true] ?_
  refine JR_end ?_
  refine cTt ?_
  refine Zt [.rd 0 [.r 2 (some (.iface 243 (.pointer (some (er 4)))))] 0 0,zR 1] [23,2,3] [zV 4 (.iface 243 (.pointer (some (er 4))))] [csg3[(0:Nat)]?=some (Value.iface (243:Nat) (Value.pointer (some (er (4:Nat)))))] ⟨hglob3,trivial⟩ ?_
  refine Yr [[]] (.iface 243 (.pointer (some (er 4)))) fun a w s=>?_
  rw[e]
  exact⟨_,s.ret (by simp) [] [] rfl rfl,.inr ⟨by decide,rfl⟩⟩
 | true=>
  try simp only[aQ]
  refine Ya (id:=3) (rest:=[]) [zR 3,zR 4] [26,25] [zB 23 false] ?_
  refine JR_end ?_
  refine cF ?_
  refine Zs [zR 0,.rd 1 [.o 0 none] 0 0,zR 2,zR 3,.rd 4 [] 2 0,.rd 5 [.o 0 none] 2 0,.rd 6 [] 2 0,.rd 7 [] 0 3,zR 8,.rd 9 [] 2 0,.rd 10 [.o 0 none] 2 0,.rd 11 [] 2 0,.rd 12 [] 0 3,zR 13] [23] [zB 29 (o.kind != 1&&o.kind != 2&&o.kind != 3)] ?_
  refine cC (t:=o.kind != 1&&o.kind != 2&&o.kind != 3) (fun hk=>?_) (fun hk=>?_)
  ·have e:opErr o places=12:=by rw[opErr,if_neg hb2,if_neg (by simp[hname]),if_pos (by simp at hk;omega)]
   refine Zt [.rd 0 [.r 3 (some (.iface 243 (.pointer (some (er 12)))))] 0 0,zR 1] [29,2,3] [zV 4 (.iface 243 (.pointer (some (er 12))))] [csg4[(0:Nat)]?=some (Value.iface (243:Nat) (Value.pointer (some (er (12:Nat)))))] ⟨hglob4,trivial⟩ ?_
   refine Yr [[]] (.iface 243 (.pointer (some (er 12)))) fun a w s=>?_
   rw[e]
   exact⟨_,s.ret (by simp) [] [] rfl rfl,.inr ⟨by decide,rfl⟩⟩
  have hk2:o.kind=1∨o.kind=2∨o.kind=3:=by simp at hk;omega
  refine jS [(0,true),(1,false),(2,true),(3,true)] [] ?_
  refine Ya (id:=7) (rest:=[(1,false),(2,true),(3,true)]) [.rd 0 (hnO 0 7) 0 0] [29] [zV 45 (.agg #[nI o.no,.string o.key,nI o.kind,.string o.text,nI o.n,.bool o.remove,.slice a o.dots.length c])] ?_
  refine Yc 55 #[.agg #[nI o.no,.string o.key,nI o.kind,.string o.text,nI o.n,.bool o.remove,.slice a o.dots.length c]] (some 46) fun w S hG=>?_
  refine(vShape (o:=o) (hG.at 1 rfl)).mono ?_
  rintro e1 w1 hR
  refine⟨_,_,_,hR,?_⟩
  cases hsh:shapeOk o with
  | false=>
   rw[opShape hb2 hname hk2 hsh]
   try simp only[aQ]
   refine Ya (id:=7) (rest:=[]) [zR 2,zR 3] [46,45] [zB 44 true] ?_
   refine JR_end ?_
   refine cTt ?_
   refine Zt [.rd 0 [.r 1 (some (.iface 243 (.pointer (some (er 3)))))] 0 0,zR 1] [44,2,3] [zV 4 (.iface 243 (.pointer (some (er 3))))] [csg2[(0:Nat)]?=some (Value.iface (243:Nat) (Value.pointer (some (er (3:Nat)))))] ⟨hglob2,trivial⟩ ?_
   refine Yr [[]] (.iface 243 (.pointer (some (er 3)))) fun a w s=>?_
   exact⟨_,s.ret (by simp) [] [] rfl rfl,.inr ⟨by decide,rfl⟩⟩
  | true=>
   rw[opRest hb2 hname hk2 hsh]
   try simp only[aQ]
   refine Ya (id:=7) (rest:=[]) [zR 2,zR 3] [46,45] [zB 44 false] ?_
   refine JR_end ?_
   refine cF ?_
   refine Zs ([zR 0,.rd 1 [.o 0 none] 0 0]++Rds 2 5++[.rd 5 [] 2 0,.rd 6 [.o 0 none] 2 0,.rd 7 [] 2 0,.rd 8 [] 0 3,zR 9,.rd 10 [] 2 0,.rd 11 [.o 0 none] 2 0,.rd 12 [] 2 0,.rd 13 [] 0 3,zR 14,.rd 15 [] 2 0,.rd 16 [.o 0 none] 2 0,.rd 17 [] 2 0,.rd 18 [] 2 0,.rd 19 [] 0 3,zR 20]) [44] [zB 49 (decide ((↑o.text.size:Int)>60)||decide (o.n < -1099511627776)||decide (o.n>1099511627776)||decide ((↑o.dots.length:Int)>60))] ?_
   refine cC (t:=decide ((↑o.text.size:Int)>60)||decide (o.n < -1099511627776)||decide (o.n>1099511627776)||decide ((↑o.dots.length:Int)>60)) (fun hbig=>?_) (fun hbig=>?_)
   ·rw[if_pos (by simp at hbig;omega)]
    refine Zt [.rd 0 [.r 0 (some (.iface 243 (.pointer (some (er 2)))))] 0 0,zR 1] [49,2,3] [zV 4 (.iface 243 (.pointer (some (er 2))))] [csg1[(0:Nat)]?=some (Value.iface (243:Nat) (Value.pointer (some (er (2:Nat)))))] ⟨hglob1,trivial⟩ ?_
    refine Yr [[]] (.iface 243 (.pointer (some (er 2)))) fun a w s=>?_
    exact⟨_,s.ret (by simp) [] [] rfl rfl,.inr ⟨by decide,rfl⟩⟩
   rw[if_neg (by simp at hbig;omega)]
   have hdl:o.dots.length≤1000000:=by simp at hbig;omega
   refine J_seq ?_
   refine J_share 1 rfl ?_
   refine J_stp (stp_fact (v:=.pointer (some ⟨nu1 1,0,none⟩)) (d:=.ptr [.v (.int .i64 places)]) fun w S H=>obj_ptr (H _ (List.mem_of_getElem? (i:=6) rfl)) rfl) ?_
   try simp only[aQ]
   refine jT [(0,true),(1,true),(2,true),(3,false),(4,true)] [] ?_
   refine Ya (id:=11) (rest:=[(3,false),(4,true)]) [zR 0,.rd 1 [.o 0 none] 0 0,zR 2] [49,2,3] [zS 73 a o.dots.length c,zV 74 (.func (.func 57) #[] #[.pointer (sA (nu1 1) 0)])] ?_
   refine Yc 56 #[.slice a o.dots.length c,.func (.func 57) #[] #[.pointer (sA (nu1 1) 0)]] (some 75) fun w S hG=>?_
   refine(containsBadD (hG.at 1 rfl) hdl (hG.at 7 rfl)).mono ?_
   rintro e1 w1 hR
   refine⟨_,_,_,hR,?_⟩
   cases hbd:badDots places o.dots with
   | true=>
    try simp only[aQ]
    refine Ya (id:=11) (rest:=[]) [zR 4] [75,73,74] [zB 71 true] ?_
    refine JR_end ?_
    refine cTt ?_
    refine Zt [.rd 0 [.r 0 (some (.iface 243 (.pointer (some (er 2)))))] 0 0,zR 1] [71] [zV 4 (.iface 243 (.pointer (some (er 2))))] [csg1[(0:Nat)]?=some (Value.iface (243:Nat) (Value.pointer (some (er (2:Nat)))))] ⟨hglob1,trivial⟩ ?_
    refine Yr [[]] (.iface 243 (.pointer (some (er 2)))) fun a w s=>?_
    exact⟨_,s.ret (by simp) [] [] rfl rfl,.inr ⟨by decide,rfl⟩⟩
   | false=>
    try simp only[aQ]
    refine Ya (id:=11) (rest:=[]) [zR 4] [75,73,74] [zB 71 false] ?_
    refine JR_end ?_
    refine cF ?_
    refine J_skip (J_eb ?_)
    refine Zs [zR 0] [71] [] ?_
    refine Yr [[]] (.nilIface) fun a w s=>?_
    exact⟨_,s.ret (by simp) [] [] rfl rfl,.inl ⟨rfl,rfl⟩⟩
end Go.Proofs.YtpjkiomccpjboaaGreatDoor
end
section
namespace Go.Proofs.YtpjkiomccpjboaaGreatDoor
open Go Go.Sx
set_option maxHeartbeats 4000000 in
theorem setCell_at {w:World} {b:Nat} {old x:Value} {ty:TypeId} {fz:Nat×Nat} (h:w.heap[b]?=some (.cells #[old] ty fz)):(w.setCell ⟨b,0,none⟩ x).heap[b]?=some (.cells #[x] ty fz):=by
 simp[World.setCell,Array.getElem?_modify,h,Array.setIfInBounds]
set_option maxHeartbeats 4000000 in
theorem alloc_old {w:World} {o o':Obj} {b:Nat} (h:w.heap[b]?=some o):(w.alloc o').heap[b]?=some o:=by
 rw[RowKit.Below.heap_alloc _ _ _ (Array.getElem?_eq_some_iff.1 h).1]
 exact h
set_option maxHeartbeats 4000000 in
theorem asHit {w:World} {S:Nat→Prop} {M:List Nat} {p:Addr} {t:Nat} {old:Value} {ty:TypeId} {er:Nat→Addr} {eb:Nat→Array Value×TypeId} (hC:Rep w S .nilIface (dC er eb)) (hp:Pre w S M [cObj t (.cells #[old] ty (0,0))]) :
  Calls Tryz.prog 86 #[.iface 102 (.pointer (some p)),.iface 143 (.pointer (some ⟨t,0,none⟩))] w fun e w'=>Ret M w S w' e (.bool true) [cObj t (.cells #[.pointer (some p)] ty (0,0))] []:=by
 obtain⟨fps,hch,rfl,hnd,hM⟩:=hp
 match fps,hch with
 | [fp],⟨⟨hfp,hb⟩,_⟩=>
  subst hfp
  have hl:=(Array.getElem?_eq_some_iff.1 hb).1
  refine(Er.as_hit p ⟨t,0,none⟩ old w (var_of (hC.part _ (List.mem_of_getElem? (i:=12) rfl))) (by simp[World.cell?,hb]) (by simp[World.frozen?,hb])).mono ?_
  rintro e w' ⟨he,rfl⟩
  have hbl:=(((RowKit.Below.refl _ w).alloc (Nat.le_refl _) (.cells #[.pointer (some ⟨t,0,none⟩)] 143)).alloc (by simp) (.cells #[.pointer (some ⟨13,143,none⟩),.pointer (some ⟨w.heap.size,0,none⟩),.int .u64 150] 174)).alloc (by simp;omega) (.cells #[.pointer (some ⟨13,143,none⟩),.pointer (some ⟨w.heap.size,0,none⟩),.int .u64 150] 174) |>.alloc (by simp;omega) (.cells #[.pointer (some p)] 102)
  refine⟨he,⟨hbl.os,hbl.tape,hbl.output,by simpa [World.setCell]using hbl.size,fun b hbs hn=>?_,Nat.le_refl _⟩,[[t]],⟨⟨rfl,?_⟩,trivial⟩,by simp,fun b hb'=>?_,by simp⟩
  ·rw[RowKit.Below.heap_setCell _ _ _ _ (by simpa using hn)]
   exact hbl.block b hbs
  ·exact setCell_at (alloc_old (alloc_old (alloc_old (alloc_old hb))))
  ·obtain rfl:b=t:=by simpa using hb'
   refine⟨.inl (by simp),?_⟩
   simp[World.setCell]
   omega
 | [],h=>exact h.elim
 | _::_::_,h=>exact h.2.elim
set_option maxHeartbeats 4000000 in
theorem wrapAt {w:World} {S:Nat→Prop} {pb:Nat} {x:Value} {k j:Nat} {er:Nat→Addr} {eb:Nat→Array Value×TypeId} (hC:Rep w S .nilIface (dC er eb)) (hI:Inj er) (hp:Rep w S (.pointer (some ⟨pb,0,none⟩)) (.ptr [.v x,.v (.iface 243 (.pointer (some (er k))))])) (h0:1≤k) (hk:k≤12) (h1:1≤j) (h2:j≤12) :
  Calls Tryz.prog 87 #[.iface 102 (.pointer (some ⟨pb,0,none⟩)),.iface 243 (.pointer (some (er j)))] w fun e w'=>Ret [] w S w' e (.bool (decide (k=j))) [] []:=by
 have hc:w.cell? ⟨pb,0+1,none⟩=some (.iface 243 (.pointer (some (er k)))):=by
  cases hp with
  | ptr u hb hS hcell hrep=>
   have h1:=(hrep 1 _ rfl).plain
   have h2:=hcell 1 (by simp)
   rw[h1]at h2
   simpa [World.cell?,hb]using h2
 by_cases h:k=j
 ·subst h
  rw[decide_eq_true rfl]
  exact(Er.is_wrap_same pb 0 _ w hc).mono fun e w' h=>ret_same h.1 h.2
 ·rw[decide_eq_false h]
  exact(Er.is_wrap_other pb 0 (er j) (er k) (eb k).1 (eb j).1 (eb k).2 (eb j).2 w hc (fun he=>h (hI k j h0 hk h1 h2 he)) (blk_of (hC.part _ (eO_mem er eb h0 hk))) (blk_of (hC.part _ (eO_mem er eb h1 h2)))).mono fun e w' h=>ret_same h.1 h.2
set_option maxHeartbeats 4000000 in
theorem codeFault {w:World} {S:Nat→Prop} {er:Nat→Addr} {eb:Nat→Array Value×TypeId} {k pb:Nat} {at':Int} (hC:Rep w S .nilIface (dC er eb)) (hI:Inj er) (h1:1≤k) (hk:k≤12) (hp:Rep w S (.pointer (some ⟨pb,0,none⟩)) (.ptr [.v (.int .i64 at'),.v (.iface 243 (.pointer (some (er k))))])) :
  Calls Tryz.prog 53 #[.iface 102 (.pointer (some ⟨pb,0,none⟩))] w fun e w'=>Ret [] w S w' e (.tuple #[.int .i64 k,.int .i64 at']) [] []:=by
 refine epG Tryz.func53 bd53 (args:=[.iface 102 (.pointer (some ⟨pb,0,none⟩))]) (G:=[(_,dC er eb),(_,.ptr [.v (.int .i64 at'),.v (.iface 243 (.pointer (some (er k))))])]) (by kernel_rfl) (.cons hC (.cons hp (.nil _ _))) ?_
 refine J_ptrl 1 rfl fun b off cs e fz ls he hl hc=>?_
 cases he
 obtain rfl:ls=[]:=List.eq_nil_of_length_eq_zero hl
 have hc0:cs[0]?=some (.int .i64 at'):=hc 0 _ rfl
 refine J_stp (stp_all 0 [0,1,2,3,4,5,6,7,8,9,10,11] rfl rfl) ?_
 refine J_glob 2 rfl (fun csg1 tyg1 fzg1 hglob1=>?_)
 refine J_glob 3 rfl (fun csg2 tyg2 fzg2 hglob2=>?_)
 refine J_glob 4 rfl (fun csg3 tyg3 fzg3 hglob3=>?_)
 refine J_glob 5 rfl (fun csg4 tyg4 fzg4 hglob4=>?_)
 refine J_glob 6 rfl (fun csg5 tyg5 fzg5 hglob5=>?_)
 refine J_glob 7 rfl (fun csg6 tyg6 fzg6 hglob6=>?_)
 refine J_glob 8 rfl (fun csg7 tyg7 fzg7 hglob7=>?_)
 refine J_glob 9 rfl (fun csg8 tyg8 fzg8 hglob8=>?_)
 refine J_glob 10 rfl (fun csg9 tyg9 fzg9 hglob9=>?_)
 refine J_glob 11 rfl (fun csg10 tyg10 fzg10 hglob10=>?_)
 refine J_glob 12 rfl (fun csg11 tyg11 fzg11 hglob11=>?_)
 refine J_glob 13 rfl (fun csg12 tyg12 fzg12 hglob12=>?_)
 try simp only[aQ]
 refine Zs [zR 0,zR 1] [] [zI 2 0,zI 3 0] ?_
 refine J_seq ?_
 refine Zs [zR 0,zR 1] [] [zB 8 false] ?_
 refine cF ?_
 refine J_skip ?_
 refine Zs [zR 0] [8] [zI 3 (-1)] ?_
 refine Zv [.wr 0 [] 0] [] [] (fun nu1=>[zP 4 (nu1 0)]) (fun nu1=>[(nu1 0,.cells #[.pointer none] 102 (0,0))]) (fun nu1=>?_)
 refine J_seq (J_seq ?_)
 refine J_hide 0 rfl ?_
 try simp only[aQ]
 refine jT [(0,true),(1,true),(2,false)] [] ?_
 refine Ya (id:=5) (rest:=[(2,false)]) [zR 0,zR 1] [] [zV 9 (.iface 102 (.pointer (sA pb 0))),zV 10 (.iface 143 (.pointer (sA (nu1 0) 0)))] ?_
 refine JR_call [] [0] 86 #[.iface 102 (.pointer (some (⟨pb,0,none⟩))),.iface 143 (.pointer (some (⟨nu1 0,0,none⟩)))] (some 11) (by kernel_rfl) (by kernel_rfl) (by decide) (fun w S M hP hG _=>?_)
 refine(asHit (hG.at 0 rfl) hP).mono ?_
 rintro e1 w1 hR
 refine⟨_,_,_,hR,?_⟩
 try simp only[aQ]
 refine JR_end ?_
 try simp only[aQ]
 refine cTt ?_
 try simp only[aQ]
 refine J_show 0 rfl ?_
 refine Zp [.rd 0 [.o 0 none] 0 0,zR 1,zR 2,.rd 3 [.r 0 (some (nI at'))] 0 0,zR 4] [11,9,10,4] [zI 3 at'] [cs[(0:Nat)]?=some (nI at')] ⟨hc0,trivial⟩ ?_
 refine J_seq ?_
 refine Zu [.rd 0 [.r 1 (some (.iface 243 (.pointer (some (er 1)))))] 0 0,.rd 1 [.r 2 (some (.iface 243 (.pointer (some (er 2)))))] 0 0,.rd 2 [.r 3 (some (.iface 243 (.pointer (some (er 3)))))] 0 0,.rd 3 [.r 4 (some (.iface 243 (.pointer (some (er 4)))))] 0 0,.rd 4 [.r 5 (some (.iface 243 (.pointer (some (er 5)))))] 0 0,.rd 5 [.r 6 (some (.iface 243 (.pointer (some (er 6)))))] 0 0,.rd 6 [.r 7 (some (.iface 243 (.pointer (some (er 7)))))] 0 0,.rd 7 [.r 8 (some (.iface 243 (.pointer (some (er 8)))))] 0 0,.rd 8 [.r 9 (some (.iface 243 (.pointer (some (er 9)))))] 0 0,.rd 9 [.r 10 (some (.iface 243 (.pointer (some (er 10)))))] 0 0,.rd 10 [.r 11 (some (.iface 243 (.pointer (some (er 11)))))] 0 0,.rd 11 [.r 12 (some (.iface 243 (.pointer (some (er 12)))))] 0 0,.wr 12 [] 0,zR 13,zR 14] [] [] (fun nu2=>[zS 28 (sA (nu2 0) 0) 12 12,zI 29 12,zI 30 0]) (fun nu2=>[(nu1 0,.cells #[.pointer (sA pb 0)] 102 (0,0)),(nu2 0,.cells #[.iface 243 (.pointer (some (er 1))),.iface 243 (.pointer (some (er 2))),.iface 243 (.pointer (some (er 3))),.iface 243 (.pointer (some (er 4))),.iface 243 (.pointer (some (er 5))),.iface 243 (.pointer (some (er 6))),.iface 243 (.pointer (some (er 7))),.iface 243 (.pointer (some (er 8))),.iface 243 (.pointer (some (er 9))),.iface 243 (.pointer (some (er 10))),.iface 243 (.pointer (some (er 11))),.iface 243 (.pointer (some (er 12)))] 33 (0,0))]) (fun nu2=>[csg1[(0:Nat)]?=some (Value.iface (243:Nat) (Value.pointer (some (er (1:Nat))))),csg2[(0:Nat)]?=some (Value.iface (243:Nat) (Value.pointer (some (er (2:Nat))))),csg3[(0:Nat)]?=some (Value.iface (243:Nat) (Value.pointer (some (er (3:Nat))))),csg4[(0:Nat)]?=some (Value.iface (243:Nat) (Value.pointer (some (er (4:Nat))))),csg5[(0:Nat)]?=some (Value.iface (243:Nat) (Value.pointer (some (er (5:Nat))))),csg6[(0:Nat)]?=some (Value.iface (243:Nat) (Value.pointer (some (er (6:Nat))))),csg7[(0:Nat)]?=some (Value.iface (243:Nat) (Value.pointer (some (er (7:Nat))))),csg8[(0:Nat)]?=some (Value.iface (243:Nat) (Value.pointer (some (er (8:Nat))))),csg9[(0:Nat)]?=some (Value.iface (243:Nat) (Value.pointer (some (er (9:Nat))))),csg10[(0:Nat)]?=some (Value.iface (243:Nat) (Value.pointer (some (er (10:Nat))))),csg11[(0:Nat)]?=some (Value.iface (243:Nat) (Value.pointer (some (er (11:Nat))))),csg12[(0:Nat)]?=some (Value.iface (243:Nat) (Value.pointer (some (er (12:Nat)))))]) (fun _=>⟨hglob1,hglob2,hglob3,hglob4,hglob5,hglob6,hglob7,hglob8,hglob9,hglob10,hglob11,hglob12,trivial⟩) (fun nu2=>?_)
 refine J_block ?_
 refine J_data (size:=1) 1 (eEr er) [1,2,3,4,5,6,7,8,9,10,11,12] 12 rfl (by decide) (by intro x _;rfl) (by simp) ⟨.inl ⟨rfl,rfl⟩,⟨.inl ⟨rfl,rfl⟩,⟨.inl ⟨rfl,rfl⟩,⟨.inl ⟨rfl,rfl⟩,⟨.inl ⟨rfl,rfl⟩,⟨.inl ⟨rfl,rfl⟩,⟨.inl ⟨rfl,rfl⟩,⟨.inl ⟨rfl,rfl⟩,⟨.inl ⟨rfl,rfl⟩,⟨.inl ⟨rfl,rfl⟩,⟨.inl ⟨rfl,rfl⟩,⟨.inl ⟨rfl,rfl⟩,trivial⟩⟩⟩⟩⟩⟩⟩⟩⟩⟩⟩⟩ ?_
 refine J_loopx (fun i:Int=>[zV 0 (.iface 102 (.pointer (sA pb 0))),zI 2 0,zI 3 at',zS 28 (sA (nu2 0) 0) 12 12,zI 29 12,zI 30 i]) (fun i:Int=>[]) (fun i:Int=>[]) (fun i:Int=>[(.nilIface,(dC er eb)),(.pointer (sA pb 0),(D.ptr [D.v (nI at'),D.v (Value.iface 243 (Value.pointer (some (er k))))])),(.slice (sA (nu2 0) 0) ((List.map (eEr er) [1,2,3,4,5,6,7,8,9,10,11,12]).length) 12,(D.sl 1 (List.map (eEr er) [1,2,3,4,5,6,7,8,9,10,11,12])))]) (fun i:Int=>(12 - i).toNat) (fun i:Int=>(0≤i∧i<k)) 0 [0,2,3,28,29,30] [] [] [0,1,14] ?_ (by kernel_rfl) rfl rfl rfl ?_
 ·exact⟨by omega,by omega⟩
 rintro i ⟨hi0,hi⟩
 have hx:=row12 hi0 (by omega)
 refine J_read0 2 rfl i.toNat (map_at hx) (by kernel_rfl) (fun b1 off1 cs1 ty1 fz1 ha1 hrd1=>?_)
 cases ha1
 have hrd1_0:=rd0 (hrd1 0 _ rfl)
 try simp only[aQ]
 refine Zs [zR 0] [] [zB 31 (decide (i<12))] ?_
 refine J_seq ?_
 refine J_condT (decide (i<12)) (by kernel_rfl) (by kernel_rfl) (by simp;omega) ?_
 refine J_skip (J_seq (J_block ?_))
 refine Zt [zR 0,.rd 1 [] 0 2,.rd 2 [.r 13 (some (.iface 243 (.pointer (some (er (i.toNat+1))))))] 0 0,zR 3,zR 4] [31] [zI 5 i,zV 6 (.iface 243 (.pointer (some (er (i.toNat+1)))))] [0≤i,i<(↑(12:Nat):Int),cs1[(0:Nat)+i.toNat*1]?=some (Value.iface (243:TypeId) (Value.pointer (some (er (i.toNat+(1:Nat))))))] ⟨hi0,by omega,hrd1_0,trivial⟩ ?_
 refine jS [(0,true),(1,true),(2,false)] [] ?_
 refine Ya (id:=10) (rest:=[(2,false)]) [zR 0,zR 1] [] [zV 35 (.iface 102 (.pointer (sA pb 0))),zV 36 (.iface 243 (.pointer (some (er (i.toNat+1)))))] ?_
 refine Yc 87 #[.iface 102 (.pointer (sA pb 0)),.iface 243 (.pointer (some (er (i.toNat+1))))] (some 37) fun w S hG=>?_
 refine(wrapAt (hG.at 0 rfl) hI (hG.at 1 rfl) h1 hk (by omega) (by omega)).mono ?_
 rintro e2 w2 hR
 refine⟨_,_,_,hR,?_⟩
 try simp only[aQ]
 refine JR_end ?_
 refine cC (t:=decide (k=i.toNat+1)) (fun hb=>?_) (fun hb=>?_)
 ·refine J_seq ?_
  refine Zp ([zR 0,.rd 1 [] 0 1]++Rds 2 5) [37] [zI 2 (i+1)] [IntKind.i64.wrap (i+1)=i+1] ⟨wrap_i64 (by omega) (by omega),trivial⟩ ?_
  refine Yr [[],[]] (.tuple #[nI (i+1),nI at']) fun a w s=>?_
  have e:i+1=k:=by
   have:=of_decide_eq_true hb
   omega
  rw[e]
  exact s.ret (by simp) [] [] rfl rfl
 ·refine J_skip ?_
  refine J_eb ?_
  refine Zp [.rd 0 [] 0 1,zR 1] [37] [zI 30 (i+1)] [IntKind.i64.wrap (i+1)=i+1] ⟨wrap_i64 (by omega) (by omega),trivial⟩ ?_
  refine J_backx (i+1) [0,2,3,28,29,30] [] [] [0,1,2] ?_ ?_ (by kernel_rfl) rfl rfl rfl
  ·have:=of_decide_eq_false hb
   exact⟨by omega,by omega⟩
  ·omega
set_option maxHeartbeats 4000000 in
theorem ptr_of_obj {w:World} {S:Nat→Prop} {b:Nat} {x y:Value} {ty:TypeId} {fz:Nat×Nat} (hx:x.oneCell'=true) (hy:y.oneCell'=true) (h:Rep w S (.pointer (some ⟨b,0,none⟩)) (.obj (.cells #[x,y] ty fz))):Rep w S (.pointer (some ⟨b,0,none⟩)) (.ptr [.v x,.v y]):=by
 cases h with
 | obj hb hS=>
  refine .ptr (fun j=>(#[x,y]:Array Value).getD j .nilIface) hb hS (fun j hj=>?_) fun j d hj=>?_
  ·match j,hj with
   | 0,_=>rfl
   | 1,_=>rfl
   | j+2,hj=>exact absurd hj (by simp)
  ·match j,hj with
   | 0,hj=>cases hj;exact .v hx
   | 1,hj=>cases hj;exact .v hy
   | j+2,hj=>simp at hj
end Go.Proofs.YtpjkiomccpjboaaGreatDoor
end
section
namespace Go.Proofs.YtpjkiomccpjboaaGreatDoor
open Go Go.Sx
set_option maxHeartbeats 4000000 in
theorem sameDots_eq {w0:World} {S:Nat→Prop} {a b:Option Addr} {n m c d:Nat} {l:List DotT} (ha:Rep w0 S (.slice a n c) (.sl 3 (l.map eDot))) (hb:Rep w0 S (.slice b m d) (.sl 3 (l.map eDot))) (hl:l.length≤1000000) :
  Calls Tryz.prog 29 #[.slice a n c,.slice b m d] w0 fun e w'=>Ret [] w0 S w' e (.bool true) [] []:=by
 have e1:=ha.slen
 have e2:=hb.slen
 rw[List.length_map]at e1 e2
 subst e1 e2
 refine epG Tryz.func29 bd29 (args:=[.slice a l.length c,.slice b l.length d]) (G:=[(_,.sl 3 (l.map eDot)),(_,.sl 3 (l.map eDot))]) (by kernel_rfl) (.cons ha (.cons hb (.nil _ _))) ?_
 refine Zs [zR 0] [] [zB 4 false] ?_
 refine J_seq ?_
 refine Zt (Rds 0 4++[.rd 4 [] 0 7]) [] [zB 10 false] [((↑l.length:Int) != (↑l.length:Int))=false] ⟨by simp,trivial⟩ ?_
 refine cF ?_
 refine J_skip (J_seq ?_)
 refine Zs [zR 0] [10] [zI 5 0] ?_
 refine J_block ?_
 refine J_loopx (fun i:Int=>[zS 0 a l.length c,zS 1 b l.length d,zB 4 false,zI 5 i]) (fun i:Int=>[]) (fun i:Int=>[]) (fun i:Int=>[(.slice a l.length c,(D.sl 3 (List.map eDot l))),(.slice b l.length d,(D.sl 3 (List.map eDot l)))]) (fun i:Int=>(l.length - i).toNat) (fun i:Int=>(0≤i∧i≤l.length)) 0 [0,1,4,5] [] [] [0,1] ?_ (by kernel_rfl) rfl rfl rfl ?_
 ·exact⟨by omega,by omega⟩
 rintro i ⟨hi0,hi⟩
 refine J_seq ?_
 refine Zs (Rds 0 4) [] [zB 14 (decide (i<(↑l.length:Int)))] ?_
 refine cC (t:=decide (i<(↑l.length:Int))) (fun hlt=>?_) (fun hlt=>?_)
 ·have hlt2:i<l.length:=by simpa using hlt
  obtain⟨x,hx⟩:∃x,l[i.toNat]?=some x:=⟨_,List.getElem?_eq_getElem (by omega)⟩
  refine J_read0 0 rfl i.toNat (map_at hx) (by kernel_rfl) (fun b1 off1 cs1 ty1 fz1 ha1 hrd1=>?_)
  cases ha1
  have hrd1_0:=rd0 (hrd1 0 _ rfl)
  have hrd1_1:=hrd1 1 _ rfl
  have hrd1_2:=hrd1 2 _ rfl
  refine J_read0 1 rfl i.toNat (map_at hx) (by kernel_rfl) (fun b2 off2 cs2 ty2 fz2 ha2 hrd2=>?_)
  cases ha2
  have hrd2_0:=rd0 (hrd2 0 _ rfl)
  have hrd2_1:=hrd2 1 _ rfl
  have hrd2_2:=hrd2 2 _ rfl
  try simp only[aQ]
  refine J_skip (J_seq (J_block ?_))
  refine Zt [zR 0,zR 1,.rd 2 [] 0 2,.rd 3 [.r 0 (some (nI x.place)),.r 0 (some (nI x.time)),.r 0 (some (nI x.no))] 0 0,zR 4,zR 5,.rd 6 [] 0 2,.rd 7 [.r 1 (some (nI x.place)),.r 1 (some (nI x.time)),.r 1 (some (nI x.no))] 0 0,.rd 8 [.r 0 (some (.bool (!decide (x.place=x.place∧x.time=x.time∧x.no=x.no))))] 0 10] [14] [zB 25 (!decide (x.place=x.place∧x.time=x.time∧x.no=x.no))] [0≤i,i<(↑l.length:Int),cs1[off1+i.toNat*3]?=some (nI x.place),cs1[off1+i.toNat*3+(1:Nat)]?=some (nI x.time),cs1[off1+i.toNat*3+(2:Nat)]?=some (nI x.no),0≤i,i<(↑l.length:Int),cs2[off2+i.toNat*3]?=some (nI x.place),cs2[off2+i.toNat*3+(1:Nat)]?=some (nI x.time),cs2[off2+i.toNat*3+(2:Nat)]?=some (nI x.no),eqRun Tryz.prog .neq 65 (Operand.tmp 20) (Operand.tmp 24) (.agg #[nI x.place,nI x.time,nI x.no]) (.agg #[nI x.place,nI x.time,nI x.no]) (.bool (!decide (x.place=x.place∧x.time=x.time∧x.no=x.no)))] ⟨hi0,hlt2,hrd1_0,hrd1_1,hrd1_2,hi0,hlt2,hrd2_0,hrd2_1,hrd2_2,eqRun_neq_65,trivial⟩ ?_
  refine J_condF (!decide (x.place=x.place∧x.time=x.time∧x.no=x.no)) (by kernel_rfl) (by kernel_rfl) (by simp) ?_
  refine J_skip (J_eb ?_)
  refine Zp [zR 0,.rd 1 [] 0 1,zR 2] [25] [zI 5 (i+1)] [IntKind.i64.wrap (i+1)=i+1] ⟨wrap_i64 (by omega) (by omega),trivial⟩ ?_
  refine J_backx (i+1) [0,1,4,5] [] [] [0,1] ?_ ?_ (by kernel_rfl) rfl rfl rfl
  ·exact⟨by omega,by omega⟩
  ·omega
 ·refine J_exit rfl ?_
  refine Zs [zR 0] [14,0,1,5] [zB 4 true] ?_
  refine Yr [[]] (.bool true) fun a w s=>?_
  exact s.ret (by simp) [] [] rfl rfl
def heavyOp (o:OpT):Bool:=decide (60<(o.key.size:Int))||decide (200<(o.text.size:Int))||decide (70<(o.dots.length:Int))
def heavyC (c:ComT):Int:=if 20<c.when.length∨20<c.ops.length then 1 else if c.ops.any heavyOp then 1 else 0
set_option maxHeartbeats 4000000 in
theorem heavyCommit {w0:World} {S:Nat→Prop} {a1 a2:Option Addr} {n1 c1 n2 c2:Nat} {c:ComT} (h1:Rep w0 S (.slice a1 n1 c1) (dInts c.when)) (h2:Rep w0 S (.slice a2 n2 c2) (.sl 7 (c.ops.map eOp))) :
  Calls Tryz.prog 12 #[.agg #[.slice a1 n1 c1,.int .i64 c.place,.slice a2 n2 c2]] w0 fun e w'=>Ret [] w0 S w' e (.int .i64 (heavyC c)) [] []:=by
 obtain rfl:=rep_ints_len h1
 have e2:=h2.slen
 rw[List.length_map]at e2
 subst e2
 refine epG Tryz.func12 bd12 (args:=[.agg #[.slice a1 c.when.length c1,.int .i64 c.place,.slice a2 c.ops.length c2]]) (G:=[(_,dInts c.when),(_,.sl 7 (c.ops.map eOp))]) (by kernel_rfl) (.cons h1 (.cons h2 (.nil _ _))) ?_
 refine Zv [.wr 0 [] 0,zR 1] [] [0] (fun nu1=>[zP 1 (nu1 0),zI 2 0]) (fun nu1=>[(nu1 0,.cells #[.slice a1 c.when.length c1,nI c.place,.slice a2 c.ops.length c2] 28 (0,0))]) (fun nu1=>?_)
 refine J_seq ?_
 refine Zs ([zR 0,.rd 1 [.o 0 none] 0 0]++Rds 2 5++[.rd 5 [] 2 0,.rd 6 [.o 0 none] 2 0,.rd 7 [] 2 0,.rd 8 [] 2 0,.rd 9 [] 0 3]) [] [zB 13 (decide ((↑c.when.length:Int)>20)||decide ((↑c.ops.length:Int)>20))] ?_
 refine cC (t:=decide ((↑c.when.length:Int)>20)||decide ((↑c.ops.length:Int)>20)) (fun hbig=>?_) (fun hbig=>?_)
 ·refine J_seq ?_
  refine Za [zR 0] [13] [zI 2 1] ?_
  refine Yr [[]] (nI 1) fun a w s=>?_
  have e1:heavyC c=1:=by rw[heavyC,if_pos (by simp at hbig;omega)]
  rw[e1]
  exact s.ret (by simp) [] [] rfl rfl
 ·have hn:¬(20<c.when.length∨20<c.ops.length):=by simp at hbig;omega
  refine J_skip (J_seq ?_)
  refine Zs [zR 0] [13] [zI 3 0] ?_
  refine J_block ?_
  refine J_loopx (fun i:Int=>[zP 1 (nu1 0),zI 2 0,zI 3 i]) (fun i:Int=>[(nu1 0,.cells #[.slice a1 c.when.length c1,nI c.place,.slice a2 c.ops.length c2] 28 (0,0))]) (fun i:Int=>[]) (fun i:Int=>[(.slice a1 c.when.length c1,(dInts c.when)),(.slice a2 c.ops.length c2,(D.sl 7 (List.map eOp c.ops)))]) (fun i:Int=>(c.ops.length - i).toNat) (fun i:Int=>(0≤i∧i≤c.ops.length∧∀j:Nat,j<i.toNat→∀o,c.ops[j]?=some o→heavyOp o=false)) 0 [1,2,3] [0] [] [0,1] ?_ (by kernel_rfl) rfl rfl rfl ?_
  ·exact⟨by omega,by omega,by simp⟩
  rintro i ⟨hi0,hi,hno⟩
  refine J_seq ?_
  refine Zs [zR 0,zR 1,.rd 2 [.o 0 none] 0 0,zR 3,zR 4] [] [zB 18 (decide (i<(↑c.ops.length:Int)))] ?_
  refine cC (t:=decide (i<(↑c.ops.length:Int))) (fun hlt=>?_) (fun hlt=>?_)
  ·have hlt2:i<c.ops.length:=by simpa using hlt
   obtain⟨o,ho⟩:∃o,c.ops[i.toNat]?=some o:=⟨_,List.getElem?_eq_getElem (by omega)⟩
   refine J_read1 1 rfl i.toNat (map_at ho) (by kernel_rfl) (fun b1 off1 cs1 ty1 fz1 a1_0 c1_0 ha1 hrd1=>?_)
   cases ha1
   have hrd1_0:=rd0 (hrd1 0 _ rfl)
   have hrd1_1:=hrd1 1 _ rfl
   have hrd1_2:=hrd1 2 _ rfl
   have hrd1_3:=hrd1 3 _ rfl
   have hrd1_4:=hrd1 4 _ rfl
   have hrd1_5:=hrd1 5 _ rfl
   have hrd1_6:=hrd1 6 _ rfl
   try simp only[aQ]
   refine J_skip (J_seq (J_block ?_))
   refine Zt ([zR 0,.rd 1 [.o 0 none] 0 0,zR 2,.rd 3 [] 0 2,zR 4,.rd 5 [.r 0 (some (.string o.key))] 0 0]++Rds 6 9++[.rd 9 [] 2 0,.rd 10 [.o 0 none] 2 0,.rd 11 [] 2 0,.rd 12 [] 2 2,.rd 13 [] 2 0,.rd 14 [.r 0 (some (.string o.text))] 2 0,.rd 15 [] 2 0,.rd 16 [] 2 0,.rd 17 [] 0 3,zR 18,.rd 19 [] 2 0,.rd 20 [.o 0 none] 2 0,.rd 21 [] 2 0,.rd 22 [] 2 2,.rd 23 [] 2 0,.rd 24 [.r 0 (some (.slice (a1_0,c1_0).fst ((List.map eDot o.dots).length) c1_0))] 2 0,.rd 25 [] 2 0,.rd 26 [] 2 0,.rd 27 [] 0 3]) [18] [zB 48 (decide ((↑o.key.size:Int)>60)||decide ((↑o.text.size:Int)>200)||decide ((↑(List.map eDot o.dots).length:Int)>70))] [0≤i,i<(↑c.ops.length:Int),cs1[off1+i.toNat*7+(1:Nat)]?=some (Value.string o.key),(decide ((↑o.key.size:Int)>60))=false→0≤i,(decide ((↑o.key.size:Int)>60))=false→i<(↑c.ops.length:Int),(decide ((↑o.key.size:Int)>60))=false→cs1[off1+i.toNat*7+(3:Nat)]?=some (Value.string o.text),(decide ((↑o.key.size:Int)>60)||decide ((↑o.text.size:Int)>200))=false→0≤i,(decide ((↑o.key.size:Int)>60)||decide ((↑o.text.size:Int)>200))=false→i<(↑c.ops.length:Int),(decide ((↑o.key.size:Int)>60)||decide ((↑o.text.size:Int)>200))=false→cs1[off1+i.toNat*7+(6:Nat)]?=some (Value.slice (a1_0,c1_0).fst (List.map eDot o.dots).length (a1_0,c1_0).snd)] ⟨hi0,hlt2,hrd1_1,(fun _=>hi0),(fun _=>hlt2),(fun _=>hrd1_3),(fun _=>hi0),(fun _=>hlt2),(fun _=>hrd1_6),trivial⟩ ?_
   refine cC (t:=decide ((↑o.key.size:Int)>60)||decide ((↑o.text.size:Int)>200)||decide ((↑(List.map eDot o.dots).length:Int)>70)) (fun hb=>?_) (fun hb=>?_)
   ·refine J_seq ?_
    refine Za [zR 0] [48] [zI 2 1] ?_
    refine Yr [[]] (nI 1) fun a w s=>?_
    have e1:heavyC c=1:=by
     rw[heavyC,if_neg hn,if_pos (List.any_eq_true.2 ⟨o,List.mem_of_getElem? ho,?_⟩)]
     simpa [heavyOp]using hb
    rw[e1]
    exact s.ret (by simp) [] [] rfl rfl
   ·refine J_skip ?_
    refine J_eb ?_
    refine Zp [zR 0,.rd 1 [] 0 1,zR 2] [48] [zI 3 (i+1)] [IntKind.i64.wrap (i+1)=i+1] ⟨wrap_i64 (by omega) (by omega),trivial⟩ ?_
    refine J_backx (i+1) [1,2,3] [0] [] [0,1] ?_ ?_ (by kernel_rfl) rfl rfl rfl
    ·refine⟨by omega,by omega,fun j hj o' ho'=>?_⟩
     by_cases hji:j=i.toNat
     ·subst hji
      rw[ho]at ho'
      cases ho'
      simpa [heavyOp]using hb
     ·exact hno j (by omega) o' ho'
    ·omega
  ·refine J_exit rfl ?_
   refine Zs [zR 0] [18,1,3] [] ?_
   refine Yr [[]] (nI 0) fun a w s=>?_
   have e1:heavyC c=0:=by
    rw[heavyC,if_neg hn,if_neg]
    rw[Bool.not_eq_true,List.any_eq_false]
    intro o ho
    obtain⟨j,hj⟩:=List.getElem?_of_mem ho
    have hjl:=(List.getElem?_eq_some_iff.1 hj).1
    simp[hno j (by simp at hlt;omega) o hj]
   rw[e1]
   exact s.ret (by simp) [] [] rfl rfl
end Go.Proofs.YtpjkiomccpjboaaGreatDoor
end
