/- Part 6 of the texts of a claim: OpErr2 Fault ComErr2 Bare Val CmpD ListF. -/
import Derived.Test.YtmkapocibaojdaaGreatDoorTt5
section
namespace Go.Proofs.YtmkapocibaojdaaGreatDoor
open Go Go.Sx
def dotOk (places:Int) (d:DotT):Bool:=((((decide (d.place≥0)&&decide (d.place<places))&&decide (d.time≥1))&&decide (d.time≤1099511627776))&&decide (d.no≥0))&&decide (d.no<12)
def shapeOk (o:OpT):Bool:=
 if o.kind=1 then o.n==0&&!o.remove&&(o.dots.length:Int)==0
 else if o.kind=2 then o.text.toList==(ByteArray.mk #[]).toList&&!o.remove&&(o.dots.length:Int)==0
 else o.n==0&&(o.remove||(o.dots.length:Int)==0)
def badDots (places:Int) (l:List DotT):Bool:=l.any fun d=>!dotOk places d
def opErr (o:OpT) (places:Int):Nat:=
 if places<1∨6<places∨o.no<0∨12≤o.no then 2
 else if nameOk o.key=false then 4
 else if o.kind≠1∧o.kind≠2∧o.kind≠3 then 12
 else if shapeOk o=false then 3
 else if 60<o.text.size∨o.n < -1099511627776∨1099511627776<o.n∨60<o.dots.length then 2
 else if badDots places o.dots=true then 2
 else 0
abbrev dotA (d:DotT):Value:=.agg #[.int .i64 d.place,.int .i64 d.time,.int .i64 d.no]
abbrev opA (o:OpT) (v:Value):Value:=.agg #[.int .i64 o.no,.string o.key,.int .i64 o.kind,.string o.text,.int .i64 o.n,.bool o.remove,v]
set_option maxHeartbeats 4000000 in
theorem vDot {w:World} {S:Nat→Prop} {d:DotT} {places:Int}:Calls Tryz.prog 187 #[dotA d,.int .i64 places] w fun e w'=>Ret [] w S w' e (.bool (dotOk places d)) [] []:=by
 refine epG Tryz.func187 bd187 (args:=[dotA d,.int .i64 places]) (G:=[]) (by kernel_rfl) (AllG.nil w S) ?_
 refine Zv [.wr 0 [] 0,zR 1] [] [0] (fun nu1=>[zP 2 (nu1 0),zB 4 false]) o0 (fun nu1=>[(nu1 0,.cells #[nI d.place,nI d.time,nI d.no] 177 (0,0))]) (fun nu1=>?_)
 refine Zs [zR 0,.rd 1 [.o 0 none] 0 0,zR 2,zR 3,.rd 4 [] 2 0,.rd 5 [.o 0 none] 2 0,.rd 6 [] 2 0,.rd 7 [] 2 0,.rd 8 [] 0 3,zR 9,.rd 10 [] 2 0,.rd 11 [.o 0 none] 2 0,.rd 12 [] 2 0,.rd 13 [] 0 3,zR 14,.rd 15 [] 2 0,.rd 16 [.o 0 none] 2 0,.rd 17 [] 2 0,.rd 18 [] 0 3,zR 19,.rd 20 [] 2 0,.rd 21 [.o 0 none] 2 0,.rd 22 [] 2 0,.rd 23 [] 0 3,zR 24,.rd 25 [] 2 0,.rd 26 [.o 0 none] 2 0,.rd 27 [] 2 0,.rd 28 [] 0 3,zR 29] [2,1] [zB 4 (decide (d.place≥0)&&decide (d.place<places)&&decide (d.time≥1)&&decide (d.time≤1099511627776)&&decide (d.no≥0)&&decide (d.no<12))] ?_
 refine Yr [[]] (.bool (decide (d.place≥0)&&decide (d.place<places)&&decide (d.time≥1)&&decide (d.time≤1099511627776)&&decide (d.no≥0)&&decide (d.no<12))) fun a w s=>?_
 exact s.ret (by simp) [] [] rfl rfl
set_option maxHeartbeats 4000000 in
theorem vShape {w:World} {S:Nat→Prop} {o:OpT} {a:Option Addr} {n c:Nat} (h:Rep w S (.slice a n c) (.sl 3 (o.dots.map eDot))):Calls Tryz.prog 184 #[opA o (.slice a n c)] w fun e w'=>Ret [] w S w' e (.bool (shapeOk o)) [] []:=by
 have e1:=h.slen
 rw[List.length_map]at e1
 subst e1
 refine epG Tryz.func184 bd184 (args:=[opA o (.slice a o.dots.length c)]) (G:=[]) (by kernel_rfl) (AllG.nil w S) ?_
 by_cases h1:o.kind=1
 ·refine J_seq ?_
  refine Zm [.wr 0 [] 0,zR 1] [] [0] (fun nu1=>[zP 1 (nu1 0),zB 2 false]) o0 (fun nu1=>[(nu1 0,.cells #[nI o.no,.string o.key,nI o.kind,.string o.text,nI o.n,.bool o.remove,.slice a o.dots.length c] 55 (0,0))]) (fun nu1=>?_)
  refine J_seq ?_
  refine Zs [zR 0,.rd 1 [.o 0 none] 0 0] [] [zI 4 o.kind] ?_
  refine J_block ?_
  refine Zt [.rd 0 [] 0 6,zR 1] [] [zB 5 true] (oC (show(o.kind==(1:Int))=true from by simp;omega) oN) ?_
  refine cTt ?_
  refine Zs [zR 0,.rd 1 [.o 0 none] 0 0,zR 2,zR 3,.rd 4 [] 2 0,.rd 5 [.o 0 none] 2 0,.rd 6 [] 2 0,.rd 7 [] 0 3,zR 8,.rd 9 [] 2 0,.rd 10 [.o 0 none] 2 0,.rd 11 [] 2 0,.rd 12 [] 2 0,.rd 13 [] 0 3,zR 14] [5,4] [zB 2 (o.n==0&&!o.remove&&(↑o.dots.length:Int)==0)] ?_
  refine Yr [[]] (.bool (o.n==0&&!o.remove&&(↑o.dots.length:Int)==0)) fun a w s=>?_
  rw[shapeOk,if_pos h1]
  exact s.ret (by simp) [] [] rfl rfl
 ·by_cases h2:o.kind=2
  ·refine J_seq ?_
   refine Zm [.wr 0 [] 0,zR 1] [] [0] (fun nu1=>[zP 1 (nu1 0),zB 2 false]) o0 (fun nu1=>[(nu1 0,.cells #[nI o.no,.string o.key,nI o.kind,.string o.text,nI o.n,.bool o.remove,.slice a o.dots.length c] 55 (0,0))]) (fun nu1=>?_)
   refine J_seq ?_
   refine Zs [zR 0,.rd 1 [.o 0 none] 0 0] [] [zI 4 o.kind] ?_
   refine J_block ?_
   refine Zt [.rd 0 [] 0 7,zR 1] [] [zB 5 false] (oC (show(o.kind==(1:Int))=false from by simp;omega) oN) ?_
   refine cF ?_
   refine Zt [.rd 0 [] 0 6,zR 1] [5,4] [zB 21 true] (oC (show(o.kind==(2:Int))=true from by simp;omega) oN) ?_
   refine cTt ?_
   refine Zs [zR 0,.rd 1 [.o 0 none] 0 0,zR 2,zR 3,.rd 4 [] 2 0,.rd 5 [.o 0 none] 2 0,.rd 6 [] 2 0,.rd 7 [] 0 3,zR 8,.rd 9 [] 2 0,.rd 10 [.o 0 none] 2 0,.rd 11 [] 2 0,.rd 12 [] 2 0,.rd 13 [] 0 3,zR 14] [21] [zB 2 (o.text.toList==(ByteArray.mk #[]).toList&&!o.remove&&(↑o.dots.length:Int)==0)] ?_
   refine Yr [[]] (.bool (o.text.toList==(ByteArray.mk #[]).toList&&!o.remove&&(↑o.dots.length:Int)==0)) fun a w s=>?_
   rw[shapeOk,if_neg h1,if_pos h2]
   exact s.ret (by simp) [] [] rfl rfl
  ·by_cases h3:o.n=0
   ·refine J_seq ?_
    refine Zm [.wr 0 [] 0,zR 1] [] [0] (fun nu1=>[zP 1 (nu1 0),zB 2 false]) o0 (fun nu1=>[(nu1 0,.cells #[nI o.no,.string o.key,nI o.kind,.string o.text,nI o.n,.bool o.remove,.slice a o.dots.length c] 55 (0,0))]) (fun nu1=>?_)
    refine J_seq ?_
    refine Zs [zR 0,.rd 1 [.o 0 none] 0 0] [] [zI 4 o.kind] ?_
    refine J_block ?_
    refine Zt [.rd 0 [] 0 7,zR 1] [] [zB 5 false] (oC (show(o.kind==(1:Int))=false from by simp;omega) oN) ?_
    refine cF ?_
    refine Zt [.rd 0 [] 0 7,zR 1] [5,4] [zB 21 false] (oC (show(o.kind==(2:Int))=false from by simp;omega) oN) ?_
    refine cF ?_
    refine J_skip (J_eb ?_)
    refine Zt [zR 0,.rd 1 [.o 0 none] 0 0,.rd 2 [] 0 6,zR 3,zR 4,.rd 5 [.o 0 none] 0 0,zR 6,.rd 7 [] 2 0,.rd 8 [.o 0 none] 2 0,.rd 9 [] 2 0,.rd 10 [] 2 0,.rd 11 [] 0 3,zR 12,zR 13] [21,1] [zB 2 (o.remove||(↑o.dots.length:Int)==0)] (oC (show(o.n==(0:Int))=true from by simp;omega) oN) ?_
    refine Yr [[]] (.bool (o.remove||(↑o.dots.length:Int)==0)) fun a w s=>?_
    rw[shapeOk,if_neg h1,if_neg h2,show(o.n==0)=true by simpa using h3,Bool.true_and]
    exact s.ret (by simp) [] [] rfl rfl
   ·refine J_seq ?_
    refine Zm [.wr 0 [] 0,zR 1] [] [0] (fun nu1=>[zP 1 (nu1 0),zB 2 false]) o0 (fun nu1=>[(nu1 0,.cells #[nI o.no,.string o.key,nI o.kind,.string o.text,nI o.n,.bool o.remove,.slice a o.dots.length c] 55 (0,0))]) (fun nu1=>?_)
    refine J_seq ?_
    refine Zs [zR 0,.rd 1 [.o 0 none] 0 0] [] [zI 4 o.kind] ?_
    refine J_block ?_
    refine Zt [.rd 0 [] 0 7,zR 1] [] [zB 5 false] (oC (show(o.kind==(1:Int))=false from by simp;omega) oN) ?_
    refine cF ?_
    refine Zt [.rd 0 [] 0 7,zR 1] [5,4] [zB 21 false] (oC (show(o.kind==(2:Int))=false from by simp;omega) oN) ?_
    refine cF ?_
    refine J_skip (J_eb ?_)
    refine Zt [zR 0,.rd 1 [.o 0 none] 0 0,.rd 2 [] 0 7,zR 3,.rd 4 [] 1 0,.rd 5 [] 1 0,.rd 6 [] 1 0,.rd 7 [] 1 0,.rd 8 [] 1 0,.rd 9 [] 1 0,.rd 10 [] 1 0,.rd 11 [] 1 0,zR 12,zR 13] [21,1] [] (oC (show(o.n==(0:Int))=false from by simp;omega) oN) ?_
    refine Yr [[]] (.bool false) fun a w s=>?_
    rw[shapeOk,if_neg h1,if_neg h2,show(o.n==0)=false by simpa using h3,Bool.false_and]
    exact s.ret (by simp) [] [] rfl rfl
theorem opRest {o:OpT} {places:Int} (h1:¬(places<1∨6<places∨o.no<0∨12≤o.no)) (h2:nameOk o.key=true) (h3:o.kind=1∨o.kind=2∨o.kind=3) (h4:shapeOk o=true):opErr o places=if 60<o.text.size∨o.n < -1099511627776∨1099511627776<o.n∨60<o.dots.length then 2 else if badDots places o.dots=true then 2 else 0:=by
 unfold opErr
 rw[if_neg h1,if_neg (by simp[h2]),if_neg (by omega),if_neg (by simp[h4])]
theorem opShape {o:OpT} {places:Int} (h1:¬(places<1∨6<places∨o.no<0∨12≤o.no)) (h2:nameOk o.key=true) (h3:o.kind=1∨o.kind=2∨o.kind=3) (h4:shapeOk o=false):opErr o places=3:=by
 unfold opErr
 rw[if_neg h1,if_neg (by simp[h2]),if_neg (by omega),if_pos h4]
theorem gt0 (l:Nat):decide ((l:Int)>0)=!((l:Int)==0):=by
 by_cases h:l=0
 ·subst h;rfl
 ·rw[decide_eq_true (by omega),show((l:Int)==0)=false by simpa using h];rfl
theorem nsh (e r:Bool) (l:Nat):(!e||r||decide ((l:Int)>0))=!(e&&!r&&(l:Int)==0):=by
 rw[gt0]
 generalize ((l:Int)==0)=x
 cases e <;> cases r <;> cases x <;> rfl
theorem nsh3 (r:Bool) (l:Nat):(!r&&decide ((l:Int)>0))=!(r||(l:Int)==0):=by
 rw[gt0]
 generalize ((l:Int)==0)=x
 cases r <;> cases x <;> rfl
theorem not_t {x:Bool} (h:(!x)=true):x=false:=by cases x <;> simp_all
theorem not_f {x:Bool} (h:(!x)=false):x=true:=by cases x <;> simp_all
set_option maxHeartbeats 2000000 in
theorem opTail {w0:World} {S:Nat→Prop} {nb:Nat} {o:OpT} {a:Option Addr} {c:Nat} {places:Int} :
  J Tryz.prog Tryz.f27 (retR Tryz.prog Tryz.f27 fun e w'=>Ret [] w0 S w' e (.int .i64 (if 60<o.text.size∨o.n < -1099511627776∨1099511627776<o.n∨60<o.dots.length then 2 else if badDots places o.dots=true then 2 else 0:Nat)) [] []) Tryz.f27.ntmps
   [.c (.rg 17 false),.c (.cond (.tmp 96) (.seq (.rg 18 false) .ret) .skip),.c (.seq (.seq (.rg 19 false) (.block 1 (.loop (.seq (.seq (.rg 20 false) (.cond (.tmp 101) .skip (.exit 1))) (.seq (.block 2 (.seq (.rg 22 false) (.seq (.rg 23 false) (.cond (.tmp 137) (.seq (.rg 24 false) .ret) .skip)))) (.rg 21 false)))))) (.seq (.rg 25 false) .ret))]
   [(1,.val (.int .i64 places)),(2,.val (.pointer (some ⟨nb,0,none⟩))),(4,.val (.int .i64 0))] [(nb,.cells #[.int .i64 o.no,.string o.key,.int .i64 o.kind,.string o.text,.int .i64 o.n,.bool o.remove,.slice a o.dots.length c] 55 (0,0))] [] [([],w0)] ⟨newS S [] w0,[],[(.slice a o.dots.length c,.sl 3 (o.dots.map eDot))]⟩:=by
 refine Za ([zR 0,.rd 1 [.o 0 none] 0 0]++Rds 2 5++[.rd 5 [] 2 0,.rd 6 [.o 0 none] 2 0,.rd 7 [] 2 0,.rd 8 [] 0 3,zR 9,.rd 10 [] 2 0,.rd 11 [.o 0 none] 2 0,.rd 12 [] 2 0,.rd 13 [] 0 3,zR 14,.rd 15 [] 2 0,.rd 16 [.o 0 none] 2 0,.rd 17 [] 2 0,.rd 18 [] 2 0,.rd 19 [] 0 3]) [] [zB 96 (decide ((↑o.text.size:Int)>60)||decide (o.n < -1099511627776)||decide (o.n>1099511627776)||decide ((↑o.dots.length:Int)>60))] ?_
 refine cC (t:=decide ((↑o.text.size:Int)>60)||decide (o.n < -1099511627776)||decide (o.n>1099511627776)||decide ((↑o.dots.length:Int)>60)) (fun hb=>?_) (fun hb=>?_)
 ·rw[if_pos (by simp at hb;omega)]
  refine Zs [zR 0] [96] [zI 4 2] ?_
  refine Yr [[]] (nI 2) fun a w s=>?_
  exact s.ret (by simp) [] [] rfl rfl
 have hb2:¬(60<o.text.size∨o.n < -1099511627776∨1099511627776<o.n∨60<o.dots.length):=by simp at hb;omega
 rw[if_neg hb2]
 refine J_skip (J_seq ?_)
 refine Zs [zR 0] [96] [zI 6 0] ?_
 refine J_block ?_
 refine J_loopx (fun i:Int=>[zI 1 places,zP 2 nb,zI 4 0,zI 6 i]) (fun i:Int=>[(nb,.cells #[nI o.no,.string o.key,nI o.kind,.string o.text,nI o.n,.bool o.remove,.slice a o.dots.length c] 55 (0,0))]) (fun i:Int=>[]) (fun i:Int=>[(.slice a o.dots.length c,(D.sl 3 (List.map eDot o.dots)))]) (fun i:Int=>(o.dots.length - i).toNat) (fun i:Int=>(0≤i∧i≤o.dots.length∧∀j:Nat,j<i.toNat→∀d,o.dots[j]?=some d→dotOk places d=true)) 0 [1,2,4,6] [0] [] [0] ?_ (by kernel_rfl) rfl rfl rfl ?_
 ·exact⟨by simp,by omega,by simp⟩
 rintro i ⟨hi0,hi,hno⟩
 refine J_seq ?_
 refine Zs [zR 0,zR 1,.rd 2 [.o 0 none] 0 0,zR 3,zR 4] [] [zB 101 (decide (i<(↑o.dots.length:Int)))] ?_
 refine cC (t:=decide (i<(↑o.dots.length:Int))) (fun hlt=>?_) (fun hlt=>?_)
 ·have hlt2:i<o.dots.length:=by simpa using hlt
  obtain⟨x,hx⟩:∃x,o.dots[i.toNat]?=some x:=⟨_,List.getElem?_eq_getElem (by omega)⟩
  refine J_read0 0 rfl i.toNat (map_at hx) (by kernel_rfl) (fun b1 off1 cs1 ty1 fz1 ha1 hrd1=>?_)
  cases ha1
  have hrd1_0:=rd0 (hrd1 0 _ rfl)
  have hrd1_1:=hrd1 1 _ rfl
  have hrd1_2:=hrd1 2 _ rfl
  try simp only[aQ]
  refine J_skip (J_seq (J_block ?_))
  refine Zu [zR 0,.rd 1 [.o 0 none] 0 0,zR 2,.rd 3 [] 0 2,.rd 4 [.r 0 (some (nI x.place)),.r 0 (some (nI x.time)),.r 0 (some (nI x.no))] 0 0,.wr 5 [] 0,.wr 6 (hnO 1 3) 0] [(6,[])] [101] (fun nu1=>[zP 7 (nu1 0)]) o0 (fun nu1=>[(nu1 0,.cells #[nI x.place,nI x.time,nI x.no] 177 (0,0))]) (fun nu1=>(oC hi0 (oC hlt2 (oC hrd1_0 (oC hrd1_1 (oC hrd1_2 oN)))))) (fun nu1=>?_)
  refine Zs [zR 0,.rd 1 [.o 1 none] 0 0,zR 2,zR 3,.rd 4 [] 2 0,.rd 5 [.o 1 none] 2 0,.rd 6 [] 2 0,.rd 7 [] 2 0,.rd 8 [] 0 3,zR 9,.rd 10 [] 2 0,.rd 11 [.o 1 none] 2 0,.rd 12 [] 2 0,.rd 13 [] 0 3,zR 14,.rd 15 [] 2 0,.rd 16 [.o 1 none] 2 0,.rd 17 [] 2 0,.rd 18 [] 0 3,zR 19,.rd 20 [] 2 0,.rd 21 [.o 1 none] 2 0,.rd 22 [] 2 0,.rd 23 [] 0 3,zR 24,.rd 25 [] 2 0,.rd 26 [.o 1 none] 2 0,.rd 27 [] 2 0,.rd 28 [] 0 3] [] [zB 137 (decide (x.place<0)||decide (x.place≥places)||decide (x.time<1)||decide (x.time>1099511627776)||decide (x.no<0)||decide (x.no≥12))] ?_
  refine cC (t:=decide (x.place<0)||decide (x.place≥places)||decide (x.time<1)||decide (x.time>1099511627776)||decide (x.no<0)||decide (x.no≥12)) (fun hbad=>?_) (fun hbad=>?_)
  ·have e2:badDots places o.dots=true:=List.any_eq_true.2 ⟨x,List.mem_of_getElem? hx,by
    simp[dotOk]at hbad ⊢
    omega⟩
   refine Zs [zR 0] [137] [zI 4 2] ?_
   refine Yr [[]] (nI 2) fun a w s=>?_
   rw[e2]
   exact s.ret (by simp) [] [] rfl rfl
  ·have e2:dotOk places x=true:=by
    simp[dotOk]at hbad ⊢
    omega
   refine J_skip (J_eb ?_)
   refine Zp [zR 0,.rd 1 [] 0 1,zR 2] [137] [zI 6 (i+1)] (oC (show IntKind.i64.wrap (i+1)=i+1 from wrap_i64 (by omega) (by omega)) oN) ?_
   refine J_backx (i+1) [1,2,4,6] [0] [] [0] ?_ ?_ (by kernel_rfl) rfl rfl rfl
   ·refine⟨by omega,by omega,fun j hj t ht=>?_⟩
    by_cases hji:j=i.toNat
    ·subst hji
     rw[hx]at ht
     cases ht
     exact e2
    ·exact hno j (by omega) t ht
   ·omega
 ·have e2:badDots places o.dots=false:=by
   unfold badDots
   rw[List.any_eq_false]
   intro t ht
   obtain⟨j,hj⟩:=List.getElem?_of_mem ht
   have hjl:=(List.getElem?_eq_some_iff.1 hj).1
   simp[hno j (by simp at hlt;omega) t hj]
  refine J_exit rfl ?_
  refine Zs [zR 0] [101,1,2,6] [] ?_
  refine Yr [[]] (nI 0) fun a w s=>?_
  rw[e2]
  exact s.ret (by simp) [] [] rfl rfl
set_option maxHeartbeats 4000000 in
theorem opError {w:World} {S:Nat→Prop} {o:OpT} {a:Option Addr} {n c:Nat} {places:Int} (h:Rep w S (.slice a n c) (.sl 3 (o.dots.map eDot))):Calls Tryz.prog 27 #[opA o (.slice a n c),.int .i64 places] w fun e w'=>Ret [] w S w' e (.int .i64 (opErr o places)) [] []:=by
 have e1:=h.slen
 rw[List.length_map]at e1
 subst e1
 refine epG Tryz.func27 bd27 (args:=[opA o (.slice a o.dots.length c),.int .i64 places]) (G:=[(_,.sl 3 (o.dots.map eDot))]) (by kernel_rfl) (.cons h (.nil _ _)) ?_
 refine Zv [.wr 0 [] 0,zR 1] [] [0] (fun nu1=>[zP 2 (nu1 0),zI 4 0]) o0 (fun nu1=>[(nu1 0,.cells #[nI o.no,.string o.key,nI o.kind,.string o.text,nI o.n,.bool o.remove,.slice a o.dots.length c] 55 (0,0))]) (fun nu1=>?_)
 refine J_seq ?_
 refine Zs (Rds 0 3++[.rd 3 [] 2 0,.rd 4 [] 2 0,.rd 5 [] 0 3,zR 6,.rd 7 [] 2 0,.rd 8 [.o 0 none] 2 0,.rd 9 [] 2 0,.rd 10 [] 0 3,zR 11,.rd 12 [] 2 0,.rd 13 [.o 0 none] 2 0,.rd 14 [] 2 0,.rd 15 [] 0 3]) [] [zB 23 (decide (places<1)||decide (places>6)||decide (o.no<0)||decide (o.no≥12))] ?_
 refine cC (t:=decide (places<1)||decide (places>6)||decide (o.no<0)||decide (o.no≥12)) (fun hb=>?_) (fun hb=>?_)
 ·have e:opErr o places=2:=by rw[opErr,if_pos (by simp at hb;omega)]
  refine Zs [zR 0] [23] [zI 4 2] ?_
  refine Yr [[]] (nI 2) fun a w s=>?_
  rw[e]
  exact s.ret (by simp) [] [] rfl rfl
 have hb2:¬(places<1∨6<places∨o.no<0∨12≤o.no):=by simp at hb;omega
 refine J_skip ?_
 refine jS [(0,true),(1,true),(2,false),(3,true)] [] ?_
 refine Ya [zR 0,.rd 1 [.o 0 none] 0 0] [23] [zV 25 (.string o.key)] ?_
 refine Yc 21 #[.string o.key] (some 26) fun w S hG=>?_
 refine(isName (w:=w) (S:=S) (s0:=o.key)).mono ?_
 rintro e1 w1 hR
 refine⟨_,_,_,hR,?_⟩
 cases hname:nameOk o.key with
 | false=>
  have e:opErr o places=4:=by rw[opErr,if_neg hb2,if_pos hname]
  try simp only[aQ]
  refine Ya [zR 3] [26,25] [zB 5 false] ?_
  refine JR_end (J_seq ?_)
  refine Zs [zR 0,zR 1] [5] [zB 28 true] ?_
  refine cTt ?_
  refine Zs [zR 0] [28] [zI 4 4] ?_
  refine Yr [[]] (nI 4) fun a w s=>?_
  rw[e]
  exact s.ret (by simp) [] [] rfl rfl
 | true=>
  by_cases h1:o.kind=1
  ·try simp only[aQ]
   refine Ya [zR 3] [26,25] [zB 5 true] ?_
   refine JR_end (J_seq ?_)
   refine Zs [zR 0,zR 1] [5] [zB 28 false] ?_
   refine cF ?_
   refine J_skip (J_seq ?_)
   refine Zs [zR 0,.rd 1 [.o 0 none] 0 0] [28] [zI 30 o.kind] ?_
   refine J_block ?_
   refine Zt [.rd 0 [] 0 6,zR 1] [] [zB 31 true] (oC (show(o.kind==(1:Int))=true from by simp;omega) oN) ?_
   refine cTt ?_
   refine Zs [zR 0,.rd 1 [.o 0 none] 0 0,zR 2,zR 3,.rd 4 [] 2 0,.rd 5 [.o 0 none] 2 0,.rd 6 [] 0 3,zR 7,.rd 8 [] 2 0,.rd 9 [.o 0 none] 2 0,.rd 10 [] 2 0,.rd 11 [] 2 0,.rd 12 [] 0 3] [31,30] [zB 45 (o.n != 0||o.remove||decide ((↑o.dots.length:Int)>0))] ?_
   refine cC (t:=o.n != 0||o.remove||decide ((↑o.dots.length:Int)>0)) (fun hsh=>?_) (fun hsh=>?_)
   ·have e:opErr o places=3:=opShape hb2 hname (.inl h1) (by
     rw[shapeOk,if_pos h1]
     have:=(nsh (o.n==0) o.remove o.dots.length).symm.trans hsh
     exact not_t this)
    refine Zs [zR 0] [45] [zI 4 3] ?_
    refine Yr [[]] (nI 3) fun a w s=>?_
    rw[e]
    exact s.ret (by simp) [] [] rfl rfl
   ·have e:=opRest hb2 hname (.inl h1) (by
     rw[shapeOk,if_pos h1]
     have:=(nsh (o.n==0) o.remove o.dots.length).symm.trans hsh
     exact not_f this)
    refine J_skip (J_eb (J_seq (J_seq ?_)))
    rw[e]
    exact J_cut [1,2,4] [0] [] [0] (by kernel_rfl) (by kernel_rfl) (by kernel_rfl) (by kernel_rfl) (opTail (nb:=nu1 0) (a:=a) (c:=c))
  ·by_cases h2:o.kind=2
   ·try simp only[aQ]
    refine Ya [zR 3] [26,25] [zB 5 true] ?_
    refine JR_end (J_seq ?_)
    refine Zs [zR 0,zR 1] [5] [zB 28 false] ?_
    refine cF ?_
    refine J_skip (J_seq ?_)
    refine Zs [zR 0,.rd 1 [.o 0 none] 0 0] [28] [zI 30 o.kind] ?_
    refine J_block ?_
    refine Zt [.rd 0 [] 0 7,zR 1] [] [zB 31 false] (oC (show(o.kind==(1:Int))=false from by simp;omega) oN) ?_
    refine cF ?_
    refine Zt [.rd 0 [] 0 6,zR 1] [31] [zB 46 true] (oC (show(o.kind==(2:Int))=true from by simp;omega) oN) ?_
    refine cTt ?_
    refine Zs [zR 0,.rd 1 [.o 0 none] 0 0,zR 2,zR 3,.rd 4 [] 2 0,.rd 5 [.o 0 none] 2 0,.rd 6 [] 0 3,zR 7,.rd 8 [] 2 0,.rd 9 [.o 0 none] 2 0,.rd 10 [] 2 0,.rd 11 [] 2 0,.rd 12 [] 0 3] [46,30] [zB 60 (!o.text.toList==(ByteArray.mk #[]).toList||o.remove||decide ((↑o.dots.length:Int)>0))] ?_
    refine cC (t:=!o.text.toList==(ByteArray.mk #[]).toList||o.remove||decide ((↑o.dots.length:Int)>0)) (fun hsh=>?_) (fun hsh=>?_)
    ·have e:opErr o places=3:=opShape hb2 hname (.inr (.inl h2)) (by
      rw[shapeOk,if_neg h1,if_pos h2]
      have:=(nsh (o.text.toList==(ByteArray.mk #[]).toList) o.remove o.dots.length).symm.trans hsh
      exact not_t this)
     refine Zs [zR 0] [60] [zI 4 3] ?_
     refine Yr [[]] (nI 3) fun a w s=>?_
     rw[e]
     exact s.ret (by simp) [] [] rfl rfl
    ·have e:=opRest hb2 hname (.inr (.inl h2)) (by
      rw[shapeOk,if_neg h1,if_pos h2]
      have:=(nsh (o.text.toList==(ByteArray.mk #[]).toList) o.remove o.dots.length).symm.trans hsh
      exact not_f this)
     refine J_skip (J_eb (J_seq (J_seq ?_)))
     rw[e]
     exact J_cut [1,2,4] [0] [] [0] (by kernel_rfl) (by kernel_rfl) (by kernel_rfl) (by kernel_rfl) (opTail (nb:=nu1 0) (a:=a) (c:=c))
   ·by_cases h3:o.kind=3
    ·by_cases h4:o.n=0
     ·try simp only[aQ]
      refine Ya [zR 3] [26,25] [zB 5 true] ?_
      refine JR_end (J_seq ?_)
      refine Zs [zR 0,zR 1] [5] [zB 28 false] ?_
      refine cF ?_
      refine J_skip (J_seq ?_)
      refine Zs [zR 0,.rd 1 [.o 0 none] 0 0] [28] [zI 30 o.kind] ?_
      refine J_block ?_
      refine Zt [.rd 0 [] 0 7,zR 1] [] [zB 31 false] (oC (show(o.kind==(1:Int))=false from by simp;omega) oN) ?_
      refine cF ?_
      refine Zt [.rd 0 [] 0 7,zR 1] [31] [zB 46 false] (oC (show(o.kind==(2:Int))=false from by simp;omega) oN) ?_
      refine cF ?_
      refine Zt [.rd 0 [] 0 6,zR 1] [46,30] [zB 61 true] (oC (show(o.kind==(3:Int))=true from by simp;omega) oN) ?_
      refine cTt ?_
      refine Zt [zR 0,.rd 1 [.o 0 none] 0 0,.rd 2 [] 0 7,zR 3,zR 4,.rd 5 [.o 0 none] 0 0,zR 6,zR 7,.rd 8 [] 2 0,.rd 9 [.o 0 none] 2 0,.rd 10 [] 2 0,.rd 11 [] 2 0,.rd 12 [] 0 3,zR 13] [61] [zB 76 (!o.remove&&decide ((↑o.dots.length:Int)>0))] (oC (show(o.n != (0:Int))=false from by simp;omega) oN) ?_
      refine cC (t:=!o.remove&&decide ((↑o.dots.length:Int)>0)) (fun hsh=>?_) (fun hsh=>?_)
      ·have e:opErr o places=3:=opShape hb2 hname (.inr (.inr h3)) (by
        rw[shapeOk,if_neg h1,if_neg h2,show(o.n==0)=true by simpa using h4,Bool.true_and]
        have:=(nsh3 o.remove o.dots.length).symm.trans hsh
        exact not_t this)
       refine Zs [zR 0] [76] [zI 4 3] ?_
       refine Yr [[]] (nI 3) fun a w s=>?_
       rw[e]
       exact s.ret (by simp) [] [] rfl rfl
      ·have e:=opRest hb2 hname (.inr (.inr h3)) (by
        rw[shapeOk,if_neg h1,if_neg h2,show(o.n==0)=true by simpa using h4,Bool.true_and]
        have:=(nsh3 o.remove o.dots.length).symm.trans hsh
        exact not_f this)
       refine J_skip (J_eb (J_seq (J_seq ?_)))
       rw[e]
       exact J_cut [1,2,4] [0] [] [0] (by kernel_rfl) (by kernel_rfl) (by kernel_rfl) (by kernel_rfl) (opTail (nb:=nu1 0) (a:=a) (c:=c))
     ·have e:opErr o places=3:=opShape hb2 hname (.inr (.inr h3)) (by
       rw[shapeOk,if_neg h1,if_neg h2,show(o.n==0)=false by simpa using h4,Bool.false_and])
      try simp only[aQ]
      refine Ya [zR 3] [26,25] [zB 5 true] ?_
      refine JR_end (J_seq ?_)
      refine Zs [zR 0,zR 1] [5] [zB 28 false] ?_
      refine cF ?_
      refine J_skip (J_seq ?_)
      refine Zs [zR 0,.rd 1 [.o 0 none] 0 0] [28] [zI 30 o.kind] ?_
      refine J_block ?_
      refine Zt [.rd 0 [] 0 7,zR 1] [] [zB 31 false] (oC (show(o.kind==(1:Int))=false from by simp;omega) oN) ?_
      refine cF ?_
      refine Zt [.rd 0 [] 0 7,zR 1] [31] [zB 46 false] (oC (show(o.kind==(2:Int))=false from by simp;omega) oN) ?_
      refine cF ?_
      refine Zt [.rd 0 [] 0 6,zR 1] [46,30] [zB 61 true] (oC (show(o.kind==(3:Int))=true from by simp;omega) oN) ?_
      refine cTt ?_
      refine Zt [zR 0,.rd 1 [.o 0 none] 0 0,.rd 2 [] 0 6,zR 3,.rd 4 [] 1 0,.rd 5 [] 1 0,.rd 6 [] 1 0,.rd 7 [] 1 0,.rd 8 [] 1 0,.rd 9 [] 1 0,.rd 10 [] 1 0,.rd 11 [] 1 0,.rd 12 [] 1 0,zR 13] [61] [zB 76 true] (oC (show(o.n != (0:Int))=true from by simp;omega) oN) ?_
      refine cTt ?_
      refine Zs [zR 0] [76] [zI 4 3] ?_
      refine Yr [[]] (nI 3) fun a w s=>?_
      rw[e]
      exact s.ret (by simp) [] [] rfl rfl
    ·have e:opErr o places=12:=by rw[opErr,if_neg hb2,if_neg (by simp[hname]),if_pos ⟨h1,h2,h3⟩]
     try simp only[aQ]
     refine Ya [zR 3] [26,25] [zB 5 true] ?_
     refine JR_end (J_seq ?_)
     refine Zs [zR 0,zR 1] [5] [zB 28 false] ?_
     refine cF ?_
     refine J_skip (J_seq ?_)
     refine Zs [zR 0,.rd 1 [.o 0 none] 0 0] [28] [zI 30 o.kind] ?_
     refine J_block ?_
     refine Zt [.rd 0 [] 0 7,zR 1] [] [zB 31 false] (oC (show(o.kind==(1:Int))=false from by simp;omega) oN) ?_
     refine cF ?_
     refine Zt [.rd 0 [] 0 7,zR 1] [31] [zB 46 false] (oC (show(o.kind==(2:Int))=false from by simp;omega) oN) ?_
     refine cF ?_
     refine Zt [.rd 0 [] 0 7,zR 1] [46,30] [zB 61 false] (oC (show(o.kind==(3:Int))=false from by simp;omega) oN) ?_
     refine cF ?_
     refine Zs [zR 0] [61] [zI 4 12] ?_
     refine Yr [[]] (nI 12) fun a w s=>?_
     rw[e]
     exact s.ret (by simp) [] [] rfl rfl
end Go.Proofs.YtmkapocibaojdaaGreatDoor
namespace Go.Proofs.YtmkapocibaojdaaGreatDoor
open Go Go.Sx
set_option maxHeartbeats 4000000 in
theorem obj_ptr {w:World} {S:Nat→Prop} {b:Nat} {x:Value} {ty:TypeId} {fz:Nat×Nat} (h:Rep w S (.pointer (some ⟨b,0,none⟩)) (.obj (.cells #[x] ty fz))) (hx:x.oneCell'=true):Rep w S (.pointer (some ⟨b,0,none⟩)) (.ptr [.v x]):=by
 cases h with
 | obj hb hS=>
  refine .ptr (fun _=>x) hb hS (fun j hj=>?_) (fun j d hj=>?_)
  ·obtain rfl:j=0:=by simpa using hj
   rfl
  ·match j,hj with
   | 0,hj=>
    simp only[List.getElem?_cons_zero,Option.some.injEq]at hj
    subst hj
    exact .v hx
   | j+1,hj=>simp at hj
set_option maxHeartbeats 4000000 in
theorem check68 {w:World} {S:Nat→Prop} {d:DotT} {places:Int} {b:Nat} (h:Rep w S (.pointer (some ⟨b,0,none⟩)) (.ptr [.v (.int .i64 places)])):Calls Tryz.prog 186 #[dotA d,.pointer (some ⟨b,0,none⟩)] w fun e w'=>Ret [] w S w' e (.bool (!dotOk places d)) [] []:=by
 refine epG Tryz.func186 bd186 (args:=[dotA d,.pointer (some ⟨b,0,none⟩)]) (G:=[(_,.ptr [.v (.int .i64 places)])]) (by kernel_rfl) (.cons h (.nil _ _)) ?_
 refine J_glob 0 rfl (fun csg1 tyg1 fzg1 hglob1=>?_)
 refine Zv [.wr 0 [] 0,zR 1] [] [0] (fun nu1=>[zP 2 (nu1 0),zB 3 false]) o0 (fun nu1=>[(nu1 0,.cells #[nI d.place,nI d.time,nI d.no] 177 (0,0))]) (fun nu1=>?_)
 refine jS [(0,true),(1,true),(2,false),(3,true),(4,true)] [] ?_
 refine Yp [.rd 0 (hnO 0 3) 0 0,.rd 1 [.r 0 (some (nI places))] 0 0] [2,1] [zV 4 (.agg #[nI d.place,nI d.time,nI d.no]),zI 5 places] (oC hglob1 oN) ?_
 refine Yc 187 #[.agg #[nI d.place,nI d.time,nI d.no],nI places] (some 6) fun w S hG=>?_
 refine(vDot (w:=w) (S:=S)).mono ?_
 rintro e1 w1 hR
 refine⟨_,_,_,hR,?_⟩
 try simp only[aQ]
 refine Ya [zR 3,zR 4] [6,4,5] [zB 3 (!dotOk places d)] ?_
 refine JR_end ?_
 refine Yr [[]] (.bool (!dotOk places d)) fun a w s=>?_
 exact s.ret (by simp) [] [] rfl rfl
set_option maxHeartbeats 4000000 in
theorem indexBadD {w:World} {S:Nat→Prop} {a:Option Addr} {n c:Nat} {l:List DotT} {places:Int} {b:Nat} (h:Rep w S (.slice a n c) (.sl 3 (l.map eDot))) (hl:l.length≤1000000) (hp:Rep w S (.pointer (some ⟨b,0,none⟩)) (.ptr [.v (.int .i64 places)])) :
  Calls Tryz.prog 215 #[.slice a n c,.func (.func 186) #[] #[.pointer (some ⟨b,0,none⟩)]] w fun e w'=>∃r,Ret [] w S w' e (.int .i64 r) [] []∧decide (0≤r)=badDots places l:=by
 have e1:=h.slen
 rw[List.length_map]at e1
 subst e1
 refine epG Tryz.func215 bd215 (args:=[.slice a l.length c,.func (.func 186) #[] #[.pointer (some ⟨b,0,none⟩)]]) (G:=[(_,.sl 3 (l.map eDot)),(_,.ptr [.v (.int .i64 places)])]) (by kernel_rfl) (.cons h (.cons hp (.nil _ _))) ?_
 refine Zs [zR 0] [] [zI 4 0] ?_
 refine J_seq ?_
 refine Zs (Rds 0 3) [] [zI 7 (↑l.length:Int),zI 8 0] ?_
 refine J_block ?_
 refine J_loopx (fun i:Int=>[zS 0 a l.length c,zV 1 (.func (.func 186) #[] #[.pointer (sA b 0)]),zI 4 0,zI 7 (↑l.length:Int),zI 8 i]) (fun i:Int=>[]) (fun i:Int=>[]) (fun i:Int=>[(.slice a l.length c,(D.sl 3 (List.map eDot l))),(.pointer (sA b 0),(D.ptr [D.v (nI places)]))]) (fun i:Int=>(l.length - i).toNat) (fun i:Int=>(0≤i∧i≤l.length∧∀j:Nat,j<i.toNat→∀d,l[j]?=some d→dotOk places d=true)) 0 [0,1,4,7,8] [] [] [0,1] ?_ (by kernel_rfl) rfl rfl rfl ?_
 ·exact⟨by simp,by omega,by simp⟩
 rintro i ⟨hi0,hi,hno⟩
 refine Zs [zR 0] [] [zB 9 (decide (i<(↑l.length:Int)))] ?_
 refine J_seq ?_
 refine cC (t:=decide (i<(↑l.length:Int))) (fun hlt=>?_) (fun hlt=>?_)
 ·have hlt2:i<l.length:=by simpa using hlt
  obtain⟨x,hx⟩:∃x,l[i.toNat]?=some x:=⟨_,List.getElem?_eq_getElem (by omega)⟩
  refine J_read0 0 rfl i.toNat (map_at hx) (by kernel_rfl) (fun b1 off1 cs1 ty1 fz1 ha1 hrd1=>?_)
  cases ha1
  have hrd1_0:=rd0 (hrd1 0 _ rfl)
  have hrd1_1:=hrd1 1 _ rfl
  have hrd1_2:=hrd1 2 _ rfl
  try simp only[aQ]
  refine J_skip (J_seq (J_block ?_))
  refine Zs [zR 0,zR 1] [9] [zI 5 i] ?_
  refine jS [(0,true),(1,true),(2,true),(3,true),(4,true),(5,false)] [] ?_
  refine Yp (Rds 0 3++[.rd 3 [] 0 2,.rd 4 [.r 0 (some (nI x.place)),.r 0 (some (nI x.time)),.r 0 (some (nI x.no))] 0 0]) [] [zV 11 (.func (.func 186) #[] #[.pointer (sA b 0)]),zV 15 (.agg #[nI x.place,nI x.time,nI x.no])] (oC hi0 (oC hlt2 (oC hrd1_0 (oC hrd1_1 (oC hrd1_2 oN))))) ?_
  refine Yc 186 #[.agg #[nI x.place,nI x.time,nI x.no],.pointer (sA b 0)] (some 16) fun w S hG=>?_
  refine(check68 (d:=x) (hG.at 1 rfl)).mono ?_
  rintro e w2 hR
  refine⟨_,_,_,hR,?_⟩
  try simp only[aQ]
  refine JR_end ?_
  refine cC (t:=!dotOk places x) (fun hb=>?_) (fun hb=>?_)
  ·refine J_seq ?_
   refine Za [zR 0,zR 1] [16] [zI 4 i] ?_
   refine Yr [[]] (nI i) fun a w s=>?_
   refine⟨_,s.ret (by simp) [] [] rfl rfl,?_⟩
   rw[show badDots places l=true from List.any_eq_true.2 ⟨x,List.mem_of_getElem? hx,hb⟩]
   simpa using hi0
  ·refine J_skip ?_
   refine J_eb ?_
   refine Zp [.rd 0 [] 0 1,zR 1] [16] [zI 8 (i+1)] (oC (show IntKind.i64.wrap (i+1)=i+1 from wrap_i64 (by omega) (by omega)) oN) ?_
   refine J_backx (i+1) [0,1,4,7,8] [] [] [0,1] ?_ ?_ (by kernel_rfl) rfl rfl rfl
   ·refine⟨by omega,by omega,fun j hj t ht=>?_⟩
    by_cases hji:j=i.toNat
    ·subst hji
     rw[hx]at ht
     cases ht
     exact not_f hb
    ·exact hno j (by omega) t ht
   ·omega
 ·refine J_exit rfl ?_
  refine Zs [zR 0] [9,0,1,7,8] [zI 4 (-1)] ?_
  refine Yr [[]] (nI (-1)) fun a w s=>?_
  refine⟨_,s.ret (by simp) [] [] rfl rfl,?_⟩
  have e:badDots places l=false:=by
   unfold badDots
   rw[List.any_eq_false]
   intro t ht
   obtain⟨j,hj⟩:=List.getElem?_of_mem ht
   have hjl:=(List.getElem?_eq_some_iff.1 hj).1
   simp[hno j (by simp at hlt;omega) t hj]
  rw[e]
  decide
set_option maxHeartbeats 4000000 in
theorem containsBadD {w:World} {S:Nat→Prop} {a:Option Addr} {n c:Nat} {l:List DotT} {places:Int} {b:Nat} (h:Rep w S (.slice a n c) (.sl 3 (l.map eDot))) (hl:l.length≤1000000) (hp:Rep w S (.pointer (some ⟨b,0,none⟩)) (.ptr [.v (.int .i64 places)])) :
  Calls Tryz.prog 185 #[.slice a n c,.func (.func 186) #[] #[.pointer (some ⟨b,0,none⟩)]] w fun e w'=>Ret [] w S w' e (.bool (badDots places l)) [] []:=by
 refine epG Tryz.func185 bd185 (args:=[.slice a n c,.func (.func 186) #[] #[.pointer (some ⟨b,0,none⟩)]]) (G:=[(_,.sl 3 (l.map eDot)),(_,.ptr [.v (.int .i64 places)])]) (by kernel_rfl) (.cons h (.cons hp (.nil _ _))) ?_
 refine Zs [zR 0] [] [zB 4 false] ?_
 refine jS [(0,true),(1,true),(2,false),(3,true),(4,true)] [] ?_
 refine Ya [zR 0,zR 1] [0,1] [zS 5 a n c,zV 6 (.func (.func 186) #[] #[.pointer (sA b 0)])] ?_
 refine Yc 215 #[.slice a n c,.func (.func 186) #[] #[.pointer (sA b 0)]] (some 7) fun w S hG=>?_
 refine(indexBadD (hG.at 0 rfl) hl (hG.at 1 rfl)).mono ?_
 rintro e w2 ⟨r,hR,hr⟩
 refine⟨_,_,_,hR,?_⟩
 try simp only[aQ]
 refine Ya [zR 3,zR 4] [7,5,6] [zB 4 (decide (r≥0))] ?_
 refine JR_end ?_
 refine Yr [[]] (.bool (decide (r≥0))) fun a w s=>?_
 rw[←hr]
 exact s.ret (by simp) [] [] rfl rfl
set_option maxHeartbeats 4000000 in
theorem vCheckOp {w:World} {S:Nat→Prop} {er:Nat→Addr} {eb:Nat→Array Value×TypeId} {o:OpT} {a:Option Addr} {n c:Nat} {places:Int} (hC:Rep w S .nilIface (dC er eb)) (h:Rep w S (.slice a n c) (.sl 3 (o.dots.map eDot))) :
  Calls Tryz.prog 144 #[opA o (.slice a n c),.int .i64 places] w fun e w'=>∃v,Ret [] w S w' e v [] []∧ErrIs 390 er (opErr o places) v:=by
 have e1:=h.slen
 rw[List.length_map]at e1
 subst e1
 refine epG Tryz.func144 bd144 (args:=[opA o (.slice a o.dots.length c),.int .i64 places]) (G:=[(_,dC er eb),(_,.sl 3 (o.dots.map eDot))]) (by kernel_rfl) (.cons hC (.cons h (.nil _ _))) ?_
 refine J_stp (stp_all 0 [1,2,3,11] rfl rfl) ?_
 refine J_glob 2 rfl (fun csg1 tyg1 fzg1 hglob1=>?_)
 refine J_glob 3 rfl (fun csg2 tyg2 fzg2 hglob2=>?_)
 refine J_glob 4 rfl (fun csg3 tyg3 fzg3 hglob3=>?_)
 refine J_glob 5 rfl (fun csg4 tyg4 fzg4 hglob4=>?_)
 try simp only[aQ]
 refine Zv [.wr 0 [] 0,.wr 1 [] 0,zR 2] [] [0,1] (fun nu1=>[zP 2 (nu1 0),zP 3 (nu1 1),zV 4 .nilIface]) o0 (fun nu1=>[(nu1 0,.cells #[nI o.no,.string o.key,nI o.kind,.string o.text,nI o.n,.bool o.remove,.slice a o.dots.length c] 55 (0,0)),(nu1 1,.cells #[nI places] 3 (0,0))]) (fun nu1=>?_)
 refine J_seq (J_block ?_)
 refine Zs [.rd 0 [.o 1 none] 0 0,zR 1,zR 2,.rd 3 [.o 1 none] 2 0,.rd 4 [] 2 0,.rd 5 [] 0 3,zR 6,.rd 7 [] 2 0,.rd 8 [.o 0 none] 2 0,.rd 9 [] 2 0,.rd 10 [] 0 3,zR 11,.rd 12 [] 2 0,.rd 13 [.o 0 none] 2 0,.rd 14 [] 2 0,.rd 15 [] 0 3,zR 16] [] [zB 5 (decide (places<1)||decide (places>6)||decide (o.no<0)||decide (o.no≥12))] ?_
 refine cC (t:=decide (places<1)||decide (places>6)||decide (o.no<0)||decide (o.no≥12)) (fun hb=>?_) (fun hb=>?_)
 ·have e:opErr o places=2:=by rw[opErr,if_pos (by simp at hb;omega)]
  refine Zt [.rd 0 [.r 0 (some (.iface 390 (.pointer (some (er 2)))))] 0 0,zR 1] [5,2,3] [zV 4 (.iface 390 (.pointer (some (er 2))))] (oC hglob1 oN) ?_
  refine Yr [[]] (.iface 390 (.pointer (some (er 2)))) fun a w s=>?_
  rw[e]
  exact⟨_,s.ret (by simp) [] [] rfl rfl,.inr ⟨by decide,rfl⟩⟩
 have hb2:¬(places<1∨6<places∨o.no<0∨12≤o.no):=by simp at hb;omega
 refine jS [(0,true),(1,true),(2,false),(3,true),(4,true)] [] ?_
 refine Ya [zR 0,.rd 1 [.o 0 none] 0 0] [5] [zV 25 (.string o.key)] ?_
 refine Yc 154 #[.string o.key] (some 26) fun w S hG=>?_
 refine(vName (w:=w) (S:=S) (s0:=o.key)).mono ?_
 rintro e1 w1 hR
 refine⟨_,_,_,hR,?_⟩
 cases hname:nameOk o.key with
 | false=>
  have e:opErr o places=4:=by rw[opErr,if_neg hb2,if_pos hname]
  try simp only[aQ]
  refine Ya [zR 3,zR 4] [26,25] [zB 23 true] ?_
  refine JR_end ?_
  refine cTt ?_
  refine Zt [.rd 0 [.r 2 (some (.iface 390 (.pointer (some (er 4)))))] 0 0,zR 1] [23,2,3] [zV 4 (.iface 390 (.pointer (some (er 4))))] (oC hglob3 oN) ?_
  refine Yr [[]] (.iface 390 (.pointer (some (er 4)))) fun a w s=>?_
  rw[e]
  exact⟨_,s.ret (by simp) [] [] rfl rfl,.inr ⟨by decide,rfl⟩⟩
 | true=>
  try simp only[aQ]
  refine Ya [zR 3,zR 4] [26,25] [zB 23 false] ?_
  refine JR_end ?_
  refine cF ?_
  refine Zs [zR 0,.rd 1 [.o 0 none] 0 0,zR 2,zR 3,.rd 4 [] 2 0,.rd 5 [.o 0 none] 2 0,.rd 6 [] 2 0,.rd 7 [] 0 3,zR 8,.rd 9 [] 2 0,.rd 10 [.o 0 none] 2 0,.rd 11 [] 2 0,.rd 12 [] 0 3,zR 13] [23] [zB 29 (o.kind != 1&&o.kind != 2&&o.kind != 3)] ?_
  refine cC (t:=o.kind != 1&&o.kind != 2&&o.kind != 3) (fun hk=>?_) (fun hk=>?_)
  ·have e:opErr o places=12:=by rw[opErr,if_neg hb2,if_neg (by simp[hname]),if_pos (by simp at hk;omega)]
   refine Zt [.rd 0 [.r 3 (some (.iface 390 (.pointer (some (er 12)))))] 0 0,zR 1] [29,2,3] [zV 4 (.iface 390 (.pointer (some (er 12))))] (oC hglob4 oN) ?_
   refine Yr [[]] (.iface 390 (.pointer (some (er 12)))) fun a w s=>?_
   rw[e]
   exact⟨_,s.ret (by simp) [] [] rfl rfl,.inr ⟨by decide,rfl⟩⟩
  have hk2:o.kind=1∨o.kind=2∨o.kind=3:=by simp at hk;omega
  refine jS [(0,true),(1,false),(2,true),(3,true)] [] ?_
  refine Ya [.rd 0 (hnO 0 7) 0 0] [29] [zV 45 (.agg #[nI o.no,.string o.key,nI o.kind,.string o.text,nI o.n,.bool o.remove,.slice a o.dots.length c])] ?_
  refine Yc 184 #[.agg #[nI o.no,.string o.key,nI o.kind,.string o.text,nI o.n,.bool o.remove,.slice a o.dots.length c]] (some 46) fun w S hG=>?_
  refine(vShape (o:=o) (hG.at 1 rfl)).mono ?_
  rintro e1 w1 hR
  refine⟨_,_,_,hR,?_⟩
  cases hsh:shapeOk o with
  | false=>
   rw[opShape hb2 hname hk2 hsh]
   try simp only[aQ]
   refine Ya [zR 2,zR 3] [46,45] [zB 44 true] ?_
   refine JR_end ?_
   refine cTt ?_
   refine Zt [.rd 0 [.r 1 (some (.iface 390 (.pointer (some (er 3)))))] 0 0,zR 1] [44,2,3] [zV 4 (.iface 390 (.pointer (some (er 3))))] (oC hglob2 oN) ?_
   refine Yr [[]] (.iface 390 (.pointer (some (er 3)))) fun a w s=>?_
   exact⟨_,s.ret (by simp) [] [] rfl rfl,.inr ⟨by decide,rfl⟩⟩
  | true=>
   rw[opRest hb2 hname hk2 hsh]
   try simp only[aQ]
   refine Ya [zR 2,zR 3] [46,45] [zB 44 false] ?_
   refine JR_end ?_
   refine cF ?_
   refine Zs ([zR 0,.rd 1 [.o 0 none] 0 0]++Rds 2 5++[.rd 5 [] 2 0,.rd 6 [.o 0 none] 2 0,.rd 7 [] 2 0,.rd 8 [] 0 3,zR 9,.rd 10 [] 2 0,.rd 11 [.o 0 none] 2 0,.rd 12 [] 2 0,.rd 13 [] 0 3,zR 14,.rd 15 [] 2 0,.rd 16 [.o 0 none] 2 0,.rd 17 [] 2 0,.rd 18 [] 2 0,.rd 19 [] 0 3,zR 20]) [44] [zB 49 (decide ((↑o.text.size:Int)>60)||decide (o.n < -1099511627776)||decide (o.n>1099511627776)||decide ((↑o.dots.length:Int)>60))] ?_
   refine cC (t:=decide ((↑o.text.size:Int)>60)||decide (o.n < -1099511627776)||decide (o.n>1099511627776)||decide ((↑o.dots.length:Int)>60)) (fun hbig=>?_) (fun hbig=>?_)
   ·rw[if_pos (by simp at hbig;omega)]
    refine Zt [.rd 0 [.r 0 (some (.iface 390 (.pointer (some (er 2)))))] 0 0,zR 1] [49,2,3] [zV 4 (.iface 390 (.pointer (some (er 2))))] (oC hglob1 oN) ?_
    refine Yr [[]] (.iface 390 (.pointer (some (er 2)))) fun a w s=>?_
    exact⟨_,s.ret (by simp) [] [] rfl rfl,.inr ⟨by decide,rfl⟩⟩
   rw[if_neg (by simp at hbig;omega)]
   have hdl:o.dots.length≤1000000:=by simp at hbig;omega
   refine J_seq ?_
   refine J_share 1 rfl ?_
   refine J_stp (stp_fact (v:=.pointer (some ⟨nu1 1,0,none⟩)) (d:=.ptr [.v (.int .i64 places)]) fun w S H=>obj_ptr (H _ (List.mem_of_getElem? (i:=6) rfl)) rfl) ?_
   try simp only[aQ]
   refine jT [(0,true),(1,true),(2,true),(3,false),(4,true)] [] ?_
   refine Ya [zR 0,.rd 1 [.o 0 none] 0 0,zR 2] [49,2,3] [zS 73 a o.dots.length c,zV 74 (.func (.func 186) #[] #[.pointer (sA (nu1 1) 0)])] ?_
   refine Yc 185 #[.slice a o.dots.length c,.func (.func 186) #[] #[.pointer (sA (nu1 1) 0)]] (some 75) fun w S hG=>?_
   refine(containsBadD (hG.at 1 rfl) hdl (hG.at 7 rfl)).mono ?_
   rintro e1 w1 hR
   refine⟨_,_,_,hR,?_⟩
   cases hbd:badDots places o.dots with
   | true=>
    try simp only[aQ]
    refine Ya [zR 4] [75,73,74] [zB 71 true] ?_
    refine JR_end ?_
    refine cTt ?_
    refine Zt [.rd 0 [.r 0 (some (.iface 390 (.pointer (some (er 2)))))] 0 0,zR 1] [71] [zV 4 (.iface 390 (.pointer (some (er 2))))] (oC hglob1 oN) ?_
    refine Yr [[]] (.iface 390 (.pointer (some (er 2)))) fun a w s=>?_
    exact⟨_,s.ret (by simp) [] [] rfl rfl,.inr ⟨by decide,rfl⟩⟩
   | false=>
    try simp only[aQ]
    refine Ya [zR 4] [75,73,74] [zB 71 false] ?_
    refine JR_end ?_
    refine cF ?_
    refine J_skip (J_eb ?_)
    refine Zs [zR 0] [71] [] ?_
    refine Yr [[]] (.nilIface) fun a w s=>?_
    exact⟨_,s.ret (by simp) [] [] rfl rfl,.inl ⟨rfl,rfl⟩⟩
end Go.Proofs.YtmkapocibaojdaaGreatDoor
end
section
namespace Go.Proofs.YtmkapocibaojdaaGreatDoor
open Go Go.Sx
set_option maxHeartbeats 4000000 in
theorem setCell_at {w:World} {b:Nat} {old x:Value} {ty:TypeId} {fz:Nat×Nat} (h:w.heap[b]?=some (.cells #[old] ty fz)):(w.setCell ⟨b,0,none⟩ x).heap[b]?=some (.cells #[x] ty fz):=by
 simp[World.setCell,Array.getElem?_modify,h,Array.setIfInBounds]
set_option maxHeartbeats 4000000 in
theorem alloc_old {w:World} {o o':Obj} {b:Nat} (h:w.heap[b]?=some o):(w.alloc o').heap[b]?=some o:=by
 rw[RowKit.Below.heap_alloc _ _ _ (Array.getElem?_eq_some_iff.1 h).1]
 exact h
set_option maxHeartbeats 4000000 in
theorem asHit {w:World} {S:Nat→Prop} {M:List Nat} {p:Addr} {t:Nat} {old:Value} {ty:TypeId} {er:Nat→Addr} {eb:Nat→Array Value×TypeId} (hC:Rep w S .nilIface (dC er eb)) (hp:Pre w S M [cObj t (.cells #[old] ty (0,0))]) :
  Calls Tryz.prog 123 #[.iface 202 (.pointer (some p)),.iface 229 (.pointer (some ⟨t,0,none⟩))] w fun e w'=>Ret M w S w' e (.bool true) [cObj t (.cells #[.pointer (some p)] ty (0,0))] []:=by
 obtain⟨fps,hch,rfl,hnd,hM⟩:=hp
 match fps,hch with
 | [fp],⟨⟨hfp,hb⟩,_⟩=>
  subst hfp
  have hl:=(Array.getElem?_eq_some_iff.1 hb).1
  refine(Er.as_hit p ⟨t,0,none⟩ old w (var_of (hC.part _ (List.mem_of_getElem? (i:=12) rfl))) (by simp[World.cell?,hb]) (by simp[World.frozen?,hb])).mono ?_
  rintro e w' ⟨he,rfl⟩
  have hbl:=(((RowKit.Below.refl _ w).alloc (Nat.le_refl _) (.cells #[.pointer (some ⟨t,0,none⟩)] 229)).alloc (by simp) (.cells #[.pointer (some ⟨13,229,none⟩),.pointer (some ⟨w.heap.size,0,none⟩),.int .u64 150] 285)).alloc (by simp;omega) (.cells #[.pointer (some ⟨13,229,none⟩),.pointer (some ⟨w.heap.size,0,none⟩),.int .u64 150] 285) |>.alloc (by simp;omega) (.cells #[.pointer (some p)] 202)
  refine⟨he,⟨hbl.os,hbl.tape,hbl.output,by simpa [World.setCell]using hbl.size,fun b hbs hn=>?_,Nat.le_refl _⟩,[[t]],⟨⟨rfl,?_⟩,trivial⟩,by simp,fun b hb'=>?_,by simp⟩
  ·rw[RowKit.Below.heap_setCell _ _ _ _ (by simpa using hn)]
   exact hbl.block b hbs
  ·exact setCell_at (alloc_old (alloc_old (alloc_old (alloc_old hb))))
  ·obtain rfl:b=t:=by simpa using hb'
   refine⟨.inl (by simp),?_⟩
   simp[World.setCell]
   omega
 | [],h=>exact h.elim
 | _::_::_,h=>exact h.2.elim
set_option maxHeartbeats 4000000 in
theorem ptr_of_obj {w:World} {S:Nat→Prop} {b:Nat} {x y:Value} {ty:TypeId} {fz:Nat×Nat} (hx:x.oneCell'=true) (hy:y.oneCell'=true) (h:Rep w S (.pointer (some ⟨b,0,none⟩)) (.obj (.cells #[x,y] ty fz))):Rep w S (.pointer (some ⟨b,0,none⟩)) (.ptr [.v x,.v y]):=by
 cases h with
 | obj hb hS=>
  refine .ptr (fun j=>(#[x,y]:Array Value).getD j .nilIface) hb hS (fun j hj=>?_) fun j d hj=>?_
  ·match j,hj with
   | 0,_=>rfl
   | 1,_=>rfl
   | j+2,hj=>exact absurd hj (by simp)
  ·match j,hj with
   | 0,hj=>cases hj;exact .v hx
   | 1,hj=>cases hj;exact .v hy
   | j+2,hj=>simp at hj
end Go.Proofs.YtmkapocibaojdaaGreatDoor
end
section
namespace Go.Proofs.YtmkapocibaojdaaGreatDoor
open Go Go.Sx
def opErrAt (l:List OpT) (places:Int) (i:Nat):Nat:=
 match l[i]? with
 | none=>0
 | some o=>if opErr o places≠0 then opErr o places else match i,l[i - 1]? with
   | _+1,some p=>if o.no≤p.no then 3 else 0
   | _,_=>0
structure FT where
 code:Nat
 at':Int
def opsFault (l:List OpT) (places:Int):Nat→Nat→FT
 | 0,_=>⟨0,-1⟩
 | n+1,i=>if opErrAt l places i=0 then opsFault l places n (i+1)else ⟨opErrAt l places i,i⟩
def comFault (c:ComT):FT:=
 if vecErr c.when≠0 then ⟨vecErr c.when,-1⟩
 else if c.place<0∨c.when.length≤c.place∨12<c.ops.length then ⟨2,-1⟩
 else if c.when[c.place.toNat]?=some 0 then ⟨2,-1⟩
 else if c.ops.length=0 then ⟨3,-1⟩
 else opsFault c.ops c.when.length c.ops.length 0
theorem opsFault_from {l:List OpT} {places:Int}:∀(n k i:Nat),k≤i→(∀j,k≤j→j<i→opErrAt l places j=0)→(i=k+n→opsFault l places n k=⟨0,-1⟩)∧(i<k+n→opErrAt l places i≠0→opsFault l places n k=⟨opErrAt l places i,i⟩)
 | 0,k,i,hk,_=>⟨fun _=>rfl,fun h=>by omega⟩
 | n+1,k,i,hk,h=>by
  rcases Nat.eq_or_lt_of_le hk with rfl|hlt
  ·refine⟨fun he=>by omega,fun _ hne=>?_⟩
   rw[opsFault,if_neg hne]
  ·obtain⟨h1,h2⟩:=opsFault_from n (k+1) i hlt fun j hj1 hj2=>h j (by omega) hj2
   rw[opsFault,if_pos (h k (Nat.le_refl _) hlt)]
   exact⟨fun he=>h1 (by omega),fun he=>h2 (by omega)⟩
theorem opErrAt_own {l:List OpT} {p:Int} {i:Nat} {o:OpT} (h:l[i]?=some o) (he:opErr o p≠0):opErrAt l p i=opErr o p:=by
 unfold opErrAt
 simp only[h,if_pos he]
theorem opErrAt_first {l:List OpT} {p:Int} {o:OpT} (h:l[0]?=some o) (he:opErr o p=0):opErrAt l p 0=0:=by
 unfold opErrAt
 simp[h,he]
theorem opErrAt_next {l:List OpT} {p:Int} {i:Nat} {o q:OpT} (h:l[i+1]?=some o) (hq:l[i]?=some q) (he:opErr o p=0):opErrAt l p (i+1)=if o.no≤q.no then 3 else 0:=by
 unfold opErrAt
 simp[h,hq,he]
end Go.Proofs.YtmkapocibaojdaaGreatDoor
namespace Go.Proofs.YtmkapocibaojdaaGreatDoor
open Go Go.Sx
def FRet (w:World) (S:Nat→Prop) (w':World) (e:Ending) (er:Nat→Addr) (f:FT):Prop:=
 (f.at' = -1∧∃v,Ret [] w S w' e v [] []∧ErrIs 390 er f.code v) ∨
 (1≤f.code∧0≤f.at'∧∃pb,Ret [] w S w' e (.iface 202 (.pointer (some ⟨pb,0,none⟩))) [] [(.pointer (some ⟨pb,0,none⟩),.ptr [.v (.int .i64 f.at'),.v (.iface 390 (.pointer (some (er f.code))))])])
set_option maxHeartbeats 2000000 in
theorem checkCommit {w:World} {S:Nat→Prop} {er:Nat→Addr} {eb:Nat→Array Value×TypeId} {a1 a2:Option Addr} {n1 c1 n2 c2:Nat} {c:ComT} (hC:Rep w S .nilIface (dC er eb)) (h1:Rep w S (.slice a1 n1 c1) (dInts c.when)) (h2:Rep w S (.slice a2 n2 c2) (.sl 7 (c.ops.map eOp))) (hl1:c.when.length≤1000000) (hl2:c.ops.length≤1000000) :
  Calls Tryz.prog 85 #[.agg #[.slice a1 n1 c1,.int .i64 c.place,.slice a2 n2 c2]] w fun e w'=>FRet w S w' e er (comFault c):=by
 obtain rfl:=rep_ints_len h1
 have e2:=h2.slen
 rw[List.length_map]at e2
 subst e2
 refine epG Tryz.func85 bd85 (args:=[.agg #[.slice a1 c.when.length c1,.int .i64 c.place,.slice a2 c.ops.length c2]]) (G:=[(_,dC er eb),(_,dInts c.when),(_,.sl 7 (c.ops.map eOp))]) (by kernel_rfl) (.cons hC (.cons h1 (.cons h2 (.nil _ _)))) ?_
 refine J_stp (stp_all 0 [1,2] rfl rfl) ?_
 refine J_glob 3 rfl (fun csg1 tyg1 fzg1 hglob1=>?_)
 refine J_glob 4 rfl (fun csg2 tyg2 fzg2 hglob2=>?_)
 try simp only[aQ]
 refine Zv [.wr 0 [] 0,zR 1] [] [0] (fun nu1=>[zP 1 (nu1 0),zV 2 .nilIface]) o0 (fun nu1=>[(nu1 0,.cells #[.slice a1 c.when.length c1,nI c.place,.slice a2 c.ops.length c2] 35 (0,0))]) (fun nu1=>?_)
 refine J_seq ?_
 refine jS [(0,true),(1,true),(2,false),(3,true)] [] ?_
 refine Ya [zR 0,.rd 1 [.o 0 none] 0 0] [] [zS 8 a1 c.when.length c1] ?_
 refine Yc 141 #[.slice a1 c.when.length c1] (some 9) fun w S hG=>?_
 refine(vcheck (globs_of (hG.at 0 rfl)) (hG.at 1 rfl) hl1).mono ?_
 rintro e1 w1 ⟨v,hR,hv⟩
 refine⟨_,_,_,hR,?_⟩
 obtain⟨hv0,rfl⟩|⟨hv0,rfl⟩:=hv
 ·try simp only[aQ]
  refine Ya [zR 3] [9,8] [zV 3 .nilIface] ?_
  refine JR_end ?_
  refine Zs [zR 0,zR 1] [] [zB 11 false] ?_
  refine cF ?_
  refine J_skip (J_seq (J_seq ?_))
  by_cases hb:c.place<0∨c.when.length≤c.place
  ·have e:comFault c=⟨2,-1⟩:=by rw[comFault,if_neg (by simp[hv0]),if_pos (by omega)]
   rcases(by omega:c.place<0∨(0≤c.place∧c.when.length≤c.place))with hb1|⟨hb1,hb2⟩
   ·refine Zp [.rd 0 [] 0 0,.rd 1 [.o 0 none] 0 0,.rd 2 [] 0 6,.rd 3 [] 0 0,.rd 4 [] 1 0,.rd 5 [] 1 0,.rd 6 [] 1 0,.rd 7 [] 1 0,.rd 8 [] 1 0,.rd 9 [] 1 0,.rd 10 [] 0 0,.rd 11 [] 0 0,.rd 12 [] 1 0,.rd 13 [] 1 0,.rd 14 [] 1 0,.rd 15 [] 1 0,.rd 16 [] 1 0,.rd 17 [] 1 0,.rd 18 [] 1 0,.rd 19 [] 0 0,.rd 20 [] 0 0,.rd 21 [] 1 0,.rd 22 [] 1 0,.rd 23 [] 1 0,.rd 24 [] 1 0,.rd 25 [] 0 0] [11,3] [(38,.val (.bool true))] (oC (show decide (c.place<(0:Int))=true from by simp;omega) oN) ?_
    refine cTt ?_
    refine Zt [.rd 0 [.r 0 (some (.iface 390 (.pointer (some (er 2)))))] 0 0,zR 1] [38] [zV 2 (.iface 390 (.pointer (some (er 2))))] (oC hglob1 oN) ?_
    refine Yr [[]] (.iface 390 (.pointer (some (er 2)))) fun a w s=>?_
    rw[e]
    exact .inl ⟨rfl,_,s.ret (by simp) [] [] rfl rfl,.inr ⟨by decide,rfl⟩⟩
   ·refine Zp [.rd 0 [] 0 0,.rd 1 [.o 0 none] 0 0,.rd 2 [] 0 7,.rd 3 [] 0 0,.rd 4 [] 0 0,.rd 5 [.o 0 none] 0 0,.rd 6 [] 0 0,.rd 7 [.o 0 none] 0 0,.rd 8 [] 0 0,.rd 9 [] 0 6,.rd 10 [] 0 0,.rd 11 [] 0 0,.rd 12 [] 1 0,.rd 13 [] 1 0,.rd 14 [] 1 0,.rd 15 [] 1 0,.rd 16 [] 1 0,.rd 17 [] 1 0,.rd 18 [] 1 0,.rd 19 [] 0 0,.rd 20 [] 0 0,.rd 21 [] 1 0,.rd 22 [] 1 0,.rd 23 [] 1 0,.rd 24 [] 1 0,.rd 25 [] 0 0] [11,3] [(38,.val (.bool true))] (oC (show decide (c.place<(0:Int))=false from by simp;omega) (oC (show decide (c.place≥(↑c.when.length:Int))=true from by simp;omega) oN)) ?_
    refine cTt ?_
    refine Zt [.rd 0 [.r 0 (some (.iface 390 (.pointer (some (er 2)))))] 0 0,zR 1] [38] [zV 2 (.iface 390 (.pointer (some (er 2))))] (oC hglob1 oN) ?_
    refine Yr [[]] (.iface 390 (.pointer (some (er 2)))) fun a w s=>?_
    rw[e]
    exact .inl ⟨rfl,_,s.ret (by simp) [] [] rfl rfl,.inr ⟨by decide,rfl⟩⟩
  obtain⟨t,ht⟩:∃t,c.when[c.place.toNat]?=some t:=⟨_,List.getElem?_eq_getElem (by omega)⟩
  have hg:¬(vecErr c.when≠0):=by simp[hv0]
  refine J_read0 1 rfl c.place.toNat (map_at ht) (by kernel_rfl) (fun b1 off1 cs1 ty1 fz1 ha1 hrd1=>?_)
  cases ha1
  have hrd1_0:=rd0 (hrd1 0 _ rfl)
  by_cases h0:t=0
  ·have e:comFault c=⟨2,-1⟩:=by
    by_cases h12:12<c.ops.length
    ·rw[comFault,if_neg hg,if_pos (by omega)]
    ·rw[comFault,if_neg hg,if_neg (by omega),if_pos (by rw[ht,h0])]
   try simp only[aQ]
   refine Zp ([zR 0,.rd 1 [.o 0 none] 0 0,.rd 2 [] 0 7,zR 3,zR 4,.rd 5 [.o 0 none] 0 0,zR 6,.rd 7 [.o 0 none] 0 0,zR 8,.rd 9 [] 0 7]++Rds 10 13++[.rd 13 [.o 0 none] 0 0,zR 14,.rd 15 [.o 0 none] 0 0,.rd 16 [] 0 2,.rd 17 [.r 2 (some (nI t))] 0 0,.rd 18 [] 0 6,zR 19,zR 20,.rd 21 [] 1 0,.rd 22 [] 1 0,.rd 23 [] 1 0,.rd 24 [] 1 0,zR 25]) [11,3] [zB 38 true] (oC (show decide (c.place<(0:Int))=false from by simp;omega) (oC (show decide (c.place≥(↑c.when.length:Int))=false from by simp;omega) (oC (show 0≤c.place from by omega) (oC (show c.place<(↑c.when.length:Int) from by omega) (oC hrd1_0 (oC (show(t==(0:Int))=true from by simp;omega) oN)))))) ?_
   refine cTt ?_
   refine Zt [.rd 0 [.r 0 (some (.iface 390 (.pointer (some (er 2)))))] 0 0,zR 1] [38] [zV 2 (.iface 390 (.pointer (some (er 2))))] (oC hglob1 oN) ?_
   refine Yr [[]] (.iface 390 (.pointer (some (er 2)))) fun a w s=>?_
   rw[e]
   exact .inl ⟨rfl,_,s.ret (by simp) [] [] rfl rfl,.inr ⟨by decide,rfl⟩⟩
  have h00:¬c.when[c.place.toNat]?=some 0:=by rw[ht];simpa using h0
  by_cases h12:12<c.ops.length
  ·have e:comFault c=⟨2,-1⟩:=by rw[comFault,if_neg hg,if_pos (by omega)]
   try simp only[aQ]
   refine Zp ([zR 0,.rd 1 [.o 0 none] 0 0,.rd 2 [] 0 7,zR 3,zR 4,.rd 5 [.o 0 none] 0 0,zR 6,.rd 7 [.o 0 none] 0 0,zR 8,.rd 9 [] 0 7]++Rds 10 13++[.rd 13 [.o 0 none] 0 0,zR 14,.rd 15 [.o 0 none] 0 0,.rd 16 [] 0 2,.rd 17 [.r 2 (some (nI t))] 0 0,.rd 18 [] 0 7]++Rds 19 22++[.rd 22 [.o 0 none] 0 0,zR 23,.rd 24 [] 0 6,zR 25]) [11,3] [zB 38 true] (oC (show decide (c.place<(0:Int))=false from by simp;omega) (oC (show decide (c.place≥(↑c.when.length:Int))=false from by simp;omega) (oC (show 0≤c.place from by omega) (oC (show c.place<(↑c.when.length:Int) from by omega) (oC hrd1_0 (oC (show(t==(0:Int))=false from by simp;omega) (oC (show decide ((↑c.ops.length:Int)>(12:Int))=true from by simp;omega) oN))))))) ?_
   refine cTt ?_
   refine Zt [.rd 0 [.r 0 (some (.iface 390 (.pointer (some (er 2)))))] 0 0,zR 1] [38] [zV 2 (.iface 390 (.pointer (some (er 2))))] (oC hglob1 oN) ?_
   refine Yr [[]] (.iface 390 (.pointer (some (er 2)))) fun a w s=>?_
   rw[e]
   exact .inl ⟨rfl,_,s.ret (by simp) [] [] rfl rfl,.inr ⟨by decide,rfl⟩⟩
  have hb2:¬(c.place<0∨c.when.length≤c.place∨12<c.ops.length):=by omega
  try simp only[aQ]
  refine Zp ([zR 0,.rd 1 [.o 0 none] 0 0,.rd 2 [] 0 7,zR 3,zR 4,.rd 5 [.o 0 none] 0 0,zR 6,.rd 7 [.o 0 none] 0 0,zR 8,.rd 9 [] 0 7]++Rds 10 13++[.rd 13 [.o 0 none] 0 0,zR 14,.rd 15 [.o 0 none] 0 0,.rd 16 [] 0 2,.rd 17 [.r 2 (some (nI t))] 0 0,.rd 18 [] 0 7]++Rds 19 22++[.rd 22 [.o 0 none] 0 0,zR 23,.rd 24 [] 0 7,zR 25]) [11,3] [zB 38 false] (oC (show decide (c.place<(0:Int))=false from by simp;omega) (oC (show decide (c.place≥(↑c.when.length:Int))=false from by simp;omega) (oC (show 0≤c.place from by omega) (oC (show c.place<(↑c.when.length:Int) from by omega) (oC hrd1_0 (oC (show(t==(0:Int))=false from by simp;omega) (oC (show decide ((↑c.ops.length:Int)>(12:Int))=false from by simp;omega) oN))))))) ?_
  refine cF ?_
  refine J_skip (J_seq ?_)
  refine Zs [zR 0,.rd 1 [.o 0 none] 0 0,zR 2,zR 3] [38] [zB 43 ((↑c.ops.length:Int)==0)] ?_
  refine cC (t:=(↑c.ops.length:Int)==0) (fun hz=>?_) (fun hz=>?_)
  ·have e:comFault c=⟨3,-1⟩:=by rw[comFault,if_neg hg,if_neg hb2,if_neg h00,if_pos (by simp at hz;simp[hz])]
   refine Zt [.rd 0 [.r 1 (some (.iface 390 (.pointer (some (er 3)))))] 0 0,zR 1] [43] [zV 2 (.iface 390 (.pointer (some (er 3))))] (oC hglob2 oN) ?_
   refine Yr [[]] (.iface 390 (.pointer (some (er 3)))) fun a w s=>?_
   rw[e]
   exact .inl ⟨rfl,_,s.ret (by simp) [] [] rfl rfl,.inr ⟨by decide,rfl⟩⟩
  have hz2:¬c.ops.length=0:=by simp at hz;simp[hz]
  have e:comFault c=opsFault c.ops c.when.length c.ops.length 0:=by rw[comFault,if_neg hg,if_neg hb2,if_neg h00,if_neg hz2]
  rw[e]
  refine J_skip (J_seq ?_)
  refine Zs [zR 0,.rd 1 [.o 0 none] 0 0,zR 2,zR 3] [43] [zS 46 a2 c.ops.length c2,zI 47 (↑c.ops.length:Int),zI 48 0] ?_
  refine J_block ?_
  refine J_loopx (fun i:Int=>[zP 1 (nu1 0),zV 2 .nilIface,zS 46 a2 c.ops.length c2,zI 47 (↑c.ops.length:Int),zI 48 i]) (fun i:Int=>[(nu1 0,.cells #[.slice (sA b1 off1) c.when.length c1,nI c.place,.slice a2 c.ops.length c2] 35 (0,0))]) (fun i:Int=>[]) (fun i:Int=>[(.nilIface,(dC er eb)),(.slice (sA b1 off1) c.when.length c1,(dInts c.when)),(.slice a2 c.ops.length c2,(D.sl 7 (List.map eOp c.ops))),(.pointer (sA 0 0),(D.ptr [D.v (Value.iface 390 (Value.pointer (some (er 2))))])),(.pointer (sA 1 0),(D.ptr [D.v (Value.iface 390 (Value.pointer (some (er 3))))]))]) (fun i:Int=>(c.ops.length - i).toNat) (fun i:Int=>(0≤i∧i≤c.ops.length∧∀j:Nat,0≤j→j<i.toNat→opErrAt c.ops c.when.length j=0)) 0 [1,2,46,47,48] [0] [] [0,1,2,3,4] ?_ (by kernel_rfl) rfl rfl rfl ?_
  ·exact⟨by simp,by omega,by simp⟩
  rintro i ⟨hi0,hi,hno⟩
  refine Zs [zR 0] [] [zB 49 (decide (i<(↑c.ops.length:Int)))] ?_
  refine J_seq ?_
  refine cC (t:=decide (i<(↑c.ops.length:Int))) (fun hlt=>?_) (fun hlt=>?_)
  ·have hlt2:i<c.ops.length:=by simpa using hlt
   obtain⟨o,ho⟩:∃o,c.ops[i.toNat]?=some o:=⟨_,List.getElem?_eq_getElem (by omega)⟩
   have hit:∀k:Nat,opErrAt c.ops c.when.length i.toNat=k→k≠0→opsFault c.ops c.when.length c.ops.length 0=⟨k,i⟩:=fun k hk h0=>by
    rw[(opsFault_from c.ops.length 0 i.toNat (Nat.zero_le _) hno).2 (by omega) (by rw[hk];exact h0),hk]
    congr 1
    omega
   have next:opErrAt c.ops c.when.length i.toNat=0→0≤i+1∧i+1≤c.ops.length∧∀j:Nat,0≤j→j<(i+1).toNat→opErrAt c.ops c.when.length j=0:=fun h=>⟨by omega,by omega,fun j h0 hj=>by
    by_cases hji:j=i.toNat
    ·rw[hji];exact h
    ·exact hno j h0 (by omega)⟩
   refine J_glob 4 rfl (fun csg3 tyg3 fzg3 hglob3=>?_)
   refine J_read1 2 rfl i.toNat (map_at ho) (by kernel_rfl) (fun b2 off2 cs2 ty2 fz2 a2_0 c2_0 ha2 hrd2=>?_)
   cases ha2
   have hrd2_0:=rd0 (hrd2 0 _ rfl)
   have hrd2_1:=hrd2 1 _ rfl
   have hrd2_2:=hrd2 2 _ rfl
   have hrd2_3:=hrd2 3 _ rfl
   have hrd2_4:=hrd2 4 _ rfl
   have hrd2_5:=hrd2 5 _ rfl
   have hrd2_6:=hrd2 6 _ rfl
   by_cases hi1:i=0
   ·have hz0:i.toNat=0:=by omega
    try simp only[aQ]
    refine J_skip (J_seq (J_block ?_))
    refine Zu [zR 0,.rd 1 [] 0 2,.rd 2 [.r 4 (some (nI o.no)),.r 4 (some (.string o.key)),.r 4 (some (nI o.kind)),.r 4 (some (.string o.text)),.r 4 (some (nI o.n)),.r 4 (some (.bool o.remove)),.r 4 (some (.slice (a2_0,c2_0).fst ((List.map eDot o.dots).length) c2_0))] 0 0,.wr 3 [] 0,zR 4,.wr 5 (hnO 1 7) 0] [(5,[])] [49] (fun nu2=>[zI 4 i,zP 5 (nu2 0)]) o0 (fun nu2=>[(nu2 0,.cells #[nI o.no,.string o.key,nI o.kind,.string o.text,nI o.n,.bool o.remove,.slice (a2_0,c2_0).fst ((List.map eDot o.dots).length) c2_0] 55 (0,0))]) (fun nu2=>(oC hi0 (oC hlt2 (oC hrd2_0 (oC hrd2_1 (oC hrd2_2 (oC hrd2_3 (oC hrd2_4 (oC hrd2_5 (oC hrd2_6 oN)))))))))) (fun nu2=>?_)
    refine jS [(0,true),(1,true),(2,true),(3,true),(4,false),(5,true)] [] ?_
    refine Ya [.rd 0 (hnO 1 7) 0 0,zR 1,.rd 2 [.o 0 none] 0 0,zR 3] [] [zV 53 (.agg #[nI o.no,.string o.key,nI o.kind,.string o.text,nI o.n,.bool o.remove,.slice (a2_0,c2_0).fst ((List.map eDot o.dots).length) c2_0]),zI 56 (↑c.when.length:Int)] ?_
    refine Yc 144 #[.agg #[nI o.no,.string o.key,nI o.kind,.string o.text,nI o.n,.bool o.remove,.slice (a2_0,c2_0).fst ((List.map eDot o.dots).length) c2_0],nI (↑c.when.length:Int)] (some 57) fun w S hG=>?_
    refine(vCheckOp (o:=o) (hG.at 0 rfl) (hG.at 5 rfl)).mono ?_
    rintro e1 w1 ⟨v,hR,hv⟩
    refine⟨_,_,_,hR,?_⟩
    obtain⟨he,rfl⟩|⟨he,rfl⟩:=hv
    ·try simp only[aQ]
     refine Ya [zR 5] [57,53,56] [zV 6 .nilIface] ?_
     refine JR_end (J_seq ?_)
     refine Zt (Rds 0 4++[.rd 4 [] 0 7,zR 5,zR 6,.rd 7 [] 1 0,.rd 8 [] 1 0,.rd 9 [] 1 0,.rd 10 [] 1 0,.rd 11 [] 1 0,.rd 12 [] 1 0,.rd 13 [] 1 0,.rd 14 [] 1 0,.rd 15 [] 1 0,.rd 16 [] 1 0,zR 17]) [] [zB 75 false] (oC (show decide (i>(0:Int))=false from by simp;omega) oN) ?_
     refine cF ?_
     refine J_skip ?_
     refine Zs [zR 0,zR 1] [75] [zB 78 false] ?_
     refine cF ?_
     refine J_skip (J_eb ?_)
     refine Zp [.rd 0 [] 0 1,zR 1] [78] [zI 48 (i+1)] (oC (show IntKind.i64.wrap (i+1)=i+1 from wrap_i64 (by omega) (by omega)) oN) ?_
     refine J_backx (i+1) [1,2,46,47,48] [0] [] [0,1,2,3,4] ?_ ?_ (by kernel_rfl) rfl rfl rfl
     ·exact next (by rw[hz0]at ho ⊢;exact opErrAt_first ho he)
     ·omega
    ·try simp only[aQ]
     refine Ya [zR 5] [57,53,56] [zV 6 (.iface 390 (.pointer (some (er (opErr o (↑c.when.length:Int))))))] ?_
     refine JR_end (J_seq ?_)
     refine Zs (Rds 0 3++[.rd 3 [] 1 0,.rd 4 [] 1 0,zR 5,zR 6,.rd 7 [] 1 0,.rd 8 [] 1 0,.rd 9 [] 1 0,.rd 10 [] 1 0,.rd 11 [] 1 0,.rd 12 [] 1 0,.rd 13 [] 1 0,.rd 14 [] 1 0,.rd 15 [] 1 0,.rd 16 [] 1 0,zR 17]) [] [zB 75 false] ?_
     refine cF ?_
     refine J_skip ?_
     refine Zs [zR 0,zR 1] [75] [zB 78 true] ?_
     refine cTt ?_
     refine Zv (Rds 0 3++[.wr 3 [] 0,zR 4,zR 5]) [] [78] (fun nu3=>[zV 2 (.iface 202 (.pointer (sA (nu3 0) 0)))]) o0 (fun nu3=>[(nu3 0,.cells #[nI i,.iface 390 (.pointer (some (er (opErr o (↑c.when.length:Int)))))] 204 (0,0))]) (fun nu3=>?_)
     refine Yr [[]] (.iface 202 (.pointer (sA (nu3 0) 0))) fun a w s=>?_
     rw[hit _ (opErrAt_own ho he) he]
     exact .inr ⟨by simp only;omega,hi0,_,((s.share 2 rfl).stp (stp_fact fun w S H=>ptr_of_obj rfl rfl (H (_,_) (List.mem_of_getElem? (i:=6) rfl)))).ret (by simp) [] [7] rfl rfl⟩
   ·obtain⟨q,hq⟩:∃q,c.ops[(i - 1).toNat]?=some q:=⟨_,List.getElem?_eq_getElem (by omega)⟩
    have hii:i.toNat=(i - 1).toNat+1:=by omega
    refine J_again1 2 rfl 4 rfl ((i - 1).toNat) (map_at hq) (by kernel_rfl) (fun a3_0 c3_0 hrd3=>?_)
    have hrd3_0:=rd0 (hrd3 0 _ rfl)
    have hrd3_1:=hrd3 1 _ rfl
    have hrd3_2:=hrd3 2 _ rfl
    have hrd3_3:=hrd3 3 _ rfl
    have hrd3_4:=hrd3 4 _ rfl
    have hrd3_5:=hrd3 5 _ rfl
    have hrd3_6:=hrd3 6 _ rfl
    try simp only[aQ]
    refine J_skip (J_seq (J_block ?_))
    refine Zu [zR 0,.rd 1 [] 0 2,.rd 2 [.r 4 (some (nI o.no)),.r 4 (some (.string o.key)),.r 4 (some (nI o.kind)),.r 4 (some (.string o.text)),.r 4 (some (nI o.n)),.r 4 (some (.bool o.remove)),.r 4 (some (.slice (a2_0,c2_0).fst ((List.map eDot o.dots).length) c2_0))] 0 0,.wr 3 [] 0,zR 4,.wr 5 (hnO 1 7) 0] [(5,[])] [49] (fun nu2=>[zI 4 i,zP 5 (nu2 0)]) o0 (fun nu2=>[(nu2 0,.cells #[nI o.no,.string o.key,nI o.kind,.string o.text,nI o.n,.bool o.remove,.slice (a2_0,c2_0).fst ((List.map eDot o.dots).length) c2_0] 55 (0,0))]) (fun nu2=>(oC hi0 (oC hlt2 (oC hrd2_0 (oC hrd2_1 (oC hrd2_2 (oC hrd2_3 (oC hrd2_4 (oC hrd2_5 (oC hrd2_6 oN)))))))))) (fun nu2=>?_)
    refine jS [(0,true),(1,true),(2,true),(3,true),(4,false),(5,true)] [] ?_
    refine Ya [.rd 0 (hnO 1 7) 0 0,zR 1,.rd 2 [.o 0 none] 0 0,zR 3] [] [zV 53 (.agg #[nI o.no,.string o.key,nI o.kind,.string o.text,nI o.n,.bool o.remove,.slice (a2_0,c2_0).fst ((List.map eDot o.dots).length) c2_0]),zI 56 (↑c.when.length:Int)] ?_
    refine Yc 144 #[.agg #[nI o.no,.string o.key,nI o.kind,.string o.text,nI o.n,.bool o.remove,.slice (a2_0,c2_0).fst ((List.map eDot o.dots).length) c2_0],nI (↑c.when.length:Int)] (some 57) fun w S hG=>?_
    refine(vCheckOp (o:=o) (hG.at 0 rfl) (hG.at 5 rfl)).mono ?_
    rintro e1 w1 ⟨v,hR,hv⟩
    refine⟨_,_,_,hR,?_⟩
    obtain⟨he,rfl⟩|⟨he,rfl⟩:=hv
    ·have hn:=opErrAt_next (p:=c.when.length) (by rw[←hii];exact ho) hq he
     rw[←hii]at hn
     by_cases hno2:o.no≤q.no
     ·rw[if_pos hno2]at hn
      try simp only[aQ]
      refine Ya [zR 5] [57,53,56] [zV 6 .nilIface] ?_
      refine JR_end (J_seq ?_)
      refine Zt (Rds 0 4++[.rd 4 [] 0 6]++Rds 5 8++[.rd 8 [.o 1 none] 0 0,zR 9,.rd 10 [.o 0 none] 0 0,zR 11,.rd 12 [] 0 1,.rd 13 [] 0 2,zR 14,.rd 15 [.r 4 (some (nI q.no))] 0 0,.rd 16 [] 0 6,zR 17]) [] [zB 75 true] (oC (show decide (i>(0:Int))=true from by simp;omega) (oC (show IntKind.i64.wrap (i - 1)=i - 1 from wrap_i64 (by omega) (by omega)) (oC (show 0≤i - 1 from by omega) (oC (show i - 1<(↑c.ops.length:Int) from by omega) (oC hrd3_0 (oC (show decide (o.no≤q.no)=true from by simp;omega) oN)))))) ?_
      refine cTt ?_
      refine Zp [.rd 0 [.r 1 (some (.iface 390 (.pointer (some (er 3)))))] 0 0,zR 1] [75] [zV 6 (.iface 390 (.pointer (some (er 3))))] (oC hglob2 oN) ?_
      refine Zs [zR 0,zR 1] [] [zB 78 true] ?_
      refine cTt ?_
      refine Zv (Rds 0 3++[.wr 3 [] 0,zR 4,zR 5]) [] [78] (fun nu3=>[zV 2 (.iface 202 (.pointer (sA (nu3 0) 0)))]) o0 (fun nu3=>[(nu3 0,.cells #[nI i,.iface 390 (.pointer (some (er 3)))] 204 (0,0))]) (fun nu3=>?_)
      refine Yr [[]] (.iface 202 (.pointer (sA (nu3 0) 0))) fun a w s=>?_
      rw[hit _ hn (by decide)]
      exact .inr ⟨by simp only;omega,hi0,_,((s.share 2 rfl).stp (stp_fact fun w S H=>ptr_of_obj rfl rfl (H (_,_) (List.mem_of_getElem? (i:=7) rfl)))).ret (by simp) [] [8] rfl rfl⟩
     ·rw[if_neg hno2]at hn
      try simp only[aQ]
      refine Ya [zR 5] [57,53,56] [zV 6 .nilIface] ?_
      refine JR_end (J_seq ?_)
      refine Zt (Rds 0 4++[.rd 4 [] 0 6]++Rds 5 8++[.rd 8 [.o 1 none] 0 0,zR 9,.rd 10 [.o 0 none] 0 0,zR 11,.rd 12 [] 0 1,.rd 13 [] 0 2,zR 14,.rd 15 [.r 4 (some (nI q.no))] 0 0,.rd 16 [] 0 7,zR 17]) [] [zB 75 false] (oC (show decide (i>(0:Int))=true from by simp;omega) (oC (show IntKind.i64.wrap (i - 1)=i - 1 from wrap_i64 (by omega) (by omega)) (oC (show 0≤i - 1 from by omega) (oC (show i - 1<(↑c.ops.length:Int) from by omega) (oC hrd3_0 (oC (show decide (o.no≤q.no)=false from by simp;omega) oN)))))) ?_
      refine cF ?_
      refine J_skip ?_
      refine Zs [zR 0,zR 1] [75] [zB 78 false] ?_
      refine cF ?_
      refine J_skip (J_eb ?_)
      refine Zp [.rd 0 [] 0 1,zR 1] [78] [zI 48 (i+1)] (oC (show IntKind.i64.wrap (i+1)=i+1 from wrap_i64 (by omega) (by omega)) oN) ?_
      refine J_backx (i+1) [1,2,46,47,48] [0] [] [0,1,2,3,4] ?_ ?_ (by kernel_rfl) rfl rfl rfl
      ·exact next hn
      ·omega
    ·try simp only[aQ]
     refine Ya [zR 5] [57,53,56] [zV 6 (.iface 390 (.pointer (some (er (opErr o (↑c.when.length:Int))))))] ?_
     refine JR_end (J_seq ?_)
     refine Zs (Rds 0 3++[.rd 3 [] 1 0,.rd 4 [] 1 0,zR 5,zR 6,.rd 7 [] 1 0,.rd 8 [] 1 0,.rd 9 [] 1 0,.rd 10 [] 1 0,.rd 11 [] 1 0,.rd 12 [] 1 0,.rd 13 [] 1 0,.rd 14 [] 1 0,.rd 15 [] 1 0,.rd 16 [] 1 0,zR 17]) [] [zB 75 false] ?_
     refine cF ?_
     refine J_skip ?_
     refine Zs [zR 0,zR 1] [75] [zB 78 true] ?_
     refine cTt ?_
     refine Zv (Rds 0 3++[.wr 3 [] 0,zR 4,zR 5]) [] [78] (fun nu3=>[zV 2 (.iface 202 (.pointer (sA (nu3 0) 0)))]) o0 (fun nu3=>[(nu3 0,.cells #[nI i,.iface 390 (.pointer (some (er (opErr o (↑c.when.length:Int)))))] 204 (0,0))]) (fun nu3=>?_)
     refine Yr [[]] (.iface 202 (.pointer (sA (nu3 0) 0))) fun a w s=>?_
     rw[hit _ (opErrAt_own ho he) he]
     exact .inr ⟨by simp only;omega,hi0,_,((s.share 2 rfl).stp (stp_fact fun w S H=>ptr_of_obj rfl rfl (H (_,_) (List.mem_of_getElem? (i:=7) rfl)))).ret (by simp) [] [8] rfl rfl⟩
  ·have hend:i.toNat=0+c.ops.length:=by simp at hlt;omega
   rw[(opsFault_from c.ops.length 0 i.toNat (Nat.zero_le _) hno).1 hend]
   refine J_exit rfl ?_
   refine Zs [zR 0] [49,1,46,47,48] [] ?_
   refine Yr [[]] (.nilIface) fun a w s=>?_
   exact .inl ⟨rfl,_,s.ret (by simp) [] [] rfl rfl,.inl ⟨rfl,rfl⟩⟩
 ·have e:comFault c=⟨vecErr c.when,-1⟩:=by rw[comFault,if_pos hv0]
  try simp only[aQ]
  refine Ya [zR 3] [9,8] [zV 3 (.iface 390 (.pointer (some (er (vecErr c.when)))))] ?_
  refine JR_end ?_
  refine Zs [zR 0,zR 1] [] [zB 11 true] ?_
  refine cTt ?_
  refine Zs [zR 0,zR 1] [11,3] [zV 2 (.iface 390 (.pointer (some (er (vecErr c.when)))))] ?_
  refine Yr [[]] (.iface 390 (.pointer (some (er (vecErr c.when))))) fun a w s=>?_
  rw[e]
  exact .inl ⟨rfl,_,s.ret (by simp) [] [] rfl rfl,.inr ⟨hv0,rfl⟩⟩
end Go.Proofs.YtmkapocibaojdaaGreatDoor
end
section
namespace Go.Proofs.YtmkapocibaojdaaGreatDoor
open Go Go.Sx
set_option maxHeartbeats 4000000 in
theorem asNil {w:World} {S:Nat→Prop} {t:Addr}:Calls Tryz.prog 123 #[.nilIface,.iface 229 (.pointer (some t))] w fun e w'=>Ret [] w S w' e (.bool false) [] []:=by
 refine epG Tryz.func123 bd123 (args:=[.nilIface,.iface 229 (.pointer (some t))]) (S:=S) (G:=[]) (by kernel_rfl) (.nil _ _) ?_
 refine Zs [zR 0] [] [zB 4 false] ?_
 refine J_seq ?_
 refine Zs [zR 0,zR 1] [] [zB 9 true] ?_
 refine cTt ?_
 refine Zs [zR 0] [9] [] ?_
 refine Yr [[]] (.bool false) fun a w s=>?_
 exact s.ret (by simp) [] [] rfl rfl
set_option maxHeartbeats 4000000 in
theorem bareE {w:World} {S:Nat→Prop} {er:Nat→Addr} {eb:Nat→Array Value×TypeId} {k:Nat} {v:Value} (hC:Rep w S .nilIface (dC er eb)) (hv:ErrIs 390 er k v) :
  Calls Tryz.prog 164 #[v] w fun e w'=>Ret [] w S w' e v [] []:=by
 rcases hv with ⟨rfl,rfl⟩|⟨h0,rfl⟩
 ·refine epG Tryz.func164 bd164 (args:=[.nilIface]) (G:=[(_,dC er eb)]) (by kernel_rfl) (.cons hC (.nil _ _)) ?_
  refine Zs [zR 0] [] [zV 2 .nilIface] ?_
  refine Zv [.wr 0 [] 0] [] [] (fun nu1=>[zP 3 (nu1 0)]) o0 (fun nu1=>[(nu1 0,.cells #[.pointer none] 202 (0,0))]) (fun nu1=>?_)
  refine J_seq ?_
  refine jS [(0,true),(1,true),(2,false)] [] ?_
  refine Ya [zR 0,zR 1] [] [zV 4 .nilIface,zV 5 (.iface 229 (.pointer (sA (nu1 0) 0)))] ?_
  refine Yc 123 #[.nilIface,.iface 229 (.pointer (sA (nu1 0) 0))] (some 6) fun w S hG=>?_
  refine(asNil (S:=S)).mono ?_
  rintro e1 w1 hR
  refine⟨_,_,_,hR,?_⟩
  try simp only[aQ]
  refine JR_end ?_
  refine cF ?_
  refine J_skip ?_
  refine Zs [zR 0,zR 1] [6,4,5,3,0] [] ?_
  refine Yr [[]] (.nilIface) fun a w s=>?_
  exact s.ret (by simp) [] [] rfl rfl
 ·refine epG Tryz.func164 bd164 (args:=[.iface 390 (.pointer (some (er k)))]) (G:=[(_,dC er eb)]) (by kernel_rfl) (.cons hC (.nil _ _)) ?_
  refine Zs [zR 0] [] [zV 2 .nilIface] ?_
  refine Zv [.wr 0 [] 0] [] [] (fun nu1=>[zP 3 (nu1 0)]) o0 (fun nu1=>[(nu1 0,.cells #[.pointer none] 202 (0,0))]) (fun nu1=>?_)
  refine J_seq ?_
  refine jS [(0,true),(1,true),(2,false)] [] ?_
  refine Ya [zR 0,zR 1] [] [zV 4 (.iface 390 (.pointer (some (er k)))),zV 5 (.iface 229 (.pointer (sA (nu1 0) 0)))] ?_
  refine Yc 123 #[.iface 390 (.pointer (some (er k))),.iface 229 (.pointer (sA (nu1 0) 0))] (some 6) fun w S hG=>?_
  refine(asMiss (hG.at 0 rfl)).mono ?_
  rintro e1 w1 hR
  refine⟨_,_,_,hR,?_⟩
  try simp only[aQ]
  refine JR_end ?_
  refine cF ?_
  refine J_skip ?_
  refine Zs [zR 0,zR 1] [6,4,5,3,0] [zV 2 (.iface 390 (.pointer (some (er k))))] ?_
  refine Yr [[]] (.iface 390 (.pointer (some (er k)))) fun a w s=>?_
  exact s.ret (by simp) [] [] rfl rfl
set_option maxHeartbeats 4000000 in
theorem bareF {w:World} {S:Nat→Prop} {er:Nat→Addr} {eb:Nat→Array Value×TypeId} {k pb:Nat} {at':Int} (hC:Rep w S .nilIface (dC er eb)) (hp:Rep w S (.pointer (some ⟨pb,0,none⟩)) (.ptr [.v (.int .i64 at'),.v (.iface 390 (.pointer (some (er k))))])) :
  Calls Tryz.prog 164 #[.iface 202 (.pointer (some ⟨pb,0,none⟩))] w fun e w'=>Ret [] w S w' e (.iface 390 (.pointer (some (er k)))) [] []:=by
 refine epG Tryz.func164 bd164 (args:=[.iface 202 (.pointer (some ⟨pb,0,none⟩))]) (G:=[(_,dC er eb),(_,.ptr [.v (.int .i64 at'),.v (.iface 390 (.pointer (some (er k))))])]) (by kernel_rfl) (.cons hC (.cons hp (.nil _ _))) ?_
 refine J_ptrl 1 rfl fun b off cs e fz ls he hl hc=>?_
 cases he
 obtain rfl:ls=[]:=List.eq_nil_of_length_eq_zero hl
 have hc1:cs[0+1]?=some (.iface 390 (.pointer (some (er k)))):=hc 1 _ rfl
 try simp only[aQ]
 refine Zs [zR 0] [] [zV 2 .nilIface] ?_
 refine Zv [.wr 0 [] 0] [] [] (fun nu1=>[zP 3 (nu1 0)]) o0 (fun nu1=>[(nu1 0,.cells #[.pointer none] 202 (0,0))]) (fun nu1=>?_)
 refine J_seq (J_seq ?_)
 refine J_hide 0 rfl ?_
 try simp only[aQ]
 refine jT [(0,true),(1,true),(2,false)] [] ?_
 refine Ya [zR 0,zR 1] [] [zV 4 (.iface 202 (.pointer (sA pb 0))),zV 5 (.iface 229 (.pointer (sA (nu1 0) 0)))] ?_
 refine JR_call [] [0] 123 #[.iface 202 (.pointer (some (⟨pb,0,none⟩))),.iface 229 (.pointer (some (⟨nu1 0,0,none⟩)))] (some 6) (by kernel_rfl) (by kernel_rfl) (by decide) (fun w S M hP hG _=>?_)
 refine(asHit (hG.at 0 rfl) hP).mono ?_
 rintro e1 w1 hR
 refine⟨_,_,_,hR,?_⟩
 try simp only[aQ]
 refine JR_end ?_
 try simp only[aQ]
 refine cTt ?_
 try simp only[aQ]
 refine J_seq ?_
 try simp only[aQ]
 refine J_show 0 rfl ?_
 refine Zp [.rd 0 [.o 0 none] 0 0,zR 1,zR 2,.rd 3 [.r 0 (some (.iface 390 (.pointer (some (er k)))))] 0 0,zR 4] [6,4,5,3] [zV 2 (.iface 390 (.pointer (some (er k))))] (oC hc1 oN) ?_
 refine Yr [[]] (.iface 390 (.pointer (some (er k)))) fun a w s=>?_
 exact s.ret (by simp) [] [] rfl rfl
end Go.Proofs.YtmkapocibaojdaaGreatDoor
end
section
namespace Go.Sx
open Go
theorem strEq (a b:ByteArray):(a.toList==b.toList)=decide (a=b):=by
 rw[ByteArray.toList_eq,ByteArray.toList_eq]
 by_cases h:a=b
 ·subst h;simp
 ·rw[decide_eq_false h]
  simp only[beq_eq_false_iff_ne,ne_eq]
  intro he
  apply h
  cases a;cases b
  simp only[ByteArray.mk.injEq]
  exact Array.toList_inj.1 he
def wsum (xs:List Int):Int:=xs.foldl (· + ·) 0
def cmpI (x y:Int):Int:=if x<y then -1 else if y<x then 1 else 0
def orL:List Int→Int
 | []=>0
 | x::l=>if x≠0 then x else orL l
theorem orL_none:∀{l:List Int},(∀(j:Nat) t,l[j]?=some t→t=0)→orL l=0
 | [],_=>rfl
 | x::l,h=>by
  have h0:=h 0 x rfl
  rw[orL,if_neg (by simp[h0])]
  exact orL_none fun j t ht=>h (j+1) t (by simpa using ht)
theorem orL_at:∀{l:List Int} {i:Nat} {x:Int},(∀j:Nat,j<i→∀t,l[j]?=some t→t=0)→l[i]?=some x→x≠0→orL l=x
 | [],_,_,_,h,_=>by simp at h
 | y::l,0,x,_,h,hx=>by
  simp only[List.getElem?_cons_zero,Option.some.injEq]at h
  subst h
  rw[orL,if_pos hx]
 | y::l,i+1,x,hz,h,hx=>by
  have h0:=hz 0 (by omega) y rfl
  rw[orL,if_neg (by simp[h0])]
  exact orL_at (i:=i) (fun j hj t ht=>hz (j+1) (by omega) t (by simpa using ht)) (by simpa using h) hx
def lexC:List Int→List Int→Int
 | x::xs,y::ys=>if cmpI x y≠0 then cmpI x y else lexC xs ys
 | _,_=>0
theorem cmpI_zero {x y:Int}:cmpI x y=0↔x=y:=by
 unfold cmpI
 split
 ·omega
 ·split <;> omega
theorem cmpI_neg {x y:Int}:cmpI x y<0↔x<y:=by
 unfold cmpI
 split
 ·omega
 ·split <;> omega
theorem lexC_self:∀xs:List Int,lexC xs xs=0
 | []=>rfl
 | x::xs=>by
  have h:cmpI x x=0:=cmpI_zero.2 rfl
  simp[lexC,h,lexC_self xs]
theorem lexC_neg {x y:Int} {xs ys:List Int}:lexC (x::xs) (y::ys)<0↔x<y∨(x=y∧lexC xs ys<0):=by
 rw[lexC]
 by_cases h:cmpI x y=0
 ·have:=cmpI_zero.1 h
  rw[if_neg (by simpa using h)]
  simp[this]
 ·have h2:x≠y:=fun he=>h (cmpI_zero.2 he)
  rw[if_pos h,cmpI_neg]
  simp[h2]
theorem lexC_tri:∀{xs ys:List Int},xs.length=ys.length→lexC xs ys<0∨xs=ys∨lexC ys xs<0
 | [],[],_=>.inr (.inl rfl)
 | x::xs,y::ys,hl=>by
  rw[lexC_neg,lexC_neg]
  rcases Int.lt_trichotomy x y with h|h|h
  ·exact .inl (.inl h)
  ·subst h
   rcases lexC_tri (xs:=xs) (ys:=ys) (by simpa using hl)with h|h|h
   ·exact .inl (.inr ⟨rfl,h⟩)
   ·subst h;exact .inr (.inl rfl)
   ·exact .inr (.inr (.inr ⟨rfl,h⟩))
  ·exact .inr (.inr (.inl h))
theorem lexC_trans:∀{xs ys zs:List Int},lexC xs ys<0→lexC ys zs<0→lexC xs zs<0
 | x::xs,y::ys,z::zs,h1,h2=>by
  rw[lexC_neg]at h1 h2 ⊢
  rcases h1 with h1|⟨rfl,h1⟩ <;> rcases h2 with h2|⟨rfl,h2⟩
  ·exact .inl (Int.lt_trans h1 h2)
  ·exact .inl h1
  ·exact .inl h2
  ·exact .inr ⟨rfl,lexC_trans h1 h2⟩
 | [],_,_,h1,_=>by simp[lexC]at h1
 | _::_,[],_,h1,_=>by simp[lexC]at h1
 | _::_,_::_,[],_,h2=>by simp[lexC]at h2
theorem lexC_asymm {xs ys:List Int} (h1:lexC xs ys<0) (h2:lexC ys xs<0):False:=by
 have:=lexC_trans h1 h2
 rw[lexC_self]at this
 omega
structure DoneT where
 o:OpT
 d:DotT
 w:Int
abbrev eDone (x:DoneT):List D:=[dI x.o.no,.v (.string x.o.key),dI x.o.kind,.v (.string x.o.text),dI x.o.n,.v (.bool x.o.remove),.sl 3 (x.o.dots.map eDot),dI x.d.place,dI x.d.time,dI x.d.no,dI x.w]
def dotOf (c:ComT) (o:OpT):DotT:=⟨c.place,c.when.getD c.place.toNat 0,o.no⟩
def doneOf (c:ComT) (o:OpT):DoneT:=⟨o,dotOf c o,wsum c.when⟩
def allDone (l:List ComT):List DoneT:=l.flatMap fun c=>c.ops.map (doneOf c)
def firsts:List DotT→List DoneT→List DoneT
 | _,[]=>[]
 | s,x::r=>if x.d∈s then firsts s r else x::firsts (x.d::s) r
theorem firsts_snoc:∀{s:List DotT} {l:List DoneT} {x:DoneT},firsts s (l++[x])=firsts s l++if x.d∈s∨x.d∈l.map (·.d)then []else [x]
 | s,[],x=>by simp[firsts]
 | s,y::r,x=>by
  rw[List.cons_append,firsts,firsts]
  by_cases hy:y.d∈s
  ·rw[if_pos hy,if_pos hy,firsts_snoc]
   congr 1
   by_cases hx:x.d∈s
   ·simp[hx]
   ·by_cases he:x.d=y.d
    ·rw[he]at hx;exact absurd hy hx
    ·simp[hx,he]
  ·rw[if_neg hy,if_neg hy,firsts_snoc]
   simp[or_assoc,or_left_comm]
theorem firsts_sub {s:List DotT} {l:List DoneT} {x:DoneT} (h:x∈firsts s l):x∈l∧x.d∉s:=by
 induction l generalizing s with
 | nil=>simp[firsts]at h
 | cons y r ih=>
  unfold firsts at h
  split at h
  ·have:=ih h
   exact⟨.tail _ this.1,this.2⟩
  ·rename_i hy
   rcases List.mem_cons.1 h with rfl|h
   ·exact⟨.head _,hy⟩
   ·have:=ih h
    exact⟨.tail _ this.1,fun hc=>this.2 (.tail _ hc)⟩
theorem firsts_nodup {s:List DotT} {l:List DoneT}:((firsts s l).map (·.d)).Nodup:=by
 induction l generalizing s with
 | nil=>simp[firsts]
 | cons y r ih=>
  unfold firsts
  split
  ·exact ih
  ·rw[List.map_cons,List.nodup_cons]
   refine⟨fun hm=>?_,ih⟩
   obtain⟨x,hx,he⟩:=List.mem_map.1 hm
   exact(firsts_sub hx).2 (by rw[he];exact .head _)
theorem firsts_has {s:List DotT} {l:List DoneT} {x:DoneT} (h:x∈l) (hs:x.d∉s):∃y∈firsts s l,y.d=x.d:=by
 induction l generalizing s with
 | nil=>simp at h
 | cons y r ih=>
  unfold firsts
  rcases List.mem_cons.1 h with rfl|h
  ·rw[if_neg hs]
   exact⟨x,.head _,rfl⟩
  ·split
   ·exact ih h hs
   ·by_cases he:x.d=y.d
    ·exact⟨y,.head _,he.symm⟩
    ·obtain⟨z,hz,hzd⟩:=ih (s:=y.d::s) h (by simp[hs,he])
     exact⟨z,.tail _ hz,hzd⟩
def doneKey (x:DoneT):List Int:=[x.w,x.d.place,x.d.time,x.d.no]
def doneCmp (a b:DoneT):Int:=orL [cmpI a.w b.w,cmpI a.d.place b.d.place,cmpI a.d.time b.d.time,cmpI a.d.no b.d.no]
theorem doneCmp_eq (a b:DoneT):doneCmp a b=lexC (doneKey a) (doneKey b):=by
 simp[doneCmp,doneKey,lexC,orL]
def doneLt (a b:DoneT):Bool:=decide (doneCmp a b<0)
theorem doneLt_iff {a b:DoneT}:doneLt a b=true↔lexC (doneKey a) (doneKey b)<0:=by simp[doneLt,doneCmp_eq]
theorem doneKey_dot {a b:DoneT} (h:doneKey a=doneKey b):a.d=b.d:=by
 simp only[doneKey,List.cons.injEq,and_true]at h
 cases ha:a.d;cases hb:b.d
 simp_all
theorem doneLt_trans {a b c:DoneT} (h1:doneLt a b=true) (h2:doneLt b c=true):doneLt a c=true:=by
 rw[doneLt_iff]at *
 exact lexC_trans h1 h2
theorem doneLt_asymm {a b:DoneT} (h1:doneLt a b=true) (h2:doneLt b a=true):False:=by
 rw[doneLt_iff]at *
 exact lexC_asymm h1 h2
theorem doneLt_tri (a b:DoneT):doneLt a b=true∨doneKey a=doneKey b∨doneLt b a=true:=by
 rw[doneLt_iff,doneLt_iff]
 exact lexC_tri rfl
def sortDone (l:List DoneT):List DoneT:=l.mergeSort fun x y=>!doneLt y x
def opsRaw (key:ByteArray) (l:List ComT):List DoneT:=(firsts [] (allDone l)).filter fun x=>decide (x.o.key=key)
def opsOf (key:ByteArray) (l:List ComT):List DoneT:=sortDone (opsRaw key l)
def kindOf (l:List DoneT):Int:=match l with
 | []=>0
 | x::_=>x.o.kind
def kindL (l:List DoneT):List DoneT:=l.filter fun x=>decide (x.o.kind=kindOf l)
def ofKey (key:ByteArray) (l:List ComT):List DoneT:=kindL (opsOf key l)
def goneB (l:List DoneT) (t:ByteArray) (d:DotT):Bool:=l.any fun r=>r.o.remove&&(decide (r.o.text=t)&&decide (d∈r.o.dots))
def liveL (l:List DoneT):List DoneT:=l.filter fun a=>!a.o.remove&&!goneB l a.o.text a.d
def textDots (l:List DoneT) (t:ByteArray):List DotT:=((liveL l).filter fun a=>decide (a.o.text=t)).map (·.d)
def bLt (a b:ByteArray):Bool:=decide (a.toList<b.toList)
def enterB:List ByteArray→ByteArray→List ByteArray
 | [],s=>[s]
 | x::l,s=>if bLt x s then x::enterB l s else if x=s then x::l else s::x::l
def setOf (l:List ByteArray):List ByteArray:=l.foldl enterB []
structure ValT where
 kind:Int
 text:ByteArray
 n:Int
 set:List ByteArray
def lastText (l:List DoneT):ByteArray:=l.foldl (fun _ x=>x.o.text) (ByteArray.mk #[])
def sumN (l:List DoneT):Int:=l.foldl (fun s x=>s+x.o.n) 0
def valOf (key:ByteArray) (l:List ComT):ValT:=
 ⟨kindOf (opsOf key l),if kindOf (opsOf key l)=1 then lastText (ofKey key l)else ByteArray.mk #[],if kindOf (opsOf key l)=2 then sumN (ofKey key l)else 0,if kindOf (opsOf key l)=3 then setOf ((liveL (ofKey key l)).map (·.o.text))else []⟩
end Go.Sx
end
section
namespace Go.Proofs.YtmkapocibaojdaaGreatDoor
open Go Go.Sx
set_option maxHeartbeats 4000000 in
theorem isNaN {w:World} {S:Nat→Prop} {x:Int}:Calls Tryz.prog 219 #[.int .i64 x] w fun e w'=>Ret [] w S w' e (.bool false) [] []:=by
 refine epG Tryz.func219 bd219 (args:=[.int .i64 x]) (S:=S) (G:=[]) (by kernel_rfl) (.nil _ _) ?_
 refine Zs [zR 0] [] [zB 2 false] ?_
 refine Zs (Rds 0 4) [0] [zB 2 (x != x)] ?_
 refine Yr [[]] (.bool (x != x)) fun a w s=>?_
 have e1:false=!decide (x=x):=by simp
 rw[e1]
 exact s.ret (by simp) [] [] rfl rfl
set_option maxHeartbeats 4000000 in
theorem cmpC {w:World} {S:Nat→Prop} {x y:Int}:Calls Tryz.prog 199 #[.int .i64 x,.int .i64 y] w fun e w'=>Ret [] w S w' e (.int .i64 (cmpI x y)) [] []:=by
 refine epG Tryz.func199 bd199 (args:=[.int .i64 x,.int .i64 y]) (S:=S) (G:=[]) (by kernel_rfl) (.nil _ _) ?_
 refine Zs [zR 0] [] [zI 4 0] ?_
 refine jS [(0,true),(1,false),(2,true)] [] ?_
 refine Ya [zR 0] [] [zI 7 x] ?_
 refine Yc 219 #[nI x] (some 8) fun w S hG=>?_
 refine(isNaN (S:=S)).mono ?_
 rintro e1 w1 hR
 refine⟨_,_,_,hR,?_⟩
 try simp only[aQ]
 refine Ya [zR 2] [8,7] [zB 5 false] ?_
 refine JR_end ?_
 refine jS [(0,true),(1,false),(2,true)] [] ?_
 refine Ya [zR 0] [] [zI 9 y] ?_
 refine Yc 219 #[nI y] (some 10) fun w S hG=>?_
 refine(isNaN (S:=S)).mono ?_
 rintro e2 w2 hR
 refine⟨_,_,_,hR,?_⟩
 try simp only[aQ]
 refine Ya [zR 2] [10,9] [zB 6 false] ?_
 refine JR_end (J_seq ?_)
 refine Zs [zR 0] [5] [zB 11 false] ?_
 refine cF ?_
 refine J_skip (J_seq ?_)
 refine Zs [zR 0] [11,6] [zB 13 false] ?_
 refine cF ?_
 refine J_skip (J_seq ?_)
 refine Zs (Rds 0 3) [13] [zB 16 (decide (x<y))] ?_
 refine cC (t:=decide (x<y)) (fun h1=>?_) (fun h1=>?_)
 ·refine J_seq ?_
  refine Za [zR 0] [16] [zI 4 (-1)] ?_
  refine Yr [[]] (nI (-1)) fun a w s=>?_
  have e3:cmpI x y = -1:=by simp at h1;simp[cmpI,h1]
  rw[e3]
  exact s.ret (by simp) [] [] rfl rfl
 ·refine J_skip ?_
  refine J_seq ?_
  refine Zs (Rds 0 3) [16,0,1] [zB 19 (decide (x>y))] ?_
  refine cC (t:=decide (x>y)) (fun h2=>?_) (fun h2=>?_)
  ·refine J_seq ?_
   refine Za [zR 0] [19] [zI 4 1] ?_
   refine Yr [[]] (nI 1) fun a w s=>?_
   have e3:cmpI x y=1:=by simp at h1 h2;rw[cmpI,if_neg (by omega),if_pos (by omega)]
   rw[e3]
   exact s.ret (by simp) [] [] rfl rfl
  ·refine J_skip ?_
   refine Zs [zR 0] [19] [] ?_
   refine Yr [[]] (nI 0) fun a w s=>?_
   have e3:cmpI x y=0:=by simp at h1 h2;rw[cmpI,if_neg (by omega),if_neg (by omega)]
   rw[e3]
   exact s.ret (by simp) [] [] rfl rfl
set_option maxHeartbeats 4000000 in
theorem orC {w:World} {S:Nat→Prop} {a:Option Addr} {n c:Nat} {xs:List Int} (ha:Rep w S (.slice a n c) (dInts xs)) (hl:xs.length≤1000000) :
  Calls Tryz.prog 198 #[.slice a n c] w fun e w'=>Ret [] w S w' e (.int .i64 (orL xs)) [] []:=by
 obtain rfl:=rep_ints_len ha
 refine epG Tryz.func198 bd198 (args:=[.slice a xs.length c]) (G:=[(_,dInts xs)]) (by kernel_rfl) (.cons ha (.nil _ _)) ?_
 refine Zs [zR 0] [] [zI 2 0] ?_
 refine Zs [zR 0] [] [zI 3 0] ?_
 refine J_seq ?_
 refine Zs (Rds 0 3) [0] [zS 6 a xs.length c,zI 7 (↑xs.length:Int),zI 8 0] ?_
 refine J_block ?_
 refine J_loopx (fun i:Int=>[zI 2 0,zI 3 0,zS 6 a xs.length c,zI 7 (↑xs.length:Int),zI 8 i]) (fun i:Int=>[]) (fun i:Int=>[]) (fun i:Int=>[(.slice a xs.length c,(dInts xs))]) (fun i:Int=>(xs.length - i).toNat) (fun i:Int=>(0≤i∧i≤xs.length∧∀j:Nat,j<i.toNat→∀t,xs[j]?=some t→t=0)) 0 [2,3,6,7,8] [] [] [0] ?_ (by kernel_rfl) rfl rfl rfl ?_
 ·exact⟨by simp,by omega,by simp⟩
 rintro i ⟨hi0,hi,hno⟩
 refine Zs [zR 0] [] [zB 9 (decide (i<(↑xs.length:Int)))] ?_
 refine J_seq ?_
 refine cC (t:=decide (i<(↑xs.length:Int))) (fun hlt=>?_) (fun hlt=>?_)
 ·have hlt2:i<xs.length:=by simpa using hlt
  obtain⟨x,hx⟩:∃x,xs[i.toNat]?=some x:=⟨_,List.getElem?_eq_getElem (by omega)⟩
  refine J_read0 0 rfl i.toNat (map_at hx) (by kernel_rfl) (fun b1 off1 cs1 ty1 fz1 ha1 hrd1=>?_)
  cases ha1
  have hrd1_0:=rd0 (hrd1 0 _ rfl)
  try simp only[aQ]
  refine J_skip (J_seq (J_block ?_))
  refine Zt [.rd 0 [] 0 2,.rd 1 [.r 0 (some (nI x))] 0 0,zR 2] [9] [zI 5 x] (oC hi0 (oC hlt2 (oC hrd1_0 oN))) ?_
  refine Zs (Rds 0 3) [] [zB 14 (x != 0)] ?_
  refine cC (t:=x != 0) (fun hb=>?_) (fun hb=>?_)
  ·refine J_seq ?_
   refine Za [zR 0,zR 1] [14] [zI 2 x] ?_
   refine Yr [[]] (nI x) fun a w s=>?_
   rw[orL_at hno hx (by simpa using hb)]
   exact s.ret (by simp) [] [] rfl rfl
  ·refine J_skip ?_
   refine J_eb ?_
   refine Zp [.rd 0 [] 0 1,zR 1] [14] [zI 8 (i+1)] (oC (show IntKind.i64.wrap (i+1)=i+1 from wrap_i64 (by omega) (by omega)) oN) ?_
   refine J_backx (i+1) [2,3,6,7,8] [] [] [0] ?_ ?_ (by kernel_rfl) rfl rfl rfl
   ·refine⟨by omega,by omega,fun j hj t ht=>?_⟩
    by_cases hji:j=i.toNat
    ·subst hji
     rw[hx]at ht
     cases ht
     simpa using hb
    ·exact hno j (by omega) t ht
   ·omega
 ·refine J_exit rfl ?_
  refine Zs [zR 0,zR 1] [9,3,6,7,8] [] ?_
  refine Yr [[]] (nI 0) fun a w s=>?_
  rw[orL_none fun j t ht=>hno j (by have:=(List.getElem?_eq_some_iff.1 ht).1;simp at hlt;omega) t ht]
  exact s.ret (by simp) [] [] rfl rfl
end Go.Proofs.YtmkapocibaojdaaGreatDoor
namespace Go.Proofs.YtmkapocibaojdaaGreatDoor
open Go Go.Sx
abbrev doneA (x:DoneT) (v:Value):Value:=.agg #[.int .i64 x.o.no,.string x.o.key,.int .i64 x.o.kind,.string x.o.text,.int .i64 x.o.n,.bool x.o.remove,v,.int .i64 x.d.place,.int .i64 x.d.time,.int .i64 x.d.no,.int .i64 x.w]
abbrev dotV (d:DotT):Value:=.agg #[.int .i64 d.place,.int .i64 d.time,.int .i64 d.no]
set_option maxHeartbeats 4000000 in
theorem cmpDone {w:World} {S:Nat→Prop} {x y:DoneT} {v1 v2:Value} (o1:v1.oneCell'=true) (o2:v2.oneCell'=true):Calls Tryz.prog 197 #[doneA x v1,doneA y v2] w fun e w'=>Ret [] w S w' e (.int .i64 (doneCmp x y)) [] []:=by
 refine epG Tryz.func197 bd197 (args:=[doneA x v1,doneA y v2]) (S:=S) (G:=[]) (by kernel_rfl) (.nil _ _) ?_
 refine Zv [.wr 0 [] 0,.wr 1 [] 0,zR 2] [] [0,1] (fun nu1=>[zP 2 (nu1 0),zP 3 (nu1 1),zI 4 0]) o0 (fun nu1=>[(nu1 0,.cells #[nI x.o.no,.string x.o.key,nI x.o.kind,.string x.o.text,nI x.o.n,.bool x.o.remove,v1,nI x.d.place,nI x.d.time,nI x.d.no,nI x.w] 271 (0,0)),(nu1 1,.cells #[nI y.o.no,.string y.o.key,nI y.o.kind,.string y.o.text,nI y.o.n,.bool y.o.remove,v2,nI y.d.place,nI y.d.time,nI y.d.no,nI y.w] 271 (0,0))]) (fun nu1=>?_)
 refine jS [(0,true),(1,true),(2,true),(3,true),(5,true),(6,true),(7,true),(8,true),(9,true),(10,true),(12,true),(13,true),(14,true),(15,true),(16,true),(17,true),(19,true),(20,true),(21,true),(22,true),(23,true),(24,true),(4,false),(11,false),(18,false),(25,false),(26,false),(27,false),(28,true)] [] ?_
 refine Ya [zR 0,.rd 1 [.o 0 none] 0 0,zR 2,.rd 3 [.o 1 none] 0 0,zR 5,zR 6,.rd 7 [.o 0 none] 0 0,zR 8,zR 9,.rd 10 [.o 1 none] 0 0,zR 12,zR 13,.rd 14 [.o 0 none] 0 0,zR 15,zR 16,.rd 17 [.o 1 none] 0 0,zR 19,zR 20,.rd 21 [.o 0 none] 0 0,zR 22,zR 23,.rd 24 [.o 1 none] 0 0] [2,3] [zI 6 x.w,zI 8 y.w,zI 12 x.d.place,zI 15 y.d.place,zI 19 x.d.time,zI 22 y.d.time,zI 26 x.d.no,zI 29 y.d.no] ?_
 all_goals first|assumption|skip
 refine Yc 199 #[nI x.w,nI y.w] (some 9) fun w S hG=>?_
 refine(cmpC (S:=S)).mono ?_
 rintro e1 w1 hR
 refine⟨_,_,_,hR,?_⟩
 try simp only[aQ]
 refine Yc 199 #[nI x.d.place,nI y.d.place] (some 16) fun w S hG=>?_
 refine(cmpC (S:=S)).mono ?_
 rintro e2 w2 hR
 refine⟨_,_,_,hR,?_⟩
 try simp only[aQ]
 refine Yc 199 #[nI x.d.time,nI y.d.time] (some 23) fun w S hG=>?_
 refine(cmpC (S:=S)).mono ?_
 rintro e3 w3 hR
 refine⟨_,_,_,hR,?_⟩
 try simp only[aQ]
 refine Yc 199 #[nI x.d.no,nI y.d.no] (some 30) fun w S hG=>?_
 refine(cmpC (S:=S)).mono ?_
 rintro e4 w4 hR
 refine⟨_,_,_,hR,?_⟩
 try simp only[aQ]
 refine Ym [.wr 26 [] 0] [30,23,16,9,6,8,12,15,19,22,26,29] (fun nu2=>[zS 31 (sA (nu2 0) 0) 4 4]) o0 (fun nu2=>[(nu2 0,.cells #[nI (cmpI x.w y.w),nI (cmpI x.d.place y.d.place),nI (cmpI x.d.time y.d.time),nI (cmpI x.d.no y.d.no)] 3 (0,0))]) [] (fun nu2=>?_)
 refine JR_data (size:=1) 2 eI [cmpI x.w y.w,cmpI x.d.place y.d.place,cmpI x.d.time y.d.time,cmpI x.d.no y.d.no] 4 rfl (by kernel_rfl) (by decide) (by intro x _;rfl) (by simp) ⟨.inl ⟨rfl,rfl⟩,⟨.inl ⟨rfl,rfl⟩,⟨.inl ⟨rfl,rfl⟩,⟨.inl ⟨rfl,rfl⟩,trivial⟩⟩⟩⟩ ?_
 refine Yc 198 #[.slice (sA (nu2 0) 0) 4 4] (some 32) fun w S hG=>?_
 refine(orC (hG.at 0 rfl) (by simp)).mono ?_
 rintro e7 w7 hR
 refine⟨_,_,_,hR,?_⟩
 try simp only[aQ]
 refine Ya [zR 28] [32,31] [zI 4 (orL [cmpI x.w y.w,cmpI x.d.place y.d.place,cmpI x.d.time y.d.time,cmpI x.d.no y.d.no])] ?_
 refine JR_end ?_
 refine Yr [[]] (nI (orL [cmpI x.w y.w,cmpI x.d.place y.d.place,cmpI x.d.time y.d.time,cmpI x.d.no y.d.no])) fun a w s=>?_
 exact s.ret (by simp) [] [] rfl rfl
end Go.Proofs.YtmkapocibaojdaaGreatDoor
end
section
namespace Go.Proofs.YtmkapocibaojdaaGreatDoor
open Go Go.Sx Go.MapKept
def okDot (v:Value):Prop:=∃a b c:Int,v=.agg #[.int .i64 a,.int .i64 b,.int .i64 c]
theorem sameBits_dot (n:Nat) (a b c:Int):Instr.sameBits (n+2) (.agg #[.int .i64 a,.int .i64 b,.int .i64 c]) (.agg #[.int .i64 a,.int .i64 b,.int .i64 c])=true:=by
 simp[Instr.sameBits]
set_option maxHeartbeats 4000000 in
theorem checkKey_dot (e:Bool) (n:Nat) (a b c:Int) (w:World):(Instr.checkKey e (n+2) 177 (.agg #[.int .i64 a,.int .i64 b,.int .i64 c])).run Tryz.prog w=.ok () w:=by
 have hi:∀(x:Int) w,(Instr.checkKey e (n+1) 3 (.int .i64 x)).run Tryz.prog w=.ok () w:=fun x w=>run_checkKey Tryz.underlying3 (by simp[IsKey]) e n
 rw[Instr.checkKey]
 simp[run_underlying Tryz.underlying177,hi,partI Tryz.underlying3,Result.andThen]
theorem keyOk_9:KeyOk Tryz.prog 9 (IsKey .string):=.plain Tryz.underlying9
theorem keyOk_177:KeyOk Tryz.prog 177 okDot:=by
 refine .asking Tryz.underlying177 (fun x y _ _=>rfl) (fun e k hk w=>?_) (fun x y hx hy=>?_) fun k hk=>?_
 ·obtain⟨a,b,c,rfl⟩:=hk
  exact checkKey_dot e 9998 a b c w
 ·obtain⟨a,b,c,rfl⟩:=hx
  obtain⟨a',b',c',rfl⟩:=hy
  refine⟨decide (a=a'∧b=b'∧c=c'),fun w=>eqDot 9998 a b c a' b' c' w,?_⟩
  simp
 ·obtain⟨a,b,c,rfl⟩:=hk
  exact sameBits_dot 9998 a b c
end Go.Proofs.YtmkapocibaojdaaGreatDoor
namespace Go.Proofs.YtmkapocibaojdaaGreatDoor
open Go Go.Sx
def firstLen (l:List ComT):Nat:=match l with
 | []=>0
 | c::_=>c.when.length
def comErrAt (l:List ComT) (i:Nat):Nat:=match l[i]? with
 | none=>0
 | some c=>if (comFault c).code≠0 then (comFault c).code else if c.when.length≠firstLen l then 3 else 0
def scanF (f:Nat→Nat):Nat→Nat→FT
 | 0,_=>⟨0,-1⟩
 | n+1,i=>if f i=0 then scanF f n (i+1)else ⟨f i,i⟩
theorem scanF_from {f:Nat→Nat}:∀(n k i:Nat),k≤i→(∀j,k≤j→j<i→f j=0)→(i=k+n→scanF f n k=⟨0,-1⟩)∧(i<k+n→f i≠0→scanF f n k=⟨f i,i⟩)
 | 0,k,i,hk,_=>⟨fun _=>rfl,fun h=>by omega⟩
 | n+1,k,i,hk,h=>by
  rcases Nat.eq_or_lt_of_le hk with rfl|hlt
  ·refine⟨fun he=>by omega,fun _ hne=>?_⟩
   rw[scanF,if_neg hne]
  ·obtain⟨h1,h2⟩:=scanF_from n (k+1) i hlt fun j hj1 hj2=>h j (by omega) hj2
   rw[scanF,if_pos (h k (Nat.le_refl _) hlt)]
   exact⟨fun he=>h1 (by omega),fun he=>h2 (by omega)⟩
def listFault (l:List ComT):FT:=scanF (comErrAt l) l.length 0
def valFault (key:ByteArray) (l:List ComT):FT:=if nameOk key=false then ⟨4,-1⟩else listFault l
theorem listFault_at {l:List ComT} {i:Nat} {k:Nat} (h:∀j,j<i→comErrAt l j=0) (hi:i<l.length) (hk:comErrAt l i=k) (h0:k≠0):listFault l=⟨k,i⟩:=by
 rw[listFault,(scanF_from l.length 0 i (Nat.zero_le _) fun j _ hj=>h j hj).2 (by omega) (by rw[hk];exact h0),hk]
theorem listFault_none {l:List ComT} (h:∀j,j<l.length→comErrAt l j=0):listFault l=⟨0,-1⟩:=
 (scanF_from l.length 0 l.length (Nat.zero_le _) fun j _ hj=>h j hj).1 (by omega)
theorem listFault_zero {l:List ComT} (h:(listFault l).code=0):∀j,j<l.length→comErrAt l j=0:=by
 intro j
 induction j using Nat.strongRecOn with
 | ind j ih=>
  intro hj
  rcases Nat.eq_zero_or_pos (comErrAt l j)with h0|h0
  ·exact h0
  ·have:=listFault_at (fun i hi=>ih i hi (by omega)) hj rfl (by omega)
   rw[this]at h
   exact h
theorem comErrAt_own {l:List ComT} {i:Nat} {c:ComT} (h:l[i]?=some c) (he:(comFault c).code≠0):comErrAt l i=(comFault c).code:=by
 simp only[comErrAt,h,if_pos he]
theorem comErrAt_len {l:List ComT} {i:Nat} {c:ComT} (h:l[i]?=some c) (he:(comFault c).code=0) (hl:c.when.length≠firstLen l):comErrAt l i=3:=by
 simp only[comErrAt,h]
 rw[if_neg (by simp[he]),if_pos hl]
theorem comErrAt_fine {l:List ComT} {i:Nat} {c:ComT} (h:l[i]?=some c) (he:(comFault c).code=0) (hl:c.when.length=firstLen l):comErrAt l i=0:=by
 simp only[comErrAt,h]
 rw[if_neg (by simp[he]),if_neg (by simp[hl])]
theorem comErrAt_zero {l:List ComT} {i:Nat} {c:ComT} (h:l[i]?=some c) (he:comErrAt l i=0):(comFault c).code=0∧c.when.length=firstLen l:=by
 simp only[comErrAt,h]at he
 split at he
 ·exact absurd he ‹_›
 ·split at he
  ·cases he
  ·rename_i h1 h2
   exact⟨by simpa using h1,by simpa using h2⟩
structure Right (c:ComT):Prop where
 vec:vecErr c.when=0
 p0:0≤c.place
 p1:c.place<c.when.length
 t0:c.when[c.place.toNat]?≠some 0
 o1:1≤c.ops.length
 o2:c.ops.length≤12
 op:opsFault c.ops c.when.length c.ops.length 0=comFault c
theorem right_of {c:ComT} (h:(comFault c).code=0):Right c:=by
 have key:∀{n:Nat} {a:Int},comFault c=⟨n,a⟩→n≠0→False:=fun he h0=>by rw[he]at h;exact h0 h
 by_cases h1:vecErr c.when≠0
 ·exact(key (by rw[comFault,if_pos h1]) h1).elim
 ·by_cases h2:c.place<0∨c.when.length≤c.place∨12<c.ops.length
  ·exact(key (n:=2) (a:=-1) (by rw[comFault,if_neg h1,if_pos h2]) (by decide)).elim
  ·by_cases h3:c.when[c.place.toNat]?=some 0
   ·exact(key (n:=2) (a:=-1) (by rw[comFault,if_neg h1,if_neg h2,if_pos h3]) (by decide)).elim
   ·by_cases h4:c.ops.length=0
    ·exact(key (n:=3) (a:=-1) (by rw[comFault,if_neg h1,if_neg h2,if_neg h3,if_pos h4]) (by decide)).elim
    ·exact⟨by simpa using h1,by omega,by omega,h3,by omega,by omega,by rw[comFault,if_neg h1,if_neg h2,if_neg h3,if_neg h4]⟩
theorem rights {l:List ComT} {i:Nat} (h:∀j,j<i→comErrAt l j=0) (hi:i≤l.length):∀c∈l.take i,Right c:=fun c hc=>by
 obtain⟨j,hj⟩:=List.getElem?_of_mem hc
 rw[List.getElem?_take]at hj
 split at hj
 ·rename_i hji
  exact right_of (comErrAt_zero hj (h j hji)).1
 ·cases hj
theorem allDone_len {l:List ComT} (h:∀c∈l,Right c):(allDone l).length≤12*l.length:=by
 induction l with
 | nil=>simp[allDone]
 | cons c l ih=>
  have h1:=(h c (.head _)).o2
  have h2:=ih fun c hc=>h c (.tail _ hc)
  simp only[allDone,List.flatMap_cons,List.length_append,List.length_map,List.length_cons]at h2 ⊢
  omega
theorem firsts_len (s:List DotT) (l:List DoneT):(firsts s l).length≤l.length:=by
 induction l generalizing s with
 | nil=>simp[firsts]
 | cons x r ih=>
  unfold firsts
  split
  ·have:=ih s;simp;omega
  ·have:=ih (x.d::s);simp;omega
theorem allDone_snoc {l:List ComT} {i:Int} {c:ComT} (hi:0≤i) (hc:l[i.toNat]?=some c):allDone (l.take i.toNat)++c.ops.map (doneOf c)=allDone (l.take (i+1).toNat):=by
 rw[←take_snoc hi hc]
 simp[allDone]
def keyFirst (key:ByteArray) (p:List DoneT):List DoneT:=(firsts [] p).filter fun x=>decide (x.o.key=key)
theorem keyFirst_len (key:ByteArray) (p:List DoneT):(keyFirst key p).length≤p.length:=
 Nat.le_trans (List.length_filter_le _ _) (firsts_len _ _)
theorem keyFirst_snoc {key:ByteArray} {p:List DoneT} {x:DoneT}:keyFirst key (p++[x])=keyFirst key p++if x.d∉p.map (·.d)∧x.o.key=key then [x]else []:=by
 unfold keyFirst
 rw[firsts_snoc,List.filter_append]
 congr 1
 by_cases h1:x.d∈p.map (·.d)
 ·simp[h1]
 ·by_cases h2:x.o.key=key
  ·simp[h1,h2]
  ·simp[h1,h2]
theorem keyFirst_nodup (key:ByteArray) (p:List DoneT):((keyFirst key p).map (·.d)).Nodup:=
 (List.filter_sublist.map _).nodup firsts_nodup
open Classical in
noncomputable def dotSet (ds:List DotT):Value→Option Value:=fun v=>if ∃d∈ds,v=.agg #[.int .i64 d.place,.int .i64 d.time,.int .i64 d.no]then some (.bool true)else none
theorem dotSet_in {ds:List DotT} {d:DotT} (h:d∈ds):dotSet ds (.agg #[.int .i64 d.place,.int .i64 d.time,.int .i64 d.no])=some (.bool true):=by
 rw[dotSet,if_pos ⟨d,h,rfl⟩]
theorem dotSet_out {ds:List DotT} {d:DotT} (h:d∉ds):dotSet ds (.agg #[.int .i64 d.place,.int .i64 d.time,.int .i64 d.no])=none:=by
 rw[dotSet,if_neg]
 rintro⟨d',h1,h2⟩
 apply h
 have:d=d':=by
  cases d;cases d'
  simp at h2
  simp[h2]
 rw[this]
 exact h1
theorem dotSet_snoc {ds:List DotT} {d:DotT} (v:Value):fput (dotSet ds) (.agg #[.int .i64 d.place,.int .i64 d.time,.int .i64 d.no]) (.bool true) v=dotSet (ds++[d]) v:=by
 unfold fput dotSet
 by_cases hv:v=.agg #[.int .i64 d.place,.int .i64 d.time,.int .i64 d.no]
 ·rw[if_pos hv,if_pos ⟨d,by simp,hv⟩]
 ·rw[if_neg hv]
  by_cases h:∃d∈ds,v=.agg #[.int .i64 d.place,.int .i64 d.time,.int .i64 d.no]
  ·obtain⟨d',h1,h2⟩:=h
   rw[if_pos ⟨d',h1,h2⟩,if_pos ⟨d',by simp[h1],h2⟩]
  ·rw[if_neg h,if_neg]
   rintro⟨d',h1,h2⟩
   rcases List.mem_append.1 h1 with h1|h1
   ·exact h ⟨d',h1,h2⟩
   ·rw[List.mem_singleton]at h1
    subst h1
    exact hv h2
theorem dotSet_nil (v:Value):(fun _=>none:Value→Option Value) v=dotSet [] v:=by simp[dotSet]
def FVal (w:World) (S:Nat→Prop) (w':World) (e:Ending) (er:Nat→Addr) (f:FT) (mk:Value→Value):Prop:=
 (f.at' = -1∧∃v,Ret [] w S w' e (mk v) [] []∧ErrIs 390 er f.code v) ∨
 (1≤f.code∧0≤f.at'∧∃pb,Ret [] w S w' e (mk (.iface 202 (.pointer (some ⟨pb,0,none⟩)))) [] [(.pointer (some ⟨pb,0,none⟩),.ptr [.v (.int .i64 f.at'),.v (.iface 390 (.pointer (some (er f.code))))])])
end Go.Proofs.YtmkapocibaojdaaGreatDoor
end
