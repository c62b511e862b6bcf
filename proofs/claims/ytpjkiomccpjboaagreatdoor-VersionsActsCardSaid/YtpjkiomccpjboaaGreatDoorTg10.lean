/- Part 10 of the texts of a claim: Ref Worth Light OwnT Ver VDots Ord Ref2. -/
import Derived.Test.YtpjkiomccpjboaaGreatDoorTg9
section
namespace Go.Sx
open Go
theorem doneLt_w {x y:DoneT} (h:x.w≠y.w):doneLt x y=decide (x.w<y.w):=by
 rw[Bool.eq_iff_iff,doneLt_iff]
 simp[doneKey,lexC_neg,h]
theorem doneLt_p {x y:DoneT} (h:x.w=y.w) (h1:x.d.place≠y.d.place):doneLt x y=decide (x.d.place<y.d.place):=by
 rw[Bool.eq_iff_iff,doneLt_iff]
 simp[doneKey,lexC_neg,h,h1]
theorem doneLt_t {x y:DoneT} (h:x.w=y.w) (h1:x.d.place=y.d.place) (h2:x.d.time≠y.d.time):doneLt x y=decide (x.d.time<y.d.time):=by
 rw[Bool.eq_iff_iff,doneLt_iff]
 simp[doneKey,lexC_neg,h,h1,h2]
theorem doneLt_n {x y:DoneT} (h:x.w=y.w) (h1:x.d.place=y.d.place) (h2:x.d.time=y.d.time):doneLt x y=decide (x.d.no<y.d.no):=by
 rw[Bool.eq_iff_iff,doneLt_iff]
 simp[doneKey,lexC_neg,h,h1,h2,lexC_self]
theorem dotLt_p {x y:DotT} (h1:x.place≠y.place):dotLt x y=decide (x.place<y.place):=by
 rw[Bool.eq_iff_iff,dotLt_iff]
 simp[dotKey,lexC_neg,h1]
theorem dotLt_t {x y:DotT} (h1:x.place=y.place) (h2:x.time≠y.time):dotLt x y=decide (x.time<y.time):=by
 rw[Bool.eq_iff_iff,dotLt_iff]
 simp[dotKey,lexC_neg,h1,h2]
theorem dotLt_n {x y:DotT} (h1:x.place=y.place) (h2:x.time=y.time):dotLt x y=decide (x.no<y.no):=by
 rw[Bool.eq_iff_iff,dotLt_iff]
 simp[dotKey,lexC_neg,h1,h2,lexC_self]
end Go.Sx
namespace Go.Proofs.YtpjkiomccpjboaaGreatDoor
open Go Go.Sx
set_option maxHeartbeats 4000000 in
theorem rWeight {w:World} {S:Nat→Prop} {a:Option Addr} {n c:Nat} {xs:List Int} (ha:Rep w S (.slice a n c) (dInts xs)) (h2:vecErr xs=0) :
  Calls Tryz.prog 106 #[.slice a n c] w fun e w'=>Ret [] w S w' e (.int .i64 (sumL xs)) [] []:=by
 obtain rfl:=rep_ints_len ha
 refine epG Tryz.func106 bd106 (args:=[.slice a xs.length c]) (G:=[(_,dInts xs)]) (by kernel_rfl) (.cons ha (.nil _ _)) ?_
 have h6:=vecErr_len h2
 refine Zs [zR 0] [] [zI 2 0] ?_
 refine Zs [zR 0] [] [zI 3 0] ?_
 refine J_seq ?_
 refine Zs [zR 0] [] [zI 4 0] ?_
 refine J_block ?_
 refine J_loopx (fun i:Int=>[zS 0 a xs.length c,zI 2 0,zI 3 (sumL (xs.take i.toNat)),zI 4 i]) (fun i:Int=>[]) (fun i:Int=>[]) (fun i:Int=>[(.slice a xs.length c,(dInts xs))]) (fun i:Int=>(xs.length - i).toNat) (fun i:Int=>(0≤i∧i≤xs.length)) 0 [0,2,3,4] [] [] [0] ?_ (by kernel_rfl) rfl rfl rfl ?_
 ·exact⟨by simp,by omega⟩
 rintro i ⟨hi0,hi⟩
 refine J_seq ?_
 refine Zs (Rds 0 4) [] [zB 8 (decide (i<(↑xs.length:Int)))] ?_
 refine cC (t:=decide (i<(↑xs.length:Int))) (fun hlt=>?_) (fun hlt=>?_)
 ·have hlt2:i<xs.length:=by simpa using hlt
  obtain⟨x,hx⟩:∃x,xs[i.toNat]?=some x:=⟨_,List.getElem?_eq_getElem (by omega)⟩
  have hs:=sumL_le (vecErr_in h2) i.toNat
  have hs2:=vecErr_in h2 x (List.mem_of_getElem? hx)
  refine J_read0 0 rfl i.toNat (map_at hx) (by kernel_rfl) (fun b1 off1 cs1 ty1 fz1 ha1 hrd1=>?_)
  cases ha1
  have hrd1_0:=rd0 (hrd1 0 _ rfl)
  try simp only[aQ]
  refine J_skip (J_seq (J_block ?_))
  refine Zp (Rds 0 3++[.rd 3 [] 0 2,.rd 4 [.r 0 (some (nI x))] 0 0,.rd 5 [] 0 1,zR 6]) [8] [zI 3 (sumL (List.take i.toNat xs)+x)] [0≤i,i<(↑xs.length:Int),cs1[off1+i.toNat*1]?=some (nI x),IntKind.i64.wrap (sumL (List.take i.toNat xs)+x)=sumL (List.take i.toNat xs)+x] ⟨hi0,hlt2,hrd1_0,wrap_i64 (by omega) (by omega),trivial⟩ ?_
  refine J_eb ?_
  refine Zp [zR 0,.rd 1 [] 0 1,zR 2] [] [zI 4 (i+1)] [IntKind.i64.wrap (i+1)=i+1] ⟨wrap_i64 (by omega) (by omega),trivial⟩ ?_
  rw[←sumL_snoc,take_snoc hi0 hx]
  refine J_backx (i+1) [0,2,3,4] [] [] [0] ?_ ?_ (by kernel_rfl) rfl rfl rfl
  ·exact⟨by omega,by omega⟩
  ·omega
 ·have e:xs.take i.toNat=xs:=List.take_of_length_le (by simp at hlt;omega)
  refine J_exit rfl ?_
  refine Zs [zR 0,zR 1] [8,0,3,4] [zI 2 (sumL (List.take i.toNat xs))] ?_
  refine Yr [[]] (nI (sumL (List.take i.toNat xs))) fun a w s=>?_
  rw[e]
  exact s.ret (by simp) [] [] rfl rfl
set_option maxHeartbeats 4000000 in
theorem rAhead {w:World} {S:Nat→Prop} {x y:DoneT} {v1 v2:Value} (o1:v1.oneCell'=true) (o2:v2.oneCell'=true):Calls Tryz.prog 107 #[doneA x v1,doneA y v2] w fun e w'=>Ret [] w S w' e (.bool (doneLt x y)) [] []:=by
 refine epG Tryz.func107 bd107 (args:=[doneA x v1,doneA y v2]) (S:=S) (G:=[]) (by kernel_rfl) (.nil _ _) ?_
 refine Zv [.wr 0 [] 0,.wr 1 [] 0,zR 2] [] [0,1] (fun nu1=>[zP 2 (nu1 0),zP 3 (nu1 1),zB 4 false]) (fun nu1=>[(nu1 0,.cells #[nI x.o.no,.string x.o.key,nI x.o.kind,.string x.o.text,nI x.o.n,.bool x.o.remove,v1,nI x.d.place,nI x.d.time,nI x.d.no,nI x.w] 126 (0,0)),(nu1 1,.cells #[nI y.o.no,.string y.o.key,nI y.o.kind,.string y.o.text,nI y.o.n,.bool y.o.remove,v2,nI y.d.place,nI y.d.time,nI y.d.no,nI y.w] 126 (0,0))]) (fun nu1=>?_)
 refine J_seq (J_seq ?_)
 all_goals first|assumption|skip
 by_cases h0:x.w=y.w
 ·by_cases h1:x.d.place=y.d.place
  ·by_cases h2:x.d.time=y.d.time
   ·rw[doneLt_n h0 h1 h2]
    refine Zp [zR 0,.rd 1 [.o 0 none] 0 0,zR 2,.rd 3 [.o 1 none] 0 0,.rd 4 [] 0 7] [] [zB 9 false] [(x.w != y.w)=false] ⟨by simp;omega,trivial⟩ ?_
    refine cF ?_
    refine J_skip (J_seq ?_)
    refine Zt [zR 0,zR 1,.rd 2 [.o 0 none] 0 0,zR 3,zR 4,.rd 5 [.o 1 none] 0 0,.rd 6 [] 0 7] [9] [zB 21 false] [(x.d.place != y.d.place)=false] ⟨by simp;omega,trivial⟩ ?_
    refine cF ?_
    refine J_skip (J_seq ?_)
    refine Zt [zR 0,zR 1,.rd 2 [.o 0 none] 0 0,zR 3,zR 4,.rd 5 [.o 1 none] 0 0,.rd 6 [] 0 7] [21] [zB 35 false] [(x.d.time != y.d.time)=false] ⟨by simp;omega,trivial⟩ ?_
    refine cF ?_
    refine J_skip ?_
    refine Zs [zR 0,zR 1,.rd 2 [.o 0 none] 0 0,zR 3,zR 4,.rd 5 [.o 1 none] 0 0,zR 6,zR 7] [35,2,3] [zB 4 (decide (x.d.no<y.d.no))] ?_
    refine Yr [[]] (.bool (decide (x.d.no<y.d.no))) fun a w s=>?_
    exact s.ret (by simp) [] [] rfl rfl
   ·rw[doneLt_t h0 h1 h2]
    refine Zp [zR 0,.rd 1 [.o 0 none] 0 0,zR 2,.rd 3 [.o 1 none] 0 0,.rd 4 [] 0 7] [] [zB 9 false] [(x.w != y.w)=false] ⟨by simp;omega,trivial⟩ ?_
    refine cF ?_
    refine J_skip (J_seq ?_)
    refine Zt [zR 0,zR 1,.rd 2 [.o 0 none] 0 0,zR 3,zR 4,.rd 5 [.o 1 none] 0 0,.rd 6 [] 0 7] [9] [zB 21 false] [(x.d.place != y.d.place)=false] ⟨by simp;omega,trivial⟩ ?_
    refine cF ?_
    refine J_skip (J_seq ?_)
    refine Zt [zR 0,zR 1,.rd 2 [.o 0 none] 0 0,zR 3,zR 4,.rd 5 [.o 1 none] 0 0,.rd 6 [] 0 6] [21] [zB 35 true] [(x.d.time != y.d.time)=true] ⟨by simp;omega,trivial⟩ ?_
    refine cTt ?_
    refine Zs [zR 0,zR 1,.rd 2 [.o 0 none] 0 0,zR 3,zR 4,.rd 5 [.o 1 none] 0 0,zR 6,zR 7] [35] [zB 4 (decide (x.d.time<y.d.time))] ?_
    refine Yr [[]] (.bool (decide (x.d.time<y.d.time))) fun a w s=>?_
    exact s.ret (by simp) [] [] rfl rfl
  ·rw[doneLt_p h0 h1]
   refine Zp [zR 0,.rd 1 [.o 0 none] 0 0,zR 2,.rd 3 [.o 1 none] 0 0,.rd 4 [] 0 7] [] [zB 9 false] [(x.w != y.w)=false] ⟨by simp;omega,trivial⟩ ?_
   refine cF ?_
   refine J_skip (J_seq ?_)
   refine Zt [zR 0,zR 1,.rd 2 [.o 0 none] 0 0,zR 3,zR 4,.rd 5 [.o 1 none] 0 0,.rd 6 [] 0 6] [9] [zB 21 true] [(x.d.place != y.d.place)=true] ⟨by simp;omega,trivial⟩ ?_
   refine cTt ?_
   refine Zs [zR 0,zR 1,.rd 2 [.o 0 none] 0 0,zR 3,zR 4,.rd 5 [.o 1 none] 0 0,zR 6,zR 7] [21] [zB 4 (decide (x.d.place<y.d.place))] ?_
   refine Yr [[]] (.bool (decide (x.d.place<y.d.place))) fun a w s=>?_
   exact s.ret (by simp) [] [] rfl rfl
 ·rw[doneLt_w h0]
  refine Zp [zR 0,.rd 1 [.o 0 none] 0 0,zR 2,.rd 3 [.o 1 none] 0 0,.rd 4 [] 0 6] [] [zB 9 true] [(x.w != y.w)=true] ⟨by simp;omega,trivial⟩ ?_
  refine cTt ?_
  refine Zs [zR 0,.rd 1 [.o 0 none] 0 0,zR 2,.rd 3 [.o 1 none] 0 0,zR 4,zR 5] [9] [zB 4 (decide (x.w<y.w))] ?_
  refine Yr [[]] (.bool (decide (x.w<y.w))) fun a w s=>?_
  exact s.ret (by simp) [] [] rfl rfl
set_option maxHeartbeats 4000000 in
theorem rLessDot {w:World} {S:Nat→Prop} {x y:DotT}:Calls Tryz.prog 73 #[dotV x,dotV y] w fun e w'=>Ret [] w S w' e (.bool (dotLt x y)) [] []:=by
 refine epG Tryz.func73 bd73 (args:=[dotV x,dotV y]) (S:=S) (G:=[]) (by kernel_rfl) (.nil _ _) ?_
 refine Zv [.wr 0 [] 0,.wr 1 [] 0,zR 2] [] [0,1] (fun nu1=>[zP 2 (nu1 0),zP 3 (nu1 1),zB 4 false]) (fun nu1=>[(nu1 0,.cells #[nI x.place,nI x.time,nI x.no] 65 (0,0)),(nu1 1,.cells #[nI y.place,nI y.time,nI y.no] 65 (0,0))]) (fun nu1=>?_)
 refine J_seq (J_seq ?_)
 by_cases h1:x.place=y.place
 ·by_cases h2:x.time=y.time
  ·rw[dotLt_n h1 h2]
   refine Zp [zR 0,.rd 1 [.o 0 none] 0 0,zR 2,.rd 3 [.o 1 none] 0 0,.rd 4 [] 0 7] [] [zB 9 false] [(x.place != y.place)=false] ⟨by simp;omega,trivial⟩ ?_
   refine cF ?_
   refine J_skip (J_seq ?_)
   refine Zt [zR 0,.rd 1 [.o 0 none] 0 0,zR 2,.rd 3 [.o 1 none] 0 0,.rd 4 [] 0 7] [9] [zB 19 false] [(x.time != y.time)=false] ⟨by simp;omega,trivial⟩ ?_
   refine cF ?_
   refine J_skip ?_
   refine Zs [zR 0,.rd 1 [.o 0 none] 0 0,zR 2,.rd 3 [.o 1 none] 0 0,zR 4,zR 5] [19,2,3] [zB 4 (decide (x.no<y.no))] ?_
   refine Yr [[]] (.bool (decide (x.no<y.no))) fun a w s=>?_
   exact s.ret (by simp) [] [] rfl rfl
  ·rw[dotLt_t h1 h2]
   refine Zp [zR 0,.rd 1 [.o 0 none] 0 0,zR 2,.rd 3 [.o 1 none] 0 0,.rd 4 [] 0 7] [] [zB 9 false] [(x.place != y.place)=false] ⟨by simp;omega,trivial⟩ ?_
   refine cF ?_
   refine J_skip (J_seq ?_)
   refine Zt [zR 0,.rd 1 [.o 0 none] 0 0,zR 2,.rd 3 [.o 1 none] 0 0,.rd 4 [] 0 6] [9] [zB 19 true] [(x.time != y.time)=true] ⟨by simp;omega,trivial⟩ ?_
   refine cTt ?_
   refine Zs [zR 0,.rd 1 [.o 0 none] 0 0,zR 2,.rd 3 [.o 1 none] 0 0,zR 4,zR 5] [19] [zB 4 (decide (x.time<y.time))] ?_
   refine Yr [[]] (.bool (decide (x.time<y.time))) fun a w s=>?_
   exact s.ret (by simp) [] [] rfl rfl
 ·rw[dotLt_p h1]
  refine Zp [zR 0,.rd 1 [.o 0 none] 0 0,zR 2,.rd 3 [.o 1 none] 0 0,.rd 4 [] 0 6] [] [zB 9 true] [(x.place != y.place)=true] ⟨by simp;omega,trivial⟩ ?_
  refine cTt ?_
  refine Zs [zR 0,.rd 1 [.o 0 none] 0 0,zR 2,.rd 3 [.o 1 none] 0 0,zR 4,zR 5] [9] [zB 4 (decide (x.place<y.place))] ?_
  refine Yr [[]] (.bool (decide (x.place<y.place))) fun a w s=>?_
  exact s.ret (by simp) [] [] rfl rfl
set_option maxHeartbeats 4000000 in
theorem sameTexts_eq {w0:World} {S:Nat→Prop} {a b:Option Addr} {n m c d:Nat} {l:List ByteArray} (ha:Rep w0 S (.slice a n c) (dStrs l)) (hb:Rep w0 S (.slice b m d) (dStrs l)) (hl:l.length≤4000000) :
  Calls Tryz.prog 32 #[.slice a n c,.slice b m d] w0 fun e w'=>Ret [] w0 S w' e (.bool true) [] []:=by
 have e1:=ha.slen
 have e2:=hb.slen
 rw[List.length_map]at e1 e2
 subst e1 e2
 refine epG Tryz.func32 bd32 (args:=[.slice a l.length c,.slice b l.length d]) (G:=[(_,dStrs l),(_,dStrs l)]) (by kernel_rfl) (.cons ha (.cons hb (.nil _ _))) ?_
 refine Zs [zR 0] [] [zB 4 false] ?_
 refine J_seq ?_
 refine Zt (Rds 0 4++[.rd 4 [] 0 7]) [] [zB 10 false] [((↑l.length:Int) != (↑l.length:Int))=false] ⟨by simp,trivial⟩ ?_
 refine cF ?_
 refine J_skip (J_seq ?_)
 refine Zs [zR 0] [10] [zI 5 0] ?_
 refine J_block ?_
 refine J_loopx (fun i:Int=>[zS 0 a l.length c,zS 1 b l.length d,zB 4 false,zI 5 i]) (fun i:Int=>[]) (fun i:Int=>[]) (fun i:Int=>[(.slice a l.length c,(dStrs l)),(.slice b l.length d,(dStrs l))]) (fun i:Int=>(l.length - i).toNat) (fun i:Int=>(0≤i∧i≤l.length)) 0 [0,1,4,5] [] [] [0,1] ?_ (by kernel_rfl) rfl rfl rfl ?_
 ·exact⟨by omega,by omega⟩
 rintro i ⟨hi0,hi⟩
 refine J_seq ?_
 refine Zs (Rds 0 4) [] [zB 14 (decide (i<(↑l.length:Int)))] ?_
 refine cC (t:=decide (i<(↑l.length:Int))) (fun hlt=>?_) (fun hlt=>?_)
 ·have hlt2:i<l.length:=by simpa using hlt
  obtain⟨x,hx⟩:∃x,l[i.toNat]?=some x:=⟨_,List.getElem?_eq_getElem (by omega)⟩
  refine J_read0 0 rfl i.toNat (map_at hx) (by kernel_rfl) (fun b1 off1 cs1 ty1 fz1 ha1 hrd1=>?_)
  cases ha1
  have hrd1_0:=rd0 (hrd1 0 _ rfl)
  refine J_read0 1 rfl i.toNat (map_at hx) (by kernel_rfl) (fun b2 off2 cs2 ty2 fz2 ha2 hrd2=>?_)
  cases ha2
  have hrd2_0:=rd0 (hrd2 0 _ rfl)
  try simp only[aQ]
  refine J_skip (J_seq (J_block ?_))
  refine Zt [zR 0,zR 1,.rd 2 [] 0 2,.rd 3 [.r 0 (some (.string x))] 0 0,zR 4,zR 5,.rd 6 [] 0 2,.rd 7 [.r 1 (some (.string x))] 0 0,.rd 8 [] 0 7] [14] [zB 25 false] [0≤i,i<(↑l.length:Int),cs1[off1+i.toNat*1]?=some (Value.string x),0≤i,i<(↑l.length:Int),cs2[off2+i.toNat*1]?=some (Value.string x),(!x.toList==x.toList)=false] ⟨hi0,hlt2,hrd1_0,hi0,hlt2,hrd2_0,by simp,trivial⟩ ?_
  refine cF ?_
  refine J_skip (J_eb ?_)
  refine Zp [zR 0,.rd 1 [] 0 1,zR 2] [25] [zI 5 (i+1)] [IntKind.i64.wrap (i+1)=i+1] ⟨wrap_i64 (by omega) (by omega),trivial⟩ ?_
  refine J_backx (i+1) [0,1,4,5] [] [] [0,1] ?_ ?_ (by kernel_rfl) rfl rfl rfl
  ·exact⟨by omega,by omega⟩
  ·omega
 ·refine J_exit rfl ?_
  refine Zs [zR 0] [14,0,1,5] [zB 4 true] ?_
  refine Yr [[]] (.bool true) fun a w s=>?_
  exact s.ret (by simp) [] [] rfl rfl
set_option maxHeartbeats 4000000 in
theorem sameValue_eq {w0:World} {S:Nat→Prop} {a b:Option Addr} {n m c d:Nat} {v:ValT} (ha:Rep w0 S (.slice a n c) (dStrs v.set)) (hb:Rep w0 S (.slice b m d) (dStrs v.set)) (hl:v.set.length≤4000000) :
  Calls Tryz.prog 27 #[valA v (.slice a n c),valA v (.slice b m d)] w0 fun e w'=>Ret [] w0 S w' e (.bool true) [] []:=by
 refine epG Tryz.func27 bd27 (args:=[valA v (.slice a n c),valA v (.slice b m d)]) (G:=[(_,dStrs v.set),(_,dStrs v.set)]) (by kernel_rfl) (.cons ha (.cons hb (.nil _ _))) ?_
 refine Zv [.wr 0 [] 0,.wr 1 [] 0,zR 2] [] [0,1] (fun nu1=>[zP 2 (nu1 0),zP 3 (nu1 1),zB 4 false]) (fun nu1=>[(nu1 0,.cells #[nI v.kind,.string v.text,nI v.n,.slice a n c] 47 (0,0)),(nu1 1,.cells #[nI v.kind,.string v.text,nI v.n,.slice b m d] 47 (0,0))]) (fun nu1=>?_)
 refine jS [(0,true),(1,true),(2,true),(3,true),(4,true),(5,true),(6,true),(7,true),(8,true),(9,true),(10,true),(11,true),(12,true),(13,true),(14,true),(15,true),(16,true),(17,true),(18,true),(19,true),(20,true),(21,true),(22,true),(23,true),(24,false),(25,true),(26,true)] [] ?_
 refine Yp (id:=1) (rest:=[(24,false),(25,true),(26,true)]) ([zR 0,.rd 1 [.o 0 none] 0 0,zR 2,.rd 3 [.o 1 none] 0 0,.rd 4 [] 0 6,zR 5,zR 6,.rd 7 [.o 0 none] 0 0,zR 8,.rd 9 [.o 1 none] 0 0,.rd 10 [] 0 6]++Rds 11 14++[.rd 14 [.o 0 none] 0 0,zR 15,.rd 16 [.o 1 none] 0 0,.rd 17 [] 0 6]++Rds 18 21++[.rd 21 [.o 0 none] 0 0,zR 22,.rd 23 [.o 1 none] 0 0]) [2,3] [zB 24 true,zS 26 a n c,zS 28 b m d] [(v.kind==v.kind)=true,(v.text.toList==v.text.toList)=true,(v.n==v.n)=true] ⟨by simp,by simp,by simp,trivial⟩ ?_
 refine Yc 32 #[.slice a n c,.slice b m d] (some 29) fun w S hG=>?_
 refine(sameTexts_eq (hG.at 0 rfl) (hG.at 1 rfl) hl).mono ?_
 rintro e1 w1 hR
 refine⟨_,_,_,hR,?_⟩
 try simp only[aQ]
 refine Ya (id:=1) (rest:=[]) [zR 25,zR 26] [29,24,26,28] [zB 4 true] ?_
 refine JR_end ?_
 refine Yr [[]] (.bool true) fun a w s=>?_
 exact s.ret (by simp) [] [] rfl rfl
end Go.Proofs.YtpjkiomccpjboaaGreatDoor
end
section
namespace Go.Proofs.YtpjkiomccpjboaaGreatDoor
open Go Go.Sx
abbrev keyK:ByteArray:=ByteArray.mk #[107]
theorem nameK:nameOk keyK=true:=by decide
end Go.Proofs.YtpjkiomccpjboaaGreatDoor
end
section
namespace Go.Proofs.YtpjkiomccpjboaaGreatDoor
open Go Go.Sx
theorem enterB_len (l:List ByteArray) (s:ByteArray):(enterB l s).length≤l.length+1:=by
 induction l with
 | nil=>simp[enterB]
 | cons x l ih=>
  unfold enterB
  split
  ·rw[List.length_cons,List.length_cons]
   omega
  ·split
   ·omega
   ·simp
theorem setOf_lenF:∀(l p:List ByteArray),(l.foldl enterB p).length≤p.length+l.length
 | [],p=>by simp
 | x::l,p=>by
  have h1:=setOf_lenF l (enterB p x)
  have h2:=enterB_len p x
  rw[List.foldl_cons,List.length_cons]
  omega
theorem valOf_len {key:ByteArray} {l:List ComT} (h:(valFault key l).code=0):(Sx.valOf key l).set.length≤12*l.length:=by
 unfold Sx.valOf
 dsimp only
 split
 ·refine Nat.le_trans (setOf_lenF _ _) ?_
  rw[List.length_map,List.length_nil,Nat.zero_add]
  exact Nat.le_trans (List.length_filter_le _ _) (ofKey_len h)
 ·simp
theorem Rep.someA {w:World} {S:Nat→Prop} {a:Option Addr} {n c k:Nat} {rows:List (List D)} (h:Rep w S (.slice a n c) (.sl k rows)) (h0:rows≠[]):∃b off,a=some ⟨b,off,none⟩:=by
 cases h with
 | nil=>exact absurd rfl h0
 | sl u hb hS hc=>exact⟨_,_,rfl⟩
end Go.Proofs.YtpjkiomccpjboaaGreatDoor
end
section
namespace Go.Proofs.YtpjkiomccpjboaaGreatDoor
open Go Go.Sx
set_option maxHeartbeats 4000000 in
theorem vOwn {w0:World} {S:Nat→Prop} {a1 a2:Option Addr} {n1 c1 n2 c2:Nat} {c:ComT} (h1:Rep w0 S (.slice a1 n1 c1) (dInts c.when)) (h2:Rep w0 S (.slice a2 n2 c2) (.sl 7 (c.ops.map eOp))) (hl1:c.when.length≤1000000) (hl2:c.ops.length≤1000000) (hl3:∀o∈c.ops,o.dots.length≤1000000) :
  Calls Tryz.prog 75 #[.agg #[.slice a1 n1 c1,.int .i64 c.place,.slice a2 n2 c2]] w0 fun e w'=>∃u1 d1 u2 d2,Ret [] w0 S w' e (.agg #[.slice u1 n1 d1,.int .i64 c.place,.slice u2 n2 d2]) [] [(.slice u1 n1 d1,dInts c.when),(.slice u2 n2 d2,.sl 7 (c.ops.map eOp))]:=by
 obtain rfl:=rep_ints_len h1
 have e2:=h2.slen
 rw[List.length_map]at e2
 subst e2
 refine epG Tryz.func75 bd75 (args:=[.agg #[.slice a1 c.when.length c1,.int .i64 c.place,.slice a2 c.ops.length c2]]) (G:=[(_,dInts c.when),(_,.sl 7 (c.ops.map eOp))]) (by kernel_rfl) (.cons h1 (.cons h2 (.nil _ _))) ?_
 refine Zv [.wr 0 [] 0,.wr 1 [] 0] [] [0] (fun nu1=>[zP 1 (nu1 0),zP 2 (nu1 1)]) (fun nu1=>[(nu1 0,.cells #[.slice a1 c.when.length c1,nI c.place,.slice a2 c.ops.length c2] 28 (0,0)),(nu1 1,.cells #[.slice none 0 0,nI 0,.slice none 0 0] 28 (0,0))]) (fun nu1=>?_)
 refine jS [(0,true),(1,true),(2,false),(3,true),(4,false)] [] ?_
 refine Ya (id:=1) (rest:=[(2,false),(3,true),(4,false)]) [zR 0,.rd 1 [.o 0 none] 0 0] [] [zS 5 a1 c.when.length c1] ?_
 refine Yc 80 #[.slice a1 c.when.length c1] (some 6) fun w S hG=>?_
 refine(cloneInts (hG.at 0 rfl) hl1).mono ?_
 rintro e1 w1 ⟨u1,d1,hR⟩
 refine⟨_,_,_,hR,?_⟩
 try simp only[aQ]
 refine Ym (id:=1) (rest:=[]) [zR 3,.wr 4 [.o 0 none] 0] [6,5] (fun _=>[]) (fun _=>[(nu1 0,.cells #[.slice u1 c.when.length d1,nI c.place,.slice a2 c.ops.length c2] 28 (0,0)),(nu1 1,.cells #[.slice none 0 0,nI 0,.slice none 0 0] 28 (0,0))]) [] (fun _=>?_)
 refine JR_end ?_
 refine jS [(0,true),(1,true),(2,false),(3,true),(4,false)] [] ?_
 refine Ya (id:=2) (rest:=[(2,false),(3,true),(4,false)]) [zR 0,.rd 1 [.o 0 none] 0 0] [] [zS 9 a2 c.ops.length c2] ?_
 refine Yc 108 #[.slice a2 c.ops.length c2] (some 10) fun w S hG=>?_
 refine(cloneOps (hG.at 1 rfl) hl2).mono ?_
 rintro e3 w3 ⟨u2,d2,hR⟩
 refine⟨_,_,_,hR,?_⟩
 try simp only[aQ]
 refine Ym (id:=2) (rest:=[]) [zR 3,.wr 4 [.o 0 none] 0] [10,9] (fun _=>[]) (fun _=>[(nu1 0,.cells #[.slice u1 c.when.length d1,nI c.place,.slice u2 c.ops.length d2] 28 (0,0)),(nu1 1,.cells #[.slice none 0 0,nI 0,.slice none 0 0] 28 (0,0))]) [] (fun _=>?_)
 refine JR_end (J_seq ?_)
 refine Zs [zR 0,.rd 1 [.o 0 none] 0 0,zR 2,zR 3] [] [zI 14 (↑c.ops.length:Int),zI 15 0] ?_
 refine J_block ?_
 refine J_loopx (fun i:Int=>[zP 1 (nu1 0),zP 2 (nu1 1),zI 14 (↑c.ops.length:Int),zI 15 i]) (fun i:Int=>[(nu1 0,.cells #[.slice u1 c.when.length d1,nI c.place,.slice u2 c.ops.length d2] 28 (0,0)),(nu1 1,.cells #[.slice none 0 0,nI 0,.slice none 0 0] 28 (0,0))]) (fun i:Int=>[cAcc (.slice u1 c.when.length d1) 3 1 (List.map eI c.when),cAcc (.slice u2 c.ops.length d2) 24 7 (List.map eOp c.ops)]) (fun i:Int=>[(.slice a1 c.when.length c1,(dInts c.when)),(.slice a2 c.ops.length c2,(D.sl 7 (List.map eOp c.ops)))]) (fun i:Int=>(c.ops.length - i).toNat) (fun i:Int=>(0≤i∧i≤c.ops.length)) 0 [1,2,14,15] [0,1] [0,1] [0,1] ?_ (by kernel_rfl) rfl rfl rfl ?_
 ·exact⟨by omega,by omega⟩
 rintro i ⟨hi0,hi⟩
 refine Zs [zR 0] [] [zB 16 (decide (i<(↑c.ops.length:Int)))] ?_
 refine J_seq ?_
 refine cC (t:=decide (i<(↑c.ops.length:Int))) (fun hlt=>?_) (fun hlt=>?_)
 ·have hlt2:i<c.ops.length:=by simpa using hlt
  obtain⟨o,ho⟩:∃o,c.ops[i.toNat]?=some o:=⟨_,List.getElem?_eq_getElem (by omega)⟩
  refine J_openacc 1 rfl (by intro h0;rw[List.map_eq_nil_iff]at h0;rw[h0]at ho;simp at ho) fun g cur xs hu _ _ hrow=>?_
  subst hu
  refine J_stpx (stp_readrows 1 rfl i.toNat (map_at ho)) fun ls hls=>?_
  obtain⟨hls1,hls2⟩:=hls
  obtain⟨⟨da,dc⟩,rfl⟩:∃l0,ls=[l0]:=List.length_eq_one_iff.1 hls1
  have hcur:cur[0+i.toNat*7+6]?=some (.slice da (o.dots.map eDot).length dc):=by rw[Nat.zero_add];exact hrow.atx (hls2 6 _ rfl)
  have hsz:0+i.toNat*7+6+1≤cur.size:=(Array.getElem?_eq_some_iff.1 hcur).1
  try simp only[aQ]
  refine J_skip ?_
  try simp only[aQ]
  refine J_seq ?_
  try simp only[aQ]
  refine J_block ?_
  try simp only[aQ]
  refine J_seq ?_
  try simp only[aQ]
  refine Za [zR 0,zR 1] [16] [zI 3 i] ?_
  try simp only[aQ]
  refine jT [(0,true),(1,true),(2,true),(3,true),(4,true),(5,true),(6,true),(7,true),(8,true),(9,false),(10,true),(11,true),(12,false)] [(12,[2])] ?_
  refine Yp (id:=6) (rest:=[(9,false),(10,true),(11,true),(12,false)]) [zR 0,.rd 1 [.o 0 none] 0 0,zR 2,zR 3,.rd 4 [.o 0 none] 0 0,zR 5,.rd 6 [] 0 2,zR 7,.rd 8 [.o 2 (some (.slice da ((List.map eDot o.dots).length) dc))] 0 0] [] [zS 19 (sA g 0) c.ops.length d2,zI 20 i,zS 26 da ((List.map eDot o.dots).length) dc] [0≤i,i<(↑c.ops.length:Int),cur[(0:Nat)+i.toNat*7+(6:Nat)]?=some (Value.slice da (List.map eDot o.dots).length dc)] ⟨hi0,hlt2,hcur,trivial⟩ ?_
  refine Yc 109 #[.slice da ((List.map eDot o.dots).length) dc] (some 27) fun w S hG=>?_
  refine(cloneDots (xs:=o.dots) (hG.at 2 rfl) (hl3 o (List.mem_of_getElem? ho))).mono ?_
  rintro e4 w4 ⟨u3,d3,hR⟩
  refine⟨_,_,_,hR,?_⟩
  try simp only[aQ]
  refine Yn (id:=6) (rest:=[]) [.rd 10 [] 0 2,zR 11,.wr 12 [.o 2 (some (.slice u3 ((List.map eDot o.dots).length) d3))] 0] [27,19,20,26] (fun _=>[]) (fun _=>[(nu1 0,.cells #[.slice u1 c.when.length d1,nI c.place,.slice (sA g 0) c.ops.length d2] 28 (0,0)),(nu1 1,.cells #[.slice none 0 0,nI 0,.slice none 0 0] 28 (0,0)),(g,.cells (cur.setIfInBounds (0+i.toNat*7+6) (Value.slice u3 (List.map eDot o.dots).length d3)) 24 (0,0))]) [] (fun _=>[0≤i,i<(↑c.ops.length:Int),(Value.slice u3 (List.map eDot o.dots).length d3).oneCell'=true,(0:Nat)+i.toNat*7+(6:Nat)<cur.size]) (fun _=>⟨hi0,hlt2,?_,by omega,trivial⟩) (fun _=>?_)
  ·rfl
  try simp only[aQ]
  refine JR_end ?_
  try simp only[aQ]
  refine J_eb ?_
  try simp only[aQ]
  refine Zp [.rd 0 [] 0 1,zR 1] [] [zI 15 (i+1)] [IntKind.i64.wrap (i+1)=i+1] ⟨wrap_i64 (by omega) (by omega),trivial⟩ ?_
  try simp only[aQ]
  refine J_stp (stp_freeze 2 rfl) ?_
  have hsame:(List.map eOp c.ops).set i.toNat ((eOp o).set 6 (.sl 3 (o.dots.map eDot)))=List.map eOp c.ops:=set_same (map_at ho)
  refine J_stp (stp_setrows 1 3 i.toNat 6 rfl hrow.len (map_at ho) (by decide) rfl) ?_
  rw[hsame]
  refine J_hide 2 rfl ?_
  have hrow2:Row (cur.setIfInBounds (0+i.toNat*7+6) (.slice u3 (o.dots.map eDot).length d3)) d2 (c.ops.map eOp).length 7 (xs.set (i.toNat*7+6) (.slice u3 (o.dots.map eDot).length d3)):=by rw[Nat.zero_add];exact hrow.set1 _ _
  refine J_stp (stp_closeacc 2 1 rfl rfl hrow2 (by decide)) ?_
  rw[show(List.map eOp c.ops).length=c.ops.length from List.length_map ..]
  refine J_backx (i+1) [1,2,14,15] [0,1] [0,1] [0,1] ?_ ?_ (by kernel_rfl) rfl rfl rfl
  ·exact⟨by omega,by omega⟩
  ·omega
 ·refine J_exit rfl ?_
  refine Zv [.rd 0 (hnO 0 3) 0 0,.wr 1 (hnO 1 3) 0] [(1,[1])] [16,1,14,15] (fun _=>[]) (fun _=>[(nu1 0,.cells #[.slice u1 c.when.length d1,nI c.place,.slice u2 c.ops.length d2] 28 (0,0)),(nu1 1,.cells #[.slice u1 c.when.length d1,nI c.place,.slice u2 c.ops.length d2] 28 (0,0))]) (fun _=>?_)
  refine Yr [(hnO 1 3)] (.agg #[.slice u1 c.when.length d1,nI c.place,.slice u2 c.ops.length d2]) fun a w s=>?_
  have s2:=(s.stp (stp_freeze 0 rfl)).stp (stp_freeze 0 rfl)
  exact⟨_,_,_,_,s2.ret (by simp) [] [2,3] rfl rfl⟩
end Go.Proofs.YtpjkiomccpjboaaGreatDoor
end
section
namespace Go.Sx
open Go
structure PutT where
 when:List Int
 place:Int
 op:OpT
def oneC (p:PutT):ComT:=⟨p.when,p.place,[p.op]⟩
def dotP (p:PutT):DotT:=⟨p.place,p.when.getD p.place.toNat 0,p.op.no⟩
def keyC (L:List PutT) (key:ByteArray):List ComT:=(L.filter fun p=>decide (p.op.key=key)).map oneC
end Go.Sx
namespace Go.Proofs.YtpjkiomccpjboaaGreatDoor
open Go Go.Sx
theorem rowG_zero {G:List (Value×D)}:∀n:Nat,RowG G (List.replicate n (.int .i64 0)) ((List.replicate n (0:Int)).map eI).flatten
 | 0=>trivial
 | n+1=>⟨.inl ⟨rfl,rfl⟩,rowG_zero n⟩
set_option maxHeartbeats 4000000 in
theorem newFin {nn:Nat} {E:Env} {S:Nat→Prop} {w0:World} {a:Act} {w:World} {g:Value×D} {c0 c1 c2 c3:Nat} (n:Nat) {cs:Array Value} {v:Value} (s:St nn E [(c0,.cells cs 3 (0,0)),(c1,.map #[] 0),(c2,.map #[] 0),(c3,.cells #[.int .i64 n,.slice (some ⟨c0,0,none⟩) n n,.map (some c1),.map (some c2)] 133 (0,0))] [] [([],w0)] ⟨newS S [] w0,[],[g]⟩ a w) (hR:RowG [g] cs.toList ((List.replicate n (0:Int)).map eI).flatten) :
  Ret [] w0 S w (.returned v) v [cObj c3 (.cells #[.int .i64 n,.slice (some ⟨c0,0,none⟩) n n,.map (some c1),.map (some c2)] 133 (0,0)),cObj c1 (.map #[] 0),cStar [],cMapG c2 okDot (dotSet [])] [(.slice (some ⟨c0,0,none⟩) n n,dInts (List.replicate n 0))]:=by
 obtain⟨fps,s⟩:=s
 have s1:=s.data (cap:=n) (rows:=(List.replicate n (0:Int)).map eI) (size:=1) 0 rfl (by decide) (by intro row h;obtain⟨x,_,rfl⟩:=List.mem_map.1 h;rfl) (by simp) hR
 rw[show((List.replicate n (0:Int)).map eI).length=n by simp]at s1
 have s2:=St.hide ⟨_,s1⟩ 2 rfl
 have s3:=s2.hide 0 rfl
 have s4:=s3.stp (stp_add (cStar []) star_nil)
 have s5:=s4.hide 0 rfl
 have s6:=s5.stp (stp_conv 3 rfl (mapg_eqv ((MapG.empty okDot).congr dotSet_nil)))
 exact s6.ret (by simp) [0,1,2,3] [1] rfl rfl
set_option maxHeartbeats 4000000 in
theorem vNew {w:World} {S:Nat→Prop} {er:Nat→Addr} {eb:Nat→Array Value×TypeId} {p:Int} (hC:Rep w S .nilIface (dC er eb)) :
  Calls Tryz.prog 34 #[.int .i64 p] w fun e w'=>((p<1∨6<p)∧Ret [] w S w' e (.tuple #[.pointer none,.iface 243 (.pointer (some (er 2)))]) [] []) ∨
   ((1≤p∧p≤6)∧∃b ba mk md,Ret [] w S w' e (.tuple #[.pointer (some ⟨b,0,none⟩),.nilIface]) [cObj b (.cells #[.int .i64 p,.slice (some ⟨ba,0,none⟩) p.toNat p.toNat,.map (some mk),.map (some md)] 133 (0,0)),cObj mk (.map #[] 0),cStar [],cMapG md okDot (dotSet [])] [(.slice (some ⟨ba,0,none⟩) p.toNat p.toNat,dInts (List.replicate p.toNat 0))]):=by
 refine epG Tryz.func34 bd34 (args:=[.int .i64 p]) (S:=S) (G:=[(_,dC er eb)]) (by kernel_rfl) (.cons hC (.nil _ _)) ?_
 by_cases h1:p<1
 ·refine J_stp (stp_all 0 [1] rfl rfl) ?_
  refine J_glob 1 rfl (fun csg1 tyg1 fzg1 hglob1=>?_)
  try simp only[aQ]
  refine Zs [zR 0,zR 1] [] [zV 2 (.pointer none),zV 3 .nilIface] ?_
  refine J_seq ?_
  refine Zt [zR 0,.rd 1 [] 0 6,zR 2,.rd 3 [] 1 0,.rd 4 [] 1 0,zR 5] [] [zB 9 true] [decide (p<(1:Int))=true] ⟨by simp;omega,trivial⟩ ?_
  refine cTt ?_
  refine Zt [.rd 0 [.r 0 (some (.iface 243 (.pointer (some (er 2)))))] 0 0,zR 1,zR 2] [9] [zV 3 (.iface 243 (.pointer (some (er 2))))] [csg1[(0:Nat)]?=some (Value.iface (243:Nat) (Value.pointer (some (er (2:Nat)))))] ⟨hglob1,trivial⟩ ?_
  refine Yr [[],[]] (.tuple #[.pointer none,.iface 243 (.pointer (some (er 2)))]) fun a w s=>?_
  exact .inl ⟨.inl h1,s.ret (by simp) [] [] rfl rfl⟩
 by_cases h6:6<p
 ·refine J_stp (stp_all 0 [1] rfl rfl) ?_
  refine J_glob 1 rfl (fun csg1 tyg1 fzg1 hglob1=>?_)
  try simp only[aQ]
  refine Zs [zR 0,zR 1] [] [zV 2 (.pointer none),zV 3 .nilIface] ?_
  refine J_seq ?_
  refine Zt [zR 0,.rd 1 [] 0 7,zR 2,zR 3,.rd 4 [] 0 6,zR 5] [] [zB 9 true] [decide (p<(1:Int))=false,decide (p>(6:Int))=true] ⟨by simp;omega,by simp;omega,trivial⟩ ?_
  refine cTt ?_
  refine Zt [.rd 0 [.r 0 (some (.iface 243 (.pointer (some (er 2)))))] 0 0,zR 1,zR 2] [9] [zV 3 (.iface 243 (.pointer (some (er 2))))] [csg1[(0:Nat)]?=some (Value.iface (243:Nat) (Value.pointer (some (er (2:Nat)))))] ⟨hglob1,trivial⟩ ?_
  refine Yr [[],[]] (.tuple #[.pointer none,.iface 243 (.pointer (some (er 2)))]) fun a w s=>?_
  exact .inl ⟨.inr h6,s.ret (by simp) [] [] rfl rfl⟩
 obtain⟨n,rfl⟩:∃n:Nat,p=n:=⟨p.toNat,by omega⟩
 refine Zs [zR 0,zR 1] [] [zV 2 (.pointer none),zV 3 .nilIface] ?_
 refine J_seq ?_
 refine Zt [zR 0,.rd 1 [] 0 7,zR 2,zR 3,.rd 4 [] 0 7,zR 5] [] [zB 9 false] [decide ((↑n:Int)<(1:Int))=false,decide ((↑n:Int)>(6:Int))=false] ⟨by simp;omega,by simp;omega,trivial⟩ ?_
 refine cF ?_
 refine J_skip (J_seq ?_)
 rcases(by omega:n=1∨n=2∨n=3∨n=4∨n=5∨n=6)with rfl|rfl|rfl|rfl|rfl|rfl
 ·refine Zm [.rd 0 [] 0 0,.rd 1 [] 0 0,.wr 2 [] 0,.wr 3 [] 0,.wr 4 [] 0,.rd 5 [] 0 0,.wr 6 [] 0,.rd 7 [] 0 0,.rd 8 [] 0 0] [] [9,0] (fun nu1=>[(2,.val (.pointer (some (⟨nu1 3,0,none⟩))))]) (fun nu1=>[(nu1 0,.cells #[.int .i64 0] 3 (0,0)),(nu1 1,Obj.map #[] 0),(nu1 2,Obj.map #[] 0),(nu1 3,.cells #[.int .i64 1,.slice (some (⟨nu1 0,0,none⟩)) 1 1,.map (some (nu1 1)),.map (some (nu1 2))] 133 (0,0))]) (fun nu1=>?_)
  refine Yr [[],[]] (.tuple #[.pointer (sA (nu1 3) 0),.nilIface]) fun a w s=>?_
  exact .inr ⟨by omega,_,_,_,_,newFin 1 s (rowG_zero 1)⟩
 ·refine Zm [.rd 0 [] 0 0,.rd 1 [] 0 0,.wr 2 [] 0,.wr 3 [] 0,.wr 4 [] 0,.rd 5 [] 0 0,.wr 6 [] 0,.rd 7 [] 0 0,.rd 8 [] 0 0] [] [9,0] (fun nu1=>[(2,.val (.pointer (some (⟨nu1 3,0,none⟩))))]) (fun nu1=>[(nu1 0,.cells #[.int .i64 0,.int .i64 0] 3 (0,0)),(nu1 1,Obj.map #[] 0),(nu1 2,Obj.map #[] 0),(nu1 3,.cells #[.int .i64 2,.slice (some (⟨nu1 0,0,none⟩)) 2 2,.map (some (nu1 1)),.map (some (nu1 2))] 133 (0,0))]) (fun nu1=>?_)
  refine Yr [[],[]] (.tuple #[.pointer (sA (nu1 3) 0),.nilIface]) fun a w s=>?_
  exact .inr ⟨by omega,_,_,_,_,newFin 2 s (rowG_zero 2)⟩
 ·refine Zm [.rd 0 [] 0 0,.rd 1 [] 0 0,.wr 2 [] 0,.wr 3 [] 0,.wr 4 [] 0,.rd 5 [] 0 0,.wr 6 [] 0,.rd 7 [] 0 0,.rd 8 [] 0 0] [] [9,0] (fun nu1=>[(2,.val (.pointer (some (⟨nu1 3,0,none⟩))))]) (fun nu1=>[(nu1 0,.cells #[.int .i64 0,.int .i64 0,.int .i64 0] 3 (0,0)),(nu1 1,Obj.map #[] 0),(nu1 2,Obj.map #[] 0),(nu1 3,.cells #[.int .i64 3,.slice (some (⟨nu1 0,0,none⟩)) 3 3,.map (some (nu1 1)),.map (some (nu1 2))] 133 (0,0))]) (fun nu1=>?_)
  refine Yr [[],[]] (.tuple #[.pointer (sA (nu1 3) 0),.nilIface]) fun a w s=>?_
  exact .inr ⟨by omega,_,_,_,_,newFin 3 s (rowG_zero 3)⟩
 ·refine Zm [.rd 0 [] 0 0,.rd 1 [] 0 0,.wr 2 [] 0,.wr 3 [] 0,.wr 4 [] 0,.rd 5 [] 0 0,.wr 6 [] 0,.rd 7 [] 0 0,.rd 8 [] 0 0] [] [9,0] (fun nu1=>[(2,.val (.pointer (some (⟨nu1 3,0,none⟩))))]) (fun nu1=>[(nu1 0,.cells #[.int .i64 0,.int .i64 0,.int .i64 0,.int .i64 0] 3 (0,0)),(nu1 1,Obj.map #[] 0),(nu1 2,Obj.map #[] 0),(nu1 3,.cells #[.int .i64 4,.slice (some (⟨nu1 0,0,none⟩)) 4 4,.map (some (nu1 1)),.map (some (nu1 2))] 133 (0,0))]) (fun nu1=>?_)
  refine Yr [[],[]] (.tuple #[.pointer (sA (nu1 3) 0),.nilIface]) fun a w s=>?_
  exact .inr ⟨by omega,_,_,_,_,newFin 4 s (rowG_zero 4)⟩
 ·refine Zm [.rd 0 [] 0 0,.rd 1 [] 0 0,.wr 2 [] 0,.wr 3 [] 0,.wr 4 [] 0,.rd 5 [] 0 0,.wr 6 [] 0,.rd 7 [] 0 0,.rd 8 [] 0 0] [] [9,0] (fun nu1=>[(2,.val (.pointer (some (⟨nu1 3,0,none⟩))))]) (fun nu1=>[(nu1 0,.cells #[.int .i64 0,.int .i64 0,.int .i64 0,.int .i64 0,.int .i64 0] 3 (0,0)),(nu1 1,Obj.map #[] 0),(nu1 2,Obj.map #[] 0),(nu1 3,.cells #[.int .i64 5,.slice (some (⟨nu1 0,0,none⟩)) 5 5,.map (some (nu1 1)),.map (some (nu1 2))] 133 (0,0))]) (fun nu1=>?_)
  refine Yr [[],[]] (.tuple #[.pointer (sA (nu1 3) 0),.nilIface]) fun a w s=>?_
  exact .inr ⟨by omega,_,_,_,_,newFin 5 s (rowG_zero 5)⟩
 ·refine Zm [.rd 0 [] 0 0,.rd 1 [] 0 0,.wr 2 [] 0,.wr 3 [] 0,.wr 4 [] 0,.rd 5 [] 0 0,.wr 6 [] 0,.rd 7 [] 0 0,.rd 8 [] 0 0] [] [9,0] (fun nu1=>[(2,.val (.pointer (some (⟨nu1 3,0,none⟩))))]) (fun nu1=>[(nu1 0,.cells #[.int .i64 0,.int .i64 0,.int .i64 0,.int .i64 0,.int .i64 0,.int .i64 0] 3 (0,0)),(nu1 1,Obj.map #[] 0),(nu1 2,Obj.map #[] 0),(nu1 3,.cells #[.int .i64 6,.slice (some (⟨nu1 0,0,none⟩)) 6 6,.map (some (nu1 1)),.map (some (nu1 2))] 133 (0,0))]) (fun nu1=>?_)
  refine Yr [[],[]] (.tuple #[.pointer (sA (nu1 3) 0),.nilIface]) fun a w s=>?_
  exact .inr ⟨by omega,_,_,_,_,newFin 6 s (rowG_zero 6)⟩
end Go.Proofs.YtpjkiomccpjboaaGreatDoor
end
section
namespace Go.Sx
open Go Go.MapKept
section look
variable {P:Program} {f:Func} {R:Act→World→Prop} {n:Nat} {k:List Itm} {E:Env} {h r:List (Nat×Obj)} {F:List (List Nat×World)} {Y:Ghost}
theorem JRg_lookrc {S0:Nat→Prop} {C0:List Chunk} {G0:List (Value×D)} {id L0 i:Nat} {Wp:List (Nat×List Nat)} {rest:List (Nat×Bool)} (q b t kt et:Nat) (ok:Value→Prop) (key z:Value) (c:Bool) (dst:Option Tmp) {es:Array MapEntry} {clock:Nat} {g:Value→Option Value}
  (he:lookOf n (rgOf f id) E i=some (.map (some b),key,t,c,dst)) (ht:P.underlying t=some (.map kt et)) (hK:KeyOk P kt ok) (hk:ok key) (hi:(P.info? et).map (·.zero)=some (some z))
  (hqc:C0[q]?=some (cObj b (.map es clock))) (hm:MapG ok es g)
  (A:g key=none→JR P f R n (rgOf f id) L0 false rest Wp k (E.put dst (.val (lkV c z false))) h r F ⟨S0,C0,G0⟩)
  (B:∀v,g key=some v→JR P f R n (rgOf f id) L0 false rest Wp k (E.put dst (.val (lkV c v true))) h r F ⟨S0,C0,G0⟩) :
  JR P f R n (rgOf f id) L0 false ((i,true)::rest) Wp k E h r F ⟨S0,C0,G0⟩:=by
 intro BB Hd fps a w s hH hR hN hW
 simp only[PW]
 obtain⟨inf,hinf,hz⟩:=Option.map_eq_some_iff.1 hi
 have hzero:∀w,(zeroValue et).run P w=.ok z w:=fun w=>by simp[zeroValue,typeInfo,hinf,hz]
 obtain⟨_,_,hcw⟩:=s.gh.chs.at hqc
 have hHp:Hp [(b,Obj.map es clock)] w:=fun y hy=>by
  obtain rfl:=List.mem_singleton.1 hy
  exact hcw.2
 unfold lookOf at he
 split at he
 ·cases he
 rename_i o ho
 split at he
 case isFalse=>cases he
 rename_i hdst
 split at he
 ·cases he
 rename_i hg
 split at he
 case h_2=>cases he
 rename_i t' m x c' hc
 split at he
 case h_2=>cases he
 rename_i hq
 simp only[Option.some.injEq,Prod.mk.injEq]at he
 obtain⟨e1,e2,rfl,rfl,rfl⟩:=he
 have hev:=opsOk_sound s.ag (fun c w h=>by cases h) _ _ hq trivial
 have e1:a.eval m=.map (some b):=(hev m (by simp)).trans e1
 have e2:a.eval x=key:=(hev x (by simp)).trans e2
 have fin:∀v,(∀w,Hp [(b,Obj.map es clock)] w→(Instr.lookup t' (.map (some b)) key c').run P w=.ok v w)→JR P f R n (rgOf f id) L0 false rest Wp k (E.put o.dst (.val v)) h r F ⟨S0,C0,G0⟩ →
   ∃o' v' us,(rgOf f id)[i]?=some o'∧YieldsIf P (rgOf f id) (Hp us) o' v' a∧Hp us w∧(false=true→∀y∈idsW Hd h Wp,later (rgOf f id) i 3 y.1=true∨∀x∈us,x.1<BB∧x.1∉y.2)∧PW P (rgOf f id) (wpK P f R k) BB false rest (idsW Hd h Wp) (a.put o'.dst v') w:=fun v hv H=>by
  refine⟨o,v,[(b,Obj.map es clock)],ho,.inl ⟨by simp[Region.wanted,hg],fun w hw=>?_⟩,hHp,(fun hck=>absurd hck Bool.false_ne_true),?_⟩
  ·unfold execOp
   simp only[hc,Sem.run_bind,Sem.run_pure,Result.andThen_ok,e1,e2,hv w hw]
  ·exact H BB Hd fps _ w ⟨s.ag.put hdst (.val v),s.own,s.fr,s.may,s.gh⟩ hH hR hN hW
 have hbw:∀w,Hp [(b,Obj.map es clock)] w→w.heap[b]?=some (.map es clock):=fun w hw=>hw (b,.map es clock) (by simp)
 rcases hm.look hK hk with ⟨h1,h2,_⟩|⟨j,e,h1,_,_,h2⟩
 ·refine fin (lkV c' z false) (fun w hw=>?_) (A h2)
  cases c' <;> simp[Instr.lookup,run_underlying ht,MapKept.run_getObj_map (hbw w hw),hK.chk _ _ hk,h1,hzero,Result.andThen,lkV]
 ·refine fin (lkV c' e.val true) (fun w hw=>?_) (B _ h2)
  cases c' <;> simp[Instr.lookup,run_underlying ht,MapKept.run_getObj_map (hbw w hw),hK.chk _ _ hk,h1,Result.andThen,lkV]
end look
theorem opsOf_nodup (key:ByteArray) (l:List ComT):((opsOf key l).map (·.d)).Nodup:=by
 have h1:((opsRaw key l).map (·.d)).Nodup:=(firsts_nodup (s:=[]) (l:=allDone l)).sublist ((List.filter_sublist ..).map _)
 exact(((List.mergeSort_perm (opsRaw key l) fun x y=>!doneLt y x).map (·.d)).nodup_iff).2 h1
theorem ofKey_nodup (key:ByteArray) (l:List ComT):((ofKey key l).map (·.d)).Nodup:=(opsOf_nodup key l).sublist ((List.filter_sublist ..).map _)
theorem textDots_nodup {l:List DoneT} (h:(l.map (·.d)).Nodup) (t:ByteArray):(textDots l t).Nodup:=h.sublist (((List.filter_sublist ..).trans (List.filter_sublist ..)).map _)
theorem textDots_len (l:List DoneT) (t:ByteArray):(textDots l t).length≤l.length:=by
 unfold textDots
 rw[List.length_map]
 exact Nat.le_trans (List.length_filter_le _ _) (List.length_filter_le _ _)
end Go.Sx
namespace Go.Proofs.YtpjkiomccpjboaaGreatDoor
open Go Go.Sx
set_option maxHeartbeats 4000000 in
theorem vDots {w:World} {S:Nat→Prop} {er:Nat→Addr} {eb:Nat→Array Value×TypeId} {a:Option Addr} {n c:Nat} {key text:ByteArray} {l:List ComT} (hC:Rep w S .nilIface (dC er eb)) (h:Rep w S (.slice a n c) (.sl 3 (l.map eCom))) (hl:l.length≤300000) (hl1:∀x∈l,x.when.length≤1000000) (hl2:∀x∈l,x.ops.length≤1000000) :
  Calls Tryz.prog 23 #[.string key,.string text,.slice a n c] w fun e w'=>((valFault key l).code≠0∧FVal w S w' e er (valFault key l) fun v=>.tuple #[.slice none 0 0,v])∨((valFault key l).code=0∧∃ua un uc,Ret [] w S w' e (.tuple #[.slice ua un uc,.nilIface]) [] [(.slice ua un uc,.sl 3 ((dotsOf key text l).map eDot))]):=by
 refine epG Tryz.func23 bd23 (args:=[.string key,.string text,.slice a n c]) (G:=[(_,dC er eb),(_,.sl 3 (l.map eCom))]) (by kernel_rfl) (.cons hC (.cons h (.nil _ _))) ?_
 refine Zs [zR 0,zR 1] [] [zS 6 none 0 0,zV 7 .nilIface] ?_
 refine jS [(0,true),(1,true),(2,false),(3,true),(4,true),(5,true),(6,true),(7,true)] [] ?_
 refine Ya (id:=1) (rest:=[(2,false),(3,true),(4,true),(5,true),(6,true),(7,true)]) [zR 0,zR 1] [0,2] [zV 13 (.string key),zS 14 a n c] ?_
 refine Yc 61 #[.string key,.slice a n c] (some 15) fun w S hG=>?_
 refine(vOps (hG.at 0 rfl) (hG.at 1 rfl) hl hl1 hl2).mono ?_
 rintro e1 w1 (⟨hc,⟨hat,v,hR,hv⟩|⟨hc1,hat,pb,hR⟩⟩|⟨hc,a1,n1,c1,hR⟩)
 ·refine⟨_,_,_,hR,?_⟩
  rcases hv with ⟨hv0,rfl⟩|⟨hv0,rfl⟩
  ·exact absurd hv0 hc
  ·try simp only[aQ]
   refine Ya (id:=1) (rest:=[]) (Rds 3 8) [15,13,14] [zS 8 none 0 0,zV 9 (.iface 243 (.pointer (some (er (valFault key l).code))))] ?_
   refine JR_end (J_seq ?_)
   refine Zs [zR 0,zR 1] [] [zB 19 true] ?_
   refine cTt ?_
   refine Zs (Rds 0 3) [19,9] [zV 7 (.iface 243 (.pointer (some (er (valFault key l).code))))] ?_
   refine Yr [[],[]] (.tuple #[.slice none 0 0,.iface 243 (.pointer (some (er (valFault key l).code)))]) fun a w s=>?_
   exact .inl ⟨hc,.inl ⟨hat,_,s.ret (by simp) [] [] rfl rfl,.inr ⟨hv0,rfl⟩⟩⟩
 ·refine⟨_,_,_,hR,?_⟩
  try simp only[aQ]
  refine Ya (id:=1) (rest:=[]) (Rds 3 8) [15,13,14] [zS 8 none 0 0,zV 9 (.iface 102 (.pointer (sA pb 0)))] ?_
  refine JR_end (J_seq ?_)
  refine Zs [zR 0,zR 1] [] [zB 19 true] ?_
  refine cTt ?_
  refine Zs (Rds 0 3) [19,9] [zV 7 (.iface 102 (.pointer (sA pb 0)))] ?_
  refine Yr [[],[]] (.tuple #[.slice none 0 0,.iface 102 (.pointer (sA pb 0))]) fun a w s=>?_
  exact .inl ⟨hc,.inr ⟨hc1,hat,_,s.ret (by simp) [] [2] rfl rfl⟩⟩
 ·refine⟨_,_,_,hR,?_⟩
  have hlo:=opsOf_len hc
  have hlk:=ofKey_len hc
  try simp only[aQ]
  refine Ya (id:=1) (rest:=[]) (Rds 3 8) [15,13,14] [zS 8 a1 n1 c1,zV 9 .nilIface] ?_
  refine JR_end (J_seq ?_)
  refine Zs [zR 0,zR 1] [] [zB 19 false] ?_
  refine cF ?_
  refine J_skip ?_
  refine jS [(0,true),(1,false),(2,true),(3,true),(4,true),(5,true),(6,true)] [] ?_
  refine Ya (id:=4) (rest:=[(1,false),(2,true),(3,true),(4,true),(5,true),(6,true)]) [zR 0] [19,9] [zS 22 a1 n1 c1] ?_
  refine Yc 62 #[.slice a1 n1 c1] (some 23) fun w S hG=>?_
  refine(vKind (hG.at 2 rfl) (by omega)).mono ?_
  rintro e2 w2 ⟨a2,n2,c2,hR⟩
  refine⟨_,_,_,hR,?_⟩
  have hA:kindL (opsOf key l)=ofKey key l:=rfl
  rw[hA]
  by_cases hk3:kindOf (opsOf key l)=3
  ·have hd:dotsOf key text l=sortDots (textDots (ofKey key l) text):=by rw[dotsOf,if_pos hk3]
   rw[hk3]
   have hdl:∀x∈ofKey key l,x.o.dots.length≤1000000:=fun x hx=>by
    obtain⟨p,hp⟩:=fine_mem hc (mem_ofKey hx)
    have:=opErr_fine hp
    omega
   try simp only[aQ]
   refine Ya (id:=4) (rest:=[]) (Rds 2 7) [23,22] [zS 8 a2 n2 c2,zI 10 3] ?_
   refine JR_end (J_seq ?_)
   refine Zs [zR 0,zR 1] [10] [zB 27 false] ?_
   refine cF ?_
   refine J_skip ?_
   refine jS [(0,true),(1,false),(2,true),(3,true),(4,true)] [] ?_
   refine Ya (id:=7) (rest:=[(1,false),(2,true),(3,true),(4,true)]) [zR 0] [27,8] [zS 28 a2 n2 c2] ?_
   refine Yc 65 #[.slice a2 n2 c2] (some 29) fun w S hG=>?_
   refine(vLive (hG.at 3 rfl) (by omega) hdl).mono ?_
   rintro e3 w3 ⟨mb,es,clock,ks,F,hR,hm,hst,hnd,hiff⟩
   refine⟨_,_,_,hR,?_⟩
   try simp only[aQ]
   refine Ya (id:=7) (rest:=[(3,true),(4,true)]) [zR 2] [28,1] [zV 30 (.string text)] ?_
   have hnd2:=textDots_nodup (ofKey_nodup key l) text
   have hln2:=textDots_len (ofKey key l) text
   refine JRg_lookrc 0 mb 117 9 22 (MapKept.IsKey .string) (.string text) (.slice none 0 0) false (some 31) (by kernel_rfl) (by kernel_rfl) keyOk_9 (by simp[MapKept.IsKey]) (by kernel_rfl) rfl hm (fun hno=>?_) (fun v hv=>?_)
   ·have hT:text∉ks:=fun h=>by rw[strG_in h]at hno;cases hno
    have hT0:textDots (ofKey key l) text=[]:=Classical.byContradiction fun h=>hT ((hiff _).2 h)
    refine Ya (id:=7) (rest:=[]) [zR 4] [31,30,29] [zS 11 none 0 0] ?_
    refine JR_end (J_seq ?_)
    refine J_stp (stp_accm eDot 65 3) ?_
    refine Nm [cObj mb (Obj.map es clock),(cStar (List.map (fun t=>cAcc (F t) 65 3 (List.map eDot (textDots (ofKey key l) t))) ks)),cAcc (.slice none 0 0) 65 3 (List.map eDot [])] ?_
    refine jT [(0,true),(1,false)] [] ?_
    refine Ya (id:=8) (rest:=[(1,false)]) [zR 0] [] [zS 32 none 0 0] ?_
    refine JR_call [] [2] 66 #[.slice none 0 0,.func (.func 67) #[] #[]] (some 33) (by kernel_rfl) (by kernel_rfl) (by decide) (fun w S M hP hG _=>?_)
    refine(sortDotAcc (l:=[]) hP (by simp) (by simp)).mono ?_
    rintro e4 w4 hR
    refine⟨_,_,_,hR,?_⟩
    try simp only[aQ]
    refine JR_end ?_
    try simp only[aQ]
    refine J_seq ?_
    try simp only[aQ]
    refine Za (Rds 0 3) [33,32,11] [] ?_
    try simp only[aQ]
    refine Yr [[],[]] (.tuple #[.slice none 0 0,.nilIface]) fun a w s=>?_
    rw[hd,hT0]
    exact .inr ⟨hc,_,_,_,(s.stp (stp_freeze 2 rfl)).ret (by simp) [] [4] rfl rfl⟩
   ·have hT:text∈ks:=Classical.byContradiction fun h=>by rw[strG_out h]at hv;cases hv
    rw[strG_in hT]at hv
    cases hv
    obtain⟨iT,hit⟩:=List.getElem?_of_mem hT
    refine Ya (id:=7) (rest:=[]) [zR 4] [31,30,29] [zV 11 (F text)] ?_
    refine JR_end (J_seq ?_)
    refine J_stp (stp_take (c:=cAcc (F text) 65 3 ((textDots (ofKey key l) text).map eDot)) 1 iT rfl (by rw[List.getElem?_map,hit];rfl)) ?_
    refine J_stpx (stp_accform 1 rfl) fun y hF=>?_
    obtain⟨hF,hn⟩:=hF
    obtain⟨av,nv,cv⟩:=y
    dsimp only at hF hn
    rw[hF]
    refine Nm [cObj mb (Obj.map es clock),cAcc (.slice av nv cv) 65 3 (List.map eDot (textDots (ofKey key l) text)),(cStar ((List.map (fun t=>cAcc (F t) 65 3 (List.map eDot (textDots (ofKey key l) t))) ks).eraseIdx iT))] ?_
    refine jT [(0,true),(1,false)] [] ?_
    refine Ya (id:=8) (rest:=[(1,false)]) [zR 0] [] [zS 32 av nv cv] ?_
    refine JR_call [] [1] 66 #[.slice av nv cv,.func (.func 67) #[] #[]] (some 33) (by kernel_rfl) (by kernel_rfl) (by decide) (fun w S M hP hG _=>?_)
    refine(sortDotAcc hP (by omega) hnd2).mono ?_
    rintro e4 w4 hR
    refine⟨_,_,_,hR,?_⟩
    try simp only[aQ]
    refine JR_end ?_
    try simp only[aQ]
    refine J_seq ?_
    try simp only[aQ]
    refine Za (Rds 0 3) [33,32,11] [zS 6 av nv cv] ?_
    try simp only[aQ]
    refine Yr [[],[]] (.tuple #[.slice av nv cv,.nilIface]) fun a w s=>?_
    rw[hd]
    exact .inr ⟨hc,_,_,_,(s.stp (stp_freeze 2 rfl)).ret (by simp) [] [4] rfl rfl⟩
  ·have hd:dotsOf key text l=[]:=by rw[dotsOf,if_neg hk3]
   try simp only[aQ]
   refine Ya (id:=4) (rest:=[]) (Rds 2 7) [23,22] [zS 8 a2 n2 c2,zI 10 (kindOf (opsOf key l))] ?_
   refine JR_end (J_seq ?_)
   refine Zt [zR 0,.rd 1 [] 0 6] [10] [zB 27 true] [(kindOf (opsOf key l) != (3:Int))=true] ⟨by simp;omega,trivial⟩ ?_
   refine cTt ?_
   refine Zs [zR 0,zR 1] [27] [] ?_
   refine Yr [[],[]] (.tuple #[.slice none 0 0,.nilIface]) fun a w s=>?_
   rw[hd]
   exact .inr ⟨hc,_,_,_,(s.stp (stp_fact (v:=.slice none 0 0) (d:=.sl 3 []) fun _ _ _=>.nil)).ret (by simp) [] [4] rfl rfl⟩
end Go.Proofs.YtpjkiomccpjboaaGreatDoor
end
section
namespace Go.Sx
open Go
section generic
variable {α:Type} (lt:α→α→Bool)
def insG (l:List α) (x:α):List α:=l.takeWhile (fun y=>lt y x)++x::l.dropWhile (fun y=>lt y x)
theorem insG_mem {l:List α} {x z:α}:z∈insG lt l x↔z=x∨z∈l:=by
 unfold insG
 have h:z∈l↔z∈l.takeWhile (fun y=>lt y x)∨z∈l.dropWhile (fun y=>lt y x):=by
  rw[←List.mem_append,List.takeWhile_append_dropWhile]
 rw[h,List.mem_append,List.mem_cons]
 constructor
 ·rintro(h|h|h)
  ·exact .inr (.inl h)
  ·exact .inl h
  ·exact .inr (.inr h)
 ·rintro(h|h|h)
  ·exact .inr (.inl h)
  ·exact .inl h
  ·exact .inr (.inr h)
theorem insG_sorted (tr:∀a b c,lt a b=true→lt b c=true→lt a c=true) {x:α}:∀{l:List α},(∀y∈l,lt y x=true∨lt x y=true)→(l.Pairwise fun a b=>lt a b=true)→(insG lt l x).Pairwise fun a b=>lt a b=true
 | [],_,_=>by simp[insG]
 | y::l,hx,h=>by
  have h1:=List.pairwise_cons.1 h
  unfold insG
  by_cases hy:lt y x=true
  ·rw[List.takeWhile_cons_of_pos (p:=fun y=>lt y x) hy,List.dropWhile_cons_of_pos (p:=fun y=>lt y x) hy,List.cons_append]
   refine List.pairwise_cons.2 ⟨fun z hz=>?_,insG_sorted tr (fun z hz=>hx z (List.mem_cons_of_mem _ hz)) h1.2⟩
   rcases(insG_mem lt).1 hz with rfl|hz
   ·exact hy
   ·exact h1.1 z hz
  ·rw[List.takeWhile_cons_of_neg (p:=fun y=>lt y x) hy,List.dropWhile_cons_of_neg (p:=fun y=>lt y x) hy,List.nil_append]
   have hxy:=(hx y (List.mem_cons_self ..)).resolve_left hy
   refine List.pairwise_cons.2 ⟨fun z hz=>?_,h⟩
   rcases List.mem_cons.1 hz with rfl|hz
   ·exact hxy
   ·exact tr _ _ _ hxy (h1.1 z hz)
theorem insG_fold (tr:∀a b c,lt a b=true→lt b c=true→lt a c=true):∀{raw p:List α},(p.Pairwise fun a b=>lt a b=true)→(∀a∈p,∀b∈raw,lt a b=true∨lt b a=true)→(raw.Pairwise fun a b=>lt a b=true∨lt b a=true) →
  ((raw.foldl (insG lt) p).Pairwise fun a b=>lt a b=true)∧∀z,z∈raw.foldl (insG lt) p↔z∈p∨z∈raw
 | [],p,hp,_,_=>⟨hp,fun z=>by simp⟩
 | x::raw,p,hp,hc,hr=>by
  have h1:=List.pairwise_cons.1 hr
  have h2:=insG_sorted lt tr (x:=x) (fun y hy=>hc y hy x (List.mem_cons_self ..)) hp
  obtain⟨h3,h4⟩:=insG_fold tr h2 (raw:=raw) (fun a ha b hb=>by
   rcases(insG_mem lt).1 ha with rfl|ha
   ·exact h1.1 b hb
   ·exact hc a ha b (List.mem_cons_of_mem _ hb)) h1.2
  refine⟨h3,fun z=>?_⟩
  rw[List.foldl_cons,h4,insG_mem,List.mem_cons]
  constructor
  ·rintro((h|h)|h)
   ·exact .inr (.inl h)
   ·exact .inl h
   ·exact .inr (.inr h)
  ·rintro(h|h|h)
   ·exact .inl (.inr h)
   ·exact .inl (.inl h)
   ·exact .inr h
theorem merge_strict (asy:∀a b,lt a b=true→lt b a=true→False) (ntr:∀a b c,lt b a=false→lt c b=false→lt c a=false) {l:List α} (hl:l.Pairwise fun a b=>lt a b=true∨lt b a=true) :
  (l.mergeSort fun x y=>!lt y x).Pairwise fun a b=>lt a b=true:=by
 have h1:=List.pairwise_mergeSort (le:=fun x y=>!lt y x) (fun a b c h1 h2=>by simp only[Bool.not_eq_true']at *;exact ntr a b c h1 h2) (fun a b=>by
  cases h:lt b a with
  | false=>rfl
  | true=>
   cases h2:lt a b with
   | false=>rfl
   | true=>exact(asy _ _ h h2).elim) l
 have h2:(l.mergeSort fun x y=>!lt y x).Pairwise fun a b=>lt a b=true∨lt b a=true:=
  (List.mergeSort_perm l _).symm.pairwise hl fun h=>h.symm
 refine(h1.and h2).imp fun{a b} h=>?_
 have h3:lt b a=false:=by simpa using h.1
 rcases h.2 with h4|h4
 ·exact h4
 ·rw[h3]at h4;cases h4
theorem ins_sort (tr:∀a b c,lt a b=true→lt b c=true→lt a c=true) (asy:∀a b,lt a b=true→lt b a=true→False) (ntr:∀a b c,lt b a=false→lt c b=false→lt c a=false) {l:List α} (hl:l.Pairwise fun a b=>lt a b=true∨lt b a=true) :
  l.foldl (insG lt) []=l.mergeSort fun x y=>!lt y x:=by
 obtain⟨h1,h2⟩:=insG_fold lt tr (raw:=l) (p:=[]) List.Pairwise.nil (by simp) hl
 refine eq_of_sorted (lt:=fun a b=>lt a b=true) asy h1 (merge_strict lt asy ntr hl) fun x=>?_
 rw[h2,List.mem_mergeSort]
 simp
theorem insG_at {x:α}:∀{l:List α} {k:Nat},(∀y∈l.take k,lt y x=true)→(∀y,l[k]?=some y→lt y x=false)→insG lt l x=l.take k++x::l.drop k
 | [],k,_,_=>by simp[insG]
 | y::l,0,_,h2=>by
  have hy:¬lt y x=true:=by rw[h2 y rfl];exact Bool.false_ne_true
  unfold insG
  rw[List.takeWhile_cons_of_neg (p:=fun y=>lt y x) hy,List.dropWhile_cons_of_neg (p:=fun y=>lt y x) hy]
  rfl
 | y::l,k+1,h1,h2=>by
  have hy:lt y x=true:=h1 y (by simp)
  have ih:=insG_at (l:=l) (k:=k) (fun z hz=>h1 z (by rw[List.take_succ_cons];exact List.mem_cons_of_mem _ hz)) (fun z hz=>h2 z (by rw[List.getElem?_cons_succ];exact hz))
  unfold insG at ih ⊢
  rw[List.takeWhile_cons_of_pos (p:=fun y=>lt y x) hy,List.dropWhile_cons_of_pos (p:=fun y=>lt y x) hy,List.cons_append,ih,List.take_succ_cons,List.drop_succ_cons,List.cons_append]
end generic
theorem enterB_at {s:ByteArray}:∀{l:List ByteArray} {k:Nat},(∀y∈l.take k,bLt y s=true)→(∀y,l[k]?=some y→bLt y s=false)→enterB l s=if l[k]?=some s then l else l.take k++s::l.drop k
 | [],k,_,_=>by simp[enterB]
 | y::l,0,_,h2=>by
  have hy:¬bLt y s=true:=by rw[h2 y rfl];exact Bool.false_ne_true
  unfold enterB
  rw[if_neg hy]
  by_cases he:y=s
  ·simp[he]
  ·rw[if_neg he,if_neg (by simp[he])]
   rfl
 | y::l,k+1,h1,h2=>by
  have hy:bLt y s=true:=h1 y (by simp)
  have ih:=enterB_at (l:=l) (k:=k) (fun z hz=>h1 z (by rw[List.take_succ_cons];exact List.mem_cons_of_mem _ hz)) (fun z hz=>h2 z (by rw[List.getElem?_cons_succ];exact hz))
  unfold enterB
  rw[if_pos hy,ih,List.getElem?_cons_succ]
  split
  ·rfl
  ·rw[List.take_succ_cons,List.drop_succ_cons,List.cons_append]
theorem lex_ntr {xs ys zs:List Int} (h1:xs.length=ys.length) (h2:ys.length=zs.length) (h:¬lexC ys xs<0) (h':¬lexC zs ys<0):¬lexC zs xs<0:=fun hc=>by
 rcases lexC_tri h1 with h3|h3|h3
 ·rcases lexC_tri h2 with h4|h4|h4
  ·exact lexC_asymm (lexC_trans h3 h4) hc
  ·rw[h4]at h3
   exact lexC_asymm h3 hc
  ·exact h' h4
 ·rw[←h3]at h'
  exact h' hc
 ·exact h h3
theorem sort_done {l:List DoneT} (h:(l.map (·.d)).Nodup):l.foldl (insG doneLt) []=sortDone l:=by
 refine ins_sort doneLt (fun _ _ _=>doneLt_trans) (fun _ _=>doneLt_asymm) (fun a b c h1 h2=>?_) ((List.pairwise_map.1 h).imp fun{a b} hne=>?_)
 ·have h3:¬lexC (doneKey b) (doneKey a)<0:=fun hc=>by rw[doneLt_iff.2 hc]at h1;cases h1
  have h4:¬lexC (doneKey c) (doneKey b)<0:=fun hc=>by rw[doneLt_iff.2 hc]at h2;cases h2
  exact Bool.eq_false_iff.2 fun hc=>lex_ntr (xs:=doneKey a) (ys:=doneKey b) (zs:=doneKey c) rfl rfl h3 h4 (doneLt_iff.1 hc)
 ·rcases doneLt_tri a b with h1|h1|h1
  ·exact .inl h1
  ·exact absurd (doneKey_dot h1) hne
  ·exact .inr h1
theorem sort_dots {l:List DotT} (h:l.Nodup):l.foldl (insG dotLt) []=sortDots l:=by
 refine ins_sort dotLt (fun _ _ _=>dotLt_trans) (fun _ _=>dotLt_asymm) (fun a b c h1 h2=>?_) (h.imp fun{a b} hne=>?_)
 ·have h3:¬lexC (dotKey b) (dotKey a)<0:=fun hc=>by rw[dotLt_iff.2 hc]at h1;cases h1
  have h4:¬lexC (dotKey c) (dotKey b)<0:=fun hc=>by rw[dotLt_iff.2 hc]at h2;cases h2
  exact Bool.eq_false_iff.2 fun hc=>lex_ntr (xs:=dotKey a) (ys:=dotKey b) (zs:=dotKey c) rfl rfl h3 h4 (dotLt_iff.1 hc)
 ·rcases dotLt_tri a b with h1|h1|h1
  ·exact .inl h1
  ·exact absurd h1 hne
  ·exact .inr h1
end Go.Sx
end
section
namespace Go.Sx
open Go
theorem Rep.takeS {w:World} {S:Nat→Prop} {a:Option Addr} {n c k:Nat} {rows:List (List D)} (h:Rep w S (.slice a n c) (.sl k rows)) (i:Nat) (hi:i≤rows.length):Rep w S (.slice a i c) (.sl k (rows.take i)):=by
 cases h with
 | nil=>
  obtain rfl:i=0:=by simpa using hi
  exact .nil
 | sl u hb hS hc hk hl hcell hrep=>
  have:=Rep.sl (rows:=rows.take i) u hb hS (Nat.le_trans (by rw[List.length_take];exact Nat.min_le_right ..) hc) hk (fun row hr=>hl row (List.mem_of_mem_take hr)) (fun j q hj hq=>hcell j q (by rw[List.length_take]at hj;omega) hq) (fun j q row d hj hd=>hrep j q row d (by
   rw[List.getElem?_take]at hj
   split at hj
   ·exact hj
   ·cases hj) hd)
  have e:(rows.take i).length=i:=by rw[List.length_take];omega
  rw[e]at this
  exact this
theorem Rep.dropS {w:World} {S:Nat→Prop} {b off n c k:Nat} {rows:List (List D)} (h:Rep w S (.slice (some ⟨b,off,none⟩) n c) (.sl k rows)) (i:Nat) (hi:i≤rows.length):Rep w S (.slice (some ⟨b,off+i*k,none⟩) (n - i) (c - i)) (.sl k (rows.drop i)):=by
 cases h with
 | nil=>
  obtain rfl:i=0:=by simpa using hi
  exact .nil
 | sl u hb hS hc hk hl hcell hrep=>
  have:=Rep.sl (rows:=rows.drop i) (off:=off+i*k) (cap:=c - i) (fun j q=>u (i+j) q) hb hS (by rw[List.length_drop];omega) hk (fun row hr=>hl row (List.mem_of_mem_drop hr)) (fun j q hj hq=>by
   have h1:=hcell (i+j) q (by rw[List.length_drop]at hj;omega) hq
   rw[←h1,Nat.add_mul]
   congr 1
   omega) (fun j q row d hj hd=>hrep (i+j) q row d (by rw[List.getElem?_drop]at hj;exact hj) hd)
  rwa[List.length_drop]at this
theorem Rep.takeM {β:Type} {enc:β→List D} {l:List β} {w:World} {S:Nat→Prop} {a:Option Addr} {n c k:Nat} (h:Rep w S (.slice a n c) (.sl k (l.map enc))) (i:Nat) (hi:i≤l.length):Rep w S (.slice a i c) (.sl k ((l.take i).map enc)):=by
 rw[List.map_take]
 exact h.takeS i (by rw[List.length_map];exact hi)
theorem Rep.dropM {β:Type} {enc:β→List D} {l:List β} {w:World} {S:Nat→Prop} {b off n c k:Nat} (h:Rep w S (.slice (some ⟨b,off,none⟩) n c) (.sl k (l.map enc))) (i:Nat) (hi:i≤l.length):Rep w S (.slice (some ⟨b,off+i*k,none⟩) (n - i) (c - i)) (.sl k ((l.drop i).map enc)):=by
 rw[List.map_drop]
 exact h.dropS i (by rw[List.length_map];exact hi)
theorem Rep.cap {w:World} {S:Nat→Prop} {a:Option Addr} {n c k:Nat} {rows:List (List D)} (h:Rep w S (.slice a n c) (.sl k rows)):n≤c:=by
 cases h with
 | nil=>exact Nat.zero_le _
 | sl u hb hS hc=>exact hc
theorem bytesLess_eq:∀a b:List UInt8,Op.bytesLess a b=decide (a<b)
 | _,[]=>by simp[Op.bytesLess]
 | [],_::_=>by simp[Op.bytesLess]
 | a::x,b::y=>by
  rw[Op.bytesLess,bytesLess_eq x y,Bool.eq_iff_iff]
  simp only[Bool.or_eq_true,Bool.and_eq_true,decide_eq_true_eq,beq_iff_eq,List.cons_lt_cons_iff]
theorem bytesLess_b (a b:ByteArray):Op.bytesLess a.toList b.toList=bLt a b:=bytesLess_eq _ _
def GoodS (a:Option Addr) (c:Nat):Prop:=(a=none∧c=0)∨∃b off,a=some ⟨b,off,none⟩
set_option maxHeartbeats 4000000 in
theorem acc_good {w:World} {S:Nat→Prop} {fp:List Nat} {v:Value} {e k:Nat} {rows:List (List D)} (hP:(cAcc v e k rows).P w S fp):∃a c,v=.slice a rows.length c∧GoodS a c:=by
 obtain⟨_,hP⟩:=hP
 rcases hP with ⟨h1,h2,_⟩|⟨g,cap,cur,xs,h2,_⟩
 ·subst h1
  exact⟨none,0,h2,.inl ⟨rfl,rfl⟩⟩
 ·exact⟨some ⟨g,0,none⟩,cap,h2,.inr ⟨g,0,rfl⟩⟩
theorem St.accgood {n:Nat} {E:Env} {h r:List (Nat×Obj)} {F:List (List Nat×World)} {S0:Nat→Prop} {C0:List Chunk} {G0:List (Value×D)} {ac:Act} {w:World} (s:St n E h r F ⟨S0,C0,G0⟩ ac w) (q:Nat) {a:Option Addr} {m c e k:Nat} {rows:List (List D)} (hq:C0[q]?=some (cAcc (.slice a m c) e k rows)):GoodS a c:=by
 obtain⟨_,s⟩:=s
 obtain⟨_,_,hP⟩:=s.gh.chs.at hq
 obtain⟨a',c',he,hg⟩:=acc_good hP
 simp only[Value.slice.injEq]at he
 obtain⟨rfl,_,rfl⟩:=he
 exact hg
theorem goneB_snoc (p:List DoneT) (y:DoneT) (t:ByteArray) (d:DotT):goneB (p++[y]) t d=(goneB p t d||(y.o.remove&&(decide (y.o.text=t)&&decide (d∈y.o.dots)))):=by
 simp[goneB]
end Go.Sx
namespace Go.Proofs.YtpjkiomccpjboaaGreatDoor
open Go Go.Sx
theorem eqRun_eql_65 {x y:Operand} {a b c a' b' c':Int}:eqRun Tryz.prog .eql 65 x y (.agg #[.int .i64 a,.int .i64 b,.int .i64 c]) (.agg #[.int .i64 a',.int .i64 b',.int .i64 c']) (.bool (decide (a=a'∧b=b'∧c=c'))):=fun w=>by
 have h:(Op.equal 65 (.agg #[.int .i64 a,.int .i64 b,.int .i64 c]) (.agg #[.int .i64 a',.int .i64 b',.int .i64 c'])).run Tryz.prog w=.ok (decide (a=a'∧b=b'∧c=c')) w:=eqDot 9998 a b c a' b' c' w
 refine⟨?_,by simp only[binOp,Sem.run_bind,h,Result.andThen_ok,Sem.run_pure]⟩
 have hg:Tryz.prog.eqGuardType Tryz.prog.depth 65=false:=by kernel_rfl
 simp[eqGuard,hg]
set_option maxHeartbeats 4000000 in
theorem rLive {w:World} {S:Nat→Prop} {a:Option Addr} {n c:Nat} {l:List DoneT} {x:DoneT} {v:Value} (h:Rep w S (.slice a n c) (.sl 11 (l.map eDone))) (hl:l.length≤4000000) (hdl:∀y∈l,y.o.dots.length≤1000000) (ov:v.oneCell'=true) :
  Calls Tryz.prog 71 #[.slice a n c,doneA x v] w fun e w'=>Ret [] w S w' e (.bool (!x.o.remove&&!goneB l x.o.text x.d)) [] []:=by
 have e1:=h.slen
 rw[List.length_map]at e1
 subst e1
 refine epG Tryz.func71 bd71 (args:=[.slice a l.length c,doneA x v]) (S:=S) (G:=[(_,.sl 11 (l.map eDone))]) (by kernel_rfl) (.cons h (.nil _ _)) ?_
 refine Zv [.wr 0 [] 0,zR 1] [] [1] (fun nu1=>[zP 3 (nu1 0),zB 4 false]) (fun nu1=>[(nu1 0,.cells #[nI x.o.no,.string x.o.key,nI x.o.kind,.string x.o.text,nI x.o.n,.bool x.o.remove,v,nI x.d.place,nI x.d.time,nI x.d.no,nI x.w] 126 (0,0))]) (fun nu1=>?_)
 refine J_seq ?_
 refine Zs [zR 0] [] [zI 5 0] ?_
 refine J_block ?_
 refine J_loopx (fun i:Int=>[zS 0 a l.length c,zP 3 (nu1 0),zB 4 false,zI 5 i]) (fun i:Int=>[(nu1 0,.cells #[nI x.o.no,.string x.o.key,nI x.o.kind,.string x.o.text,nI x.o.n,.bool x.o.remove,v,nI x.d.place,nI x.d.time,nI x.d.no,nI x.w] 126 (0,0))]) (fun i:Int=>[]) (fun i:Int=>[(.slice a l.length c,(D.sl 11 (List.map eDone l)))]) (fun i:Int=>(l.length - i).toNat) (fun i:Int=>(0≤i∧i≤l.length∧goneB (l.take i.toNat) x.o.text x.d=false)) 0 [0,3,4,5] [0] [] [0] ?_ (by kernel_rfl) rfl rfl rfl ?_
 ·exact⟨by simp,by simp,rfl⟩
 rintro i ⟨hi0,hi,hno⟩
 refine J_seq ?_
 refine Zs (Rds 0 4) [] [zB 10 (decide (i<(↑l.length:Int)))] ?_
 refine cC (t:=decide (i<(↑l.length:Int))) (fun hlt=>?_) (fun hlt=>?_)
 ·have hlt2:i<l.length:=by simpa using hlt
  obtain⟨y,hy⟩:∃y,l[i.toNat]?=some y:=⟨_,List.getElem?_eq_getElem (by omega)⟩
  have hdy:=hdl y (List.mem_of_getElem? hy)
  refine J_read1 0 rfl i.toNat (map_at hy) (by kernel_rfl) (fun b1 off1 cs1 ty1 fz1 a1_0 c1_0 ha1 hrd1=>?_)
  cases ha1
  have hrd1_0:=rd0 (hrd1 0 _ rfl)
  have hrd1_1:=hrd1 1 _ rfl
  have hrd1_2:=hrd1 2 _ rfl
  have hrd1_3:=hrd1 3 _ rfl
  have hrd1_4:=hrd1 4 _ rfl
  have hrd1_5:=hrd1 5 _ rfl
  have hrd1_6:=hrd1 6 _ rfl
  have hrd1_7:=hrd1 7 _ rfl
  have hrd1_8:=hrd1 8 _ rfl
  have hrd1_9:=hrd1 9 _ rfl
  have hrd1_10:=hrd1 10 _ rfl
  have next:(y.o.remove=true→y.o.text=x.o.text→x.d∉y.o.dots)→goneB (l.take (i+1).toNat) x.o.text x.d=false:=fun hh=>by
   rw[←take_snoc hi0 hy,goneB_snoc,hno,Bool.false_or]
   cases hr:y.o.remove with
   | false=>rfl
   | true=>
    by_cases ht:y.o.text=x.o.text
    ·rw[decide_eq_false (hh hr ht)]
     simp
    ·rw[decide_eq_false ht]
     rfl
  cases hr:y.o.remove with
  | false=>
   try simp only[aQ]
   refine J_skip (J_seq (J_block (J_seq ?_)))
   refine Zt [zR 0,zR 1,.rd 2 [] 0 2,zR 3,zR 4,.rd 5 [.r 0 (some (.bool y.o.remove))] 0 0,.rd 6 [] 0 6,zR 7,.rd 8 [] 1 0,.rd 9 [] 1 0,.rd 10 [] 1 0,.rd 11 [] 1 0,.rd 12 [] 1 0,.rd 13 [] 1 0,.rd 14 [] 1 0,.rd 15 [] 1 0,.rd 16 [] 1 0,.rd 17 [] 1 0,zR 18] [10] [zB 31 true] [0≤i,i<(↑l.length:Int),cs1[off1+i.toNat*11+(5:Nat)]?=some (Value.bool y.o.remove),(!y.o.remove)=true] ⟨hi0,hlt2,hrd1_5,by simp;omega,trivial⟩ ?_
   refine cTt ?_
   refine J_exit rfl ?_
   refine Zp [zR 0,.rd 1 [] 0 1,zR 2] [31] [zI 5 (i+1)] [IntKind.i64.wrap (i+1)=i+1] ⟨wrap_i64 (by omega) (by omega),trivial⟩ ?_
   refine J_backx (i+1) [0,3,4,5] [0] [] [0] ?_ ?_ (by kernel_rfl) rfl rfl rfl
   ·exact⟨by omega,by omega,next fun h1=>by rw[hr]at h1;cases h1⟩
   ·omega
  | true=>
   by_cases ht:y.o.text=x.o.text
   ·have htb:(y.o.text.toList==x.o.text.toList)=true:=by rw[strEq,decide_eq_true ht]
    try simp only[aQ]
    refine J_skip (J_seq (J_block (J_seq ?_)))
    refine Zt ([zR 0,zR 1,.rd 2 [] 0 2,zR 3,zR 4,.rd 5 [.r 0 (some (.bool y.o.remove))] 0 0,.rd 6 [] 0 7]++Rds 7 10++[.rd 10 [] 0 2,zR 11,zR 12,.rd 13 [.r 0 (some (.string y.o.text))] 0 0,zR 14,zR 15,.rd 16 [.o 0 none] 0 0,.rd 17 [] 0 7,zR 18]) [10] [zB 31 false] [0≤i,i<(↑l.length:Int),cs1[off1+i.toNat*11+(5:Nat)]?=some (Value.bool y.o.remove),(!y.o.remove)=false,0≤i,i<(↑l.length:Int),cs1[off1+i.toNat*11+(3:Nat)]?=some (Value.string y.o.text),(!y.o.text.toList==x.o.text.toList)=false] ⟨hi0,hlt2,hrd1_5,by simp;omega,hi0,hlt2,hrd1_3,by simp[*];done,trivial⟩ ?_
    refine cF ?_
    refine J_skip ?_
    refine Zs [zR 0] [31] [zI 6 0] ?_
    refine J_block ?_
    refine J_loopx (fun k:Int=>[zS 0 (sA b1 off1) l.length c,zP 3 (nu1 0),zB 4 false,zI 5 i,zI 6 k]) (fun k:Int=>[(nu1 0,.cells #[nI x.o.no,.string x.o.key,nI x.o.kind,.string x.o.text,nI x.o.n,.bool x.o.remove,v,nI x.d.place,nI x.d.time,nI x.d.no,nI x.w] 126 (0,0))]) (fun k:Int=>[]) (fun k:Int=>[(.slice (sA b1 off1) l.length c,(D.sl 11 (List.map eDone l))),(.slice (a1_0,c1_0).fst ((List.map eDot y.o.dots).length) c1_0,(D.sl 3 (List.map eDot y.o.dots)))]) (fun k:Int=>(y.o.dots.length - k).toNat) (fun k:Int=>(0≤k∧k≤y.o.dots.length∧∀z∈y.o.dots.take k.toNat,x.d≠z)) 0 [0,3,4,5,6] [0] [] [0,1] ?_ (by kernel_rfl) rfl rfl rfl ?_
    ·exact⟨by simp,by simp,by simp⟩
    rintro k ⟨hk0,hk,hkn⟩
    refine J_seq ?_
    refine Zt (Rds 0 3++[.rd 3 [] 0 2,zR 4,zR 5,.rd 6 [.r 0 (some (.slice (a1_0,c1_0).fst ((List.map eDot y.o.dots).length) c1_0))] 0 0,zR 7,zR 8]) [] [zB 40 (decide (k<(↑(List.map eDot y.o.dots).length:Int)))] [0≤i,i<(↑l.length:Int),cs1[off1+i.toNat*11+(6:Nat)]?=some (Value.slice (a1_0,c1_0).fst (List.map eDot y.o.dots).length (a1_0,c1_0).snd)] ⟨hi0,hlt2,hrd1_6,trivial⟩ ?_
    refine cC (t:=decide (k<(↑(List.map eDot y.o.dots).length:Int))) (fun hlt1=>?_) (fun hlt1=>?_)
    ·have hlt3:k<y.o.dots.length:=by simpa using hlt1
     obtain⟨z,hz⟩:∃z,y.o.dots[k.toNat]?=some z:=⟨_,List.getElem?_eq_getElem (by omega)⟩
     refine J_read0 1 rfl k.toNat (map_at hz) (by kernel_rfl) (fun b2 off2 cs2 ty2 fz2 ha2 hrd2=>?_)
     cases ha2
     have hrd2_0:=rd0 (hrd2 0 _ rfl)
     have hrd2_1:=hrd2 1 _ rfl
     have hrd2_2:=hrd2 2 _ rfl
     try simp only[aQ]
     refine J_skip (J_seq (J_block ?_))
     refine Zt [zR 0,zR 1,.rd 2 [] 0 2,zR 3,zR 4,.rd 5 [.r 0 (some (.slice (sA b2 off2) ((List.map eDot y.o.dots).length) c1_0))] 0 0,zR 6,.rd 7 [] 0 2,.rd 8 [.r 1 (some (nI z.place)),.r 1 (some (nI z.time)),.r 1 (some (nI z.no))] 0 0,zR 9,.rd 10 (hnO 0 3) 0 0,.rd 11 [.r 0 (some (.bool (decide (z.place=x.d.place∧z.time=x.d.time∧z.no=x.d.no))))] 0 10] [40] [zB 54 (decide (z.place=x.d.place∧z.time=x.d.time∧z.no=x.d.no))] [0≤i,i<(↑l.length:Int),cs1[off1+i.toNat*11+(6:Nat)]?=some (Value.slice (some (Addr.mk b2 off2 none),c1_0).fst (List.map eDot y.o.dots).length (some (Addr.mk b2 off2 none),c1_0).snd),0≤k,k<(↑(List.map eDot y.o.dots).length:Int),cs2[off2+k.toNat*3]?=some (nI z.place),cs2[off2+k.toNat*3+(1:Nat)]?=some (nI z.time),cs2[off2+k.toNat*3+(2:Nat)]?=some (nI z.no),eqRun Tryz.prog .eql 65 (Operand.tmp 51) (Operand.tmp 53) (.agg #[nI z.place,nI z.time,nI z.no]) (.agg #[nI x.d.place,nI x.d.time,nI x.d.no]) (.bool (decide (z.place=x.d.place∧z.time=x.d.time∧z.no=x.d.no)))] ⟨hi0,hlt2,hrd1_6,hk0,by simp;omega,hrd2_0,hrd2_1,hrd2_2,eqRun_eql_65,trivial⟩ ?_
     refine cC (t:=decide (z.place=x.d.place∧z.time=x.d.time∧z.no=x.d.no)) (fun he=>?_) (fun he=>?_)
     ·have hzx:z=x.d:=by
       simp only[decide_eq_true_eq]at he
       cases z;cases hxd:x.d;simp_all
      have e:(!x.o.remove&&!goneB l x.o.text x.d)=false:=by
       have:goneB l x.o.text x.d=true:=by
        simp only[goneB,List.any_eq_true]
        refine⟨y,List.mem_of_getElem? hy,?_⟩
        rw[hr,decide_eq_true ht,decide_eq_true (by rw[←hzx];exact List.mem_of_getElem? hz)]
        rfl
       rw[this]
       simp
      rw[e]
      refine Zs [zR 0] [54] [] ?_
      refine Yr [[]] (.bool false) fun a w s=>?_
      exact s.ret (by simp) [] [] rfl rfl
     ·have hzx:x.d≠z:=fun h=>by subst h;simp at he
      refine J_skip (J_eb ?_)
      refine Zp [zR 0,.rd 1 [] 0 1,zR 2] [54] [zI 6 (k+1)] [IntKind.i64.wrap (k+1)=k+1] ⟨wrap_i64 (by omega) (by omega),trivial⟩ ?_
      refine J_backx (k+1) [0,3,4,5,6] [0] [] [0,1] ?_ ?_ (by kernel_rfl) rfl rfl rfl
      ·refine⟨by omega,by omega,fun q hq=>?_⟩
       rw[←take_snoc hk0 hz,List.mem_append,List.mem_singleton]at hq
       rcases hq with hq|rfl
       ·exact hkn q hq
       ·exact hzx
      ·omega
    ·have hkl:y.o.dots.take k.toNat=y.o.dots:=List.take_of_length_le (by simp at hlt1;omega)
     rw[hkl]at hkn
     refine J_exit rfl ?_
     refine J_eb ?_
     refine Zp [zR 0,.rd 1 [] 0 1,zR 2] [40] [zI 5 (i+1)] [IntKind.i64.wrap (i+1)=i+1] ⟨wrap_i64 (by omega) (by omega),trivial⟩ ?_
     refine J_backx (i+1) [0,3,4,5] [0] [] [0] ?_ ?_ (by kernel_rfl) rfl rfl rfl
     ·exact⟨by omega,by omega,next fun _ _ hm=>hkn _ hm rfl⟩
     ·omega
   ·have htb:(y.o.text.toList==x.o.text.toList)=false:=by rw[strEq,decide_eq_false ht]
    try simp only[aQ]
    refine J_skip (J_seq (J_block (J_seq ?_)))
    refine Zt ([zR 0,zR 1,.rd 2 [] 0 2,zR 3,zR 4,.rd 5 [.r 0 (some (.bool y.o.remove))] 0 0,.rd 6 [] 0 7]++Rds 7 10++[.rd 10 [] 0 2,zR 11,zR 12,.rd 13 [.r 0 (some (.string y.o.text))] 0 0,zR 14,zR 15,.rd 16 [.o 0 none] 0 0,.rd 17 [] 0 6,zR 18]) [10] [zB 31 true] [0≤i,i<(↑l.length:Int),cs1[off1+i.toNat*11+(5:Nat)]?=some (Value.bool y.o.remove),(!y.o.remove)=false,0≤i,i<(↑l.length:Int),cs1[off1+i.toNat*11+(3:Nat)]?=some (Value.string y.o.text),(!y.o.text.toList==x.o.text.toList)=true] ⟨hi0,hlt2,hrd1_5,by simp;omega,hi0,hlt2,hrd1_3,by simp[*];done,trivial⟩ ?_
    refine cTt ?_
    refine J_exit rfl ?_
    refine Zp [zR 0,.rd 1 [] 0 1,zR 2] [31] [zI 5 (i+1)] [IntKind.i64.wrap (i+1)=i+1] ⟨wrap_i64 (by omega) (by omega),trivial⟩ ?_
    refine J_backx (i+1) [0,3,4,5] [0] [] [0] ?_ ?_ (by kernel_rfl) rfl rfl rfl
    ·exact⟨by omega,by omega,next fun _ h2=>absurd h2 ht⟩
    ·omega
 ·have hil:l.take i.toNat=l:=List.take_of_length_le (by simp at hlt;omega)
  rw[hil]at hno
  rw[hno]
  refine J_exit rfl ?_
  refine Zs [zR 0,zR 1,.rd 2 [.o 0 none] 0 0,zR 3,zR 4] [10,0,3,5] [zB 4 !x.o.remove] ?_
  refine Yr [[]] (.bool !x.o.remove) fun a w s=>?_
  have e:(!x.o.remove&&!false)=!x.o.remove:=by simp
  rw[e]
  exact s.ret (by simp) [] [] rfl rfl
set_option maxHeartbeats 4000000 in
theorem rEnter {w:World} {S:Nat→Prop} {a:Option Addr} {n c:Nat} {l:List ByteArray} {t:ByteArray} (h:Rep w S (.slice a n c) (dStrs l)) (hl:l.length≤4000000) (hg:GoodS a c) :
  Calls Tryz.prog 72 #[.slice a n c,.string t] w fun e w'=>∃ua un uc,Ret [] w S w' e (.slice ua un uc) [] [(.slice ua un uc,dStrs (enterB l t))]∧GoodS ua uc:=by
 have e1:=h.slen
 rw[List.length_map]at e1
 subst e1
 refine epG Tryz.func72 bd72 (args:=[.slice a l.length c,.string t]) (S:=S) (G:=[(_,dStrs l)]) (by kernel_rfl) (.cons h (.nil _ _)) ?_
 refine Zs [zR 0] [] [zS 4 none 0 0] ?_
 refine Zs [zR 0] [] [zI 5 0] ?_
 refine J_seq (J_block ?_)
 refine J_loopx (fun k:Int=>[zS 0 a l.length c,zV 1 (.string t),zS 4 none 0 0,zI 5 k]) (fun k:Int=>[]) (fun k:Int=>[]) (fun k:Int=>[(.slice a l.length c,(dStrs l))]) (fun k:Int=>(l.length - k).toNat) (fun k:Int=>(0≤k∧k≤l.length∧∀y∈l.take k.toNat,bLt y t=true)) 0 [0,1,4,5] [] [] [0] ?_ (by kernel_rfl) rfl rfl rfl ?_
 ·exact⟨by simp,by simp,by simp⟩
 rintro k ⟨hk0,hk,hkn⟩
 have hcap:=h.cap
 by_cases hlt:k<l.length
 ·obtain⟨x,hx⟩:∃x,l[k.toNat]?=some x:=⟨_,List.getElem?_eq_getElem (by omega)⟩
  refine J_read0 0 rfl k.toNat (map_at hx) (by kernel_rfl) (fun b1 off1 cs1 ty1 fz1 ha1 hrd1=>?_)
  cases ha1
  have hrd1_0:=rd0 (hrd1 0 _ rfl)
  cases hb:bLt x t with
  | true=>
   have hb2:Op.bytesLess x.toList t.toList=true:=by rw[bytesLess_b,hb]
   try simp only[aQ]
   refine J_seq ?_
   refine Zt (Rds 0 3++[.rd 3 [] 0 6]++Rds 4 7++[.rd 7 [] 0 2,.rd 8 [.r 0 (some (.string x))] 0 0,zR 9,.rd 10 [] 0 6,zR 11]) [] [zB 18 true] [decide (k<(↑l.length:Int))=true,0≤k,k<(↑l.length:Int),cs1[off1+k.toNat*1]?=some (Value.string x),Op.bytesLess x.toList t.toList=true] ⟨by simp;omega,hk0,hlt,hrd1_0,by assumption,trivial⟩ ?_
   refine cTt ?_
   refine J_skip (J_block ?_)
   refine Zp [zR 0,.rd 1 [] 0 1,zR 2] [18] [zI 5 (k+1)] [IntKind.i64.wrap (k+1)=k+1] ⟨wrap_i64 (by omega) (by omega),trivial⟩ ?_
   refine J_eb ?_
   refine J_backx (k+1) [0,1,4,5] [] [] [0] ?_ ?_ (by kernel_rfl) rfl rfl rfl
   ·refine⟨by omega,by omega,fun y hy=>?_⟩
    rw[←take_snoc hk0 hx,List.mem_append,List.mem_singleton]at hy
    rcases hy with hy|rfl
    ·exact hkn y hy
    ·exact hb
   ·omega
  | false=>
   have hb2:Op.bytesLess x.toList t.toList=false:=by rw[bytesLess_b,hb]
   have hen:=enterB_at (s:=t) (k:=k.toNat) hkn fun y hy=>by rw[hx]at hy;cases hy;exact hb
   by_cases hxt:x=t
   ·have hq:(x.toList==t.toList)=true:=by rw[strEq,decide_eq_true hxt]
    try simp only[aQ]
    refine J_seq ?_
    refine Zt (Rds 0 3++[.rd 3 [] 0 6]++Rds 4 7++[.rd 7 [] 0 2,.rd 8 [.r 0 (some (.string x))] 0 0,zR 9,.rd 10 [] 0 7,zR 11]) [] [zB 18 false] [decide (k<(↑l.length:Int))=true,0≤k,k<(↑l.length:Int),cs1[off1+k.toNat*1]?=some (Value.string x),Op.bytesLess x.toList t.toList=false] ⟨by simp;omega,hk0,hlt,hrd1_0,by assumption,trivial⟩ ?_
    refine cF ?_
    refine J_exit rfl ?_
    refine J_seq ?_
    refine Zt (Rds 0 3++[.rd 3 [] 0 6]++Rds 4 7++[.rd 7 [] 0 2,.rd 8 [.r 0 (some (.string x))] 0 0,zR 9,.rd 10 [] 0 6,zR 11]) [18] [zB 32 true] [decide (k<(↑l.length:Int))=true,0≤k,k<(↑l.length:Int),cs1[off1+k.toNat*1]?=some (Value.string x),(x.toList==t.toList)=true] ⟨by simp;omega,hk0,hlt,hrd1_0,by assumption,trivial⟩ ?_
    refine cTt ?_
    refine Zs [zR 0,zR 1] [32] [zS 4 (sA b1 off1) l.length c] ?_
    refine Yr [[]] (.slice (sA b1 off1) l.length c) fun a w s=>?_
    rw[hen,if_pos (by rw[hx,hxt])]
    exact⟨_,_,_,s.ret (by simp) [] [0] rfl rfl,.inr ⟨_,_,rfl⟩⟩
   ·have hq:(x.toList==t.toList)=false:=by rw[strEq,decide_eq_false hxt]
    rw[if_neg (by rw[hx];exact fun hc=>hxt (Option.some.inj hc))]at hen
    rw[hen,show l.take k.toNat++t::l.drop k.toNat=l.take k.toNat++[t]++l.drop k.toNat by simp]
    try simp only[aQ]
    refine J_seq ?_
    refine Zt (Rds 0 3++[.rd 3 [] 0 6]++Rds 4 7++[.rd 7 [] 0 2,.rd 8 [.r 0 (some (.string x))] 0 0,zR 9,.rd 10 [] 0 7,zR 11]) [] [zB 18 false] [decide (k<(↑l.length:Int))=true,0≤k,k<(↑l.length:Int),cs1[off1+k.toNat*1]?=some (Value.string x),Op.bytesLess x.toList t.toList=false] ⟨by simp;omega,hk0,hlt,hrd1_0,by assumption,trivial⟩ ?_
    refine cF ?_
    refine J_exit rfl ?_
    refine J_seq ?_
    refine Zt (Rds 0 3++[.rd 3 [] 0 6]++Rds 4 7++[.rd 7 [] 0 2,.rd 8 [.r 0 (some (.string x))] 0 0,zR 9,.rd 10 [] 0 7,zR 11]) [18] [zB 32 false] [decide (k<(↑l.length:Int))=true,0≤k,k<(↑l.length:Int),cs1[off1+k.toNat*1]?=some (Value.string x),(x.toList==t.toList)=false] ⟨by simp;omega,hk0,hlt,hrd1_0,by assumption,trivial⟩ ?_
    refine cF ?_
    refine J_skip ?_
    refine Zs [zR 0] [32] [zS 6 none 0 0] ?_
    refine J_seq ?_
    refine J_stp (stp_fact fun w S H=>(H (_,_) (List.mem_of_getElem? (i:=0) rfl)).takeM k.toNat (by omega)) ?_
    refine J_stp (stp_accm eS 9 1) ?_
    refine Nm [cAcc (.slice none 0 0) 9 1 (List.map eS [])] ?_
    try simp only[aQ]
    refine jT [(0,true),(1,true),(2,true),(3,true),(4,false),(5,true)] [] ?_
    refine Yp (id:=7) (rest:=[(4,false),(5,true)]) (Rds 0 3++[.rd 3 [] 0 4]) [] [zS 34 none 0 0,zS 37 (sA b1 off1) k.toNat c] [0≤k,k≤(↑c:Int)] ⟨hk0,by omega,trivial⟩ ?_
    refine JR_appm 0 45 9 1 16 (.string (ByteArray.mk #[])) (a0:=none) (len:=0) (cap0:=0) (ax:=(some (⟨b1,off1,none⟩))) (m:=k.toNat) (c:=c) (dst:=(some 38)) (List.take k.toNat l) (by kernel_rfl) (by kernel_rfl) (by kernel_rfl) (by kernel_rfl) rfl (by decide) rfl (fun _ _ _ s=>src_fact s 1 rfl (by decide)) (by simp only[maxLen];omega) (by omega) (fun av1 cv1=>?_)
    rw[Nat.zero_add]
    try simp only[aQ]
    refine Ya (id:=7) (rest:=[]) [zR 5] [38,34,37] [zS 6 av1 k.toNat cv1] ?_
    try simp only[aQ]
    refine JR_end ?_
    try simp only[aQ]
    refine J_seq ?_
    try simp only[aQ]
    refine jT [(0,true),(1,true),(2,false),(3,false),(4,true)] [] ?_
    refine Ym (id:=8) (rest:=[(3,false),(4,true)]) [zR 0,zR 1,.wr 2 [] 0] [1] (fun nu1=>[zS 39 av1 k.toNat cv1,zS 41 (sA (nu1 0) 0) 1 1]) (fun nu1=>[(nu1 0,.cells #[.string t] 9 (0,0))]) [] (fun nu1=>?_)
    refine JR_appm 0 45 9 1 16 (.string (ByteArray.mk #[])) (a0:=av1) (len:=k.toNat) (cap0:=cv1) (ax:=(some (⟨nu1 0,0,none⟩))) (m:=1) (c:=1) (dst:=(some 42)) [t] (by kernel_rfl) (by kernel_rfl) (by kernel_rfl) (by kernel_rfl) rfl (by decide) rfl (fun _ _ _ s=>src_one s 0 rfl rfl ⟨.inl ⟨rfl,rfl⟩,trivial⟩) (by simp only[maxLen];omega) (by omega) (fun av2 cv2=>?_)
    try simp only[aQ]
    refine Ya (id:=8) (rest:=[]) [zR 4] [42,39,41] [zS 6 av2 (k.toNat+1) cv2] ?_
    try simp only[aQ]
    refine JR_end ?_
    try simp only[aQ]
    refine J_seq ?_
    try simp only[aQ]
    refine J_stp (stp_fact fun w S H=>(H (_,_) (List.mem_of_getElem? (i:=0) rfl)).dropM k.toNat (by omega)) ?_
    refine Nm [cAcc (.slice av2 (k.toNat+1) cv2) 9 1 (List.map eS (List.take k.toNat l++[t]))] ?_
    try simp only[aQ]
    refine jT [(0,true),(1,true),(2,true),(3,true),(4,false),(5,true)] [] ?_
    refine Yp (id:=9) (rest:=[(4,false),(5,true)]) (Rds 0 3++[.rd 3 [] 0 4]) [6,0,5] [zS 43 av2 (k.toNat+1) cv2,zS 46 (sA b1 (off1+k.toNat*1)) (l.length - k.toNat) (c - k.toNat)] [0≤k,k≤(↑l.length:Int),k<(↑c:Int)] ⟨hk0,hk,by omega,trivial⟩ ?_
    refine JR_appm 0 45 9 1 16 (.string (ByteArray.mk #[])) (a0:=av2) (len:=k.toNat+1) (cap0:=cv2) (ax:=(some (⟨b1,off1+k.toNat*1,none⟩))) (m:=l.length - k.toNat) (c:=c - k.toNat) (dst:=(some 47)) (List.drop k.toNat l) (by kernel_rfl) (by kernel_rfl) (by kernel_rfl) (by kernel_rfl) rfl (by decide) rfl (fun _ _ _ s=>src_fact s 2 rfl (by decide)) (by simp only[maxLen];omega) (by omega) (fun av3 cv3=>?_)
    try simp only[aQ]
    refine Ya (id:=9) (rest:=[]) [zR 5] [47,43,46] [zS 4 av3 (k.toNat+1+(l.length - k.toNat)) cv3] ?_
    try simp only[aQ]
    refine JR_end ?_
    try simp only[aQ]
    refine Yr [[]] (.slice av3 (k.toNat+1+(l.length - k.toNat)) cv3) fun a w s=>?_
    have hga:=s.accgood 0 rfl
    exact⟨_,_,_,(s.stp (stp_freeze 0 rfl)).ret (by simp) [] [3] rfl rfl,hga⟩
 ·have hen:=enterB_at (l:=l) (s:=t) (k:=k.toNat) hkn fun y hy=>by
   have:=(List.getElem?_eq_some_iff.1 hy).1
   omega
  rw[if_neg (by rw[List.getElem?_eq_none (by omega)];simp)]at hen
  rw[hen,show l.take k.toNat++t::l.drop k.toNat=l.take k.toNat++[t]++l.drop k.toNat by simp]
  refine J_seq ?_
  refine Zt (Rds 0 3++[.rd 3 [] 0 7,zR 4,.rd 5 [] 1 0,.rd 6 [] 1 0,.rd 7 [] 1 0,.rd 8 [] 1 0,.rd 9 [] 1 0,.rd 10 [] 1 0,zR 11]) [] [zB 18 false] [decide (k<(↑l.length:Int))=false] ⟨by simp;omega,trivial⟩ ?_
  refine cF ?_
  refine J_exit rfl ?_
  refine J_seq ?_
  refine Zt (Rds 0 3++[.rd 3 [] 0 7,zR 4,.rd 5 [] 1 0,.rd 6 [] 1 0,.rd 7 [] 1 0,.rd 8 [] 1 0,.rd 9 [] 1 0,.rd 10 [] 1 0,zR 11]) [18] [zB 32 false] [decide (k<(↑l.length:Int))=false] ⟨by simp;omega,trivial⟩ ?_
  refine cF ?_
  refine J_skip ?_
  refine Zs [zR 0] [32] [zS 6 none 0 0] ?_
  refine J_seq ?_
  refine J_stp (stp_fact fun w S H=>(H (_,_) (List.mem_of_getElem? (i:=0) rfl)).takeM k.toNat (by omega)) ?_
  refine J_stp (stp_accm eS 9 1) ?_
  refine Nm [cAcc (.slice none 0 0) 9 1 (List.map eS [])] ?_
  try simp only[aQ]
  refine jT [(0,true),(1,true),(2,true),(3,true),(4,false),(5,true)] [] ?_
  refine Yp (id:=7) (rest:=[(4,false),(5,true)]) (Rds 0 3++[.rd 3 [] 0 4]) [] [zS 34 none 0 0,zS 37 a k.toNat c] [0≤k,k≤(↑c:Int)] ⟨hk0,by omega,trivial⟩ ?_
  refine JR_appm 0 45 9 1 16 (.string (ByteArray.mk #[])) (a0:=none) (len:=0) (cap0:=0) (ax:=a) (m:=k.toNat) (c:=c) (dst:=(some 38)) (List.take k.toNat l) (by kernel_rfl) (by kernel_rfl) (by kernel_rfl) (by kernel_rfl) rfl (by decide) rfl (fun _ _ _ s=>src_fact s 1 rfl (by decide)) (by simp only[maxLen];omega) (by omega) (fun av1 cv1=>?_)
  rw[Nat.zero_add]
  try simp only[aQ]
  refine Ya (id:=7) (rest:=[]) [zR 5] [38,34,37] [zS 6 av1 k.toNat cv1] ?_
  try simp only[aQ]
  refine JR_end ?_
  try simp only[aQ]
  refine J_seq ?_
  try simp only[aQ]
  refine jT [(0,true),(1,true),(2,false),(3,false),(4,true)] [] ?_
  refine Ym (id:=8) (rest:=[(3,false),(4,true)]) [zR 0,zR 1,.wr 2 [] 0] [1] (fun nu1=>[zS 39 av1 k.toNat cv1,zS 41 (sA (nu1 0) 0) 1 1]) (fun nu1=>[(nu1 0,.cells #[.string t] 9 (0,0))]) [] (fun nu1=>?_)
  refine JR_appm 0 45 9 1 16 (.string (ByteArray.mk #[])) (a0:=av1) (len:=k.toNat) (cap0:=cv1) (ax:=(some (⟨nu1 0,0,none⟩))) (m:=1) (c:=1) (dst:=(some 42)) [t] (by kernel_rfl) (by kernel_rfl) (by kernel_rfl) (by kernel_rfl) rfl (by decide) rfl (fun _ _ _ s=>src_one s 0 rfl rfl ⟨.inl ⟨rfl,rfl⟩,trivial⟩) (by simp only[maxLen];omega) (by omega) (fun av2 cv2=>?_)
  try simp only[aQ]
  refine Ya (id:=8) (rest:=[]) [zR 4] [42,39,41] [zS 6 av2 (k.toNat+1) cv2] ?_
  try simp only[aQ]
  refine JR_end ?_
  try simp only[aQ]
  refine J_seq ?_
  try simp only[aQ]
  have hkl:k=l.length:=by omega
  have hnil:∀w S,Rep w S (.slice a 0 0) (dStrs (l.drop k.toNat)):=fun w S=>by
   rw[List.drop_of_length_le (by omega)]
   exact .nil
  by_cases hcl:l.length=c
  ·refine J_stp (stp_fact fun w S _=>hnil w S) ?_
   refine Nm [cAcc (.slice av2 (k.toNat+1) cv2) 9 1 (List.map eS (List.take k.toNat l++[t]))] ?_
   try simp only[aQ]
   refine jT [(0,true),(1,true),(2,true),(3,true),(4,false),(5,true)] [] ?_
   refine Yp (id:=9) (rest:=[(4,false),(5,true)]) (Rds 0 3++[.rd 3 [] 0 5]) [6,0,5] [zS 43 av2 (k.toNat+1) cv2,zS 46 a 0 0] [k=(↑c:Int),l.length=c] ⟨by omega,hcl,trivial⟩ ?_
   refine JR_appm 0 45 9 1 16 (.string (ByteArray.mk #[])) (a0:=av2) (len:=k.toNat+1) (cap0:=cv2) (ax:=a) (m:=0) (c:=0) (dst:=(some 47)) (List.drop k.toNat l) (by kernel_rfl) (by kernel_rfl) (by kernel_rfl) (by kernel_rfl) rfl (by decide) rfl (fun _ _ _ s=>src_fact s 2 rfl (by decide)) (by simp only[maxLen];omega) (by omega) (fun av3 cv3=>?_)
   try simp only[aQ]
   refine Ya (id:=9) (rest:=[]) [zR 5] [47,43,46] [zS 4 av3 (k.toNat+1) cv3] ?_
   try simp only[aQ]
   refine JR_end ?_
   try simp only[aQ]
   refine Yr [[]] (.slice av3 (k.toNat+1) cv3) fun a w s=>?_
   have hga:=s.accgood 0 rfl
   exact⟨_,_,_,(s.stp (stp_freeze 0 rfl)).ret (by simp) [] [3] rfl rfl,hga⟩
  ·rcases hg with ⟨rfl,rfl⟩|⟨b,off,rfl⟩
   ·omega
   ·refine J_stp (stp_fact fun w S H=>(H (_,_) (List.mem_of_getElem? (i:=0) rfl)).dropM k.toNat (by omega)) ?_
    refine Nm [cAcc (.slice av2 (k.toNat+1) cv2) 9 1 (List.map eS (List.take k.toNat l++[t]))] ?_
    try simp only[aQ]
    refine jT [(0,true),(1,true),(2,true),(3,true),(4,false),(5,true)] [] ?_
    refine Yp (id:=9) (rest:=[(4,false),(5,true)]) (Rds 0 3++[.rd 3 [] 0 4]) [6,0,5] [zS 43 av2 (k.toNat+1) cv2,zS 46 (sA b (off+k.toNat*1)) (l.length - k.toNat) (c - k.toNat)] [0≤k,k≤(↑l.length:Int),k<(↑c:Int)] ⟨hk0,hk,by omega,trivial⟩ ?_
    refine JR_appm 0 45 9 1 16 (.string (ByteArray.mk #[])) (a0:=av2) (len:=k.toNat+1) (cap0:=cv2) (ax:=(some (⟨b,off+k.toNat*1,none⟩))) (m:=l.length - k.toNat) (c:=c - k.toNat) (dst:=(some 47)) (List.drop k.toNat l) (by kernel_rfl) (by kernel_rfl) (by kernel_rfl) (by kernel_rfl) rfl (by decide) rfl (fun _ _ _ s=>src_fact s 2 rfl (by decide)) (by simp only[maxLen];omega) (by omega) (fun av3 cv3=>?_)
    try simp only[aQ]
    refine Ya (id:=9) (rest:=[]) [zR 5] [47,43,46] [zS 4 av3 (k.toNat+1+(l.length - k.toNat)) cv3] ?_
    try simp only[aQ]
    refine JR_end ?_
    try simp only[aQ]
    refine Yr [[]] (.slice av3 (k.toNat+1+(l.length - k.toNat)) cv3) fun a w s=>?_
    have hga:=s.accgood 0 rfl
    exact⟨_,_,_,(s.stp (stp_freeze 0 rfl)).ret (by simp) [] [3] rfl rfl,hga⟩
end Go.Proofs.YtpjkiomccpjboaaGreatDoor
end
