/- Part 6 of the texts of a claim: CmpD ListF SortK SortAt Ops Kind. -/
import Derived.Shelf.SlSortCmp.InsertionK
import Derived.Test.YtmkapocibaojdaaGreatDoorShelf
import Derived.Test.YtmkapocibaojdaaGreatDoorTs5
section
namespace Go.Proofs.YtmkapocibaojdaaGreatDoor
open Go Go.Sx
set_option maxHeartbeats 4000000 in
theorem isNaN {w:World} {S:Nat→Prop} {x:Int}:Calls Tryz.prog 219 #[.int .i64 x] w fun e w'=>Ret [] w S w' e (.bool false) [] []:=by
 refine epG Tryz.func219 bd219 (args:=[.int .i64 x]) (S:=S) (G:=[]) (by kernel_rfl) (.nil _ _) ?_
 refine Zs [zR 0] [] [zB 2 false] ?_
 refine Zs (Rds 0 4) [0] [zB 2 (x != x)] ?_
 refine Yr [[]] (.bool (x != x)) fun a w s=>?_
 have e1:false=!decide (x=x):=by simp
 rw[e1]
 exact s.ret (by simp) [] [] rfl rfl
set_option maxHeartbeats 4000000 in
theorem cmpC {w:World} {S:Nat→Prop} {x y:Int}:Calls Tryz.prog 199 #[.int .i64 x,.int .i64 y] w fun e w'=>Ret [] w S w' e (.int .i64 (cmpI x y)) [] []:=by
 refine epG Tryz.func199 bd199 (args:=[.int .i64 x,.int .i64 y]) (S:=S) (G:=[]) (by kernel_rfl) (.nil _ _) ?_
 refine Zs [zR 0] [] [zI 4 0] ?_
 refine jS [(0,true),(1,false),(2,true)] [] ?_
 refine Ya [zR 0] [] [zI 7 x] ?_
 refine Yc 219 #[nI x] (some 8) fun w S hG=>?_
 refine(isNaN (S:=S)).mono ?_
 rintro e1 w1 hR
 refine⟨_,_,_,hR,?_⟩
 try simp only[aQ]
 refine Ya [zR 2] [8,7] [zB 5 false] ?_
 refine JR_end ?_
 refine jS [(0,true),(1,false),(2,true)] [] ?_
 refine Ya [zR 0] [] [zI 9 y] ?_
 refine Yc 219 #[nI y] (some 10) fun w S hG=>?_
 refine(isNaN (S:=S)).mono ?_
 rintro e2 w2 hR
 refine⟨_,_,_,hR,?_⟩
 try simp only[aQ]
 refine Ya [zR 2] [10,9] [zB 6 false] ?_
 refine JR_end (J_seq ?_)
 refine Zs [zR 0] [5] [zB 11 false] ?_
 refine cF ?_
 refine J_skip (J_seq ?_)
 refine Zs [zR 0] [11,6] [zB 13 false] ?_
 refine cF ?_
 refine J_skip (J_seq ?_)
 refine Zs (Rds 0 3) [13] [zB 16 (decide (x<y))] ?_
 refine cC (t:=decide (x<y)) (fun h1=>?_) (fun h1=>?_)
 ·refine J_seq ?_
  refine Za [zR 0] [16] [zI 4 (-1)] ?_
  refine Yr [[]] (nI (-1)) fun a w s=>?_
  have e3:cmpI x y = -1:=by simp at h1;simp[cmpI,h1]
  rw[e3]
  exact s.ret (by simp) [] [] rfl rfl
 ·refine J_skip ?_
  refine J_seq ?_
  refine Zs (Rds 0 3) [16,0,1] [zB 19 (decide (x>y))] ?_
  refine cC (t:=decide (x>y)) (fun h2=>?_) (fun h2=>?_)
  ·refine J_seq ?_
   refine Za [zR 0] [19] [zI 4 1] ?_
   refine Yr [[]] (nI 1) fun a w s=>?_
   have e3:cmpI x y=1:=by simp at h1 h2;rw[cmpI,if_neg (by omega),if_pos (by omega)]
   rw[e3]
   exact s.ret (by simp) [] [] rfl rfl
  ·refine J_skip ?_
   refine Zs [zR 0] [19] [] ?_
   refine Yr [[]] (nI 0) fun a w s=>?_
   have e3:cmpI x y=0:=by simp at h1 h2;rw[cmpI,if_neg (by omega),if_neg (by omega)]
   rw[e3]
   exact s.ret (by simp) [] [] rfl rfl
set_option maxHeartbeats 4000000 in
theorem orC {w:World} {S:Nat→Prop} {a:Option Addr} {n c:Nat} {xs:List Int} (ha:Rep w S (.slice a n c) (dInts xs)) (hl:xs.length≤1000000) :
  Calls Tryz.prog 198 #[.slice a n c] w fun e w'=>Ret [] w S w' e (.int .i64 (orL xs)) [] []:=by
 obtain rfl:=rep_ints_len ha
 refine epG Tryz.func198 bd198 (args:=[.slice a xs.length c]) (G:=[(_,dInts xs)]) (by kernel_rfl) (.cons ha (.nil _ _)) ?_
 refine Zs [zR 0] [] [zI 2 0] ?_
 refine Zs [zR 0] [] [zI 3 0] ?_
 refine J_seq ?_
 refine Zs (Rds 0 3) [0] [zS 6 a xs.length c,zI 7 (↑xs.length:Int),zI 8 0] ?_
 refine J_block ?_
 refine J_loopx (fun i:Int=>[zI 2 0,zI 3 0,zS 6 a xs.length c,zI 7 (↑xs.length:Int),zI 8 i]) (fun i:Int=>[]) (fun i:Int=>[]) (fun i:Int=>[(.slice a xs.length c,(dInts xs))]) (fun i:Int=>(xs.length - i).toNat) (fun i:Int=>(0≤i∧i≤xs.length∧∀j:Nat,j<i.toNat→∀t,xs[j]?=some t→t=0)) 0 [2,3,6,7,8] [] [] [0] ?_ (by kernel_rfl) rfl rfl rfl ?_
 ·exact⟨by simp,by omega,by simp⟩
 rintro i ⟨hi0,hi,hno⟩
 refine Zs [zR 0] [] [zB 9 (decide (i<(↑xs.length:Int)))] ?_
 refine J_seq ?_
 refine cC (t:=decide (i<(↑xs.length:Int))) (fun hlt=>?_) (fun hlt=>?_)
 ·have hlt2:i<xs.length:=by simpa using hlt
  obtain⟨x,hx⟩:∃x,xs[i.toNat]?=some x:=⟨_,List.getElem?_eq_getElem (by omega)⟩
  refine J_read0 0 rfl i.toNat (map_at hx) (by kernel_rfl) (fun b1 off1 cs1 ty1 fz1 ha1 hrd1=>?_)
  cases ha1
  have hrd1_0:=rd0 (hrd1 0 _ rfl)
  try simp only[aQ]
  refine J_skip (J_seq (J_block ?_))
  refine Zt [.rd 0 [] 0 2,.rd 1 [.r 0 (some (nI x))] 0 0,zR 2] [9] [zI 5 x] (oC hi0 (oC hlt2 (oC hrd1_0 oN))) ?_
  refine Zs (Rds 0 3) [] [zB 14 (x != 0)] ?_
  refine cC (t:=x != 0) (fun hb=>?_) (fun hb=>?_)
  ·refine J_seq ?_
   refine Za [zR 0,zR 1] [14] [zI 2 x] ?_
   refine Yr [[]] (nI x) fun a w s=>?_
   rw[orL_at hno hx (by simpa using hb)]
   exact s.ret (by simp) [] [] rfl rfl
  ·refine J_skip ?_
   refine J_eb ?_
   refine Zp [.rd 0 [] 0 1,zR 1] [14] [zI 8 (i+1)] (oC (show IntKind.i64.wrap (i+1)=i+1 from wrap_i64 (by omega) (by omega)) oN) ?_
   refine J_backx (i+1) [2,3,6,7,8] [] [] [0] ?_ ?_ (by kernel_rfl) rfl rfl rfl
   ·refine⟨by omega,by omega,fun j hj t ht=>?_⟩
    by_cases hji:j=i.toNat
    ·subst hji
     rw[hx]at ht
     cases ht
     simpa using hb
    ·exact hno j (by omega) t ht
   ·omega
 ·refine J_exit rfl ?_
  refine Zs [zR 0,zR 1] [9,3,6,7,8] [] ?_
  refine Yr [[]] (nI 0) fun a w s=>?_
  rw[orL_none fun j t ht=>hno j (by have:=(List.getElem?_eq_some_iff.1 ht).1;simp at hlt;omega) t ht]
  exact s.ret (by simp) [] [] rfl rfl
end Go.Proofs.YtmkapocibaojdaaGreatDoor
namespace Go.Proofs.YtmkapocibaojdaaGreatDoor
open Go Go.Sx
abbrev doneA (x:DoneT) (v:Value):Value:=.agg #[.int .i64 x.o.no,.string x.o.key,.int .i64 x.o.kind,.string x.o.text,.int .i64 x.o.n,.bool x.o.remove,v,.int .i64 x.d.place,.int .i64 x.d.time,.int .i64 x.d.no,.int .i64 x.w]
abbrev dotV (d:DotT):Value:=.agg #[.int .i64 d.place,.int .i64 d.time,.int .i64 d.no]
set_option maxHeartbeats 4000000 in
theorem cmpDone {w:World} {S:Nat→Prop} {x y:DoneT} {v1 v2:Value} (o1:v1.oneCell'=true) (o2:v2.oneCell'=true):Calls Tryz.prog 197 #[doneA x v1,doneA y v2] w fun e w'=>Ret [] w S w' e (.int .i64 (doneCmp x y)) [] []:=by
 refine epG Tryz.func197 bd197 (args:=[doneA x v1,doneA y v2]) (S:=S) (G:=[]) (by kernel_rfl) (.nil _ _) ?_
 refine Zv [.wr 0 [] 0,.wr 1 [] 0,zR 2] [] [0,1] (fun nu1=>[zP 2 (nu1 0),zP 3 (nu1 1),zI 4 0]) o0 (fun nu1=>[(nu1 0,.cells #[nI x.o.no,.string x.o.key,nI x.o.kind,.string x.o.text,nI x.o.n,.bool x.o.remove,v1,nI x.d.place,nI x.d.time,nI x.d.no,nI x.w] 271 (0,0)),(nu1 1,.cells #[nI y.o.no,.string y.o.key,nI y.o.kind,.string y.o.text,nI y.o.n,.bool y.o.remove,v2,nI y.d.place,nI y.d.time,nI y.d.no,nI y.w] 271 (0,0))]) (fun nu1=>?_)
 refine jS [(0,true),(1,true),(2,true),(3,true),(5,true),(6,true),(7,true),(8,true),(9,true),(10,true),(12,true),(13,true),(14,true),(15,true),(16,true),(17,true),(19,true),(20,true),(21,true),(22,true),(23,true),(24,true),(4,false),(11,false),(18,false),(25,false),(26,false),(27,false),(28,true)] [] ?_
 refine Ya [zR 0,.rd 1 [.o 0 none] 0 0,zR 2,.rd 3 [.o 1 none] 0 0,zR 5,zR 6,.rd 7 [.o 0 none] 0 0,zR 8,zR 9,.rd 10 [.o 1 none] 0 0,zR 12,zR 13,.rd 14 [.o 0 none] 0 0,zR 15,zR 16,.rd 17 [.o 1 none] 0 0,zR 19,zR 20,.rd 21 [.o 0 none] 0 0,zR 22,zR 23,.rd 24 [.o 1 none] 0 0] [2,3] [zI 6 x.w,zI 8 y.w,zI 12 x.d.place,zI 15 y.d.place,zI 19 x.d.time,zI 22 y.d.time,zI 26 x.d.no,zI 29 y.d.no] ?_
 all_goals first|assumption|skip
 refine Yc 199 #[nI x.w,nI y.w] (some 9) fun w S hG=>?_
 refine(cmpC (S:=S)).mono ?_
 rintro e1 w1 hR
 refine⟨_,_,_,hR,?_⟩
 try simp only[aQ]
 refine Yc 199 #[nI x.d.place,nI y.d.place] (some 16) fun w S hG=>?_
 refine(cmpC (S:=S)).mono ?_
 rintro e2 w2 hR
 refine⟨_,_,_,hR,?_⟩
 try simp only[aQ]
 refine Yc 199 #[nI x.d.time,nI y.d.time] (some 23) fun w S hG=>?_
 refine(cmpC (S:=S)).mono ?_
 rintro e3 w3 hR
 refine⟨_,_,_,hR,?_⟩
 try simp only[aQ]
 refine Yc 199 #[nI x.d.no,nI y.d.no] (some 30) fun w S hG=>?_
 refine(cmpC (S:=S)).mono ?_
 rintro e4 w4 hR
 refine⟨_,_,_,hR,?_⟩
 try simp only[aQ]
 refine Ym [.wr 26 [] 0] [30,23,16,9,6,8,12,15,19,22,26,29] (fun nu2=>[zS 31 (sA (nu2 0) 0) 4 4]) o0 (fun nu2=>[(nu2 0,.cells #[nI (cmpI x.w y.w),nI (cmpI x.d.place y.d.place),nI (cmpI x.d.time y.d.time),nI (cmpI x.d.no y.d.no)] 3 (0,0))]) [] (fun nu2=>?_)
 refine JR_data (size:=1) 2 eI [cmpI x.w y.w,cmpI x.d.place y.d.place,cmpI x.d.time y.d.time,cmpI x.d.no y.d.no] 4 rfl (by kernel_rfl) (by decide) (by intro x _;rfl) (by simp) ⟨.inl ⟨rfl,rfl⟩,⟨.inl ⟨rfl,rfl⟩,⟨.inl ⟨rfl,rfl⟩,⟨.inl ⟨rfl,rfl⟩,trivial⟩⟩⟩⟩ ?_
 refine Yc 198 #[.slice (sA (nu2 0) 0) 4 4] (some 32) fun w S hG=>?_
 refine(orC (hG.at 0 rfl) (by simp)).mono ?_
 rintro e7 w7 hR
 refine⟨_,_,_,hR,?_⟩
 try simp only[aQ]
 refine Ya [zR 28] [32,31] [zI 4 (orL [cmpI x.w y.w,cmpI x.d.place y.d.place,cmpI x.d.time y.d.time,cmpI x.d.no y.d.no])] ?_
 refine JR_end ?_
 refine Yr [[]] (nI (orL [cmpI x.w y.w,cmpI x.d.place y.d.place,cmpI x.d.time y.d.time,cmpI x.d.no y.d.no])) fun a w s=>?_
 exact s.ret (by simp) [] [] rfl rfl
set_option maxHeartbeats 4000000 in
theorem cmpDot {w:World} {S:Nat→Prop} {x y:DotT}:Calls Tryz.prog 211 #[dotV x,dotV y] w fun e w'=>Ret [] w S w' e (.int .i64 (dotCmp x y)) [] []:=by
 refine epG Tryz.func211 bd211 (args:=[dotV x,dotV y]) (S:=S) (G:=[]) (by kernel_rfl) (.nil _ _) ?_
 refine Zv [.wr 0 [] 0,.wr 1 [] 0,zR 2] [] [0,1] (fun nu1=>[zP 2 (nu1 0),zP 3 (nu1 1),zI 4 0]) o0 (fun nu1=>[(nu1 0,.cells #[nI x.place,nI x.time,nI x.no] 177 (0,0)),(nu1 1,.cells #[nI y.place,nI y.time,nI y.no] 177 (0,0))]) (fun nu1=>?_)
 refine jS [(0,true),(1,true),(2,true),(3,true),(5,true),(6,true),(7,true),(8,true),(10,true),(11,true),(12,true),(13,true),(4,false),(9,false),(14,false),(15,false),(16,false),(17,true)] [] ?_
 refine Ya [zR 0,.rd 1 [.o 0 none] 0 0,zR 2,.rd 3 [.o 1 none] 0 0,zR 5,.rd 6 [.o 0 none] 0 0,zR 7,.rd 8 [.o 1 none] 0 0,zR 10,.rd 11 [.o 0 none] 0 0,zR 12,.rd 13 [.o 1 none] 0 0] [2,3] [zI 6 x.place,zI 8 y.place,zI 11 x.time,zI 13 y.time,zI 16 x.no,zI 18 y.no] ?_
 refine Yc 199 #[nI x.place,nI y.place] (some 9) fun w S hG=>?_
 refine(cmpC (S:=S)).mono ?_
 rintro e1 w1 hR
 refine⟨_,_,_,hR,?_⟩
 try simp only[aQ]
 refine Yc 199 #[nI x.time,nI y.time] (some 14) fun w S hG=>?_
 refine(cmpC (S:=S)).mono ?_
 rintro e2 w2 hR
 refine⟨_,_,_,hR,?_⟩
 try simp only[aQ]
 refine Yc 199 #[nI x.no,nI y.no] (some 19) fun w S hG=>?_
 refine(cmpC (S:=S)).mono ?_
 rintro e3 w3 hR
 refine⟨_,_,_,hR,?_⟩
 try simp only[aQ]
 refine Ym [.wr 15 [] 0] [19,14,9,6,8,11,13,16,18] (fun nu2=>[zS 20 (sA (nu2 0) 0) 3 3]) o0 (fun nu2=>[(nu2 0,.cells #[nI (cmpI x.place y.place),nI (cmpI x.time y.time),nI (cmpI x.no y.no)] 3 (0,0))]) [] (fun nu2=>?_)
 refine JR_data (size:=1) 2 eI [cmpI x.place y.place,cmpI x.time y.time,cmpI x.no y.no] 3 rfl (by kernel_rfl) (by decide) (by intro x _;rfl) (by simp) ⟨.inl ⟨rfl,rfl⟩,⟨.inl ⟨rfl,rfl⟩,⟨.inl ⟨rfl,rfl⟩,trivial⟩⟩⟩ ?_
 refine Yc 198 #[.slice (sA (nu2 0) 0) 3 3] (some 21) fun w S hG=>?_
 refine(orC (hG.at 0 rfl) (by simp)).mono ?_
 rintro e7 w7 hR
 refine⟨_,_,_,hR,?_⟩
 try simp only[aQ]
 refine Ya [zR 17] [21,20] [zI 4 (orL [cmpI x.place y.place,cmpI x.time y.time,cmpI x.no y.no])] ?_
 refine JR_end ?_
 refine Yr [[]] (nI (orL [cmpI x.place y.place,cmpI x.time y.time,cmpI x.no y.no])) fun a w s=>?_
 exact s.ret (by simp) [] [] rfl rfl
end Go.Proofs.YtmkapocibaojdaaGreatDoor
end
section
namespace Go.Proofs.YtmkapocibaojdaaGreatDoor
open Go Go.Sx Go.MapKept
def okDot (v:Value):Prop:=∃a b c:Int,v=.agg #[.int .i64 a,.int .i64 b,.int .i64 c]
theorem sameBits_dot (n:Nat) (a b c:Int):Instr.sameBits (n+2) (.agg #[.int .i64 a,.int .i64 b,.int .i64 c]) (.agg #[.int .i64 a,.int .i64 b,.int .i64 c])=true:=by
 simp[Instr.sameBits]
set_option maxHeartbeats 4000000 in
theorem checkKey_dot (e:Bool) (n:Nat) (a b c:Int) (w:World):(Instr.checkKey e (n+2) 177 (.agg #[.int .i64 a,.int .i64 b,.int .i64 c])).run Tryz.prog w=.ok () w:=by
 have hi:∀(x:Int) w,(Instr.checkKey e (n+1) 3 (.int .i64 x)).run Tryz.prog w=.ok () w:=fun x w=>run_checkKey Tryz.underlying3 (by simp[IsKey]) e n
 rw[Instr.checkKey]
 simp[run_underlying Tryz.underlying177,hi,partI Tryz.underlying3,Result.andThen]
theorem keyOk_9:KeyOk Tryz.prog 9 (IsKey .string):=.plain Tryz.underlying9
theorem keyOk_177:KeyOk Tryz.prog 177 okDot:=by
 refine .asking Tryz.underlying177 (fun x y _ _=>rfl) (fun e k hk w=>?_) (fun x y hx hy=>?_) fun k hk=>?_
 ·obtain⟨a,b,c,rfl⟩:=hk
  exact checkKey_dot e 9998 a b c w
 ·obtain⟨a,b,c,rfl⟩:=hx
  obtain⟨a',b',c',rfl⟩:=hy
  refine⟨decide (a=a'∧b=b'∧c=c'),fun w=>eqDot 9998 a b c a' b' c' w,?_⟩
  simp
 ·obtain⟨a,b,c,rfl⟩:=hk
  exact sameBits_dot 9998 a b c
end Go.Proofs.YtmkapocibaojdaaGreatDoor
namespace Go.Proofs.YtmkapocibaojdaaGreatDoor
open Go Go.Sx
def firstLen (l:List ComT):Nat:=match l with
 | []=>0
 | c::_=>c.when.length
def comErrAt (l:List ComT) (i:Nat):Nat:=match l[i]? with
 | none=>0
 | some c=>if (comFault c).code≠0 then (comFault c).code else if c.when.length≠firstLen l then 3 else 0
def scanF (f:Nat→Nat):Nat→Nat→FT
 | 0,_=>⟨0,-1⟩
 | n+1,i=>if f i=0 then scanF f n (i+1)else ⟨f i,i⟩
theorem scanF_from {f:Nat→Nat}:∀(n k i:Nat),k≤i→(∀j,k≤j→j<i→f j=0)→(i=k+n→scanF f n k=⟨0,-1⟩)∧(i<k+n→f i≠0→scanF f n k=⟨f i,i⟩)
 | 0,k,i,hk,_=>⟨fun _=>rfl,fun h=>by omega⟩
 | n+1,k,i,hk,h=>by
  rcases Nat.eq_or_lt_of_le hk with rfl|hlt
  ·refine⟨fun he=>by omega,fun _ hne=>?_⟩
   rw[scanF,if_neg hne]
  ·obtain⟨h1,h2⟩:=scanF_from n (k+1) i hlt fun j hj1 hj2=>h j (by omega) hj2
   rw[scanF,if_pos (h k (Nat.le_refl _) hlt)]
   exact⟨fun he=>h1 (by omega),fun he=>h2 (by omega)⟩
def listFault (l:List ComT):FT:=scanF (comErrAt l) l.length 0
def valFault (key:ByteArray) (l:List ComT):FT:=if nameOk key=false then ⟨4,-1⟩else listFault l
theorem listFault_at {l:List ComT} {i:Nat} {k:Nat} (h:∀j,j<i→comErrAt l j=0) (hi:i<l.length) (hk:comErrAt l i=k) (h0:k≠0):listFault l=⟨k,i⟩:=by
 rw[listFault,(scanF_from l.length 0 i (Nat.zero_le _) fun j _ hj=>h j hj).2 (by omega) (by rw[hk];exact h0),hk]
theorem listFault_none {l:List ComT} (h:∀j,j<l.length→comErrAt l j=0):listFault l=⟨0,-1⟩:=
 (scanF_from l.length 0 l.length (Nat.zero_le _) fun j _ hj=>h j hj).1 (by omega)
theorem listFault_zero {l:List ComT} (h:(listFault l).code=0):∀j,j<l.length→comErrAt l j=0:=by
 intro j
 induction j using Nat.strongRecOn with
 | ind j ih=>
  intro hj
  rcases Nat.eq_zero_or_pos (comErrAt l j)with h0|h0
  ·exact h0
  ·have:=listFault_at (fun i hi=>ih i hi (by omega)) hj rfl (by omega)
   rw[this]at h
   exact h
theorem comErrAt_own {l:List ComT} {i:Nat} {c:ComT} (h:l[i]?=some c) (he:(comFault c).code≠0):comErrAt l i=(comFault c).code:=by
 simp only[comErrAt,h,if_pos he]
theorem comErrAt_len {l:List ComT} {i:Nat} {c:ComT} (h:l[i]?=some c) (he:(comFault c).code=0) (hl:c.when.length≠firstLen l):comErrAt l i=3:=by
 simp only[comErrAt,h]
 rw[if_neg (by simp[he]),if_pos hl]
theorem comErrAt_fine {l:List ComT} {i:Nat} {c:ComT} (h:l[i]?=some c) (he:(comFault c).code=0) (hl:c.when.length=firstLen l):comErrAt l i=0:=by
 simp only[comErrAt,h]
 rw[if_neg (by simp[he]),if_neg (by simp[hl])]
theorem comErrAt_zero {l:List ComT} {i:Nat} {c:ComT} (h:l[i]?=some c) (he:comErrAt l i=0):(comFault c).code=0∧c.when.length=firstLen l:=by
 simp only[comErrAt,h]at he
 split at he
 ·exact absurd he ‹_›
 ·split at he
  ·cases he
  ·rename_i h1 h2
   exact⟨by simpa using h1,by simpa using h2⟩
structure Right (c:ComT):Prop where
 vec:vecErr c.when=0
 p0:0≤c.place
 p1:c.place<c.when.length
 t0:c.when[c.place.toNat]?≠some 0
 o1:1≤c.ops.length
 o2:c.ops.length≤12
 op:opsFault c.ops c.when.length c.ops.length 0=comFault c
theorem right_of {c:ComT} (h:(comFault c).code=0):Right c:=by
 have key:∀{n:Nat} {a:Int},comFault c=⟨n,a⟩→n≠0→False:=fun he h0=>by rw[he]at h;exact h0 h
 by_cases h1:vecErr c.when≠0
 ·exact(key (by rw[comFault,if_pos h1]) h1).elim
 ·by_cases h2:c.place<0∨c.when.length≤c.place∨12<c.ops.length
  ·exact(key (n:=2) (a:=-1) (by rw[comFault,if_neg h1,if_pos h2]) (by decide)).elim
  ·by_cases h3:c.when[c.place.toNat]?=some 0
   ·exact(key (n:=2) (a:=-1) (by rw[comFault,if_neg h1,if_neg h2,if_pos h3]) (by decide)).elim
   ·by_cases h4:c.ops.length=0
    ·exact(key (n:=3) (a:=-1) (by rw[comFault,if_neg h1,if_neg h2,if_neg h3,if_pos h4]) (by decide)).elim
    ·exact⟨by simpa using h1,by omega,by omega,h3,by omega,by omega,by rw[comFault,if_neg h1,if_neg h2,if_neg h3,if_neg h4]⟩
theorem rights {l:List ComT} {i:Nat} (h:∀j,j<i→comErrAt l j=0) (hi:i≤l.length):∀c∈l.take i,Right c:=fun c hc=>by
 obtain⟨j,hj⟩:=List.getElem?_of_mem hc
 rw[List.getElem?_take]at hj
 split at hj
 ·rename_i hji
  exact right_of (comErrAt_zero hj (h j hji)).1
 ·cases hj
theorem allDone_len {l:List ComT} (h:∀c∈l,Right c):(allDone l).length≤12*l.length:=by
 induction l with
 | nil=>simp[allDone]
 | cons c l ih=>
  have h1:=(h c (.head _)).o2
  have h2:=ih fun c hc=>h c (.tail _ hc)
  simp only[allDone,List.flatMap_cons,List.length_append,List.length_map,List.length_cons]at h2 ⊢
  omega
theorem firsts_len (s:List DotT) (l:List DoneT):(firsts s l).length≤l.length:=by
 induction l generalizing s with
 | nil=>simp[firsts]
 | cons x r ih=>
  unfold firsts
  split
  ·have:=ih s;simp;omega
  ·have:=ih (x.d::s);simp;omega
theorem allDone_snoc {l:List ComT} {i:Int} {c:ComT} (hi:0≤i) (hc:l[i.toNat]?=some c):allDone (l.take i.toNat)++c.ops.map (doneOf c)=allDone (l.take (i+1).toNat):=by
 rw[←take_snoc hi hc]
 simp[allDone]
def keyFirst (key:ByteArray) (p:List DoneT):List DoneT:=(firsts [] p).filter fun x=>decide (x.o.key=key)
theorem keyFirst_len (key:ByteArray) (p:List DoneT):(keyFirst key p).length≤p.length:=
 Nat.le_trans (List.length_filter_le _ _) (firsts_len _ _)
theorem keyFirst_snoc {key:ByteArray} {p:List DoneT} {x:DoneT}:keyFirst key (p++[x])=keyFirst key p++if x.d∉p.map (·.d)∧x.o.key=key then [x]else []:=by
 unfold keyFirst
 rw[firsts_snoc,List.filter_append]
 congr 1
 by_cases h1:x.d∈p.map (·.d)
 ·simp[h1]
 ·by_cases h2:x.o.key=key
  ·simp[h1,h2]
  ·simp[h1,h2]
theorem keyFirst_nodup (key:ByteArray) (p:List DoneT):((keyFirst key p).map (·.d)).Nodup:=
 (List.filter_sublist.map _).nodup firsts_nodup
open Classical in
noncomputable def dotSet (ds:List DotT):Value→Option Value:=fun v=>if ∃d∈ds,v=.agg #[.int .i64 d.place,.int .i64 d.time,.int .i64 d.no]then some (.bool true)else none
theorem dotSet_in {ds:List DotT} {d:DotT} (h:d∈ds):dotSet ds (.agg #[.int .i64 d.place,.int .i64 d.time,.int .i64 d.no])=some (.bool true):=by
 rw[dotSet,if_pos ⟨d,h,rfl⟩]
theorem dotSet_out {ds:List DotT} {d:DotT} (h:d∉ds):dotSet ds (.agg #[.int .i64 d.place,.int .i64 d.time,.int .i64 d.no])=none:=by
 rw[dotSet,if_neg]
 rintro⟨d',h1,h2⟩
 apply h
 have:d=d':=by
  cases d;cases d'
  simp at h2
  simp[h2]
 rw[this]
 exact h1
theorem dotSet_snoc {ds:List DotT} {d:DotT} (v:Value):fput (dotSet ds) (.agg #[.int .i64 d.place,.int .i64 d.time,.int .i64 d.no]) (.bool true) v=dotSet (ds++[d]) v:=by
 unfold fput dotSet
 by_cases hv:v=.agg #[.int .i64 d.place,.int .i64 d.time,.int .i64 d.no]
 ·rw[if_pos hv,if_pos ⟨d,by simp,hv⟩]
 ·rw[if_neg hv]
  by_cases h:∃d∈ds,v=.agg #[.int .i64 d.place,.int .i64 d.time,.int .i64 d.no]
  ·obtain⟨d',h1,h2⟩:=h
   rw[if_pos ⟨d',h1,h2⟩,if_pos ⟨d',by simp[h1],h2⟩]
  ·rw[if_neg h,if_neg]
   rintro⟨d',h1,h2⟩
   rcases List.mem_append.1 h1 with h1|h1
   ·exact h ⟨d',h1,h2⟩
   ·rw[List.mem_singleton]at h1
    subst h1
    exact hv h2
theorem dotSet_nil (v:Value):(fun _=>none:Value→Option Value) v=dotSet [] v:=by simp[dotSet]
def FVal (w:World) (S:Nat→Prop) (w':World) (e:Ending) (er:Nat→Addr) (f:FT) (mk:Value→Value):Prop:=
 (f.at' = -1∧∃v,Ret [] w S w' e (mk v) [] []∧ErrIs 390 er f.code v) ∨
 (1≤f.code∧0≤f.at'∧∃pb,Ret [] w S w' e (mk (.iface 202 (.pointer (some ⟨pb,0,none⟩)))) [] [(.pointer (some ⟨pb,0,none⟩),.ptr [.v (.int .i64 f.at'),.v (.iface 390 (.pointer (some (er f.code))))])])
end Go.Proofs.YtmkapocibaojdaaGreatDoor
end
section
namespace Go.Sx
open Go Go.Sort Go.Proofs
def CellsOf (us:List Value) (ds:List D):Prop:=us.length=ds.length∧∀(j:Nat) u d,us[j]?=some u→ds[j]?=some d→∃w S,Rep w S u d
theorem CellsOf.plain {us:List Value} {ds:List D} (h:CellsOf us ds) {j:Nat} {v:Value} (hd:ds[j]?=some (.v v)):us[j]?=some v:=by
 have hj:j<us.length:=by rw[h.1];exact(List.getElem?_eq_some_iff.1 hd).1
 obtain⟨w,S,hr⟩:=h.2 j _ _ (List.getElem?_eq_getElem hj) hd
 rw[List.getElem?_eq_getElem hj,hr.plain]
theorem CellsOf.one {us:List Value} {ds:List D} (h:CellsOf us ds) {j:Nat} {d:D} (hd:ds[j]?=some d):∃u,us[j]?=some u∧u.oneCell'=true:=by
 have hj:j<us.length:=by rw[h.1];exact(List.getElem?_eq_some_iff.1 hd).1
 obtain⟨w,S,hr⟩:=h.2 j _ _ (List.getElem?_eq_getElem hj) hd
 exact⟨_,List.getElem?_eq_getElem hj,hr.one⟩
def SortsK (P:Program) (fs k:Nat):Prop:=∀{α:Type} [Inhabited α] (enc:α→List Value) (_:∀x,(enc x).length=k) (_:∀x,∀v∈enc x,v.oneCell'=true) (cf:α→α→Int) (_:SWO (ltOf cf)) (g:Nat) (cb:Array Value) (blk off cap:Nat) (d:Array α) (w:World)
  (_:∀args w,(callFunc g args).run P w=.ok (.enter g args) w) (_:CmpLays P g cb enc k cf blk off d.size w) (_:HoldsK enc k w blk off d) (_:blk<w.heap.size) (_:d.size<4611686018427387904) (_:∀x y,(ltOf cf) x y=false→(ltOf cf) y x=false→x=y),
  Calls P fs #[.slice (some ⟨blk,off,none⟩) d.size cap,.func (.func g) #[] cb] w fun e w'=>
   e=.returned (.tuple #[])∧∃n os,w'=sortWorldK enc k w blk off n (d.toList.mergeSort fun x y=>!(ltOf cf) y x).toArray os
def SortsNone (P:Program) (fs:Nat):Prop:=∀(p:Option Addr) (cap:Nat) (fv:Value) (w:World),Calls P fs #[.slice p 0 cap,fv] w fun e w'=>e=.returned (.tuple #[])∧w'=w
theorem fr_grown {W w':World} (h:Fr [] W w'):∃q os',w'=grow (W.drewN q) os':=by
 refine⟨w'.drawn - W.drawn,w'.heap.extract W.heap.size w'.heap.size,?_⟩
 have hh:w'.heap=W.heap++w'.heap.extract W.heap.size w'.heap.size:=by
  apply Array.ext_getElem?
  intro j
  rw[Array.getElem?_append]
  split
  ·rename_i hj
   exact h.block j hj (by simp)
  ·rename_i hj
   rw[Array.getElem?_extract]
   by_cases hj2:j<w'.heap.size
   ·rw[if_pos (by omega)]
    congr 1
    omega
   ·rw[if_neg (by omega),Array.getElem?_eq_none (by omega)]
 have h1:=h.os
 have h2:=h.tape
 have h3:=h.output
 have h4:=h.drawn
 obtain⟨hp,tp,dr,os,out⟩:=w'
 simp only[grow,World.drewN]at *
 subst h1 h2 h3
 rw[←hh]
 congr 1
 omega
theorem cseg_at {xs:List Value} {n k i j:Nat} (hl:xs.length=n*k) (hi:i<n) (hj:j<k):((xs.drop (i*k)).take k)[j]?=xs[i*k+j]?:=by
 rw[List.getElem?_take,if_pos hj,List.getElem?_drop]
theorem cseg_len {xs:List Value} {n k i:Nat} (hl:xs.length=n*k) (hi:i<n):((xs.drop (i*k)).take k).length=k:=by
 rw[List.length_take,List.length_drop,hl]
 have:(i+1)*k≤n*k:=Nat.mul_le_mul_right k hi
 rw[Nat.add_mul,Nat.one_mul]at this
 omega
set_option maxHeartbeats 1000000 in
theorem sortAcc {P:Program} {fs k:Nat} (hS:SortsK P fs k) (hN:SortsNone P fs) {w:World} {S:Nat→Prop} {M:List Nat} {a:Option Addr} {n c e:Nat} {β:Type} {l:List β} {enc:β→List D} (CF:β→β→Int) (g:Nat) (cb:Array Value)
  (hP:Pre w S M [cAcc (.slice a n c) e k (l.map enc)]) (hsz:l.length<4611686018427387904)
  (eg:∀args w,(callFunc g args).run P w=.ok (.enter g args) w)
  (hcmp:∀x y,x∈l→y∈l→∀(us vs:List Value) (W:World),CellsOf us (enc x)→CellsOf vs (enc y)→Calls P g (#[.agg us.toArray,.agg vs.toArray]++cb) W fun e w'=>Ret [] W (fun _=>True) w' e (.int .i64 (CF x y)) [] [])
  (hirr:∀x,x∈l→¬CF x x<0) (htr:∀x y z,x∈l→y∈l→z∈l→CF x y<0→CF y z<0→CF x z<0) (htot:∀(i j:Nat) x y,i≠j→l[i]?=some x→l[j]?=some y→CF x y<0∨CF y x<0) :
  Calls P fs #[.slice a n c,.func (.func g) #[] cb] w fun e' w'=>Ret M w S w' e' (.tuple #[]) [cAcc (.slice a n c) e k ((l.mergeSort fun x y=>!decide (CF y x<0)).map enc)] []:=by
 obtain⟨fps,hch,rfl,hnd,hM⟩:=hP
 match fps,hch with
 | [fp],⟨hc,_⟩=>
  have hnil:l=[]→n=0→Calls P fs #[.slice a n c,.func (.func g) #[] cb] w fun e' w'=>Ret [fp].flatten w S w' e' (.tuple #[]) [cAcc (.slice a n c) e k ((l.mergeSort fun x y=>!decide (CF y x<0)).map enc)] []:=by
   intro h0 h1
   subst h0 h1
   refine(hN a c _ w).mono ?_
   rintro e' w' ⟨he,rfl⟩
   refine⟨he,Fr.refl _ _,[fp],⟨?_,trivial⟩,hnd,fun b hb=>⟨.inl hb,(hM b hb).1⟩,by simp⟩
   simp only[List.mergeSort_nil,List.map_nil]
   exact(cAcc _ _ _ _).mono hc (fun _ _=>rfl) fun b hb _=>⟨⟨.inl hb,fun hm=>(hM b hm).2 hb⟩,rfl⟩
  obtain⟨hk,hc⟩:=hc
  rcases hc with ⟨h1,h2,rfl⟩|⟨g0,cap,cur,xs,h2,rfl,h3,h4,h5⟩
  ·cases h2
   exact hnil (List.map_eq_nil_iff.1 h1) rfl
  ·cases h2
   rcases Nat.eq_zero_or_pos l.length with hl0|hl0
   ·exact hnil (List.eq_nil_of_length_eq_zero hl0) (by rw[List.length_map];exact hl0)
   ·have hlm:(l.map enc).length=l.length:=List.length_map ..
    have hxl:xs.length=l.length*k:=by rw[h4.len,hlm]
    have hg0:g0<w.heap.size:=(Array.getElem?_eq_some_iff.1 h3).1
    haveI:Inhabited (Fin l.length):=⟨⟨0,hl0⟩⟩
    have hxone:∀u∈xs,u.oneCell'=true:=h5.one (by rw[hlm];exact hxl)
    let encV:Fin l.length→List Value:=fun i=>(xs.drop (i.1*k)).take k
    let cf:Fin l.length→Fin l.length→Int:=fun i j=>CF l[i] l[j]
    have hcell:∀i:Fin l.length,CellsOf (encV i) (enc l[i]):=fun i=>by
     have hrow:(enc l[i]).length=k:=h5.len _ (List.mem_map.2 ⟨l[i],List.getElem_mem i.2,rfl⟩)
     refine⟨by rw[cseg_len hxl i.2,hrow],fun j u d hu hd=>?_⟩
     have hjk:j<k:=by rw[←hrow];exact(List.getElem?_eq_some_iff.1 hd).1
     obtain⟨u',h6,h7⟩:=h5.rep i.1 j _ d (by rw[List.getElem?_map,List.getElem?_eq_getElem i.2];rfl) hd
     rw[cseg_at hxl i.2 hjk,h6]at hu
     cases hu
     exact⟨_,_,h7⟩
    have hlt:∀i j,ltOf cf i j=true↔CF l[i] l[j]<0:=fun i j=>by simp[ltOf,cf]
    have hltf:∀i j,ltOf cf i j=false↔¬CF l[i] l[j]<0:=fun i j=>by simp[ltOf,cf]
    have htot2:∀i j:Fin l.length,i≠j→CF l[i] l[j]<0∨CF l[j] l[i]<0:=fun i j hij=>htot i.1 j.1 _ _ (fun h=>hij (Fin.ext h)) (List.getElem?_eq_getElem i.2) (List.getElem?_eq_getElem j.2)
    have hO:SWO (ltOf cf):=by
     refine⟨fun x=>(hltf x x).2 (hirr _ (List.getElem_mem x.2)),fun x y z hx hy=>?_,fun x y z hx hy=>?_⟩
     ·exact(hlt x z).2 (htr _ l[y] _ (List.getElem_mem x.2) (List.getElem_mem y.2) (List.getElem_mem z.2) ((hlt x y).1 hx) ((hlt y z).1 hy))
     ·rw[hltf]at hx hy ⊢
      intro hxz
      by_cases hxy:x=y
      ·rw[hxy]at hxz
       exact hy hxz
      ·rcases htot2 x y hxy with h|h
       ·exact hx h
       ·exact hy (htr _ l[x] _ (List.getElem_mem y.2) (List.getElem_mem x.2) (List.getElem_mem z.2) h hxz)
    have hT:∀x y,ltOf cf x y=false→ltOf cf y x=false→x=y:=fun x y hx hy=>by
     by_cases hxy:x=y
     ·exact hxy
     ·rw[hltf]at hx hy
      rcases htot2 x y hxy with h|h
      ·exact absurd h hx
      ·exact absurd h hy
    have hds:((List.finRange l.length).toArray).size=l.length:=by simp
    have hflat:∀(q:List (Fin l.length)),q.length=l.length→∀j,j<l.length*k→∃i:Fin l.length,q[j / k]?=some i∧(flatK encV k q.toArray)[j]! = xs[i.1*k+j % k]!:=fun q hq j hj=>by
     have h1:j / k<l.length:=Nat.div_lt_of_lt_mul (by rw[Nat.mul_comm];exact hj)
     refine⟨q[j / k]'(by omega),List.getElem?_eq_getElem _,?_⟩
     rw[get_flatK _ _ _ _ (by simpa [hq]using hj)]
     have e1:(q.toArray[j / k]!)=q[j / k]'(by omega):=by
      rw[getElem!_pos _ _ (by simpa [hq]using h1)]
      simp
     rw[e1]
     have:=cseg_at (xs:=xs) hxl (q[j / k]'(by omega)).2 (Nat.mod_lt j hk)
     simp only[List.getElem!_eq_getElem?_getD]
     exact congrArg (fun o=>o.getD default) this
    have hH:HoldsK encV k w g0 0 (List.finRange l.length).toArray:=fun j hj=>by
     have hj2:j<l.length*k:=by simpa using hj
     obtain⟨i,hi,hv⟩:=hflat (List.finRange l.length) (by simp) j hj2
     have hi2:i.1=j / k:=by
      have:=(List.getElem?_eq_some_iff.1 hi).2
      rw[←this];simp
     rw[hv,hi2,Nat.mul_comm,Nat.div_add_mod]
     refine⟨?_,by simp[World.frozen?,h3]⟩
     have h6:=h4.at (j:=j) (by rw[hlm];exact hj2)
     rw[Nat.zero_add]
     simp only[World.cell?,h3,Option.isSome_none,id_eq,h6]
     have hjx:j<xs.length:=by omega
     simp[List.getElem?_eq_getElem hjx,getElem!_pos xs j hjx]
    have hC:CmpLays P g cb encV k cf g0 0 (List.finRange l.length).toArray.size w:=fun m os dk _ x y=>
     (hcmp l[x] l[y] (List.getElem_mem x.2) (List.getElem_mem y.2) (encV x) (encV y) _ (hcell x) (hcell y)).mono fun e' w' hR=>⟨hR.ret,fr_grown hR.fr⟩
    have hmain:=hS encV (fun x=>cseg_len hxl x.2) (fun x v hv=>hxone v (List.mem_of_mem_drop (List.mem_of_mem_take hv))) cf hO g cb g0 0 c (List.finRange l.length).toArray w eg hC hH hg0 (by rw[hds];exact hsz) hT
    rw[hds]at hmain
    rw[hlm]
    refine hmain.mono ?_
    rintro e' w' ⟨he,m,os,rfl⟩
    generalize hsrt:(((List.finRange l.length).toArray.toList.mergeSort fun x y=>!(ltOf cf) y x))=srt
    have hperm:srt.Perm (List.finRange l.length):=by rw[←hsrt];simpa using List.mergeSort_perm _ _
    have hsl:srt.length=l.length:=by rw[hperm.length_eq];simp
    have hl':(l.mergeSort fun x y=>!decide (CF y x<0))=srt.map fun i=>l[i.1]'i.2:=by
     rw[←hsrt]
     have e1:l=(List.finRange l.length).map fun i=>l[i.1]'i.2:=by
      apply List.ext_getElem
      ·simp
      ·intro i h1 h2;simp
     have:=(List.map_mergeSort (r:=fun x y=>!(ltOf cf) y x) (s:=fun x y=>!decide (CF y x<0)) (f:=fun i:Fin l.length=>l[i.1]'i.2) (l:=List.finRange l.length) (fun i _ j _=>by simp[ltOf,cf]))
     simp only[List.toList_toArray]at this ⊢
     rw[this,←e1]
    rw[hl']
    have hblk:(sortWorldK encV k w g0 0 m srt.toArray os).heap[g0]?=some (.cells (putCells id 0 (flatK encV k srt.toArray) cur) e (0,0)):=by
     simp only[sortWorldK,grow,putRowK,putRow,mapBlock,ahead]
     rw[Array.getElem?_append,if_pos (by simpa using hg0),Array.getElem?_modify,if_pos rfl]
     show(w.heap[g0]?).map _=_
     rw[h3]
     rfl
    have hfr:Fr [g0] w (sortWorldK encV k w g0 0 m srt.toArray os):=by
     refine⟨rfl,rfl,rfl,by simp[sortWorldK,grow,putRowK,putRow,mapBlock,ahead],fun b hb hn=>?_,by simp[sortWorldK,grow,putRowK,putRow,mapBlock,ahead]⟩
     have hne:g0≠b:=fun h=>hn (by simp[h])
     simp only[sortWorldK,grow,putRowK,putRow,mapBlock,ahead]
     rw[Array.getElem?_append,if_pos (by simpa using hb),Array.getElem?_modify,if_neg hne]
     rfl
    let xs':List Value:=(srt.map encV).flatten
    have hx'l:xs'.length=l.length*k:=by
     have:∀q:List (Fin l.length),((q.map encV).flatten).length=q.length*k:=fun q=>by
      induction q with
      | nil=>simp
      | cons i q ih=>simp only[List.map_cons,List.flatten_cons,List.length_append,ih,List.length_cons,Nat.succ_mul];rw[cseg_len hxl i.2,Nat.add_comm]
     rw[this,hsl]
    have hx'at:∀(p j:Nat) (i:Fin l.length),srt[p]?=some i→j<k→xs'[p*k+j]?=xs[i.1*k+j]?:=fun p j i hi hj=>by
     have h6:(encV i).length=k:=cseg_len hxl i.2
     have h7:=cseg_at (xs:=xs) hxl i.2 hj
     have h8:(encV i)[j]?=some ((encV i)[j]'(by omega)):=List.getElem?_eq_getElem _
     have h9:=flatten_at (k:=k) (rows:=srt.map encV) (fun row hr=>by obtain⟨i',_,rfl⟩:=List.mem_map.1 hr;exact cseg_len hxl i'.2) (i:=p) (j:=j) (row:=encV i) (by rw[List.getElem?_map,hi];rfl) h8
     rw[show xs'[p*k+j]?=_ from h9,←h7]
     exact h8.symm
    have hrow:Row (putCells id 0 (flatK encV k srt.toArray) cur) c l.length k xs':=by
     have hcs:=h4.siz
     refine⟨hx'l,by simp[putCells,hcs],by rw[←hlm];exact h4.le,h4.max,?_⟩
     have hle:l.length*k≤cur.size:=by rw[hcs];exact Nat.mul_le_mul_right k (by rw[←hlm];exact h4.le)
     apply List.ext_getElem?
     intro j
     rw[List.getElem?_take]
     by_cases hj:j<l.length*k
     ·rw[if_pos hj]
      obtain⟨i,hi,hv⟩:=hflat srt hsl j hj
      have h10:=hx'at (j / k) (j % k) i hi (Nat.mod_lt j hk)
      rw[Nat.mul_comm,Nat.div_add_mod]at h10
      rw[h10]
      have hix:i.1*k+j % k<xs.length:=by rw[hxl];exact idx_lt i.2 (Nat.mod_lt j hk)
      have hjc:j<cur.size:=by omega
      simp only[putCells,Array.getElem?_toList,Array.getElem?_mapIdx,Array.getElem?_eq_getElem hjc,Option.map_some,Nat.sub_zero,Nat.zero_add,id_eq]
      rw[if_pos ⟨Nat.zero_le _,by simpa [hsl]using hj⟩,hv,List.getElem?_eq_getElem hix,getElem!_pos xs _ hix]
     ·rw[if_neg hj,List.getElem?_eq_none (by rw[hx'l];omega)]
    have hSm:∀b,S b→b<w.heap.size→retS S [g0] w [[g0]] b∧(sortWorldK encV k w g0 0 m srt.toArray os).heap[b]?=w.heap[b]?:=fun b hb hlt=>by
     have hne:b≠g0:=fun h=>(hM b (by simp[h])).2 hb
     exact⟨⟨.inl hb,by simpa using hne⟩,hfr.block b hlt (by simpa using hne)⟩
    refine⟨he,by simpa using hfr,[[g0]],⟨⟨hk,.inr ⟨g0,c,_,xs',by simp[hsl],rfl,hblk,by simpa [hsl]using hrow,?_⟩⟩,trivial⟩,by simp,fun b hb=>?_,by simp⟩
    ·have hS2:∀b,S b→b<w.heap.size→retS S ([g0]:List Nat) w [[g0]] b∧(sortWorldK encV k w g0 0 m srt.toArray os).heap[b]?=w.heap[b]?:=hSm
     refine⟨fun row hr=>?_,fun i j row d hi hj=>?_⟩
     ·obtain⟨x,hx,rfl⟩:=List.mem_map.1 hr
      obtain⟨i,_,rfl⟩:=List.mem_map.1 hx
      exact h5.len _ (List.mem_map.2 ⟨_,List.getElem_mem i.2,rfl⟩)
     ·rw[List.getElem?_map,List.getElem?_map]at hi
      obtain⟨x,hx,rfl⟩:=Option.map_eq_some_iff.1 hi
      obtain⟨i',hi',rfl⟩:=Option.map_eq_some_iff.1 hx
      have hjk:j<k:=by
       rw[←h5.len _ (List.mem_map.2 ⟨_,List.getElem_mem i'.2,rfl⟩)]
       exact(List.getElem?_eq_some_iff.1 hj).1
      obtain⟨u,h6,h7⟩:=h5.rep i'.1 j _ d (by rw[List.getElem?_map,List.getElem?_eq_getElem i'.2];rfl) hj
      refine⟨u,by rw[hx'at i j i' hi' hjk];exact h6,h7.mono fun b hb hlt=>?_⟩
      simpa using hS2 b hb hlt
    ·have hb':b=g0:=by simpa using hb
     subst hb'
     exact⟨.inl (by simp),Nat.lt_of_lt_of_le hg0 hfr.size⟩
 | [],h=>exact h.elim
 | _::_::_,h=>exact h.2.elim
end Go.Sx
end
section
namespace Go.Proofs.YtmkapocibaojdaaGreatDoor
open Go Go.Sx Go.Sort Go.Proofs
set_option maxHeartbeats 4000000 in
theorem isAgg_done (w:World):(isAgg 271).run Tryz.prog w=.ok true w:=by simp[isAgg,run_underlying Tryz.underlying271,Result.andThen]
set_option maxHeartbeats 4000000 in
theorem isAgg_dot (w:World):(isAgg 177).run Tryz.prog w=.ok true w:=by simp[isAgg,run_underlying Tryz.underlying177,Result.andThen]
set_option maxHeartbeats 4000000 in
theorem size_of {P:Program} {t k:Nat} (h:(P.info? t).map (·.size)=some k) (w:World):(Go.sizeOf t).run P w=.ok k w:=by
 obtain⟨i,hi,hs⟩:=Option.map_eq_some_iff.1 h
 simp[Go.sizeOf,typeInfo,hi,hs]
theorem sortsDone:SortsK Tryz.prog 196 11:=fun enc hk h1 cf hO g cb blk off cap d w eg hcmp hH hblk hsz hT=>
 AnyQ.slices_SortFunc_total Tryz.sortDone 11 isAgg_done (size_of (by kernel_rfl)) enc hk h1 cf hO g cb blk off cap d w eg hcmp hH hblk hsz hT
theorem sortsDot:SortsK Tryz.prog 210 3:=fun enc hk h1 cf hO g cb blk off cap d w eg hcmp hH hblk hsz hT=>
 AnyQ.slices_SortFunc_total Tryz.sortDot 3 isAgg_dot (size_of (by kernel_rfl)) enc hk h1 cf hO g cb blk off cap d w eg hcmp hH hblk hsz hT
theorem sortsDone0:SortsNone Tryz.prog 196:=fun p cap fv w=>AnyF.slices_SortFunc_none Tryz.sortDone p cap fv w
theorem sortsDot0:SortsNone Tryz.prog 210:=fun p cap fv w=>AnyF.slices_SortFunc_none Tryz.sortDot p cap fv w
theorem cells_done {us:List Value} {x:DoneT} (h:CellsOf us (eDone x)):∃v,v.oneCell'=true∧(Value.agg us.toArray)=doneA x v:=by
 obtain⟨v,hv,hv1⟩:=h.one (j:=6) rfl
 refine⟨v,hv1,?_⟩
 have e:us=[.int .i64 x.o.no,.string x.o.key,.int .i64 x.o.kind,.string x.o.text,.int .i64 x.o.n,.bool x.o.remove,v,.int .i64 x.d.place,.int .i64 x.d.time,.int .i64 x.d.no,.int .i64 x.w]:=by
  apply List.ext_getElem?
  intro j
  have hl:=h.1
  match j with
  | 0=>exact h.plain rfl
  | 1=>exact h.plain rfl
  | 2=>exact h.plain rfl
  | 3=>exact h.plain rfl
  | 4=>exact h.plain rfl
  | 5=>exact h.plain rfl
  | 6=>exact hv
  | 7=>exact h.plain rfl
  | 8=>exact h.plain rfl
  | 9=>exact h.plain rfl
  | 10=>exact h.plain rfl
  | j+11=>rw[List.getElem?_eq_none (by rw[hl];simp),List.getElem?_eq_none (by simp)]
 rw[e]
theorem cells_dot {us:List Value} {x:DotT} (h:CellsOf us (eDot x)):(Value.agg us.toArray)=dotV x:=by
 have e:us=[.int .i64 x.place,.int .i64 x.time,.int .i64 x.no]:=by
  apply List.ext_getElem?
  intro j
  have hl:=h.1
  match j with
  | 0=>exact h.plain rfl
  | 1=>exact h.plain rfl
  | 2=>exact h.plain rfl
  | j+3=>rw[List.getElem?_eq_none (by rw[hl];simp),List.getElem?_eq_none (by simp)]
 rw[e]
theorem nodup_ne {α β:Type} {g:α→β} {l:List α} (hn:(l.map g).Nodup) {i j:Nat} {x y:α} (hij:i≠j) (hx:l[i]?=some x) (hy:l[j]?=some y):g x≠g y:=fun he=>by
 have h1:(l.map g)[i]?=some (g x):=by rw[List.getElem?_map,hx];rfl
 have h2:(l.map g)[j]?=some (g x):=by rw[List.getElem?_map,hy,he];rfl
 exact hij ((List.getElem?_inj (List.getElem?_eq_some_iff.1 h1).1 hn).1 (h1.trans h2.symm))
set_option maxHeartbeats 4000000 in
theorem sortDoneAcc {w:World} {S:Nat→Prop} {M:List Nat} {a:Option Addr} {n c:Nat} {l:List DoneT} (hP:Pre w S M [cAcc (.slice a n c) 271 11 (l.map eDone)]) (hl:l.length≤4000000) (hnd:(l.map (·.d)).Nodup) :
  Calls Tryz.prog 196 #[.slice a n c,.func (.func 197) #[] #[]] w fun e' w'=>Ret M w S w' e' (.tuple #[]) [cAcc (.slice a n c) 271 11 ((sortDone l).map eDone)] []:=by
 refine sortAcc sortsDone sortsDone0 doneCmp _ #[] hP (by omega) (enters_of Tryz.func197 (by kernel_rfl) rfl) (fun x y _ _ us vs W hu hv=>?_) (fun x _=>?_) (fun x y z _ _ _ h1 h2=>?_) fun i j x y hij hx hy=>?_
 ·obtain⟨v1,o1,e1⟩:=cells_done hu
  obtain⟨v2,o2,e2⟩:=cells_done hv
  rw[e1,e2]
  exact cmpDone (S:=fun _=>True) o1 o2
 ·rw[doneCmp_eq,lexC_self];omega
 ·rw[doneCmp_eq]at *
  exact lexC_trans h1 h2
 ·have:=nodup_ne hnd hij hx hy
  rcases doneLt_tri x y with h|h|h
  ·exact .inl (by simpa [doneLt]using h)
  ·exact absurd (doneKey_dot h) this
  ·exact .inr (by simpa [doneLt]using h)
set_option maxHeartbeats 4000000 in
theorem sortDotAcc {w:World} {S:Nat→Prop} {M:List Nat} {a:Option Addr} {n c:Nat} {l:List DotT} (hP:Pre w S M [cAcc (.slice a n c) 177 3 (l.map eDot)]) (hl:l.length≤4000000) (hnd:l.Nodup) :
  Calls Tryz.prog 210 #[.slice a n c,.func (.func 211) #[] #[]] w fun e' w'=>Ret M w S w' e' (.tuple #[]) [cAcc (.slice a n c) 177 3 ((sortDots l).map eDot)] []:=by
 refine sortAcc sortsDot sortsDot0 dotCmp _ #[] hP (by omega) (enters_of Tryz.func211 (by kernel_rfl) rfl) (fun x y _ _ us vs W hu hv=>?_) (fun x _=>?_) (fun x y z _ _ _ h1 h2=>?_) fun i j x y hij hx hy=>?_
 ·rw[cells_dot hu,cells_dot hv]
  exact cmpDot (S:=fun _=>True)
 ·rw[dotCmp_eq,lexC_self];omega
 ·rw[dotCmp_eq]at *
  exact lexC_trans h1 h2
 ·have:x≠y:=nodup_ne (g:=id) (by simpa using hnd) hij hx hy
  rcases dotLt_tri x y with h|h|h
  ·exact .inl (by simpa [dotLt]using h)
  ·exact absurd h this
  ·exact .inr (by simpa [dotLt]using h)
end Go.Proofs.YtmkapocibaojdaaGreatDoor
end
section
namespace Go.Proofs.YtmkapocibaojdaaGreatDoor
open Go Go.Sx
structure OpsS where
 i:Int
 es:Array MapEntry
 clock:Nat
 a:Option Addr
 k:Nat
 c:Nat
set_option maxHeartbeats 4000000 in
theorem vOps {w:World} {S:Nat→Prop} {er:Nat→Addr} {eb:Nat→Array Value×TypeId} {a:Option Addr} {n c:Nat} {key:ByteArray} {l:List ComT} (hC:Rep w S .nilIface (dC er eb)) (h:Rep w S (.slice a n c) (.sl 3 (l.map eCom))) (hl:l.length≤300000) (hl1:∀x∈l,x.when.length≤1000000) (hl2:∀x∈l,x.ops.length≤1000000) :
  Calls Tryz.prog 159 #[.string key,.slice a n c] w fun e w'=>((valFault key l).code≠0∧FVal w S w' e er (valFault key l) fun v=>.tuple #[.slice none 0 0,v])∨((valFault key l).code=0∧∃a' n' c',Ret [] w S w' e (.tuple #[.slice a' n' c',.nilIface]) [] [(.slice a' n' c',.sl 11 ((opsOf key l).map eDone))]):=by
 have e2:=h.slen
 rw[List.length_map]at e2
 subst e2
 refine epG Tryz.func159 bd159 (args:=[.string key,.slice a l.length c]) (G:=[(_,dC er eb),(_,.sl 3 (l.map eCom))]) (by kernel_rfl) (.cons hC (.cons h (.nil _ _))) ?_
 refine J_stp (stp_all 0 [3,2] rfl rfl) ?_
 refine J_glob 2 rfl (fun csg1 tyg1 fzg1 hglob1=>?_)
 refine J_glob 3 rfl (fun csg2 tyg2 fzg2 hglob2=>?_)
 try simp only[aQ]
 refine Zs [zR 0,zR 1] [] [zS 4 none 0 0,zV 5 .nilIface] ?_
 refine J_seq ?_
 refine jS [(0,true),(1,false),(2,true)] [] ?_
 refine Ya [zR 0] [] [zV 16 (.string key)] ?_
 refine Yc 154 #[.string key] (some 17) fun w S hG=>?_
 refine(vName (S:=S)).mono ?_
 rintro e1 w1 hR
 refine⟨_,_,_,hR,?_⟩
 cases hname:nameOk key with
 | false=>
  have hv:valFault key l=⟨4,-1⟩:=by rw[valFault,if_pos hname]
  try simp only[aQ]
  refine Ya [zR 2] [17,16] [zB 18 true] ?_
  refine JR_end ?_
  refine cTt ?_
  refine Zt [.rd 0 [.r 0 (some (.iface 390 (.pointer (some (er 4)))))] 0 0,zR 1,zR 2] [18] [zV 5 (.iface 390 (.pointer (some (er 4))))] (oC hglob1 oN) ?_
  refine Yr [[],[]] (.tuple #[.slice none 0 0,.iface 390 (.pointer (some (er 4)))]) fun a w s=>?_
  rw[hv]
  exact .inl ⟨by decide,.inl ⟨rfl,_,s.ret (by simp) [] [] rfl rfl,.inr ⟨by decide,rfl⟩⟩⟩
 | true=>
  have hv:valFault key l=listFault l:=by rw[valFault,if_neg (by simp[hname])]
  rw[hv]
  try simp only[aQ]
  refine Ya [zR 2] [17,16] [zB 18 false] ?_
  refine JR_end ?_
  refine cF ?_
  refine J_skip ?_
  refine Zv [.wr 0 [] 0,zR 1] [] [18] (fun nu1=>[zV 6 (.map (some (nu1 0)))]) o0 (fun nu1=>[(nu1 0,Obj.map #[] 0)]) (fun nu1=>?_)
  refine Zs [zR 0] [] [zS 7 none 0 0] ?_
  refine J_seq ?_
  refine Zs (Rds 0 3) [] [zS 21 a l.length c,zI 22 (↑l.length:Int),zI 23 0] ?_
  refine J_block ?_
  refine J_stp (stp_accm eDone 271 11) ?_
  have hm0:MapG okDot #[] (dotSet ((allDone (l.take (0:Int).toNat)).map (·.d))):=(MapG.empty okDot).congr dotSet_nil
  refine J_loopx (fun x:OpsS=>[zV 0 (.string key),zS 1 a l.length c,zS 4 none 0 0,zV 5 .nilIface,zV 6 (.map (some (nu1 0))),zS 7 x.a x.k x.c,zS 21 a l.length c,zI 22 (↑l.length:Int),zI 23 x.i]) (fun x:OpsS=>[(nu1 0,.map x.es x.clock)]) (fun x:OpsS=>[cAcc (.slice x.a x.k x.c) 271 11 ((keyFirst key (allDone (l.take x.i.toNat))).map eDone)]) (fun x:OpsS=>[(.nilIface,(dC er eb)),(.slice a l.length c,(D.sl 3 (List.map eCom l))),(.pointer (sA 8 0),(D.ptr [D.v (Value.iface 390 (Value.pointer (some (er 4))))])),(.pointer (sA 1 0),(D.ptr [D.v (Value.iface 390 (Value.pointer (some (er 3))))]))]) (fun x:OpsS=>(l.length - x.i).toNat) (fun x:OpsS=>(0≤x.i∧x.i≤l.length∧(∀j,j<x.i.toNat→comErrAt l j=0)∧MapG okDot x.es (dotSet ((allDone (l.take x.i.toNat)).map (·.d))))) ⟨0,#[],0,none,0,0⟩ [0,1,4,5,6,7,21,22,23] [0] [0] [0,1,2,3] ?_ (by kernel_rfl) rfl rfl rfl ?_
  ·exact⟨by simp,by simp,by simp,hm0⟩
  rintro⟨i,es,clock,av,k,cv⟩ ⟨hi0,hi,hno,hm⟩
  dsimp only at hi0 hi hno hm ⊢
  refine Zs [zR 0] [] [zB 24 (decide (i<(↑l.length:Int)))] ?_
  refine J_seq ?_
  refine cC (t:=decide (i<(↑l.length:Int))) (fun hlt=>?_) (fun hlt=>?_)
  ·have hlt2:i<l.length:=by simpa using hlt
   obtain⟨x,hx⟩:∃x,l[i.toNat]?=some x:=⟨_,List.getElem?_eq_getElem (by omega)⟩
   refine J_read2 1 rfl i.toNat (map_at hx) (by kernel_rfl) (fun b1 off1 cs1 ty1 fz1 a1_0 c1_0 a1_1 c1_1 ha1 hrd1=>?_)
   cases ha1
   have hrd1_0:=rd0 (hrd1 0 _ rfl)
   have hrd1_1:=hrd1 1 _ rfl
   have hrd1_2:=hrd1 2 _ rfl
   try simp only[aQ]
   refine J_skip (J_seq (J_block ?_))
   refine Zu [zR 0,.rd 1 [] 0 2,.rd 2 [.r 2 (some (.slice (a1_0,c1_0).fst ((List.map eI x.when).length) c1_0)),.r 2 (some (nI x.place)),.r 2 (some (.slice (a1_1,c1_1).fst ((List.map eOp x.ops).length) c1_1))] 0 0,.wr 3 [] 0,zR 4,.wr 5 (hnO 1 3) 0] [(5,[])] [24] (fun nu2=>[zI 8 i,zP 9 (nu2 0)]) o0 (fun nu2=>[(nu2 0,.cells #[.slice (a1_0,c1_0).fst ((List.map eI x.when).length) c1_0,nI x.place,.slice (a1_1,c1_1).fst ((List.map eOp x.ops).length) c1_1] 35 (0,0))]) (fun nu2=>(oC hi0 (oC hlt2 (oC hrd1_0 (oC hrd1_1 (oC hrd1_2 oN)))))) (fun nu2=>?_)
   refine jS [(0,true),(1,false),(2,false),(3,true)] [] ?_
   refine Ya [.rd 0 (hnO 1 3) 0 0] [] [zV 28 (.agg #[.slice (a1_0,c1_0).fst ((List.map eI x.when).length) c1_0,nI x.place,.slice (a1_1,c1_1).fst ((List.map eOp x.ops).length) c1_1])] ?_
   refine Yc 85 #[.agg #[.slice (a1_0,c1_0).fst ((List.map eI x.when).length) c1_0,nI x.place,.slice (a1_1,c1_1).fst ((List.map eOp x.ops).length) c1_1]] (some 29) fun w S hG=>?_
   refine(checkCommit (c:=x) (hG.at 0 rfl) (hG.at 4 rfl) (hG.at 5 rfl) (hl1 x (List.mem_of_getElem? hx)) (hl2 x (List.mem_of_getElem? hx))).mono ?_
   rintro e1 w1 (⟨hat,v,hR,hv1⟩|⟨hc1,hat,pb,hR⟩)
   ·refine⟨_,_,_,hR,?_⟩
    try simp only[aQ]
    refine Yc 164 #[v] (some 30) fun w S hG=>?_
    refine(bareE (hG.at 0 rfl) hv1).mono ?_
    rintro e2 w2 hR
    refine⟨_,_,_,hR,?_⟩
    rcases hv1 with ⟨hv2,rfl⟩|⟨hv2,rfl⟩
    ·obtain⟨c0,hc0⟩:∃c0,l[0]?=some c0:=⟨_,List.getElem?_eq_getElem (by omega)⟩
     have hfl:firstLen l=c0.when.length:=by cases l with
      | nil=>simp at hc0
      | cons y l=>simp at hc0;subst hc0;rfl
     try simp only[aQ]
     refine Ya [zR 3] [30,29,28] [zV 10 .nilIface] ?_
     refine JR_end (J_seq (J_seq ?_))
     refine J_again2 1 rfl 2 rfl 0 (map_at hc0) (by kernel_rfl) (fun a2_0 c2_0 a2_1 c2_1 hrd2=>?_)
     have hrd2_0:=rd0 (hrd2 0 _ rfl)
     have hrd2_1:=hrd2 1 _ rfl
     have hrd2_2:=hrd2 2 _ rfl
     have hz0:cs1[off1]?=some (.slice a2_0 (c0.when.map eI).length c2_0):=hrd2_0
     rw[List.length_map]at hz0
     by_cases hlen:x.when.length=c0.when.length
     ·have hrt:=right_of hv2
      obtain⟨t,ht⟩:∃t,x.when[x.place.toNat]?=some t:=⟨_,List.getElem?_eq_getElem (by have:=hrt.p0;have:=hrt.p1;omega)⟩
      have hP12:=allDone_len (rights (i:=i.toNat) hno (by omega))
      rw[List.length_take]at hP12
      have ho12:=hrt.o2
      have hp0:=hrt.p0
      have hp1:=hrt.p1
      try simp only[aQ]
      refine Zp (Rds 0 4++[.rd 4 [.o 1 none] 0 0,zR 5,zR 6,.rd 7 [] 0 2,zR 8,.rd 9 [.r 2 (some (.slice (a2_0,c2_0).fst ((List.map eI c0.when).length) c2_0))] 0 0,zR 10,.rd 11 [] 0 7,zR 12]) [] [zB 43 false] (oC (show(0:Int)≤(0:Int) from by omega) (oC (show(0:Int)<(↑l.length:Int) from by omega) (oC hrd2_0 (oC (show((↑(List.map eI x.when).length:Int) != (↑(List.map eI c0.when).length:Int))=false from by simp;omega) oN)))) ?_
      refine cF ?_
      refine J_skip (J_seq ?_)
      refine Zs [zR 0,zR 1] [43] [zB 46 false] ?_
      refine cF ?_
      refine J_skip ?_
      refine jS [(0,true),(1,true),(2,false),(3,true),(4,true),(5,true),(6,true),(7,true)] [] ?_
      refine Ya [zR 0,.rd 1 [.o 1 none] 0 0] [46] [zS 54 a1_0 ((List.map eI x.when).length) c1_0] ?_
      refine Yc 195 #[.slice a1_0 ((List.map eI x.when).length) c1_0] (some 55) fun w S hG=>?_
      refine(vweight (globs_of (hG.at 0 rfl)) (hG.at 4 rfl) (hl1 x (List.mem_of_getElem? hx))).mono ?_
      rintro e3 w3 (⟨hv3,hR⟩|⟨hv3,hR⟩)
      ·exact absurd hrt.vec hv3
      refine⟨_,_,_,hR,?_⟩
      try simp only[aQ]
      refine Ya (Rds 3 8) [55,54] [zI 11 (sumL x.when)] ?_
      refine JR_end ?_
      refine Zs [zR 0,.rd 1 [.o 1 none] 0 0,zR 2,zR 3] [] [zS 59 a1_1 ((List.map eOp x.ops).length) c1_1,zI 60 ((↑(List.map eOp x.ops).length:Int)),zI 61 0] ?_
      refine J_block ?_
      have hm1:MapG okDot es (dotSet ((allDone (l.take i.toNat)++(x.ops.take (0:Int).toNat).map (doneOf x)).map (·.d))):=by simpa using hm
      rw[show keyFirst key (allDone (l.take i.toNat))=keyFirst key (allDone (l.take i.toNat)++(x.ops.take (0:Int).toNat).map (doneOf x))by simp]
      refine J_loopx (fun y:OpsS=>[zV 0 (.string key),zS 1 (sA b1 off1) l.length c,zS 4 none 0 0,zV 5 .nilIface,zV 6 (.map (some (nu1 0))),zS 7 y.a y.k y.c,zI 8 i,zP 9 (nu2 0),zV 10 .nilIface,zI 11 (sumL x.when),zS 21 (sA b1 off1) l.length c,zI 22 (↑l.length:Int),zI 23 i,zS 59 a1_1 ((List.map eOp x.ops).length) c1_1,zI 60 ((↑(List.map eOp x.ops).length:Int)),zI 61 y.i]) (fun y:OpsS=>[(nu1 0,.map y.es y.clock),(nu2 0,.cells #[.slice a1_0 ((List.map eI x.when).length) c1_0,nI x.place,.slice a1_1 ((List.map eOp x.ops).length) c1_1] 35 (0,0))]) (fun y:OpsS=>[cAcc (.slice y.a y.k y.c) 271 11 ((keyFirst key (allDone (l.take i.toNat)++(x.ops.take y.i.toNat).map (doneOf x))).map eDone)]) (fun y:OpsS=>[(.nilIface,(dC er eb)),(.slice (sA b1 off1) l.length c,(D.sl 3 (List.map eCom l))),(.pointer (sA 8 0),(D.ptr [D.v (Value.iface 390 (Value.pointer (some (er 4))))])),(.pointer (sA 1 0),(D.ptr [D.v (Value.iface 390 (Value.pointer (some (er 3))))])),(.slice (a1_0,c1_0).fst ((List.map eI x.when).length) c1_0,(D.sl 1 (List.map eI x.when))),(.slice (a1_1,c1_1).fst ((List.map eOp x.ops).length) c1_1,(D.sl 7 (List.map eOp x.ops)))]) (fun y:OpsS=>(x.ops.length - y.i).toNat) (fun y:OpsS=>(0≤y.i∧y.i≤x.ops.length∧MapG okDot y.es (dotSet ((allDone (l.take i.toNat)++(x.ops.take y.i.toNat).map (doneOf x)).map (·.d))))) ⟨0,es,clock,av,k,cv⟩ [0,1,4,5,6,7,8,9,10,11,21,22,23,59,60,61] [0,1] [0] [0,1,2,3,4,5] ?_ (by kernel_rfl) rfl rfl rfl ?_
      ·exact⟨by simp,by simp,hm1⟩
      rintro⟨j,es1,clock1,av1,k1,cv1⟩ ⟨hj0,hj,hmj⟩
      dsimp only at hj0 hj hmj ⊢
      refine J_stpx (stp_acclen 0 rfl) fun _ hk=>?_
      have hk1:k1≤4000000:=by
       rw[hk,List.length_map]
       refine Nat.le_trans (keyFirst_len _ _) ?_
       rw[List.length_append,List.length_map,List.length_take]
       omega
      clear hk
      refine Zs [zR 0] [] [zB 62 (decide (j<(↑(List.map eOp x.ops).length:Int)))] ?_
      refine J_seq ?_
      refine cC (t:=decide (j<(↑(List.map eOp x.ops).length:Int))) (fun hlt1=>?_) (fun hlt1=>?_)
      ·have hlt3:j<x.ops.length:=by simpa using hlt1
       obtain⟨o,ho⟩:∃o,x.ops[j.toNat]?=some o:=⟨_,List.getElem?_eq_getElem (by omega)⟩
       have hdo:doneOf x o=⟨o,⟨x.place,t,o.no⟩,sumL x.when⟩:=by simp[doneOf,dotOf,List.getD_eq_getElem?_getD,ht,wsum,sumL]
       have hsn:(allDone (l.take i.toNat)++(x.ops.take (j+1).toNat).map (doneOf x))=(allDone (l.take i.toNat)++(x.ops.take j.toNat).map (doneOf x))++[⟨o,⟨x.place,t,o.no⟩,sumL x.when⟩]:=by
        rw[←take_snoc hj0 ho,List.map_append,←List.append_assoc,List.map_singleton,hdo]
       refine J_read1 5 rfl j.toNat (map_at ho) (by kernel_rfl) (fun b3 off3 cs3 ty3 fz3 a3_0 c3_0 ha3 hrd3=>?_)
       cases ha3
       have hrd3_0:=rd0 (hrd3 0 _ rfl)
       have hrd3_1:=hrd3 1 _ rfl
       have hrd3_2:=hrd3 2 _ rfl
       have hrd3_3:=hrd3 3 _ rfl
       have hrd3_4:=hrd3 4 _ rfl
       have hrd3_5:=hrd3 5 _ rfl
       have hrd3_6:=hrd3 6 _ rfl
       refine J_read0 4 rfl x.place.toNat (map_at ht) (by kernel_rfl) (fun b4 off4 cs4 ty4 fz4 ha4 hrd4=>?_)
       cases ha4
       have hrd4_0:=rd0 (hrd4 0 _ rfl)
       have hin:∀v es',MapG okDot es' (fput (dotSet ((allDone (l.take i.toNat)++(x.ops.take j.toNat).map (doneOf x)).map (·.d))) (.agg #[.int .i64 x.place,.int .i64 t,.int .i64 o.no]) (.bool true))→v=j+1→0≤v∧v≤x.ops.length∧MapG okDot es' (dotSet ((allDone (l.take i.toNat)++(x.ops.take v.toNat).map (doneOf x)).map (·.d))):=fun v es' h1 h2=>by
        subst h2
        refine⟨by omega,by omega,?_⟩
        rw[hsn,List.map_append]
        exact h1.congr (dotSet_snoc (d:=⟨x.place,t,o.no⟩))
       by_cases hmem:(⟨x.place,t,o.no⟩:DotT)∈(allDone (l.take i.toNat)++(x.ops.take j.toNat).map (doneOf x)).map (·.d)
       ·have e4:keyFirst key (allDone (l.take i.toNat)++(x.ops.take j.toNat).map (doneOf x))=keyFirst key (allDone (l.take i.toNat)++(x.ops.take (j+1).toNat).map (doneOf x)):=by
         rw[hsn,keyFirst_snoc,if_neg (fun h=>h.1 hmem),List.append_nil]
        try simp only[aQ]
        refine J_skip (J_seq (J_block ?_))
        refine Zu [.rd 0 [] 0 2,.rd 1 [.r 3 (some (nI o.no)),.r 3 (some (.string o.key)),.r 3 (some (nI o.kind)),.r 3 (some (.string o.text)),.r 3 (some (nI o.n)),.r 3 (some (.bool o.remove)),.r 3 (some (.slice (a3_0,c3_0).fst ((List.map eDot o.dots).length) c3_0))] 0 0,.wr 2 [] 0,.wr 3 (hnO 2 7) 0] [(3,[])] [62] (fun nu3=>[zP 14 (nu3 0)]) o0 (fun nu3=>[(nu3 0,.cells #[nI o.no,.string o.key,nI o.kind,.string o.text,nI o.n,.bool o.remove,.slice (a3_0,c3_0).fst ((List.map eDot o.dots).length) c3_0] 55 (0,0))]) (fun nu3=>(oC hj0 (oC (show j<(↑(List.map eOp x.ops).length:Int) from by simp;omega) (oC hrd3_0 (oC hrd3_1 (oC hrd3_2 (oC hrd3_3 (oC hrd3_4 (oC hrd3_5 (oC hrd3_6 oN)))))))))) (fun nu3=>?_)
        refine Zu [zR 0,.rd 1 [.o 1 none] 0 0,zR 2,.rd 3 [.o 1 none] 0 0,zR 4,.rd 5 [.o 1 none] 0 0,.rd 6 [] 0 2,.rd 7 [.r 4 (some (nI t))] 0 0,zR 8,.rd 9 [.o 2 none] 0 0,zR 10,.wr 11 [] 0,.wr 12 (hnO 3 3) 0] [(12,[])] [] (fun nu4=>[zP 15 (nu4 0)]) o0 (fun nu4=>[(nu4 0,.cells #[nI x.place,nI t,nI o.no] 177 (0,0))]) (fun nu4=>(oC hp0 (oC (show x.place<(↑(List.map eI x.when).length:Int) from by simp;omega) (oC hrd4_0 oN)))) (fun nu4=>?_)
        refine J_seq ?_
        refine jS [(0,true),(1,true),(2,true),(3,true),(4,true),(5,true),(6,true),(7,true),(8,true),(9,true)] [] ?_
        refine Ya [zR 0,.rd 1 (hnO 3 3) 0 0] [] [zV 76 (.map (some (nu1 0))),zV 77 (.agg #[nI x.place,nI t,nI o.no])] ?_
        refine JRg_lookr (.o 0 none) (nu1 0) 216 177 4 okDot (.agg #[.int .i64 x.place,.int .i64 t,.int .i64 o.no]) (.bool false) false (some 78) (by kernel_rfl) (by kernel_rfl) (by kernel_rfl) keyOk_177 (by first|exact⟨_,_,_,rfl⟩|simp[MapKept.IsKey]) (by kernel_rfl) rfl hmj (fun hno=>?_) (fun v hv=>?_)
        ·rw[dotSet_in hmem]at hno
         cases hno
        ·rw[dotSet_in hmem]at hv
         cases hv
         refine Ya [zR 3,zR 4,.rd 5 [] 1 0,.rd 6 [] 1 0,.rd 7 [] 1 0,.rd 8 [] 1 0,zR 9] [78,76,77] [zB 85 false] ?_
         refine JR_end ?_
         refine cF ?_
         refine J_skip ?_
         refine jT [(0,true),(1,true),(2,false)] [] ?_
         refine Ya [zR 0,.rd 1 (hnO 3 3) 0 0] [85] [zV 93 (.map (some (nu1 0))),zV 94 (.agg #[nI x.place,nI t,nI o.no])] ?_
         refine JRg_put 0 (nu1 0) 216 177 4 okDot (.agg #[.int .i64 x.place,.int .i64 t,.int .i64 o.no]) (.bool true) none (by kernel_rfl) (by kernel_rfl) (by kernel_rfl) keyOk_177 (by first|exact⟨_,_,_,rfl⟩|simp[MapKept.IsKey]) rfl hmj (fun es2 clock2 hm2 hsz2=>?_)
         refine JR_end (J_eb ?_)
         refine Zp [.rd 0 [] 0 1,zR 1] [] [zI 61 (j+1)] (oC (show IntKind.i64.wrap (j+1)=j+1 from wrap_i64 (by omega) (by omega)) oN) ?_
         rw[e4]
         refine J_backx ⟨j+1,_,_,_,_,_⟩ [0,1,4,5,6,7,8,9,10,11,21,22,23,59,60,61] [0,1] [0] [0,1,2,3,4,5] ?_ ?_ (by kernel_rfl) rfl rfl rfl
         ·exact hin _ _ hm2 rfl
         ·simp only
          omega
       ·try simp only[aQ]
        refine J_skip (J_seq (J_block ?_))
        refine Zu [.rd 0 [] 0 2,.rd 1 [.r 3 (some (nI o.no)),.r 3 (some (.string o.key)),.r 3 (some (nI o.kind)),.r 3 (some (.string o.text)),.r 3 (some (nI o.n)),.r 3 (some (.bool o.remove)),.r 3 (some (.slice (a3_0,c3_0).fst ((List.map eDot o.dots).length) c3_0))] 0 0,.wr 2 [] 0,.wr 3 (hnO 2 7) 0] [(3,[])] [62] (fun nu3=>[zP 14 (nu3 0)]) o0 (fun nu3=>[(nu3 0,.cells #[nI o.no,.string o.key,nI o.kind,.string o.text,nI o.n,.bool o.remove,.slice (a3_0,c3_0).fst ((List.map eDot o.dots).length) c3_0] 55 (0,0))]) (fun nu3=>(oC hj0 (oC (show j<(↑(List.map eOp x.ops).length:Int) from by simp;omega) (oC hrd3_0 (oC hrd3_1 (oC hrd3_2 (oC hrd3_3 (oC hrd3_4 (oC hrd3_5 (oC hrd3_6 oN)))))))))) (fun nu3=>?_)
        refine Zu [zR 0,.rd 1 [.o 1 none] 0 0,zR 2,.rd 3 [.o 1 none] 0 0,zR 4,.rd 5 [.o 1 none] 0 0,.rd 6 [] 0 2,.rd 7 [.r 4 (some (nI t))] 0 0,zR 8,.rd 9 [.o 2 none] 0 0,zR 10,.wr 11 [] 0,.wr 12 (hnO 3 3) 0] [(12,[])] [] (fun nu4=>[zP 15 (nu4 0)]) o0 (fun nu4=>[(nu4 0,.cells #[nI x.place,nI t,nI o.no] 177 (0,0))]) (fun nu4=>(oC hp0 (oC (show x.place<(↑(List.map eI x.when).length:Int) from by simp;omega) (oC hrd4_0 oN)))) (fun nu4=>?_)
        refine J_seq ?_
        refine jS [(0,true),(1,true),(2,true),(3,true),(4,true),(5,true),(6,true),(7,true),(8,true),(9,true)] [] ?_
        refine Ya [zR 0,.rd 1 (hnO 3 3) 0 0] [] [zV 76 (.map (some (nu1 0))),zV 77 (.agg #[nI x.place,nI t,nI o.no])] ?_
        refine JRg_lookr (.o 0 none) (nu1 0) 216 177 4 okDot (.agg #[.int .i64 x.place,.int .i64 t,.int .i64 o.no]) (.bool false) false (some 78) (by kernel_rfl) (by kernel_rfl) (by kernel_rfl) keyOk_177 (by first|exact⟨_,_,_,rfl⟩|simp[MapKept.IsKey]) (by kernel_rfl) rfl hmj (fun hno=>?_) (fun v hv=>?_)
        ·by_cases hkey:o.key=key
         ·have hkb:(o.key.toList==key.toList)=true:=by rw[strEq,decide_eq_true hkey]
          refine Yp (Rds 3 6++[.rd 6 [.o 2 none] 0 0,zR 7,.rd 8 [] 0 6,zR 9]) [78,76,77] [zB 85 true] (oC (show(o.key.toList==key.toList)=true from by assumption) oN) ?_
          refine JR_end ?_
          refine cTt ?_
          refine jT [(0,true),(1,true),(2,true),(3,true),(4,true),(5,false),(6,false),(7,true)] [] ?_
          refine Ym [zR 0,.rd 1 (hnO 2 7) 0 0,.rd 2 (hnO 3 3) 0 0,zR 3,zR 4,.wr 5 [] 0] [85] (fun nu5=>[zS 86 av1 k1 cv1,zS 91 (sA (nu5 0) 0) 1 1]) o0 (fun nu5=>[(nu5 0,.cells #[nI o.no,.string o.key,nI o.kind,.string o.text,nI o.n,.bool o.remove,.slice (a3_0,c3_0).fst ((List.map eDot o.dots).length) c3_0,nI x.place,nI t,nI o.no,nI (sumL x.when)] 271 (0,0))]) [] (fun nu5=>?_)
          refine JR_appm 0 265 271 11 120 (.agg #[.int .i64 0,.string (ByteArray.mk #[]),.int .i64 0,.string (ByteArray.mk #[]),.int .i64 0,.bool false,.slice none 0 0,.int .i64 0,.int .i64 0,.int .i64 0,.int .i64 0]) (a0:=av1) (len:=k1) (cap0:=cv1) (ax:=(some (⟨nu5 0,0,none⟩))) (m:=1) (c:=1) (dst:=(some 92)) [(⟨o,⟨x.place,t,o.no⟩,sumL x.when⟩:DoneT)] (by kernel_rfl) (by kernel_rfl) (by kernel_rfl) (by kernel_rfl) rfl (by decide) rfl (fun _ _ _ s=>src_one s 4 rfl rfl ⟨.inl ⟨rfl,rfl⟩,⟨.inl ⟨rfl,rfl⟩,⟨.inl ⟨rfl,rfl⟩,⟨.inl ⟨rfl,rfl⟩,⟨.inl ⟨rfl,rfl⟩,⟨.inl ⟨rfl,rfl⟩,⟨.inr (.inl (List.mem_of_getElem? (i:=6) rfl)),⟨.inl ⟨rfl,rfl⟩,⟨.inl ⟨rfl,rfl⟩,⟨.inl ⟨rfl,rfl⟩,⟨.inl ⟨rfl,rfl⟩,trivial⟩⟩⟩⟩⟩⟩⟩⟩⟩⟩⟩) (by simp only[maxLen];omega) (by omega) (fun av2 cv2=>?_)
          have e4:keyFirst key (allDone (l.take i.toNat)++(x.ops.take j.toNat).map (doneOf x))++[⟨o,⟨x.place,t,o.no⟩,sumL x.when⟩]=keyFirst key (allDone (l.take i.toNat)++(x.ops.take (j+1).toNat).map (doneOf x)):=by
           rw[hsn,keyFirst_snoc,if_pos ⟨hmem,hkey⟩]
          try simp only[aQ]
          refine Ya [zR 7] [92,86,91] [zS 7 av2 (k1+1) cv2] ?_
          try simp only[aQ]
          refine JR_end ?_
          try simp only[aQ]
          refine jT [(0,true),(1,true),(2,false)] [] ?_
          refine Ya [zR 0,.rd 1 (hnO 3 3) 0 0] [] [zV 93 (.map (some (nu1 0))),zV 94 (.agg #[nI x.place,nI t,nI o.no])] ?_
          refine JRg_put 0 (nu1 0) 216 177 4 okDot (.agg #[.int .i64 x.place,.int .i64 t,.int .i64 o.no]) (.bool true) none (by kernel_rfl) (by kernel_rfl) (by kernel_rfl) keyOk_177 (by first|exact⟨_,_,_,rfl⟩|simp[MapKept.IsKey]) rfl hmj (fun es2 clock2 hm2 hsz2=>?_)
          try simp only[aQ]
          refine JR_end ?_
          try simp only[aQ]
          refine J_eb ?_
          try simp only[aQ]
          refine Zp [.rd 0 [] 0 1,zR 1] [] [zI 61 (j+1)] (oC (show IntKind.i64.wrap (j+1)=j+1 from wrap_i64 (by omega) (by omega)) oN) ?_
          try simp only[aQ]
          rw[e4]
          refine J_backx ⟨j+1,_,_,_,_,_⟩ [0,1,4,5,6,7,8,9,10,11,21,22,23,59,60,61] [0,1] [0] [0,1,2,3,4,5] ?_ ?_ (by kernel_rfl) rfl rfl rfl
          ·exact hin _ _ hm2 rfl
          ·simp only
           omega
         ·have hkb:(o.key.toList==key.toList)=false:=by rw[strEq,decide_eq_false hkey]
          have e4:keyFirst key (allDone (l.take i.toNat)++(x.ops.take j.toNat).map (doneOf x))=keyFirst key (allDone (l.take i.toNat)++(x.ops.take (j+1).toNat).map (doneOf x)):=by
           rw[hsn,keyFirst_snoc,if_neg (fun h=>hkey h.2),List.append_nil]
          refine Yp (Rds 3 6++[.rd 6 [.o 2 none] 0 0,zR 7,.rd 8 [] 0 7,zR 9]) [78,76,77] [zB 85 false] (oC (show(o.key.toList==key.toList)=false from by assumption) oN) ?_
          refine JR_end ?_
          refine cF ?_
          refine J_skip ?_
          refine jT [(0,true),(1,true),(2,false)] [] ?_
          refine Ya [zR 0,.rd 1 (hnO 3 3) 0 0] [85] [zV 93 (.map (some (nu1 0))),zV 94 (.agg #[nI x.place,nI t,nI o.no])] ?_
          refine JRg_put 0 (nu1 0) 216 177 4 okDot (.agg #[.int .i64 x.place,.int .i64 t,.int .i64 o.no]) (.bool true) none (by kernel_rfl) (by kernel_rfl) (by kernel_rfl) keyOk_177 (by first|exact⟨_,_,_,rfl⟩|simp[MapKept.IsKey]) rfl hmj (fun es2 clock2 hm2 hsz2=>?_)
          refine JR_end (J_eb ?_)
          refine Zp [.rd 0 [] 0 1,zR 1] [] [zI 61 (j+1)] (oC (show IntKind.i64.wrap (j+1)=j+1 from wrap_i64 (by omega) (by omega)) oN) ?_
          rw[e4]
          refine J_backx ⟨j+1,_,_,_,_,_⟩ [0,1,4,5,6,7,8,9,10,11,21,22,23,59,60,61] [0,1] [0] [0,1,2,3,4,5] ?_ ?_ (by kernel_rfl) rfl rfl rfl
          ·exact hin _ _ hm2 rfl
          ·simp only
           omega
        ·rw[dotSet_out hmem]at hv
         cases hv
      ·have hjl:(x.ops.take j.toNat)=x.ops:=List.take_of_length_le (by simp at hlt1;omega)
       rw[hjl,allDone_snoc hi0 hx]at hmj
       rw[hjl,allDone_snoc hi0 hx]
       refine J_exit rfl ?_
       refine J_eb ?_
       refine Zp [.rd 0 [] 0 1,zR 1] [62] [zI 23 (i+1)] (oC (show IntKind.i64.wrap (i+1)=i+1 from wrap_i64 (by omega) (by omega)) oN) ?_
       refine J_backx ⟨i+1,_,_,_,_,_⟩ [0,1,4,5,6,7,21,22,23] [0] [0] [0,1,2,3] ?_ ?_ (by kernel_rfl) rfl rfl rfl
       ·refine⟨by simp only;omega,by simp only;omega,fun q hq=>?_,hmj⟩
        by_cases hqi:q=i.toNat
        ·subst hqi
         exact comErrAt_fine hx hv2 (by rw[hfl];exact hlen)
        ·exact hno q (by simp only at hq;omega)
       ·simp only
        omega
     ·have hit:listFault l=⟨3,i⟩:=by rw[listFault_at hno (by omega) (comErrAt_len hx hv2 (by rw[hfl];exact hlen)) (by decide)];congr 1;omega
      try simp only[aQ]
      refine Zp (Rds 0 4++[.rd 4 [.o 1 none] 0 0,zR 5,zR 6,.rd 7 [] 0 2,zR 8,.rd 9 [.r 2 (some (.slice (a2_0,c2_0).fst ((List.map eI c0.when).length) c2_0))] 0 0,zR 10,.rd 11 [] 0 6,zR 12]) [] [zB 43 true] (oC (show(0:Int)≤(0:Int) from by omega) (oC (show(0:Int)<(↑l.length:Int) from by omega) (oC hrd2_0 (oC (show((↑(List.map eI x.when).length:Int) != (↑(List.map eI c0.when).length:Int))=true from by simp;omega) oN)))) ?_
      refine cTt ?_
      refine Zp [.rd 0 [.r 1 (some (.iface 390 (.pointer (some (er 3)))))] 0 0,zR 1] [43] [zV 10 (.iface 390 (.pointer (some (er 3))))] (oC hglob2 oN) ?_
      refine J_seq ?_
      refine Zs [zR 0,zR 1] [] [zB 46 true] ?_
      refine cTt ?_
      refine Zv (Rds 0 3++[.wr 3 [] 0]++Rds 4 7) [] [46] (fun nu3=>[zV 5 (.iface 202 (.pointer (sA (nu3 0) 0)))]) o0 (fun nu3=>[(nu3 0,.cells #[nI i,.iface 390 (.pointer (some (er 3)))] 204 (0,0))]) (fun nu3=>?_)
      refine Yr [[],[]] (.tuple #[.slice none 0 0,.iface 202 (.pointer (sA (nu3 0) 0))]) fun a w s=>?_
      rw[hit]
      exact .inl ⟨by simp,.inr ⟨by simp,by simp only;omega,_,((s.share 2 rfl).stp (stp_fact fun w S H=>ptr_of_obj rfl rfl (H (_,_) (List.mem_of_getElem? (i:=8) rfl)))).ret (by simp) [] [9] rfl rfl⟩⟩
    ·have hit:listFault l=⟨(comFault x).code,i⟩:=by rw[listFault_at hno (by omega) (comErrAt_own hx hv2) hv2];congr 1;omega
     try simp only[aQ]
     refine Ya [zR 3] [30,29,28] [zV 10 (.iface 390 (.pointer (some (er (comFault x).code))))] ?_
     refine JR_end (J_seq ?_)
     refine Zs (Rds 0 3++[.rd 3 [] 1 0,.rd 4 [] 1 0,.rd 5 [] 1 0,.rd 6 [] 1 0,.rd 7 [] 1 0,.rd 8 [] 1 0,.rd 9 [] 1 0,.rd 10 [] 1 0,.rd 11 [] 1 0,zR 12]) [] [zB 43 false] ?_
     refine cF ?_
     refine J_skip (J_seq ?_)
     refine Zs [zR 0,zR 1] [43] [zB 46 true] ?_
     refine cTt ?_
     refine Zv (Rds 0 3++[.wr 3 [] 0]++Rds 4 7) [] [46] (fun nu3=>[zV 5 (.iface 202 (.pointer (sA (nu3 0) 0)))]) o0 (fun nu3=>[(nu3 0,.cells #[nI i,.iface 390 (.pointer (some (er (comFault x).code)))] 204 (0,0))]) (fun nu3=>?_)
     refine Yr [[],[]] (.tuple #[.slice none 0 0,.iface 202 (.pointer (sA (nu3 0) 0))]) fun a w s=>?_
     rw[hit]
     exact .inl ⟨hv2,.inr ⟨by simp only;omega,by simp only;omega,_,((s.share 2 rfl).stp (stp_fact fun w S H=>ptr_of_obj rfl rfl (H (_,_) (List.mem_of_getElem? (i:=6) rfl)))).ret (by simp) [] [7] rfl rfl⟩⟩
   ·refine⟨_,_,_,hR,?_⟩
    have hv2:(comFault x).code≠0:=by omega
    have hit:listFault l=⟨(comFault x).code,i⟩:=by rw[listFault_at hno (by omega) (comErrAt_own hx hv2) hv2];congr 1;omega
    try simp only[aQ]
    refine Yc 164 #[.iface 202 (.pointer (sA pb 0))] (some 30) fun w S hG=>?_
    refine(bareF (hG.at 0 rfl) (hG.at 6 rfl)).mono ?_
    rintro e2 w2 hR
    refine⟨_,_,_,hR,?_⟩
    try simp only[aQ]
    refine Ya [zR 3] [30,29,28] [zV 10 (.iface 390 (.pointer (some (er (comFault x).code))))] ?_
    refine JR_end (J_seq ?_)
    refine Zs (Rds 0 3++[.rd 3 [] 1 0,.rd 4 [] 1 0,.rd 5 [] 1 0,.rd 6 [] 1 0,.rd 7 [] 1 0,.rd 8 [] 1 0,.rd 9 [] 1 0,.rd 10 [] 1 0,.rd 11 [] 1 0,zR 12]) [] [zB 43 false] ?_
    refine cF ?_
    refine J_skip (J_seq ?_)
    refine Zs [zR 0,zR 1] [43] [zB 46 true] ?_
    refine cTt ?_
    refine Zv (Rds 0 3++[.wr 3 [] 0]++Rds 4 7) [] [46] (fun nu3=>[zV 5 (.iface 202 (.pointer (sA (nu3 0) 0)))]) o0 (fun nu3=>[(nu3 0,.cells #[nI i,.iface 390 (.pointer (some (er (comFault x).code)))] 204 (0,0))]) (fun nu3=>?_)
    refine Yr [[],[]] (.tuple #[.slice none 0 0,.iface 202 (.pointer (sA (nu3 0) 0))]) fun a w s=>?_
    rw[hit]
    exact .inl ⟨hv2,.inr ⟨by simp only;omega,by simp only;omega,_,((s.share 2 rfl).stp (stp_fact fun w S H=>ptr_of_obj rfl rfl (H (_,_) (List.mem_of_getElem? (i:=7) rfl)))).ret (by simp) [] [8] rfl rfl⟩⟩
  ·have hil:l.take i.toNat=l:=List.take_of_length_le (by simp at hlt;omega)
   rw[hil]
   have hz:=listFault_none fun j hj=>hno j (by simp at hlt;omega)
   have hrs:=allDone_len (rights (i:=l.length) (fun j hj=>hno j (by simp at hlt;omega)) (Nat.le_refl _))
   rw[List.take_length]at hrs
   rw[hz]
   refine J_exit rfl ?_
   refine jS [(0,true),(1,false)] [] ?_
   refine Ya [zR 0] [24,0,1,6,21,22,23] [zS 97 av k cv] ?_
   refine JR_call [] [0] 196 #[.slice av k cv,.func (.func 197) #[] #[]] (some 98) (by kernel_rfl) (by kernel_rfl) (by decide) (fun w S M hP hG _=>?_)
   refine(sortDoneAcc hP (by have:=keyFirst_len key (allDone l);omega) (keyFirst_nodup key (allDone l))).mono ?_
   rintro e5 w5 hR
   refine⟨_,_,_,hR,?_⟩
   try simp only[aQ]
   refine JR_end ?_
   try simp only[aQ]
   refine J_seq ?_
   try simp only[aQ]
   refine Za (Rds 0 3) [98,97,7] [zS 4 av k cv] ?_
   try simp only[aQ]
   refine Yr [[],[]] (.tuple #[.slice av k cv,.nilIface]) fun a w s=>?_
   have s2:=s.stp (stp_freeze 0 rfl)
   exact .inr ⟨trivial,_,_,_,s2.ret (by simp) [] [4] rfl rfl⟩
end Go.Proofs.YtmkapocibaojdaaGreatDoor
end
section
namespace Go.Proofs.YtmkapocibaojdaaGreatDoor
open Go Go.Sx
theorem len1 {α:Type} {l:List α} (h:l.length=1):∃x,l=[x]:=by
 match l,h with
 | [x],_=>exact⟨x,rfl⟩
set_option maxHeartbeats 4000000 in
theorem cloneDone {w0:World} {S:Nat→Prop} {a:Option Addr} {n c:Nat} {xs:List DoneT} (ha:Rep w0 S (.slice a n c) (.sl 11 (xs.map eDone))) (hl:xs.length≤4000000) :
  Calls Tryz.prog 201 #[.slice a n c] w0 fun e w'=>∃a' c',Ret [] w0 S w' e (.slice a' n c') [cAcc (.slice a' n c') 271 11 (xs.map eDone)] []:=by
 have hlen:=ha.slen
 rw[List.length_map]at hlen
 subst hlen
 cases a with
 | none=>
  have h0:xs=[]:=by simpa using rep_none ha
  subst h0
  refine epG Tryz.func201 bd201 (args:=[.slice none ([]:List DoneT).length c]) (S:=S) (G:=[]) (by kernel_rfl) (.nil _ _) ?_
  refine J_stp (stp_accm eDone 271 11) ?_
  try simp only[aQ]
  refine Zs [zR 0] [] [zS 2 none 0 0] ?_
  refine J_seq ?_
  refine Zs [zR 0,zR 1] [] [zB 4 true] ?_
  refine cTt ?_
  refine Zs [zR 0] [4] [] ?_
  refine Yr [[]] (.slice none 0 0) fun a w s=>?_
  exact⟨none,0,s.ret (by simp) [0] [] rfl rfl⟩
 | some ad=>
  refine epG Tryz.func201 bd201 (args:=[.slice (some ad) xs.length c]) (G:=[(_,.sl 11 (xs.map eDone))]) (by kernel_rfl) (.cons ha (.nil _ _)) ?_
  refine Zs [zR 0] [] [zS 2 none 0 0] ?_
  refine J_seq ?_
  refine Zs [zR 0,zR 1] [] [zB 4 false] ?_
  refine cF ?_
  refine J_skip ?_
  refine jS [(0,false),(1,true),(2,false),(3,true)] [] ?_
  refine Ym [.wr 0 [] 0,zR 1] [4,0] (fun nu1=>[zS 5 (sA (nu1 0) 0) 0 0,zS 6 (some ad) xs.length c]) o0 (fun nu1=>[(nu1 0,.cells #[] 271 (0,0))]) [] (fun nu1=>?_)
  refine JR_acczm eDone 0 11 rfl (by kernel_rfl) (by decide) ?_
  refine JR_appm 0 265 271 11 120 (.agg #[.int .i64 0,.string (ByteArray.mk #[]),.int .i64 0,.string (ByteArray.mk #[]),.int .i64 0,.bool false,.slice none 0 0,.int .i64 0,.int .i64 0,.int .i64 0,.int .i64 0]) (a0:=(some (⟨nu1 0,0,none⟩))) (len:=0) (cap0:=0) (ax:=(some ad)) (m:=xs.length) (c:=c) (dst:=(some 7)) xs (by kernel_rfl) (by kernel_rfl) (by kernel_rfl) (by kernel_rfl) rfl (by decide) rfl (fun _ _ _ s=>src_fact s 0 rfl (by decide)) (by simp only[maxLen];omega) (by omega) (fun av1 cv1=>?_)
  rw[Nat.zero_add]
  try simp only[aQ]
  refine Ya [zR 3] [7,5,6] [zS 2 av1 xs.length cv1] ?_
  try simp only[aQ]
  refine JR_end ?_
  try simp only[aQ]
  refine Yr [[]] (.slice av1 xs.length cv1) fun a w s=>?_
  exact⟨_,_,s.ret (by simp) [0] [] rfl rfl⟩
set_option maxHeartbeats 4000000 in
theorem kind1 {w:World} {S:Nat→Prop} {m:DoneT} {v1:Value} {seq:Int} {b:Nat} (o1:v1.oneCell'=true) (h:Rep w S (.pointer (some ⟨b,0,none⟩)) (.ptr [.v (.int .i64 seq)])):Calls Tryz.prog 202 #[doneA m v1,.pointer (some ⟨b,0,none⟩)] w fun e w'=>Ret [] w S w' e (.bool (!decide (m.o.kind=seq))) [] []:=by
 refine epG Tryz.func202 bd202 (args:=[doneA m v1,.pointer (some ⟨b,0,none⟩)]) (G:=[(_,.ptr [.v (.int .i64 seq)])]) (by kernel_rfl) (.cons h (.nil _ _)) ?_
 refine J_glob 0 rfl (fun csg1 tyg1 fzg1 hglob1=>?_)
 refine Zv [.wr 0 [] 0,zR 1] [] [0] (fun nu1=>[zP 2 (nu1 0),zB 3 false]) o0 (fun nu1=>[(nu1 0,.cells #[nI m.o.no,.string m.o.key,nI m.o.kind,.string m.o.text,nI m.o.n,.bool m.o.remove,v1,nI m.d.place,nI m.d.time,nI m.d.no,nI m.w] 271 (0,0))]) (fun nu1=>?_)
 refine Zt [zR 0,zR 1,.rd 2 [.o 0 none] 0 0,.rd 3 [.r 0 (some (nI seq))] 0 0,zR 4,zR 5] [2,1] [zB 3 (m.o.kind != seq)] (oC hglob1 oN) ?_
 refine Yr [[]] (.bool (m.o.kind != seq)) fun a w s=>?_
 all_goals first|assumption|exact s.ret (by simp) [] [] rfl rfl
set_option maxHeartbeats 4000000 in
theorem indexKind {w:World} {S:Nat→Prop} {M:List Nat} {a:Option Addr} {n c:Nat} {L:List DoneT} {seq:Int} {b:Nat} (hP:Pre w S M [cAcc (.slice a n c) 271 11 (L.map eDone)]) (hl:L.length≤4000000) (h:Rep w S (.pointer (some ⟨b,0,none⟩)) (.ptr [.v (.int .i64 seq)])) :
  Calls Tryz.prog 220 #[.slice a n c,.func (.func 202) #[] #[.pointer (some ⟨b,0,none⟩)]] w fun e w'=>∃r:Int,Ret M w S w' e (.int .i64 r) [cAcc (.slice a n c) 271 11 (L.map eDone)] [] ∧
   ((r = -1∧∀x∈L,x.o.kind=seq)∨(0≤r∧r<L.length∧(∃x,L[r.toNat]?=some x∧¬x.o.kind=seq)∧∀x∈L.take r.toNat,x.o.kind=seq)):=by
 refine enG Tryz.func220 bd220 (args:=[.slice a n c,.func (.func 202) #[] #[.pointer (some ⟨b,0,none⟩)]]) (S:=S) (C:=[cAcc (.slice a n c) 271 11 (L.map eDone)]) (G:=[(_,.ptr [.v (.int .i64 seq)])]) (by kernel_rfl) hP (.cons h (.nil _ _)) ?_
 refine J_stpx (stp_acclen 0 rfl) fun _ hk=>?_
 rw[List.length_map]at hk
 subst hk
 refine Zs [zR 0] [] [zI 4 0] ?_
 refine J_seq ?_
 refine Zs (Rds 0 3) [] [zI 7 (↑L.length:Int),zI 8 0] ?_
 refine J_block ?_
 refine J_loopx (fun i:Int=>[zS 0 a L.length c,zV 1 (.func (.func 202) #[] #[.pointer (sA b 0)]),zI 4 0,zI 7 (↑L.length:Int),zI 8 i]) (fun i:Int=>[]) (fun i:Int=>[cAcc (.slice a L.length c) 271 11 (L.map eDone)]) (fun i:Int=>[(.pointer (sA b 0),(D.ptr [D.v (nI seq)]))]) (fun i:Int=>(L.length - i).toNat) (fun i:Int=>(0≤i∧i≤L.length∧∀x∈L.take i.toNat,x.o.kind=seq)) 0 [0,1,4,7,8] [] [0] [0] ?_ (by kernel_rfl) rfl rfl rfl ?_
 ·exact⟨by simp,by omega,by simp⟩
 rintro i ⟨hi0,hi,hno⟩
 refine Zs [zR 0] [] [zB 9 (decide (i<(↑L.length:Int)))] ?_
 refine J_seq ?_
 refine cC (t:=decide (i<(↑L.length:Int))) (fun hlt=>?_) (fun hlt=>?_)
 ·have hlt2:i<L.length:=by simpa using hlt
  obtain⟨x,hx⟩:∃x,L[i.toNat]?=some x:=⟨_,List.getElem?_eq_getElem (by omega)⟩
  refine J_openacc 0 rfl (by intro h0;rw[List.map_eq_nil_iff]at h0;rw[h0]at hx;simp at hx) fun g cur xs hu _ _ hrow=>?_
  subst hu
  refine J_stpx (stp_readrows 0 rfl i.toNat (map_at hx)) fun ls hls=>?_
  obtain⟨hls1,hls2⟩:=hls
  obtain⟨⟨xa,xc⟩,rfl⟩:∃l0,ls=[l0]:=len1 hls1
  have f:=fun(j:Nat) v h=>hrow.atx (hls2 j v h)
  have r0:cur[0+i.toNat*11]?=some (.int .i64 x.o.no):=by rw[Nat.zero_add];exact f 0 _ rfl
  have r1:cur[0+i.toNat*11+1]?=some (.string x.o.key):=by rw[Nat.zero_add];exact f 1 _ rfl
  have r2:cur[0+i.toNat*11+2]?=some (.int .i64 x.o.kind):=by rw[Nat.zero_add];exact f 2 _ rfl
  have r3:cur[0+i.toNat*11+3]?=some (.string x.o.text):=by rw[Nat.zero_add];exact f 3 _ rfl
  have r4:cur[0+i.toNat*11+4]?=some (.int .i64 x.o.n):=by rw[Nat.zero_add];exact f 4 _ rfl
  have r5:cur[0+i.toNat*11+5]?=some (.bool x.o.remove):=by rw[Nat.zero_add];exact f 5 _ rfl
  have r6:cur[0+i.toNat*11+6]?=some (.slice xa (x.o.dots.map eDot).length xc):=by rw[Nat.zero_add];exact f 6 _ rfl
  have r7:cur[0+i.toNat*11+7]?=some (.int .i64 x.d.place):=by rw[Nat.zero_add];exact f 7 _ rfl
  have r8:cur[0+i.toNat*11+8]?=some (.int .i64 x.d.time):=by rw[Nat.zero_add];exact f 8 _ rfl
  have r9:cur[0+i.toNat*11+9]?=some (.int .i64 x.d.no):=by rw[Nat.zero_add];exact f 9 _ rfl
  have r10:cur[0+i.toNat*11+10]?=some (.int .i64 x.w):=by rw[Nat.zero_add];exact f 10 _ rfl
  try simp only[aQ]
  refine J_skip ?_
  try simp only[aQ]
  refine J_seq ?_
  try simp only[aQ]
  refine J_block ?_
  try simp only[aQ]
  refine J_seq ?_
  try simp only[aQ]
  refine Za [zR 0,zR 1] [9] [zI 5 i] ?_
  try simp only[aQ]
  refine J_seq ?_
  try simp only[aQ]
  refine jT [(0,true),(1,true),(2,true),(3,true),(4,true),(5,false)] [] ?_
  refine Yp (Rds 0 3++[.rd 3 [] 0 2,.rd 4 [.o 0 (some (nI x.o.no)),.o 0 (some (.string x.o.key)),.o 0 (some (nI x.o.kind)),.o 0 (some (.string x.o.text)),.o 0 (some (nI x.o.n)),.o 0 (some (.bool x.o.remove)),.o 0 (some (.slice xa ((List.map eDot x.o.dots).length) xc)),.o 0 (some (nI x.d.place)),.o 0 (some (nI x.d.time)),.o 0 (some (nI x.d.no)),.o 0 (some (nI x.w))] 0 0]) [] [zV 11 (.func (.func 202) #[] #[.pointer (sA b 0)]),zV 15 (.agg #[nI x.o.no,.string x.o.key,nI x.o.kind,.string x.o.text,nI x.o.n,.bool x.o.remove,.slice xa ((List.map eDot x.o.dots).length) xc,nI x.d.place,nI x.d.time,nI x.d.no,nI x.w])] (oC hi0 (oC hlt2 (oC r0 (oC r1 (oC r2 (oC r3 (oC r4 (oC r5 (oC r6 (oC r7 (oC r8 (oC r9 (oC r10 oN))))))))))))) ?_
  refine Yc 202 #[.agg #[nI x.o.no,.string x.o.key,nI x.o.kind,.string x.o.text,nI x.o.n,.bool x.o.remove,.slice xa ((List.map eDot x.o.dots).length) xc,nI x.d.place,nI x.d.time,nI x.d.no,nI x.w],.pointer (sA b 0)] (some 16) fun w S hG=>?_
  refine(kind1 (m:=x) rfl (hG.at 0 rfl)).mono ?_
  rintro e w2 hR
  refine⟨_,_,_,hR,?_⟩
  try simp only[aQ]
  refine JR_end ?_
  try simp only[aQ]
  refine J_hide 0 rfl ?_
  refine J_stp (stp_closeacc 1 0 rfl rfl hrow (by decide)) ?_
  rw[show(List.map eDone L).length=L.length from List.length_map ..]
  refine cC (t:=!decide (x.o.kind=seq)) (fun hb=>?_) (fun hb=>?_)
  ·try simp only[aQ]
   refine J_seq ?_
   try simp only[aQ]
   refine Za [zR 0,zR 1] [16] [zI 4 i] ?_
   try simp only[aQ]
   refine Yr [[]] (nI i) fun a w s=>?_
   exact⟨i,s.ret (by simp) [0] [] rfl rfl,.inr ⟨hi0,hlt2,⟨x,hx,by simpa using hb⟩,hno⟩⟩
  ·try simp only[aQ]
   refine J_skip ?_
   try simp only[aQ]
   refine J_eb ?_
   try simp only[aQ]
   refine Zp [.rd 0 [] 0 1,zR 1] [16] [zI 8 (i+1)] (oC (show IntKind.i64.wrap (i+1)=i+1 from wrap_i64 (by omega) (by omega)) oN) ?_
   try simp only[aQ]
   refine J_backx (i+1) [0,1,4,7,8] [] [0] [0] ?_ ?_ (by kernel_rfl) rfl rfl rfl
   ·refine⟨by omega,by omega,fun y hy=>?_⟩
    rw[←take_snoc hi0 hx,List.mem_append,List.mem_singleton]at hy
    rcases hy with hy|rfl
    ·exact hno y hy
    ·simpa using hb
   ·omega
 ·have e:List.take i.toNat L=L:=List.take_of_length_le (by simp at hlt;omega)
  rw[e]at hno
  refine J_exit rfl ?_
  refine Zs [zR 0] [9,0,1,7,8] [zI 4 (-1)] ?_
  refine Yr [[]] (nI (-1)) fun a w s=>?_
  exact⟨-1,s.ret (by simp) [0] [] rfl rfl,.inl ⟨rfl,hno⟩⟩
def keepK (L:List DoneT) (seq:Int):List DoneT:=L.filter fun m=>decide (m.o.kind=seq)
theorem keepK_all {L:List DoneT} {seq:Int} (h:∀x∈L,x.o.kind=seq):keepK L seq=L:=List.filter_eq_self.2 fun x hx=>by simpa using h x hx
theorem keepK_snoc {L:List DoneT} {seq:Int} {x:DoneT}:keepK (L++[x]) seq=keepK L seq++if x.o.kind=seq then [x]else []:=by
 unfold keepK
 rw[List.filter_append]
 congr 1
 by_cases h:x.o.kind=seq <;> simp[h]
theorem set_takeK {L:List DoneT} {i:Nat} {x:DoneT} (hi:i<L.length):(L.set i x).take (i+1)=L.take i++[x]:=by
 rw[List.take_add_one,List.take_set_of_le (Nat.le_refl _)]
 simp[hi]
theorem set_dropK {L:List DoneT} {i j:Nat} {x:DoneT} (hi:i<j):(L.set i x).drop j=L.drop j:=List.drop_set_of_lt hi
structure DelSK where
 i:Int
 j:Int
 cur:Array Value
 xs:List Value
 Lc:List DoneT
structure DelInvK (L:List DoneT) (seq:Int) (i j:Int) (Lc:List DoneT):Prop where
 len:Lc.length=L.length
 take:Lc.take i.toNat=keepK (L.take j.toNat) seq
 drop:Lc.drop j.toNat=L.drop j.toNat
theorem DelInvK.at {L Lc:List DoneT} {seq i j:Int} {x:DoneT} (h:DelInvK L seq i j Lc) (hx:L[j.toNat]?=some x):Lc[j.toNat]?=some x:=by
 have h1:(Lc.drop j.toNat)[0]?=(L.drop j.toNat)[0]?:=by rw[h.drop]
 rw[List.getElem?_drop,List.getElem?_drop,Nat.add_zero]at h1
 rw[h1,hx]
theorem DelInvK.skip {L Lc:List DoneT} {seq i j:Int} {x:DoneT} (h:DelInvK L seq i j Lc) (hj:0≤j) (hx:L[j.toNat]?=some x) (hk:¬x.o.kind=seq):DelInvK L seq i (j+1) Lc:=by
 refine⟨h.len,?_,?_⟩
 ·rw[h.take,←take_snoc hj hx,keepK_snoc,if_neg hk,List.append_nil]
 ·rw[show(j+1).toNat=j.toNat+1 by omega,←List.drop_drop,←List.drop_drop,h.drop]
theorem DelInvK.keep {L Lc:List DoneT} {seq i j:Int} {x:DoneT} (h:DelInvK L seq i j Lc) (hi:0≤i) (hij:i<j) (hj:j<L.length) (hx:L[j.toNat]?=some x) (hk:x.o.kind=seq):DelInvK L seq (i+1) (j+1) (Lc.set i.toNat x):=by
 refine⟨by rw[List.length_set];exact h.len,?_,?_⟩
 ·rw[show(i+1).toNat=i.toNat+1 by omega,set_takeK (by have:=h.len;omega),h.take,←take_snoc (by omega) hx,keepK_snoc,if_pos hk]
 ·rw[set_dropK (by omega),show(j+1).toNat=j.toNat+1 by omega,←List.drop_drop,←List.drop_drop,h.drop]
set_option maxHeartbeats 4000000 in
theorem deleteKind {w:World} {S:Nat→Prop} {M:List Nat} {a:Option Addr} {n c:Nat} {L:List DoneT} {seq:Int} {b:Nat} (hP:Pre w S M [cAcc (.slice a n c) 271 11 (L.map eDone)]) (hl:L.length≤4000000) (h:Rep w S (.pointer (some ⟨b,0,none⟩)) (.ptr [.v (.int .i64 seq)])) :
  Calls Tryz.prog 200 #[.slice a n c,.func (.func 202) #[] #[.pointer (some ⟨b,0,none⟩)]] w fun e w'=>∃a' n' c',Ret M w S w' e (.slice a' n' c') [cAcc (.slice a' n' c') 271 11 ((keepK L seq).map eDone)] []:=by
 refine enG Tryz.func200 bd200 (args:=[.slice a n c,.func (.func 202) #[] #[.pointer (some ⟨b,0,none⟩)]]) (S:=S) (C:=[cAcc (.slice a n c) 271 11 (L.map eDone)]) (G:=[(_,.ptr [.v (.int .i64 seq)])]) (by kernel_rfl) hP (.cons h (.nil _ _)) ?_
 refine J_stpx (stp_acclen 0 rfl) fun _ hk=>?_
 rw[List.length_map]at hk
 subst hk
 refine Zs [zR 0] [] [zS 4 none 0 0] ?_
 refine jS [(0,true),(1,true),(2,false),(3,true)] [] ?_
 refine Ya [zR 0,zR 1] [] [zS 8 a L.length c,zV 9 (.func (.func 202) #[] #[.pointer (sA b 0)])] ?_
 refine JR_call [] [0] 220 #[.slice a L.length c,.func (.func 202) #[] #[.pointer (some (⟨b,0,none⟩))]] (some 10) (by kernel_rfl) (by kernel_rfl) (by decide) (fun w S M hP hG _=>?_)
 refine(indexKind hP hl (hG.at 0 rfl)).mono ?_
 rintro e1 w1 ⟨r,hR,hr⟩
 refine⟨_,_,_,hR,?_⟩
 obtain⟨rfl,hall⟩|⟨hr0,hr1,⟨y,hy,hys⟩,hrn⟩:=hr
 ·try simp only[aQ]
  refine Ya [zR 3] [10,8,9] [zI 5 (-1)] ?_
  try simp only[aQ]
  refine JR_end ?_
  try simp only[aQ]
  refine J_seq ?_
  try simp only[aQ]
  refine J_seq ?_
  try simp only[aQ]
  refine Za [zR 0,zR 1] [] [zB 12 true] ?_
  try simp only[aQ]
  refine cTt ?_
  try simp only[aQ]
  refine J_seq ?_
  try simp only[aQ]
  refine Za [zR 0,zR 1] [12] [zS 4 a L.length c] ?_
  try simp only[aQ]
  refine Yr [[]] (.slice a L.length c) fun a w s=>?_
  rw[keepK_all hall]
  exact⟨_,_,_,s.ret (by simp) [0] [] rfl rfl⟩
 ·have hrm:¬r = -1:=by omega
  try simp only[aQ]
  refine Ya [zR 3] [10,8,9] [zI 5 r] ?_
  try simp only[aQ]
  refine JR_end ?_
  try simp only[aQ]
  refine J_seq ?_
  try simp only[aQ]
  refine J_seq ?_
  try simp only[aQ]
  refine Zp [zR 0,.rd 1 [] 0 7] [] [zB 12 false] (oC (show(r==(-1:Int))=false from by simp;omega) oN) ?_
  try simp only[aQ]
  refine cF ?_
  try simp only[aQ]
  refine J_skip ?_
  try simp only[aQ]
  refine J_seq ?_
  try simp only[aQ]
  refine J_seq ?_
  try simp only[aQ]
  refine Zp [zR 0,.rd 1 [] 0 1,zR 2] [12] [zI 6 (r+1)] (oC (show IntKind.i64.wrap (r+1)=r+1 from wrap_i64 (by omega) (by omega)) oN) ?_
  try simp only[aQ]
  refine J_block ?_
  try simp only[aQ]
  refine J_openacc 0 rfl (by intro h0;rw[List.map_eq_nil_iff]at h0;rw[h0]at hy;simp at hy) fun g cur0 xs0 hu _ _ hrow0=>?_
  subst hu
  rw[List.length_map]at hrow0
  have hcap:L.length≤c:=hrow0.le
  have hk0:(L.take (r+1).toNat).filter (fun m=>decide (m.o.kind=seq))=L.take r.toNat:=by
   have:=keepK_snoc (L:=L.take r.toNat) (seq:=seq) (x:=y)
   rw[take_snoc hr0 hy,keepK_all hrn,if_neg hys,List.append_nil]at this
   exact this
  refine J_loopx (fun x:DelSK=>[zS 0 (sA g 0) L.length c,zV 1 (.func (.func 202) #[] #[.pointer (sA b 0)]),zS 4 none 0 0,zI 5 x.i,zI 6 x.j]) (fun x:DelSK=>[(g,.cells x.cur 271 (0,0))]) (fun x:DelSK=>[cRows x.xs 11 (x.Lc.map eDone)]) (fun x:DelSK=>[(.pointer (sA b 0),(D.ptr [D.v (nI seq)]))]) (fun x:DelSK=>(L.length - x.j).toNat) (fun x:DelSK=>(0≤x.i∧x.i<x.j∧x.j≤L.length∧Row x.cur c L.length 11 x.xs∧DelInvK L seq x.i x.j x.Lc)) ⟨r,r+1,cur0,xs0,L⟩ [0,1,4,5,6] [0] [0] [0] ?_ (by kernel_rfl) rfl rfl rfl ?_
  ·exact⟨hr0,by simp only;omega,by simp only;omega,hrow0,⟨rfl,hk0.symm,rfl⟩⟩
  rintro⟨i,j,cu,xs,Lc⟩ ⟨hi0,hij,hj,hrow,hinv⟩
  dsimp only at hi0 hij hj hrow hinv ⊢
  refine J_seq ?_
  refine Zs (Rds 0 4) [] [zB 19 (decide (j<(↑L.length:Int)))] ?_
  refine cC (t:=decide (j<(↑L.length:Int))) (fun hlt=>?_) (fun hlt=>?_)
  ·have hlt2:j<L.length:=by simpa using hlt
   obtain⟨x,hx⟩:∃x,L[j.toNat]?=some x:=⟨_,List.getElem?_eq_getElem (by omega)⟩
   have hxc:=hinv.at hx
   refine J_stpx (stp_readrows 0 rfl j.toNat (map_at hxc)) fun ls hls=>?_
   obtain⟨hls1,hls2⟩:=hls
   obtain⟨⟨xa,xc⟩,rfl⟩:∃l0,ls=[l0]:=len1 hls1
   have f:=fun(j:Nat) v h=>hrow.atx (hls2 j v h)
   have r0:cu[0+j.toNat*11]?=some (.int .i64 x.o.no):=by rw[Nat.zero_add];exact f 0 _ rfl
   have r1:cu[0+j.toNat*11+1]?=some (.string x.o.key):=by rw[Nat.zero_add];exact f 1 _ rfl
   have r2:cu[0+j.toNat*11+2]?=some (.int .i64 x.o.kind):=by rw[Nat.zero_add];exact f 2 _ rfl
   have r3:cu[0+j.toNat*11+3]?=some (.string x.o.text):=by rw[Nat.zero_add];exact f 3 _ rfl
   have r4:cu[0+j.toNat*11+4]?=some (.int .i64 x.o.n):=by rw[Nat.zero_add];exact f 4 _ rfl
   have r5:cu[0+j.toNat*11+5]?=some (.bool x.o.remove):=by rw[Nat.zero_add];exact f 5 _ rfl
   have r6:cu[0+j.toNat*11+6]?=some (.slice xa (x.o.dots.map eDot).length xc):=by rw[Nat.zero_add];exact f 6 _ rfl
   have r7:cu[0+j.toNat*11+7]?=some (.int .i64 x.d.place):=by rw[Nat.zero_add];exact f 7 _ rfl
   have r8:cu[0+j.toNat*11+8]?=some (.int .i64 x.d.time):=by rw[Nat.zero_add];exact f 8 _ rfl
   have r9:cu[0+j.toNat*11+9]?=some (.int .i64 x.d.no):=by rw[Nat.zero_add];exact f 9 _ rfl
   have r10:cu[0+j.toNat*11+10]?=some (.int .i64 x.w):=by rw[Nat.zero_add];exact f 10 _ rfl
   try simp only[aQ]
   refine J_skip (J_seq (J_block ?_))
   refine Zu [zR 0,zR 1,.rd 2 [] 0 2,.rd 3 [.o 0 (some (nI x.o.no)),.o 0 (some (.string x.o.key)),.o 0 (some (nI x.o.kind)),.o 0 (some (.string x.o.text)),.o 0 (some (nI x.o.n)),.o 0 (some (.bool x.o.remove)),.o 0 (some (.slice xa ((List.map eDot x.o.dots).length) xc)),.o 0 (some (nI x.d.place)),.o 0 (some (nI x.d.time)),.o 0 (some (nI x.d.no)),.o 0 (some (nI x.w))] 0 0,.wr 4 [] 0,.wr 5 (hnO 1 11) 0] [(5,[])] [19] (fun nu1=>[zP 7 (nu1 0)]) o0 (fun nu1=>[(nu1 0,.cells #[nI x.o.no,.string x.o.key,nI x.o.kind,.string x.o.text,nI x.o.n,.bool x.o.remove,.slice xa ((List.map eDot x.o.dots).length) xc,nI x.d.place,nI x.d.time,nI x.d.no,nI x.w] 271 (0,0))]) (fun nu1=>(oC (show 0≤j from by omega) (oC hlt2 (oC r0 (oC r1 (oC r2 (oC r3 (oC r4 (oC r5 (oC r6 (oC r7 (oC r8 (oC r9 (oC r10 oN)))))))))))))) (fun nu1=>?_)
   refine jS [(0,true),(1,true),(2,false),(3,true)] [] ?_
   refine Ya [zR 0,.rd 1 (hnO 1 11) 0 0] [] [zV 26 (.func (.func 202) #[] #[.pointer (sA b 0)]),zV 27 (.agg #[nI x.o.no,.string x.o.key,nI x.o.kind,.string x.o.text,nI x.o.n,.bool x.o.remove,.slice xa ((List.map eDot x.o.dots).length) xc,nI x.d.place,nI x.d.time,nI x.d.no,nI x.w])] ?_
   refine Yc 202 #[.agg #[nI x.o.no,.string x.o.key,nI x.o.kind,.string x.o.text,nI x.o.n,.bool x.o.remove,.slice xa ((List.map eDot x.o.dots).length) xc,nI x.d.place,nI x.d.time,nI x.d.no,nI x.w],.pointer (sA b 0)] (some 28) fun w S hG=>?_
   refine(kind1 (m:=x) rfl (hG.at 0 rfl)).mono ?_
   rintro e w2 hR
   refine⟨_,_,_,hR,?_⟩
   try simp only[aQ]
   refine Ya [zR 3] [28,26,27] [zB 29 (!!decide (x.o.kind=seq))] ?_
   refine JR_end ?_
   refine cC (t:=!!decide (x.o.kind=seq)) (fun hb=>?_) (fun hb=>?_)
   ·have hkeep:x.o.kind=seq:=by simpa using hb
    have hsz:=hrow.siz
    have hll:=hinv.len
    have hi9:0+i.toNat*11+11≤cu.size:=by omega
    refine jS [(0,true),(1,true),(2,true),(3,true),(4,false)] [] ?_
    refine Yp [zR 0,zR 1,.rd 2 (hnO 1 11) 0 0,.rd 3 [] 0 2] [29] [zV 32 (.agg #[nI x.o.no,.string x.o.key,nI x.o.kind,.string x.o.text,nI x.o.n,.bool x.o.remove,.slice xa ((List.map eDot x.o.dots).length) xc,nI x.d.place,nI x.d.time,nI x.d.no,nI x.w]),zV 33 (.pointer (sA g (0+i.toNat*11)))] (oC hi0 (oC (show i<(↑L.length:Int) from by omega) oN)) ?_
    refine JR_storerow 0 g (0+i.toNat*11) 271 271 (.agg #[.int .i64 x.o.no,.string x.o.key,.int .i64 x.o.kind,.string x.o.text,.int .i64 x.o.n,.bool x.o.remove,.slice xa ((List.map eDot x.o.dots).length) xc,.int .i64 x.d.place,.int .i64 x.d.time,.int .i64 x.d.no,.int .i64 x.w]) [.int .i64 x.o.no,.string x.o.key,.int .i64 x.o.kind,.string x.o.text,.int .i64 x.o.n,.bool x.o.remove,.slice xa ((List.map eDot x.o.dots).length) xc,.int .i64 x.d.place,.int .i64 x.d.time,.int .i64 x.d.no,.int .i64 x.w] none (by kernel_rfl) (by kernel_rfl) (by kernel_rfl) rfl rfl rfl hi9 (by simp[Value.oneCell']) ?_
    refine JR_end ?_
    rw[Nat.zero_add]
    refine J_stp (stp_putrow 0 i.toNat (vs:=[.int .i64 x.o.no,.string x.o.key,.int .i64 x.o.kind,.string x.o.text,.int .i64 x.o.n,.bool x.o.remove,.slice xa (x.o.dots.map eDot).length xc,.int .i64 x.d.place,.int .i64 x.d.time,.int .i64 x.d.no,.int .i64 x.w]) (row:=eDone x) rfl (by rw[hrow.len,List.length_map,hll]) (by rw[List.length_map];omega) rfl ⟨.inl ⟨rfl,rfl⟩,.inl ⟨rfl,rfl⟩,.inl ⟨rfl,rfl⟩,.inl ⟨rfl,rfl⟩,.inl ⟨rfl,rfl⟩,.inl ⟨rfl,rfl⟩,.inr (.inl (List.mem_of_getElem? (i:=1) rfl)),.inl ⟨rfl,rfl⟩,.inl ⟨rfl,rfl⟩,.inl ⟨rfl,rfl⟩,.inl ⟨rfl,rfl⟩,trivial⟩) ?_
    rw[show(List.map eDone Lc).set i.toNat (eDone x)=List.map eDone (Lc.set i.toNat x) from List.map_set.symm]
    refine Zp [zR 0,.rd 1 [] 0 1,zR 2] [] [zI 5 (i+1)] (oC (show IntKind.i64.wrap (i+1)=i+1 from wrap_i64 (by omega) (by omega)) oN) ?_
    refine J_eb ?_
    refine Zp [zR 0,.rd 1 [] 0 1,zR 2] [] [zI 6 (j+1)] (oC (show IntKind.i64.wrap (j+1)=j+1 from wrap_i64 (by omega) (by omega)) oN) ?_
    refine J_backx ⟨i+1,j+1,_,_,Lc.set i.toNat x⟩ [0,1,4,5,6] [0] [0] [0] ?_ ?_ (by kernel_rfl) rfl rfl rfl
    ·exact⟨by simp only;omega,by simp only;omega,by simp only;omega,hrow.turn (by omega) rfl,hinv.keep hi0 hij hlt2 hx hkeep⟩
    ·simp only
     omega
   ·have hdel:¬x.o.kind=seq:=by simpa using hb
    refine J_skip (J_eb ?_)
    refine Zp [zR 0,.rd 1 [] 0 1,zR 2] [29] [zI 6 (j+1)] (oC (show IntKind.i64.wrap (j+1)=j+1 from wrap_i64 (by omega) (by omega)) oN) ?_
    refine J_backx ⟨i,j+1,cu,xs,Lc⟩ [0,1,4,5,6] [0] [0] [0] ?_ ?_ (by kernel_rfl) rfl rfl rfl
    ·exact⟨hi0,by simp only;omega,by simp only;omega,hrow,hinv.skip (by omega) hx hdel⟩
    ·simp only
     omega
  ·have hjl:j=L.length:=by simp at hlt;omega
   have hsz:=hrow.siz
   have hll:=hinv.len
   have hil:i<L.length:=by omega
   have hic:i<c:=by omega
   have hfin:Lc.take i.toNat=keepK L seq:=by
    rw[hinv.take,hjl,List.take_of_length_le (by simp)]
   have hcl:0+i.toNat*11+(L.length - i.toNat)*11≤cu.size:=by omega
   refine J_exit rfl ?_
   refine jS [(0,true),(1,true),(2,true),(3,false)] [] ?_
   refine Yp [zR 0,zR 1,.rd 2 [] 0 4] [19,1,6] [zS 38 (sA g (0+i.toNat*11)) (L.length - i.toNat) (c - i.toNat)] (oC hi0 (oC (show i≤(↑L.length:Int) from by omega) (oC hic oN))) ?_
   refine JR_clear (size:=11) (bytes:=120) 0 g (0+i.toNat*11) (L.length - i.toNat) (c - i.toNat) 265 271 (.agg #[.int .i64 0,.string (ByteArray.mk #[]),.int .i64 0,.string (ByteArray.mk #[]),.int .i64 0,.bool false,.slice none 0 0,.int .i64 0,.int .i64 0,.int .i64 0,.int .i64 0]) none (by kernel_rfl) (by kernel_rfl) (by kernel_rfl) (by kernel_rfl) (by omega) rfl rfl hcl (by simp[Value.cells,Value.oneCell']) (fun vs1 hvs1=>?_)
   refine JR_end (J_seq ?_)
   rw[Nat.zero_add]
   refine J_stp (stp_cutrows 0 i.toNat rfl) ?_
   refine J_hide 0 rfl ?_
   refine Nm [(cRows (List.take (i.toNat*11) xs) 11 (List.take i.toNat (List.map eDone Lc))),cObj g (.cells (seg cu (i.toNat*11) vs1) 271 (0,0))] ?_
   rw[show List.take i.toNat (List.map eDone Lc)=List.map eDone (keepK L seq)by rw[←List.map_take,hfin]]
   have hrow2:=hrow.clr (i:=i.toNat) (by omega) hvs1
   have hkl:(List.map eDone (keepK L seq)).length=i.toNat:=by rw[←hfin];simp;omega
   refine J_stp (stp_closeacc 1 0 rfl rfl (by rw[hkl];exact hrow2) (by decide)) ?_
   rw[hkl]
   try simp only[aQ]
   refine Zp [zR 0,zR 1,.rd 2 [] 0 4,zR 3] [38,0,5] [zS 4 (sA g 0) i.toNat c] (oC hi0 (oC (show i≤(↑c:Int) from by omega) oN)) ?_
   try simp only[aQ]
   refine Yr [[]] (.slice (sA g 0) i.toNat c) fun a w s=>?_
   exact⟨_,_,_,s.ret (by simp) [0] [] rfl rfl⟩
end Go.Proofs.YtmkapocibaojdaaGreatDoor
namespace Go.Proofs.YtmkapocibaojdaaGreatDoor
open Go Go.Sx
set_option maxHeartbeats 4000000 in
theorem vKind {w:World} {S:Nat→Prop} {a:Option Addr} {n c:Nat} {l:List DoneT} (h:Rep w S (.slice a n c) (.sl 11 (l.map eDone))) (hl:l.length≤4000000) :
  Calls Tryz.prog 160 #[.slice a n c] w fun e w'=>∃a' n' c',Ret [] w S w' e (.tuple #[.int .i64 (kindOf l),.slice a' n' c']) [] [(.slice a' n' c',.sl 11 ((kindL l).map eDone))]:=by
 have e1:=h.slen
 rw[List.length_map]at e1
 subst e1
 refine epG Tryz.func160 bd160 (args:=[.slice a l.length c]) (G:=[(_,.sl 11 (l.map eDone))]) (by kernel_rfl) (.cons h (.nil _ _)) ?_
 cases hl0:l with
 | nil=>
  subst hl0
  refine Zs [zR 0,zR 1] [] [zI 2 0,zS 3 none 0 0] ?_
  refine J_seq ?_
  refine Zs (Rds 0 3) [] [zB 7 true] ?_
  refine cTt ?_
  refine Zs [zR 0,zR 1] [7] [] ?_
  refine Yr [[],[]] (.tuple #[nI 0,.slice none 0 0]) fun a w s=>?_
  exact⟨_,_,_,(s.stp (stp_fact (v:=.slice none 0 0) (d:=.sl 11 []) fun _ _ _=>.nil)).ret (by simp) [] [1] rfl rfl⟩
 | cons x r=>
  have hx:l[0]?=some x:=by rw[hl0];rfl
  have hk:kindOf (x::r)=x.o.kind:=rfl
  have hpos:¬((l.length:Int)=0):=by rw[hl0];simp;omega
  rw[hk,←hl0]
  refine J_read1 0 rfl 0 (map_at hx) (by kernel_rfl) (fun b1 off1 cs1 ty1 fz1 a1_0 c1_0 ha1 hrd1=>?_)
  cases ha1
  have hrd1_0:=rd0 (hrd1 0 _ rfl)
  have hrd1_1:=hrd1 1 _ rfl
  have hrd1_2:=hrd1 2 _ rfl
  have hrd1_3:=hrd1 3 _ rfl
  have hrd1_4:=hrd1 4 _ rfl
  have hrd1_5:=hrd1 5 _ rfl
  have hrd1_6:=hrd1 6 _ rfl
  have hrd1_7:=hrd1 7 _ rfl
  have hrd1_8:=hrd1 8 _ rfl
  have hrd1_9:=hrd1 9 _ rfl
  have hrd1_10:=hrd1 10 _ rfl
  have hz:cs1[off1+2]?=some (.int .i64 x.o.kind):=hrd1_2
  try simp only[aQ]
  refine Zs [zR 0,zR 1] [] [zI 2 0,zS 3 none 0 0] ?_
  refine J_seq ?_
  refine Zs (Rds 0 3) [] [zB 7 ((↑l.length:Int)==0)] ?_
  refine cC (t:=(↑l.length:Int)==0) (fun hz0=>?_) (fun hz0=>?_)
  ·exact absurd (by simpa using hz0) hpos
  refine J_skip ?_
  refine Zu [zR 0,.rd 1 [] 0 2,zR 2,zR 3,.rd 4 [.r 0 (some (nI x.o.kind))] 0 0,.wr 5 [] 0,.wr 6 [.o 0 none] 0] [(6,[])] [7] (fun nu1=>[zP 4 (nu1 0)]) o0 (fun nu1=>[(nu1 0,.cells #[nI x.o.kind] 3 (0,0))]) (fun nu1=>(oC (show(0:Int)≤(0:Int) from by omega) (oC (show(0:Int)<(↑l.length:Int) from by omega) (oC hrd1_2 oN)))) (fun nu1=>?_)
  refine J_seq ?_
  refine J_share 0 rfl ?_
  refine J_stp (stp_fact fun w S H=>obj_ptr (H (_,_) (List.mem_of_getElem? (i:=2) rfl)) rfl) ?_
  refine J_glob 3 rfl (fun csg1 tyg1 fzg1 hglob1=>?_)
  try simp only[aQ]
  refine jT [(0,true),(1,true),(3,true),(2,false),(4,false),(5,true),(6,true)] [(4,[])] ?_
  refine Yp [.rd 0 [.r 1 (some (nI x.o.kind))] 0 0,zR 1,zR 3] [4,0] [zI 13 x.o.kind,zS 14 (sA b1 off1) l.length c,zV 16 (.func (.func 202) #[] #[.pointer (sA (nu1 0) 0)])] (oC hglob1 oN) ?_
  refine Yc 201 #[.slice (sA b1 off1) l.length c] (some 15) fun w S hG=>?_
  refine(cloneDone (hG.at 0 rfl) hl).mono ?_
  rintro e2 w2 ⟨a2,c2,hR⟩
  refine⟨_,_,_,hR,?_⟩
  try simp only[aQ]
  refine JR_call [] [0] 200 #[.slice a2 l.length c2,.func (.func 202) #[] #[.pointer (some (⟨nu1 0,0,none⟩))]] (some 17) (by kernel_rfl) (by kernel_rfl) (by decide) (fun w S M hP hG _=>?_)
  refine(deleteKind hP hl (hG.at 3 rfl)).mono ?_
  rintro e3 w3 ⟨a3,n3,c3,hR⟩
  refine⟨_,_,_,hR,?_⟩
  try simp only[aQ]
  refine Ya [zR 5,zR 6] [17,15,13,14,16] [zI 2 x.o.kind,zS 3 a3 n3 c3] ?_
  try simp only[aQ]
  refine JR_end ?_
  try simp only[aQ]
  refine Yr [[],[]] (.tuple #[nI x.o.kind,.slice a3 n3 c3]) fun a w s=>?_
  have e4:keepK l x.o.kind=kindL l:=by rw[kindL,hl0];rfl
  rw[e4]at s
  have s2:=s.stp (stp_freeze 0 rfl)
  exact⟨_,_,_,s2.ret (by simp) [] [4] rfl rfl⟩
end Go.Proofs.YtmkapocibaojdaaGreatDoor
end
