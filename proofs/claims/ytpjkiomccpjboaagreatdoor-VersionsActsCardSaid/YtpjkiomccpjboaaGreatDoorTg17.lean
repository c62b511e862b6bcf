/- Part 17 of the texts of a claim: VActsC VActs. -/
import Derived.Test.YtpjkiomccpjboaaGreatDoorTg16
section
namespace Go.Proofs.YtpjkiomccpjboaaGreatDoor
open Go Go.Sx
set_option maxHeartbeats 8000000 in
theorem actCopy {w0:World} {R:Act→World→Prop} {kr:List Itm} {S0:Nat→Prop} {er:Nat→Addr} {eb:Nat→Array Value×TypeId} {p n mb nl cl:Nat} {sl:Option Addr} {i:Int} {l:List VActT} {b mk md cb clock cm lk lc:Nat} {ba bm la:Option Addr} {es:Array MapEntry} {ks:List ByteArray} {Fk:ByteArray→Value} {base:List Int} {K:List ComT} {x:VActT} {ab n0 c0 n1 c1 n2 c2:Nat} {a0 a1 a2:Option Addr} (hI:Inj er) (hp1:1≤p) (hp6:p≤6) (hn:n≤40) (hK:ActsOk p n base K) (hm:MapG (MapKept.IsKey .string) es (strG ks Fk)) (hst:MapKept.Stamped es clock) (hnd:ks.Nodup) (hiff:∀t,t∈ks↔keyC (putsAll K) t≠[]) (hx0:n0=x.c.when.length) (hx1:n1=x.c.ops.length) (hx2:n2=x.at'.length) (hh:heavyC x.c=0) (hxk:x.key.size≤60) (hxa:x.at'.length≤20)
  (H:∀(base2:List Int) (K2:List ComT) (b2 mk2 md2 cb2 clock2 cm2 lk2 lc2:Nat) (ba2 bm2 la2:Option Addr) (es2:Array MapEntry) (ks2:List ByteArray) (Fk2:ByteArray→Value),ActsOk p (n+1) base2 K2→MapG (MapKept.IsKey .string) es2 (strG ks2 Fk2)→MapKept.Stamped es2 clock2→ks2.Nodup→(∀t,t∈ks2↔keyC (putsAll K2) t≠[])→J Tryz.prog Tryz.f8 R Tryz.f8.ntmps (.c (.rg 50 true)::.c (.cond (.tmp 256) (.seq (.rg 51 false) .ret) .skip)::kr) [(0,.val (.int .i64 (p:Nat))),(1,.val (.slice sl nl cl)),(4,.val (.bool false)),(6,.val (.pointer (some ⟨b2,0,none⟩))),(8,.val (.pointer (some ⟨mb,0,none⟩))),(9,.val (.int .i64 i))] [] [] [([],zero w0)] ⟨S0,[cObj b2 (.cells #[.int .i64 (p:Nat),.slice ba2 p cb2,.map (some mk2),.map (some md2)] 133 (0,0)),cObj mk2 (.map es2 clock2),cStar (ks2.map fun t=>cAcc (Fk2 t) 28 3 ((keyC (putsAll K2) t).map eCom)),cMapG md2 okDot (dotSet ((putsAll K2).map dotP)),cObj mb (.cells #[.slice bm2 p cm2,.slice la2 lk2 lc2] 85 (0,0)),cAcc (.slice la2 lk2 lc2) 28 3 (K2.map eCom)],[(.nilIface,dC er eb),(.slice sl nl cl,.sl 7 (l.map eVAct)),(.slice bm2 p cm2,dInts base2),(.slice ba2 p cb2,dInts base2)]⟩) :
  J Tryz.prog Tryz.f8 R Tryz.f8.ntmps (.c (.rg 17 false)::.c (.seq (.seq (.rg 18 false) (.cond (.tmp 90) (.seq (.rg 19 false) .ret) .skip)) (.seq (.rg 20 false) (.seq (.rg 21 false) (.rg 22 false))))::.eb 2::.c (.seq (.rg 50 true) (.cond (.tmp 256) (.seq (.rg 51 false) .ret) .skip))::kr) [(0,.val (.int .i64 (p:Nat))),(1,.val (.slice sl nl cl)),(4,.val (.bool false)),(6,.val (.pointer (some ⟨b,0,none⟩))),(8,.val (.pointer (some ⟨mb,0,none⟩))),(9,.val (.int .i64 i)),(10,.val (.pointer (some ⟨ab,0,none⟩)))] [(ab,.cells #[.string x.kind,.string x.key,.string x.text,.slice a0 n0 c0,.int .i64 x.c.place,.slice a1 n1 c1,.slice a2 n2 c2] 75 (0,0))] [] [([],zero w0)] ⟨S0,[cObj b (.cells #[.int .i64 (p:Nat),.slice ba p cb,.map (some mk),.map (some md)] 133 (0,0)),cObj mk (.map es clock),cStar (ks.map fun t=>cAcc (Fk t) 28 3 ((keyC (putsAll K) t).map eCom)),cMapG md okDot (dotSet ((putsAll K).map dotP)),cObj mb (.cells #[.slice bm p cm,.slice la lk lc] 85 (0,0)),cAcc (.slice la lk lc) 28 3 (K.map eCom)],[(.nilIface,dC er eb),(.slice sl nl cl,.sl 7 (l.map eVAct)),(.slice bm p cm,dInts base),(.slice ba p cb,dInts base),(.slice a0 n0 c0,dInts x.c.when),(.slice a1 n1 c1,.sl 7 (x.c.ops.map eOp)),(.slice a2 n2 c2,dInts x.at')]⟩:=by
 subst hx0 hx1 hx2
 have hpl:=hK.puts
 have hkl:=hK.few
 obtain⟨hxw,hxo,hxd⟩:=heavyC_len hh
 have hbl:=hK.len
 refine jT [(0,true),(1,false),(2,true)] [] ?_
 refine Ya (id:=17) (rest:=[(1,false),(2,true)]) [zR 0] [] [zP 87 b] ?_
 refine JR_call [] [0,1,2,3] 46 #[.pointer (some (⟨b,0,none⟩))] (some 88) (by kernel_rfl) (by kernel_rfl) (by decide) (fun w S M hP hG _=>?_)
 refine(vCopy (p:=p) (base:=base) (L:=putsAll K) hP (hG.at 3 rfl) (by omega) (by omega) hm hst hnd hiff).mono ?_
 rintro e5 w5 ⟨b2,mk2,md2,ua,uc,es2,clock2,ks2,F2,hR,hm2,hst2,hnd2,hiff2⟩
 refine⟨_,_,_,hR,?_⟩
 try simp only[aQ]
 refine Ya (id:=17) (rest:=[]) [zR 2] [] [zP 18 b2] ?_
 try simp only[aQ]
 refine JR_end ?_
 try simp only[aQ]
 refine J_seq ?_
 try simp only[aQ]
 refine J_seq ?_
 try simp only[aQ]
 refine Za [zR 0,zR 1] [] [zP 89 b2,zB 90 false] ?_
 try simp only[aQ]
 refine cF ?_
 try simp only[aQ]
 refine J_skip ?_
 try simp only[aQ]
 refine J_seq ?_
 try simp only[aQ]
 refine Nm [cObj mb (.cells #[.slice bm p cm,.slice la lk lc] 85 (0,0)),cAcc (.slice la lk lc) 28 3 (List.map eCom K),cObj b (.cells #[nI (↑p:Int),.slice ba p cb,.map (some mk),.map (some md)] 133 (0,0)),cObj mk (Obj.map es clock),(cStar (List.map (fun t=>cAcc (Fk t) 28 3 (List.map eCom (keyC (putsAll K) t))) ks)),(cMapG md okDot (dotSet (List.map dotP (putsAll K)))),cObj b2 (.cells #[nI (↑p:Int),.slice ua p uc,.map (some mk2),.map (some md2)] 133 (0,0)),cObj mk2 (Obj.map es2 clock2),(cStar (List.map (fun t=>cAcc (F2 t) 28 3 (List.map eCom (keyC (putsAll K) t))) ks2)),(cMapG md2 okDot (dotSet (List.map dotP (putsAll K))))] ?_
 refine jT [(0,true),(1,true),(2,false),(3,true),(4,false),(5,true),(6,false)] [] ?_
 refine Ya (id:=20) (rest:=[(2,false),(3,true),(4,false),(5,true),(6,false)]) [zR 0,zR 1] [] [zP 91 b,zI 92 (↑p:Int)] ?_
 refine Yc 47 #[nI (↑p:Int),nI 1099511627776] (some 93) fun w S hG=>?_
 refine(filled (w:=w) (S:=S) (t:=1099511627776) hp1 hp6).mono ?_
 rintro e6 w6 ⟨fa,fx,hfl,hR⟩
 refine⟨_,_,_,hR,?_⟩
 try simp only[aQ]
 refine Ym (id:=20) (rest:=[(6,false)]) [zR 3,.wr 4 [] 0,zR 5] [] (fun nu1=>[zV 94 (.agg #[nI 0,.string (ByteArray.mk #[107]),nI 2,.string (ByteArray.mk #[]),nI 5,.bool false,.slice none 0 0]),zS 95 (sA (nu1 0) 0) 1 1,zV 96 (.agg #[.slice fa p p,nI 0,.slice (sA (nu1 0) 0) 1 1])]) (fun nu1=>[(ab,.cells #[.string x.kind,.string x.key,.string x.text,.slice a0 x.c.when.length c0,nI x.c.place,.slice a1 x.c.ops.length c1,.slice a2 x.at'.length c2] 75 (0,0)),(nu1 0,.cells #[nI 0,.string (ByteArray.mk #[107]),nI 2,.string (ByteArray.mk #[]),nI 5,.bool false,.slice none 0 0] 24 (0,0))]) [] (fun nu1=>?_)
 refine JR_data (size:=7) 1 eOp [opK5] 1 rfl (by kernel_rfl) (by decide) (by intro x _;rfl) (by simp) ⟨.inl ⟨rfl,rfl⟩,⟨.inl ⟨rfl,rfl⟩,⟨.inl ⟨rfl,rfl⟩,⟨.inl ⟨rfl,rfl⟩,⟨.inl ⟨rfl,rfl⟩,⟨.inl ⟨rfl,rfl⟩,⟨.inr (.inr ⟨_,_,_,rfl,rfl⟩),trivial⟩⟩⟩⟩⟩⟩⟩ ?_
 refine JR_call [] [2,3,4,5] 36 #[.pointer (some (⟨b,0,none⟩)),.agg #[.slice fa p p,.int .i64 0,.slice (some (⟨nu1 0,0,none⟩)) 1 1]] (some 97) (by kernel_rfl) (by kernel_rfl) (by decide) (fun w S M hP hG _=>?_)
 refine(vPut (p:=p) (base:=base) (L:=putsAll K) (c:=⟨fx,0,[opK5]⟩) (hG.at 0 rfl) hP (hG.at 3 rfl) hK.vec hK.len (hG.at 8 rfl) (hG.at 9 rfl) (by show fx.length≤1000000;omega) (by simp) (by simp) (by omega) hm hst hnd hiff).mono ?_
 rintro e7 w7 (⟨_,v,G,hR,_⟩|⟨_,es3,clock3,ks3,F3,hR,_⟩)
 ·have hR:=ret_drop hR
  refine⟨_,_,_,hR,?_⟩
  try simp only[aQ]
  refine JR_end ?_
  try simp only[aQ]
  refine J_seq ?_
  try simp only[aQ]
  refine Nm [cObj mb (.cells #[.slice bm p cm,.slice la lk lc] 85 (0,0)),cAcc (.slice la lk lc) 28 3 (List.map eCom K),cObj b2 (.cells #[nI (↑p:Int),.slice ua p uc,.map (some mk2),.map (some md2)] 133 (0,0)),cObj mk2 (Obj.map es2 clock2),(cStar (List.map (fun t=>cAcc (F2 t) 28 3 (List.map eCom (keyC (putsAll K) t))) ks2)),(cMapG md2 okDot (dotSet (List.map dotP (putsAll K)))),cObj b (.cells #[nI (↑p:Int),.slice ba p cb,.map (some mk),.map (some md)] 133 (0,0)),cObj mk (Obj.map es clock),(cStar (List.map (fun t=>cAcc (Fk t) 28 3 (List.map eCom (keyC (putsAll K) t))) ks)),(cMapG md okDot (dotSet (List.map dotP (putsAll K))))] ?_
  refine jT [(0,true),(1,true),(2,false),(3,false)] [] ?_
  refine Ya (id:=21) (rest:=[(2,false),(3,false)]) [zR 0,zR 1] [] [zP 98 b,zI 99 (↑p:Int)] ?_
  refine Yc 47 #[nI (↑p:Int),nI 1099511627776] (some 100) fun w S hG=>?_
  refine(filled (w:=w) (S:=S) (t:=1099511627776) hp1 hp6).mono ?_
  rintro e8 w8 ⟨ga,gx,hgl,hR⟩
  refine⟨_,_,_,hR,?_⟩
  try simp only[aQ]
  refine JR_call [] [6] 44 #[.pointer (some (⟨b,0,none⟩)),.slice ga p p] (some 101) (by kernel_rfl) (by kernel_rfl) (by decide) (fun w S M hP hG _=>?_)
  refine(vPrune (clock:=0) (es:=#[]) (ks:=[]) (F:=fun _=>.nilIface) (L:=[]) (p:=p) (base:=base) (at':=gx) (hG.at 0 rfl) hP (hG.at 3 rfl) hK.vec hK.len (hG.at 10 rfl) (by omega)).mono ?_
  rintro e9 w9 (⟨_,hR⟩|⟨_,va,vn,vc,hR⟩)
  ·refine⟨_,_,_,hR,?_⟩
   try simp only[aQ]
   refine JR_end ?_
   try simp only[aQ]
   refine Za [zR 0,zR 1] [] [zP 6 b2,zP 102 b2] ?_
   try simp only[aQ]
   refine J_eb ?_
   try simp only[aQ]
   refine J_seq ?_
   try simp only[aQ]
   refine Nm [cObj mb (.cells #[.slice bm p cm,.slice la lk lc] 85 (0,0)),cAcc (.slice la lk lc) 28 3 (List.map eCom K),cObj b2 (.cells #[nI (↑p:Int),.slice ua p uc,.map (some mk2),.map (some md2)] 133 (0,0)),cObj mk2 (Obj.map es2 clock2),(cStar (List.map (fun t=>cAcc (F2 t) 28 3 (List.map eCom (keyC (putsAll K) t))) ks2)),(cMapG md2 okDot (dotSet (List.map dotP (putsAll K)))),cObj mk (Obj.map es clock),(cStar (List.map (fun t=>cAcc (Fk t) 28 3 (List.map eCom (keyC (putsAll K) t))) ks)),(cMapG md okDot (dotSet (List.map dotP (putsAll K)))),cObj b (.cells #[nI (↑p:Int),.slice ba p cb,.map (some mk),.map (some md)] 133 (0,0))] ?_
   refine J_cut (E':=[zI 0 (p:Nat),zS 1 sl nl cl,zB 4 false,zV 6 (.pointer (some ⟨b2,0,none⟩)),zV 8 (.pointer (some ⟨mb,0,none⟩)),zI 9 i]) (h':=[]) (C':=[_,_,_,_,_,_]) (G':=[_,_,_,_]) [0,1,4,6,8,9] [] [2,3,4,5,0,1] [0,1,2,7] (by kernel_rfl) rfl rfl rfl ?_
   exact H base K b2 mk2 md2 uc clock2 cm lk lc ua bm la es2 ks2 F2 hK.next hm2 hst2 hnd2 hiff2
  ·refine⟨_,_,_,hR,?_⟩
   try simp only[aQ]
   refine JR_end ?_
   try simp only[aQ]
   refine Za [zR 0,zR 1] [] [zP 6 b2,zP 102 b2] ?_
   try simp only[aQ]
   refine J_eb ?_
   try simp only[aQ]
   refine J_seq ?_
   try simp only[aQ]
   refine Nm [cObj mb (.cells #[.slice bm p cm,.slice la lk lc] 85 (0,0)),cAcc (.slice la lk lc) 28 3 (List.map eCom K),cObj b2 (.cells #[nI (↑p:Int),.slice ua p uc,.map (some mk2),.map (some md2)] 133 (0,0)),cObj mk2 (Obj.map es2 clock2),(cStar (List.map (fun t=>cAcc (F2 t) 28 3 (List.map eCom (keyC (putsAll K) t))) ks2)),(cMapG md2 okDot (dotSet (List.map dotP (putsAll K)))),cObj mk (Obj.map es clock),(cStar (List.map (fun t=>cAcc (Fk t) 28 3 (List.map eCom (keyC (putsAll K) t))) ks)),(cMapG md okDot (dotSet (List.map dotP (putsAll K)))),cObj b (.cells #[nI (↑p:Int),.slice va vn vc,.map (some mk),.map (some md)] 133 (0,0))] ?_
   refine J_cut (E':=[zI 0 (p:Nat),zS 1 sl nl cl,zB 4 false,zV 6 (.pointer (some ⟨b2,0,none⟩)),zV 8 (.pointer (some ⟨mb,0,none⟩)),zI 9 i]) (h':=[]) (C':=[_,_,_,_,_,_]) (G':=[_,_,_,_]) [0,1,4,6,8,9] [] [2,3,4,5,0,1] [0,1,2,7] (by kernel_rfl) rfl rfl rfl ?_
   exact H base K b2 mk2 md2 uc clock2 cm lk lc ua bm la es2 ks2 F2 hK.next hm2 hst2 hnd2 hiff2
 ·refine⟨_,_,_,hR,?_⟩
  try simp only[aQ]
  refine JR_end ?_
  try simp only[aQ]
  refine J_seq ?_
  try simp only[aQ]
  refine Nm [cObj mb (.cells #[.slice bm p cm,.slice la lk lc] 85 (0,0)),cAcc (.slice la lk lc) 28 3 (List.map eCom K),cObj b2 (.cells #[nI (↑p:Int),.slice ua p uc,.map (some mk2),.map (some md2)] 133 (0,0)),cObj mk2 (Obj.map es2 clock2),(cStar (List.map (fun t=>cAcc (F2 t) 28 3 (List.map eCom (keyC (putsAll K) t))) ks2)),(cMapG md2 okDot (dotSet (List.map dotP (putsAll K)))),cObj b (.cells #[nI (↑p:Int),.slice ba p cb,.map (some mk),.map (some md)] 133 (0,0)),cObj mk (Obj.map es3 clock3),(cStar (List.map (fun t=>cAcc (F3 t) 28 3 (List.map eCom (keyC (putsAll K++putsOf (ComT.mk fx 0 [opK5]) [opK5]) t))) ks3)),(cMapG md okDot (dotSet (List.map dotP (putsAll K++putsOf (ComT.mk fx 0 [opK5]) [opK5]))))] ?_
  refine jT [(0,true),(1,true),(2,false),(3,false)] [] ?_
  refine Ya (id:=21) (rest:=[(2,false),(3,false)]) [zR 0,zR 1] [] [zP 98 b,zI 99 (↑p:Int)] ?_
  refine Yc 47 #[nI (↑p:Int),nI 1099511627776] (some 100) fun w S hG=>?_
  refine(filled (w:=w) (S:=S) (t:=1099511627776) hp1 hp6).mono ?_
  rintro e8 w8 ⟨ga,gx,hgl,hR⟩
  refine⟨_,_,_,hR,?_⟩
  try simp only[aQ]
  refine JR_call [] [6] 44 #[.pointer (some (⟨b,0,none⟩)),.slice ga p p] (some 101) (by kernel_rfl) (by kernel_rfl) (by decide) (fun w S M hP hG _=>?_)
  refine(vPrune (clock:=0) (es:=#[]) (ks:=[]) (F:=fun _=>.nilIface) (L:=[]) (p:=p) (base:=base) (at':=gx) (hG.at 0 rfl) hP (hG.at 3 rfl) hK.vec hK.len (hG.at 10 rfl) (by omega)).mono ?_
  rintro e9 w9 (⟨_,hR⟩|⟨_,va,vn,vc,hR⟩)
  ·refine⟨_,_,_,hR,?_⟩
   try simp only[aQ]
   refine JR_end ?_
   try simp only[aQ]
   refine Za [zR 0,zR 1] [] [zP 6 b2,zP 102 b2] ?_
   try simp only[aQ]
   refine J_eb ?_
   try simp only[aQ]
   refine J_seq ?_
   try simp only[aQ]
   refine Nm [cObj mb (.cells #[.slice bm p cm,.slice la lk lc] 85 (0,0)),cAcc (.slice la lk lc) 28 3 (List.map eCom K),cObj b2 (.cells #[nI (↑p:Int),.slice ua p uc,.map (some mk2),.map (some md2)] 133 (0,0)),cObj mk2 (Obj.map es2 clock2),(cStar (List.map (fun t=>cAcc (F2 t) 28 3 (List.map eCom (keyC (putsAll K) t))) ks2)),(cMapG md2 okDot (dotSet (List.map dotP (putsAll K)))),cObj mk (Obj.map es3 clock3),(cStar (List.map (fun t=>cAcc (F3 t) 28 3 (List.map eCom (keyC (putsAll K++putsOf (ComT.mk fx 0 [opK5]) [opK5]) t))) ks3)),(cMapG md okDot (dotSet (List.map dotP (putsAll K++putsOf (ComT.mk fx 0 [opK5]) [opK5])))),cObj b (.cells #[nI (↑p:Int),.slice ba p cb,.map (some mk),.map (some md)] 133 (0,0))] ?_
   refine J_cut (E':=[zI 0 (p:Nat),zS 1 sl nl cl,zB 4 false,zV 6 (.pointer (some ⟨b2,0,none⟩)),zV 8 (.pointer (some ⟨mb,0,none⟩)),zI 9 i]) (h':=[]) (C':=[_,_,_,_,_,_]) (G':=[_,_,_,_]) [0,1,4,6,8,9] [] [2,3,4,5,0,1] [0,1,2,7] (by kernel_rfl) rfl rfl rfl ?_
   exact H base K b2 mk2 md2 uc clock2 cm lk lc ua bm la es2 ks2 F2 hK.next hm2 hst2 hnd2 hiff2
  ·refine⟨_,_,_,hR,?_⟩
   try simp only[aQ]
   refine JR_end ?_
   try simp only[aQ]
   refine Za [zR 0,zR 1] [] [zP 6 b2,zP 102 b2] ?_
   try simp only[aQ]
   refine J_eb ?_
   try simp only[aQ]
   refine J_seq ?_
   try simp only[aQ]
   refine Nm [cObj mb (.cells #[.slice bm p cm,.slice la lk lc] 85 (0,0)),cAcc (.slice la lk lc) 28 3 (List.map eCom K),cObj b2 (.cells #[nI (↑p:Int),.slice ua p uc,.map (some mk2),.map (some md2)] 133 (0,0)),cObj mk2 (Obj.map es2 clock2),(cStar (List.map (fun t=>cAcc (F2 t) 28 3 (List.map eCom (keyC (putsAll K) t))) ks2)),(cMapG md2 okDot (dotSet (List.map dotP (putsAll K)))),cObj mk (Obj.map es3 clock3),(cStar (List.map (fun t=>cAcc (F3 t) 28 3 (List.map eCom (keyC (putsAll K++putsOf (ComT.mk fx 0 [opK5]) [opK5]) t))) ks3)),(cMapG md okDot (dotSet (List.map dotP (putsAll K++putsOf (ComT.mk fx 0 [opK5]) [opK5])))),cObj b (.cells #[nI (↑p:Int),.slice va vn vc,.map (some mk),.map (some md)] 133 (0,0))] ?_
   refine J_cut (E':=[zI 0 (p:Nat),zS 1 sl nl cl,zB 4 false,zV 6 (.pointer (some ⟨b2,0,none⟩)),zV 8 (.pointer (some ⟨mb,0,none⟩)),zI 9 i]) (h':=[]) (C':=[_,_,_,_,_,_]) (G':=[_,_,_,_]) [0,1,4,6,8,9] [] [2,3,4,5,0,1] [0,1,2,7] (by kernel_rfl) rfl rfl rfl ?_
   exact H base K b2 mk2 md2 uc clock2 cm lk lc ua bm la es2 ks2 F2 hK.next hm2 hst2 hnd2 hiff2
end Go.Proofs.YtpjkiomccpjboaaGreatDoor
end
section
namespace Go.Sx
open Go
structure ActS where
 i:Int
 base:List Int
 K:List ComT
 b:Nat
 kb:Nat
 db:Nat
 ba:Option Addr
 cb:Nat
 es:Array MapEntry
 clock:Nat
 ks:List ByteArray
 F:ByteArray→Value
 bm:Option Addr
 cm:Nat
 la:Option Addr
 lk:Nat
 lc:Nat
end Go.Sx
namespace Go.Proofs.YtpjkiomccpjboaaGreatDoor
open Go Go.Sx
set_option maxHeartbeats 4000000 in
theorem versionsActs {w:World} {S:Nat→Prop} {er:Nat→Addr} {eb:Nat→Array Value×TypeId} {places:Int} {a:Option Addr} {n c:Nat} {l:List VActT} (hC:Rep w S .nilIface (dC er eb)) (hI:Inj er) (h:Rep w S (.slice a n c) (.sl 7 (l.map eVAct))) :
  Calls Tryz.prog 8 #[.int .i64 places,.slice a n c] w fun e w'=>Ret [] (zero w) S w' e (.bool true) [] []:=by
 have e1:=h.slen
 rw[List.length_map]at e1
 subst e1
 refine epG Tryz.func8 bd8 (args:=[.int .i64 places,.slice a l.length c]) (S:=S) (G:=[(_,dC er eb),(_,.sl 7 (l.map eVAct))]) (by kernel_rfl) (.cons hC (.cons h (.nil _ _))) ?_
 refine J_zero ?_
 refine Zs [zR 0] [] [zB 4 false] ?_
 refine jS [(0,false),(1,true)] [] ?_
 refine JR_callzp [] 33 #[] (some 19) zero_all (by kernel_rfl) (fun w S hG=>?_)
 refine(stored (hG.at 0 rfl)).mono ?_
 rintro e1 w1 hR
 refine⟨_,_,_,hR,?_⟩
 by_cases hl40:l.length≤40
 case neg=>
  try simp only[aQ]
  refine Ya (id:=1) (rest:=[]) [zR 1] [19] [zB 5 true] ?_
  refine JR_end (J_seq ?_)
  refine Zt (Rds 0 5++[.rd 5 [] 0 6,zR 6]) [] [zB 26 true] [decide ((↑l.length:Int)>(40:Int))=true] ⟨by simp;omega,trivial⟩ ?_
  refine cTt ?_
  refine Zs [zR 0,zR 1] [26,5] [zB 4 true] ?_
  refine Yr [[]] (.bool true) fun a w s=>?_
  exact s.retz (by simp) [] [] rfl rfl
 try simp only[aQ]
 refine Ya (id:=1) (rest:=[]) [zR 1] [19] [zB 5 true] ?_
 refine JR_end (J_seq ?_)
 refine Zt (Rds 0 5++[.rd 5 [] 0 7,zR 6]) [] [zB 26 false] [decide ((↑l.length:Int)>(40:Int))=false] ⟨by simp;omega,trivial⟩ ?_
 refine cF ?_
 refine J_skip ?_
 refine jS [(0,true),(1,false),(2,true),(3,true),(4,true),(5,true),(6,true)] [] ?_
 refine Ya (id:=4) (rest:=[(1,false),(2,true),(3,true),(4,true),(5,true),(6,true)]) [zR 0] [26,5] [zI 29 places] ?_
 refine Yc 34 #[nI places] (some 30) fun w S hG=>?_
 refine(vNew (p:=places) (hG.at 0 rfl)).mono ?_
 rintro e3 w3 (⟨hpl,hR⟩|⟨⟨hp1,hp6⟩,b,bb,mk,md,hR⟩)
 ·refine⟨_,_,_,hR,?_⟩
  rcases hpl with hpl|hpl
  ·try simp only[aQ]
   refine Ya (id:=4) (rest:=[]) (Rds 2 7) [30,29] [zV 6 (.pointer none),zV 7 (.iface 243 (.pointer (some (er 2))))] ?_
   refine JR_end (J_seq ?_)
   refine Zt [zR 0,.rd 1 [] 0 6,zR 2,.rd 3 [] 1 0,.rd 4 [] 1 0,zR 5] [] [zB 38 true] [decide (places<(1:Int))=true] ⟨by simp;omega,trivial⟩ ?_
   refine cTt ?_
   refine jS [(0,true),(1,false),(2,true),(3,true),(4,true),(5,true),(6,true)] [] ?_
   refine Ya (id:=6) (rest:=[(1,false),(2,true),(3,true),(4,true),(5,true),(6,true)]) [zR 0] [38] [zV 39 (.iface 243 (.pointer (some (er 2))))] ?_
   refine Yc 13 #[.iface 243 (.pointer (some (er 2))),nI 2] (some 40) fun w S hG=>?_
   refine(codedErr (c:=2) (hG.at 0 rfl) hI (k:=2) (by omega) (.inr ⟨by decide,rfl⟩)).mono ?_
   rintro e4 w4 hR
   refine⟨_,_,_,hR,?_⟩
   try simp only[aQ]
   refine Ya (id:=6) (rest:=[]) (Rds 2 7) [40,39] [zB 4 true] ?_
   refine JR_end ?_
   refine Yr [[]] (.bool true) fun a w s=>?_
   exact s.retz (by simp) [] [] rfl rfl
  ·have hpl2:¬places<1:=by omega
   try simp only[aQ]
   refine Ya (id:=4) (rest:=[]) (Rds 2 7) [30,29] [zV 6 (.pointer none),zV 7 (.iface 243 (.pointer (some (er 2))))] ?_
   refine JR_end (J_seq ?_)
   refine Zt [zR 0,.rd 1 [] 0 7,zR 2,zR 3,.rd 4 [] 0 6,zR 5] [] [zB 38 true] [decide (places<(1:Int))=false,decide (places>(6:Int))=true] ⟨by simp;omega,by simp;omega,trivial⟩ ?_
   refine cTt ?_
   refine jS [(0,true),(1,false),(2,true),(3,true),(4,true),(5,true),(6,true)] [] ?_
   refine Ya (id:=6) (rest:=[(1,false),(2,true),(3,true),(4,true),(5,true),(6,true)]) [zR 0] [38] [zV 39 (.iface 243 (.pointer (some (er 2))))] ?_
   refine Yc 13 #[.iface 243 (.pointer (some (er 2))),nI 2] (some 40) fun w S hG=>?_
   refine(codedErr (c:=2) (hG.at 0 rfl) hI (k:=2) (by omega) (.inr ⟨by decide,rfl⟩)).mono ?_
   rintro e4 w4 hR
   refine⟨_,_,_,hR,?_⟩
   try simp only[aQ]
   refine Ya (id:=6) (rest:=[]) (Rds 2 7) [40,39] [zB 4 true] ?_
   refine JR_end ?_
   refine Yr [[]] (.bool true) fun a w s=>?_
   exact s.retz (by simp) [] [] rfl rfl
 obtain⟨p,rfl⟩:∃p:Nat,places=p:=⟨places.toNat,by omega⟩
 rw[Int.toNat_natCast]at hR
 refine⟨_,_,_,hR,?_⟩
 have hpp1:¬(p:Int)<1:=by omega
 have hpp6:¬6<(p:Int):=by omega
 have hp1':1≤p:=by omega
 have hp6':p≤6:=by omega
 try simp only[aQ]
 refine Ya (id:=4) (rest:=[]) (Rds 2 7) [30,29] [zP 6 b,zV 7 .nilIface] ?_
 refine JR_end (J_seq ?_)
 refine Zt [zR 0,.rd 1 [] 0 7,zR 2,zR 3,.rd 4 [] 0 7,zR 5] [] [zB 38 false] [decide ((↑p:Int)<(1:Int))=false,decide ((↑p:Int)>(6:Int))=false] ⟨by simp;omega,by simp;omega,trivial⟩ ?_
 refine cF ?_
 refine J_skip (J_seq ?_)
 refine Zs (Rds 0 6) [38,7] [zB 50 false] ?_
 refine cF ?_
 refine J_skip ?_
 refine jS [(0,true),(1,false),(2,true)] [] ?_
 refine Ya (id:=9) (rest:=[(1,false),(2,true)]) [zR 0] [50] [zI 51 (↑p:Int)] ?_
 refine Yc 35 #[nI (↑p:Int)] (some 52) fun w S hG=>?_
 refine(rNewV (w:=w) (S:=S) hp1' hp6').mono ?_
 rintro e4 w4 ⟨mb,bm,hR⟩
 refine⟨_,_,_,hR,?_⟩
 try simp only[aQ]
 refine Ya (id:=9) (rest:=[]) [zR 2] [52,51] [zP 8 mb] ?_
 refine JR_end (J_seq (J_seq ?_))
 refine J_stp (stp_keep 2 rfl) ?_
 refine J_stp (stp_keep 3 rfl) ?_
 have hm0:MapG (MapKept.IsKey .string) #[] (strG [] fun _=>.nilIface):=(MapG.empty _).congr fun k=>(strG_nil _ k).symm
 refine Nm [cObj b (.cells #[nI (↑p:Int),.slice (sA bb 0) p p,.map (some mk),.map (some md)] 133 (0,0)),cObj mk (Obj.map #[] 0),(cStar []),(cMapG md okDot (dotSet [])),cObj mb (.cells #[.slice bm p p,.slice none 0 0] 85 (0,0)),cAcc (.slice none 0 0) 28 3 (List.map eCom []),(cRep (Value.slice (some (Addr.mk bb 0 none)) p p) (dInts (List.replicate p 0))),(cRep (Value.slice bm p p) (dInts (List.replicate p 0)))] ?_
 refine Za [zR 0] [] [zI 9 0] ?_
 refine J_block ?_
 refine J_loopx (fun y:ActS=>[zI 0 (↑p:Int),zS 1 a l.length c,zB 4 false,zV 6 (.pointer (some ⟨y.b,0,none⟩)),zP 8 mb,zI 9 y.i]) (fun y:ActS=>[]) (fun y:ActS=>[cObj y.b (.cells #[nI (p:Nat),.slice y.ba p y.cb,.map (some y.kb),.map (some y.db)] 133 (0,0)),cObj y.kb (.map y.es y.clock),cStar (y.ks.map fun t=>cAcc (y.F t) 28 3 ((keyC (putsAll y.K) t).map eCom)),cMapG y.db okDot (dotSet ((putsAll y.K).map dotP)),cObj mb (.cells #[.slice y.bm p y.cm,.slice y.la y.lk y.lc] 85 (0,0)),cAcc (.slice y.la y.lk y.lc) 28 3 (y.K.map eCom),cRep (.slice y.ba p y.cb) (dInts y.base),cRep (.slice y.bm p y.cm) (dInts y.base)]) (fun y:ActS=>[(.nilIface,(dC er eb)),(.slice a l.length c,(D.sl 7 (List.map eVAct l)))]) (fun y:ActS=>(l.length - y.i).toNat) (fun y:ActS=>(0≤y.i∧y.i≤l.length∧ActsOk p y.i.toNat y.base y.K∧MapG (MapKept.IsKey .string) y.es (strG y.ks y.F)∧MapKept.Stamped y.es y.clock∧y.ks.Nodup∧(∀t,t∈y.ks↔keyC (putsAll y.K) t≠[]))) ⟨0,List.replicate p 0,[],b,mk,md,some ⟨bb,0,none⟩,p,#[],0,[],fun _=>.nilIface,bm,p,none,0,0⟩ [0,1,4,6,8,9] [] [0,1,2,3,4,5,6,7] [0,1] ?_ (by kernel_rfl) rfl rfl rfl ?_
 ·exact⟨by simp,by simp,⟨vecErr_zeros hp1' hp6',by simp,by simp,by simp,by simp[putsAll]⟩,hm0,MapKept.stamped_empty 0,by simp,by simp[putsAll,keyC]⟩
 rintro⟨i,base,K,b,mk,md,ba,cb,es,clock,ks,F,bm,cm,la,lk,lc⟩ ⟨hi0,hi,hK,hm,hst,hnd,hiff⟩
 dsimp only at hi0 hi hK hm hst hnd hiff ⊢
 refine J_stp (stp_rep 7 rfl) ?_
 refine J_stp (stp_rep 6 rfl) ?_
 refine Nm [cObj b (.cells #[nI (↑p:Int),.slice ba p cb,.map (some mk),.map (some md)] 133 (0,0)),cObj mk (Obj.map es clock),(cStar (List.map (fun t=>cAcc (F t) 28 3 (List.map eCom (keyC (putsAll K) t))) ks)),(cMapG md okDot (dotSet (List.map dotP (putsAll K)))),cObj mb (.cells #[.slice bm p cm,.slice la lk lc] 85 (0,0)),cAcc (.slice la lk lc) 28 3 (List.map eCom K)] ?_
 try simp only[aQ]
 refine J_seq ?_
 refine Zs (Rds 0 4) [] [zB 56 (decide (i<(↑l.length:Int)))] ?_
 refine cC (t:=decide (i<(↑l.length:Int))) (fun hlt=>?_) (fun hlt=>?_)
 ·have hlt2:i<l.length:=by simpa using hlt
  obtain⟨x,hx⟩:∃x,l[i.toNat]?=some x:=⟨_,List.getElem?_eq_getElem (by omega)⟩
  refine J_read3 1 rfl i.toNat (map_at hx) (by kernel_rfl) (fun b1 off1 cs1 ty1 fz1 a1_0 c1_0 a1_1 c1_1 a1_2 c1_2 ha1 hrd1=>?_)
  cases ha1
  have hrd1_0:=rd0 (hrd1 0 _ rfl)
  have hrd1_1:=hrd1 1 _ rfl
  have hrd1_2:=hrd1 2 _ rfl
  have hrd1_3:=hrd1 3 _ rfl
  have hrd1_4:=hrd1 4 _ rfl
  have hrd1_5:=hrd1 5 _ rfl
  have hrd1_6:=hrd1 6 _ rfl
  try simp only[aQ]
  refine J_skip (J_seq (J_block ?_))
  refine Zu [zR 0,zR 1,.rd 2 [] 0 2,.rd 3 [.r 0 (some (.string x.kind)),.r 0 (some (.string x.key)),.r 0 (some (.string x.text)),.r 0 (some (.slice (a1_0,c1_0).fst ((List.map eI x.c.when).length) c1_0)),.r 0 (some (nI x.c.place)),.r 0 (some (.slice (a1_1,c1_1).fst ((List.map eOp x.c.ops).length) c1_1)),.r 0 (some (.slice (a1_2,c1_2).fst ((List.map eI x.at').length) c1_2))] 0 0,.wr 4 [] 0,.wr 5 (hnO 0 7) 0] [(5,[])] [56] (fun nu1=>[zP 10 (nu1 0)]) (fun nu1=>[(nu1 0,.cells #[.string x.kind,.string x.key,.string x.text,.slice (a1_0,c1_0).fst ((List.map eI x.c.when).length) c1_0,nI x.c.place,.slice (a1_1,c1_1).fst ((List.map eOp x.c.ops).length) c1_1,.slice (a1_2,c1_2).fst ((List.map eI x.at').length) c1_2] 75 (0,0))]) (fun nu1=>[0≤i,i<(↑l.length:Int),cs1[off1+i.toNat*7]?=some (Value.string x.kind),cs1[off1+i.toNat*7+(1:Nat)]?=some (Value.string x.key),cs1[off1+i.toNat*7+(2:Nat)]?=some (Value.string x.text),cs1[off1+i.toNat*7+(3:Nat)]?=some (Value.slice (a1_0,c1_0).fst (List.map eI x.c.when).length (a1_0,c1_0).snd),cs1[off1+i.toNat*7+(4:Nat)]?=some (nI x.c.place),cs1[off1+i.toNat*7+(5:Nat)]?=some (Value.slice (a1_1,c1_1).fst (List.map eOp x.c.ops).length (a1_1,c1_1).snd),cs1[off1+i.toNat*7+(6:Nat)]?=some (Value.slice (a1_2,c1_2).fst (List.map eI x.at').length (a1_2,c1_2).snd)]) (fun _=>⟨hi0,hlt2,hrd1_0,hrd1_1,hrd1_2,hrd1_3,hrd1_4,hrd1_5,hrd1_6,trivial⟩) (fun nu1=>?_)
  refine J_seq ?_
  refine jS [(0,true),(1,true),(2,false),(3,true),(4,true),(5,true),(6,true),(7,true),(8,true),(9,true),(10,true),(11,true),(12,true),(13,true),(14,true),(15,true),(16,true),(17,true),(18,true),(19,true),(20,true),(21,true)] [] ?_
  refine Ya (id:=14) (rest:=[(2,false),(3,true),(4,true),(5,true),(6,true),(7,true),(8,true),(9,true),(10,true),(11,true),(12,true),(13,true),(14,true),(15,true),(16,true),(17,true),(18,true),(19,true),(20,true),(21,true)]) [zR 0,.rd 1 (hnO 0 3) 0 0] [] [zV 64 (.agg #[.slice (a1_0,c1_0).fst ((List.map eI x.c.when).length) c1_0,nI x.c.place,.slice (a1_1,c1_1).fst ((List.map eOp x.c.ops).length) c1_1])] ?_
  refine Yc 12 #[.agg #[.slice (a1_0,c1_0).fst ((List.map eI x.c.when).length) c1_0,nI x.c.place,.slice (a1_1,c1_1).fst ((List.map eOp x.c.ops).length) c1_1]] (some 65) fun w S hG=>?_
  refine(heavyCommit (c:=x.c) (hG.at 4 rfl) (hG.at 5 rfl)).mono ?_
  rintro e5 w5 hR
  rcases heavyC_cases x.c with hh|hh
  case inr=>
   rw[hh]at hR
   refine⟨_,_,_,hR,?_⟩
   try simp only[aQ]
   refine Ya (id:=14) (rest:=[]) [zR 3,zR 4,.rd 5 [] 1 0,.rd 6 [] 1 0,.rd 7 [] 1 0,.rd 8 [] 1 0,zR 9,zR 10,.rd 11 [] 1 0,.rd 12 [] 1 0,.rd 13 [] 1 0,.rd 14 [] 1 0,zR 15,zR 16,.rd 17 [] 1 0,.rd 18 [] 1 0,.rd 19 [] 1 0,.rd 20 [] 1 0,zR 21] [65,64] [zB 84 true] ?_
   refine JR_end ?_
   refine cTt ?_
   refine Zs [zR 0] [84] [zB 4 true] ?_
   refine Yr [[]] (.bool true) fun a w s=>?_
   exact s.retz (by simp) [] [] rfl rfl
  rw[hh]at hR
  refine⟨_,_,_,hR,?_⟩
  obtain⟨hxw,hxo,hxd⟩:=heavyC_len hh
  by_cases hxk:x.key.size≤60
  case neg=>
   try simp only[aQ]
   refine Yp (id:=14) (rest:=[]) (Rds 3 6++[.rd 6 [.o 0 none] 0 0,zR 7,.rd 8 [] 0 6,zR 9,zR 10,.rd 11 [] 1 0,.rd 12 [] 1 0,.rd 13 [] 1 0,.rd 14 [] 1 0,zR 15,zR 16,.rd 17 [] 1 0,.rd 18 [] 1 0,.rd 19 [] 1 0,.rd 20 [] 1 0,zR 21]) [65,64] [zB 84 true] [decide ((↑x.key.size:Int)>(60:Int))=true] ⟨by simp;omega,trivial⟩ ?_
   refine JR_end ?_
   refine cTt ?_
   refine Zs [zR 0] [84] [zB 4 true] ?_
   refine Yr [[]] (.bool true) fun a w s=>?_
   exact s.retz (by simp) [] [] rfl rfl
  by_cases hxt:x.text.size≤200
  case neg=>
   try simp only[aQ]
   refine Yp (id:=14) (rest:=[]) (Rds 3 6++[.rd 6 [.o 0 none] 0 0,zR 7,.rd 8 [] 0 7]++Rds 9 12++[.rd 12 [.o 0 none] 0 0,zR 13,.rd 14 [] 0 6,zR 15,zR 16,.rd 17 [] 1 0,.rd 18 [] 1 0,.rd 19 [] 1 0,.rd 20 [] 1 0,zR 21]) [65,64] [zB 84 true] [decide ((↑x.key.size:Int)>(60:Int))=false,decide ((↑x.text.size:Int)>(200:Int))=true] ⟨by simp;omega,by simp;omega,trivial⟩ ?_
   refine JR_end ?_
   refine cTt ?_
   refine Zs [zR 0] [84] [zB 4 true] ?_
   refine Yr [[]] (.bool true) fun a w s=>?_
   exact s.retz (by simp) [] [] rfl rfl
  by_cases hxa:x.at'.length≤20
  case neg=>
   try simp only[aQ]
   refine Yp (id:=14) (rest:=[]) (Rds 3 6++[.rd 6 [.o 0 none] 0 0,zR 7,.rd 8 [] 0 7]++Rds 9 12++[.rd 12 [.o 0 none] 0 0,zR 13,.rd 14 [] 0 7]++Rds 15 18++[.rd 18 [.o 0 none] 0 0,zR 19,.rd 20 [] 0 6,zR 21]) [65,64] [zB 84 true] [decide ((↑x.key.size:Int)>(60:Int))=false,decide ((↑x.text.size:Int)>(200:Int))=false,decide ((↑(List.map eI x.at').length:Int)>(20:Int))=true] ⟨by simp;omega,by simp;omega,by simp;omega,trivial⟩ ?_
   refine JR_end ?_
   refine cTt ?_
   refine Zs [zR 0] [84] [zB 4 true] ?_
   refine Yr [[]] (.bool true) fun a w s=>?_
   exact s.retz (by simp) [] [] rfl rfl
  have hi1:(i+1).toNat=i.toNat+1:=by omega
  by_cases hk1:x.kind=⟨#[112,117,116]⟩
  ·try simp only[aQ]
   refine Yp (id:=14) (rest:=[]) (Rds 3 6++[.rd 6 [.o 0 none] 0 0,zR 7,.rd 8 [] 0 7]++Rds 9 12++[.rd 12 [.o 0 none] 0 0,zR 13,.rd 14 [] 0 7]++Rds 15 18++[.rd 18 [.o 0 none] 0 0,zR 19,.rd 20 [] 0 7,zR 21]) [65,64] [zB 84 false] [decide ((↑x.key.size:Int)>(60:Int))=false,decide ((↑x.text.size:Int)>(200:Int))=false,decide ((↑(List.map eI x.at').length:Int)>(20:Int))=false] ⟨by simp;omega,by simp;omega,by simp;omega,trivial⟩ ?_
   refine JR_end ?_
   refine cF ?_
   refine J_skip (J_seq ?_)
   refine Zs [zR 0,.rd 1 [.o 0 none] 0 0] [84] [zV 86 (.string x.kind)] ?_
   refine J_block ?_
   refine Zt [.rd 0 [] 0 6,zR 1] [] [zB 103 true] [(x.kind.toList==(ByteArray.mk #[(112:UInt8),(117:UInt8),(116:UInt8)]).toList)=true] ⟨by simp[*];done,trivial⟩ ?_
   refine cTt ?_
   refine J_seq ?_
   refine Nm [cObj b (.cells #[nI (↑p:Int),.slice ba p cb,.map (some mk),.map (some md)] 133 (0,0)),cObj mk (Obj.map es clock),(cStar (List.map (fun t=>cAcc (F t) 28 3 (List.map eCom (keyC (putsAll K) t))) ks)),(cMapG md okDot (dotSet (List.map dotP (putsAll K)))),cObj mb (.cells #[.slice bm p cm,.slice la lk lc] 85 (0,0)),cAcc (.slice la lk lc) 28 3 (List.map eCom K)] ?_
   refine J_cut (E':=[zI 0 (p:Nat),zS 1 (some ⟨b1,off1,none⟩) l.length c,zB 4 false,zV 6 (.pointer (some ⟨b,0,none⟩)),zV 8 (.pointer (some ⟨mb,0,none⟩)),zI 9 i,zV 10 (.pointer (some ⟨nu1 0,0,none⟩))]) (h':=[_]) (C':=[_,_,_,_,_,_]) (G':=[_,_,_,_,_,_,_]) [0,1,4,6,8,9,10] [0] [0,1,2,3,4,5] [0,1,2,3,4,5,6] (by kernel_rfl) rfl rfl rfl ?_
   refine actPut hI hp1' hp6' (by omega) hK hm hst hnd hiff (List.length_map ..) (List.length_map ..) (List.length_map ..) hh hxk hxa ?_
   intro base2 K2 b2 mk2 md2 cb2 clock2 cm2 lk2 lc2 ba2 bm2 la2 es2 ks2 Fk2 hK2 hm2 hst2 hnd2 hiff2
   refine actTail hI hp1' hp6' (by omega) hK2 hm2 hst2 hnd2 hiff2 ?_
   refine J_stp (stp_keep 3 rfl) ?_
   refine J_stp (stp_keep 2 rfl) ?_
   refine Nm [cObj b2 (.cells #[nI (↑p:Int),.slice ba2 p cb2,.map (some mk2),.map (some md2)] 133 (0,0)),cObj mk2 (Obj.map es2 clock2),(cStar (List.map (fun t=>cAcc (Fk2 t) 28 3 (List.map eCom (keyC (putsAll K2) t))) ks2)),(cMapG md2 okDot (dotSet (List.map dotP (putsAll K2)))),cObj mb (.cells #[.slice bm2 p cm2,.slice la2 lk2 lc2] 85 (0,0)),cAcc (.slice la2 lk2 lc2) 28 3 (List.map eCom K2),(cRep (Value.slice ba2 p cb2) (dInts base2)),(cRep (Value.slice bm2 p cm2) (dInts base2))] ?_
   refine J_eb ?_
   refine Zp [zR 0,.rd 1 [] 0 1,zR 2] [] [zI 9 (i+1)] [IntKind.i64.wrap (i+1)=i+1] ⟨wrap_i64 (by omega) (by omega),trivial⟩ ?_
   refine J_backx ⟨i+1,base2,K2,b2,mk2,md2,ba2,cb2,es2,clock2,ks2,Fk2,bm2,cm2,la2,lk2,lc2⟩ [0,1,4,6,8,9] [] [0,1,2,3,4,5,6,7] [0,1] ?_ ?_ (by kernel_rfl) rfl rfl rfl
   ·exact⟨by simp only;omega,by simp only;omega,by rw[hi1];exact hK2,hm2,hst2,hnd2,hiff2⟩
   ·simp only
    omega
  by_cases hk2:x.kind=⟨#[114,101,97,100]⟩
  ·try simp only[aQ]
   refine Yp (id:=14) (rest:=[]) (Rds 3 6++[.rd 6 [.o 0 none] 0 0,zR 7,.rd 8 [] 0 7]++Rds 9 12++[.rd 12 [.o 0 none] 0 0,zR 13,.rd 14 [] 0 7]++Rds 15 18++[.rd 18 [.o 0 none] 0 0,zR 19,.rd 20 [] 0 7,zR 21]) [65,64] [zB 84 false] [decide ((↑x.key.size:Int)>(60:Int))=false,decide ((↑x.text.size:Int)>(200:Int))=false,decide ((↑(List.map eI x.at').length:Int)>(20:Int))=false] ⟨by simp;omega,by simp;omega,by simp;omega,trivial⟩ ?_
   refine JR_end ?_
   refine cF ?_
   refine J_skip (J_seq ?_)
   refine Zs [zR 0,.rd 1 [.o 0 none] 0 0] [84] [zV 86 (.string x.kind)] ?_
   refine J_block ?_
   refine Zt [.rd 0 [] 0 7,zR 1] [] [zB 103 false] [(x.kind.toList==(ByteArray.mk #[(112:UInt8),(117:UInt8),(116:UInt8)]).toList)=false] ⟨by simp[*];done,trivial⟩ ?_
   refine cF ?_
   refine Zt [.rd 0 [] 0 6,zR 1] [103] [zB 116 true] [(x.kind.toList==(ByteArray.mk #[(114:UInt8),(101:UInt8),(97:UInt8),(100:UInt8)]).toList)=true] ⟨by simp[*];done,trivial⟩ ?_
   refine cTt ?_
   refine J_seq ?_
   refine Nm [cObj b (.cells #[nI (↑p:Int),.slice ba p cb,.map (some mk),.map (some md)] 133 (0,0)),cObj mk (Obj.map es clock),(cStar (List.map (fun t=>cAcc (F t) 28 3 (List.map eCom (keyC (putsAll K) t))) ks)),(cMapG md okDot (dotSet (List.map dotP (putsAll K)))),cObj mb (.cells #[.slice bm p cm,.slice la lk lc] 85 (0,0)),cAcc (.slice la lk lc) 28 3 (List.map eCom K)] ?_
   refine J_cut (E':=[zI 0 (p:Nat),zS 1 (some ⟨b1,off1,none⟩) l.length c,zB 4 false,zV 6 (.pointer (some ⟨b,0,none⟩)),zV 8 (.pointer (some ⟨mb,0,none⟩)),zI 9 i,zV 10 (.pointer (some ⟨nu1 0,0,none⟩))]) (h':=[_]) (C':=[_,_,_,_,_,_]) (G':=[_,_,_,_,_,_,_]) [0,1,4,6,8,9,10] [0] [0,1,2,3,4,5] [0,1,2,3,4,5,6] (by kernel_rfl) rfl rfl rfl ?_
   refine actRead hI hp1' hp6' (by omega) hK hm hst hnd hiff (List.length_map ..) (List.length_map ..) (List.length_map ..) hh hxk hxa ?_
   intro base2 K2 b2 mk2 md2 cb2 clock2 cm2 lk2 lc2 ba2 bm2 la2 es2 ks2 Fk2 hK2 hm2 hst2 hnd2 hiff2
   refine actTail hI hp1' hp6' (by omega) hK2 hm2 hst2 hnd2 hiff2 ?_
   refine J_stp (stp_keep 3 rfl) ?_
   refine J_stp (stp_keep 2 rfl) ?_
   refine Nm [cObj b2 (.cells #[nI (↑p:Int),.slice ba2 p cb2,.map (some mk2),.map (some md2)] 133 (0,0)),cObj mk2 (Obj.map es2 clock2),(cStar (List.map (fun t=>cAcc (Fk2 t) 28 3 (List.map eCom (keyC (putsAll K2) t))) ks2)),(cMapG md2 okDot (dotSet (List.map dotP (putsAll K2)))),cObj mb (.cells #[.slice bm2 p cm2,.slice la2 lk2 lc2] 85 (0,0)),cAcc (.slice la2 lk2 lc2) 28 3 (List.map eCom K2),(cRep (Value.slice ba2 p cb2) (dInts base2)),(cRep (Value.slice bm2 p cm2) (dInts base2))] ?_
   refine J_eb ?_
   refine Zp [zR 0,.rd 1 [] 0 1,zR 2] [] [zI 9 (i+1)] [IntKind.i64.wrap (i+1)=i+1] ⟨wrap_i64 (by omega) (by omega),trivial⟩ ?_
   refine J_backx ⟨i+1,base2,K2,b2,mk2,md2,ba2,cb2,es2,clock2,ks2,Fk2,bm2,cm2,la2,lk2,lc2⟩ [0,1,4,6,8,9] [] [0,1,2,3,4,5,6,7] [0,1] ?_ ?_ (by kernel_rfl) rfl rfl rfl
   ·exact⟨by simp only;omega,by simp only;omega,by rw[hi1];exact hK2,hm2,hst2,hnd2,hiff2⟩
   ·simp only
    omega
  by_cases hk3:x.kind=⟨#[100,111,116,115]⟩
  ·try simp only[aQ]
   refine Yp (id:=14) (rest:=[]) (Rds 3 6++[.rd 6 [.o 0 none] 0 0,zR 7,.rd 8 [] 0 7]++Rds 9 12++[.rd 12 [.o 0 none] 0 0,zR 13,.rd 14 [] 0 7]++Rds 15 18++[.rd 18 [.o 0 none] 0 0,zR 19,.rd 20 [] 0 7,zR 21]) [65,64] [zB 84 false] [decide ((↑x.key.size:Int)>(60:Int))=false,decide ((↑x.text.size:Int)>(200:Int))=false,decide ((↑(List.map eI x.at').length:Int)>(20:Int))=false] ⟨by simp;omega,by simp;omega,by simp;omega,trivial⟩ ?_
   refine JR_end ?_
   refine cF ?_
   refine J_skip (J_seq ?_)
   refine Zs [zR 0,.rd 1 [.o 0 none] 0 0] [84] [zV 86 (.string x.kind)] ?_
   refine J_block ?_
   refine Zt [.rd 0 [] 0 7,zR 1] [] [zB 103 false] [(x.kind.toList==(ByteArray.mk #[(112:UInt8),(117:UInt8),(116:UInt8)]).toList)=false] ⟨by simp[*];done,trivial⟩ ?_
   refine cF ?_
   refine Zt [.rd 0 [] 0 7,zR 1] [103] [zB 116 false] [(x.kind.toList==(ByteArray.mk #[(114:UInt8),(101:UInt8),(97:UInt8),(100:UInt8)]).toList)=false] ⟨by simp[*];done,trivial⟩ ?_
   refine cF ?_
   refine Zt [.rd 0 [] 0 6,zR 1] [116] [zB 160 true] [(x.kind.toList==(ByteArray.mk #[(100:UInt8),(111:UInt8),(116:UInt8),(115:UInt8)]).toList)=true] ⟨by simp[*];done,trivial⟩ ?_
   refine cTt ?_
   refine J_seq ?_
   refine Nm [cObj b (.cells #[nI (↑p:Int),.slice ba p cb,.map (some mk),.map (some md)] 133 (0,0)),cObj mk (Obj.map es clock),(cStar (List.map (fun t=>cAcc (F t) 28 3 (List.map eCom (keyC (putsAll K) t))) ks)),(cMapG md okDot (dotSet (List.map dotP (putsAll K)))),cObj mb (.cells #[.slice bm p cm,.slice la lk lc] 85 (0,0)),cAcc (.slice la lk lc) 28 3 (List.map eCom K)] ?_
   refine J_cut (E':=[zI 0 (p:Nat),zS 1 (some ⟨b1,off1,none⟩) l.length c,zB 4 false,zV 6 (.pointer (some ⟨b,0,none⟩)),zV 8 (.pointer (some ⟨mb,0,none⟩)),zI 9 i,zV 10 (.pointer (some ⟨nu1 0,0,none⟩))]) (h':=[_]) (C':=[_,_,_,_,_,_]) (G':=[_,_,_,_,_,_,_]) [0,1,4,6,8,9,10] [0] [0,1,2,3,4,5] [0,1,2,3,4,5,6] (by kernel_rfl) rfl rfl rfl ?_
   refine actDots hI hp1' hp6' (by omega) hK hm hst hnd hiff (List.length_map ..) (List.length_map ..) (List.length_map ..) hh hxk hxa ?_
   intro base2 K2 b2 mk2 md2 cb2 clock2 cm2 lk2 lc2 ba2 bm2 la2 es2 ks2 Fk2 hK2 hm2 hst2 hnd2 hiff2
   refine actTail hI hp1' hp6' (by omega) hK2 hm2 hst2 hnd2 hiff2 ?_
   refine J_stp (stp_keep 3 rfl) ?_
   refine J_stp (stp_keep 2 rfl) ?_
   refine Nm [cObj b2 (.cells #[nI (↑p:Int),.slice ba2 p cb2,.map (some mk2),.map (some md2)] 133 (0,0)),cObj mk2 (Obj.map es2 clock2),(cStar (List.map (fun t=>cAcc (Fk2 t) 28 3 (List.map eCom (keyC (putsAll K2) t))) ks2)),(cMapG md2 okDot (dotSet (List.map dotP (putsAll K2)))),cObj mb (.cells #[.slice bm2 p cm2,.slice la2 lk2 lc2] 85 (0,0)),cAcc (.slice la2 lk2 lc2) 28 3 (List.map eCom K2),(cRep (Value.slice ba2 p cb2) (dInts base2)),(cRep (Value.slice bm2 p cm2) (dInts base2))] ?_
   refine J_eb ?_
   refine Zp [zR 0,.rd 1 [] 0 1,zR 2] [] [zI 9 (i+1)] [IntKind.i64.wrap (i+1)=i+1] ⟨wrap_i64 (by omega) (by omega),trivial⟩ ?_
   refine J_backx ⟨i+1,base2,K2,b2,mk2,md2,ba2,cb2,es2,clock2,ks2,Fk2,bm2,cm2,la2,lk2,lc2⟩ [0,1,4,6,8,9] [] [0,1,2,3,4,5,6,7] [0,1] ?_ ?_ (by kernel_rfl) rfl rfl rfl
   ·exact⟨by simp only;omega,by simp only;omega,by rw[hi1];exact hK2,hm2,hst2,hnd2,hiff2⟩
   ·simp only
    omega
  by_cases hk4:x.kind=⟨#[112,114,117,110,101]⟩
  ·try simp only[aQ]
   refine Yp (id:=14) (rest:=[]) (Rds 3 6++[.rd 6 [.o 0 none] 0 0,zR 7,.rd 8 [] 0 7]++Rds 9 12++[.rd 12 [.o 0 none] 0 0,zR 13,.rd 14 [] 0 7]++Rds 15 18++[.rd 18 [.o 0 none] 0 0,zR 19,.rd 20 [] 0 7,zR 21]) [65,64] [zB 84 false] [decide ((↑x.key.size:Int)>(60:Int))=false,decide ((↑x.text.size:Int)>(200:Int))=false,decide ((↑(List.map eI x.at').length:Int)>(20:Int))=false] ⟨by simp;omega,by simp;omega,by simp;omega,trivial⟩ ?_
   refine JR_end ?_
   refine cF ?_
   refine J_skip (J_seq ?_)
   refine Zs [zR 0,.rd 1 [.o 0 none] 0 0] [84] [zV 86 (.string x.kind)] ?_
   refine J_block ?_
   refine Zt [.rd 0 [] 0 7,zR 1] [] [zB 103 false] [(x.kind.toList==(ByteArray.mk #[(112:UInt8),(117:UInt8),(116:UInt8)]).toList)=false] ⟨by simp[*];done,trivial⟩ ?_
   refine cF ?_
   refine Zt [.rd 0 [] 0 7,zR 1] [103] [zB 116 false] [(x.kind.toList==(ByteArray.mk #[(114:UInt8),(101:UInt8),(97:UInt8),(100:UInt8)]).toList)=false] ⟨by simp[*];done,trivial⟩ ?_
   refine cF ?_
   refine Zt [.rd 0 [] 0 7,zR 1] [116] [zB 160 false] [(x.kind.toList==(ByteArray.mk #[(100:UInt8),(111:UInt8),(116:UInt8),(115:UInt8)]).toList)=false] ⟨by simp[*];done,trivial⟩ ?_
   refine cF ?_
   refine Zt [.rd 0 [] 0 6,zR 1] [160] [zB 207 true] [(x.kind.toList==(ByteArray.mk #[(112:UInt8),(114:UInt8),(117:UInt8),(110:UInt8),(101:UInt8)]).toList)=true] ⟨by simp[*];done,trivial⟩ ?_
   refine cTt ?_
   refine J_seq ?_
   refine Nm [cObj b (.cells #[nI (↑p:Int),.slice ba p cb,.map (some mk),.map (some md)] 133 (0,0)),cObj mk (Obj.map es clock),(cStar (List.map (fun t=>cAcc (F t) 28 3 (List.map eCom (keyC (putsAll K) t))) ks)),(cMapG md okDot (dotSet (List.map dotP (putsAll K)))),cObj mb (.cells #[.slice bm p cm,.slice la lk lc] 85 (0,0)),cAcc (.slice la lk lc) 28 3 (List.map eCom K)] ?_
   refine J_cut (E':=[zI 0 (p:Nat),zS 1 (some ⟨b1,off1,none⟩) l.length c,zB 4 false,zV 6 (.pointer (some ⟨b,0,none⟩)),zV 8 (.pointer (some ⟨mb,0,none⟩)),zI 9 i,zV 10 (.pointer (some ⟨nu1 0,0,none⟩))]) (h':=[_]) (C':=[_,_,_,_,_,_]) (G':=[_,_,_,_,_,_,_]) [0,1,4,6,8,9,10] [0] [0,1,2,3,4,5] [0,1,2,3,4,5,6] (by kernel_rfl) rfl rfl rfl ?_
   refine actPrune hI hp1' hp6' (by omega) hK hm hst hnd hiff (List.length_map ..) (List.length_map ..) (List.length_map ..) hh hxk hxa ?_
   intro base2 K2 b2 mk2 md2 cb2 clock2 cm2 lk2 lc2 ba2 bm2 la2 es2 ks2 Fk2 hK2 hm2 hst2 hnd2 hiff2
   refine actTail hI hp1' hp6' (by omega) hK2 hm2 hst2 hnd2 hiff2 ?_
   refine J_stp (stp_keep 3 rfl) ?_
   refine J_stp (stp_keep 2 rfl) ?_
   refine Nm [cObj b2 (.cells #[nI (↑p:Int),.slice ba2 p cb2,.map (some mk2),.map (some md2)] 133 (0,0)),cObj mk2 (Obj.map es2 clock2),(cStar (List.map (fun t=>cAcc (Fk2 t) 28 3 (List.map eCom (keyC (putsAll K2) t))) ks2)),(cMapG md2 okDot (dotSet (List.map dotP (putsAll K2)))),cObj mb (.cells #[.slice bm2 p cm2,.slice la2 lk2 lc2] 85 (0,0)),cAcc (.slice la2 lk2 lc2) 28 3 (List.map eCom K2),(cRep (Value.slice ba2 p cb2) (dInts base2)),(cRep (Value.slice bm2 p cm2) (dInts base2))] ?_
   refine J_eb ?_
   refine Zp [zR 0,.rd 1 [] 0 1,zR 2] [] [zI 9 (i+1)] [IntKind.i64.wrap (i+1)=i+1] ⟨wrap_i64 (by omega) (by omega),trivial⟩ ?_
   refine J_backx ⟨i+1,base2,K2,b2,mk2,md2,ba2,cb2,es2,clock2,ks2,Fk2,bm2,cm2,la2,lk2,lc2⟩ [0,1,4,6,8,9] [] [0,1,2,3,4,5,6,7] [0,1] ?_ ?_ (by kernel_rfl) rfl rfl rfl
   ·exact⟨by simp only;omega,by simp only;omega,by rw[hi1];exact hK2,hm2,hst2,hnd2,hiff2⟩
   ·simp only
    omega
  ·have hd1:(x.kind.toList==(ByteArray.mk #[112,117,116]).toList)=false:=beq_eq_false_iff_ne.2 fun h=>hk1 (byte_inj h)
   have hd2:(x.kind.toList==(ByteArray.mk #[114,101,97,100]).toList)=false:=beq_eq_false_iff_ne.2 fun h=>hk2 (byte_inj h)
   have hd3:(x.kind.toList==(ByteArray.mk #[100,111,116,115]).toList)=false:=beq_eq_false_iff_ne.2 fun h=>hk3 (byte_inj h)
   have hd4:(x.kind.toList==(ByteArray.mk #[112,114,117,110,101]).toList)=false:=beq_eq_false_iff_ne.2 fun h=>hk4 (byte_inj h)
   try simp only[aQ]
   refine Yp (id:=14) (rest:=[]) (Rds 3 6++[.rd 6 [.o 0 none] 0 0,zR 7,.rd 8 [] 0 7]++Rds 9 12++[.rd 12 [.o 0 none] 0 0,zR 13,.rd 14 [] 0 7]++Rds 15 18++[.rd 18 [.o 0 none] 0 0,zR 19,.rd 20 [] 0 7,zR 21]) [65,64] [zB 84 false] [decide ((↑x.key.size:Int)>(60:Int))=false,decide ((↑x.text.size:Int)>(200:Int))=false,decide ((↑(List.map eI x.at').length:Int)>(20:Int))=false] ⟨by simp;omega,by simp;omega,by simp;omega,trivial⟩ ?_
   refine JR_end ?_
   refine cF ?_
   refine J_skip (J_seq ?_)
   refine Zs [zR 0,.rd 1 [.o 0 none] 0 0] [84] [zV 86 (.string x.kind)] ?_
   refine J_block ?_
   refine Zt [.rd 0 [] 0 7,zR 1] [] [zB 103 false] [(x.kind.toList==(ByteArray.mk #[(112:UInt8),(117:UInt8),(116:UInt8)]).toList)=false] ⟨by assumption,trivial⟩ ?_
   refine cF ?_
   refine Zt [.rd 0 [] 0 7,zR 1] [103] [zB 116 false] [(x.kind.toList==(ByteArray.mk #[(114:UInt8),(101:UInt8),(97:UInt8),(100:UInt8)]).toList)=false] ⟨by assumption,trivial⟩ ?_
   refine cF ?_
   refine Zt [.rd 0 [] 0 7,zR 1] [116] [zB 160 false] [(x.kind.toList==(ByteArray.mk #[(100:UInt8),(111:UInt8),(116:UInt8),(115:UInt8)]).toList)=false] ⟨by assumption,trivial⟩ ?_
   refine cF ?_
   refine Zt [.rd 0 [] 0 7,zR 1] [160] [zB 207 false] [(x.kind.toList==(ByteArray.mk #[(112:UInt8),(114:UInt8),(117:UInt8),(110:UInt8),(101:UInt8)]).toList)=false] ⟨by assumption,trivial⟩ ?_
   refine cF ?_
   refine J_seq ?_
   refine Nm [cObj b (.cells #[nI (↑p:Int),.slice ba p cb,.map (some mk),.map (some md)] 133 (0,0)),cObj mk (Obj.map es clock),(cStar (List.map (fun t=>cAcc (F t) 28 3 (List.map eCom (keyC (putsAll K) t))) ks)),(cMapG md okDot (dotSet (List.map dotP (putsAll K)))),cObj mb (.cells #[.slice bm p cm,.slice la lk lc] 85 (0,0)),cAcc (.slice la lk lc) 28 3 (List.map eCom K)] ?_
   refine J_cut (E':=[zI 0 (p:Nat),zS 1 (some ⟨b1,off1,none⟩) l.length c,zB 4 false,zV 6 (.pointer (some ⟨b,0,none⟩)),zV 8 (.pointer (some ⟨mb,0,none⟩)),zI 9 i,zV 10 (.pointer (some ⟨nu1 0,0,none⟩))]) (h':=[_]) (C':=[_,_,_,_,_,_]) (G':=[_,_,_,_,_,_,_]) [0,1,4,6,8,9,10] [0] [0,1,2,3,4,5] [0,1,2,3,4,5,6] (by kernel_rfl) rfl rfl rfl ?_
   refine actCopy hI hp1' hp6' (by omega) hK hm hst hnd hiff (List.length_map ..) (List.length_map ..) (List.length_map ..) hh hxk hxa ?_
   intro base2 K2 b2 mk2 md2 cb2 clock2 cm2 lk2 lc2 ba2 bm2 la2 es2 ks2 Fk2 hK2 hm2 hst2 hnd2 hiff2
   refine actTail hI hp1' hp6' (by omega) hK2 hm2 hst2 hnd2 hiff2 ?_
   refine J_stp (stp_keep 3 rfl) ?_
   refine J_stp (stp_keep 2 rfl) ?_
   refine Nm [cObj b2 (.cells #[nI (↑p:Int),.slice ba2 p cb2,.map (some mk2),.map (some md2)] 133 (0,0)),cObj mk2 (Obj.map es2 clock2),(cStar (List.map (fun t=>cAcc (Fk2 t) 28 3 (List.map eCom (keyC (putsAll K2) t))) ks2)),(cMapG md2 okDot (dotSet (List.map dotP (putsAll K2)))),cObj mb (.cells #[.slice bm2 p cm2,.slice la2 lk2 lc2] 85 (0,0)),cAcc (.slice la2 lk2 lc2) 28 3 (List.map eCom K2),(cRep (Value.slice ba2 p cb2) (dInts base2)),(cRep (Value.slice bm2 p cm2) (dInts base2))] ?_
   refine J_eb ?_
   refine Zp [zR 0,.rd 1 [] 0 1,zR 2] [] [zI 9 (i+1)] [IntKind.i64.wrap (i+1)=i+1] ⟨wrap_i64 (by omega) (by omega),trivial⟩ ?_
   refine J_backx ⟨i+1,base2,K2,b2,mk2,md2,ba2,cb2,es2,clock2,ks2,Fk2,bm2,cm2,la2,lk2,lc2⟩ [0,1,4,6,8,9] [] [0,1,2,3,4,5,6,7] [0,1] ?_ ?_ (by kernel_rfl) rfl rfl rfl
   ·exact⟨by simp only;omega,by simp only;omega,by rw[hi1];exact hK2,hm2,hst2,hnd2,hiff2⟩
   ·simp only
    omega
 ·refine J_exit rfl ?_
  refine Zs [zR 0] [56,0,1,6,8,9] [zB 4 true] ?_
  refine Yr [[]] (.bool true) fun a w s=>?_
  exact s.retz (by simp) [] [] rfl rfl
end Go.Proofs.YtpjkiomccpjboaaGreatDoor
end
