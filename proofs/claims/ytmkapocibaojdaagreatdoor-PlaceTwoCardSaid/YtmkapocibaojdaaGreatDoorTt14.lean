/- Part 14 of the texts of a claim: Net3 Net4 Net5 Net6 Net7 Net8 Net9 NetW PWhoT NetT PTwoS PTwoF. -/
import Derived.Test.YtmkapocibaojdaaGreatDoorTt13
section
namespace Go.Sx
open Go
def Net.setP (x:Net) (t:Nat) (p:PlT):Net:={ x with P:=fun i=>if i=t then p else x.P i }
theorem setP_at (x:Net) (t:Nat) (p:PlT):(x.setP t p).P t=p:=if_pos rfl
theorem setP_ne (x:Net) {t i:Nat} (p:PlT) (h:i≠t):(x.setP t p).P i=x.P i:=if_neg h
theorem setP_self (x:Net) (t:Nat):x.setP t (x.P t)=x:=by
 unfold Net.setP
 congr
 funext i
 split
 ·rename_i h
  rw[h]
 ·rfl
theorem mem_window {H:List MsgT} {q k:Nat} {z:MsgT}:z∈(H.drop q).take k↔∃i,q≤i∧i<q+k∧H[i]?=some z:=by
 constructor
 ·intro h
  obtain⟨i,hi⟩:=List.getElem?_of_mem h
  rw[List.getElem?_take]at hi
  split at hi
  ·rw[List.getElem?_drop]at hi
   exact⟨q+i,by omega,by omega,hi⟩
  ·cases hi
 ·rintro⟨i,h1,h2,h3⟩
  refine List.mem_of_getElem? (i:=i - q) ?_
  rw[List.getElem?_take,if_pos (by omega),List.getElem?_drop,show q+(i - q)=i by omega]
  exact h3
end Go.Sx
namespace Go.Proofs.YtmkapocibaojdaaGreatDoor
open Go Go.Sx
section net
variable {places shards n:Nat} {x:Net}
theorem NetIn.mono (h:NetIn places shards x n) {k:Nat} (hk:n≤k):NetIn places shards x k:={ h with pin:=fun i hi=>(h.pin i hi).mono hk }
theorem NetIn.before (h:NetIn places shards x n) {t f sh:Nat} (ht:t<places) (hf:f<places) (hne:f≠t) (hs:sh<shards) {r:RcvT} (hr:r∈(x.P t).rs) (hrf:r.fm.toNat=f) (hrs:r.sh.toNat=sh) {i:Nat} {z:MsgT} (hz:(x.H f t sh)[i]?=some z) (hb:z.beat=false) (h1:1≤z.time) (hle:z.time≤snapT (x.P t) f):(i:Int)<r.q:=by
 have hst:=h.msg f hf t ht (Ne.symm hne) sh hs
 have hrc:=h.rcv t ht r hr
 rw[hrf,hrs]at hrc
 apply Int.lt_of_not_ge
 intro hge
 have hst2:snapT (x.P t) f≤r.t:=by
  rw[snapT,if_neg (by rw[(h.pid t ht).1];exact hne)]
  exact minT_le (List.mem_map.2 ⟨r,List.mem_filter.2 ⟨hr,by simp[hrf]⟩,rfl⟩)
 have h0:=((h.pin t ht).rcv r hr).1
 cases hk:r.q.toNat with
 | zero=>
  have:=hrc.t
  rw[hk]at this
  simp[timeAt]at this
  omega
 | succ k=>
  have hkl:k<(x.H f t sh).length:=by
   have:=hrc.q
   omega
  have hjl:=(List.getElem?_eq_some_iff.1 hz).1
  have hlt:=(List.pairwise_iff_getElem.1 hst.inc k i hkl hjl (by omega)).2
  rw[(List.getElem?_eq_some_iff.1 hz).2]at hlt
  have h1:=hlt hb
  have h2:=hrc.t
  rw[hk]at h2
  simp[timeAt,hkl]at h2
  omega
theorem NetIn.recv_uniq (h:NetIn places shards x n) {t:Nat} (ht:t<places) {r y:RcvT} (hr:r∈(x.P t).rs) (hy:y∈(x.P t).rs) (he:PlT.pairR r=PlT.pairR y):r=y:=by
 have hn:=(pairsP_nodup (x.P t).id (x.P t).shards (x.P t).places).1
 have hp:(x.P t).rs.map PlT.pairR=pairsP (x.P t).id (x.P t).shards (x.P t).places:=(h.pin t ht).rs
 rw[←hp]at hn
 obtain⟨i,hi⟩:=List.getElem?_of_mem hr
 obtain⟨j,hj⟩:=List.getElem?_of_mem hy
 have hi2:((x.P t).rs.map PlT.pairR)[i]?=some (PlT.pairR r):=by rw[List.getElem?_map,hi];rfl
 have hj2:((x.P t).rs.map PlT.pairR)[j]?=some (PlT.pairR y):=by rw[List.getElem?_map,hj];rfl
 have hij:i=j:=(List.getElem?_inj (List.getElem?_eq_some_iff.1 hi2).1 hn).1 (hi2.trans (by rw[hj2,he]))
 subst hij
 rw[hi]at hj
 exact Option.some.inj hj
theorem inL_trans {a b c:List Int} (h1:inL a b=true) (h2:inL b c=true) (hl:a.length≤b.length):inL a c=true:=by
 unfold inL
 rw[List.all_eq_true]
 rintro⟨u,v⟩ hm
 obtain⟨i,hi⟩:=List.getElem?_of_mem hm
 obtain⟨hu,hv⟩:=List.getElem?_zip_eq_some.1 hi
 have hil:=(List.getElem?_eq_some_iff.1 hu).1
 have hw:=List.getElem?_eq_getElem (show i<b.length by omega)
 have:=inL_at h1 hu hw
 have:=inL_at h2 hw hv
 exact decide_eq_true (by omega)
theorem snapL_le {p p':PlT} (hp:p'.places=p.places) (h:∀k<p.places,snapT p k≤snapT p' k):inL (snapL p) (snapL p')=true:=by
 refine inL_true (by simp[snapL,hp]) fun j a b ha hb=>?_
 unfold snapL at ha hb
 rw[List.getElem?_map]at ha hb
 obtain⟨u,hu,rfl⟩:=Option.map_eq_some_iff.1 ha
 obtain⟨v,hv,rfl⟩:=Option.map_eq_some_iff.1 hb
 obtain⟨hu1,hu2⟩:=List.getElem?_eq_some_iff.1 hu
 obtain⟨hv1,hv2⟩:=List.getElem?_eq_some_iff.1 hv
 simp at hu2 hv2 hu1
 subst hu2 hv2
 exact h _ hu1
theorem snapT_set {p:PlT} {i:Nat} {y y':RcvT} (hy:p.rs[i]?=some y) (hf:y'.fm=y.fm) (ht:y.t≤y'.t) (L:List PutT) (k:Nat) (hk:k=p.id∨∃r∈p.rs,r.fm.toNat=k):snapT p k≤snapT { p with rs:=p.rs.set i y',L:=L } k:=by
 unfold snapT
 split
 ·exact Int.le_refl _
 ·rename_i hne
  obtain h|⟨r,hr,hrk⟩:=hk
  ·exact absurd h hne
  have hne2:((p.rs.set i y').filter fun r=>decide (r.fm.toNat=k)).map (·.t)≠[]:=by
   obtain⟨j,hj⟩:=List.getElem?_of_mem hr
   have hjl:=(List.getElem?_eq_some_iff.1 hj).1
   intro h0
   rw[List.map_eq_nil_iff,List.filter_eq_nil_iff]at h0
   by_cases hij:i=j
   ·subst hij
    rw[hy]at hj
    cases hj
    exact h0 y' (List.mem_of_getElem? (i:=i) (by rw[List.getElem?_set_self hjl])) (by simp[hf,hrk])
   ·exact h0 r (List.mem_of_getElem? (i:=j) (by rw[List.getElem?_set_ne hij];exact hj)) (by simp[hrk])
  obtain⟨z,hz,hzt⟩:=List.mem_map.1 (minT_mem hne2)
  obtain⟨hz1,hz2⟩:=List.mem_filter.1 hz
  show _≤minT (((p.rs.set i y').filter fun r=>decide (r.fm.toNat=k)).map (·.t))
  rw[←hzt]
  rcases set_mem hz1 with h1|rfl
  ·exact minT_le (List.mem_map.2 ⟨z,List.mem_filter.2 ⟨h1,hz2⟩,rfl⟩)
  ·exact Int.le_trans (minT_le (List.mem_map.2 ⟨y,List.mem_filter.2 ⟨List.mem_of_getElem? hy,by rw[←hf];exact hz2⟩,rfl⟩)) ht
theorem opErr_zero {o:OpT} {p:Int} (h:opErr o p=0):nameOk o.key=true∧o.text.size≤60∧o.dots.length≤60∧(o.kind=1∨o.kind=2∨o.kind=3):=by
 unfold opErr at h
 split at h
 ·cases h
 split at h
 ·cases h
 rename_i hn
 split at h
 ·cases h
 split at h
 ·cases h
 split at h
 ·cases h
 refine⟨by simpa using hn,by omega,by omega,by omega⟩
theorem com_fit {C:ComT} (h:(comFault C).code=0):C.when.length≤6∧C.ops.length≤12∧∀o∈C.ops,o.dots.length≤60:=by
 have hr:=right_of h
 exact⟨(vecErr_len hr.vec).2,hr.o2,fun o ho=>(opErr_zero (right_ops h o ho)).2.2.1⟩
theorem NetIn.fit (h:NetIn places shards x n) {t f sh j:Nat} {m:MsgT} (ht:t<places) (hf:f<places) (hne:f≠t) (hs:sh<shards) (hm:(x.H f t sh)[j]?=some m):Fit m:=by
 obtain⟨_,_,_,_,_,_,hb⟩:=(h.msg f hf t ht (Ne.symm hne) sh hs).at' j m hm
 rcases hb with ⟨_,hc⟩|⟨_,C,hC,hc,_,_⟩
 ·rw[Fit,hc]
  simp
 ·obtain⟨h1,h2,h3⟩:=com_fit (h.mem hf hC).2.2.2.1
  have h4:(partC shards C sh).ops.length≤C.ops.length:=List.length_filter_le _ _
  rw[Fit,hc]
  refine⟨?_,by omega,fun o ho=>?_⟩
  ·show C.when.length≤_
   omega
  ·have:=h3 o (List.mem_filter.1 ho).1
   omega
theorem NetIn.recvAt (h:NetIn places shards x n) {t f sh:Nat} (ht:t<places) (hf:f<places) (hne:f≠t) (hs:sh<shards):∃y,(x.P t).rs[posP t shards f+sh]?=some y∧y.fm=f∧y.sh=sh∧y.to=t:=by
 obtain⟨h1,h2,h3⟩:=h.pid t ht
 have hp:=(h.pin t ht).rs
 rw[h1,h2,h3]at hp
 have hat:=pairsP_at (id:=t) (shards:=shards) (places:=places) hf hne hs
 rw[←hp,List.getElem?_map]at hat
 obtain⟨y,hy,he⟩:=Option.map_eq_some_iff.1 hat
 obtain⟨e1,e2⟩:=Prod.mk.inj he
 have hw:=(h.pin t ht).wayR y (List.mem_of_getElem? hy)
 refine⟨y,hy,by omega,by omega,?_⟩
 rw[hw.2.2,h1]
theorem NetIn.hear (h:NetIn places shards x n) {t f sh j:Nat} {m:MsgT} (ht:t<places) (hf:f<places) (hne:f≠t) (hs:sh<shards) (hm:(x.H f t sh)[j]?=some m) :
  NetIn places shards (x.setP t (hearPl (x.P t) m).2.2) (n+1)∧((x.H f t sh).length≤201→(hearPl (x.P t) m).1=0):=by
 obtain⟨i1,i2,i3⟩:=h.pid t ht
 have hst:=h.msg f hf t ht (Ne.symm hne) sh hs
 obtain⟨m1,m2,m3,m4,m5,m6,_⟩:=hst.at' j m hm
 have hjl:=(List.getElem?_eq_some_iff.1 hm).1
 obtain⟨y,hy,y1,y2,y3⟩:=h.recvAt ht hf hne hs
 have hmem:=List.mem_of_getElem? hy
 have hpin:=hear_in (h.pin t ht) (h.fit ht hf hne hs hm)
 have hway:hearWay (x.P t) m=0:=by rw[hearWay,i1,i2,i3,if_neg (by omega),if_neg (by omega)]
 have hpos:posM (x.P t) m=posP t shards f+sh:=by rw[posM,i1,i3,m1,m3,Int.toNat_natCast,Int.toNat_natCast]
 have hrc:=h.rcv t ht y hmem
 rw[y1,y2,Int.toNat_natCast,Int.toNat_natCast]at hrc
 obtain⟨r1,r2,r3⟩:=(h.pin t ht).rcv y hmem
 have hK:((x.K f).length:Int)≤1099511627776:=by
  rw[h.clk f hf]
  exact(h.pin f hf).c1
 obtain⟨g1,g2,g3,g4⟩:=hear_strm hst hrc y1 y3 y2 r3 r1 hm hK
 have hE:hearPl (x.P t) m=if (RcvT.hear y m).1≠0 then ((RcvT.hear y m).1,[],x.P t)else (0,[ackM (x.P t) m (RcvT.heard y m).q],{ x.P t with rs:=(x.P t).rs.set (posP t shards f+sh) (RcvT.heard y m),L:=putMs (x.P t).places (x.P t).base m.fm (x.P t).L (RcvT.hear y m).2.1 }):=by
  rw[hearPl,if_neg (by simp[hway]),if_neg (by omega),hpos,hy]
 rw[hE]at hpin ⊢
 by_cases hc:(RcvT.hear y m).1≠0
 ·rw[if_pos hc]
  refine⟨?_,fun hl=>?_⟩
  ·simp only[setP_self]
   exact h.mono (by omega)
  ·rcases g4 with g4|⟨_,g4⟩
   ·exact absurd g4 hc
   ·omega
 rw[if_neg hc]at hpin ⊢
 refine⟨?_,fun _=>rfl⟩
 simp only at hpin ⊢
 have hq:=(hear_ok y m).q
 have hrel:∀z∈(RcvT.hear y m).2.1,∃i:Nat,y.q≤i∧(i:Int)<(RcvT.heard y m).q∧(x.H f t sh)[i]?=some z:=fun z hz=>by
  rw[g2]at hz
  obtain⟨i,h1,h2,h3⟩:=mem_window.1 hz
  exact⟨i,by omega,by omega,h3⟩
 have hbody:∀z∈(RcvT.hear y m).2.1,z.beat=false→∃(i:Nat) (C:ComT),y.q≤i∧(x.H f t sh)[i]?=some z∧C∈x.K f∧z.c=partC shards C sh∧z.c.ops≠[]∧z.time=C.when.getD f 0:=fun z hz hb=>by
  obtain⟨i,h1,_,h3⟩:=hrel z hz
  obtain⟨_,_,_,_,_,_,hzb⟩:=hst.at' i z h3
  rcases hzb with ⟨hb2,_⟩|⟨_,C,hC,h4,h5,h6⟩
  ·rw[hb]at hb2
   cases hb2
  ·exact⟨i,C,h1,h3,hC,h4,h5,h6⟩
 have hA:∀z∈(RcvT.hear y m).2.1,z.beat=false→z.c.place=m.fm∧(comFault z.c).code=0∧z.c.when.length=(x.P t).places∧inL z.c.when (x.P t).base=false:=fun z hz hb=>by
  obtain⟨i,C,h1,h3,hC,h4,h5,h6⟩:=hbody z hz hb
  obtain⟨c1,c2,c3,c4,c5⟩:=h.mem hf hC
  rw[h4]at h5 ⊢
  refine⟨by rw[m1];exact c1,(partC_of h5).fault c4,by rw[i2];exact c5,?_⟩
  rw[Bool.eq_false_iff]
  intro hin
  have hb1:=(h.pin t ht).basel
  have hin2:inL C.when (snapL (x.P t))=true:=inL_trans hin (h.base t ht t ht) (by show C.when.length≤_;omega)
  have h7:=inL_getD hin2 (j:=f) (by omega) (by rw[snapL,List.length_map,List.length_range];omega)
  have h8:(snapL (x.P t)).getD f 0=snapT (x.P t) f:=by
   rw[snapL,List.getD_eq_getElem?_getD]
   simp[i2,hf]
  have h9:=h.before ht hf hne hs hmem (by omega) (by omega) h3 hb (by omega) (by omega)
  omega
 have hN:(((x.P t).L++comesL (RcvT.hear y m).2.1).map dotP).Nodup:=by
  have hsub:(RcvT.hear y m).2.1.Sublist (x.H f t sh):=by
   rw[g2]
   exact(List.take_sublist _ _).trans (List.drop_sublist _ _)
  rw[List.map_append,List.nodup_append]
  refine⟨h.nodup t ht,?_,fun d hd d' hd' hdd=>?_⟩
  ·rw[comesL,List.map_flatMap,List.nodup_iff_pairwise_ne,List.pairwise_flatMap]
   refine⟨fun z hz=>?_,(hst.inc.sublist hsub).imp_of_mem fun{a b} ha hb hab u hu v hv huv=>?_⟩
   ·split
    ·exact List.Pairwise.nil
    ·rename_i hb
     rw[dotP_puts,←List.nodup_iff_pairwise_ne]
     exact dots_own (hA z hz (by simpa using hb)).2.1
   ·split at hu
    ·cases hu
    rename_i hba
    split at hv
    ·cases hv
    rename_i hbb
    have hba2:a.beat=false:=by simpa using hba
    have hbb2:b.beat=false:=by simpa using hbb
    rw[dotP_puts]at hu hv
    obtain⟨o,ho,rfl⟩:=List.mem_map.1 hu
    obtain⟨p,hp,rfl⟩:=List.mem_map.1 hv
    obtain⟨_,C,_,_,hC,c1,_,c2⟩:=hbody a ha hba2
    obtain⟨_,D,_,_,hD,d1,_,d2⟩:=hbody b hb hbb2
    have:=hab.2 hbb2
    simp only[dotOf,DotT.mk.injEq,c1,d1]at huv
    have e1:(partC shards C sh).place=f:=(h.mem hf hC).1
    have e2:(partC shards D sh).place=f:=(h.mem hf hD).1
    rw[e1,e2,Int.toNat_natCast]at huv
    have e3:C.when.getD f 0=D.when.getD f 0:=huv.2.1
    omega
  ·subst hdd
   obtain⟨q,hqm,hqd⟩:=List.mem_map.1 hd
   obtain⟨q',hqm',rfl⟩:=List.mem_map.1 hd'
   obtain⟨z,hz,hzq⟩:=List.mem_flatMap.1 hqm'
   split at hzq
   ·cases hzq
   rename_i hzb
   have hzb2:z.beat=false:=by simpa using hzb
   obtain⟨o,ho,rfl⟩:=List.mem_map.1 hzq
   obtain⟨i,C,hi,hzi,hC,hc1,_,hc2⟩:=hbody z hz hzb2
   obtain⟨k1,_,_,k4,_⟩:=h.mem hf hC
   rw[hc1]at ho hqd
   simp only[dotP,DotT.mk.injEq]at hqd
   obtain⟨e1,e2,e3⟩:=hqd
   have e0:(partC shards C sh).place=f:=k1
   rw[e0]at e1 e2
   rw[e1,Int.toNat_natCast]at e2
   rcases(h.L t ht q).1 hqm with ⟨D,hD,p,hp,rfl⟩|⟨r,hr,j',z',hz',hj',hb',p,hp,rfl⟩
   ·have:=(h.mem ht hD).1
    simp only at e1
    omega
   ·obtain⟨p1,p2,p3⟩:=h.pair ht hr
    obtain⟨_,_,_,_,_,_,hzb'⟩:=(h.msg _ p1 t ht (Ne.symm p2) _ p3).at' j' z' hz'
    rcases hzb' with ⟨hb2,_⟩|⟨_,D,hD,hd1,_,hd2⟩
    ·rw[hb']at hb2
     cases hb2
    ·rw[hd1]at hp e1 e2 e3
     have hD1:=(h.mem p1 hD).1
     have hff:r.fm.toNat=f:=by
      have:(partC shards D r.sh.toNat).place=D.place:=rfl
      simp only at e1
      omega
     rw[hff]at hz' hD hd2
     have hDC:D=C:=h.uniq hf hD hC e2
     subst hDC
     have hop:p=o:=op_uniq k4 (List.mem_filter.1 hp).1 (List.mem_filter.1 ho).1 e3
     subst hop
     have s1:=of_decide_eq_true (List.mem_filter.1 hp).2
     have s2:=of_decide_eq_true (List.mem_filter.1 ho).2
     have hss:r.sh.toNat=sh:=by omega
     rw[hss]at hz'
     have hry:r=y:=h.recv_uniq ht hr hmem (by rw[PlT.pairR,PlT.pairR,hff,hss,y1,y2,Int.toNat_natCast,Int.toNat_natCast])
     subst hry
     have hlt:=(List.pairwise_iff_getElem.1 hst.inc j' i (List.getElem?_eq_some_iff.1 hz').1 (List.getElem?_eq_some_iff.1 hzi).1 (by omega)).2
     rw[(List.getElem?_eq_some_iff.1 hz').2,(List.getElem?_eq_some_iff.1 hzi).2]at hlt
     have:=hlt hzb2
     omega
 have hL:putMs (x.P t).places (x.P t).base m.fm (x.P t).L (RcvT.hear y m).2.1=(x.P t).L++comesL (RcvT.hear y m).2.1:=putMs_all hA hN
 rw[hL]at hpin ⊢
 have hyl:=(List.getElem?_eq_some_iff.1 hy).1
 have hyn:RcvT.heard y m∈(x.P t).rs.set (posP t shards f+sh) (RcvT.heard y m):=List.mem_of_getElem? (List.getElem?_set_self hyl)
 have hother:∀r∈(x.P t).rs,r=y∨r∈(x.P t).rs.set (posP t shards f+sh) (RcvT.heard y m):=fun r hr=>by
  obtain⟨i,hi⟩:=List.getElem?_of_mem hr
  by_cases hip:posP t shards f+sh=i
  ·rw[←hip,hy]at hi
   exact .inl (Option.some.inj hi).symm
  ·exact .inr (List.mem_of_getElem? (i:=i) (by rw[List.getElem?_set_ne hip];exact hi))
 have hyt:y.t≤(RcvT.heard y m).t:=by
  rw[hrc.t,g1.t]
  have:=g1.q
  exact hst.time_mono (by omega) (by omega)
 have hsn:inL (snapL (x.P t)) (snapL { x.P t with rs:=(x.P t).rs.set (posP t shards f+sh) (RcvT.heard y m),L:=(x.P t).L++comesL (RcvT.hear y m).2.1 })=true:=by
  refine snapL_le rfl fun k hk=>snapT_set (y':=RcvT.heard y m) hy rfl hyt _ k ?_
  rw[i2]at hk
  rw[i1]
  by_cases hkt:k=t
  ·exact .inl hkt
  ·have hs1:=(h.pin t ht).s1
   rw[i3]at hs1
   obtain⟨r,hr,h1,_⟩:=h.recv ht hk hkt (show 0<shards by omega)
   exact .inr ⟨r,hr,h1⟩
 refine⟨fun i hi=>?_,fun i hi=>?_,fun i hi=>?_,h.com,h.msg,fun i hi=>?_,fun i hi r hr=>?_,fun i hi q=>?_,fun i hi=>?_,fun i hi u hu=>?_⟩
 ·by_cases hit:i=t
  ·subst hit
   rw[setP_at]
   exact hpin
  ·rw[setP_ne _ _ hit]
   exact(h.pin i hi).mono (by omega)
 ·by_cases hit:i=t
  ·subst hit
   rw[setP_at]
   exact⟨i1,i2,i3⟩
  ·rw[setP_ne _ _ hit]
   exact h.pid i hi
 ·by_cases hit:i=t
  ·subst hit
   rw[setP_at]
   exact h.clk i hi
  ·rw[setP_ne _ _ hit]
   exact h.clk i hi
 ·by_cases hit:i=t
  ·subst hit
   rw[setP_at]
   exact h.snd i hi
  ·rw[setP_ne _ _ hit]
   exact h.snd i hi
 ·by_cases hit:i=t
  ·subst hit
   rw[setP_at]at hr
   rcases set_mem hr with hr|rfl
   ·exact h.rcv i hi r hr
   ·show RcvOk _ (x.H y.fm.toNat i y.sh.toNat)
    rw[y1,y2,Int.toNat_natCast,Int.toNat_natCast]
    exact g1
  ·rw[setP_ne _ _ hit]at hr
   exact h.rcv i hi r hr
 ·by_cases hit:i=t
  ·subst hit
   rw[setP_at]
   show q∈(x.P i).L++comesL (RcvT.hear y m).2.1↔OwnQ (x.K i) q∨∃r∈(x.P i).rs.set (posP i shards f+sh) (RcvT.heard y m),ComeQ (x.H r.fm.toNat i r.sh.toNat) r.q q
   rw[List.mem_append,h.L i hi q]
   have hHy:x.H (RcvT.heard y m).fm.toNat i (RcvT.heard y m).sh.toNat=x.H f i sh:=by
    show x.H y.fm.toNat i y.sh.toNat=_
    rw[y1,y2,Int.toNat_natCast,Int.toNat_natCast]
   have hHy2:x.H y.fm.toNat i y.sh.toNat=x.H f i sh:=hHy
   constructor
   ·rintro((h1|⟨r,hr,j',z',h1,h2,h3⟩)|h1)
    ·exact .inl h1
    ·rcases hother r hr with rfl|hr2
     ·exact .inr ⟨_,hyn,j',z',by rw[hHy,←hHy2];exact h1,by omega,h3⟩
     ·exact .inr ⟨r,hr2,j',z',h1,h2,h3⟩
    ·obtain⟨z,hz,hzq⟩:=List.mem_flatMap.1 h1
     split at hzq
     ·cases hzq
     rename_i hzb
     obtain⟨o,ho,rfl⟩:=List.mem_map.1 hzq
     obtain⟨k,_,hk2,hk3⟩:=hrel z hz
     exact .inr ⟨_,hyn,k,z,by rw[hHy];exact hk3,hk2,by simpa using hzb,o,ho,rfl⟩
   ·rintro(h1|⟨r,hr,j',z',h1,h2,h3,o,ho,rfl⟩)
    ·exact .inl (.inl h1)
    ·rcases set_mem hr with hr|rfl
     ·exact .inl (.inr ⟨r,hr,j',z',h1,h2,h3,o,ho,rfl⟩)
     ·rw[hHy]at h1
      by_cases hjy:(j':Int)<y.q
      ·exact .inl (.inr ⟨y,hmem,j',z',by rw[hHy2];exact h1,hjy,h3,o,ho,rfl⟩)
      ·refine .inr (List.mem_flatMap.2 ⟨z',?_,?_⟩)
       ·rw[g2]
        exact mem_window.2 ⟨j',by omega,by omega,h1⟩
       ·rw[if_neg (by simp[h3])]
        exact List.mem_map_of_mem ho
  ·rw[setP_ne _ _ hit]
   exact h.L i hi q
 ·by_cases hit:i=t
  ·subst hit
   rw[setP_at]
   exact hN
  ·rw[setP_ne _ _ hit]
   exact h.nodup i hi
 ·have hb:((x.setP t { x.P t with rs:=(x.P t).rs.set (posP t shards f+sh) (RcvT.heard y m),L:=(x.P t).L++comesL (RcvT.hear y m).2.1 }).P i).base=(x.P i).base:=by
   by_cases hit:i=t
   ·subst hit
    rw[setP_at]
   ·rw[setP_ne _ _ hit]
  rw[hb]
  by_cases hut:u=t
  ·subst hut
   rw[setP_at]
   have hbl:=(h.pin i hi).basel
   have hpi:=(h.pid i hi).2.1
   exact inL_trans (h.base i hi u hu) hsn (by rw[snapL,List.length_map,List.length_range];omega)
  ·rw[setP_ne _ _ hut]
   exact h.base i hi u hu
end net
end Go.Proofs.YtmkapocibaojdaaGreatDoor
end
section
namespace Go.Sx
open Go
def Net.upd (x:Net) (f:Nat) (p:PlT) (K':List ComT) (X:Nat→Nat→List MsgT):Net:=
 { P:=fun i=>if i=f then p else x.P i,K:=fun i=>if i=f then K' else x.K i,H:=fun a t sh=>if a=f then x.H a t sh++X t sh else x.H a t sh }
section upd
variable {x:Net} {f:Nat} {p:PlT} {K':List ComT} {X:Nat→Nat→List MsgT}
theorem updP_at:(x.upd f p K' X).P f=p:=if_pos rfl
theorem updP_ne {i:Nat} (h:i≠f):(x.upd f p K' X).P i=x.P i:=if_neg h
theorem updK_at:(x.upd f p K' X).K f=K':=if_pos rfl
theorem updK_ne {i:Nat} (h:i≠f):(x.upd f p K' X).K i=x.K i:=if_neg h
theorem updH_at {t sh:Nat}:(x.upd f p K' X).H f t sh=x.H f t sh++X t sh:=if_pos rfl
theorem updH_ne {i t sh:Nat} (h:i≠f):(x.upd f p K' X).H i t sh=x.H i t sh:=if_neg h
end upd
theorem timeAt_app {l X:List MsgT} {q:Nat} (h:q≤l.length):timeAt (l++X) q=timeAt l q:=by
 cases q with
 | zero=>rfl
 | succ k=>simp only[timeAt,List.getElem?_append_left (show k<l.length by omega)]
theorem timeAt_last {l:List MsgT} {m:MsgT}:timeAt (l++[m]) (l++[m]).length=m.time:=by
 simp[timeAt]
end Go.Sx
namespace Go.Proofs.YtmkapocibaojdaaGreatDoor
open Go Go.Sx
theorem RcvOk.app {r:RcvT} {l X:List MsgT} (h:RcvOk r l) (h0:0≤r.q):RcvOk r (l++X):=by
 have hq:=h.q
 refine⟨by simp;omega,by rw[timeAt_app (by omega)];exact h.t,fun m hm=>?_⟩
 obtain⟨j,h1,h2⟩:=h.l m hm
 exact⟨j,by rw[List.getElem?_append_left (List.getElem?_eq_some_iff.1 h1).1];exact h1,h2⟩
theorem ComeQ_app {l X:List MsgT} {k:Int} {q:PutT} (hk:k≤l.length):ComeQ (l++X) k q↔ComeQ l k q:=by
 constructor
 ·rintro⟨j,m,h1,h2,h3⟩
  exact⟨j,m,by rwa[List.getElem?_append_left (by omega)]at h1,h2,h3⟩
 ·rintro⟨j,m,h1,h2,h3⟩
  exact⟨j,m,by rw[List.getElem?_append_left (List.getElem?_eq_some_iff.1 h1).1];exact h1,h2,h3⟩
section net
variable {places shards n:Nat} {x:Net}
theorem NetIn.upd (h:NetIn places shards x n) {f:Nat} (hf:f<places) {p:PlT} {K':List ComT} {X:Nat→Nat→List MsgT} (hp:PlIn p (n+1)) (hid:p.id=f∧p.places=places∧p.shards=shards) (hclk:(K'.length:Int)=p.clock)
  (hcom:∀(j:Nat) C,K'[j]?=some C→C.place=f∧C.when.getD f 0=j+1∧(comFault C).code=0∧C.when.length=places)
  (hmsg:∀t<places,t≠f→∀sh<shards,Strm K' shards f t sh (x.H f t sh++X t sh)) (hsnd:∀s∈p.ss,SndOk s (x.H f s.to.toNat s.sh.toNat++X s.to.toNat s.sh.toNat)) (hrs:p.rs=(x.P f).rs)
  (hL:∀q,q∈p.L↔OwnQ K' q∨∃r∈(x.P f).rs,ComeQ (x.H r.fm.toNat f r.sh.toNat) r.q q) (hn:(p.L.map dotP).Nodup) (hbase:p.base=(x.P f).base) (hck:(x.P f).clock≤p.clock) :
  NetIn places shards (x.upd f p K' X) (n+1):=by
 obtain⟨i1,i2,i3⟩:=h.pid f hf
 have hsn:inL (snapL (x.P f)) (snapL p)=true:=by
  refine snapL_le (by rw[hid.2.1,i2]) fun k hk=>?_
  unfold snapT
  rw[hid.1,i1,hrs]
  split
  ·exact hck
  ·exact Int.le_refl _
 refine⟨fun i hi=>?_,fun i hi=>?_,fun i hi=>?_,fun i hi=>?_,fun a ha t ht hne sh hs=>?_,fun i hi s hs=>?_,fun i hi r hr=>?_,fun i hi q=>?_,fun i hi=>?_,fun i hi u hu=>?_⟩
 ·by_cases hif:i=f
  ·subst hif
   rw[updP_at]
   exact hp
  ·rw[updP_ne hif]
   exact(h.pin i hi).mono (by omega)
 ·by_cases hif:i=f
  ·subst hif
   rw[updP_at]
   exact hid
  ·rw[updP_ne hif]
   exact h.pid i hi
 ·by_cases hif:i=f
  ·subst hif
   rw[updP_at,updK_at]
   exact hclk
  ·rw[updP_ne hif,updK_ne hif]
   exact h.clk i hi
 ·by_cases hif:i=f
  ·subst hif
   rw[updK_at]
   exact hcom
  ·rw[updK_ne hif]
   exact h.com i hi
 ·by_cases hif:a=f
  ·subst hif
   rw[updK_at,updH_at]
   exact hmsg t ht hne sh hs
  ·rw[updK_ne hif,updH_ne hif]
   exact h.msg a ha t ht hne sh hs
 ·by_cases hif:i=f
  ·subst hif
   rw[updP_at]at hs
   rw[updH_at]
   exact hsnd s hs
  ·rw[updP_ne hif]at hs
   rw[updH_ne hif]
   exact h.snd i hi s hs
 ·have hr0:r∈(x.P i).rs:=by
   by_cases hif:i=f
   ·subst hif
    rw[updP_at,hrs]at hr
    exact hr
   ·rwa[updP_ne hif]at hr
  have h1:=h.rcv i hi r hr0
  have h2:=((h.pin i hi).rcv r hr0).1
  by_cases hrf:r.fm.toNat=f
  ·rw[hrf]at h1 ⊢
   rw[updH_at]
   exact h1.app h2
  ·rw[updH_ne hrf]
   exact h1
 ·by_cases hif:i=f
  ·subst hif
   rw[updP_at,updK_at,hL,hrs]
   have:∀r∈(x.P i).rs,(x.upd i p K' X).H r.fm.toNat i r.sh.toNat=x.H r.fm.toNat i r.sh.toNat:=fun r hr=>updH_ne (h.pair hi hr).2.1
   constructor
   ·rintro(h1|⟨r,hr,h1⟩)
    ·exact .inl h1
    ·exact .inr ⟨r,hr,by rw[this r hr];exact h1⟩
   ·rintro(h1|⟨r,hr,h1⟩)
    ·exact .inl h1
    ·exact .inr ⟨r,hr,by rw[this r hr]at h1;exact h1⟩
  ·rw[updP_ne hif,updK_ne hif,h.L i hi q]
   have:∀r∈(x.P i).rs,(ComeQ ((x.upd f p K' X).H r.fm.toNat i r.sh.toNat) r.q q↔ComeQ (x.H r.fm.toNat i r.sh.toNat) r.q q):=fun r hr=>by
    by_cases hrf:r.fm.toNat=f
    ·have h1:=(h.rcv i hi r hr).q
     rw[hrf]at h1 ⊢
     rw[updH_at]
     exact ComeQ_app h1
    ·rw[updH_ne hrf]
   constructor
   ·rintro(h1|⟨r,hr,h1⟩)
    ·exact .inl h1
    ·exact .inr ⟨r,hr,(this r hr).2 h1⟩
   ·rintro(h1|⟨r,hr,h1⟩)
    ·exact .inl h1
    ·exact .inr ⟨r,hr,(this r hr).1 h1⟩
 ·by_cases hif:i=f
  ·subst hif
   rw[updP_at]
   exact hn
  ·rw[updP_ne hif]
   exact h.nodup i hi
 ·have hb:((x.upd f p K' X).P i).base=(x.P i).base:=by
   by_cases hif:i=f
   ·subst hif
    rw[updP_at]
    exact hbase
   ·rw[updP_ne hif]
  rw[hb]
  by_cases huf:u=f
  ·subst huf
   rw[updP_at]
   have hbl:=(h.pin i hi).basel
   have hpi:=(h.pid i hi).2.1
   exact inL_trans (h.base i hi u hu) hsn (by rw[snapL,List.length_map,List.length_range];omega)
  ·rw[updP_ne huf]
   exact h.base i hi u hu
theorem Strm.more {K:List ComT} {f t sh:Nat} {l:List MsgT} (h:Strm K shards f t sh l) (C:ComT) (hC:(partC shards C sh).ops=[]):Strm (K++[C]) shards f t sh l:=by
 refine⟨fun j m hm=>?_,h.inc,fun D hD hne=>?_⟩
 ·obtain⟨h1,h2,h3,h4,h5,h6,h7⟩:=h.at' j m hm
  refine⟨h1,h2,h3,h4,h5,by simp;omega,h7.imp id fun⟨h8,D,hD,h9⟩=>⟨h8,D,List.mem_append.2 (.inl hD),h9⟩⟩
 ·rcases List.mem_append.1 hD with hD|hD
  ·exact h.all D hD hne
  ·obtain rfl:=List.mem_singleton.1 hD
   exact absurd hC hne
theorem Strm.com {K:List ComT} {f t sh:Nat} {l:List MsgT} (h:Strm K shards f t sh l) {C:ComT} (hC:(partC shards C sh).ops≠[]) (hw:C.when.getD f 0=K.length+1):Strm (K++[C]) shards f t sh (l++[⟨f,t,sh,l.length+1,C.when.getD f 0,false,partC shards C sh⟩]):=by
 refine⟨fun j m hm=>?_,?_,fun D hD hne=>?_⟩
 ·rcases Nat.lt_or_ge j l.length with hj|hj
  ·rw[List.getElem?_append_left hj]at hm
   obtain⟨h1,h2,h3,h4,h5,h6,h7⟩:=h.at' j m hm
   exact⟨h1,h2,h3,h4,h5,by simp;omega,h7.imp id fun⟨h8,D,hD,h9⟩=>⟨h8,D,List.mem_append.2 (.inl hD),h9⟩⟩
  ·have hjl:=(List.getElem?_eq_some_iff.1 hm).1
   simp at hjl
   have:j=l.length:=by omega
   subst this
   simp at hm
   subst hm
   refine⟨rfl,rfl,rfl,rfl,?_,?_,.inr ⟨rfl,C,by simp,rfl,hC,rfl⟩⟩
   ·show 0≤C.when.getD f 0
    omega
   ·have h8:((K++[C]).length:Int)=K.length+1:=by simp
    show C.when.getD f 0≤((K++[C]).length:Int)
    omega
 ·rw[List.pairwise_append]
  refine⟨h.inc,by simp,fun a ha b hb=>?_⟩
  obtain rfl:=List.mem_singleton.1 hb
  obtain⟨j,hj⟩:=List.getElem?_of_mem ha
  obtain⟨_,_,_,_,_,h6,_⟩:=h.at' j a hj
  exact⟨by show a.time≤C.when.getD f 0;omega,fun _=>by show a.time<C.when.getD f 0;omega⟩
 ·rcases List.mem_append.1 hD with hD|hD
  ·obtain⟨m,hm,h1⟩:=h.all D hD hne
   exact⟨m,List.mem_append.2 (.inl hm),h1⟩
  ·obtain rfl:=List.mem_singleton.1 hD
   exact⟨_,List.mem_append.2 (.inr (List.mem_singleton.2 rfl)),rfl,rfl,rfl⟩
theorem Strm.beat {K:List ComT} {f t sh:Nat} {l:List MsgT} (h:Strm K shards f t sh l):Strm K shards f t sh (l++[⟨f,t,sh,l.length+1,K.length,true,⟨[],0,[]⟩⟩]):=by
 refine⟨fun j m hm=>?_,?_,fun D hD hne=>?_⟩
 ·rcases Nat.lt_or_ge j l.length with hj|hj
  ·rw[List.getElem?_append_left hj]at hm
   exact h.at' j m hm
  ·have hjl:=(List.getElem?_eq_some_iff.1 hm).1
   simp at hjl
   have:j=l.length:=by omega
   subst this
   simp at hm
   subst hm
   exact⟨rfl,rfl,rfl,rfl,by show(0:Int)≤K.length;omega,Int.le_refl _,.inl ⟨rfl,rfl⟩⟩
 ·rw[List.pairwise_append]
  refine⟨h.inc,by simp,fun a ha b hb=>?_⟩
  obtain rfl:=List.mem_singleton.1 hb
  obtain⟨j,hj⟩:=List.getElem?_of_mem ha
  obtain⟨_,_,_,_,_,h6,_⟩:=h.at' j a hj
  exact⟨h6,fun h=>by cases h⟩
 ·obtain⟨m,hm,h1⟩:=h.all D hD hne
  exact⟨m,List.mem_append.2 (.inl hm),h1⟩
def comX (x:Net) (shards f:Nat) (C:ComT) (t sh:Nat):List MsgT:=if (partC shards C sh).ops=[]then []else [⟨f,t,sh,(x.H f t sh).length+1,C.when.getD f 0,false,partC shards C sh⟩]
def netCom (x:Net) (shards f:Nat) (C:ComT):Net:=x.upd f (comPl (x.P f) C) (x.K f++[C]) (comX x shards f C)
def beatX (x:Net) (f:Nat) (t sh:Nat):List MsgT:=[⟨f,t,sh,(x.H f t sh).length+1,(x.K f).length,true,⟨[],0,[]⟩⟩]
def netBeat (x:Net) (f:Nat):Net:=x.upd f (beatPl (x.P f)) (x.K f) (beatX x f)
theorem NetIn.pairS (h:NetIn places shards x n) {f:Nat} (hf:f<places) {s:SndT} (hs:s∈(x.P f).ss):s.to.toNat<places∧s.to.toNat≠f∧s.sh.toNat<shards:=by
 obtain⟨h1,h2,h3⟩:=h.pid f hf
 have hp:=(h.pin f hf).ss
 rw[h1,h2,h3]at hp
 have hm:PlT.pair s∈pairsP f shards places:=by rw[←hp];exact List.mem_map_of_mem hs
 obtain⟨rows,hrow,hm⟩:=List.mem_flatten.1 hm
 obtain⟨k,hk,rfl⟩:=List.mem_map.1 hrow
 unfold rowP at hm
 split at hm
 ·cases hm
 ·rename_i hkt
  obtain⟨i,hi,he⟩:=List.mem_map.1 hm
  obtain⟨e1,e2⟩:=Prod.mk.inj he
  rw[←e1,←e2]
  exact⟨List.mem_range.1 hk,hkt,List.mem_range.1 hi⟩
theorem NetIn.com_ok (h:NetIn places shards x n) {f:Nat} (hf:f<places) {at':List Int} {ops:List OpT} (hc:(comErr (x.P f) at' ops).code=0) (hd:∀o∈ops,o.dots.length≤1000000):NetIn places shards (netCom x shards f (comP (x.P f) at' ops)) (n+1):=by
 obtain⟨i1,i2,i3⟩:=h.pid f hf
 obtain⟨e1,e2,e3⟩:=comErr_ok hc
 obtain⟨_,e4,_⟩:=known_len e1
 have hcp:=comP_put (h.pin f hf) hc
 have hw:=comP_when (x:=x.P f) (ops:=ops) (show(x.P f).id<at'.length by omega)
 rw[i1]at hw
 have hck:=h.clk f hf
 have hw2:(comP (x.P f) at' ops).when.getD f 0=(x.K f).length+1:=by omega
 have hpl:(comP (x.P f) at' ops).place=f:=by
  show(((x.P f).id:Nat):Int)=f
  omega
 refine h.upd hf (com_in (h.pin f hf) hc hd) ⟨i1,i2,i3⟩ ?_ (fun j C hC=>?_) (fun t ht hne sh hs=>?_) (fun s hs=>?_) rfl (fun q=>?_) (hcp.nodup (h.nodup f hf)) rfl ?_
 ·show((x.K f++[comP (x.P f) at' ops]).length:Int)=(x.P f).clock+1
  simp
  omega
 ·rcases Nat.lt_or_ge j (x.K f).length with hj|hj
  ·rw[List.getElem?_append_left hj]at hC
   exact h.com f hf j C hC
  ·have hjl:=(List.getElem?_eq_some_iff.1 hC).1
   simp at hjl
   have:j=(x.K f).length:=by omega
   subst this
   simp at hC
   subst hC
   exact⟨hpl,hw2,e3,by simp[comP,e4,i2]⟩
 ·unfold comX
  split
  ·rename_i h0
   rw[List.append_nil]
   exact(h.msg f hf t ht hne sh hs).more _ h0
  ·rename_i h0
   exact(h.msg f hf t ht hne sh hs).com h0 hw2
 ·obtain⟨y,hy,rfl⟩:=List.mem_map.1 hs
  have hso:=h.snd f hf y hy
  obtain⟨p1,p2,p3⟩:=h.pairS hf hy
  obtain⟨w1,w2⟩:=(h.pin f hf).way y hy
  have hsh:((y.sh.toNat:Nat):Int)=y.sh:=Int.toNat_of_nonneg w2
  have hto:((y.to.toNat:Nat):Int)=y.to:=Int.toNat_of_nonneg w1
  unfold sndC
  rw[i3]
  split
  ·rename_i h0
   rw[comX,if_pos (by rw[hsh];exact h0),List.append_nil]
   exact hso
  ·rename_i h0
   have e:comX x shards f (comP (x.P f) at' ops) (SndT.com y (partC shards (comP (x.P f) at' ops) y.sh)).to.toNat (SndT.com y (partC shards (comP (x.P f) at' ops) y.sh)).sh.toNat=[SndT.msg y (partC shards (comP (x.P f) at' ops) y.sh)]:=by
    show comX x shards f (comP (x.P f) at' ops) y.to.toNat y.sh.toNat=_
    rw[comX,if_neg (by rw[hsh];exact h0),hsh,hto,SndT.msg,hso.q]
    have h1:(partC shards (comP (x.P f) at' ops) y.sh).when.getD (partC shards (comP (x.P f) at' ops) y.sh).place.toNat 0=(comP (x.P f) at' ops).when.getD f 0:=by
     show(comP (x.P f) at' ops).when.getD (comP (x.P f) at' ops).place.toNat 0=_
     rw[hpl,Int.toNat_natCast]
    have h2:=((h.pin f hf).snd y hy).1
    rw[h1,h2,i1]
   rw[e]
   obtain⟨a,ha,hl⟩:=hso.l
   show SndOk _ (x.H f y.to.toNat y.sh.toNat++_)
   refine⟨?_,?_,a,by simp;omega,?_⟩
   ·show y.q+1=_
    rw[hso.q]
    simp
   ·rw[timeAt_last]
    rfl
   ·show y.l++_=_
    rw[hl,List.drop_append_of_le_length ha]
 ·show q∈(x.P f).L++putsOf _ _↔_
  rw[List.mem_append,h.L f hf q]
  constructor
  ·rintro((⟨C,hC,h1⟩|h1)|h1)
   ·exact .inl ⟨C,List.mem_append.2 (.inl hC),h1⟩
   ·exact .inr h1
   ·obtain⟨o,ho,rfl⟩:=List.mem_map.1 h1
    exact .inl ⟨_,List.mem_append.2 (.inr (List.mem_singleton.2 rfl)),o,ho,rfl⟩
  ·rintro(⟨C,hC,o,ho,rfl⟩|h1)
   ·rcases List.mem_append.1 hC with hC|hC
    ·exact .inl (.inl ⟨C,hC,o,ho,rfl⟩)
    ·obtain rfl:=List.mem_singleton.1 hC
     exact .inr (List.mem_map_of_mem ho)
   ·exact .inl (.inr h1)
 ·show(x.P f).clock≤(x.P f).clock+1
  omega
theorem NetIn.beat_ok (h:NetIn places shards x n) {f:Nat} (hf:f<places):NetIn places shards (netBeat x f) (n+1):=by
 obtain⟨i1,i2,i3⟩:=h.pid f hf
 have hck:=h.clk f hf
 refine h.upd hf (beat_in (h.pin f hf)) ⟨i1,i2,i3⟩ hck (h.com f hf) (fun t ht hne sh hs=>(h.msg f hf t ht hne sh hs).beat) (fun s hs=>?_) rfl (h.L f hf) (h.nodup f hf) rfl (Int.le_refl _)
 obtain⟨y,hy,rfl⟩:=List.mem_map.1 hs
 have hso:=h.snd f hf y hy
 obtain⟨w1,w2⟩:=(h.pin f hf).way y hy
 have hsh:((y.sh.toNat:Nat):Int)=y.sh:=Int.toNat_of_nonneg w2
 have hto:((y.to.toNat:Nat):Int)=y.to:=Int.toNat_of_nonneg w1
 have e:beatX x f (SndT.beat y (x.P f).clock).to.toNat (SndT.beat y (x.P f).clock).sh.toNat=[SndT.beatM y (x.P f).clock]:=by
  show beatX x f y.to.toNat y.sh.toNat=_
  have h2:=((h.pin f hf).snd y hy).1
  rw[beatX,SndT.beatM,hsh,hto,hso.q,h2,i1,hck]
 rw[e]
 obtain⟨a,ha,hl⟩:=hso.l
 show SndOk _ (x.H f y.to.toNat y.sh.toNat++_)
 refine⟨?_,?_,a,by simp;omega,?_⟩
 ·show y.q+1=_
  rw[hso.q]
  simp
 ·rw[timeAt_last]
  rfl
 ·show y.l++_=_
  rw[hl,List.drop_append_of_le_length ha]
end net
end Go.Proofs.YtmkapocibaojdaaGreatDoor
end
section
namespace Go.Sx
open Go
theorem drain_closed:∀(n:Nat) (L:List MsgT) (q t:Int),L.length<n→kept (drain n L q t).2.1 ((drain n L q t).2.2.1+1)=none
 | 0,L,q,t,h=>by omega
 | n+1,L,q,t,h=>by
  unfold drain
  cases hk:kept L (q+1)with
  | none=>exact hk
  | some m=>exact drain_closed n (dropK L (q+1)) (q+1) m.time (by have:=dropK_len hk;omega)
theorem dropK_part {L:List MsgT} {k:Int} {m z:MsgT} (h:kept L k=some m) (hz:z∈L):z=m∨z∈dropK L k:=by
 by_cases hs:z.seq=k
 ·have:=List.find?_eq_some_iff_append.1 h
  obtain⟨_,us,bs,rfl,has⟩:=this
  have hd:dropK (us++m::bs) k=us++bs:=by
   unfold dropK
   rw[List.eraseP_append_right _ (fun x hx=>by simpa using has x hx)]
   rw[List.eraseP_cons_of_pos]
   simpa using kept_seq h
  rw[hd]
  rcases List.mem_append.1 hz with hz|hz
  ·exact .inr (List.mem_append.2 (.inl hz))
  ·rcases List.mem_cons.1 hz with hz|hz
   ·exact .inl hz
   ·exact .inr (List.mem_append.2 (.inr hz))
 ·refine .inr ?_
  unfold dropK
  exact(List.mem_eraseP_of_neg (by simpa using hs)).2 hz
theorem drain_part:∀(n:Nat) (L:List MsgT) (q t:Int),∀z∈L,z∈(drain n L q t).1∨z∈(drain n L q t).2.1
 | 0,L,q,t=>fun z hz=>.inr hz
 | n+1,L,q,t=>fun z hz=>by
  unfold drain
  cases hk:kept L (q+1)with
  | none=>exact .inr hz
  | some m=>
   rcases dropK_part hk hz with rfl|hz
   ·exact .inl (List.mem_cons_self ..)
   ·rcases drain_part n (dropK L (q+1)) (q+1) m.time z hz with h|h
    ·exact .inl (List.mem_cons_of_mem _ h)
    ·exact .inr h
end Go.Sx
namespace Go.Proofs.YtmkapocibaojdaaGreatDoor
open Go Go.Sx
def Closed (y:RcvT):Prop:=∀z∈y.l,z.seq≠y.q+1
def Has (y:RcvT) (H:List MsgT) (i:Nat):Prop:=(i:Int)<y.q∨∃z∈y.l,H[i]?=some z
section strm
variable {K:List ComT} {shards f t sh:Nat} {H:List MsgT}
theorem hear_has (hs:Strm K shards f t sh H) {y:RcvT} {m:MsgT} {j:Nat} (hr:RcvOk y H) (h1:y.fm=f) (h2:y.to=t) (h3:y.sh=sh) (hd:Dist y.l) (hq:0≤y.q) (hm:H[j]?=some m) (hK:(K.length:Int)≤1099511627776) (hc:Closed y) :
  Closed (RcvT.heard y m)∧(∀i,Has y H i→Has (RcvT.heard y m) H i)∧((RcvT.hear y m).1=0→Has (RcvT.heard y m) H j):=by
 obtain⟨m1,m2,m3,m4,m5,m6,_⟩:=hs.at' j m hm
 have c1:¬(m.fm≠y.fm∨m.to≠y.to∨m.shard≠y.sh):=by omega
 have c2:¬(m.seq<1∨m.time<0∨1099511627776<m.time):=by omega
 by_cases c3:m.seq≤y.q
 ·have e:RcvT.heard y m=y:=by simp[RcvT.heard,RcvT.hear,hearT,if_neg c1,if_neg c2,if_pos c3]
  rw[e]
  exact⟨hc,fun _ h=>h,fun _=>.inl (by omega)⟩
 by_cases c4:201<m.seq - y.q
 ·have e0:RcvT.hear y m=(7,[],⟨y.l,y.q,y.t⟩):=by rw[RcvT.hear,hearT,if_neg c1,if_neg c2,if_neg c3,if_pos c4]
  have e:RcvT.heard y m=y:=by simp[RcvT.heard,e0]
  rw[e,e0]
  exact⟨hc,fun _ h=>h,fun h=>by cases h⟩
 have key:∀L1:List MsgT,RcvT.hear y m=(0,(drainAll L1 y.q y.t).1,⟨(drainAll L1 y.q y.t).2.1,(drainAll L1 y.q y.t).2.2.1,(drainAll L1 y.q y.t).2.2.2⟩)→Dist L1→(∀z∈L1,∃i:Nat,H[i]?=some z∧y.q≤i)→(∀z∈y.l,z∈L1)→(∃z∈L1,H[j]?=some z)→Closed (RcvT.heard y m)∧(∀i,Has y H i→Has (RcvT.heard y m) H i)∧((RcvT.hear y m).1=0→Has (RcvT.heard y m) H j):=fun L1 h hd1 hL1 hyl hmm=>by
  have hqn:((y.q.toNat:Nat):Int)=y.q:=Int.toNat_of_nonneg hq
  obtain⟨d1,_,_,d4⟩:=drain_list (L1.length+1) L1 y.q.toNat y.t hd1 fun z hz=>by
   obtain⟨i,hi,hqi⟩:=hL1 z hz
   exact⟨i,hi,by omega,(hs.at' i z hi).2.2.2.1⟩
  rw[hqn]at d1 d4
  have dq:=drain_q (L1.length+1) L1 y.q y.t
  have dc:=drain_closed (L1.length+1) L1 y.q y.t (Nat.lt_succ_self _)
  have hin:∀(i:Nat) z,z∈L1→H[i]?=some z→Has (RcvT.heard y m) H i:=fun i z hz hi=>by
   unfold Has
   simp only[RcvT.heard,h,drainAll]
   rcases drain_part (L1.length+1) L1 y.q y.t z hz with h5|h5
   ·rw[d1]at h5
    obtain⟨k,k1,k2,k3⟩:=mem_window.1 h5
    have e1:=(hs.at' i z hi).2.2.2.1
    have e2:=(hs.at' k z k3).2.2.2.1
    left
    omega
   ·exact .inr ⟨z,h5,hi⟩
  refine⟨fun z hz=>?_,fun i hi=>?_,fun _=>?_⟩
  ·simp only[RcvT.heard,h,drainAll]at hz ⊢
   exact kept_none.1 dc z hz
  ·rcases hi with hi|⟨z,hz,hi⟩
   ·left
    simp only[RcvT.heard,h,drainAll]
    omega
   ·exact hin i z (hyl z hz) hi
  ·obtain⟨z,hz,hi⟩:=hmm
   exact hin j z hz hi
 cases hk:kept y.l m.seq with
 | none=>
  refine key (y.l++[m]) (by rw[RcvT.hear,hearT,if_neg c1,if_neg c2,if_neg c3,if_neg c4];simp only[hk]) (hd.app hk) (fun z hz=>?_) (fun z hz=>List.mem_append.2 (.inl hz)) ⟨m,by simp,hm⟩
  rcases List.mem_append.1 hz with hz|hz
  ·exact hr.l z hz
  ·obtain rfl:=List.mem_singleton.1 hz
   exact⟨j,hm,by omega⟩
 | some z=>
  refine key y.l (by rw[RcvT.hear,hearT,if_neg c1,if_neg c2,if_neg c3,if_neg c4];simp only[hk]) hd (fun z hz=>hr.l z hz) (fun z hz=>hz) ⟨z,kept_mem hk,?_⟩
  obtain⟨i,hi,_⟩:=hr.l z (kept_mem hk)
  have e1:=(hs.at' i z hi).2.2.2.1
  have e2:=kept_seq hk
  have:i=j:=by omega
  rw[←this]
  exact hi
theorem has_all {y:RcvT} (hr:RcvOk y H) (hq:0≤y.q) (hs:Strm K shards f t sh H) (hc:Closed y) (ha:∀i<H.length,Has y H i):y.q=H.length∧y.t=timeAt H H.length:=by
 have h1:=hr.q
 have h2:y.q=H.length:=by
  apply Int.le_antisymm h1
  apply Int.le_of_not_gt
  intro hlt
  rcases ha y.q.toNat (by omega)with h|⟨z,hz,hi⟩
  ·omega
  ·have:=(hs.at' _ z hi).2.2.2.1
   exact hc z hz (by omega)
 refine⟨h2,?_⟩
 rw[hr.t,h2,Int.toNat_natCast]
end strm
section net
variable {places shards n:Nat} {x:Net}
def ClosedN (places:Nat) (x:Net):Prop:=∀u<places,∀r∈(x.P u).rs,Closed r
def Got (x:Net) (f t sh i:Nat):Prop:=∃r∈(x.P t).rs,r.fm.toNat=f∧r.sh.toNat=sh∧Has r (x.H f t sh) i
theorem NetIn.hear_got (h:NetIn places shards x n) (hcl:ClosedN places x) {t f sh j:Nat} {m:MsgT} (ht:t<places) (hf:f<places) (hne:f≠t) (hs:sh<shards) (hm:(x.H f t sh)[j]?=some m) :
  ClosedN places (x.setP t (hearPl (x.P t) m).2.2)∧(∀a b c i,Got x a b c i→Got (x.setP t (hearPl (x.P t) m).2.2) a b c i)∧((hearPl (x.P t) m).1=0→Got (x.setP t (hearPl (x.P t) m).2.2) f t sh j):=by
 obtain⟨i1,i2,i3⟩:=h.pid t ht
 have hst:=h.msg f hf t ht (Ne.symm hne) sh hs
 obtain⟨m1,m2,m3,m4,m5,m6,_⟩:=hst.at' j m hm
 obtain⟨y,hy,y1,y2,y3⟩:=h.recvAt ht hf hne hs
 have hmem:=List.mem_of_getElem? hy
 have hyl:=(List.getElem?_eq_some_iff.1 hy).1
 have hway:hearWay (x.P t) m=0:=by rw[hearWay,i1,i2,i3,if_neg (by omega),if_neg (by omega)]
 have hpos:posM (x.P t) m=posP t shards f+sh:=by rw[posM,i1,i3,m1,m3,Int.toNat_natCast,Int.toNat_natCast]
 have hrc:=h.rcv t ht y hmem
 rw[y1,y2,Int.toNat_natCast,Int.toNat_natCast]at hrc
 obtain⟨r1,r2,r3⟩:=(h.pin t ht).rcv y hmem
 have hK:((x.K f).length:Int)≤1099511627776:=by
  rw[h.clk f hf]
  exact(h.pin f hf).c1
 obtain⟨g1,g2,g3⟩:=hear_has hst hrc y1 y3 y2 r3 r1 hm hK (hcl t ht y hmem)
 have hE:hearPl (x.P t) m=if (RcvT.hear y m).1≠0 then ((RcvT.hear y m).1,[],x.P t)else (0,[ackM (x.P t) m (RcvT.heard y m).q],{ x.P t with rs:=(x.P t).rs.set (posP t shards f+sh) (RcvT.heard y m),L:=putMs (x.P t).places (x.P t).base m.fm (x.P t).L (RcvT.hear y m).2.1 }):=by
  rw[hearPl,if_neg (by simp[hway]),if_neg (by omega),hpos,hy]
 rw[hE]
 by_cases hc:(RcvT.hear y m).1≠0
 ·rw[if_pos hc]
  simp only[setP_self]
  exact⟨hcl,fun _ _ _ _ h=>h,fun h=>absurd h hc⟩
 rw[if_neg hc]
 have hyn:RcvT.heard y m∈(x.P t).rs.set (posP t shards f+sh) (RcvT.heard y m):=List.mem_of_getElem? (List.getElem?_set_self hyl)
 refine⟨fun u hu r hr=>?_,fun a b c i ⟨r,hr,ha,hb,hh⟩=>?_,fun _=>?_⟩
 ·by_cases hut:u=t
  ·subst hut
   rw[setP_at]at hr
   rcases set_mem hr with hr|rfl
   ·exact hcl u hu r hr
   ·exact g1
  ·rw[setP_ne _ _ hut]at hr
   exact hcl u hu r hr
 ·by_cases hbt:b=t
  ·subst hbt
   unfold Got
   rw[setP_at]
   obtain⟨k,hk⟩:=List.getElem?_of_mem hr
   by_cases hkp:posP b shards f+sh=k
   ·rw[←hkp,hy]at hk
    obtain rfl:=Option.some.inj hk
    rw[y1,Int.toNat_natCast]at ha
    rw[y2,Int.toNat_natCast]at hb
    subst ha hb
    exact⟨_,hyn,by rw[show(RcvT.heard y m).fm=y.fm from rfl,y1,Int.toNat_natCast],by rw[show(RcvT.heard y m).sh=y.sh from rfl,y2,Int.toNat_natCast],g2 i hh⟩
   ·exact⟨r,List.mem_of_getElem? (i:=k) (by rw[List.getElem?_set_ne hkp];exact hk),ha,hb,hh⟩
  ·unfold Got
   rw[setP_ne _ _ hbt]
   exact⟨r,hr,ha,hb,hh⟩
 ·unfold Got
  rw[setP_at]
  exact⟨_,hyn,by rw[show(RcvT.heard y m).fm=y.fm from rfl,y1,Int.toNat_natCast],by rw[show(RcvT.heard y m).sh=y.sh from rfl,y2,Int.toNat_natCast],g3 (by simpa using hc)⟩
theorem NetIn.got_all (h:NetIn places shards x n) (hcl:ClosedN places x) {t f:Nat} (ht:t<places) (hf:f<places) (hne:f≠t) (hg:∀sh<shards,∀i<(x.H f t sh).length,Got x f t sh i) {T:Int} (hT:∀sh<shards,timeAt (x.H f t sh) (x.H f t sh).length=T):snapT (x.P t) f=T:=by
 obtain⟨i1,i2,i3⟩:=h.pid t ht
 have hs1:=(h.pin t ht).s1
 rw[i3]at hs1
 have hall:∀r∈(x.P t).rs,r.fm.toNat=f→r.t=T:=fun r hr hrf=>by
  obtain⟨p1,p2,p3⟩:=h.pair ht hr
  have hrc:=h.rcv t ht r hr
  rw[hrf]at hrc
  rw[←hT _ p3]
  refine(has_all hrc ((h.pin t ht).rcv r hr).1 (h.msg f hf t ht (Ne.symm hne) _ p3) (hcl t ht r hr) fun i hi=>?_).2
  obtain⟨r2,hr2,ha,hb,hh⟩:=hg _ p3 i hi
  have:r2=r:=h.recv_uniq ht hr2 hr (by rw[PlT.pairR,PlT.pairR,ha,hb,hrf])
  rw[←this]
  rw[←this]at hh
  exact hh
 rw[snapT,if_neg (by rw[i1];exact hne)]
 obtain⟨r,hr,hrf,_⟩:=h.recv ht hf hne (show 0<shards by omega)
 have hne2:((x.P t).rs.filter fun r=>decide (r.fm.toNat=f)).map (·.t)≠[]:=by
  intro h0
  rw[List.map_eq_nil_iff,List.filter_eq_nil_iff]at h0
  exact h0 r hr (by simp[hrf])
 obtain⟨z,hz,hzt⟩:=List.mem_map.1 (minT_mem hne2)
 obtain⟨hz1,hz2⟩:=List.mem_filter.1 hz
 rw[←hzt]
 exact hall z hz1 (of_decide_eq_true hz2)
end net
end Go.Proofs.YtmkapocibaojdaaGreatDoor
end
section
namespace Go.Proofs.YtmkapocibaojdaaGreatDoor
open Go Go.Sx
def newNet (places shards:Nat):Net:=⟨fun i=>newP i places shards,fun _ _ _=>[],fun _=>[]⟩
section
variable {places shards n:Nat} {x:Net}
theorem new_ss {id:Nat} {s:SndT} (hs:s∈(newP id places shards).ss):∃a b:Nat,s=⟨id,a,b,0,0,[]⟩:=by
 obtain⟨q,_,rfl⟩:=List.mem_map.1 hs
 exact⟨_,_,rfl⟩
theorem new_rs {id:Nat} {s:RcvT} (hs:s∈(newP id places shards).rs):∃a b:Nat,s=⟨a,id,b,0,0,[]⟩:=by
 obtain⟨q,_,rfl⟩:=List.mem_map.1 hs
 exact⟨_,_,rfl⟩
theorem net_new (hp1:1≤places) (hp6:places≤6) (hs1:1≤shards) (hs6:shards≤6):NetIn places shards (newNet places shards) 0 where
 pin i hi:=newP_in 0 hp1 hp6 hs1 hs6 hi
 pid i _:=⟨rfl,rfl,rfl⟩
 clk i _:=rfl
 com i _ j C h:=by simp[newNet]at h
 msg f _ t _ _ sh _:=⟨fun j m h=>by simp[newNet]at h,List.Pairwise.nil,fun C h=>by simp[newNet]at h⟩
 snd f _ s hs:=by
  obtain⟨a,b,rfl⟩:=new_ss hs
  exact⟨rfl,rfl,0,Nat.le_refl _,rfl⟩
 rcv t _ r hr:=by
  obtain⟨a,b,rfl⟩:=new_rs hr
  exact⟨Int.le_refl _,rfl,fun m h=>by cases h⟩
 L t _ q:=by
  constructor
  ·intro h
   cases h
  ·rintro(⟨C,hC,_⟩|⟨r,_,j,m,h,_⟩)
   ·cases hC
   ·simp[newNet]at h
 nodup t _:=List.nodup_nil
 base t ht u hu:=by
  refine inL_true (by simp[newNet,newP,snapL]) fun j a b ha hb=>?_
  have h1:a=0:=by
   have:=List.mem_of_getElem? ha
   exact List.eq_of_mem_replicate this
  have h2:=List.mem_of_getElem? hb
  obtain⟨k,hk,rfl⟩:=List.mem_map.1 h2
  have:=(snapT_in (newP_in 0 hp1 hp6 hs1 hs6 hu).toPlOk (List.mem_range.1 hk)).1
  rw[h1]
  exact this
theorem closed_new:ClosedN places (newNet places shards):=fun u _ r hr=>by
 obtain⟨a,b,rfl⟩:=new_rs hr
 intro z hz
 cases hz
theorem ClosedN.upd {f:Nat} {p:PlT} {K':List ComT} {X:Nat→Nat→List MsgT} (h:ClosedN places x) (hp:p.rs=(x.P f).rs):ClosedN places (x.upd f p K' X):=fun u hu r hr=>by
 by_cases huf:u=f
 ·subst huf
  rw[updP_at,hp]at hr
  exact h u hu r hr
 ·rw[updP_ne huf]at hr
  exact h u hu r hr
theorem NetIn.comX_at (h:NetIn places shards x n) {f:Nat} (hf:f<places) {C:ComT} (hC:C.place=f) {y:SndT} (hy:y∈(x.P f).ss):comX x shards f C y.to.toNat y.sh.toNat=msgC shards C y:=by
 have hso:=h.snd f hf y hy
 obtain⟨w1,w2⟩:=(h.pin f hf).way y hy
 have hsh:((y.sh.toNat:Nat):Int)=y.sh:=Int.toNat_of_nonneg w2
 have hto:((y.to.toNat:Nat):Int)=y.to:=Int.toNat_of_nonneg w1
 obtain⟨i1,i2,i3⟩:=h.pid f hf
 unfold comX msgC
 rw[hsh]
 split
 ·rfl
 ·have h1:(partC shards C y.sh).when.getD (partC shards C y.sh).place.toNat 0=C.when.getD f 0:=by
   show C.when.getD C.place.toNat 0=_
   rw[hC,Int.toNat_natCast]
  have h2:=((h.pin f hf).snd y hy).1
  rw[hto,SndT.msg,hso.q,h1,h2,i1]
theorem NetIn.beatX_at (h:NetIn places shards x n) {f:Nat} (hf:f<places) {y:SndT} (hy:y∈(x.P f).ss):beatX x f y.to.toNat y.sh.toNat=[SndT.beatM y (x.P f).clock]:=by
 have hso:=h.snd f hf y hy
 obtain⟨w1,w2⟩:=(h.pin f hf).way y hy
 have hsh:((y.sh.toNat:Nat):Int)=y.sh:=Int.toNat_of_nonneg w2
 have hto:((y.to.toNat:Nat):Int)=y.to:=Int.toNat_of_nonneg w1
 have h2:=((h.pin f hf).snd y hy).1
 rw[beatX,SndT.beatM,hsh,hto,hso.q,h2,(h.pid f hf).1,h.clk f hf]
theorem NetIn.com_sent (h:NetIn places shards x n) {f:Nat} (hf:f<places) {C:ComT} (hC:C.place=f) {m:MsgT} (hm:m∈comMs (x.P f) C):∃t sh:Nat,t<places∧t≠f∧sh<shards∧m.to=t∧((netCom x shards f C).H f t sh)[(x.H f t sh).length]?=some m:=by
 obtain⟨l,hl,hm⟩:=List.mem_flatten.1 hm
 obtain⟨y,hy,rfl⟩:=List.mem_map.1 hl
 obtain⟨p1,p2,p3⟩:=h.pairS hf hy
 obtain⟨w1,w2⟩:=(h.pin f hf).way y hy
 rw[(h.pid f hf).2.2]at hm
 have e:=h.comX_at hf hC hy
 have e2:msgC shards C y=[m]∧m.to=y.to:=by
  unfold msgC at hm ⊢
  split at hm
  ·cases hm
  ·rename_i h0
   rw[if_neg h0,List.mem_singleton.1 hm]
   exact⟨rfl,rfl⟩
 refine⟨_,_,p1,p2,p3,by omega,?_⟩
 rw[netCom,updH_at,e,e2.1,List.getElem?_concat_length]
theorem NetIn.beat_sent (h:NetIn places shards x n) {f:Nat} (hf:f<places) {m:MsgT} (hm:m∈beatMs (x.P f)):∃t sh:Nat,t<places∧t≠f∧sh<shards∧m.to=t∧((netBeat x f).H f t sh)[(x.H f t sh).length]?=some m:=by
 obtain⟨y,hy,rfl⟩:=List.mem_map.1 hm
 obtain⟨p1,p2,p3⟩:=h.pairS hf hy
 obtain⟨w1,w2⟩:=(h.pin f hf).way y hy
 refine⟨_,_,p1,p2,p3,by show y.to=_;omega,?_⟩
 rw[netBeat,updH_at,h.beatX_at hf hy,List.getElem?_concat_length]
theorem NetIn.sndAt (h:NetIn places shards x n) {t f sh:Nat} (ht:t<places) (hf:f<places) (hne:t≠f) (hs:sh<shards):∃y∈(x.P f).ss,y.to.toNat=t∧y.sh.toNat=sh:=by
 obtain⟨i1,i2,i3⟩:=h.pid f hf
 have h1:=(h.pin f hf).ss
 have h2:=pairsP_at (id:=f) (shards:=shards) (places:=places) ht hne hs
 rw[i1,i2,i3]at h1
 rw[←h1]at h2
 obtain⟨y,hy,he⟩:=List.mem_map.1 (List.mem_of_getElem? h2)
 obtain⟨e1,e2⟩:=Prod.mk.inj he
 exact⟨y,hy,e1,e2⟩
theorem NetIn.com_new (h:NetIn places shards x n) {f:Nat} (hf:f<places) {C:ComT} (hC:C.place=f) {t sh j:Nat} (ht:t<places) (hne:t≠f) (hs:sh<shards) {m:MsgT} (hm:((netCom x shards f C).H f t sh)[j]?=some m):(x.H f t sh)[j]?=some m∨m∈comMs (x.P f) C:=by
 obtain⟨y,hy,rfl,rfl⟩:=h.sndAt ht hf hne hs
 rw[netCom,updH_at,h.comX_at hf hC hy]at hm
 rcases Nat.lt_or_ge j (x.H f y.to.toNat y.sh.toNat).length with hj|hj
 ·rw[List.getElem?_append_left hj]at hm
  exact .inl hm
 ·rw[List.getElem?_append_right hj]at hm
  refine .inr (List.mem_flatten.2 ⟨_,List.mem_map_of_mem hy,?_⟩)
  rw[(h.pid f hf).2.2]
  exact List.mem_of_getElem? hm
theorem NetIn.beat_new (h:NetIn places shards x n) {f:Nat} (hf:f<places) {t sh j:Nat} (ht:t<places) (hne:t≠f) (hs:sh<shards) {m:MsgT} (hm:((netBeat x f).H f t sh)[j]?=some m):(x.H f t sh)[j]?=some m∨m∈beatMs (x.P f):=by
 obtain⟨y,hy,rfl,rfl⟩:=h.sndAt ht hf hne hs
 rw[netBeat,updH_at,h.beatX_at hf hy]at hm
 rcases Nat.lt_or_ge j (x.H f y.to.toNat y.sh.toNat).length with hj|hj
 ·rw[List.getElem?_append_left hj]at hm
  exact .inl hm
 ·rw[List.getElem?_append_right hj]at hm
  rw[List.mem_singleton.1 (List.mem_of_getElem? hm)]
  exact .inr (List.mem_map_of_mem hy)
end
end Go.Proofs.YtmkapocibaojdaaGreatDoor
end
section
namespace Go.Sx
open Go
theorem kindOf_all {l:List DoneT} {k:Int} (h:∀a∈l,a.o.kind=k) (hne:l≠[]):kindOf l=k:=by
 cases l with
 | nil=>exact absurd rfl hne
 | cons a l=>exact h a (List.mem_cons_self ..)
theorem only_one {l:List DoneT} {a:DoneT} (h:l.Pairwise fun a b=>doneLt a b=true) (hm:∀b,b∈l↔b=a):l=[a]:=
 eq_of_sorted (lt:=fun a b=>doneLt a b=true) (fun _ _=>doneLt_asymm) h (List.pairwise_singleton ..) fun x=>by rw[hm x,List.mem_singleton]
theorem snapL_len (x:PlT):(snapL x).length=x.places:=by simp[snapL]
end Go.Sx
namespace Go.Proofs.YtmkapocibaojdaaGreatDoor
open Go Go.Sx
theorem inL_refl (xs:List Int):inL xs xs=true:=inL_true rfl fun j x y hx hy=>by
 rw[hx]at hy
 cases hy
 exact Int.le_refl _
section
variable {places shards n:Nat} {x:Net}
theorem NetIn.dots1 (h:NetIn places shards x n) {at':List Int}:∀a∈allDone (seenK x.K places at'),∀b∈allDone (seenK x.K places at'),a.d=b.d→a=b:=fun a ha b hb he=>by
 obtain⟨C,hC,o,ho,rfl⟩:=mem_allDone.1 ha
 obtain⟨D,hD,p,hp,rfl⟩:=mem_allDone.1 hb
 obtain⟨f,hf,hC,_⟩:=mem_seenK.1 hC
 obtain⟨g,hg,hD,_⟩:=mem_seenK.1 hD
 simp only[doneOf,dotOf,DotT.mk.injEq]at he
 obtain⟨e1,e2,e3⟩:=he
 obtain⟨c1,_,_,c4,_⟩:=h.mem hf hC
 obtain⟨d1,_,_,_,_⟩:=h.mem hg hD
 have hfg:f=g:=by omega
 subst hfg
 rw[c1,d1,Int.toNat_natCast]at e2
 obtain rfl:=h.uniq hf hC hD e2
 rw[op_uniq c4 ho hp e3]
theorem NetIn.seen (h:NetIn places shards x n) {at':List Int} {key:ByteArray} {a:DoneT}:a∈opsOf key (seenK x.K places at')↔a.o.key=key∧∃f<places,∃C∈x.K f,inL C.when at'=true∧∃o∈C.ops,a=doneOf C o:=by
 rw[opsOf_mem,firsts_mem h.dots1,mem_allDone]
 constructor
 ·rintro⟨⟨C,hC,o,ho,he⟩,hk⟩
  obtain⟨f,hf,hC,hi⟩:=mem_seenK.1 hC
  exact⟨hk,f,hf,C,hC,hi,o,ho,he⟩
 ·rintro⟨hk,f,hf,C,hC,hi,o,ho,he⟩
  exact⟨⟨C,mem_seenK.2 ⟨f,hf,hC,hi⟩,o,ho,he⟩,hk⟩
theorem NetIn.reads (h:NetIn places shards x n) {t:Nat} (ht:t<places) (key:ByteArray):Sx.valOf key (withinC (x.P t).L key (snapL (x.P t)))=Sx.valOf key (seenK x.K places (snapL (x.P t))):=
 valOf_same (h.read ht (by rw[snapL_len,(h.pid t ht).2.1]) (inL_refl _) key)
theorem NetIn.whole (h:NetIn places shards x n) {C:ComT} {f:Nat} (hf:f<places) (hC:C∈x.K f) (hK:∀g<places,∀D∈x.K g,D=C) (h2:∀o∈C.ops,o.kind=2) (at':List Int) :
  (∀key,(∃o∈C.ops,o.key=key)→(Sx.valOf key (seenK x.K places at')).kind=2)∨(∀key,(Sx.valOf key (seenK x.K places at')).kind=0):=by
 by_cases hi:inL C.when at'=true
 ·refine .inl fun key ⟨o,ho,hk⟩=>kindOf_all (fun a ha=>?_) fun h0=>?_
  ·obtain⟨_,g,hg,D,hD,_,p,hp,rfl⟩:=h.seen.1 ha
   rw[hK g hg D hD]at hp
   exact h2 p hp
  ·have:doneOf C o∈opsOf key (seenK x.K places at'):=h.seen.2 ⟨hk,f,hf,C,hC,hi,o,ho,rfl⟩
   rw[h0]at this
   cases this
 ·refine .inr fun key=>?_
  have:opsOf key (seenK x.K places at')=[]:=List.eq_nil_iff_forall_not_mem.2 fun a ha=>by
   obtain⟨_,g,hg,D,hD,h1,_⟩:=h.seen.1 ha
   rw[hK g hg D hD]at h1
   exact hi h1
  show kindOf _=0
  rw[this]
  rfl
theorem NetIn.one (h:NetIn places shards x n) {C:ComT} {o:OpT} {f:Nat} (hf:f<places) (hC:C∈x.K f) (ho:C.ops=[o]) (hk:o.kind=2) (hn:o.n=1) (hK:∀g<places,∀D∈x.K g,∀p∈D.ops,p.key=o.key→D=C) {at':List Int} (hi:inL C.when at'=true):(Sx.valOf o.key (seenK x.K places at')).n=1:=by
 have e:opsOf o.key (seenK x.K places at')=[doneOf C o]:=only_one (opsOf_strict _ _) fun b=>by
  rw[h.seen]
  constructor
  ·rintro⟨h1,g,hg,D,hD,_,p,hp,rfl⟩
   have:=hK g hg D hD p hp h1
   subst this
   rw[ho]at hp
   rw[List.mem_singleton.1 hp]
  ·rintro rfl
   exact⟨rfl,f,hf,C,hC,hi,o,by simp[ho],rfl⟩
 have e2:(doneOf C o).o=o:=rfl
 simp[Sx.valOf,ofKey,e,kindL,kindOf,e2,hk,Sx.sumN,hn]
theorem NetIn.none (h:NetIn places shards x n) {key:ByteArray} {at':List Int} (hK:∀g<places,∀D∈x.K g,inL D.when at'=true→∀p∈D.ops,p.key≠key):(Sx.valOf key (seenK x.K places at')).n=0:=by
 have:opsOf key (seenK x.K places at')=[]:=List.eq_nil_iff_forall_not_mem.2 fun a ha=>by
  obtain⟨hk,g,hg,D,hD,h1,p,hp,rfl⟩:=h.seen.1 ha
  exact hK g hg D hD h1 p hp hk
 simp[Sx.valOf,this,kindOf]
theorem NetIn.own (h:NetIn places shards x n) {t:Nat} (ht:t<places):snapT (x.P t) t=(x.K t).length:=by
 rw[snapT,if_pos (h.pid t ht).1.symm,h.clk t ht]
def Even (places shards:Nat) (x:Net) (f:Nat):Prop:=∀t<places,t≠f→∀sh<shards,timeAt (x.H f t sh) (x.H f t sh).length=(x.K f).length
theorem even_beat {f:Nat}:Even places shards (netBeat x f) f:=fun t ht hne sh hs=>by
 rw[netBeat,updH_at,updK_at]
 exact timeAt_last
theorem even_other {f g:Nat} {p:PlT} {K':List ComT} {X:Nat→Nat→List MsgT} (h:Even places shards x f) (hne:f≠g):Even places shards (x.upd g p K' X) f:=fun t ht hn sh hs=>by
 rw[updH_ne hne,updK_ne hne]
 exact h t ht hn sh hs
theorem NetIn.heard_all (h:NetIn places shards x n) (hcl:ClosedN places x) {t f:Nat} (ht:t<places) (hf:f<places) (hne:f≠t) (hg:∀sh<shards,∀i<(x.H f t sh).length,Got x f t sh i) (he:Even places shards x f):snapT (x.P t) f=(x.K f).length:=
 h.got_all hcl ht hf hne hg fun sh hs=>he t ht (Ne.symm hne) sh hs
theorem NetIn.two (h:NetIn 2 shards x n) (hcl:ClosedN 2 x) (hg0:∀sh<shards,∀i<(x.H 0 1 sh).length,Got x 0 1 sh i) (hg1:∀sh<shards,∀i<(x.H 1 0 sh).length,Got x 1 0 sh i) (he0:Even 2 shards x 0) (he1:Even 2 shards x 1):snapL (x.P 0)=snapL (x.P 1):=by
 have a0:=h.own (t:=0) (by decide)
 have a1:=h.own (t:=1) (by decide)
 have b0:=h.heard_all hcl (t:=0) (f:=1) (by decide) (by decide) (by decide) hg1 he1
 have b1:=h.heard_all hcl (t:=1) (f:=0) (by decide) (by decide) (by decide) hg0 he0
 have p0:=(h.pid 0 (by decide)).2.1
 have p1:=(h.pid 1 (by decide)).2.1
 rw[snapL,snapL,p0,p1]
 show[snapT (x.P 0) 0,snapT (x.P 0) 1]=[snapT (x.P 1) 0,snapT (x.P 1) 1]
 rw[a0,a1,b0,b1]
end
end Go.Proofs.YtmkapocibaojdaaGreatDoor
end
section
namespace Go.Proofs.YtmkapocibaojdaaGreatDoor
open Go Go.Sx
def SentAt (shards:Nat) (x:Net) (f t:Nat) (m:MsgT):Prop:=∃s j:Nat,s<shards∧(x.H f t s)[j]?=some m
def Came (shards:Nat) (x:Net) (f t:Nat) (m:MsgT):Prop:=∃s j:Nat,s<shards∧(x.H f t s)[j]?=some m∧Got x f t s j
def FullN (places:Nat) (x:Net):Prop:=∀f<places,∀s∈(x.P f).ss,s.l=x.H f s.to.toNat s.sh.toNat
section
variable {places shards n f t:Nat} {x:Net} {m:MsgT}
theorem NetIn.hlen (h:NetIn places shards x n) {s:Nat} (hf:f<places) (ht:t<places) (hne:t≠f) (hs:s<shards):(x.H f t s).length≤n:=by
 obtain⟨y,hy,h1,h2⟩:=h.sndAt ht hf hne hs
 have h3:=(h.snd f hf y hy).q
 rw[h1,h2]at h3
 have h4:=((h.pin f hf).snd y hy).2.2.2.1
 omega
theorem SentAt.fine (hm:SentAt shards x f t m) (h:NetIn places shards x n) (hf:f<places) (ht:t<places) (hne:t≠f):m.fm=f∧m.to=t∧Fit m∧1≤m.seq∧m.seq≤n∧0≤m.time:=by
 obtain⟨s,j,hs,hj⟩:=hm
 obtain⟨h1,h2,h3,h4,h5,h6,_⟩:=(h.msg f hf t ht hne s hs).at' j m hj
 have h7:=(List.getElem?_eq_some_iff.1 hj).1
 have h8:=h.hlen hf ht hne hs
 exact⟨h1,h2,h.fit ht hf (Ne.symm hne) hs hj,by omega,by omega,h5⟩
theorem SentAt.hear (hm:SentAt shards x f t m) (h:NetIn places shards x n) (hf:f<places) (ht:t<places) (hne:t≠f) (hl:∀s<shards,(x.H f t s).length≤201):NetIn places shards (x.setP t (hearPl (x.P t) m).2.2) (n+1)∧(hearPl (x.P t) m).1=0:=by
 obtain⟨s,j,hs,hj⟩:=hm
 obtain⟨h1,h2⟩:=h.hear ht hf (Ne.symm hne) hs hj
 exact⟨h1,h2 (hl s hs)⟩
theorem SentAt.upd (hm:SentAt shards x f t m) (g:Nat) (p:PlT) (K':List ComT) (X:Nat→Nat→List MsgT):SentAt shards (x.upd g p K' X) f t m:=by
 obtain⟨s,j,hs,hj⟩:=hm
 refine⟨s,j,hs,?_⟩
 by_cases hg:f=g
 ·subst hg
  rw[updH_at,List.getElem?_append_left (List.getElem?_eq_some_iff.1 hj).1]
  exact hj
 ·rw[updH_ne hg]
  exact hj
theorem NetIn.com_at (h:NetIn places shards x n) (hf:f<places) {C:ComT} (hC:C.place=f) (hm:m∈comMs (x.P f) C):∃t<places,t≠f∧m.to=t∧SentAt shards (netCom x shards f C) f t m:=by
 obtain⟨t,s,h1,h2,h3,h4,h5⟩:=h.com_sent hf hC hm
 exact⟨t,h1,h2,h4,s,_,h3,h5⟩
theorem NetIn.beat_at (h:NetIn places shards x n) (hf:f<places) (hm:m∈beatMs (x.P f)):∃t<places,t≠f∧m.to=t∧SentAt shards (netBeat x f) f t m:=by
 obtain⟨t,s,h1,h2,h3,h4,h5⟩:=h.beat_sent hf hm
 exact⟨t,h1,h2,h4,s,_,h3,h5⟩
theorem SentAt.came (hm:SentAt shards x f t m) (h:NetIn places shards x n) (hcl:ClosedN places x) (hf:f<places) (ht:t<places) (hne:t≠f) (hl:∀s<shards,(x.H f t s).length≤201) :
  ClosedN places (x.setP t (hearPl (x.P t) m).2.2)∧Came shards (x.setP t (hearPl (x.P t) m).2.2) f t m∧∀f' t' z,Came shards x f' t' z→Came shards (x.setP t (hearPl (x.P t) m).2.2) f' t' z:=by
 have h0:=(hm.hear h hf ht hne hl).2
 obtain⟨s,j,hs,hj⟩:=hm
 obtain⟨h1,h2,h3⟩:=h.hear_got hcl ht hf (Ne.symm hne) hs hj
 exact⟨h1,⟨s,j,hs,hj,h3 h0⟩,fun f' t' z ⟨s,j,a,b,c⟩=>⟨s,j,a,b,h2 _ _ _ _ c⟩⟩
theorem NetIn.all_came (h:NetIn places shards x n) (hf:f<places) (ht:t<places) (hne:t≠f) (ha:∀z,SentAt shards x f t z→Came shards x f t z):∀sh<shards,∀i<(x.H f t sh).length,Got x f t sh i:=fun s hs i hi=>by
 have hm:(x.H f t s)[i]?=some (x.H f t s)[i]:=List.getElem?_eq_getElem hi
 obtain⟨s2,j,hs2,hj,hg⟩:=ha _ ⟨s,i,hs,hm⟩
 obtain⟨_,_,a3,a4,_⟩:=(h.msg f hf t ht hne s hs).at' i _ hm
 obtain⟨_,_,b3,b4,_⟩:=(h.msg f hf t ht hne s2 hs2).at' j _ hj
 have e1:s=s2:=by omega
 have e2:i=j:=by omega
 subst e1 e2
 exact hg
theorem known_snap {p:PlT} (hx:PlOk p):knownErr p (snapL p)=0:=by
 rw[knownErr,if_neg (by simp[snapL_ok hx]),if_neg (by simp[snapL_len]),if_pos (inL_refl _)]
theorem full_new:FullN places (newNet places shards):=fun f _ s hs=>by
 obtain⟨a,b,rfl⟩:=new_ss hs
 rfl
theorem FullN.com (h:NetIn places shards x n) (hF:FullN places x) (hf:f<places) {C:ComT} (hC:C.place=f):FullN places (netCom x shards f C):=fun i hi s hs=>by
 by_cases hif:i=f
 ·subst hif
  rw[netCom,updP_at]at hs
  obtain⟨y,hy,rfl⟩:=List.mem_map.1 hs
  have h1:=hF i hi y hy
  have h2:=h.comX_at hi hC hy
  have e1:(sndC (x.P i).shards C y).to=y.to∧(sndC (x.P i).shards C y).sh=y.sh:=by
   unfold sndC
   split <;> exact⟨rfl,rfl⟩
  rw[netCom,updH_at,e1.1,e1.2,h2,←h1,(h.pid i hi).2.2]
  unfold sndC msgC
  split
  ·simp
  ·rfl
 ·rw[netCom,updP_ne hif]at hs
  rw[netCom,updH_ne hif]
  exact hF i hi s hs
theorem FullN.beat (h:NetIn places shards x n) (hF:FullN places x) (hf:f<places):FullN places (netBeat x f):=fun i hi s hs=>by
 by_cases hif:i=f
 ·subst hif
  rw[netBeat,updP_at]at hs
  obtain⟨y,hy,rfl⟩:=List.mem_map.1 hs
  have h1:=hF i hi y hy
  have h2:=h.beatX_at hi hy
  show y.l++[SndT.beatM y (x.P i).clock]=(netBeat x i).H i y.to.toNat y.sh.toNat
  rw[netBeat,updH_at,h2,←h1]
 ·rw[netBeat,updP_ne hif]at hs
  rw[netBeat,updH_ne hif]
  exact hF i hi s hs
theorem hearPl_ss {p:PlT} (hm:m.time≠-1):(hearPl p m).2.2.ss=p.ss:=by
 by_cases h:hearWay p m≠0
 ·rw[hearPl,if_pos h]
 ·rw[hearPl,if_neg h,if_neg hm]
  split
  ·rfl
  ·split <;> rfl
theorem FullN.hear (hF:FullN places x) (hm:m.time≠-1):FullN places (x.setP t (hearPl (x.P t) m).2.2):=fun i hi s hs=>by
 by_cases hit:i=t
 ·subst hit
  rw[setP_at,hearPl_ss hm]at hs
  exact hF i hi s hs
 ·rw[setP_ne _ _ hit]at hs
  exact hF i hi s hs
theorem FullN.again (hF:FullN places x) (h:NetIn places shards x n) (hf:f<places) (hm:m∈againMs (x.P f)):∃t<places,t≠f∧SentAt shards x f t m:=by
 obtain⟨l,hl,hm⟩:=List.mem_flatten.1 hm
 obtain⟨y,hy,rfl⟩:=List.mem_map.1 hl
 obtain⟨p1,p2,p3⟩:=h.pairS hf hy
 rw[hF f hf y hy]at hm
 obtain⟨j,hj⟩:=List.getElem?_of_mem hm
 exact⟨_,p1,p2,_,j,p3,hj⟩
theorem FullN.back (hF:FullN places x) (h:NetIn places shards x n) (hf:f<places) (ht:t<places) (hne:t≠f) (hm:SentAt shards x f t m):m∈againMs (x.P f):=by
 obtain⟨s,j,hs,hj⟩:=hm
 obtain⟨y,hy,h1,h2⟩:=h.sndAt ht hf hne hs
 refine List.mem_flatten.2 ⟨_,List.mem_map_of_mem hy,?_⟩
 rw[hF f hf y hy,h1,h2]
 exact List.mem_of_getElem? hj
end
end Go.Proofs.YtmkapocibaojdaaGreatDoor
end
section
namespace Go.Proofs.YtmkapocibaojdaaGreatDoor
open Go Go.Sx
theorem atErr_snap {x:PlT} (hx:PlOk x) (hb:inL x.base (snapL x)=true) {key:ByteArray} (hk:nameOk key=true):atErr x.places x.base key (snapL x)=0:=by
 rw[atErr,if_neg (by simp[hk]),if_neg (by simp[snapL_ok hx]),if_neg (by simp[snapL_len]),if_neg (by simp[hb])]
structure Sys (places shards:Nat) (x:Net) (l:List MsgT) (n:Nat):Prop where
 net:NetIn places shards x n
 cl:ClosedN places x
 l:∀m∈l,∃f<places,∃t<places,t≠f∧m.to=t∧SentAt shards x f t m
 few:∀f<places,∀t<places,t≠f→∀s<shards,(x.H f t s).length≤201
def AllIn (places shards:Nat) (x:Net) (l:List MsgT):Prop:=∀f<places,∀t<places,t≠f→∀m,SentAt shards x f t m→m∈l
section
variable {places shards n f t:Nat} {x:Net} {m:MsgT} {l:List MsgT}
theorem sys_new (hp1:1≤places) (hp6:places≤6) (hs1:1≤shards) (hs6:shards≤6):Sys places shards (newNet places shards) [] 0:=⟨net_new hp1 hp6 hs1 hs6,closed_new,by simp,fun _ _ _ _ _ _ _=>by simp[newNet]⟩
theorem Sys.hear (h:Sys places shards x l n) (hm:m∈l) (ht:t<places) (hto:m.to=t) :
  Sys places shards (x.setP t (hearPl (x.P t) m).2.2) l (n+1)∧(hearPl (x.P t) m).1=0∧Fit m∧1≤m.seq∧m.seq≤n∧0≤m.time∧(∃f<places,f≠t∧m.fm=f∧Came shards (x.setP t (hearPl (x.P t) m).2.2) f t m)∧∀f' t' z,Came shards x f' t' z→Came shards (x.setP t (hearPl (x.P t) m).2.2) f' t' z:=by
 obtain⟨f,hf,t',ht',hne,hto',hs⟩:=h.l m hm
 obtain rfl:t'=t:=by omega
 have hw:=h.few f hf t' ht hne
 obtain⟨a1,a2⟩:=hs.hear h.net hf ht hne hw
 obtain⟨b1,b2,b3⟩:=hs.came h.net h.cl hf ht hne hw
 obtain⟨c1,c2,c3,c4,c5,c6⟩:=hs.fine h.net hf ht hne
 exact⟨⟨a1,b1,h.l,h.few⟩,a2,c3,c4,c5,c6,⟨f,hf,Ne.symm hne,c1,b2⟩,b3⟩
theorem Sys.com (h:Sys places shards x l n) (hn:n<201) (hf:f<places) {at':List Int} {ops:List OpT} (hc:(comErr (x.P f) at' ops).code=0) (hd:∀o∈ops,o.dots.length≤1000000):Sys places shards (netCom x shards f (comP (x.P f) at' ops)) (l++comMs (x.P f) (comP (x.P f) at' ops)) (n+1):=by
 have h1:=h.net.com_ok hf hc hd
 refine⟨h1,h.cl.upd rfl,fun m hm=>?_,fun f' hf' t ht hne s hs=>Nat.le_trans (h1.hlen hf' ht hne hs) (by omega)⟩
 rcases List.mem_append.1 hm with hm|hm
 ·obtain⟨f',a,t,b,c,d,e⟩:=h.l m hm
  exact⟨f',a,t,b,c,d,e.upd ..⟩
 ·obtain⟨t,a,b,c,d⟩:=h.net.com_at hf (C:=comP (x.P f) at' ops) (by show(((x.P f).id:Nat):Int)=f;rw[(h.net.pid f hf).1]) hm
  exact⟨f,hf,t,a,b,c,d⟩
theorem Sys.beat (h:Sys places shards x l n) (hn:n<201) (hf:f<places):Sys places shards (netBeat x f) (l++beatMs (x.P f)) (n+1):=by
 have h1:=h.net.beat_ok hf
 refine⟨h1,h.cl.upd rfl,fun m hm=>?_,fun f' hf' t ht hne s hs=>Nat.le_trans (h1.hlen hf' ht hne hs) (by omega)⟩
 rcases List.mem_append.1 hm with hm|hm
 ·obtain⟨f',a,t,b,c,d,e⟩:=h.l m hm
  exact⟨f',a,t,b,c,d,e.upd ..⟩
 ·obtain⟨t,a,b,c,d⟩:=h.net.beat_at hf hm
  exact⟨f,hf,t,a,b,c,d⟩
theorem Sys.mono (h:Sys places shards x l n) {k:Nat} (hk:n≤k):Sys places shards x l k:=⟨h.net.mono hk,h.cl,h.l,h.few⟩
theorem Sys.sub (h:Sys places shards x l n) {l':List MsgT} (hl:∀m∈l',∃f<places,∃t<places,t≠f∧m.to=t∧SentAt shards x f t m):Sys places shards x l' n:=⟨h.net,h.cl,hl,h.few⟩
theorem AllIn.com (ha:AllIn places shards x l) (h:NetIn places shards x n) (hf:f<places) {C:ComT} (hC:C.place=f):AllIn places shards (netCom x shards f C) (l++comMs (x.P f) C):=fun f' hf' t ht hne m ⟨s,j,hs,hj⟩=>by
 by_cases hff:f'=f
 ·subst hff
  rcases h.com_new hf hC ht hne hs hj with h1|h1
  ·exact List.mem_append.2 (.inl (ha f' hf' t ht hne m ⟨s,j,hs,h1⟩))
  ·exact List.mem_append.2 (.inr h1)
 ·rw[netCom,updH_ne hff]at hj
  exact List.mem_append.2 (.inl (ha f' hf' t ht hne m ⟨s,j,hs,hj⟩))
theorem AllIn.beat (ha:AllIn places shards x l) (h:NetIn places shards x n) (hf:f<places):AllIn places shards (netBeat x f) (l++beatMs (x.P f)):=fun f' hf' t ht hne m ⟨s,j,hs,hj⟩=>by
 by_cases hff:f'=f
 ·subst hff
  rcases h.beat_new hf ht hne hs hj with h1|h1
  ·exact List.mem_append.2 (.inl (ha f' hf' t ht hne m ⟨s,j,hs,h1⟩))
  ·exact List.mem_append.2 (.inr h1)
 ·rw[netBeat,updH_ne hff]at hj
  exact List.mem_append.2 (.inl (ha f' hf' t ht hne m ⟨s,j,hs,hj⟩))
theorem Sys.heard (h:Sys places shards x l n) (hf:f<places) (ht:t<places) (hne:t≠f) (he:Even places shards x f) (ha:∀z,SentAt shards x f t z→Came shards x f t z):snapT (x.P t) f=(x.K f).length:=
 h.net.heard_all h.cl ht hf (Ne.symm hne) (h.net.all_came hf ht hne ha) he
end
end Go.Proofs.YtmkapocibaojdaaGreatDoor
end
section
namespace Go.Proofs.YtmkapocibaojdaaGreatDoor
open Go Go.Sx
structure WholeI (sh:Nat) (C:ComT) (l:List MsgT) (x:Net) (n:Nat):Prop where
 sys:Sys 2 sh x l n
 memC:C∈x.K 0
 K:∀g<2,∀D∈x.K g,D=C
 to:∀m∈l,m.to=1
section
variable {sh:Nat} {keys:List ByteArray}
theorem WholeI.beat {C:ComT} {l:List MsgT} {x:Net} {n:Nat} (h:WholeI sh C l x n) (hn:n<201):WholeI sh C (l++beatMs (x.P 0)) (netBeat x 0) (n+1):=by
 have h1:=h.sys.beat hn (f:=0) (by decide)
 refine⟨h1,?_,fun g hg D hD=>?_,fun m hm=>?_⟩
 ·rw[netBeat,updK_at]
  exact h.memC
 ·rcases(by omega:g=0∨g=1)with rfl|rfl
  ·rw[netBeat,updK_at]at hD
   exact h.K 0 (by decide) D hD
  ·rw[netBeat,updK_ne (by decide)]at hD
   exact h.K 1 (by decide) D hD
 ·rcases List.mem_append.1 hm with hm|hm
  ·exact h.to m hm
  ·obtain⟨t,a,b,c,_⟩:=h.sys.net.beat_at (by decide) hm
   omega
theorem WholeI.hear {C:ComT} {l:List MsgT} {x:Net} {n:Nat} {m:MsgT} (h:WholeI sh C l x n) (hm:m∈l):WholeI sh C l (x.setP 1 (hearPl (x.P 1) m).2.2) (n+1)∧(hearPl (x.P 1) m).1=0∧Fit m∧1≤m.seq∧m.seq≤n:=by
 obtain⟨h1,h2,h3,h4,h5,_⟩:=h.sys.hear hm (t:=1) (by decide) (h.to m hm)
 exact⟨⟨h1,h.memC,h.K,h.to⟩,h2,h3,h4,h5⟩
theorem WholeI.read {C:ComT} {l:List MsgT} {x:Net} {n:Nat} (h:WholeI sh C l x n) (h2:∀o∈C.ops,o.kind=2) :
  (∀key,(∃o∈C.ops,o.key=key)→(Sx.valOf key (withinC (x.P 1).L key (snapL (x.P 1)))).kind=2)∨(∀key,(Sx.valOf key (withinC (x.P 1).L key (snapL (x.P 1)))).kind=0):=by
 rcases h.sys.net.whole (f:=0) (by decide) h.memC h.K h2 (snapL (x.P 1))with h3|h3
 ·exact .inl fun key hk=>by rw[h.sys.net.reads (by decide)];exact h3 key hk
 ·exact .inr fun key=>by rw[h.sys.net.reads (by decide)];exact h3 key
end
end Go.Proofs.YtmkapocibaojdaaGreatDoor
end
section
namespace Go.Sx
open Go
structure NetS where
 i:Int
 x:Net
end Go.Sx
namespace Go.Proofs.YtmkapocibaojdaaGreatDoor
open Go Go.Sx
theorem readK_snap {x:PlT} (hx:PlOk x) (hb:inL x.base (snapL x)=true) {key:ByteArray} (hk:nameOk key=true):readK x key (snapL x)=0:=by
 have h1:readErr x key (snapL x)=0:=by rw[readErr,if_pos hk,known_snap hx]
 rw[readK,if_neg (by simp[h1]),atErr_snap hx hb hk]
end Go.Proofs.YtmkapocibaojdaaGreatDoor
end
section
namespace Go.Proofs.YtmkapocibaojdaaGreatDoor
open Go Go.Sx
structure TwoA (sh:Nat) (x:Net) (n:Nat):Prop where
 sys:Sys 2 sh x [] n
 full:FullN 2 x
structure TwoB (sh:Nat) (x:Net) (n:Nat):Prop where
 sys:Sys 2 sh x [] n
 full:FullN 2 x
 e0:Even 2 sh x 0
 e1:Even 2 sh x 1
def CameAll (sh:Nat) (x:Net) (f t:Nat) (l:List MsgT):Prop:=∀m∈l,Came sh x f t m
section
variable {sh n f t:Nat} {x:Net} {m:MsgT} {l:List MsgT}
theorem two_new (hs1:1≤sh) (hs6:sh≤6):TwoA sh (newNet 2 sh) 0:=⟨sys_new (by decide) (by decide) hs1 hs6,full_new⟩
theorem Sys.none (h:Sys 2 sh x l n):Sys 2 sh x [] n:=h.sub (by simp)
theorem TwoA.com (h:TwoA sh x n) (hn:n<201) (hf:f<2) {at':List Int} {ops:List OpT} (hc:(comErr (x.P f) at' ops).code=0) (hd:∀o∈ops,o.dots.length≤1000000):TwoA sh (netCom x sh f (comP (x.P f) at' ops)) (n+1):=
 ⟨(h.sys.com hn hf hc hd).none,h.full.com h.sys.net hf (by show(((x.P f).id:Nat):Int)=f;rw[(h.sys.net.pid f hf).1])⟩
theorem TwoA.mono (h:TwoA sh x n):TwoA sh x (n+1):=⟨h.sys.mono (Nat.le_succ n),h.full⟩
theorem TwoA.beat (h:TwoA sh x n) (hn:n<200):TwoB sh (netBeat (netBeat x 0) 1) (n+2):=by
 have h1:=(h.sys.beat (f:=0) (by omega) (by decide)).none
 have h2:=(h1.beat (f:=1) (by omega) (by decide)).none
 have f1:=h.full.beat h.sys.net (f:=0) (by decide)
 exact⟨h2,f1.beat h1.net (f:=1) (by decide),even_other even_beat (by decide),even_beat⟩
theorem TwoB.mono (h:TwoB sh x n) {k:Nat} (hk:n≤k):TwoB sh x k:=⟨h.sys.mono hk,h.full,h.e0,h.e1⟩
theorem two_only (hf:f<2) (ht:t<2) (hne:t≠f) {u:Nat} (hu:u<2) (h:u≠f):u=t:=by omega
theorem TwoB.sent (h:TwoB sh x n) (hf:f<2) (ht:t<2) (hne:t≠f) (hm:m∈againMs (x.P f)):SentAt sh x f t m:=by
 obtain⟨u,hu,hn,hs⟩:=h.full.again h.sys.net hf hm
 rwa[two_only hf ht hne hu hn]at hs
theorem TwoB.hear (h:TwoB sh x n) (hf:f<2) (ht:t<2) (hne:t≠f) (hm:m∈againMs (x.P f)) :
  TwoB sh (x.setP t (hearPl (x.P t) m).2.2) (n+1)∧(hearPl (x.P t) m).1=0∧Fit m∧1≤m.seq∧m.seq≤n∧Came sh (x.setP t (hearPl (x.P t) m).2.2) f t m∧∀f' t' z,Came sh x f' t' z→Came sh (x.setP t (hearPl (x.P t) m).2.2) f' t' z:=by
 have hs:=h.sent hf ht hne hm
 obtain⟨c1,c2,c3,c4,c5,c6⟩:=hs.fine h.sys.net hf ht hne
 have hsy:Sys 2 sh x [m] n:=h.sys.sub fun z hz=>by
  rw[List.mem_singleton.1 hz]
  exact⟨f,hf,t,ht,hne,c2,hs⟩
 obtain⟨h1,h2,_,_,_,_,⟨f',_,_,hff,h6⟩,h7⟩:=hsy.hear (List.mem_singleton.2 rfl) ht c2
 obtain rfl:f'=f:=by omega
 exact⟨⟨h1.none,h.full.hear (by omega),h.e0,h.e1⟩,h2,c3,c4,c5,h6,h7⟩
theorem TwoB.end (h:TwoB sh x n) (h0:CameAll sh x 0 1 (againMs (x.P 0))) (h1:CameAll sh x 1 0 (againMs (x.P 1))):snapL (x.P 0)=snapL (x.P 1):=by
 refine h.sys.net.two h.sys.cl ?_ ?_ h.e0 h.e1
 ·exact h.sys.net.all_came (by decide) (by decide) (by decide) fun z hz=>h0 z (h.full.back h.sys.net (by decide) (by decide) (by decide) hz)
 ·exact h.sys.net.all_came (by decide) (by decide) (by decide) fun z hz=>h1 z (h.full.back h.sys.net (by decide) (by decide) (by decide) hz)
theorem TwoB.same (h:TwoB sh x n) (he:snapL (x.P 0)=snapL (x.P 1)) (key:ByteArray):Sx.valOf key (withinC (x.P 0).L key (snapL (x.P 0)))=Sx.valOf key (withinC (x.P 1).L key (snapL (x.P 1))):=by
 rw[h.sys.net.reads (by decide),h.sys.net.reads (by decide),he]
end
end Go.Proofs.YtmkapocibaojdaaGreatDoor
end
section
namespace Go.Proofs.YtmkapocibaojdaaGreatDoor
open Go Go.Sx
theorem Rep.scap {w:World} {S:Nat→Prop} {a:Option Addr} {m c k:Nat} {rows:List (List D)} (h:Rep w S (.slice a m c) (.sl k rows)):m≤c:=by
 cases h with
 | nil=>exact Nat.zero_le _
 | sl u hb hS hc=>exact hc
set_option maxHeartbeats 4000000 in
theorem ownOps2 {w:World} {S:Nat→Prop} {ua:Option Addr} {un uc:Nat} {l:List OpT} (h:Rep w S (.slice ua un uc) (.sl 7 (l.map eOp))) (hl:l.length≤1000000) (hd:∀o∈l,o.dots.length≤1000000) :
  Calls Tryz.prog 28 #[.slice ua un uc] w fun e w'=>∃b m d,Ret [] w S w' e (.slice b m d) [] [(.slice b m d,.sl 7 (l.map eOp))]:=by
 refine epG Tryz.func28 bd28 (args:=[.slice ua un uc]) (S:=S) (G:=[(_,.sl 7 (l.map eOp))]) (by kernel_rfl) (.cons h (.nil _ _)) ?_
 refine J_stp (stp_fact (v:=.slice none 0 0) (d:=dInts []) fun _ _ _=>.nil) ?_
 try simp only[aQ]
 refine Zs [zR 0] [] [zS 2 none 0 0] ?_
 refine jS [(0,true),(1,true),(2,false),(3,false),(4,false)] [] ?_
 refine Ya [zR 0,zR 1] [0] [zV 5 (.agg #[.slice none 0 0,nI 0,.slice ua un uc])] ?_
 refine Yc 96 #[.agg #[.slice none 0 0,nI 0,.slice ua un uc]] (some 6) fun w S hG=>?_
 refine(ownCommit (c:=⟨[],0,l⟩) (hG.at 1 rfl) (hG.at 0 rfl) (by simp) hl hd).mono ?_
 rintro e1 w1 ⟨q1,m1,d1,q2,m2,d2,hR⟩
 refine⟨_,_,_,hR,?_⟩
 try simp only[aQ]
 refine Ym [.wr 3 [] 0,.wr 4 (hnO 0 3) 0] [6,5] (fun nu1=>[zP 3 (nu1 0)]) o0 (fun nu1=>[(nu1 0,.cells #[.slice q1 m1 d1,nI 0,.slice q2 m2 d2] 35 (0,0))]) [] (fun nu1=>?_)
 refine JR_end ?_
 refine Zs [zR 0,.rd 1 [.o 0 none] 0 0,zR 2] [3] [zS 2 q2 m2 d2] ?_
 refine Yr [[]] (.slice q2 m2 d2) fun a w s=>?_
 exact⟨_,_,_,s.ret (by simp) [] [3] rfl rfl⟩
set_option maxHeartbeats 4000000 in
theorem placeCommitAny {w:World} {S:Nat→Prop} {M:List Nat} {er:Nat→Addr} {eb:Nat→Array Value×TypeId} {x:PlT} {b n n1 c1 n2 c2:Nat} {a1 a2:Option Addr} {at':List Int} {ops:List OpT} (hC:Rep w S .nilIface (dC er eb)) (hP:Pre w S M [cPlace b x]) (hx:PlIn x n) (hn:n<600) (h1:Rep w S (.slice a1 n1 c1) (dInts at')) (h2:Rep w S (.slice a2 n2 c2) (.sl 7 (ops.map eOp))) (hl1:at'.length≤1000000) (hl2:ops.length≤1000000) (hl3:∀o∈ops,o.dots.length≤1000000) :
  Calls Tryz.prog 22 #[.pointer (some ⟨b,0,none⟩),.slice a1 n1 c1,.slice a2 n2 c2] w fun e w'=>∃u1 m1 d1 z u2 m2 d2 u3 m3 d3 v x',Ret M w S w' e (.tuple #[.agg #[.slice u1 m1 d1,.int .i64 z,.slice u2 m2 d2],.slice u3 m3 d3,v]) [cPlace b x'] []∧v.oneCell'=true∧(x'=x∨((comErr x at' ops).code=0∧x'=comPl x (comP x at' ops))):=by
 refine(placeCommit hC hP hx hn h1 h2 hl1 hl2 hl3).mono ?_
 rintro e w' (⟨h,v,G',hR,hv⟩|⟨hok,u1,m1,d1,u2,m2,d2,u3,m3,d3,hR⟩)
 ·refine⟨_,_,_,_,_,_,_,_,_,_,v,_,hR.less (by simp),?_,.inl rfl⟩
  rcases hv with ⟨_,⟨_,rfl⟩|⟨_,rfl⟩,_⟩|⟨_,_,_,rfl,_⟩ <;> rfl
 ·exact⟨_,_,_,_,_,_,_,_,_,_,_,_,hR.less (by simp),rfl,.inr ⟨hok,rfl⟩⟩
theorem TwoA.more {sh n f:Nat} {x:Net} {p:PlT} {at':List Int} {ops:List OpT} (h:TwoA sh x n) (hn:n<201) (hf:f<2) (hd:∀o∈ops,o.dots.length≤1000000) (hp:p=x.P f∨((comErr (x.P f) at' ops).code=0∧p=comPl (x.P f) (comP (x.P f) at' ops))):∃x':Net,TwoA sh x' (n+1)∧x'.P f=p∧∀i,i≠f→x'.P i=x.P i:=by
 rcases hp with rfl|⟨hc,rfl⟩
 ·exact⟨x,h.mono,rfl,fun _ _=>rfl⟩
 ·exact⟨_,h.com hn hf hc hd,updP_at,fun i hi=>updP_ne hi⟩
set_option maxHeartbeats 8000000 in
theorem twoSnd {w0:World} {S0:Nat→Prop} {er:Nat→Addr} {eb:Nat→Array Value×TypeId} {kr:List Itm} {sh n:Nat} {x:Net} {ky:ByteArray} {pb qb:Nat} {fa sa:Option Addr} {fc sc:Nat} {first second:List OpT} {i:Int} (hA:TwoA sh x n) (hn:n≤100) (hi0:0≤i) (hi8:i≤8) (hf8:first.length≤8) (hs8:second.length≤8) (hsc:second.length≤sc)
  (H:∀x':Net,TwoA sh x' (n+1)→J Tryz.prog Tryz.f6 (retR Tryz.prog Tryz.f6 fun e w'=>Ret [] (zero w0) S0 w' e (.bool true) [] []) Tryz.f6.ntmps (.c (.rg 10 false)::kr) [(1,.val (.slice fa first.length fc)),(2,.val (.slice sa second.length sc)),(3,.val (.string ky)),(8,.val (.bool false)),(10,.val (.pointer (some ⟨pb,0,none⟩))),(12,.val (.pointer (some ⟨qb,0,none⟩))),(14,.val (.int .i64 i))] [] [] [([],zero w0)] ⟨newS S0 [] w0,[cPlace pb (x'.P 0),cPlace qb (x'.P 1)],[(.nilIface,dC er eb),(.slice fa first.length fc,.sl 7 (first.map eOp)),(.slice sa second.length sc,.sl 7 (second.map eOp))]⟩) :
  J Tryz.prog Tryz.f6 (retR Tryz.prog Tryz.f6 fun e w'=>Ret [] (zero w0) S0 w' e (.bool true) [] []) Tryz.f6.ntmps (.c (.rg 15 false)::.c (.cond (.tmp 115) (.seq (.seq (.rg 16 false) (.cond (.tmp 121) (.seq (.rg 17 false) .ret) .skip)) (.rg 18 true)) .skip)::.eb 1::.c (.rg 10 false)::kr) [(1,.val (.slice fa first.length fc)),(2,.val (.slice sa second.length sc)),(3,.val (.string ky)),(8,.val (.bool false)),(10,.val (.pointer (some ⟨pb,0,none⟩))),(12,.val (.pointer (some ⟨qb,0,none⟩))),(14,.val (.int .i64 i))] [] [] [([],zero w0)] ⟨newS S0 [] w0,[cPlace pb (x.P 0),cPlace qb (x.P 1)],[(.nilIface,dC er eb),(.slice fa first.length fc,.sl 7 (first.map eOp)),(.slice sa second.length sc,.sl 7 (second.map eOp))]⟩:=by
 refine Za (Rds 0 4) [] [zI 112 i,zS 113 sa second.length sc,zI 114 (↑second.length:Int),zB 115 (decide (i<(↑second.length:Int)))] ?_
 refine cC (t:=decide (i<(↑second.length:Int))) (fun hlt=>?_) (fun hlt=>?_)
 ·have hlt2:i<second.length:=of_decide_eq_true hlt
  obtain⟨o,ho⟩:∃o,second[i.toNat]?=some o:=⟨_,List.getElem?_eq_getElem (by omega)⟩
  refine J_read1 2 rfl i.toNat (map_at ho) (by kernel_rfl) (fun b1 off1 cs1 ty1 fz1 a1_0 c1_0 ha1 hrd1=>?_)
  cases ha1
  have hrd1_0:=rd0 (hrd1 0 _ rfl)
  have hrd1_1:=hrd1 1 _ rfl
  have hrd1_2:=hrd1 2 _ rfl
  have hrd1_3:=hrd1 3 _ rfl
  have hrd1_4:=hrd1 4 _ rfl
  have hrd1_5:=hrd1 5 _ rfl
  have hrd1_6:=hrd1 6 _ rfl
  try simp only[aQ]
  refine J_seq ?_
  refine jS [(0,true),(1,true),(2,true),(3,true),(4,false),(5,true)] [] ?_
  refine Yp [zR 0,zR 1,.rd 2 [] 0 2,.rd 3 [.r 0 (some (nI o.no)),.r 0 (some (.string o.key)),.r 0 (some (nI o.kind)),.r 0 (some (.string o.text)),.r 0 (some (nI o.n)),.r 0 (some (.bool o.remove)),.r 0 (some (.slice (a1_0,c1_0).fst ((List.map eDot o.dots).length) c1_0))] 0 0] [] [zS 116 (sA b1 off1) second.length sc,zI 117 i,zV 118 (.pointer (sA b1 (off1+i.toNat*7))),zV 119 (.agg #[nI o.no,.string o.key,nI o.kind,.string o.text,nI o.n,.bool o.remove,.slice (a1_0,c1_0).fst ((List.map eDot o.dots).length) c1_0])] (oC hi0 (oC hlt2 (oC hrd1_0 (oC hrd1_1 (oC hrd1_2 (oC hrd1_3 (oC hrd1_4 (oC hrd1_5 (oC hrd1_6 oN))))))))) ?_
  refine Yc 27 #[.agg #[nI o.no,.string o.key,nI o.kind,.string o.text,nI o.n,.bool o.remove,.slice (a1_0,c1_0).fst ((List.map eDot o.dots).length) c1_0],nI 2] (some 120) fun w S hG=>?_
  refine(opError (o:=o) (hG.at 3 rfl)).mono ?_
  rintro e1 w1 hR
  refine⟨_,_,_,hR,?_⟩
  try simp only[aQ]
  refine Ya [zR 5] [] [zB 121 (decide ((↑(opErr o 2):Int)>0))] ?_
  refine JR_end ?_
  refine cC (t:=decide ((↑(opErr o 2):Int)>0)) (fun hop=>?_) (fun hop=>?_)
  ·refine J_seq ?_
   refine Za [zR 0] [] [zB 8 true] ?_
   refine Yr [[]] (.bool true) fun a w s=>?_
   exact s.retz (by simp) [] [] rfl rfl
  have ho0:opErr o 2=0:=by
   have:=of_decide_eq_false hop
   omega
  have hod:=(opErr_zero ho0).2.2.1
  have hpl:=hA.sys.net.pin 1 (by decide)
  have hsl:=snapL_len (x.P 1)
  have hp6:=hpl.p6
  refine J_skip ?_
  have hone:((second.map eOp).drop i.toNat).take 1=[o].map eOp:=by
   rw[←List.map_drop,←List.map_take,List.take_one,List.head?_drop,ho]
   rfl
  refine J_stp (stp_fact (v:=.slice (some ⟨b1,off1+i.toNat*7,none⟩) ((i+1).toNat - i.toNat) (sc - i.toNat)) (d:=.sl 7 ([o].map eOp)) fun w S H=>by
   have h:=H (.slice (some ⟨b1,off1,none⟩) second.length sc,.sl 7 (second.map eOp)) (List.mem_of_getElem? (i:=2) rfl)
   have h2:=(h.dropS i.toNat (by rw[List.length_map];omega)).takeS 1 (by rw[List.length_drop,List.length_map];omega)
   rw[hone]at h2
   rw[show(i+1).toNat - i.toNat=1 by omega]
   exact h2) ?_
  refine Nm [(cPlace pb (x.P 0)),(cPlace qb (x.P 1))] ?_
  try simp only[aQ]
  refine jT [(0,true),(1,true),(3,true),(4,true),(5,true),(6,true),(7,true),(2,false),(8,false),(9,false),(10,true),(11,true),(12,true),(13,true)] [(2,[]),(9,[])] ?_
  refine Yp ([zR 0,zR 1]++Rds 3 6++[.rd 6 [] 0 1,.rd 7 [] 0 4]) [] [zP 123 qb,zP 124 qb,zS 126 (sA b1 off1) second.length sc,zI 127 i,zI 128 i,zI 129 (i+1),zS 130 (sA b1 (off1+i.toNat*7)) ((i+1).toNat - i.toNat) (sc - i.toNat)] (oC (show IntKind.i64.wrap (i+1)=i+1 from wrap_i64 (by omega) (by omega)) (oC hi0 (oC (show i≤i+1 from by omega) (oC (show i+1≤(↑sc:Int) from by omega) (oC (show i<(↑sc:Int) from by omega) oN))))) ?_
  refine JR_call [] [1] 19 #[.pointer (some (⟨qb,0,none⟩))] (some 125) (by kernel_rfl) (by kernel_rfl) (by decide) (fun w S M hP hG _=>?_)
  refine(placeSnapshot hP hpl.toPlOk).mono ?_
  rintro e2 w2 ⟨a3,n3,c3,hR⟩
  refine⟨_,_,_,hR,?_⟩
  try simp only[aQ]
  refine Yc 28 #[.slice (sA b1 (off1+i.toNat*7)) ((i+1).toNat - i.toNat) (sc - i.toNat)] (some 131) fun w S hG=>?_
  refine(ownOps2 (l:=[o]) (hG.at 4 rfl) (by simp) (fun q hq=>by rw[List.mem_singleton.1 hq];omega)).mono ?_
  rintro e3 w3 ⟨u5,m5,d5,hR⟩
  refine⟨_,_,_,hR,?_⟩
  try simp only[aQ]
  refine JR_call [] [1] 22 #[.pointer (some (⟨qb,0,none⟩)),.slice a3 n3 c3,.slice u5 m5 d5] (some 132) (by kernel_rfl) (by kernel_rfl) (by decide) (fun w S M hP hG _=>?_)
  refine(placeCommitAny (n:=n) (x:=x.P 1) (at':=snapL (x.P 1)) (ops:=[o]) (hG.at 0 rfl) hP hpl (by omega) (hG.at 5 rfl) (hG.at 6 rfl) (by omega) (by simp) (fun q hq=>by rw[List.mem_singleton.1 hq];omega)).mono ?_
  rintro e4 w4 ⟨u1,m1,d1,z,u2,m2,d2,u3,m3,d3,v,x',hR,hv,hx'⟩
  obtain⟨x2,hA2,e5,e6⟩:=hA.more (by omega) (by decide) (fun q hq=>by rw[List.mem_singleton.1 hq];omega) hx'
  rw[←e5]at hR
  refine⟨_,_,_,hR,?_⟩
  rw[←e6 0 (by decide)]
  try simp only[aQ]
  refine Ya (Rds 10 14) [] [zV 122 (.tuple #[.agg #[.slice u1 m1 d1,nI z,.slice u2 m2 d2],.slice u3 m3 d3,v]),zV 133 (.agg #[.slice u1 m1 d1,nI z,.slice u2 m2 d2]),zS 134 u3 m3 d3,zV 135 v] ?_
  try simp only[aQ]
  refine JR_end ?_
  try simp only[aQ]
  refine J_eb ?_
  try simp only[aQ]
  refine Nm [(cPlace pb (x2.P 0)),(cPlace qb (x2.P 1))] ?_
  refine J_cut (E':=[zS 1 fa first.length fc,zS 2 (some ⟨b1,off1,none⟩) second.length sc,zV 3 (.string ky),zB 8 false,zV 10 (.pointer (some ⟨pb,0,none⟩)),zV 12 (.pointer (some ⟨qb,0,none⟩)),zI 14 i]) (h':=[]) (C':=[_,_]) (G':=[_,_,_]) [1,2,3,8,10,12,14] [] [0,1] [0,1,2] (by kernel_rfl) rfl rfl rfl ?_
  exact H x2 hA2
 ·refine J_skip ?_
  refine J_eb ?_
  refine Nm [(cPlace pb (x.P 0)),(cPlace qb (x.P 1))] ?_
  refine J_cut (E':=[zS 1 fa first.length fc,zS 2 sa second.length sc,zV 3 (.string ky),zB 8 false,zV 10 (.pointer (some ⟨pb,0,none⟩)),zV 12 (.pointer (some ⟨qb,0,none⟩)),zI 14 i]) (h':=[]) (C':=[_,_]) (G':=[_,_,_]) [1,2,3,8,10,12,14] [] [0,1] [0,1,2] (by kernel_rfl) rfl rfl rfl ?_
  exact H x hA.mono
end Go.Proofs.YtmkapocibaojdaaGreatDoor
end
section
namespace Go.Proofs.YtmkapocibaojdaaGreatDoor
open Go Go.Sx
set_option maxHeartbeats 8000000 in
theorem twoFst {w0:World} {S0:Nat→Prop} {er:Nat→Addr} {eb:Nat→Array Value×TypeId} {kr:List Itm} {Z:Sk} {sh n:Nat} {x:Net} {ky:ByteArray} {pb qb:Nat} {fa sa:Option Addr} {fc sc:Nat} {first second:List OpT} {i:Int} (hA:TwoA sh x n) (hn:n≤100) (hi0:0≤i) (hi8:i≤8) (hf8:first.length≤8) (hs8:second.length≤8) (hfc:first.length≤fc)
  (H:∀x':Net,TwoA sh x' (n+1)→J Tryz.prog Tryz.f6 (retR Tryz.prog Tryz.f6 fun e w'=>Ret [] (zero w0) S0 w' e (.bool true) [] []) Tryz.f6.ntmps (.c (.rg 15 false)::.c Z::kr) [(1,.val (.slice fa first.length fc)),(2,.val (.slice sa second.length sc)),(3,.val (.string ky)),(8,.val (.bool false)),(10,.val (.pointer (some ⟨pb,0,none⟩))),(12,.val (.pointer (some ⟨qb,0,none⟩))),(14,.val (.int .i64 i))] [] [] [([],zero w0)] ⟨newS S0 [] w0,[cPlace pb (x'.P 0),cPlace qb (x'.P 1)],[(.nilIface,dC er eb),(.slice fa first.length fc,.sl 7 (first.map eOp)),(.slice sa second.length sc,.sl 7 (second.map eOp))]⟩) :
  J Tryz.prog Tryz.f6 (retR Tryz.prog Tryz.f6 fun e w'=>Ret [] (zero w0) S0 w' e (.bool true) [] []) Tryz.f6.ntmps (.c (.rg 11 false)::.c (.cond (.tmp 91) (.seq (.seq (.rg 12 false) (.cond (.tmp 97) (.seq (.rg 13 false) .ret) .skip)) (.rg 14 true)) .skip)::.c (.seq (.rg 15 false) Z)::kr) [(1,.val (.slice fa first.length fc)),(2,.val (.slice sa second.length sc)),(3,.val (.string ky)),(8,.val (.bool false)),(10,.val (.pointer (some ⟨pb,0,none⟩))),(12,.val (.pointer (some ⟨qb,0,none⟩))),(14,.val (.int .i64 i))] [] [] [([],zero w0)] ⟨newS S0 [] w0,[cPlace pb (x.P 0),cPlace qb (x.P 1)],[(.nilIface,dC er eb),(.slice fa first.length fc,.sl 7 (first.map eOp)),(.slice sa second.length sc,.sl 7 (second.map eOp))]⟩:=by
 refine Za (Rds 0 4) [] [zI 88 i,zS 89 fa first.length fc,zI 90 (↑first.length:Int),zB 91 (decide (i<(↑first.length:Int)))] ?_
 refine cC (t:=decide (i<(↑first.length:Int))) (fun hlt=>?_) (fun hlt=>?_)
 ·have hlt2:i<first.length:=of_decide_eq_true hlt
  obtain⟨o,ho⟩:∃o,first[i.toNat]?=some o:=⟨_,List.getElem?_eq_getElem (by omega)⟩
  refine J_read1 1 rfl i.toNat (map_at ho) (by kernel_rfl) (fun b1 off1 cs1 ty1 fz1 a1_0 c1_0 ha1 hrd1=>?_)
  cases ha1
  have hrd1_0:=rd0 (hrd1 0 _ rfl)
  have hrd1_1:=hrd1 1 _ rfl
  have hrd1_2:=hrd1 2 _ rfl
  have hrd1_3:=hrd1 3 _ rfl
  have hrd1_4:=hrd1 4 _ rfl
  have hrd1_5:=hrd1 5 _ rfl
  have hrd1_6:=hrd1 6 _ rfl
  try simp only[aQ]
  refine J_seq ?_
  refine jS [(0,true),(1,true),(2,true),(3,true),(4,false),(5,true)] [] ?_
  refine Yp [zR 0,zR 1,.rd 2 [] 0 2,.rd 3 [.r 0 (some (nI o.no)),.r 0 (some (.string o.key)),.r 0 (some (nI o.kind)),.r 0 (some (.string o.text)),.r 0 (some (nI o.n)),.r 0 (some (.bool o.remove)),.r 0 (some (.slice (a1_0,c1_0).fst ((List.map eDot o.dots).length) c1_0))] 0 0] [] [zS 92 (sA b1 off1) first.length fc,zI 93 i,zV 94 (.pointer (sA b1 (off1+i.toNat*7))),zV 95 (.agg #[nI o.no,.string o.key,nI o.kind,.string o.text,nI o.n,.bool o.remove,.slice (a1_0,c1_0).fst ((List.map eDot o.dots).length) c1_0])] (oC hi0 (oC hlt2 (oC hrd1_0 (oC hrd1_1 (oC hrd1_2 (oC hrd1_3 (oC hrd1_4 (oC hrd1_5 (oC hrd1_6 oN))))))))) ?_
  refine Yc 27 #[.agg #[nI o.no,.string o.key,nI o.kind,.string o.text,nI o.n,.bool o.remove,.slice (a1_0,c1_0).fst ((List.map eDot o.dots).length) c1_0],nI 2] (some 96) fun w S hG=>?_
  refine(opError (o:=o) (hG.at 3 rfl)).mono ?_
  rintro e1 w1 hR
  refine⟨_,_,_,hR,?_⟩
  try simp only[aQ]
  refine Ya [zR 5] [] [zB 97 (decide ((↑(opErr o 2):Int)>0))] ?_
  refine JR_end ?_
  refine cC (t:=decide ((↑(opErr o 2):Int)>0)) (fun hop=>?_) (fun hop=>?_)
  ·refine J_seq ?_
   refine Za [zR 0] [] [zB 8 true] ?_
   refine Yr [[]] (.bool true) fun a w s=>?_
   exact s.retz (by simp) [] [] rfl rfl
  have ho0:opErr o 2=0:=by
   have:=of_decide_eq_false hop
   omega
  have hod:=(opErr_zero ho0).2.2.1
  have hpl:=hA.sys.net.pin 0 (by decide)
  have hsl:=snapL_len (x.P 0)
  have hp6:=hpl.p6
  refine J_skip ?_
  have hone:((first.map eOp).drop i.toNat).take 1=[o].map eOp:=by
   rw[←List.map_drop,←List.map_take,List.take_one,List.head?_drop,ho]
   rfl
  refine J_stp (stp_fact (v:=.slice (some ⟨b1,off1+i.toNat*7,none⟩) ((i+1).toNat - i.toNat) (fc - i.toNat)) (d:=.sl 7 ([o].map eOp)) fun w S H=>by
   have h:=H (.slice (some ⟨b1,off1,none⟩) first.length fc,.sl 7 (first.map eOp)) (List.mem_of_getElem? (i:=1) rfl)
   have h2:=(h.dropS i.toNat (by rw[List.length_map];omega)).takeS 1 (by rw[List.length_drop,List.length_map];omega)
   rw[hone]at h2
   rw[show(i+1).toNat - i.toNat=1 by omega]
   exact h2) ?_
  refine Nm [(cPlace pb (x.P 0)),(cPlace qb (x.P 1))] ?_
  try simp only[aQ]
  refine jT [(0,true),(1,true),(3,true),(4,true),(5,true),(6,true),(7,true),(2,false),(8,false),(9,false),(10,true),(11,true),(12,true),(13,true)] [(2,[]),(9,[])] ?_
  refine Yp ([zR 0,zR 1]++Rds 3 6++[.rd 6 [] 0 1,.rd 7 [] 0 4]) [] [zP 99 pb,zP 100 pb,zS 102 (sA b1 off1) first.length fc,zI 103 i,zI 104 i,zI 105 (i+1),zS 106 (sA b1 (off1+i.toNat*7)) ((i+1).toNat - i.toNat) (fc - i.toNat)] (oC (show IntKind.i64.wrap (i+1)=i+1 from wrap_i64 (by omega) (by omega)) (oC hi0 (oC (show i≤i+1 from by omega) (oC (show i+1≤(↑fc:Int) from by omega) (oC (show i<(↑fc:Int) from by omega) oN))))) ?_
  refine JR_call [] [0] 19 #[.pointer (some (⟨pb,0,none⟩))] (some 101) (by kernel_rfl) (by kernel_rfl) (by decide) (fun w S M hP hG _=>?_)
  refine(placeSnapshot hP hpl.toPlOk).mono ?_
  rintro e2 w2 ⟨a3,n3,c3,hR⟩
  refine⟨_,_,_,hR,?_⟩
  try simp only[aQ]
  refine Yc 28 #[.slice (sA b1 (off1+i.toNat*7)) ((i+1).toNat - i.toNat) (fc - i.toNat)] (some 107) fun w S hG=>?_
  refine(ownOps2 (l:=[o]) (hG.at 4 rfl) (by simp) (fun q hq=>by rw[List.mem_singleton.1 hq];omega)).mono ?_
  rintro e3 w3 ⟨u5,m5,d5,hR⟩
  refine⟨_,_,_,hR,?_⟩
  try simp only[aQ]
  refine JR_call [] [1] 22 #[.pointer (some (⟨pb,0,none⟩)),.slice a3 n3 c3,.slice u5 m5 d5] (some 108) (by kernel_rfl) (by kernel_rfl) (by decide) (fun w S M hP hG _=>?_)
  refine(placeCommitAny (n:=n) (x:=x.P 0) (at':=snapL (x.P 0)) (ops:=[o]) (hG.at 0 rfl) hP hpl (by omega) (hG.at 5 rfl) (hG.at 6 rfl) (by omega) (by simp) (fun q hq=>by rw[List.mem_singleton.1 hq];omega)).mono ?_
  rintro e4 w4 ⟨u1,m1,d1,z,u2,m2,d2,u3,m3,d3,v,x',hR,hv,hx'⟩
  obtain⟨x2,hA2,e5,e6⟩:=hA.more (by omega) (by decide) (fun q hq=>by rw[List.mem_singleton.1 hq];omega) hx'
  rw[←e5]at hR
  refine⟨_,_,_,hR,?_⟩
  rw[←e6 1 (by decide)]
  try simp only[aQ]
  refine Ya (Rds 10 14) [] [zV 98 (.tuple #[.agg #[.slice u1 m1 d1,nI z,.slice u2 m2 d2],.slice u3 m3 d3,v]),zV 109 (.agg #[.slice u1 m1 d1,nI z,.slice u2 m2 d2]),zS 110 u3 m3 d3,zV 111 v] ?_
  try simp only[aQ]
  refine JR_end ?_
  try simp only[aQ]
  refine J_seq ?_
  try simp only[aQ]
  refine Nm [(cPlace qb (x2.P 1)),(cPlace pb (x2.P 0))] ?_
  refine J_cut (E':=[zS 1 (some ⟨b1,off1,none⟩) first.length fc,zS 2 sa second.length sc,zV 3 (.string ky),zB 8 false,zV 10 (.pointer (some ⟨pb,0,none⟩)),zV 12 (.pointer (some ⟨qb,0,none⟩)),zI 14 i]) (h':=[]) (C':=[_,_]) (G':=[_,_,_]) [1,2,3,8,10,12,14] [] [1,0] [0,1,2] (by kernel_rfl) rfl rfl rfl ?_
  exact H x2 hA2
 ·refine J_skip ?_
  refine J_seq ?_
  refine Nm [(cPlace pb (x.P 0)),(cPlace qb (x.P 1))] ?_
  refine J_cut (E':=[zS 1 fa first.length fc,zS 2 sa second.length sc,zV 3 (.string ky),zB 8 false,zV 10 (.pointer (some ⟨pb,0,none⟩)),zV 12 (.pointer (some ⟨qb,0,none⟩)),zI 14 i]) (h':=[]) (C':=[_,_]) (G':=[_,_,_]) [1,2,3,8,10,12,14] [] [0,1] [0,1,2] (by kernel_rfl) rfl rfl rfl ?_
  exact H x hA.mono
end Go.Proofs.YtmkapocibaojdaaGreatDoor
end
