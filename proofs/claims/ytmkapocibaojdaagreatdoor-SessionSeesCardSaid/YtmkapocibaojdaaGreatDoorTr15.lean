/- Part 15 of the texts of a claim: Net5 Net6 Net7 Net8 Net9 SeF SeG SeH SnQ SnV SkQ SkW SeO. -/
import Derived.Test.YtmkapocibaojdaaGreatDoorTr14
open Bool renaming or_eq_true → j8
open ByteArray renaming mk → aL
open Classical renaming byContradiction → bU
open Int renaming le_refl → fq, toNat_natCast → aR, toNat_of_nonneg → cW
open List renaming any_eq_true → gL, ext_getElem? → eH, filter_eq_nil_iff → gz, filter_eq_self → fk, foldl_cons → iw, getD_eq_getElem?_getD → aO, getElem?_append_left → bz, getElem?_append_right → bt, getElem?_eq_getElem → ak, getElem?_eq_none → cO, getElem?_eq_some_iff → ai, getElem?_map → aF, getElem?_of_mem → aJ, getElem?_range → ew, getElem?_set_ne → cN, getElem?_set_self → bX, getElem_mem → cz, length → fo, length_append → bA, length_cons → eF, length_drop → gm, length_eq_zero_iff → eV, length_map → aA, length_nil → lW, length_range → ir, map → aj, map_append → bw, map_congr_left → cB, map_cons → cj, map_eq_nil_iff → cM, map_map → fc, map_nil → gy, mem_append → au, mem_cons → cE, mem_cons_of_mem → bk, mem_cons_self → bl, mem_filter → aP, mem_flatMap → gM, mem_flatten → cK, mem_map → aB, mem_map_of_mem → eT, mem_of_getElem? → ae, mem_or_eq_of_mem_set → jc, mem_range → dX, mem_singleton → ay, nil_append → j9, pairwise_iff_getElem → bV, pairwise_map → fU, perm_append_comm → fA, range → bD, range_succ → jh, replicate → aD, sum_cons → lO, take_length → iP
open List.Pairwise renaming nil → jq
open List.Perm renaming cons → mT
open Nat renaming add_zero → dZ, le_refl → aX, le_trans → aZ, lt_or_ge → dP
open Option renaming map_eq_some_iff → aI, map_some → dU
open Option.some renaming inj → dG
open Prod.mk renaming inj → kP
section
namespace Go.Sx
open Go
theorem uV:∀(n:Nat) (L:List bN) (q t:Int),L.length<n→kept (drain n L q t).2.1 ((drain n L q t).2.2.1+1)=none
 | 0,L,q,t,h=>by omega
 | n+1,L,q,t,h=>by
  unfold drain
  cases hk:kept L (q+1)with
  | none=>exact hk
  | some m=>exact uV n (gF L (q+1)) (q+1) m.time (by have:=pZ hk;omega)
theorem DM {L:List bN} {k:Int} {m z:bN} (h:kept L k=some m) (hz:z∈L):z=m∨z∈gF L k:=by
 by_cases hs:z.seq=k
 ·have:=List.find?_eq_some_iff_append.1 h
  obtain⟨_,us,bs,rfl,has⟩:=this
  have hd:gF (us++m::bs) k=us++bs:=by
   unfold gF
   rw[List.eraseP_append_right _ (fun x hx=>by simpa using has x hx)]
   rw[List.eraseP_cons_of_pos]
   simpa using pP h
  rw[hd]
  rcases au.1 hz with hz|hz
  ·exact .inr (au.2 (.inl hz))
  ·rcases cE.1 hz with hz|hz
   ·exact .inl hz
   ·exact .inr (au.2 (.inr hz))
 ·refine .inr ?_
  unfold gF
  exact(List.mem_eraseP_of_neg (by simpa using hs)).2 hz
theorem yw:∀(n:Nat) (L:List bN) (q t:Int),∀z∈L,z∈(drain n L q t).1∨z∈(drain n L q t).2.1
 | 0,L,q,t=>fun z hz=>.inr hz
 | n+1,L,q,t=>fun z hz=>by
  unfold drain
  cases hk:kept L (q+1)with
  | none=>exact .inr hz
  | some m=>
   rcases DM hk hz with rfl|hz
   ·exact .inl (bl ..)
   ·rcases yw n (gF L (q+1)) (q+1) m.time z hz with h|h
    ·exact .inl (bk _ h)
    ·exact .inr h
end Go.Sx
namespace Go.Proofs.YtmkapocibaojdaaGreatDoor
open Go Go.Sx
def yV (y:bB):Prop:=∀z∈y.l,z.seq≠y.q+1
def Has (y:bB) (H:List bN) (i:Nat):Prop:=(i:Int)<y.q∨∃z∈y.l,H[i]?=some z
section strm
variable {K:List bO} {ah f t sh:Nat} {H:List bN}
theorem Iq (hs:sO K ah f t sh H) {y:bB} {m:bN} {j:Nat} (hr:rV y H) (h1:y.fm=f) (h2:y.to=t) (h3:y.sh=sh) (hd:nQ y.l) (hq:0≤y.q) (hm:H[j]?=some m) (hK:(K.length:Int)≤1099511627776) (hc:yV y) :
  yV (bB.heard y m)∧(∀i,Has y H i→Has (bB.heard y m) H i)∧((bB.dK y m).1=0→Has (bB.heard y m) H j):=by
 obtain⟨m1,m2,m3,m4,m5,m6,_⟩:=hs.at' j m hm
 have c1:¬(m.fm≠y.fm∨m.to≠y.to∨m.de≠y.sh):=by omega
 have c2:¬(m.seq<1∨m.time<0∨1099511627776<m.time):=by omega
 by_cases c3:m.seq≤y.q
 ·have e:bB.heard y m=y:=by simp[bB.heard,bB.dK,gO,if_neg c1,if_neg c2,if_pos c3]
  rw[e]
  exact⟨hc,fun _ h=>h,fun _=>.inl (by omega)⟩
 by_cases c4:201<m.seq - y.q
 ·have e0:bB.dK y m=(7,[],⟨y.l,y.q,y.t⟩):=by rw[bB.dK,gO,if_neg c1,if_neg c2,if_neg c3,if_pos c4]
  have e:bB.heard y m=y:=by simp[bB.heard,e0]
  rw[e,e0]
  exact⟨hc,fun _ h=>h,fun h=>by cases h⟩
 have key:∀L1:List bN,bB.dK y m=(0,(ez L1 y.q y.t).1,⟨(ez L1 y.q y.t).2.1,(ez L1 y.q y.t).2.2.1,(ez L1 y.q y.t).2.2.2⟩)→nQ L1→(∀z∈L1,∃i:Nat,H[i]?=some z∧y.q≤i)→(∀z∈y.l,z∈L1)→(∃z∈L1,H[j]?=some z)→yV (bB.heard y m)∧(∀i,Has y H i→Has (bB.heard y m) H i)∧((bB.dK y m).1=0→Has (bB.heard y m) H j):=fun L1 h Qz QH PS WM=>by
  have TN:((y.q.toNat:Nat):Int)=y.q:=cW hq
  obtain⟨d1,_,_,d4⟩:=tN (L1.length+1) L1 y.q.toNat y.t Qz fun z hz=>by
   obtain⟨i,hi,R8⟩:=QH z hz
   exact⟨i,hi,by omega,(hs.at' i z hi).2.2.2.1⟩
  rw[TN]at d1 d4
  have dq:=wS (L1.length+1) L1 y.q y.t
  have dc:=uV (L1.length+1) L1 y.q y.t (Nat.lt_succ_self _)
  have hin:∀(i:Nat) z,z∈L1→H[i]?=some z→Has (bB.heard y m) H i:=fun i z hz hi=>by
   unfold Has
   simp only[bB.heard,h,ez]
   rcases yw (L1.length+1) L1 y.q y.t z hz with h5|h5
   ·rw[d1]at h5
    obtain⟨k,k1,k2,k3⟩:=tB.1 h5
    have e1:=(hs.at' i z hi).2.2.2.1
    have e2:=(hs.at' k z k3).2.2.2.1
    left
    omega
   ·exact .inr ⟨z,h5,hi⟩
  refine⟨fun z hz=>?_,fun i hi=>?_,fun _=>?_⟩
  ·simp only[bB.heard,h,ez]at hz ⊢
   exact sD.1 dc z hz
  ·rcases hi with hi|⟨z,hz,hi⟩
   ·left
    simp only[bB.heard,h,ez]
    omega
   ·exact hin i z (PS z hz) hi
  ·obtain⟨z,hz,hi⟩:=WM
   exact hin j z hz hi
 cases hk:kept y.l m.seq with
 | none=>
  refine key (y.l++[m]) (by rw[bB.dK,gO,if_neg c1,if_neg c2,if_neg c3,if_neg c4];simp only[hk]) (hd.app hk) (fun z hz=>?_) (fun z hz=>au.2 (.inl hz)) ⟨m,by simp,hm⟩
  rcases au.1 hz with hz|hz
  ·exact hr.l z hz
  ·obtain rfl:=ay.1 hz
   exact⟨j,hm,by omega⟩
 | some z=>
  refine key y.l (by rw[bB.dK,gO,if_neg c1,if_neg c2,if_neg c3,if_neg c4];simp only[hk]) hd (fun z hz=>hr.l z hz) (fun z hz=>hz) ⟨z,pQ hk,?_⟩
  obtain⟨i,hi,_⟩:=hr.l z (pQ hk)
  have e1:=(hs.at' i z hi).2.2.2.1
  have e2:=pP hk
  have:i=j:=by omega
  rw[←this]
  exact hi
theorem EE {y:bB} (hr:rV y H) (hq:0≤y.q) (hs:sO K ah f t sh H) (hc:yV y) (ha:∀i<H.length,Has y H i):y.q=H.length∧y.t=iC H H.length:=by
 have h1:=hr.q
 have h2:y.q=H.length:=by
  apply Int.le_antisymm h1
  apply Int.le_of_not_gt
  intro hlt
  rcases ha y.q.toNat (by omega)with h|⟨z,hz,hi⟩
  ·omega
  ·have:=(hs.at' _ z hi).2.2.2.1
   exact hc z hz (by omega)
 refine⟨h2,?_⟩
 rw[hr.t,h2,aR]
end strm
section lA
variable {places ah n:Nat} {x:Net}
def k9 (places:Nat) (x:Net):Prop:=∀u<places,∀r∈(x.P u).rs,yV r
def JJ (x:Net) (f t sh i:Nat):Prop:=∃r∈(x.P t).rs,r.fm.toNat=f∧r.sh.toNat=sh∧Has r (x.H f t sh) i
theorem cw.Ir (h:cw places ah x n) (wQ:k9 places x) {t f sh j:Nat} {m:bN} (ht:t<places) (hf:f<places) (hne:f≠t) (hs:sh<ah) (hm:(x.H f t sh)[j]?=some m) :
  k9 places (x.ox t (ep (x.P t) m).2.2)∧(∀a b c i,JJ x a b c i→JJ (x.ox t (ep (x.P t) m).2.2) a b c i)∧((ep (x.P t) m).1=0→JJ (x.ox t (ep (x.P t) m).2.2) f t sh j):=by
 obtain⟨i1,i2,i3⟩:=h.pid t ht
 have hst:=h.msg f hf t ht (Ne.symm hne) sh hs
 obtain⟨m1,m2,m3,m4,m5,m6,_⟩:=hst.at' j m hm
 obtain⟨y,hy,y1,y2,y3⟩:=h.HB ht hf hne hs
 have hmem:=ae hy
 have PS:=(ai.1 hy).1
 have MX:kB (x.P t) m=0:=by rw[kB,i1,i2,i3,if_neg (by omega),if_neg (by omega)]
 have hpos:sJ (x.P t) m=fZ t ah f+sh:=by rw[sJ,i1,i3,m1,m3,aR,aR]
 have hrc:=h.vj t ht y hmem
 rw[y1,y2,aR,aR]at hrc
 obtain⟨r1,r2,r3⟩:=(h.kY t ht).vj y hmem
 have hK:((x.K f).length:Int)≤1099511627776:=by
  rw[h.tW f hf]
  exact(h.kY f hf).c1
 obtain⟨g1,g2,g3⟩:=Iq hst hrc y1 y3 y2 r3 r1 hm hK (wQ t ht y hmem)
 have hE:ep (x.P t) m=if (bB.dK y m).1≠0 then ((bB.dK y m).1,[],x.P t)else (0,[Gi (x.P t) m (bB.heard y m).q],{ x.P t with rs:=(x.P t).rs.set (fZ t ah f+sh) (bB.heard y m),L:=iS (x.P t).places (x.P t).base m.fm (x.P t).L (bB.dK y m).2.1 }):=by
  rw[ep,if_neg (by simp[MX]),if_neg (by omega),hpos,hy]
 rw[hE]
 by_cases hc:(bB.dK y m).1≠0
 ·rw[if_pos hc]
  simp only[zz]
  exact⟨wQ,fun _ _ _ _ h=>h,fun h=>absurd h hc⟩
 rw[if_neg hc]
 have PR:bB.heard y m∈(x.P t).rs.set (fZ t ah f+sh) (bB.heard y m):=ae (bX PS)
 refine⟨fun u hu r hr=>?_,fun a b c i ⟨r,hr,ha,hb,hh⟩=>?_,fun _=>?_⟩
 ·by_cases PY:u=t
  ·subst PY
   rw[kz]at hr
   rcases mD hr with hr|rfl
   ·exact wQ u hu r hr
   ·exact g1
  ·rw[kW _ _ PY]at hr
   exact wQ u hu r hr
 ·by_cases VN:b=t
  ·subst VN
   unfold JJ
   rw[kz]
   obtain⟨k,hk⟩:=aJ hr
   by_cases hkp:fZ b ah f+sh=k
   ·rw[←hkp,hy]at hk
    obtain rfl:=dG hk
    rw[y1,aR]at ha
    rw[y2,aR]at hb
    subst ha hb
    exact⟨_,PR,by rw[show(bB.heard y m).fm=y.fm from rfl,y1,aR],by rw[show(bB.heard y m).sh=y.sh from rfl,y2,aR],g2 i hh⟩
   ·exact⟨r,ae (i:=k) (by rw[cN hkp];exact hk),ha,hb,hh⟩
  ·unfold JJ
   rw[kW _ _ VN]
   exact⟨r,hr,ha,hb,hh⟩
 ·unfold JJ
  rw[kz]
  exact⟨_,PR,by rw[show(bB.heard y m).fm=y.fm from rfl,y1,aR],by rw[show(bB.heard y m).sh=y.sh from rfl,y2,aR],g3 (by simpa using hc)⟩
theorem cw.KO (h:cw places ah x n) (wQ:k9 places x) {t f:Nat} (ht:t<places) (hf:f<places) (hne:f≠t) (hg:∀sh<ah,∀i<(x.H f t sh).length,JJ x f t sh i) {T:Int} (hT:∀sh<ah,iC (x.H f t sh) (x.H f t sh).length=T):gf (x.P t) f=T:=by
 obtain⟨i1,i2,i3⟩:=h.pid t ht
 have hs1:=(h.kY t ht).s1
 rw[i3]at hs1
 have hall:∀r∈(x.P t).rs,r.fm.toNat=f→r.t=T:=fun r hr hrf=>by
  obtain⟨p1,p2,p3⟩:=h.pair ht hr
  have hrc:=h.vj t ht r hr
  rw[hrf]at hrc
  rw[←hT _ p3]
  refine(EE hrc ((h.kY t ht).vj r hr).1 (h.msg f hf t ht (Ne.symm hne) _ p3) (wQ t ht r hr) fun i hi=>?_).2
  obtain⟨r2,Ch,ha,hb,hh⟩:=hg _ p3 i hi
  have:r2=r:=h.vu ht Ch hr (by rw[fJ.nS,fJ.nS,ha,hb,hrf])
  rw[←this]
  rw[←this]at hh
  exact hh
 rw[gf,if_neg (by rw[i1];exact hne)]
 obtain⟨r,hr,hrf,_⟩:=h.recv ht hf hne (show 0<ah by omega)
 have pT:((x.P t).rs.filter fun r=>decide (r.fm.toNat=f)).map (·.t)≠[]:=by
  intro h0
  rw[cM,gz]at h0
  exact h0 r hr (by simp[hrf])
 obtain⟨z,hz,zY⟩:=aB.1 (xG pT)
 obtain⟨Tz,Jv⟩:=aP.1 hz
 rw[←zY]
 exact hall z Tz (of_decide_eq_true Jv)
end lA
end Go.Proofs.YtmkapocibaojdaaGreatDoor
end
section
namespace Go.Proofs.YtmkapocibaojdaaGreatDoor
open Go Go.Sx
def iU (places ah:Nat):Net:=⟨fun i=>iM i places ah,fun _ _ _=>[],fun _=>[]⟩
section
variable {places ah n:Nat} {x:Net}
theorem MH {id:Nat} {s:dL} (hs:s∈(iM id places ah).ss):∃a b:Nat,s=⟨id,a,b,0,0,[]⟩:=by
 obtain⟨q,_,rfl⟩:=aB.1 hs
 exact⟨_,_,rfl⟩
theorem HO {id:Nat} {s:bB} (hs:s∈(iM id places ah).rs):∃a b:Nat,s=⟨a,id,b,0,0,[]⟩:=by
 obtain⟨q,_,rfl⟩:=aB.1 hs
 exact⟨_,_,rfl⟩
theorem Ke (hp1:1≤places) (y9:places≤6) (hs1:1≤ah) (FQ:ah≤6):cw places ah (iU places ah) 0 where
 kY i hi:=AO 0 hp1 y9 hs1 FQ hi
 pid i _:=⟨rfl,rfl,rfl⟩
 tW i _:=rfl
 tg i _ j C h:=by simp[iU]at h
 msg f _ t _ _ sh _:=⟨fun j m h=>by simp[iU]at h,jq,fun C h=>by simp[iU]at h⟩
 snd f _ s hs:=by
  obtain⟨a,b,rfl⟩:=MH hs
  exact⟨rfl,rfl,0,aX _,rfl⟩
 vj t _ r hr:=by
  obtain⟨a,b,rfl⟩:=HO hr
  exact⟨fq _,rfl,fun m h=>by cases h⟩
 L t _ q:=by
  constructor
  ·intro h
   cases h
  ·rintro(⟨C,hC,_⟩|⟨r,_,j,m,h,_⟩)
   ·cases hC
   ·simp[iU]at h
 nodup t _:=List.nodup_nil
 base t ht u hu:=by
  refine rB (by simp[iU,iM,bG]) fun j a b ha hb=>?_
  have h1:a=0:=by
   have:=ae ha
   exact List.eq_of_mem_replicate this
  have h2:=ae hb
  obtain⟨k,hk,rfl⟩:=aB.1 h2
  have:=(BL (AO 0 hp1 y9 hs1 FQ hu).toyM (dX.1 hk)).1
  rw[h1]
  exact this
theorem DS:k9 places (iU places ah):=fun u _ r hr=>by
 obtain⟨a,b,rfl⟩:=HO hr
 intro z hz
 cases hz
theorem k9.ju {f:Nat} {p:fJ} {K':List bO} {X:Nat→Nat→List bN} (h:k9 places x) (hp:p.rs=(x.P f).rs):k9 places (x.ju f p K' X):=fun u hu r hr=>by
 by_cases PZ:u=f
 ·subst PZ
  rw[jX,hp]at hr
  exact h u hu r hr
 ·rw[jW PZ]at hr
  exact h u hu r hr
theorem cw.A' (h:cw places ah x n) {f:Nat} (hf:f<places) {C:bO} (hC:C.place=f) {y:dL} (hy:y∈(x.P f).ss):Cs x ah f C y.to.toNat y.sh.toNat=tA ah C y:=by
 have CT:=h.snd f hf y hy
 obtain⟨w1,w2⟩:=(h.kY f hf).way y hy
 have hsh:((y.sh.toNat:Nat):Int)=y.sh:=cW w2
 have hto:((y.to.toNat:Nat):Int)=y.to:=cW w1
 obtain⟨i1,i2,i3⟩:=h.pid f hf
 unfold Cs tA
 rw[hsh]
 split
 ·rfl
 ·have h1:(ei ah C y.sh).when.getD (ei ah C y.sh).place.toNat 0=C.when.getD f 0:=by
   show C.when.getD C.place.toNat 0=_
   rw[hC,aR]
  have h2:=((h.kY f hf).snd y hy).1
  rw[hto,dL.msg,CT.q,h1,h2,i1]
theorem cw.yI (h:cw places ah x n) {f:Nat} (hf:f<places) {y:dL} (hy:y∈(x.P f).ss):Ah x f y.to.toNat y.sh.toNat=[dL.kC y (x.P f).clock]:=by
 have CT:=h.snd f hf y hy
 obtain⟨w1,w2⟩:=(h.kY f hf).way y hy
 have hsh:((y.sh.toNat:Nat):Int)=y.sh:=cW w2
 have hto:((y.to.toNat:Nat):Int)=y.to:=cW w1
 have h2:=((h.kY f hf).snd y hy).1
 rw[Ah,dL.kC,hsh,hto,CT.q,h2,(h.pid f hf).1,h.tW f hf]
theorem cw.IN (h:cw places ah x n) {f:Nat} (hf:f<places) {C:bO} (hC:C.place=f) {m:bN} (hm:m∈lM (x.P f) C):∃t sh:Nat,t<places∧t≠f∧sh<ah∧m.to=t∧((gU x ah f C).H f t sh)[(x.H f t sh).length]?=some m:=by
 obtain⟨l,hl,hm⟩:=cK.1 hm
 obtain⟨y,hy,rfl⟩:=aB.1 hl
 obtain⟨p1,p2,p3⟩:=h.B1 hf hy
 obtain⟨w1,w2⟩:=(h.kY f hf).way y hy
 rw[(h.pid f hf).2.2]at hm
 have e:=h.A' hf hC hy
 have e2:tA ah C y=[m]∧m.to=y.to:=by
  unfold tA at hm ⊢
  split at hm
  ·cases hm
  ·rename_i h0
   rw[if_neg h0,ay.1 hm]
   exact⟨rfl,rfl⟩
 refine⟨_,_,p1,p2,p3,by omega,?_⟩
 rw[gU,lP,e,e2.1,List.getElem?_concat_length]
theorem cw.Gf (h:cw places ah x n) {f:Nat} (hf:f<places) {m:bN} (hm:m∈iE (x.P f)):∃t sh:Nat,t<places∧t≠f∧sh<ah∧m.to=t∧((gb x f).H f t sh)[(x.H f t sh).length]?=some m:=by
 obtain⟨y,hy,rfl⟩:=aB.1 hm
 obtain⟨p1,p2,p3⟩:=h.B1 hf hy
 obtain⟨w1,w2⟩:=(h.kY f hf).way y hy
 refine⟨_,_,p1,p2,p3,by show y.to=_;omega,?_⟩
 rw[gb,lP,h.yI hf hy,List.getElem?_concat_length]
theorem cw.zw (h:cw places ah x n) {t f sh:Nat} (ht:t<places) (hf:f<places) (hne:t≠f) (hs:sh<ah):∃y∈(x.P f).ss,y.to.toNat=t∧y.sh.toNat=sh:=by
 obtain⟨i1,i2,i3⟩:=h.pid f hf
 have h1:=(h.kY f hf).ss
 have h2:=sw (id:=f) (ah:=ah) (places:=places) ht hne hs
 rw[i1,i2,i3]at h1
 rw[←h1]at h2
 obtain⟨y,hy,he⟩:=aB.1 (ae h2)
 obtain⟨e1,e2⟩:=kP he
 exact⟨y,hy,e1,e2⟩
theorem cw.EI (h:cw places ah x n) {f:Nat} (hf:f<places) {C:bO} (hC:C.place=f) {t sh j:Nat} (ht:t<places) (hne:t≠f) (hs:sh<ah) {m:bN} (hm:((gU x ah f C).H f t sh)[j]?=some m):(x.H f t sh)[j]?=some m∨m∈lM (x.P f) C:=by
 obtain⟨y,hy,rfl,rfl⟩:=h.zw ht hf hne hs
 rw[gU,lP,h.A' hf hC hy]at hm
 rcases dP j (x.H f y.to.toNat y.sh.toNat).length with hj|hj
 ·rw[bz hj]at hm
  exact .inl hm
 ·rw[bt hj]at hm
  refine .inr (cK.2 ⟨_,eT hy,?_⟩)
  rw[(h.pid f hf).2.2]
  exact ae hm
theorem cw.CH (h:cw places ah x n) {f:Nat} (hf:f<places) {t sh j:Nat} (ht:t<places) (hne:t≠f) (hs:sh<ah) {m:bN} (hm:((gb x f).H f t sh)[j]?=some m):(x.H f t sh)[j]?=some m∨m∈iE (x.P f):=by
 obtain⟨y,hy,rfl,rfl⟩:=h.zw ht hf hne hs
 rw[gb,lP,h.yI hf hy]at hm
 rcases dP j (x.H f y.to.toNat y.sh.toNat).length with hj|hj
 ·rw[bz hj]at hm
  exact .inl hm
 ·rw[bt hj]at hm
  rw[ay.1 (ae hm)]
  exact .inr (eT hy)
end
end Go.Proofs.YtmkapocibaojdaaGreatDoor
end
section
namespace Go.Sx
open Go
theorem xN {l:List bE} {k:Int} (h:∀a∈l,a.o.kind=k) (hne:l≠[]):kindOf l=k:=by
 cases l with
 | nil=>exact absurd rfl hne
 | cons a l=>exact h a (bl ..)
theorem HL {l:List bE} {a:bE} (h:l.Pairwise fun a b=>gW a b=true) (hm:∀b,b∈l↔b=a):l=[a]:=
 mP (lt:=fun a b=>gW a b=true) (fun _ _=>nX) h (List.pairwise_singleton ..) fun x=>by rw[hm x,ay]
theorem iJ (x:fJ):(bG x).length=x.places:=by simp[bG]
theorem Hl {x:fJ} {k:Nat} (h:k<x.places):(bG x).getD k 0=gf x k:=by
 rw[bG,aO,aF,ew h]
 rfl
end Go.Sx
namespace Go.Proofs.YtmkapocibaojdaaGreatDoor
open Go Go.Sx
theorem uK (xs:List Int):lF xs xs=true:=rB rfl fun j x y hx hy=>by
 rw[hx]at hy
 cases hy
 exact fq _
section
variable {places ah n:Nat} {x:Net}
theorem cw.QT (h:cw places ah x n) {at':List Int}:∀a∈bM (mF x.K places at'),∀b∈bM (mF x.K places at'),a.d=b.d→a=b:=fun a ha b hb he=>by
 obtain⟨C,hC,o,ho,rfl⟩:=fF.1 ha
 obtain⟨D,hD,p,hp,rfl⟩:=fF.1 hb
 obtain⟨f,hf,hC,_⟩:=kZ.1 hC
 obtain⟨g,hg,hD,_⟩:=kZ.1 hD
 simp only[eD,iV,gi.mk.injEq]at he
 obtain⟨e1,e2,e3⟩:=he
 obtain⟨c1,_,_,c4,_⟩:=h.mem hf hC
 obtain⟨d1,_,_,_,_⟩:=h.mem hg hD
 have hfg:f=g:=by omega
 subst hfg
 rw[c1,d1,aR]at e2
 obtain rfl:=h.uniq hf hC hD e2
 rw[AL c4 ho hp e3]
theorem cw.seen (h:cw places ah x n) {at':List Int} {key:ByteArray} {a:bE}:a∈opsOf key (mF x.K places at')↔a.o.key=key∧∃f<places,∃C∈x.K f,lF C.when at'=true∧∃o∈C.ops,a=eD C o:=by
 rw[mY,tL h.QT,fF]
 constructor
 ·rintro⟨⟨C,hC,o,ho,he⟩,hk⟩
  obtain⟨f,hf,hC,hi⟩:=kZ.1 hC
  exact⟨hk,f,hf,C,hC,hi,o,ho,he⟩
 ·rintro⟨hk,f,hf,C,hC,hi,o,ho,he⟩
  exact⟨⟨C,kZ.2 ⟨f,hf,hC,hi⟩,o,ho,he⟩,hk⟩
theorem cw.reads (h:cw places ah x n) {t:Nat} (ht:t<places) (key:ByteArray):Sx.valOf key (aW (x.P t).L key (bG (x.P t)))=Sx.valOf key (mF x.K places (bG (x.P t))):=
 C3 (h.read ht (by rw[iJ,(h.pid t ht).2.1]) (uK _) key)
theorem cw.whole (h:cw places ah x n) {C:bO} {f:Nat} (hf:f<places) (hC:C∈x.K f) (hK:∀g<places,∀D∈x.K g,D=C) (h2:∀o∈C.ops,o.kind=2) (at':List Int) :
  (∀key,(∃o∈C.ops,o.key=key)→(Sx.valOf key (mF x.K places at')).kind=2)∨(∀key,(Sx.valOf key (mF x.K places at')).kind=0):=by
 by_cases hi:lF C.when at'=true
 ·refine .inl fun key ⟨o,ho,hk⟩=>xN (fun a ha=>?_) fun h0=>?_
  ·obtain⟨_,g,hg,D,hD,_,p,hp,rfl⟩:=h.seen.1 ha
   rw[hK g hg D hD]at hp
   exact h2 p hp
  ·have:eD C o∈opsOf key (mF x.K places at'):=h.seen.2 ⟨hk,f,hf,C,hC,hi,o,ho,rfl⟩
   rw[h0]at this
   cases this
 ·refine .inr fun key=>?_
  have:opsOf key (mF x.K places at')=[]:=List.eq_nil_iff_forall_not_mem.2 fun a ha=>by
   obtain⟨_,g,hg,D,hD,h1,_⟩:=h.seen.1 ha
   rw[hK g hg D hD]at h1
   exact hi h1
  show kindOf _=0
  rw[this]
  rfl
theorem cw.one (h:cw places ah x n) {C:bO} {o:fP} {f:Nat} (hf:f<places) (hC:C∈x.K f) (ho:C.ops=[o]) (hk:o.kind=2) (hn:o.n=1) (hK:∀g<places,∀D∈x.K g,∀p∈D.ops,p.key=o.key→D=C) {at':List Int} (hi:lF C.when at'=true):(Sx.valOf o.key (mF x.K places at')).n=1:=by
 have e:opsOf o.key (mF x.K places at')=[eD C o]:=HL (mH _ _) fun b=>by
  rw[h.seen]
  constructor
  ·rintro⟨h1,g,hg,D,hD,_,p,hp,rfl⟩
   have:=hK g hg D hD p hp h1
   subst this
   rw[ho]at hp
   rw[ay.1 hp]
  ·rintro rfl
   exact⟨rfl,f,hf,C,hC,hi,o,by simp[ho],rfl⟩
 have e2:(eD C o).o=o:=rfl
 simp[Sx.valOf,eL,e,j6,kindOf,e2,hk,Sx.ko,hn]
theorem cw.none (h:cw places ah x n) {key:ByteArray} {at':List Int} (hK:∀g<places,∀D∈x.K g,lF D.when at'=true→∀p∈D.ops,p.key≠key):(Sx.valOf key (mF x.K places at')).n=0:=by
 have:opsOf key (mF x.K places at')=[]:=List.eq_nil_iff_forall_not_mem.2 fun a ha=>by
  obtain⟨hk,g,hg,D,hD,h1,p,hp,rfl⟩:=h.seen.1 ha
  exact hK g hg D hD h1 p hp hk
 simp[Sx.valOf,this,kindOf]
theorem cw.own (h:cw places ah x n) {t:Nat} (ht:t<places):gf (x.P t) t=(x.K t).length:=by
 rw[gf,if_pos (h.pid t ht).1.symm,h.tW t ht]
def R1 (places ah:Nat) (x:Net) (f:Nat):Prop:=∀t<places,t≠f→∀sh<ah,iC (x.H f t sh) (x.H f t sh).length=(x.K f).length
theorem cw.FU (h:cw places ah x n) (wQ:k9 places x) {t f:Nat} (ht:t<places) (hf:f<places) (hne:f≠t) (hg:∀sh<ah,∀i<(x.H f t sh).length,JJ x f t sh i) (he:R1 places ah x f):gf (x.P t) f=(x.K f).length:=
 h.KO wQ ht hf hne hg fun sh hs=>he t ht (Ne.symm hne) sh hs
end
end Go.Proofs.YtmkapocibaojdaaGreatDoor
end
section
namespace Go.Proofs.YtmkapocibaojdaaGreatDoor
open Go Go.Sx
def jb (ah:Nat) (x:Net) (f t:Nat) (m:bN):Prop:=∃s j:Nat,s<ah∧(x.H f t s)[j]?=some m
def qW (ah:Nat) (x:Net) (f t:Nat) (m:bN):Prop:=∃s j:Nat,s<ah∧(x.H f t s)[j]?=some m∧JJ x f t s j
def qi (places:Nat) (x:Net):Prop:=∀f<places,∀s∈(x.P f).ss,s.l=x.H f s.to.toNat s.sh.toNat
section
variable {places ah n f t:Nat} {x:Net} {m:bN}
theorem cw.hlen (h:cw places ah x n) {s:Nat} (hf:f<places) (ht:t<places) (hne:t≠f) (hs:s<ah):(x.H f t s).length≤n:=by
 obtain⟨y,hy,h1,h2⟩:=h.zw ht hf hne hs
 have h3:=(h.snd f hf y hy).q
 rw[h1,h2]at h3
 have h4:=((h.kY f hf).snd y hy).2.2.2.1
 omega
theorem jb.Us (hm:jb ah x f t m) (h:cw places ah x n) (hf:f<places) (ht:t<places) (hne:t≠f):m.fm=f∧m.to=t∧Fit m∧1≤m.seq∧m.seq≤n∧0≤m.time:=by
 obtain⟨s,j,hs,hj⟩:=hm
 obtain⟨h1,h2,h3,h4,h5,h6,_⟩:=(h.msg f hf t ht hne s hs).at' j m hj
 have h7:=(ai.1 hj).1
 have h8:=h.hlen hf ht hne hs
 exact⟨h1,h2,h.fit ht hf (Ne.symm hne) hs hj,by omega,by omega,h5⟩
theorem jb.dK (hm:jb ah x f t m) (h:cw places ah x n) (hf:f<places) (ht:t<places) (hne:t≠f) (hl:∀s<ah,(x.H f t s).length≤201):cw places ah (x.ox t (ep (x.P t) m).2.2) (n+1)∧(ep (x.P t) m).1=0:=by
 obtain⟨s,j,hs,hj⟩:=hm
 obtain⟨h1,h2⟩:=h.dK ht hf (Ne.symm hne) hs hj
 exact⟨h1,h2 (hl s hs)⟩
theorem jb.ju (hm:jb ah x f t m) (g:Nat) (p:fJ) (K':List bO) (X:Nat→Nat→List bN):jb ah (x.ju g p K' X) f t m:=by
 obtain⟨s,j,hs,hj⟩:=hm
 refine⟨s,j,hs,?_⟩
 by_cases hg:f=g
 ·subst hg
  rw[lP,bz (ai.1 hj).1]
  exact hj
 ·rw[kU hg]
  exact hj
theorem cw.NB (h:cw places ah x n) (hf:f<places) {C:bO} (hC:C.place=f) (hm:m∈lM (x.P f) C):∃t<places,t≠f∧m.to=t∧jb ah (gU x ah f C) f t m:=by
 obtain⟨t,s,h1,h2,h3,h4,h5⟩:=h.IN hf hC hm
 exact⟨t,h1,h2,h4,s,_,h3,h5⟩
theorem cw.K9 (h:cw places ah x n) (hf:f<places) (hm:m∈iE (x.P f)):∃t<places,t≠f∧m.to=t∧jb ah (gb x f) f t m:=by
 obtain⟨t,s,h1,h2,h3,h4,h5⟩:=h.Gf hf hm
 exact⟨t,h1,h2,h4,s,_,h3,h5⟩
theorem jb.CB (hm:jb ah x f t m) (h:cw places ah x n) (wQ:k9 places x) (hf:f<places) (ht:t<places) (hne:t≠f) (hl:∀s<ah,(x.H f t s).length≤201) :
  k9 places (x.ox t (ep (x.P t) m).2.2)∧qW ah (x.ox t (ep (x.P t) m).2.2) f t m∧∀f' t' z,qW ah x f' t' z→qW ah (x.ox t (ep (x.P t) m).2.2) f' t' z:=by
 have h0:=(hm.dK h hf ht hne hl).2
 obtain⟨s,j,hs,hj⟩:=hm
 obtain⟨h1,h2,h3⟩:=h.Ir wQ ht hf (Ne.symm hne) hs hj
 exact⟨h1,⟨s,j,hs,hj,h3 h0⟩,fun f' t' z ⟨s,j,a,b,c⟩=>⟨s,j,a,b,h2 _ _ _ _ c⟩⟩
theorem cw.CM (h:cw places ah x n) (hf:f<places) (ht:t<places) (hne:t≠f) (ha:∀z,jb ah x f t z→qW ah x f t z):∀sh<ah,∀i<(x.H f t sh).length,JJ x f t sh i:=fun s hs i hi=>by
 have hm:(x.H f t s)[i]?=some (x.H f t s)[i]:=ak hi
 obtain⟨s2,j,Ku,hj,hg⟩:=ha _ ⟨s,i,hs,hm⟩
 obtain⟨_,_,a3,a4,_⟩:=(h.msg f hf t ht hne s hs).at' i _ hm
 obtain⟨_,_,b3,b4,_⟩:=(h.msg f hf t ht hne s2 Ku).at' j _ hj
 have e1:s=s2:=by omega
 have e2:i=j:=by omega
 subst e1 e2
 exact hg
theorem xM {p:fJ} (hx:yM p):ff p (bG p)=0:=by
 rw[ff,if_neg (by simp[uv hx]),if_neg (by simp[iJ]),if_pos (uK _)]
theorem qi.tg (h:cw places ah x n) (hF:qi places x) (hf:f<places) {C:bO} (hC:C.place=f):qi places (gU x ah f C):=fun i hi s hs=>by
 by_cases hif:i=f
 ·subst hif
  rw[gU,jX]at hs
  obtain⟨y,hy,rfl⟩:=aB.1 hs
  have h1:=hF i hi y hy
  have h2:=h.A' hi hC hy
  have e1:(pL (x.P i).ah C y).to=y.to∧(pL (x.P i).ah C y).sh=y.sh:=by
   unfold pL
   split <;> exact⟨rfl,rfl⟩
  rw[gU,lP,e1.1,e1.2,h2,←h1,(h.pid i hi).2.2]
  unfold pL tA
  split
  ·simp
  ·rfl
 ·rw[gU,jW hif]at hs
  rw[gU,kU hif]
  exact hF i hi s hs
theorem qi.dW (h:cw places ah x n) (hF:qi places x) (hf:f<places):qi places (gb x f):=fun i hi s hs=>by
 by_cases hif:i=f
 ·subst hif
  rw[gb,jX]at hs
  obtain⟨y,hy,rfl⟩:=aB.1 hs
  have h1:=hF i hi y hy
  have h2:=h.yI hi hy
  show y.l++[dL.kC y (x.P i).clock]=(gb x i).H i y.to.toNat y.sh.toNat
  rw[gb,lP,h2,←h1]
 ·rw[gb,jW hif]at hs
  rw[gb,kU hif]
  exact hF i hi s hs
theorem FW {p:fJ} (hm:m.time≠-1):(ep p m).2.2.ss=p.ss:=by
 by_cases h:kB p m≠0
 ·rw[ep,if_pos h]
 ·rw[ep,if_neg h,if_neg hm]
  split
  ·rfl
  ·split <;> rfl
theorem qi.dK (hF:qi places x) (hm:m.time≠-1):qi places (x.ox t (ep (x.P t) m).2.2):=fun i hi s hs=>by
 by_cases hit:i=t
 ·subst hit
  rw[kz,FW hm]at hs
  exact hF i hi s hs
 ·rw[kW _ _ hit]at hs
  exact hF i hi s hs
theorem qi.again (hF:qi places x) (h:cw places ah x n) (hf:f<places) (hm:m∈EM (x.P f)):∃t<places,t≠f∧jb ah x f t m:=by
 obtain⟨l,hl,hm⟩:=cK.1 hm
 obtain⟨y,hy,rfl⟩:=aB.1 hl
 obtain⟨p1,p2,p3⟩:=h.B1 hf hy
 rw[hF f hf y hy]at hm
 obtain⟨j,hj⟩:=aJ hm
 exact⟨_,p1,p2,_,j,p3,hj⟩
theorem qi.back (hF:qi places x) (h:cw places ah x n) (hf:f<places) (ht:t<places) (hne:t≠f) (hm:jb ah x f t m):m∈EM (x.P f):=by
 obtain⟨s,j,hs,hj⟩:=hm
 obtain⟨y,hy,h1,h2⟩:=h.zw ht hf hne hs
 refine cK.2 ⟨_,eT hy,?_⟩
 rw[hF f hf y hy,h1,h2]
 exact ae hj
end
end Go.Proofs.YtmkapocibaojdaaGreatDoor
end
section
namespace Go.Proofs.YtmkapocibaojdaaGreatDoor
open Go Go.Sx
theorem zk {xs:List Int} (h1:1≤xs.length) (h6:xs.length≤6) (h:∀t∈xs,0≤t∧t≤1099511627776):b8 xs=0:=by
 rw[b8,if_neg (by omega),if_neg]
 intro ha
 obtain⟨t,ht,hb⟩:=gL.1 ha
 have:=h t ht
 simp only[u7,j8,decide_eq_true_eq]at hb
 omega
theorem Ft (ops:List fP):(lp ops).Pairwise fun a b=>a.no<b.no:=by
 rw[bV]
 intro i j hi hj hlt
 simp only[lp,List.getElem_mapIdx]
 omega
theorem IQ {x:fJ} {n:Nat} {at':List Int} {ops:List fP} (hx:iW x n) (hn:n<600) (hk:ff x at'=0) (h0:ops≠[]) (h12:ops.length≤12) (ho:∀o∈ops,∀i:Nat,i<12→fE { o with no:=i } x.places=0):(gY x at' ops).code=0:=by
 obtain⟨k1,k2,k3⟩:=od hk
 have hc:=hx.tW
 have hc0:=hx.c0
 have kT:=hx.id
 have hp1:=hx.p1
 have y9:=hx.p6
 have hl:(bI x at' ops).when.length=at'.length:=by simp[bI]
 rw[gY,if_neg (by simp[hk]),if_neg (by omega)]
 refine nC (zk (by omega) (by omega) fun t ht=>?_) (show(0:Int)≤(x.id:Int)by omega) (by rw[hl];show(x.id:Int)<_;omega) (by show(lp ops).length≤12;rw[iL];exact h12) ?_ ?_ (fun o hm=>?_) (Ft ops)
 ·rcases jc ht with ht|rfl
  ·exact vo k1 t ht
  ·omega
 ·show(at'.set x.id (x.clock+1))[(x.id:Int).toNat]?≠some 0
  rw[aR,bX (by omega)]
  intro h
  have:=dG h
  omega
 ·intro h
  have:=congrArg fo h
  rw[show(bI x at' ops).ops=lp ops from rfl,iL]at this
  exact h0 (eV.1 this)
 ·obtain⟨i,hi,rfl⟩:=List.mem_mapIdx.1 hm
  rw[hl,k2]
  exact ho _ (cz hi) i (by omega)
def Sn (key:ByteArray):fP:=⟨0,key,2,aL #[],1,false,[]⟩
theorem IX {key:ByteArray} (hk:dS key=true) {p i:Nat} (h1:1≤p) (h6:p≤6) (hi:i<12):fE { Sn key with no:=i } p=0:=by
 have h0:(aL #[]).size=0:=rfl
 rw[HK (by show ¬((p:Int)<1∨6<(p:Int)∨(i:Int)<0∨12≤(i:Int));omega) hk (.inr (.inl rfl)) (by simp[mC,Sn,h0]),if_neg (by simp only[Sn,lW,h0];omega),if_neg (by simp[Sn,nl])]
theorem yJ {x:fJ} (hx:yM x) (hb:lF x.base (bG x)=true) {key:ByteArray} (hk:dS key=true):eA x.places x.base key (bG x)=0:=by
 rw[eA,if_neg (by simp[hk]),if_neg (by simp[uv hx]),if_neg (by simp[iJ]),if_neg (by simp[hb])]
structure Sys (places ah:Nat) (x:Net) (l:List bN) (n:Nat):Prop where
 lA:cw places ah x n
 cl:k9 places x
 l:∀m∈l,∃f<places,∃t<places,t≠f∧m.to=t∧jb ah x f t m
 CW:∀f<places,∀t<places,t≠f→∀s<ah,(x.H f t s).length≤201
def Aq (places ah:Nat) (x:Net) (l:List bN):Prop:=∀f<places,∀t<places,t≠f→∀m,jb ah x f t m→m∈l
section
variable {places ah n f t:Nat} {x:Net} {m:bN} {l:List bN}
theorem Sys.dK (h:Sys places ah x l n) (hm:m∈l) (ht:t<places) (hto:m.to=t) :
  Sys places ah (x.ox t (ep (x.P t) m).2.2) l (n+1)∧(ep (x.P t) m).1=0∧Fit m∧1≤m.seq∧m.seq≤n∧0≤m.time∧(∃f<places,f≠t∧m.fm=f∧qW ah (x.ox t (ep (x.P t) m).2.2) f t m)∧∀f' t' z,qW ah x f' t' z→qW ah (x.ox t (ep (x.P t) m).2.2) f' t' z:=by
 obtain⟨f,hf,t',ht',hne,Wv,hs⟩:=h.l m hm
 obtain rfl:t'=t:=by omega
 have hw:=h.CW f hf t' ht hne
 obtain⟨a1,a2⟩:=hs.dK h.lA hf ht hne hw
 obtain⟨b1,b2,b3⟩:=hs.CB h.lA h.cl hf ht hne hw
 obtain⟨c1,c2,c3,c4,c5,c6⟩:=hs.Us h.lA hf ht hne
 exact⟨⟨a1,b1,h.l,h.CW⟩,a2,c3,c4,c5,c6,⟨f,hf,Ne.symm hne,c1,b2⟩,b3⟩
theorem Sys.tg (h:Sys places ah x l n) (hn:n<201) (hf:f<places) {at':List Int} {ops:List fP} (hc:(gY (x.P f) at' ops).code=0) (hd:∀o∈ops,o.bF.length≤1000000):Sys places ah (gU x ah f (bI (x.P f) at' ops)) (l++lM (x.P f) (bI (x.P f) at' ops)) (n+1):=by
 have h1:=h.lA.NA hf hc hd
 refine⟨h1,h.cl.ju rfl,fun m hm=>?_,fun f' wP t ht hne s hs=>aZ (h1.hlen wP ht hne hs) (by omega)⟩
 rcases au.1 hm with hm|hm
 ·obtain⟨f',a,t,b,c,d,e⟩:=h.l m hm
  exact⟨f',a,t,b,c,d,e.ju ..⟩
 ·obtain⟨t,a,b,c,d⟩:=h.lA.NB hf (C:=bI (x.P f) at' ops) (by show(((x.P f).id:Nat):Int)=f;rw[(h.lA.pid f hf).1]) hm
  exact⟨f,hf,t,a,b,c,d⟩
theorem Sys.dW (h:Sys places ah x l n) (hn:n<201) (hf:f<places):Sys places ah (gb x f) (l++iE (x.P f)) (n+1):=by
 have h1:=h.lA.K7 hf
 refine⟨h1,h.cl.ju rfl,fun m hm=>?_,fun f' wP t ht hne s hs=>aZ (h1.hlen wP ht hne hs) (by omega)⟩
 rcases au.1 hm with hm|hm
 ·obtain⟨f',a,t,b,c,d,e⟩:=h.l m hm
  exact⟨f',a,t,b,c,d,e.ju ..⟩
 ·obtain⟨t,a,b,c,d⟩:=h.lA.K9 hf hm
  exact⟨f,hf,t,a,b,c,d⟩
theorem Sys.mono (h:Sys places ah x l n) {k:Nat} (hk:n≤k):Sys places ah x l k:=⟨h.lA.mono hk,h.cl,h.l,h.CW⟩
theorem Sys.sub (h:Sys places ah x l n) {l':List bN} (hl:∀m∈l',∃f<places,∃t<places,t≠f∧m.to=t∧jb ah x f t m):Sys places ah x l' n:=⟨h.lA,h.cl,hl,h.CW⟩
theorem Aq.tg (ha:Aq places ah x l) (h:cw places ah x n) (hf:f<places) {C:bO} (hC:C.place=f):Aq places ah (gU x ah f C) (l++lM (x.P f) C):=fun f' wP t ht hne m ⟨s,j,hs,hj⟩=>by
 by_cases ED:f'=f
 ·subst ED
  rcases h.EI hf hC ht hne hs hj with h1|h1
  ·exact au.2 (.inl (ha f' wP t ht hne m ⟨s,j,hs,h1⟩))
  ·exact au.2 (.inr h1)
 ·rw[gU,kU ED]at hj
  exact au.2 (.inl (ha f' wP t ht hne m ⟨s,j,hs,hj⟩))
theorem Aq.dW (ha:Aq places ah x l) (h:cw places ah x n) (hf:f<places):Aq places ah (gb x f) (l++iE (x.P f)):=fun f' wP t ht hne m ⟨s,j,hs,hj⟩=>by
 by_cases ED:f'=f
 ·subst ED
  rcases h.CH hf ht hne hs hj with h1|h1
  ·exact au.2 (.inl (ha f' wP t ht hne m ⟨s,j,hs,h1⟩))
  ·exact au.2 (.inr h1)
 ·rw[gb,kU ED]at hj
  exact au.2 (.inl (ha f' wP t ht hne m ⟨s,j,hs,hj⟩))
theorem Sys.heard (h:Sys places ah x l n) (hf:f<places) (ht:t<places) (hne:t≠f) (he:R1 places ah x f) (ha:∀z,jb ah x f t z→qW ah x f t z):gf (x.P t) f=(x.K f).length:=
 h.lA.FU h.cl ht hf (Ne.symm hne) (h.lA.CM hf ht hne ha) he
end
end Go.Proofs.YtmkapocibaojdaaGreatDoor
end
section
namespace Go.Sx
open Go
section take
variable {w:World} {S:Nat→Prop} {M:List Nat} {C:List Chunk}
theorem yn {α:Type} {c:α}:∀{cs:List α} {i:Nat},cs[i]?=some c→cs.Perm (c::cs.eraseIdx i)
 | [],_,h=>by cases h
 | a::cs,0,h=>by cases h;exact .refl _
 | a::cs,i+1,h=>(mT a (yn (by simpa using h))).trans (List.Perm.swap c a _)
theorem Pre.xg {cs:List Chunk} {i:Nat} {c:Chunk} (h:Pre w S M (cA cs::C)) (hi:cs[i]?=some c):∃M1,Pre w S M1 (c::C)∧∀{w':World} {e:Ending} {v:Value} {c':Chunk} {C2:List Chunk} {G:List (Value×D)},cQ M1 w S w' e v (c'::C2) G→cQ M w S w' e v (cA (cs.set i c')::C2) G:=by
 have hlt:=(ai.1 hi).1
 have hp:(cs++C).Perm ((c::C)++cs.eraseIdx i):=((yn hi).append_right C).trans (mT c fA)
 obtain⟨M',Xn,h2⟩:=h.star.perm hp
 obtain⟨M1,h3,hb⟩:=h2.part
 refine⟨M1,h3,fun{w' e v c' C2 G} hR=>?_⟩
 have hq:((c'::C2)++cs.eraseIdx i).Perm (cs.set i c'++C2):=(mT c' fA).trans ((set_perm (c':=c') hlt).append_right C2)
 exact cQ.star ((hb hR).perm hq Xn.symm)
theorem Pre.zero (h:Pre w S M C):Pre (zero w) S M C:=by
 obtain⟨aU,h1,h2,h3,h4⟩:=h
 exact⟨aU,h1.mono (fun _ _=>rfl) fun _ hb _=>⟨hb,rfl⟩,h2,h3,h4⟩
theorem Pre.GY (h:Pre (Sx.zero w) S M C):Pre w S M C:=by
 obtain⟨aU,h1,h2,h3,h4⟩:=h
 exact⟨aU,h1.mono (fun _ _=>rfl) fun _ hb _=>⟨hb,rfl⟩,h2,h3,h4⟩
end take
end Go.Sx
namespace Go.Proofs.YtmkapocibaojdaaGreatDoor
open Go Go.Sx
noncomputable def jv (pb:Nat→Nat) (x:Net) (places:Nat):Chunk:=cA ((bD places).map fun i=>bQ (pb i) (x.P i))
theorem tw {pb:Nat→Nat} {x:Net} {places t:Nat} (ht:t<places):((bD places).map fun i=>bQ (pb i) (x.P i))[t]?=some (bQ (pb t) (x.P t)):=by
 rw[aF,ew ht]
 rfl
theorem Kc {pb:Nat→Nat} {x y:Net} {places t:Nat} (h:∀i,i≠t→y.P i=x.P i):((bD places).map fun i=>bQ (pb i) (x.P i)).set t (bQ (pb t) (y.P t))=(bD places).map fun i=>bQ (pb i) (y.P i):=by
 apply eH
 intro i
 rw[List.getElem?_set,aF,aF]
 by_cases hi:t=i
 ·subst hi
  rw[if_pos rfl]
  by_cases ht:t<places
  ·rw[if_pos (by simpa using ht),ew ht]
   rfl
  ·rw[if_neg (by simpa using ht),cO (by simpa using ht)]
   rfl
 ·rw[if_neg hi]
  by_cases hl:i<places
  ·rw[ew hl]
   simp only[dU,h i (Ne.symm hi)]
  ·rw[cO (by simpa using hl)]
   rfl
section lA
variable {w:World} {S:Nat→Prop} {M:List Nat} {er:Nat→Addr} {eb:Nat→Array Value×TypeId} {x:Net} {pb:Nat→Nat} {sb t places n:Nat} {tok at':List Int} {ops:List fP}
set_option maxHeartbeats 4000000 in
theorem o3 {y:Net} {w':World} {e:Ending} {v:Value} {C2:List Chunk} {G:List (Value×D)} (hR:cQ M w S w' e v (cA (((bD places).map fun i=>bQ (pb i) (x.P i)).set t (bQ (pb t) (y.P t)))::C2) G) (h:∀i,i≠t→y.P i=x.P i):cQ M w S w' e v (jv pb y places::C2) G:=by
 rw[Kc h]at hR
 exact hR
theorem HT (hC:cm w S .nilIface (dC er eb)) (hP:Pre w S M [jv pb x places]) (ht:t<places) (hx:iW (x.P t) n) (hn:n<600) :
  Calls Tryz.prog 23 #[.pointer (some ⟨pb t,0,none⟩)] w fun e w'=>∃ua uc,
   cQ M w S w' e (.slice ua (iE (x.P t)).length uc) [jv pb (gb x t) places] [(.slice ua (iE (x.P t)).length uc,.sl 9 ((iE (x.P t)).map fC))]:=by
 obtain⟨M1,h1,hb⟩:=hP.xg (tw ht)
 refine(Fy hC h1 hx hn).mono ?_
 rintro e w' ⟨ua,uc,hR⟩
 have h2:=hb hR
 rw[show vR (x.P t)=(gb x t).P t from jX.symm]at h2
 exact⟨ua,uc,o3 h2 fun i hi=>jW hi⟩
theorem HR {n1 c1 n2 c2:Nat} {a1 a2:Option Addr} {m:bN} (hC:cm w S .nilIface (dC er eb)) (hP:Pre w S M [jv pb x places]) (ht:t<places) (hx:iW (x.P t) n) (hn:n<600) (h1:cm w S (.slice a1 n1 c1) (aS m.c.when)) (h2:cm w S (.slice a2 n2 c2) (.sl 7 (m.c.ops.map fe))) (hm:Fit m) (GD:-9223372036854775808≤m.seq∧m.seq≤9223372036854775807) (h0:(ep (x.P t) m).1=0) :
  Calls Tryz.prog 24 #[.pointer (some ⟨pb t,0,none⟩),y6 m (.slice a1 n1 c1) (.slice a2 n2 c2)] w fun e w'=>∃ua un uc,cQ M w S w' e (.tuple #[.slice ua un uc,.nilIface]) [jv pb (x.ox t (ep (x.P t) m).2.2) places] []:=by
 obtain⟨M1,yh,hb⟩:=hP.xg (tw ht)
 refine(Fw hC yh hx hn h1 h2 hm GD).mono ?_
 rintro e w' ⟨ua,un,uc,v,hR,hv⟩
 rw[h0]at hv
 obtain⟨_,rfl⟩|⟨hc,_⟩:=hv
 rotate_left
 ·exact absurd rfl hc
 have h3:=hb hR
 rw[show(ep (x.P t) m).2.2=(x.ox t (ep (x.P t) m).2.2).P t from(kz x t _).symm]at h3
 exact⟨ua,un,uc,(o3 h3 fun i hi=>kW x _ hi).less (by simp)⟩
theorem HS (hC:cm w S .nilIface (dC er eb)) (hP:Pre w S M [jv pb x places,jQ sb tok]) (ht:t<places) (hx:yM (x.P t)) (hv:b8 tok=0) (hl:tok.length=(x.P t).places) :
  Calls Tryz.prog 33 #[.pointer (some ⟨sb,0,none⟩),.pointer (some ⟨pb t,0,none⟩)] w fun e w'=>
   (lF tok (bG (x.P t))=false∧cQ M w S w' e (.tuple #[.slice none 0 0,.iface 390 (.pointer (some (er 11)))]) [jv pb x places,jQ sb tok] []) ∨
   (lF tok (bG (x.P t))=true∧∃a' n' c',cQ M w S w' e (.tuple #[.slice a' n' c',.nilIface]) [jv pb x places,lN sb (bG (x.P t)) (pb t) (bG (x.P t)) []] []):=by
 obtain⟨M1,yh,hb⟩:=hP.xg (tw ht)
 refine(BQ hC yh hx hv hl).mono ?_
 rintro e w' (⟨hf,hR⟩|⟨hf,a',n',c',hR⟩)
 ·exact .inl ⟨hf,o3 (hb hR) (y:=x) fun _ _=>rfl⟩
 ·exact .inr ⟨hf,a',n',c',(o3 (hb hR) (y:=x) fun _ _=>rfl).less (by simp)⟩
theorem MK {key:ByteArray} {z:Int} (hC:cm w S .nilIface (dC er eb)) (hP:Pre w S M [jv pb x places,lN sb tok (pb t) at' ops]) (ht:t<places) (hx:iW (x.P t) n) (hn:n≤600) (ja:at'.length≤1000000) (hl:ops.length≤1000000) :
  Calls Tryz.prog 35 #[.pointer (some ⟨sb,0,none⟩),.string key,.int .i64 z] w fun e w'=>∃v,cQ M w S w' e v [jv pb x places,lN sb tok (pb t) at' (kH (x.P t) at' ops ⟨0,key,2,aL #[],z,false,[]⟩)] []∧lq 390 er (jZ (x.P t) at' ops ⟨0,key,2,aL #[],z,false,[]⟩) v:=by
 obtain⟨M1,yh,hb⟩:=hP.xg (tw ht)
 refine(Ms hC yh hx hn ja hl).mono ?_
 rintro e w' ⟨v,hR,hv⟩
 exact⟨v,o3 (hb hR) (y:=x) fun _ _=>rfl,hv⟩
theorem Kf {key:ByteArray} (hC:cm w S .nilIface (dC er eb)) (hP:Pre w S M [jv pb x places,nD sb tok (pb t) at' ops]) (ht:t<places) (hx:iW (x.P t) n) (hn:n≤600) (ha1:1≤at'.length) (Oa:at'.length≤6) (hl:ops.length≤1000000) (hv:ops≠[]→dS key=true→(cZ key (qT (x.P t) at' ops key)).code=0) (hk:yZ (x.P t) at' ops key=0) :
  Calls Tryz.prog 38 #[.pointer (some ⟨sb,0,none⟩),.string key] w fun e w'=>∃ua un uc,cQ M (zero w) S w' e (.tuple #[w8 (Sx.valOf key (qT (x.P t) at' ops key)) (.slice ua un uc),.nilIface]) [jv pb x places,nD sb tok (pb t) at' ops] [(.slice ua un uc,pe (Sx.valOf key (qT (x.P t) at' ops key)).set)]:=by
 obtain⟨M1,yh,hb⟩:=hP.zero.xg (tw ht)
 refine(Ej hC yh.GY hx hn ha1 Oa hl hv).mono ?_
 rintro e w' (⟨hf,_⟩|⟨_,ua,un,uc,hR⟩)
 ·exact absurd hk hf
 ·exact⟨ua,un,uc,o3 (hb hR) (y:=x) fun _ _=>rfl⟩
theorem Dt {c2:bO} (hC:cm w S .nilIface (dC er eb)) (hP:Pre w S M [jv pb x places,nD sb tok (pb t) at' ops]) (ht:t<places) (hx:iW (x.P t) n) (hn:n<600) (ja:at'.length≤1000000) (kS:ops.length≤1000000) (qE:∀o∈ops,o.bF.length≤1000000) (h0:ops≠[]) (hc0:(gY (x.P t) at' ops).code=0) (hc:c2=bI (x.P t) at' ops) :
  Calls Tryz.prog 39 #[.pointer (some ⟨sb,0,none⟩)] w fun e w'=>∃u1 m1 d1 u2 m2 d2 u3 m3 d3,cQ M w S w' e (.tuple #[.agg #[.slice u1 m1 d1,.int .i64 (x.P t).id,.slice u2 m2 d2],.slice u3 m3 d3,.nilIface]) [jv pb (gU x (x.P t).ah t c2) places,jQ sb c2.when]
    [(.slice u3 m3 d3,.sl 9 ((lM (x.P t) c2).map fC))]:=by
 subst hc
 obtain⟨M1,yh,hb⟩:=hP.xg (tw ht)
 refine(Fm hC yh hx hn ja kS qE fun _=>hc0).mono ?_
 rintro e w' (⟨hh,_⟩|⟨_,u1,m1,d1,u2,m2,d2,u3,m3,d3,hR⟩)
 ·exact absurd hh h0
 ·have h2:=hb hR
  rw[show p4 (x.P t) (bI (x.P t) at' ops)=(gU x (x.P t).ah t (bI (x.P t) at' ops)).P t from jX.symm]at h2
  exact⟨u1,m1,d1,u2,m2,d2,u3,m3,d3,(o3 h2 fun i hi=>jW hi).less (by simp)⟩
end lA
end Go.Proofs.YtmkapocibaojdaaGreatDoor
end
section
namespace Go.Proofs.YtmkapocibaojdaaGreatDoor
open Go Go.Sx
section Fo
variable {w:World} {S:Nat→Prop} {M:List Nat} {er:Nat→Addr} {eb:Nat→Array Value×TypeId} {pb sb n:Nat} {tok at':List Int} {key:ByteArray}
set_option maxHeartbeats 8000000 in
theorem Hq {x:fJ} (hC:cm w S .nilIface (dC er eb)) (hP:Pre w S M [bQ pb x,lN sb tok pb at' []]) (hx:iW x n) (hn:n≤600) (Oa:at'.length≤6) (hk:iR x key at'=0) :
  Calls Tryz.prog 38 #[.pointer (some ⟨sb,0,none⟩),.string key] w fun e w'=>
   ∃ua un uc,cQ M (zero w) S w' e (.tuple #[w8 (Sx.valOf key (aW x.L key at')) (.slice ua un uc),.nilIface]) [bQ pb x,lN sb tok pb at' []] [(.slice ua un uc,pe (Sx.valOf key (aW x.L key at')).set)]:=by
 refine pW Tryz.func38 QZ (args:=[.pointer (some ⟨sb,0,none⟩),.string key]) (S:=S) (C:=[bQ pb x,lN sb tok pb at' []]) (G:=[(_,dC er eb)]) (by kernel_rfl) hP (.cons hC (.nil _ _)) ?_
 refine tZ ?_
 refine b9 (eZ 1 rfl) fun y _=>?_
 obtain⟨ta,tn,tc,tb,aa,an,ac,oa,on,oc⟩:=y
 dsimp only
 refine Nm [(bQ pb x),bL sb (.cells #[.pointer (sA tb 0),.slice ta tn tc] 181 (0,0)),bL tb (.cells #[.pointer (sA pb 0),.slice aa an ac,.slice oa on oc] 184 (0,0)),aT (.slice oa on oc) 55 7 (aj fe [])] ?_
 refine b9 (eC 3 rfl) fun _ Io=>?_
 rw[show(([]:List fP).map fe).length=0 from rfl]at Io
 subst Io
 refine fh 1 rfl ?_
 refine fh 1 rfl ?_
 try simp only[aQ]
 refine Zv [.wr 0 [] 0,zR 1] [] [] (fun aN=>[zP 4 (aN 0),zV 5 .nilIface]) o0 (fun aN=>[(aN 0,.cells #[nI 0,.string (aL #[]),nI 0,.slice none 0 0] 64 (0,0))]) (fun aN=>?_)
 refine aq ?_
 refine Zs (bh 0 3++[.rd 3 [.o 0 none] 0 0,zR 4]) [] [zB 13 false] ?_
 refine cF ?_
 refine aG (aq ?_)
 refine Zs (bh 0 3++[.rd 3 [.o 0 none] 0 0,zR 4,zR 5,.rd 6 [.o 1 none] 0 0,zR 7,zR 8]) [13] [zB 24 true] ?_
 refine gR ?_
 refine jS [(0,true),(1,true),(2,true),(3,true),(4,true),(5,true),(6,true),(7,true),(8,true),(9,true),(10,true),(11,true),(12,true),(13,true),(14,true),(15,false),(16,true),(17,true),(18,false),(19,true)] [(15,[]),(18,[2])] ?_
 refine Ya (bh 0 3++[.rd 3 [.o 0 none] 0 0,zR 4,zR 5,.rd 6 [.o 1 none] 0 0]++bh 7 11++[.rd 11 [.o 0 none] 0 0,zR 12,zR 13,.rd 14 [.o 1 none] 0 0]) [24] [zP 31 pb,zV 32 (.string key),zS 39 aa an ac] ?_
 refine nJ [] [0] 25 #[.pointer (some (⟨pb,0,none⟩)),.string key,.slice aa an ac] (some 40) lG (by kernel_rfl) (by kernel_rfl) (by decide) (fun w S M hP hG _=>?_)
 refine(zH (hG.at 0 rfl) hP hx hn (hG.at 2 rfl) (by omega)).mono ?_
 rintro e1 w1 (⟨hf,_⟩|⟨_,ua,un,uc,hR⟩)
 ·exact absurd hk hf
 refine⟨_,_,_,hR,?_⟩
 try simp only[aQ]
 refine Ym [zR 16,zR 17,.wr 18 (ek 2 4) 0,zR 19] [40,31,32,39] (fun _=>[]) (fun _=>[(2,.cells #[nI ((Sx.valOf key (aW x.L key at')).kind),.string ((Sx.valOf key (aW x.L key at')).text),nI ((Sx.valOf key (aW x.L key at')).n),.slice ua un uc] 64 (0,0))]) o0 [] (fun _=>?_)
 try simp only[aQ]
 refine aC ?_
 try simp only[aQ]
 refine Yr [(ek 2 4),[]] (.tuple #[.agg #[nI ((Sx.valOf key (aW x.L key at')).kind),.string ((Sx.valOf key (aW x.L key at')).text),nI ((Sx.valOf key (aW x.L key at')).n),.slice ua un uc],.nilIface]) fun a w s=>?_
 have s2:=((s.dY 0 rfl).dY 0 rfl).jz (dH (C:=fun y:j7=>[bL sb (oS (some ⟨y.tb,0,none⟩) (.slice y.ta y.tn y.tc)),bL y.tb (ot pb (.slice y.aa y.an y.ac) (.slice y.oa y.on y.oc)),aT (.slice y.oa y.on y.oc) 55 7 (([]:List fP).map fe)]) (G:=fun y:j7=>[(.slice y.ta y.tn y.tc,aS tok),(.slice y.aa y.an y.ac,aS at')]) (p:=fun _=>True) [2,3,0] ⟨ta,tn,tc,tb,aa,an,ac,oa,0,oc⟩ rfl (by simp) trivial)
 exact⟨_,_,_,s2.pB (by simp) [0,1] [3] rfl rfl⟩
theorem HQ {R4:Nat→Nat} {x:Net} {t places:Nat} (hC:cm w S .nilIface (dC er eb)) (hP:Pre w S M [jv R4 x places,lN sb tok (R4 t) at' []]) (ht:t<places) (hx:iW (x.P t) n) (hn:n≤600) (Oa:at'.length≤6) (hk:iR (x.P t) key at'=0) :
  Calls Tryz.prog 38 #[.pointer (some ⟨sb,0,none⟩),.string key] w fun e w'=>
   ∃ua un uc,cQ M (zero w) S w' e (.tuple #[w8 (Sx.valOf key (aW (x.P t).L key at')) (.slice ua un uc),.nilIface]) [jv R4 x places,lN sb tok (R4 t) at' []] [(.slice ua un uc,pe (Sx.valOf key (aW (x.P t).L key at')).set)]:=by
 obtain⟨M1,yh,hb⟩:=hP.zero.xg (tw ht)
 refine(Hq hC yh.GY hx hn Oa hk).mono ?_
 rintro e w' ⟨ua,un,uc,hR⟩
 exact⟨ua,un,uc,o3 (hb hR) (y:=x) fun _ _=>rfl⟩
end Fo
end Go.Proofs.YtmkapocibaojdaaGreatDoor
end
section
namespace Go.Proofs.YtmkapocibaojdaaGreatDoor
open Go Go.Sx
def fL (x:Net) (l:List bN):Net:=l.foldl (fun y m=>y.ox m.to.toNat (ep (y.P m.to.toNat) m).2.2) x
theorem AW (x:Net) (l:List bN) (m:bN):fL x (l++[m])=(fL x l).ox m.to.toNat (ep ((fL x l).P m.to.toNat) m).2.2:=by simp[fL]
abbrev pX (b:Nat):List D:=[.v (.pointer (some ⟨b,0,none⟩))]
set_option maxHeartbeats 8000000 in
theorem EL {w:World} {S:Nat→Prop} {M:List Nat} {er:Nat→Addr} {eb:Nat→Array Value×TypeId} {x:Net} {pb:Nat→Nat} {places ah n pc mc:Nat} {pa ma:Option Addr} {l L:List bN} (hC:cm w S .nilIface (dC er eb)) (hP:Pre w S M [jv pb x places]) (hS:Sys places ah x L n) (hsub:∀m∈l,m∈L) (hn:n+l.length<600)
  (hps:cm w S (.slice pa places pc) (.sl 1 ((bD places).map fun i=>pX (pb i)))) (GD:cm w S (.slice ma l.length mc) (.sl 9 (l.map fC))) :
  Calls Tryz.prog 41 #[.slice pa places pc,.slice ma l.length mc] w fun e w'=>cQ M w S w' e (.bool true) [jv pb (fL x l) places] []:=by
 refine pW Tryz.func41 UZ (args:=[.slice pa places pc,.slice ma l.length mc]) (S:=S) (C:=[jv pb x places]) (G:=[(_,dC er eb),(_,.sl 1 ((bD places).map fun i=>pX (pb i))),(_,.sl 9 (l.map fC))]) (by kernel_rfl) hP (.cons hC (.cons hps (.cons GD (.nil _ _)))) ?_
 refine Zs [zR 0] [] [zB 4 false] ?_
 refine aq ?_
 refine Zs [zR 0] [] [zI 5 0] ?_
 refine aM ?_
 refine cU (fun i:Int=>[zS 0 pa places pc,zS 1 ma l.length mc,zB 4 false,zI 5 i]) (fun i:Int=>[]) (fun i:Int=>[jv pb (fL x (l.take i.toNat)) places]) (fun i:Int=>[(.nilIface,(dC er eb)),(.slice pa places pc,(D.sl 1 (aj (fun i=>pX (pb i)) (bD places)))),(.slice ma l.length mc,(D.sl 9 (aj fC l)))]) (fun i:Int=>(l.length - i).toNat) (fun i:Int=>(0≤i∧i≤l.length∧Sys places ah (fL x (l.take i.toNat)) L (n+i.toNat))) 0 [0,1,4,5] [] [0] [0,1,2] ?_ (by kernel_rfl) rfl rfl rfl ?_
 ·exact⟨by simp,by omega,hS⟩
 rintro i ⟨hi0,hi,hI⟩
 refine aq ?_
 refine Zs (bh 0 4) [] [zB 11 (decide (i<(↑l.length:Int)))] ?_
 refine cC (t:=decide (i<(↑l.length:Int))) (fun hlt=>?_) (fun hlt=>?_)
 ·have fa:i<l.length:=by simpa using hlt
  obtain⟨m,hm⟩:∃m,l[i.toNat]?=some m:=⟨_,ak (by omega)⟩
  have Qm:=hsub m (ae hm)
  obtain⟨f,hf,t,ht,hne,hto,_⟩:=hI.l m Qm
  obtain⟨VS,h0,hfit,hs1,CU,Ww,_⟩:=hI.dK Qm ht hto
  have M0:m.to.toNat=t:=by omega
  have WD:((bD places).map fun i=>pX (pb i))[m.to.toNat]?=some (pX (pb m.to.toNat)):=by
   rw[aF,ew (by omega)]
   rfl
  have c1:¬m.to<0:=by omega
  have c2:¬(places:Int)≤m.to:=by omega
  refine Bh 2 rfl i.toNat (dD hm) (by kernel_rfl) (fun b1 fu uf vi vm fg cJ wJ p9 ha1 cP=>?_)
  cases ha1
  have cg:=oO (cP 0 _ rfl)
  have gJ:=cP 1 _ rfl
  have gV:=cP 2 _ rfl
  have jH:=cP 3 _ rfl
  have jG:=cP 4 _ rfl
  have jF:=cP 5 _ rfl
  have jE:=cP 6 _ rfl
  have lC:=cP 7 _ rfl
  have lB:=cP 8 _ rfl
  subst M0
  try simp only[aQ]
  refine aG (aq (aM (aq ?_)))
  refine Zt ([zR 0,zR 1,.rd 2 [] 0 2,zR 3,.rd 4 [.r 0 (some (nI m.to))] 0 0,.rd 5 [] 0 7]++bh 6 9++[.rd 9 [] 0 2,zR 10,.rd 11 [.r 0 (some (nI m.to))] 0 0,zR 12,zR 13,.rd 14 [] 0 7,zR 15]) [11] [zB 29 false] (oC hi0 (oC fa (oC gJ (oC (show decide (m.to<(0:Int))=false from by simp;omega) (oC hi0 (oC fa (oC gJ (oC (show decide (m.to≥(↑places:Int))=false from by simp;omega) oN)))))))) ?_
  refine cF ?_
  refine aG (aq ?_)
  refine gr 1 rfl m.to.toNat WD (by kernel_rfl) (fun b2 pN Bq JT IC ha2 kK=>?_)
  cases ha2
  have gI:=oO (kK 0 _ rfl)
  try simp only[aQ]
  refine jT [(0,true),(1,true),(2,true),(3,true),(4,true),(5,true),(6,true),(7,true),(8,true),(9,true),(10,true),(11,true),(12,false),(13,true),(14,true),(15,true),(16,true),(17,true)] [(12,[])] ?_
  refine Yp (bh 0 3++[.rd 3 [] 0 2,zR 4,.rd 5 [.r 0 (some (nI m.to))] 0 0,.rd 6 [] 0 2,.rd 7 [.r 1 (some (.pointer (sA (pb m.to.toNat) 0)))] 0 0,zR 8,zR 9,.rd 10 [] 0 2,.rd 11 [.r 0 (some (nI m.fm)),.r 0 (some (nI m.to)),.r 0 (some (nI m.de)),.r 0 (some (nI m.seq)),.r 0 (some (nI m.time)),.r 0 (some (.bool m.dW)),.r 0 (some (.slice (fg,cJ).fst ((aj eI m.c.when).length) cJ)),.r 0 (some (nI m.c.place)),.r 0 (some (.slice (wJ,p9).fst ((aj fe m.c.ops).length) p9))] 0 0]) [29] [zP 38 (pb m.to.toNat),zV 42 (.agg #[nI m.fm,nI m.to,nI m.de,nI m.seq,nI m.time,.bool m.dW,.slice (fg,cJ).fst ((aj eI m.c.when).length) cJ,nI m.c.place,.slice (wJ,p9).fst ((aj fe m.c.ops).length) p9])] (oC hi0 (oC fa (oC gJ (oC (show 0≤m.to from by omega) (oC (show m.to<(↑places:Int) from by omega) (oC gI (oC hi0 (oC fa (oC cg (oC gJ (oC gV (oC jH (oC jG (oC jF (oC jE (oC lC (oC lB oN))))))))))))))))) ?_
  refine cn [] [0] 24 #[.pointer (some (⟨pb m.to.toNat,0,none⟩)),.agg #[.int .i64 m.fm,.int .i64 m.to,.int .i64 m.de,.int .i64 m.seq,.int .i64 m.time,.bool m.dW,.slice (fg,cJ).fst ((aj eI m.c.when).length) cJ,.int .i64 m.c.place,.slice (wJ,p9).fst ((aj fe m.c.ops).length) p9]] (some 43) (by kernel_rfl) (by kernel_rfl) (by decide) (fun w S M hP hG _=>?_)
  refine(HR (n:=n+i.toNat) (hG.at 0 rfl) hP ht (hI.lA.kY _ ht) (by omega) (hG.at 3 rfl) (hG.at 4 rfl) hfit (by omega) h0).mono ?_
  rintro e1 w1 ⟨ua,un,uc,hR⟩
  refine⟨_,_,_,hR,?_⟩
  have Ku:(fL x (l.take i.toNat)).ox m.to.toNat (ep ((fL x (l.take i.toNat)).P m.to.toNat) m).2.2=fL x (l.take (i+1).toNat):=by
   rw[←dz hi0 hm,AW]
  rw[Ku]at VS ⊢
  try simp only[aQ]
  refine Ya (bh 13 18) [43,38,42] [zV 7 .nilIface] ?_
  try simp only[aQ]
  refine aC ?_
  try simp only[aQ]
  refine aq ?_
  try simp only[aQ]
  refine Za [zR 0,zR 1] [] [zB 47 false] ?_
  try simp only[aQ]
  refine cF ?_
  try simp only[aQ]
  refine aG ?_
  try simp only[aQ]
  refine eu ?_
  try simp only[aQ]
  refine Zp [zR 0,.rd 1 [] 0 1,zR 2] [47] [zI 5 (i+1)] (oC (show IntKind.i64.wrap (i+1)=i+1 from wrap_i64 (by omega) (by omega)) oN) ?_
  try simp only[aQ]
  refine bC (i+1) [0,1,4,5] [] [0] [0,1,2] ?_ ?_ (by kernel_rfl) rfl rfl rfl
  ·refine⟨by omega,by omega,?_⟩
   rw[show n+(i+1).toNat=n+i.toNat+1 by omega]
   exact VS
  ·omega
 ·have hie:i.toNat=l.length:=by simp at hlt;omega
  rw[hie,iP]
  refine dO rfl ?_
  refine Zs [zR 0] [11,0,1,5] [zB 4 true] ?_
  refine Yr [[]] (.bool true) fun a w s=>?_
  exact s.ret (by simp) [0] [] rfl rfl
end Go.Proofs.YtmkapocibaojdaaGreatDoor
end
section
namespace Go.Proofs.YtmkapocibaojdaaGreatDoor
open Go Go.Sx
section
variable {places ah n k f t:Nat} {x y:Net} {m:bN} {l L:List bN}
theorem qW.ju (h:qW ah x f t m) {g:Nat} {p:fJ} {K':List bO} {X:Nat→Nat→List bN} (hp:p.rs=(x.P g).rs):qW ah (x.ju g p K' X) f t m:=by
 obtain⟨s,j,hs,hj,r,hr,h1,h2,h3⟩:=h
 have hH:∀(i:Nat) z,(x.H f t s)[i]?=some z→((x.ju g p K' X).H f t s)[i]?=some z:=fun i z hz=>by
  by_cases hg:f=g
  ·subst hg
   rw[lP,bz (ai.1 hz).1]
   exact hz
  ·rw[kU hg]
   exact hz
 refine⟨s,j,hs,hH j m hj,r,?_,h1,h2,?_⟩
 ·by_cases hg:t=g
  ·subst hg
   rw[jX,hp]
   exact hr
  ·rw[jW hg]
   exact hr
 ·rcases h3 with h3|⟨z,hz,Jv⟩
  ·exact .inl h3
  ·exact .inr ⟨z,hz,hH _ _ Jv⟩
theorem o8:∀{l:List bN} {y:Net} {n:Nat},Sys places ah y L n→(∀m∈l,m∈L) →
  Sys places ah (fL y l) L (n+l.length)∧(fL y l).H=y.H∧(fL y l).K=y.K∧(∀f t z,qW ah y f t z→qW ah (fL y l) f t z)∧∀m∈l,∃f<places,∃t<places,t≠f∧m.fm=f∧m.to=t∧qW ah (fL y l) f t m
 | [],y,n,h,_=>⟨h,rfl,rfl,fun _ _ _ hc=>hc,by simp⟩
 | m::l,y,n,h,hsub=>by
  have Qm:=hsub m (bl ..)
  obtain⟨_,_,t,ht,_,hto,_⟩:=h.l m Qm
  obtain⟨h2,_,_,_,_,_,⟨f,hf,hne,VL,hc⟩,hk⟩:=h.dK Qm ht hto
  have M0:m.to.toNat=t:=by omega
  subst M0
  obtain⟨a1,a2,a3,a4,a5⟩:=o8 (l:=l) h2 fun z hz=>hsub z (bk _ hz)
  have e:fL y (m::l)=fL (y.ox m.to.toNat (ep (y.P m.to.toNat) m).2.2) l:=rfl
  rw[e,eF,show n+(l.length+1)=n+1+l.length by omega]
  refine⟨a1,a2,a3,fun f' t' z hz=>a4 _ _ _ (hk _ _ _ hz),fun z hz=>?_⟩
  rcases cE.1 hz with rfl|hz
  ·exact⟨f,hf,_,ht,Ne.symm hne,VL,hto,a4 _ _ _ hc⟩
  ·exact a5 z hz
structure oK (places ah:Nat) (x:Net) (k:Nat):Prop where
 lA:cw places ah x k
 cl:k9 places x
 CB:∀f<places,∀t<places,t≠f→∀m,jb ah x f t m→qW ah x f t m
theorem cw.tight (h:cw places ah x n) (wQ:k9 places x) (hc:∀f<places,∀t<places,t≠f→∀m,jb ah x f t m→qW ah x f t m) (hH:∀f<places,∀t<places,t≠f→∀s<ah,(x.H f t s).length≤k) (hK:∀i<places,(x.K i).length≤k):cw places ah x k:=by
 refine{ h with kY:=fun i hi=>?_ }
 have hp:=h.kY i hi
 refine{ hp with tW:=?_,snd:=fun s hs=>?_,vj:=fun r hr=>?_ }
 ·have h1:=h.tW i hi
  have h2:=hK i hi
  omega
 ·obtain⟨a1,a2,a3,_,_⟩:=hp.snd s hs
  obtain⟨p1,p2,p3⟩:=h.B1 hi hs
  have hS:=h.snd i hi s hs
  have hl:=hH i hi _ p1 p2 _ p3
  obtain⟨a,ha,hd⟩:=hS.l
  refine⟨a1,a2,a3,by rw[hS.q];omega,?_⟩
  rw[hd,gm]
  omega
 ·obtain⟨a1,_,a3⟩:=hp.vj r hr
  obtain⟨p1,p2,p3⟩:=h.pair hi hr
  have hR:=h.vj i hi r hr
  have hall:=h.CM p1 hi (Ne.symm p2) (hc _ p1 i hi (Ne.symm p2)) _ p3
  have T':∀j<(x.H r.fm.toNat i r.sh.toNat).length,Has r (x.H r.fm.toNat i r.sh.toNat) j:=fun j hj=>by
   obtain⟨r2,Ch,e1,e2,h3⟩:=hall j hj
   obtain rfl:=h.vu hi Ch hr (by simp only[fJ.nS,e1,e2])
   exact h3
  have hq:=(EE hR a1 (h.msg _ p1 i hi (Ne.symm p2) _ p3) (wQ i hi r hr) T').1
  have CV:r.l=[]:=by
   cases Bo:r.l with
   | nil=>rfl
   | cons z zs=>
    obtain⟨j,hj,Qd⟩:=hR.l z (by rw[Bo];exact bl ..)
    have:=(ai.1 hj).1
    omega
  have hl:=hH _ p1 i hi (Ne.symm p2) _ p3
  refine⟨a1,?_,a3⟩
  rw[CV,hq]
  simp only[lW]
  omega
theorem quiet_of (h:Sys places ah y L k) (hsub:∀m∈l,m∈L) (hold:∀f<places,∀t<places,t≠f→∀m,jb ah y f t m→qW ah y f t m∨m∈l):oK places ah (fL y l) k:=by
 obtain⟨a1,a2,a3,a4,a5⟩:=o8 h hsub
 have hc:∀f<places,∀t<places,t≠f→∀m,jb ah (fL y l) f t m→qW ah (fL y l) f t m:=by
  intro f hf t ht hne m ⟨s,j,hs,hj⟩
  rw[a2]at hj
  rcases hold f hf t ht hne m ⟨s,j,hs,hj⟩with h1|h1
  ·exact a4 _ _ _ h1
  ·obtain⟨f',wP,t',ht',WL,e1,e2,h2⟩:=a5 m h1
   obtain⟨e3,e4,_⟩:=(h.lA.msg f hf t ht hne s hs).at' j m hj
   have e5:f'=f:=by omega
   have e6:t'=t:=by omega
   subst e5 e6
   exact h2
 refine⟨a1.lA.tight a1.cl hc (fun f hf t ht hne s hs=>?_) fun i hi=>?_,a1.cl,hc⟩
 ·rw[a2]
  exact h.lA.hlen hf ht hne hs
 ·rw[a3]
  have h1:=h.lA.tW i hi
  have h2:=(h.lA.kY i hi).tW
  omega
theorem oK.sys (h:oK places ah x k) (hk:k<200):Sys places ah x [] k:=⟨h.lA,h.cl,by simp,fun _ hf _ ht hne _ hs=>aZ (h.lA.hlen hf ht hne hs) (by omega)⟩
theorem oK.dW (h:oK places ah x k) (hk:k<200) (hf:f<places):Sys places ah (gb x f) (iE (x.P f)) (k+1)∧oK places ah (fL (gb x f) (iE (x.P f))) (k+1):=by
 have hs:=(h.sys hk).dW (by omega) hf
 rw[j9]at hs
 refine⟨hs,quiet_of hs (fun _ hm=>hm) fun f' wP t ht hne m ⟨s,j,hs1,hj⟩=>?_⟩
 by_cases ED:f'=f
 ·subst ED
  rcases h.lA.CH hf ht hne hs1 hj with h1|h1
  ·exact .inl ((h.CB _ wP t ht hne m ⟨s,j,hs1,h1⟩).ju rfl)
  ·exact .inr h1
 ·rw[gb,kU ED]at hj
  exact .inl ((h.CB _ wP t ht hne m ⟨s,j,hs1,hj⟩).ju rfl)
theorem oK.tg (h:oK places ah x k) (hk:k<200) (hf:f<places) {at':List Int} {ops:List fP} (hc:(gY (x.P f) at' ops).code=0) (hd:∀o∈ops,o.bF.length≤1000000):Sys places ah (gU x ah f (bI (x.P f) at' ops)) (lM (x.P f) (bI (x.P f) at' ops)) (k+1)∧oK places ah (fL (gU x ah f (bI (x.P f) at' ops)) (lM (x.P f) (bI (x.P f) at' ops))) (k+1):=by
 have hs:=(h.sys hk).tg (by omega) hf hc hd
 rw[j9]at hs
 have hC:(bI (x.P f) at' ops).place=f:=by show(((x.P f).id:Nat):Int)=f;rw[(h.lA.pid f hf).1]
 refine⟨hs,quiet_of hs (fun _ hm=>hm) fun f' wP t ht hne m ⟨s,j,hs1,hj⟩=>?_⟩
 by_cases ED:f'=f
 ·subst ED
  rcases h.lA.EI hf hC ht hne hs1 hj with h1|h1
  ·exact .inl ((h.CB _ wP t ht hne m ⟨s,j,hs1,h1⟩).ju rfl)
  ·exact .inr h1
 ·rw[gU,kU ED]at hj
  exact .inl ((h.CB _ wP t ht hne m ⟨s,j,hs1,hj⟩).ju rfl)
theorem Fu (hp1:1≤places) (y9:places≤6) (hs1:1≤ah) (FQ:ah≤6):oK places ah (iU places ah) 0:=⟨Ke hp1 y9 hs1 FQ,DS,fun f _ t _ _ m ⟨s,j,_,hj⟩=>by simp[iU]at hj⟩
end
end Go.Proofs.YtmkapocibaojdaaGreatDoor
end
section
namespace Go.Proofs.YtmkapocibaojdaaGreatDoor
open Go Go.Sx
abbrev dx:ByteArray:=⟨#[110]⟩
abbrev gk:fP:=⟨0,dx,2,aL #[],1,false,[]⟩
theorem BA {X:List bE} (h:∀x∈X,x.o=gk):(GV X).n=X.length:=by
 cases X with
 | nil=>rfl
 | cons a X=>
  have hk:kindOf (a::X)=2:=by
   show a.o.kind=2
   rw[h a (bl ..)]
  have hL:j6 (a::X)=a::X:=by
   rw[j6,fk]
   intro x hx
   rw[hk,h x hx]
   rfl
  have hs:∀(l:List bE) (s:Int),(∀x∈l,x.o=gk)→l.foldl (fun s x=>s+x.o.n) s=s+l.length:=by
   intro l
   induction l with
   | nil=>intro s _;simp
   | cons b l ih=>
    intro s hl
    rw[iw,ih _ fun x hx=>hl x (bk _ hx),hl b (bl ..),eF]
    show s+1+(l.length:Int)=s+((l.length+1:Nat):Int)
    omega
  show(if kindOf (a::X)=2 then Sx.ko (j6 (a::X))else 0)=((a::X).length:Int)
  rw[if_pos hk,hL,Sx.ko,hs _ _ h]
  simp
section
variable {places ah n k f t kE:Nat} {x:Net} {at' tok:List Int}
theorem cw.Ml (h:cw places ah x n) (hs:1≤ah) (ht:t<places) (hf:f<places):gf (x.P t) f≤(x.K f).length:=by
 by_cases hft:f=t
 ·subst hft
  rw[h.own hf]
  exact fq _
 ·obtain⟨r,hr,e1,e2⟩:=h.recv ht hf hft (sh:=0) (by omega)
  rw[gf,if_neg (by rw[(h.pid t ht).1];exact hft)]
  have h1:sL (((x.P t).rs.filter fun r=>decide (r.fm.toNat=f)).map (·.t))≤r.t:=uG (aB.2 ⟨r,aP.2 ⟨hr,by simp[e1]⟩,rfl⟩)
  have h2:=(h.vj t ht r hr).t
  rw[e1,e2]at h2
  have hS:=h.msg f hf t ht (Ne.symm hft) 0 (by omega)
  have h3:iC (x.H f t 0) r.q.toNat≤(x.K f).length:=by
   cases hq:r.q.toNat with
   | zero=>simp[iC]
   | succ j=>
    cases hj:(x.H f t 0)[j]? with
    | none=>simp[iC,hj]
    | some m=>
     have:=(hS.at' j m hj).2.2.2.2.2.1
     simpa [iC,hj]using this
  omega
structure iH (places ah:Nat) (x:Net) (k:Nat) (tok:List Int) (kE:Nat):Prop where
 q:oK places ah x k
 tv:b8 tok=0
 tl:tok.length=places
 one:∀i<places,∀C∈x.K i,lF C.when tok=true∧C.ops=[gk]
 num:((bD places).map fun i=>(x.K i).length).sum=kE
theorem iH.ops (h:iH places ah x k tok kE) {a:List Int} (hl:a.length=places) (hin:lF tok a=true):(opsOf dx (mF x.K places a)).length=kE∧∀y∈opsOf dx (mF x.K places a),y.o=gk:=by
 have hS:mF x.K places a=(bD places).flatMap x.K:=by
  unfold mF
  rw[List.flatMap_def,List.flatMap_def]
  congr 1
  refine cB fun f hf=>?_
  rw[fk]
  intro C hC
  have h1:=(h.one f (dX.1 hf) C hC).1
  have h2:=h.q.lA.mem (dX.1 hf) hC
  exact mh h1 hin (by rw[h.tl,h2.2.2.2.2];exact aX _)
 rw[hS]
 have hone:∀C∈(bD places).flatMap x.K,C.ops=[gk]:=fun C hC=>by
  obtain⟨f,hf,hC⟩:=gM.1 hC
  exact(h.one f (dX.1 hf) C hC).2
 have hA:∀S:List bO,(∀C∈S,C.ops=[gk])→bM S=S.map fun C=>eD C gk:=by
  intro S
  induction S with
  | nil=>intro _;rfl
  | cons C S ih=>
   intro hS
   have h1:=ih fun D hD=>hS D (bk _ hD)
   unfold bM at h1 ⊢
   rw[List.flatMap_cons,h1,hS C (bl ..)]
   rfl
 have hn:((bM ((bD places).flatMap x.K)).map (·.d)).Nodup:=by
  rw[hA _ hone,fc]
  refine fU.2 (List.pairwise_flatMap.2 ⟨fun f hf=>?_,?_⟩)
  ·refine bV.2 fun i j hi hj hij he=>?_
   obtain⟨a1,a2,_⟩:=h.q.lA.tg f (dX.1 hf) i _ (ak hi)
   obtain⟨b1,b2,_⟩:=h.q.lA.tg f (dX.1 hf) j _ (ak hj)
   simp only[Function.comp,eD,iV,gi.mk.injEq,a1,b1,aR]at he
   omega
  ·refine bV.2 fun i j hi hj hij C hC D hD he=>?_
   rw[List.getElem_range]at hC hD
   rw[ir]at hi hj
   have a1:=(h.q.lA.mem hi hC).1
   have b1:=(h.q.lA.mem hj hD).1
   simp only[Function.comp,eD,iV,gi.mk.injEq]at he
   omega
 have hp:=Dp (key:=dx) hn fun y hy=>by
  rw[hA _ hone]at hy
  obtain⟨C,_,rfl⟩:=aB.1 hy
  rfl
 refine⟨?_,fun y hy=>?_⟩
 ·rw[hp.length_eq,hA _ hone,aA,List.length_flatMap]
  exact h.num
 ·have:=hp.mem_iff.1 hy
  rw[hA _ hone]at this
  obtain⟨C,_,rfl⟩:=aB.1 this
  rfl
theorem iH.read (h:iH places ah x k tok kE) (ht:t<places) (hin:lF tok (bG (x.P t))=true):(opsOf dx (aW (x.P t).L dx (bG (x.P t)))).length=kE∧∀y∈opsOf dx (aW (x.P t).L dx (bG (x.P t))),y.o=gk:=by
 have hl:(bG (x.P t)).length=places:=by rw[iJ,(h.q.lA.pid t ht).2.1]
 rw[h.q.lA.read ht hl (uK _)]
 exact h.ops hl hin
theorem iH.val (h:iH places ah x k tok kE) (ht:t<places) (hin:lF tok (bG (x.P t))=true):(Sx.valOf dx (aW (x.P t).L dx (bG (x.P t)))).n=kE:=by
 obtain⟨h1,h2⟩:=h.read ht hin
 rw[uo,BA h2,h1]
theorem GL (z:Int):∀n:Nat,wW (aD n z)=n*z:=by
 have h:∀(n:Nat) (s:Int),(aD n z).foldl (· + ·) s=s+n*z:=by
  intro n
  induction n with
  | zero=>intro s;simp
  | succ n ih=>
   intro s
   rw[List.replicate_succ,iw,ih]
   rw[Int.natCast_succ,Int.add_mul]
   omega
 intro n
 rw[wW,h]
 simp
theorem GM {b:Int} {xs:List Int} (h:∀y∈xs,y≤b):wW xs≤xs.length*b:=by
 have h1:∀(l:List Int) (s:Int),(∀y∈l,y≤b)→l.foldl (· + ·) s≤s+l.length*b:=by
  intro l
  induction l with
  | nil=>intro s _;simp
  | cons a l ih=>
   intro s hl
   have h2:=ih (s+a) fun y hy=>hl y (bk _ hy)
   have h3:=hl a (bl ..)
   rw[iw,eF,Int.natCast_succ,Int.add_mul]
   omega
 have:=h1 xs 0 h
 rw[wW]
 omega
theorem iH.late (h:iH places ah x k tok kE) (hs:1≤ah) (hk:k<1000) (ht:t<places) (hin:lF tok (bG (x.P t))=true):(Sx.valOf dx (aW (x.P t).L dx (bG (x.P t))++[⟨aD places 1099511627776,t,[gk]⟩])).n=kE+1:=by
 obtain⟨h1,h2⟩:=h.read ht hin
 obtain⟨_,pS,_⟩:=h.q.lA.pid t ht
 have Bn:(bG (x.P t)).length=places:=by rw[iJ,pS]
 have CU:∀(j:Nat) y,(bG (x.P t))[j]?=some y→y≤k:=fun j y hj=>by
  unfold bG at hj
  rw[aF]at hj
  obtain⟨u,hu,rfl⟩:=aI.1 hj
  obtain⟨JA,Jz⟩:=ai.1 hu
  rw[List.getElem_range]at Jz
  rw[ir,pS]at JA
  have a1:=h.q.lA.Ml hs ht (f:=u) (by omega)
  have a2:=h.q.lA.tW u (by omega)
  have a3:=(h.q.lA.kY u (by omega)).tW
  omega
 have hm:bM [⟨aD places 1099511627776,(t:Int),[gk]⟩]=[eD ⟨aD places 1099511627776,t,[gk]⟩ gk]:=rfl
 have hd:(eD ⟨aD places 1099511627776,(t:Int),[gk]⟩ gk).d.time=1099511627776:=by
  show(aD places (1099511627776:Int)).getD ((t:Int).toNat) 0=1099511627776
  rw[aR,aO,List.getElem?_replicate,if_pos ht]
  rfl
 have hw:(eD ⟨aD places 1099511627776,(t:Int),[gk]⟩ gk).w=places*1099511627776:=GL _ _
 have ho:=Et (key:=dx) (l:=aW (x.P t).L dx (bG (x.P t))) (m:=[⟨aD places 1099511627776,(t:Int),[gk]⟩]) (by rw[hm];simp) (by rw[hm];exact List.pairwise_singleton _ _) fun y hy z hz=>by
  rw[hm]at hz
  obtain rfl:=ay.1 hz
  obtain⟨c,hc,o,X1,rfl⟩:=fF.1 hy
  obtain⟨zb,GH⟩:=aP.1 hc
  obtain⟨q,hq,rfl⟩:=iz zb
  obtain⟨wF,VC⟩:=(h.q.lA.kY t ht).put q hq
  have wE:(lI q).when.length=places:=VC.trans pS
  have hle:∀y∈(lI q).when,y≤(k:Int):=fun y hy=>by
   obtain⟨j,hj⟩:=aJ hy
   have oP:=(ai.1 hj).1
   have hj2:(bG (x.P t))[j]?=some (bG (x.P t))[j]:=ak (by omega)
   have a1:=AS GH hj hj2
   have a2:=CU j _ hj2
   omega
  have xZ:=GM hle
  rw[wE]at xZ
  have hlt:(eD (lI q) o).w<(eD ⟨aD places 1099511627776,(t:Int),[gk]⟩ gk).w:=by
   rw[hw]
   show wW (lI q).when<(places:Int)*1099511627776
   have h3:(places:Int)*k≤places*1000:=Int.mul_le_mul_of_nonneg_left (by omega) (by omega)
   omega
  refine⟨?_,fun he=>?_⟩
  ·rw[jr]
   simp only[iq,mu]
   rw[gZ,if_pos hlt]
   simp
  ·have e1:(eD (lI q) o).d.time=1099511627776:=by rw[he,hd]
   have e2:(eD (lI q) o).d.time≤k:=by
    show(lI q).when.getD (lI q).place.toNat 0≤k
    rw[aO]
    cases hg:(lI q).when[(lI q).place.toNat]? with
    | none=>simp
    | some u=>exact hle u (ae hg)
   omega
 have hf:(bM [⟨aD places 1099511627776,(t:Int),[gk]⟩]).filter (fun x=>decide (x.o.key=dx))=[eD ⟨aD places 1099511627776,t,[gk]⟩ gk]:=rfl
 rw[hf]at ho
 rw[uo,ho,BA,bA,h1]
 ·simp
 ·intro y hy
  rcases au.1 hy with hy|hy
  ·exact h2 y hy
  ·rw[ay.1 hy]
   rfl
theorem Ec {g g':Nat→Nat}:∀{p:Nat},t<p→g' t=g t+1→(∀i,i≠t→g' i=g i)→((bD p).map g').sum=((bD p).map g).sum+1
 | 0,ht,_,_=>by omega
 | p+1,ht,h1,h2=>by
  rw[jh,bw,bw,List.sum_append,List.sum_append]
  simp only[cj,gy,lO,List.sum_nil,dZ]
  by_cases hp:t=p
  ·subst hp
   have h3:(bD t).map g'=(bD t).map g:=cB fun i hi=>h2 i (by have:=dX.1 hi;omega)
   rw[h3,h1]
   omega
  ·rw[Ec (by omega) h1 h2,h2 p (by omega)]
   omega
theorem iH.dW (h:iH places ah x k tok kE) (hk:k<200) (ht:t<places):iH places ah (fL (gb x t) (iE (x.P t))) (k+1) tok kE:=by
 obtain⟨hs,hq⟩:=h.q.dW hk ht
 have hK:∀i,(fL (gb x t) (iE (x.P t))).K i=x.K i:=fun i=>by
  rw[(o8 hs fun _ hm=>hm).2.2.1]
  by_cases hi:i=t
  ·subst hi
   rw[gb,qq]
  ·rw[gb,qp hi]
 refine⟨hq,h.tv,h.tl,fun i hi C hC=>h.one i hi C (by rwa[hK]at hC),?_⟩
 rw[←h.num]
 congr 1
 exact cB fun i _=>by rw[hK]
theorem xE {p i:Nat} (h1:1≤p) (h6:p≤6) (hi:i<12):fE { gk with no:=i } p=0:=IX (key:=dx) (by kernel_rfl) h1 h6 hi
theorem iH.K0 (h:iH places ah x k tok kE) (hk:k<200) (ht:t<places):(gY (x.P t) (bG (x.P t)) [gk]).code=0:=by
 have hp:=h.q.lA.kY t ht
 refine IQ hp (by omega) (xM hp.toyM) (by simp) (by simp) fun o ho i hi=>?_
 rw[ay.1 ho]
 exact xE hp.p1 hp.p6 hi
theorem Mp {xs:List Int} {i:Nat} {z:Int} (hz:xs.getD i 0≤z):lF xs (xs.set i z)=true:=rB (by simp) fun j a b ha hb=>by
 by_cases hij:i=j
 ·subst hij
  have hl:=(ai.1 ha).1
  rw[bX hl]at hb
  cases hb
  rw[aO,ha]at hz
  exact hz
 ·rw[cN hij,ha]at hb
  cases hb
  exact fq _
theorem iH.tg (h:iH places ah x k tok kE) (hk:k<200) (ht:t<places) (hin:lF tok (bG (x.P t))=true) :
  Sys places ah (gU x ah t (bI (x.P t) (bG (x.P t)) [gk])) (lM (x.P t) (bI (x.P t) (bG (x.P t)) [gk])) (k+1) ∧
  iH places ah (fL (gU x ah t (bI (x.P t) (bG (x.P t)) [gk])) (lM (x.P t) (bI (x.P t) (bG (x.P t)) [gk]))) (k+1) (bI (x.P t) (bG (x.P t)) [gk]).when (kE+1):=by
 obtain⟨kT,pS,hsh⟩:=h.q.lA.pid t ht
 have hc:=h.K0 hk ht
 obtain⟨hs,hq⟩:=h.q.tg hk ht hc (by simp)
 have hK:=(o8 hs fun _ hm=>hm).2.2.1
 have Bn:(bG (x.P t)).length=places:=by rw[iJ,pS]
 have xZ:(bI (x.P t) (bG (x.P t)) [gk]).when.length=places:=by simp[bI,Bn]
 have hsw:lF (bG (x.P t)) (bI (x.P t) (bG (x.P t)) [gk]).when=true:=by
  refine Mp ?_
  rw[Hl (h.q.lA.kY t ht).id,gf,if_pos rfl]
  omega
 have hC:=(p5 hc).2.2
 refine⟨hs,hq,(iy hC).vec,xZ,fun i hi C IA=>?_,?_⟩
 ·rw[hK]at IA
  by_cases hit:i=t
  ·subst hit
   rw[gU,qq]at IA
   rcases au.1 IA with IA|IA
   ·obtain⟨a1,a2⟩:=h.one i hi C IA
    have a3:=(h.q.lA.mem hi IA).2.2.2.2
    exact⟨mh (mh a1 hin (by rw[a3,h.tl];exact aX _)) hsw (by rw[a3,Bn];exact aX _),a2⟩
   ·rw[ay.1 IA]
    exact⟨uK _,rfl⟩
  ·rw[gU,qp hit]at IA
   obtain⟨a1,a2⟩:=h.one i hi C IA
   have a3:=(h.q.lA.mem hi IA).2.2.2.2
   exact⟨mh (mh a1 hin (by rw[a3,h.tl];exact aX _)) hsw (by rw[a3,Bn];exact aX _),a2⟩
 ·rw[hK,←h.num]
  refine Ec ht ?_ fun i hi=>?_
  ·rw[gU,qq,bA]
   rfl
  ·rw[gU,qp hi]
theorem Hs (hp1:1≤places) (y9:places≤6) (hs1:1≤ah) (FQ:ah≤6):iH places ah (iU places ah) 0 (aD places 0) 0:=
 ⟨Fu hp1 y9 hs1 FQ,Br hp1 y9,by simp,fun i _ C hC=>by simp[iU]at hC,by
  have h0:∀l:List Nat,(l.map fun i=>((iU places ah).K i).length).sum=0:=by
   intro l
   induction l with
   | nil=>rfl
   | cons a l ih=>rw[cj,lO,ih];rfl
  exact h0 _⟩
end
end Go.Proofs.YtmkapocibaojdaaGreatDoor
end
section
namespace Go.Proofs.YtmkapocibaojdaaGreatDoor
open Go Go.Sx
structure hU (x:fJ) (n:Nat):Prop where
 kY:iW x n
 p:x.places=1
 id:x.id=0
 base:x.base=[0]
 lone:yN x.L x.clock
structure sP (t:Int) (os:List fP):Prop where
 len:os.length≤12
 no:∀(i:Nat) o,os[i]?=some o→o.no=i
 err:∀o∈os,fE o 1=0
 bF:∀o∈os,∀d∈o.bF,d.time≤t
theorem hU.new {n:Nat}:hU (iM 0 1 1) n:=⟨AO n (by omega) (by omega) (by omega) (by omega) (by omega),rfl,rfl,rfl,by simp[iM],by simp[iM]⟩
theorem hU.snap {x:fJ} {n:Nat} (h:hU x n):bG x=[x.clock]:=by
 rw[bG,h.p]
 show[gf x 0]=[x.clock]
 rw[gf,if_pos h.id.symm]
theorem hU.tW {x:fJ} {n:Nat} (h:hU x n):0≤x.clock∧x.clock≤n∧x.clock≤1099511627776:=⟨h.kY.c0,h.kY.tW,h.kY.c1⟩
theorem um {t:Int} (h0:0≤t) (h1:t≤1099511627776):b8 [t]=0:=by
 rw[b8,if_neg (by simp),if_neg]
 simp[u7]
 omega
theorem Dz {s t:Int} (h:s≤t):lF [s] [t]=true:=by simp[lF,h]
theorem hU.known {x:fJ} {n:Nat} (h:hU x n):ff x [x.clock]=0:=by
 obtain⟨h0,_,h1⟩:=h.tW
 rw[ff,if_neg (by simp[um h0 h1]),if_neg (by simp[h.p]),h.snap,if_pos (Dz (fq _))]
theorem hU.V4 {x:fJ} {n:Nat} (h:hU x n) (key:ByteArray):eA x.places x.base key [x.clock]=if dS key=true then 0 else 4:=by
 obtain⟨h0,_,h1⟩:=h.tW
 rw[eA]
 cases hk:dS key with
 | false=>rfl
 | true=>rw[if_neg (by simp),if_neg (by simp[um h0 h1]),if_neg (by simp[h.p]),h.base,Dz h0];rfl
theorem hU.Pz {x:fJ} {n:Nat} (h:hU x n) (key:ByteArray):iR x key [x.clock]=if dS key=true then 0 else 4:=by
 rw[iR,h.V4,jk,h.known]
 cases hk:dS key <;> rfl
theorem hU.op {x:fJ} {n:Nat} (h:hU x n) {q:fG} (hq:q∈x.L):∃s,q.when=[s]∧q.place=0∧1≤s∧s≤x.clock∧fE q.op 1=0:=by
 obtain⟨s,h1,h2,h3⟩:=h.lone.at' q hq
 obtain⟨h4,_⟩:=h.kY.put q hq
 have hr:=iy h4
 have hw:(lI q).when=[s]:=h1
 have hv:=hr.vec
 rw[hw]at hv
 have ht:=hr.t0
 rw[hw,show(lI q).place=0 from h2]at ht
 have hs:s≠0:=fun h0=>ht (by rw[h0];rfl)
 have hs0:0≤s:=by
  rw[b8,if_neg (by simp)]at hv
  split at hv
  ·cases hv
  ·rename_i hb
   simp[u7]at hb
   omega
 have ho:=sj h4 q.op (ay.2 rfl)
 rw[hw]at ho
 exact⟨s,h1,h2,by omega,h3,ho⟩
theorem sP.nil (t:Int):sP t []:=⟨by simp,by simp,by simp,by simp⟩
theorem sP.pair {t:Int} {os:List fP} (h:sP t os):os.Pairwise fun a b=>a.no<b.no:=bV.2 fun i j hi hj hij=>by
 rw[h.no i _ (ak hi),h.no j _ (ak hj)]
 omega
theorem sP.lp {t:Int} {os:List fP} (h:sP t os):lp os=os:=by
 apply eH
 intro i
 cases ho:os[i]? with
 | none=>
  rw[List.getElem?_eq_none_iff]at ho ⊢
  rwa[iL]
 | some o=>
  rw[BT ho]
  have:=h.no i o ho
  cases o
  simp_all
theorem hU.bI {x:fJ} {n:Nat} (h:hU x n) {os:List fP} (hs:sP x.clock os):bI x [x.clock] os=⟨[x.clock+1],0,os⟩:=by
 rw[Go.Proofs.YtmkapocibaojdaaGreatDoor.bI,hs.lp,h.id]
 rfl
theorem hU.K0 {x:fJ} {n:Nat} (h:hU x n) (hn:n<1000000) {os:List fP} (hs:sP x.clock os) (h0:os≠[]):(gY x [x.clock] os).code=0:=by
 obtain⟨h1,h2,h3⟩:=h.tW
 rw[gY,if_neg (by simp[h.known]),if_neg (by omega),h.bI hs]
 exact nC (um (by omega) (by omega)) (by simp) (by simp) hs.len (by simp;omega) h0 hs.err hs.pair
theorem hU.tg {x:fJ} {n:Nat} (h:hU x n) (hn:n<1000000) {os:List fP} (hs:sP x.clock os) (h0:os≠[]) (hd:∀o∈os,o.bF.length≤1000000):hU (p4 x (Go.Proofs.YtmkapocibaojdaaGreatDoor.bI x [x.clock] os)) (n+1):=by
 refine⟨IP h.kY (h.K0 hn hs h0) hd,h.p,h.id,h.base,?_⟩
 rw[h.bI hs]
 exact h.lone.put hs.bF
theorem Kp {x:fJ} {n:Nat} (h:hU x n) {os:List fP} (hs:sP x.clock os) (h0:os≠[]) {key:ByteArray} (hk:dS key=true):(cZ key (aW x.L key [x.clock]++[⟨[1099511627776],0,os⟩])).code=0:=by
 refine q7 hk (fun c hc=>?_) 1 fun c hc=>?_
 ·rcases au.1 hc with hc|hc
  ·obtain⟨q,hq,rfl⟩:=iz (aP.1 hc).1
   exact(h.kY.put q hq).1
  ·rw[ay.1 hc]
   exact nC (um (by omega) (by omega)) (by simp) (by simp) hs.len (by simp) h0 hs.err hs.pair
 ·rcases au.1 hc with hc|hc
  ·obtain⟨q,hq,rfl⟩:=iz (aP.1 hc).1
   have:=(h.kY.put q hq).2
   rw[h.p]at this
   exact this
  ·rw[ay.1 hc]
   rfl
theorem hU.val {x:fJ} {n:Nat} (h:hU x n) (hn:n<1000000) {os:List fP} (hs:sP x.clock os) (key:ByteArray):Sx.valOf key (aW (p4 x (Go.Proofs.YtmkapocibaojdaaGreatDoor.bI x [x.clock] os)).L key [x.clock+1])=Sx.valOf key (aW x.L key [x.clock]++[⟨[1099511627776],0,os⟩]):=by
 have hc:=h.tW
 rw[h.bI hs]
 exact FH h.lone (by omega) hs.bF hs.pair
end Go.Proofs.YtmkapocibaojdaaGreatDoor
end
section
namespace Go.Proofs.YtmkapocibaojdaaGreatDoor
open Go Go.Sx
def PM (key:ByteArray):Nat:=if dS key=true then 0 else 4
def HX (x:fJ) (os:List fP) (key:ByteArray):Lf:=if dS key=true then Sx.valOf key (qT x [x.clock] os key)else ⟨0,aL #[],0,[]⟩
theorem FA {o:fP} {p:Int} (h:fE o p=0):o.bF.length≤60:=by
 unfold fE at h
 split at h
 ·cases h
 split at h
 ·cases h
 split at h
 ·cases h
 split at h
 ·cases h
 split at h
 ·cases h
 omega
theorem sP.CW {t:Int} {os:List fP} (h:sP t os):∀o∈os,o.bF.length≤1000000:=fun o ho=>by
 have:=FA (h.err o ho)
 omega
theorem hU.mono {x:fJ} {n m:Nat} (h:hU x n) (hm:n≤m):hU x m:=⟨h.kY.mono hm,h.p,h.id,h.base,h.lone⟩
theorem hU.same {x:fJ} {n:Nat} (h:hU x n) (hn:n<1000000) {os:List fP} (hs:sP x.clock os) (h0:os≠[]) (key:ByteArray):HX (p4 x (Go.Proofs.YtmkapocibaojdaaGreatDoor.bI x [x.clock] os)) [] key=HX x os key:=by
 have e:=h.val hn hs key
 unfold HX
 split
 ·rw[qT,qT,if_pos rfl,if_neg h0]
  show Sx.valOf key (aW (p4 x (Go.Proofs.YtmkapocibaojdaaGreatDoor.bI x [x.clock] os)).L key [x.clock+1])=_
  rw[e,h.id]
  rfl
 ·rfl
section Fo
variable {w:World} {S:Nat→Prop} {M:List Nat} {er:Nat→Addr} {eb:Nat→Array Value×TypeId} {x:fJ} {pb sb n:Nat} {os:List fP}
theorem FI (hC:cm w S .nilIface (dC er eb)) (hP:Pre w S M [bQ pb x,jQ sb [x.clock]]) (h:hU x n) :
  Calls Tryz.prog 33 #[.pointer (some ⟨sb,0,none⟩),.pointer (some ⟨pb,0,none⟩)] w fun e w'=>∃a' n' c',cQ M w S w' e (.tuple #[.slice a' n' c',.nilIface]) [bQ pb x,lN sb [x.clock] pb [x.clock] []] []:=by
 obtain⟨h0,_,h1⟩:=h.tW
 refine(BQ hC hP h.kY.toyM (um h0 h1) (by simp[h.p])).mono ?_
 rintro e w' (⟨hf,_⟩|⟨_,a',n',c',hR⟩)
 ·rw[h.snap,Dz (fq _)]at hf
  cases hf
 ·rw[h.snap]at hR
  exact⟨_,_,_,hR.less (by simp)⟩
theorem HZ (hC:cm w S .nilIface (dC er eb)) (hP:Pre w S M [bQ pb x,nD sb [x.clock] pb [x.clock] os]) (h:hU x n) (hn:n≤600) (hs:sP x.clock os) (key:ByteArray) :
  Calls Tryz.prog 38 #[.pointer (some ⟨sb,0,none⟩),.string key] w fun e w'=>∃ua un uc r,cQ M (zero w) S w' e (.tuple #[w8 (HX x os key) (.slice ua un uc),r]) [bQ pb x,nD sb [x.clock] pb [x.clock] os] [(.slice ua un uc,pe (HX x os key).set)]∧lq 390 er (PM key) r:=by
 have hk:yZ x [x.clock] os key=PM key:=by
  unfold yZ
  split
  ·exact h.Pz key
  ·exact h.V4 key
 have hlen:=hs.len
 refine(Ej hC hP h.kY hn (by simp) (by simp) (by omega) fun h0 hk=>?_).mono ?_
 ·rw[qT,if_neg h0,h.id]
  exact Kp h hs h0 hk
 rintro e w' (⟨hf,hR⟩|⟨hf,ua,un,uc,hR⟩)
 ·rw[hk]at hf hR
  have hno:dS key≠true:=fun hc=>hf (by rw[PM,if_pos hc])
  have hv:HX x os key=⟨0,aL #[],0,[]⟩:=by rw[HX,if_neg hno]
  rw[hv]
  refine⟨none,0,0,_,hR.more hP.no (G0:=[(.slice none 0 0,pe [])]) ?_,.inr ⟨hf,rfl⟩⟩
  exact .cons .nil (.nil _ _)
 ·rw[hk]at hf
  have hyes:dS key=true:=bU fun hc=>by rw[PM,if_neg hc]at hf;cases hf
  have hv:HX x os key=Sx.valOf key (qT x [x.clock] os key):=by rw[HX,if_pos hyes]
  rw[hv]
  exact⟨ua,un,uc,_,hR,.inl ⟨hf,rfl⟩⟩
end Fo
end Go.Proofs.YtmkapocibaojdaaGreatDoor
end
section
namespace Go.Proofs.YtmkapocibaojdaaGreatDoor
open Go Go.Sx
set_option maxHeartbeats 4000000 in
theorem we {h r:List (Nat×Obj)} {F:List (List Nat×World)} {S0:Nat→Prop} {C0:List Chunk} {G0:List (Value×D)} {b pb:Nat} {tok at':List Int} {ops:List fP} (ps:List Nat) (y:j7) (hC:pick C0 ps=[bL b (oS (some ⟨y.tb,0,none⟩) (.slice y.ta y.tn y.tc)),bL y.tb (ot pb (.slice y.aa y.an y.ac) (.slice y.oa y.on y.oc))]) (hG:∀x∈[(Value.slice y.ta y.tn y.tc,aS tok),(.slice y.aa y.an y.ac,aS at'),(.slice y.oa y.on y.oc,.sl 7 (ops.map fe))],x∈G0) (hnd:ps.Nodup:=by decide) :
  nP h r F ⟨S0,C0,G0⟩ (fun _:Unit=>True) fun _=>⟨S0,o4 C0 ps++[nD b tok pb at' ops],G0⟩:=dH ps y hC hG trivial hnd
abbrev uH:ByteArray:=⟨#[107]⟩
abbrev G3:ByteArray:=⟨#[120]⟩
abbrev y5:fP:=⟨0,uH,1,G3,0,false,[]⟩
theorem PC:HX (iM 0 1 1) [y5] uH=⟨1,G3,0,[]⟩:=by
 have h:=(hU.new (n:=0)).lone
 have e:=h.ops (u:=1099511627776) (by decide) (key:=uH) (m:=[⟨[1099511627776],0,[y5]⟩]) (os:=[y5]) (Cp _ _) (by simp)
 have e2:qT (iM 0 1 1) [(iM 0 1 1).clock] [y5] uH=ey (iM 0 1 1).L uH++[⟨[1099511627776],0,[y5]⟩]:=rfl
 have e3:opsOf uH (ey (iM 0 1 1).L uH)=[]:=by simp[opsOf,nN,sortDone,iM,ey,bM,gx]
 rw[HX,if_pos (by kernel_rfl),e2,uo,e,e3]
 rfl
theorem MC:sP (iM 0 1 1).clock [y5]:=by
 refine⟨by simp,fun i o h=>?_,fun o ho=>?_,fun o ho d hd=>?_⟩
 ·obtain⟨hi,he⟩:=ai.1 h
  rw[List.length_singleton]at hi
  obtain rfl:i=0:=by omega
  rw[←he]
  rfl
 ·rw[ay.1 ho]
  kernel_rfl
 ·rw[ay.1 ho]at hd
  cases hd
set_option maxHeartbeats 8000000 in
theorem Fl {w:World} {S:Nat→Prop} {er:Nat→Addr} {eb:Nat→Array Value×TypeId} (hC:cm w S .nilIface (dC er eb)) :
  Calls Tryz.prog 31 #[] w fun e w'=>cQ [] (zero w) S w' e (.bool true) [] []:=by
 refine jL Tryz.func31 U5 (args:=[]) (S:=S) (G:=[(_,dC er eb)]) (by kernel_rfl) (.cons hC (.nil _ _)) ?_
 refine tZ ?_
 refine Zs [zR 0] [] [zB 0 false] ?_
 refine jS [(0,false),(1,true),(2,true),(3,true),(4,true),(5,true)] [] ?_
 refine Yc 12 #[nI 0,nI 1,nI 1] (some 8) fun w S hG=>?_
 refine(BY (id:=0) (places:=1) (ah:=1) (hG.at 0 rfl)).mono ?_
 rintro e1 w1 (⟨h,_⟩|⟨_,pb,hR⟩)
 ·exact absurd (by decide) h
 rw[show iM (0:Int).toNat (1:Int).toNat (1:Int).toNat=iM 0 1 1 from rfl]at hR
 refine⟨_,_,_,hR,?_⟩
 try simp only[aQ]
 refine Ya (bh 1 6) [8] [zP 1 pb,zV 2 .nilIface] ?_
 refine aC ?_
 refine jS [(0,false),(1,true),(2,true),(3,true),(4,true),(5,true)] [] ?_
 refine Yc 32 #[nI 1] (some 12) fun w S hG=>?_
 refine(Hr (p:=1) (hG.at 0 rfl) (by decide) (by decide)).mono ?_
 rintro e2 w2 ⟨sb,hR⟩
 rw[show aD (1:Int).toNat (0:Int)=[(iM 0 1 1).clock] from rfl]at hR
 refine⟨_,_,_,hR,?_⟩
 try simp only[aQ]
 refine Ya (bh 1 6) [12] [zP 3 sb,zV 4 .nilIface] ?_
 refine aC (aq ?_)
 refine Zs (bh 0 14) [] [zB 28 false] ?_
 refine cF ?_
 refine aG ?_
 refine jS [(0,true),(1,true),(2,false),(3,true),(4,true),(5,true),(6,true)] [] ?_
 refine Ya [zR 0,zR 1] [28,1] [zP 30 sb,zP 31 pb] ?_
 refine cn [] [0,1] 33 #[.pointer (some (⟨sb,0,none⟩)),.pointer (some (⟨pb,0,none⟩))] (some 32) (by kernel_rfl) (by kernel_rfl) (by decide) (fun w S M hP hG _=>?_)
 refine(FI (n:=0) (hG.at 0 rfl) hP hU.new).mono ?_
 rintro e3 w3 ⟨a3,n3,c3,hR⟩
 refine⟨_,_,_,hR,?_⟩
 try simp only[aQ]
 refine Ya (bh 3 7) [32,30,31] [] ?_
 try simp only[aQ]
 refine aC ?_
 try simp only[aQ]
 refine aq ?_
 try simp only[aQ]
 refine jT [(0,true),(1,false),(2,true)] [] ?_
 refine Ya [zR 0] [] [zP 35 sb] ?_
 refine cn [] [0,1] 34 #[.pointer (some (⟨sb,0,none⟩)),.string (aL #[107]),.string (aL #[120])] (some 36) (by kernel_rfl) (by kernel_rfl) (by decide) (fun w S M hP hG _=>?_)
 refine(Mr (n:=0) (hG.at 0 rfl) hP (hU.new (n:=0)).kY (by decide) (by decide) (by decide)).mono ?_
 rintro e4 w4 ⟨v,hR,hv⟩
 rw[show jZ (iM 0 1 1) [(iM 0 1 1).clock] [] ⟨0,⟨#[107]⟩,1,⟨#[120]⟩,0,false,[]⟩=0 by kernel_rfl]at hv
 rw[show kH (iM 0 1 1) [(iM 0 1 1).clock] [] ⟨0,⟨#[107]⟩,1,⟨#[120]⟩,0,false,[]⟩=[y5]by kernel_rfl]at hR
 obtain⟨_,rfl⟩|⟨h0,_⟩:=hv
 rotate_left
 ·exact absurd rfl h0
 refine⟨_,_,_,hR,?_⟩
 try simp only[aQ]
 refine Ya [zR 2] [36,35] [] ?_
 try simp only[aQ]
 refine aC ?_
 try simp only[aQ]
 refine aq ?_
 try simp only[aQ]
 refine b9 (eZ 1 rfl) fun y _=>?_
 obtain⟨ta,tn,tc,tb,aa,an,ac,oa,on,oc⟩:=y
 dsimp only
 refine Nm [(bQ pb (iM 0 1 1)),bL sb (.cells #[.pointer (sA tb 0),.slice ta tn tc] 181 (0,0)),bL tb (.cells #[.pointer (sA pb 0),.slice aa an ac,.slice oa on oc] 184 (0,0)),aT (.slice oa on oc) 55 7 (aj fe [y5])] ?_
 refine bH (dg 3 rfl) ?_
 refine Nm [(bQ pb (iM 0 1 1)),bL sb (.cells #[.pointer (sA tb 0),.slice ta tn tc] 181 (0,0)),bL tb (.cells #[.pointer (sA pb 0),.slice aa an ac,.slice oa on oc] 184 (0,0))] ?_
 refine bH (we (tok:=[(iM 0 1 1).clock]) (at':=[(iM 0 1 1).clock]) (ops:=[y5]) [1,2] ⟨ta,tn,tc,tb,aa,an,ac,oa,on,oc⟩ rfl (by simp)) ?_
 refine Nm [(bQ pb (iM 0 1 1)),(nD sb [(iM 0 1 1).clock] pb [(iM 0 1 1).clock] [y5])] ?_
 try simp only[aQ]
 refine jT [(0,true),(1,false),(2,true),(3,true),(4,true),(5,false),(6,false),(7,true)] [] ?_
 refine Ya [zR 0] [] [zP 38 sb] ?_
 refine nJ [] [0,1] 38 #[.pointer (some (⟨sb,0,none⟩)),.string (aL #[107])] (some 39) lG (by kernel_rfl) (by kernel_rfl) (by decide) (fun w S M hP hG _=>?_)
 refine(HZ (n:=0) (hG.at 0 rfl) hP hU.new (by decide) MC uH).mono ?_
 rintro e5 w5 ⟨ua,un,uc,r,hR,hr⟩
 rw[PC]at hR
 rw[show PM uH=0 by kernel_rfl]at hr
 obtain⟨_,rfl⟩|⟨h0,_⟩:=hr
 rotate_left
 ·exact absurd rfl h0
 refine⟨_,_,_,hR,?_⟩
 try simp only[aQ]
 refine Ym (bh 2 5++[.wr 5 [] 0,.wr 6 (ek 0 4) 0,zR 7]) [39,38] (fun aN=>[zP 5 (aN 0),zV 6 .nilIface]) o0 (fun aN=>[(aN 0,.cells #[nI 1,.string G3,nI 0,.slice ua un uc] 64 (0,0))]) [] (fun aN=>?_)
 try simp only[aQ]
 refine aC ?_
 try simp only[aQ]
 refine aq ?_
 try simp only[aQ]
 refine jT [(0,true),(1,true),(2,true),(3,true),(4,true),(5,true),(6,true),(7,true),(8,true),(9,true),(10,true),(11,true),(12,true),(13,true),(14,true),(15,true),(16,true),(17,false),(18,true),(19,true)] [] ?_
 refine Ya (bh 0 12++[.rd 12 [.o 0 none] 0 0]++bh 13 17) [5,6,3,4,2] [zB 57 true,zP 58 sb] ?_
 refine cn [] [1] 43 #[.pointer (some (⟨sb,0,none⟩))] (some 59) (by kernel_rfl) (by kernel_rfl) (by decide) (fun w S M hP hG _=>?_)
 refine(J0 hP).mono ?_
 rintro e6 w6 hR
 refine⟨_,_,_,hR,?_⟩
 try simp only[aQ]
 refine Ya [zR 18,zR 19] [59,57,58] [zB 0 true] ?_
 try simp only[aQ]
 refine aC ?_
 try simp only[aQ]
 refine Yr [[]] (.bool true) fun a w s=>?_
 exact s.pB (by simp) [] [] rfl rfl
end Go.Proofs.YtmkapocibaojdaaGreatDoor
end
