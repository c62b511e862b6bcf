/- Part 13 of the texts of a claim: Net4 Net5 Net6 Net7 Net8 Net9 NetW PWhoT NetC PCauT PCauM PCau. -/
import Derived.Test.YtmkapocibaojdaaGreatDoorTc12
section
namespace Go.Sx
open Go
def Net.upd (x:Net) (f:Nat) (p:PlT) (K':List ComT) (X:Nat→Nat→List MsgT):Net:=
 { P:=fun i=>if i=f then p else x.P i,K:=fun i=>if i=f then K' else x.K i,H:=fun a t sh=>if a=f then x.H a t sh++X t sh else x.H a t sh }
section upd
variable {x:Net} {f:Nat} {p:PlT} {K':List ComT} {X:Nat→Nat→List MsgT}
theorem updP_at:(x.upd f p K' X).P f=p:=if_pos rfl
theorem updP_ne {i:Nat} (h:i≠f):(x.upd f p K' X).P i=x.P i:=if_neg h
theorem updK_at:(x.upd f p K' X).K f=K':=if_pos rfl
theorem updK_ne {i:Nat} (h:i≠f):(x.upd f p K' X).K i=x.K i:=if_neg h
theorem updH_at {t sh:Nat}:(x.upd f p K' X).H f t sh=x.H f t sh++X t sh:=if_pos rfl
theorem updH_ne {i t sh:Nat} (h:i≠f):(x.upd f p K' X).H i t sh=x.H i t sh:=if_neg h
end upd
theorem timeAt_app {l X:List MsgT} {q:Nat} (h:q≤l.length):timeAt (l++X) q=timeAt l q:=by
 cases q with
 | zero=>rfl
 | succ k=>simp only[timeAt,List.getElem?_append_left (show k<l.length by omega)]
theorem timeAt_last {l:List MsgT} {m:MsgT}:timeAt (l++[m]) (l++[m]).length=m.time:=by
 simp[timeAt]
end Go.Sx
namespace Go.Proofs.YtmkapocibaojdaaGreatDoor
open Go Go.Sx
theorem RcvOk.app {r:RcvT} {l X:List MsgT} (h:RcvOk r l) (h0:0≤r.q):RcvOk r (l++X):=by
 have hq:=h.q
 refine⟨by simp;omega,by rw[timeAt_app (by omega)];exact h.t,fun m hm=>?_⟩
 obtain⟨j,h1,h2⟩:=h.l m hm
 exact⟨j,by rw[List.getElem?_append_left (List.getElem?_eq_some_iff.1 h1).1];exact h1,h2⟩
theorem ComeQ_app {l X:List MsgT} {k:Int} {q:PutT} (hk:k≤l.length):ComeQ (l++X) k q↔ComeQ l k q:=by
 constructor
 ·rintro⟨j,m,h1,h2,h3⟩
  exact⟨j,m,by rwa[List.getElem?_append_left (by omega)]at h1,h2,h3⟩
 ·rintro⟨j,m,h1,h2,h3⟩
  exact⟨j,m,by rw[List.getElem?_append_left (List.getElem?_eq_some_iff.1 h1).1];exact h1,h2,h3⟩
section net
variable {places shards n:Nat} {x:Net}
theorem NetIn.upd (h:NetIn places shards x n) {f:Nat} (hf:f<places) {p:PlT} {K':List ComT} {X:Nat→Nat→List MsgT} (hp:PlIn p (n+1)) (hid:p.id=f∧p.places=places∧p.shards=shards) (hclk:(K'.length:Int)=p.clock)
  (hcom:∀(j:Nat) C,K'[j]?=some C→C.place=f∧C.when.getD f 0=j+1∧(comFault C).code=0∧C.when.length=places)
  (hmsg:∀t<places,t≠f→∀sh<shards,Strm K' shards f t sh (x.H f t sh++X t sh)) (hsnd:∀s∈p.ss,SndOk s (x.H f s.to.toNat s.sh.toNat++X s.to.toNat s.sh.toNat)) (hrs:p.rs=(x.P f).rs)
  (hL:∀q,q∈p.L↔OwnQ K' q∨∃r∈(x.P f).rs,ComeQ (x.H r.fm.toNat f r.sh.toNat) r.q q) (hn:(p.L.map dotP).Nodup) (hbase:p.base=(x.P f).base) (hck:(x.P f).clock≤p.clock) :
  NetIn places shards (x.upd f p K' X) (n+1):=by
 obtain⟨i1,i2,i3⟩:=h.pid f hf
 have hsn:inL (snapL (x.P f)) (snapL p)=true:=by
  refine snapL_le (by rw[hid.2.1,i2]) fun k hk=>?_
  unfold snapT
  rw[hid.1,i1,hrs]
  split
  ·exact hck
  ·exact Int.le_refl _
 refine⟨fun i hi=>?_,fun i hi=>?_,fun i hi=>?_,fun i hi=>?_,fun a ha t ht hne sh hs=>?_,fun i hi s hs=>?_,fun i hi r hr=>?_,fun i hi q=>?_,fun i hi=>?_,fun i hi u hu=>?_⟩
 ·by_cases hif:i=f
  ·subst hif
   rw[updP_at]
   exact hp
  ·rw[updP_ne hif]
   exact(h.pin i hi).mono (by omega)
 ·by_cases hif:i=f
  ·subst hif
   rw[updP_at]
   exact hid
  ·rw[updP_ne hif]
   exact h.pid i hi
 ·by_cases hif:i=f
  ·subst hif
   rw[updP_at,updK_at]
   exact hclk
  ·rw[updP_ne hif,updK_ne hif]
   exact h.clk i hi
 ·by_cases hif:i=f
  ·subst hif
   rw[updK_at]
   exact hcom
  ·rw[updK_ne hif]
   exact h.com i hi
 ·by_cases hif:a=f
  ·subst hif
   rw[updK_at,updH_at]
   exact hmsg t ht hne sh hs
  ·rw[updK_ne hif,updH_ne hif]
   exact h.msg a ha t ht hne sh hs
 ·by_cases hif:i=f
  ·subst hif
   rw[updP_at]at hs
   rw[updH_at]
   exact hsnd s hs
  ·rw[updP_ne hif]at hs
   rw[updH_ne hif]
   exact h.snd i hi s hs
 ·have hr0:r∈(x.P i).rs:=by
   by_cases hif:i=f
   ·subst hif
    rw[updP_at,hrs]at hr
    exact hr
   ·rwa[updP_ne hif]at hr
  have h1:=h.rcv i hi r hr0
  have h2:=((h.pin i hi).rcv r hr0).1
  by_cases hrf:r.fm.toNat=f
  ·rw[hrf]at h1 ⊢
   rw[updH_at]
   exact h1.app h2
  ·rw[updH_ne hrf]
   exact h1
 ·by_cases hif:i=f
  ·subst hif
   rw[updP_at,updK_at,hL,hrs]
   have:∀r∈(x.P i).rs,(x.upd i p K' X).H r.fm.toNat i r.sh.toNat=x.H r.fm.toNat i r.sh.toNat:=fun r hr=>updH_ne (h.pair hi hr).2.1
   constructor
   ·rintro(h1|⟨r,hr,h1⟩)
    ·exact .inl h1
    ·exact .inr ⟨r,hr,by rw[this r hr];exact h1⟩
   ·rintro(h1|⟨r,hr,h1⟩)
    ·exact .inl h1
    ·exact .inr ⟨r,hr,by rw[this r hr]at h1;exact h1⟩
  ·rw[updP_ne hif,updK_ne hif,h.L i hi q]
   have:∀r∈(x.P i).rs,(ComeQ ((x.upd f p K' X).H r.fm.toNat i r.sh.toNat) r.q q↔ComeQ (x.H r.fm.toNat i r.sh.toNat) r.q q):=fun r hr=>by
    by_cases hrf:r.fm.toNat=f
    ·have h1:=(h.rcv i hi r hr).q
     rw[hrf]at h1 ⊢
     rw[updH_at]
     exact ComeQ_app h1
    ·rw[updH_ne hrf]
   constructor
   ·rintro(h1|⟨r,hr,h1⟩)
    ·exact .inl h1
    ·exact .inr ⟨r,hr,(this r hr).2 h1⟩
   ·rintro(h1|⟨r,hr,h1⟩)
    ·exact .inl h1
    ·exact .inr ⟨r,hr,(this r hr).1 h1⟩
 ·by_cases hif:i=f
  ·subst hif
   rw[updP_at]
   exact hn
  ·rw[updP_ne hif]
   exact h.nodup i hi
 ·have hb:((x.upd f p K' X).P i).base=(x.P i).base:=by
   by_cases hif:i=f
   ·subst hif
    rw[updP_at]
    exact hbase
   ·rw[updP_ne hif]
  rw[hb]
  by_cases huf:u=f
  ·subst huf
   rw[updP_at]
   have hbl:=(h.pin i hi).basel
   have hpi:=(h.pid i hi).2.1
   exact inL_trans (h.base i hi u hu) hsn (by rw[snapL,List.length_map,List.length_range];omega)
  ·rw[updP_ne huf]
   exact h.base i hi u hu
theorem Strm.more {K:List ComT} {f t sh:Nat} {l:List MsgT} (h:Strm K shards f t sh l) (C:ComT) (hC:(partC shards C sh).ops=[]):Strm (K++[C]) shards f t sh l:=by
 refine⟨fun j m hm=>?_,h.inc,fun D hD hne=>?_⟩
 ·obtain⟨h1,h2,h3,h4,h5,h6,h7⟩:=h.at' j m hm
  refine⟨h1,h2,h3,h4,h5,by simp;omega,h7.imp id fun⟨h8,D,hD,h9⟩=>⟨h8,D,List.mem_append.2 (.inl hD),h9⟩⟩
 ·rcases List.mem_append.1 hD with hD|hD
  ·exact h.all D hD hne
  ·obtain rfl:=List.mem_singleton.1 hD
   exact absurd hC hne
theorem Strm.com {K:List ComT} {f t sh:Nat} {l:List MsgT} (h:Strm K shards f t sh l) {C:ComT} (hC:(partC shards C sh).ops≠[]) (hw:C.when.getD f 0=K.length+1):Strm (K++[C]) shards f t sh (l++[⟨f,t,sh,l.length+1,C.when.getD f 0,false,partC shards C sh⟩]):=by
 refine⟨fun j m hm=>?_,?_,fun D hD hne=>?_⟩
 ·rcases Nat.lt_or_ge j l.length with hj|hj
  ·rw[List.getElem?_append_left hj]at hm
   obtain⟨h1,h2,h3,h4,h5,h6,h7⟩:=h.at' j m hm
   exact⟨h1,h2,h3,h4,h5,by simp;omega,h7.imp id fun⟨h8,D,hD,h9⟩=>⟨h8,D,List.mem_append.2 (.inl hD),h9⟩⟩
  ·have hjl:=(List.getElem?_eq_some_iff.1 hm).1
   simp at hjl
   have:j=l.length:=by omega
   subst this
   simp at hm
   subst hm
   refine⟨rfl,rfl,rfl,rfl,?_,?_,.inr ⟨rfl,C,by simp,rfl,hC,rfl⟩⟩
   ·show 0≤C.when.getD f 0
    omega
   ·have h8:((K++[C]).length:Int)=K.length+1:=by simp
    show C.when.getD f 0≤((K++[C]).length:Int)
    omega
 ·rw[List.pairwise_append]
  refine⟨h.inc,by simp,fun a ha b hb=>?_⟩
  obtain rfl:=List.mem_singleton.1 hb
  obtain⟨j,hj⟩:=List.getElem?_of_mem ha
  obtain⟨_,_,_,_,_,h6,_⟩:=h.at' j a hj
  exact⟨by show a.time≤C.when.getD f 0;omega,fun _=>by show a.time<C.when.getD f 0;omega⟩
 ·rcases List.mem_append.1 hD with hD|hD
  ·obtain⟨m,hm,h1⟩:=h.all D hD hne
   exact⟨m,List.mem_append.2 (.inl hm),h1⟩
  ·obtain rfl:=List.mem_singleton.1 hD
   exact⟨_,List.mem_append.2 (.inr (List.mem_singleton.2 rfl)),rfl,rfl,rfl⟩
theorem Strm.beat {K:List ComT} {f t sh:Nat} {l:List MsgT} (h:Strm K shards f t sh l):Strm K shards f t sh (l++[⟨f,t,sh,l.length+1,K.length,true,⟨[],0,[]⟩⟩]):=by
 refine⟨fun j m hm=>?_,?_,fun D hD hne=>?_⟩
 ·rcases Nat.lt_or_ge j l.length with hj|hj
  ·rw[List.getElem?_append_left hj]at hm
   exact h.at' j m hm
  ·have hjl:=(List.getElem?_eq_some_iff.1 hm).1
   simp at hjl
   have:j=l.length:=by omega
   subst this
   simp at hm
   subst hm
   exact⟨rfl,rfl,rfl,rfl,by show(0:Int)≤K.length;omega,Int.le_refl _,.inl ⟨rfl,rfl⟩⟩
 ·rw[List.pairwise_append]
  refine⟨h.inc,by simp,fun a ha b hb=>?_⟩
  obtain rfl:=List.mem_singleton.1 hb
  obtain⟨j,hj⟩:=List.getElem?_of_mem ha
  obtain⟨_,_,_,_,_,h6,_⟩:=h.at' j a hj
  exact⟨h6,fun h=>by cases h⟩
 ·obtain⟨m,hm,h1⟩:=h.all D hD hne
  exact⟨m,List.mem_append.2 (.inl hm),h1⟩
def comX (x:Net) (shards f:Nat) (C:ComT) (t sh:Nat):List MsgT:=if (partC shards C sh).ops=[]then []else [⟨f,t,sh,(x.H f t sh).length+1,C.when.getD f 0,false,partC shards C sh⟩]
def netCom (x:Net) (shards f:Nat) (C:ComT):Net:=x.upd f (comPl (x.P f) C) (x.K f++[C]) (comX x shards f C)
def beatX (x:Net) (f:Nat) (t sh:Nat):List MsgT:=[⟨f,t,sh,(x.H f t sh).length+1,(x.K f).length,true,⟨[],0,[]⟩⟩]
def netBeat (x:Net) (f:Nat):Net:=x.upd f (beatPl (x.P f)) (x.K f) (beatX x f)
theorem NetIn.pairS (h:NetIn places shards x n) {f:Nat} (hf:f<places) {s:SndT} (hs:s∈(x.P f).ss):s.to.toNat<places∧s.to.toNat≠f∧s.sh.toNat<shards:=by
 obtain⟨h1,h2,h3⟩:=h.pid f hf
 have hp:=(h.pin f hf).ss
 rw[h1,h2,h3]at hp
 have hm:PlT.pair s∈pairsP f shards places:=by rw[←hp];exact List.mem_map_of_mem hs
 obtain⟨rows,hrow,hm⟩:=List.mem_flatten.1 hm
 obtain⟨k,hk,rfl⟩:=List.mem_map.1 hrow
 unfold rowP at hm
 split at hm
 ·cases hm
 ·rename_i hkt
  obtain⟨i,hi,he⟩:=List.mem_map.1 hm
  obtain⟨e1,e2⟩:=Prod.mk.inj he
  rw[←e1,←e2]
  exact⟨List.mem_range.1 hk,hkt,List.mem_range.1 hi⟩
theorem NetIn.com_ok (h:NetIn places shards x n) {f:Nat} (hf:f<places) {at':List Int} {ops:List OpT} (hc:(comErr (x.P f) at' ops).code=0) (hd:∀o∈ops,o.dots.length≤1000000):NetIn places shards (netCom x shards f (comP (x.P f) at' ops)) (n+1):=by
 obtain⟨i1,i2,i3⟩:=h.pid f hf
 obtain⟨e1,e2,e3⟩:=comErr_ok hc
 obtain⟨_,e4,_⟩:=known_len e1
 have hcp:=comP_put (h.pin f hf) hc
 have hw:=comP_when (x:=x.P f) (ops:=ops) (show(x.P f).id<at'.length by omega)
 rw[i1]at hw
 have hck:=h.clk f hf
 have hw2:(comP (x.P f) at' ops).when.getD f 0=(x.K f).length+1:=by omega
 have hpl:(comP (x.P f) at' ops).place=f:=by
  show(((x.P f).id:Nat):Int)=f
  omega
 refine h.upd hf (com_in (h.pin f hf) hc hd) ⟨i1,i2,i3⟩ ?_ (fun j C hC=>?_) (fun t ht hne sh hs=>?_) (fun s hs=>?_) rfl (fun q=>?_) (hcp.nodup (h.nodup f hf)) rfl ?_
 ·show((x.K f++[comP (x.P f) at' ops]).length:Int)=(x.P f).clock+1
  simp
  omega
 ·rcases Nat.lt_or_ge j (x.K f).length with hj|hj
  ·rw[List.getElem?_append_left hj]at hC
   exact h.com f hf j C hC
  ·have hjl:=(List.getElem?_eq_some_iff.1 hC).1
   simp at hjl
   have:j=(x.K f).length:=by omega
   subst this
   simp at hC
   subst hC
   exact⟨hpl,hw2,e3,by simp[comP,e4,i2]⟩
 ·unfold comX
  split
  ·rename_i h0
   rw[List.append_nil]
   exact(h.msg f hf t ht hne sh hs).more _ h0
  ·rename_i h0
   exact(h.msg f hf t ht hne sh hs).com h0 hw2
 ·obtain⟨y,hy,rfl⟩:=List.mem_map.1 hs
  have hso:=h.snd f hf y hy
  obtain⟨p1,p2,p3⟩:=h.pairS hf hy
  obtain⟨w1,w2⟩:=(h.pin f hf).way y hy
  have hsh:((y.sh.toNat:Nat):Int)=y.sh:=Int.toNat_of_nonneg w2
  have hto:((y.to.toNat:Nat):Int)=y.to:=Int.toNat_of_nonneg w1
  unfold sndC
  rw[i3]
  split
  ·rename_i h0
   rw[comX,if_pos (by rw[hsh];exact h0),List.append_nil]
   exact hso
  ·rename_i h0
   have e:comX x shards f (comP (x.P f) at' ops) (SndT.com y (partC shards (comP (x.P f) at' ops) y.sh)).to.toNat (SndT.com y (partC shards (comP (x.P f) at' ops) y.sh)).sh.toNat=[SndT.msg y (partC shards (comP (x.P f) at' ops) y.sh)]:=by
    show comX x shards f (comP (x.P f) at' ops) y.to.toNat y.sh.toNat=_
    rw[comX,if_neg (by rw[hsh];exact h0),hsh,hto,SndT.msg,hso.q]
    have h1:(partC shards (comP (x.P f) at' ops) y.sh).when.getD (partC shards (comP (x.P f) at' ops) y.sh).place.toNat 0=(comP (x.P f) at' ops).when.getD f 0:=by
     show(comP (x.P f) at' ops).when.getD (comP (x.P f) at' ops).place.toNat 0=_
     rw[hpl,Int.toNat_natCast]
    have h2:=((h.pin f hf).snd y hy).1
    rw[h1,h2,i1]
   rw[e]
   obtain⟨a,ha,hl⟩:=hso.l
   show SndOk _ (x.H f y.to.toNat y.sh.toNat++_)
   refine⟨?_,?_,a,by simp;omega,?_⟩
   ·show y.q+1=_
    rw[hso.q]
    simp
   ·rw[timeAt_last]
    rfl
   ·show y.l++_=_
    rw[hl,List.drop_append_of_le_length ha]
 ·show q∈(x.P f).L++putsOf _ _↔_
  rw[List.mem_append,h.L f hf q]
  constructor
  ·rintro((⟨C,hC,h1⟩|h1)|h1)
   ·exact .inl ⟨C,List.mem_append.2 (.inl hC),h1⟩
   ·exact .inr h1
   ·obtain⟨o,ho,rfl⟩:=List.mem_map.1 h1
    exact .inl ⟨_,List.mem_append.2 (.inr (List.mem_singleton.2 rfl)),o,ho,rfl⟩
  ·rintro(⟨C,hC,o,ho,rfl⟩|h1)
   ·rcases List.mem_append.1 hC with hC|hC
    ·exact .inl (.inl ⟨C,hC,o,ho,rfl⟩)
    ·obtain rfl:=List.mem_singleton.1 hC
     exact .inr (List.mem_map_of_mem ho)
   ·exact .inl (.inr h1)
 ·show(x.P f).clock≤(x.P f).clock+1
  omega
theorem NetIn.beat_ok (h:NetIn places shards x n) {f:Nat} (hf:f<places):NetIn places shards (netBeat x f) (n+1):=by
 obtain⟨i1,i2,i3⟩:=h.pid f hf
 have hck:=h.clk f hf
 refine h.upd hf (beat_in (h.pin f hf)) ⟨i1,i2,i3⟩ hck (h.com f hf) (fun t ht hne sh hs=>(h.msg f hf t ht hne sh hs).beat) (fun s hs=>?_) rfl (h.L f hf) (h.nodup f hf) rfl (Int.le_refl _)
 obtain⟨y,hy,rfl⟩:=List.mem_map.1 hs
 have hso:=h.snd f hf y hy
 obtain⟨w1,w2⟩:=(h.pin f hf).way y hy
 have hsh:((y.sh.toNat:Nat):Int)=y.sh:=Int.toNat_of_nonneg w2
 have hto:((y.to.toNat:Nat):Int)=y.to:=Int.toNat_of_nonneg w1
 have e:beatX x f (SndT.beat y (x.P f).clock).to.toNat (SndT.beat y (x.P f).clock).sh.toNat=[SndT.beatM y (x.P f).clock]:=by
  show beatX x f y.to.toNat y.sh.toNat=_
  have h2:=((h.pin f hf).snd y hy).1
  rw[beatX,SndT.beatM,hsh,hto,hso.q,h2,i1,hck]
 rw[e]
 obtain⟨a,ha,hl⟩:=hso.l
 show SndOk _ (x.H f y.to.toNat y.sh.toNat++_)
 refine⟨?_,?_,a,by simp;omega,?_⟩
 ·show y.q+1=_
  rw[hso.q]
  simp
 ·rw[timeAt_last]
  rfl
 ·show y.l++_=_
  rw[hl,List.drop_append_of_le_length ha]
end net
end Go.Proofs.YtmkapocibaojdaaGreatDoor
end
section
namespace Go.Sx
open Go
theorem drain_closed:∀(n:Nat) (L:List MsgT) (q t:Int),L.length<n→kept (drain n L q t).2.1 ((drain n L q t).2.2.1+1)=none
 | 0,L,q,t,h=>by omega
 | n+1,L,q,t,h=>by
  unfold drain
  cases hk:kept L (q+1)with
  | none=>exact hk
  | some m=>exact drain_closed n (dropK L (q+1)) (q+1) m.time (by have:=dropK_len hk;omega)
theorem dropK_part {L:List MsgT} {k:Int} {m z:MsgT} (h:kept L k=some m) (hz:z∈L):z=m∨z∈dropK L k:=by
 by_cases hs:z.seq=k
 ·have:=List.find?_eq_some_iff_append.1 h
  obtain⟨_,us,bs,rfl,has⟩:=this
  have hd:dropK (us++m::bs) k=us++bs:=by
   unfold dropK
   rw[List.eraseP_append_right _ (fun x hx=>by simpa using has x hx)]
   rw[List.eraseP_cons_of_pos]
   simpa using kept_seq h
  rw[hd]
  rcases List.mem_append.1 hz with hz|hz
  ·exact .inr (List.mem_append.2 (.inl hz))
  ·rcases List.mem_cons.1 hz with hz|hz
   ·exact .inl hz
   ·exact .inr (List.mem_append.2 (.inr hz))
 ·refine .inr ?_
  unfold dropK
  exact(List.mem_eraseP_of_neg (by simpa using hs)).2 hz
theorem drain_part:∀(n:Nat) (L:List MsgT) (q t:Int),∀z∈L,z∈(drain n L q t).1∨z∈(drain n L q t).2.1
 | 0,L,q,t=>fun z hz=>.inr hz
 | n+1,L,q,t=>fun z hz=>by
  unfold drain
  cases hk:kept L (q+1)with
  | none=>exact .inr hz
  | some m=>
   rcases dropK_part hk hz with rfl|hz
   ·exact .inl (List.mem_cons_self ..)
   ·rcases drain_part n (dropK L (q+1)) (q+1) m.time z hz with h|h
    ·exact .inl (List.mem_cons_of_mem _ h)
    ·exact .inr h
end Go.Sx
namespace Go.Proofs.YtmkapocibaojdaaGreatDoor
open Go Go.Sx
def Closed (y:RcvT):Prop:=∀z∈y.l,z.seq≠y.q+1
def Has (y:RcvT) (H:List MsgT) (i:Nat):Prop:=(i:Int)<y.q∨∃z∈y.l,H[i]?=some z
section strm
variable {K:List ComT} {shards f t sh:Nat} {H:List MsgT}
theorem hear_has (hs:Strm K shards f t sh H) {y:RcvT} {m:MsgT} {j:Nat} (hr:RcvOk y H) (h1:y.fm=f) (h2:y.to=t) (h3:y.sh=sh) (hd:Dist y.l) (hq:0≤y.q) (hm:H[j]?=some m) (hK:(K.length:Int)≤1099511627776) (hc:Closed y) :
  Closed (RcvT.heard y m)∧(∀i,Has y H i→Has (RcvT.heard y m) H i)∧((RcvT.hear y m).1=0→Has (RcvT.heard y m) H j):=by
 obtain⟨m1,m2,m3,m4,m5,m6,_⟩:=hs.at' j m hm
 have c1:¬(m.fm≠y.fm∨m.to≠y.to∨m.shard≠y.sh):=by omega
 have c2:¬(m.seq<1∨m.time<0∨1099511627776<m.time):=by omega
 by_cases c3:m.seq≤y.q
 ·have e:RcvT.heard y m=y:=by simp[RcvT.heard,RcvT.hear,hearT,if_neg c1,if_neg c2,if_pos c3]
  rw[e]
  exact⟨hc,fun _ h=>h,fun _=>.inl (by omega)⟩
 by_cases c4:201<m.seq - y.q
 ·have e0:RcvT.hear y m=(7,[],⟨y.l,y.q,y.t⟩):=by rw[RcvT.hear,hearT,if_neg c1,if_neg c2,if_neg c3,if_pos c4]
  have e:RcvT.heard y m=y:=by simp[RcvT.heard,e0]
  rw[e,e0]
  exact⟨hc,fun _ h=>h,fun h=>by cases h⟩
 have key:∀L1:List MsgT,RcvT.hear y m=(0,(drainAll L1 y.q y.t).1,⟨(drainAll L1 y.q y.t).2.1,(drainAll L1 y.q y.t).2.2.1,(drainAll L1 y.q y.t).2.2.2⟩)→Dist L1→(∀z∈L1,∃i:Nat,H[i]?=some z∧y.q≤i)→(∀z∈y.l,z∈L1)→(∃z∈L1,H[j]?=some z)→Closed (RcvT.heard y m)∧(∀i,Has y H i→Has (RcvT.heard y m) H i)∧((RcvT.hear y m).1=0→Has (RcvT.heard y m) H j):=fun L1 h hd1 hL1 hyl hmm=>by
  have hqn:((y.q.toNat:Nat):Int)=y.q:=Int.toNat_of_nonneg hq
  obtain⟨d1,_,_,d4⟩:=drain_list (L1.length+1) L1 y.q.toNat y.t hd1 fun z hz=>by
   obtain⟨i,hi,hqi⟩:=hL1 z hz
   exact⟨i,hi,by omega,(hs.at' i z hi).2.2.2.1⟩
  rw[hqn]at d1 d4
  have dq:=drain_q (L1.length+1) L1 y.q y.t
  have dc:=drain_closed (L1.length+1) L1 y.q y.t (Nat.lt_succ_self _)
  have hin:∀(i:Nat) z,z∈L1→H[i]?=some z→Has (RcvT.heard y m) H i:=fun i z hz hi=>by
   unfold Has
   simp only[RcvT.heard,h,drainAll]
   rcases drain_part (L1.length+1) L1 y.q y.t z hz with h5|h5
   ·rw[d1]at h5
    obtain⟨k,k1,k2,k3⟩:=mem_window.1 h5
    have e1:=(hs.at' i z hi).2.2.2.1
    have e2:=(hs.at' k z k3).2.2.2.1
    left
    omega
   ·exact .inr ⟨z,h5,hi⟩
  refine⟨fun z hz=>?_,fun i hi=>?_,fun _=>?_⟩
  ·simp only[RcvT.heard,h,drainAll]at hz ⊢
   exact kept_none.1 dc z hz
  ·rcases hi with hi|⟨z,hz,hi⟩
   ·left
    simp only[RcvT.heard,h,drainAll]
    omega
   ·exact hin i z (hyl z hz) hi
  ·obtain⟨z,hz,hi⟩:=hmm
   exact hin j z hz hi
 cases hk:kept y.l m.seq with
 | none=>
  refine key (y.l++[m]) (by rw[RcvT.hear,hearT,if_neg c1,if_neg c2,if_neg c3,if_neg c4];simp only[hk]) (hd.app hk) (fun z hz=>?_) (fun z hz=>List.mem_append.2 (.inl hz)) ⟨m,by simp,hm⟩
  rcases List.mem_append.1 hz with hz|hz
  ·exact hr.l z hz
  ·obtain rfl:=List.mem_singleton.1 hz
   exact⟨j,hm,by omega⟩
 | some z=>
  refine key y.l (by rw[RcvT.hear,hearT,if_neg c1,if_neg c2,if_neg c3,if_neg c4];simp only[hk]) hd (fun z hz=>hr.l z hz) (fun z hz=>hz) ⟨z,kept_mem hk,?_⟩
  obtain⟨i,hi,_⟩:=hr.l z (kept_mem hk)
  have e1:=(hs.at' i z hi).2.2.2.1
  have e2:=kept_seq hk
  have:i=j:=by omega
  rw[←this]
  exact hi
theorem has_all {y:RcvT} (hr:RcvOk y H) (hq:0≤y.q) (hs:Strm K shards f t sh H) (hc:Closed y) (ha:∀i<H.length,Has y H i):y.q=H.length∧y.t=timeAt H H.length:=by
 have h1:=hr.q
 have h2:y.q=H.length:=by
  apply Int.le_antisymm h1
  apply Int.le_of_not_gt
  intro hlt
  rcases ha y.q.toNat (by omega)with h|⟨z,hz,hi⟩
  ·omega
  ·have:=(hs.at' _ z hi).2.2.2.1
   exact hc z hz (by omega)
 refine⟨h2,?_⟩
 rw[hr.t,h2,Int.toNat_natCast]
end strm
section net
variable {places shards n:Nat} {x:Net}
def ClosedN (places:Nat) (x:Net):Prop:=∀u<places,∀r∈(x.P u).rs,Closed r
def Got (x:Net) (f t sh i:Nat):Prop:=∃r∈(x.P t).rs,r.fm.toNat=f∧r.sh.toNat=sh∧Has r (x.H f t sh) i
theorem NetIn.hear_got (h:NetIn places shards x n) (hcl:ClosedN places x) {t f sh j:Nat} {m:MsgT} (ht:t<places) (hf:f<places) (hne:f≠t) (hs:sh<shards) (hm:(x.H f t sh)[j]?=some m) :
  ClosedN places (x.setP t (hearPl (x.P t) m).2.2)∧(∀a b c i,Got x a b c i→Got (x.setP t (hearPl (x.P t) m).2.2) a b c i)∧((hearPl (x.P t) m).1=0→Got (x.setP t (hearPl (x.P t) m).2.2) f t sh j):=by
 obtain⟨i1,i2,i3⟩:=h.pid t ht
 have hst:=h.msg f hf t ht (Ne.symm hne) sh hs
 obtain⟨m1,m2,m3,m4,m5,m6,_⟩:=hst.at' j m hm
 obtain⟨y,hy,y1,y2,y3⟩:=h.recvAt ht hf hne hs
 have hmem:=List.mem_of_getElem? hy
 have hyl:=(List.getElem?_eq_some_iff.1 hy).1
 have hway:hearWay (x.P t) m=0:=by rw[hearWay,i1,i2,i3,if_neg (by omega),if_neg (by omega)]
 have hpos:posM (x.P t) m=posP t shards f+sh:=by rw[posM,i1,i3,m1,m3,Int.toNat_natCast,Int.toNat_natCast]
 have hrc:=h.rcv t ht y hmem
 rw[y1,y2,Int.toNat_natCast,Int.toNat_natCast]at hrc
 obtain⟨r1,r2,r3⟩:=(h.pin t ht).rcv y hmem
 have hK:((x.K f).length:Int)≤1099511627776:=by
  rw[h.clk f hf]
  exact(h.pin f hf).c1
 obtain⟨g1,g2,g3⟩:=hear_has hst hrc y1 y3 y2 r3 r1 hm hK (hcl t ht y hmem)
 have hE:hearPl (x.P t) m=if (RcvT.hear y m).1≠0 then ((RcvT.hear y m).1,[],x.P t)else (0,[ackM (x.P t) m (RcvT.heard y m).q],{ x.P t with rs:=(x.P t).rs.set (posP t shards f+sh) (RcvT.heard y m),L:=putMs (x.P t).places (x.P t).base m.fm (x.P t).L (RcvT.hear y m).2.1 }):=by
  rw[hearPl,if_neg (by simp[hway]),if_neg (by omega),hpos,hy]
 rw[hE]
 by_cases hc:(RcvT.hear y m).1≠0
 ·rw[if_pos hc]
  simp only[setP_self]
  exact⟨hcl,fun _ _ _ _ h=>h,fun h=>absurd h hc⟩
 rw[if_neg hc]
 have hyn:RcvT.heard y m∈(x.P t).rs.set (posP t shards f+sh) (RcvT.heard y m):=List.mem_of_getElem? (List.getElem?_set_self hyl)
 refine⟨fun u hu r hr=>?_,fun a b c i ⟨r,hr,ha,hb,hh⟩=>?_,fun _=>?_⟩
 ·by_cases hut:u=t
  ·subst hut
   rw[setP_at]at hr
   rcases set_mem hr with hr|rfl
   ·exact hcl u hu r hr
   ·exact g1
  ·rw[setP_ne _ _ hut]at hr
   exact hcl u hu r hr
 ·by_cases hbt:b=t
  ·subst hbt
   unfold Got
   rw[setP_at]
   obtain⟨k,hk⟩:=List.getElem?_of_mem hr
   by_cases hkp:posP b shards f+sh=k
   ·rw[←hkp,hy]at hk
    obtain rfl:=Option.some.inj hk
    rw[y1,Int.toNat_natCast]at ha
    rw[y2,Int.toNat_natCast]at hb
    subst ha hb
    exact⟨_,hyn,by rw[show(RcvT.heard y m).fm=y.fm from rfl,y1,Int.toNat_natCast],by rw[show(RcvT.heard y m).sh=y.sh from rfl,y2,Int.toNat_natCast],g2 i hh⟩
   ·exact⟨r,List.mem_of_getElem? (i:=k) (by rw[List.getElem?_set_ne hkp];exact hk),ha,hb,hh⟩
  ·unfold Got
   rw[setP_ne _ _ hbt]
   exact⟨r,hr,ha,hb,hh⟩
 ·unfold Got
  rw[setP_at]
  exact⟨_,hyn,by rw[show(RcvT.heard y m).fm=y.fm from rfl,y1,Int.toNat_natCast],by rw[show(RcvT.heard y m).sh=y.sh from rfl,y2,Int.toNat_natCast],g3 (by simpa using hc)⟩
theorem NetIn.got_all (h:NetIn places shards x n) (hcl:ClosedN places x) {t f:Nat} (ht:t<places) (hf:f<places) (hne:f≠t) (hg:∀sh<shards,∀i<(x.H f t sh).length,Got x f t sh i) {T:Int} (hT:∀sh<shards,timeAt (x.H f t sh) (x.H f t sh).length=T):snapT (x.P t) f=T:=by
 obtain⟨i1,i2,i3⟩:=h.pid t ht
 have hs1:=(h.pin t ht).s1
 rw[i3]at hs1
 have hall:∀r∈(x.P t).rs,r.fm.toNat=f→r.t=T:=fun r hr hrf=>by
  obtain⟨p1,p2,p3⟩:=h.pair ht hr
  have hrc:=h.rcv t ht r hr
  rw[hrf]at hrc
  rw[←hT _ p3]
  refine(has_all hrc ((h.pin t ht).rcv r hr).1 (h.msg f hf t ht (Ne.symm hne) _ p3) (hcl t ht r hr) fun i hi=>?_).2
  obtain⟨r2,hr2,ha,hb,hh⟩:=hg _ p3 i hi
  have:r2=r:=h.recv_uniq ht hr2 hr (by rw[PlT.pairR,PlT.pairR,ha,hb,hrf])
  rw[←this]
  rw[←this]at hh
  exact hh
 rw[snapT,if_neg (by rw[i1];exact hne)]
 obtain⟨r,hr,hrf,_⟩:=h.recv ht hf hne (show 0<shards by omega)
 have hne2:((x.P t).rs.filter fun r=>decide (r.fm.toNat=f)).map (·.t)≠[]:=by
  intro h0
  rw[List.map_eq_nil_iff,List.filter_eq_nil_iff]at h0
  exact h0 r hr (by simp[hrf])
 obtain⟨z,hz,hzt⟩:=List.mem_map.1 (minT_mem hne2)
 obtain⟨hz1,hz2⟩:=List.mem_filter.1 hz
 rw[←hzt]
 exact hall z hz1 (of_decide_eq_true hz2)
end net
end Go.Proofs.YtmkapocibaojdaaGreatDoor
end
section
namespace Go.Proofs.YtmkapocibaojdaaGreatDoor
open Go Go.Sx
def newNet (places shards:Nat):Net:=⟨fun i=>newP i places shards,fun _ _ _=>[],fun _=>[]⟩
section
variable {places shards n:Nat} {x:Net}
theorem new_ss {id:Nat} {s:SndT} (hs:s∈(newP id places shards).ss):∃a b:Nat,s=⟨id,a,b,0,0,[]⟩:=by
 obtain⟨q,_,rfl⟩:=List.mem_map.1 hs
 exact⟨_,_,rfl⟩
theorem new_rs {id:Nat} {s:RcvT} (hs:s∈(newP id places shards).rs):∃a b:Nat,s=⟨a,id,b,0,0,[]⟩:=by
 obtain⟨q,_,rfl⟩:=List.mem_map.1 hs
 exact⟨_,_,rfl⟩
theorem net_new (hp1:1≤places) (hp6:places≤6) (hs1:1≤shards) (hs6:shards≤6):NetIn places shards (newNet places shards) 0 where
 pin i hi:=newP_in 0 hp1 hp6 hs1 hs6 hi
 pid i _:=⟨rfl,rfl,rfl⟩
 clk i _:=rfl
 com i _ j C h:=by simp[newNet]at h
 msg f _ t _ _ sh _:=⟨fun j m h=>by simp[newNet]at h,List.Pairwise.nil,fun C h=>by simp[newNet]at h⟩
 snd f _ s hs:=by
  obtain⟨a,b,rfl⟩:=new_ss hs
  exact⟨rfl,rfl,0,Nat.le_refl _,rfl⟩
 rcv t _ r hr:=by
  obtain⟨a,b,rfl⟩:=new_rs hr
  exact⟨Int.le_refl _,rfl,fun m h=>by cases h⟩
 L t _ q:=by
  constructor
  ·intro h
   cases h
  ·rintro(⟨C,hC,_⟩|⟨r,_,j,m,h,_⟩)
   ·cases hC
   ·simp[newNet]at h
 nodup t _:=List.nodup_nil
 base t ht u hu:=by
  refine inL_true (by simp[newNet,newP,snapL]) fun j a b ha hb=>?_
  have h1:a=0:=by
   have:=List.mem_of_getElem? ha
   exact List.eq_of_mem_replicate this
  have h2:=List.mem_of_getElem? hb
  obtain⟨k,hk,rfl⟩:=List.mem_map.1 h2
  have:=(snapT_in (newP_in 0 hp1 hp6 hs1 hs6 hu).toPlOk (List.mem_range.1 hk)).1
  rw[h1]
  exact this
theorem closed_new:ClosedN places (newNet places shards):=fun u _ r hr=>by
 obtain⟨a,b,rfl⟩:=new_rs hr
 intro z hz
 cases hz
theorem ClosedN.upd {f:Nat} {p:PlT} {K':List ComT} {X:Nat→Nat→List MsgT} (h:ClosedN places x) (hp:p.rs=(x.P f).rs):ClosedN places (x.upd f p K' X):=fun u hu r hr=>by
 by_cases huf:u=f
 ·subst huf
  rw[updP_at,hp]at hr
  exact h u hu r hr
 ·rw[updP_ne huf]at hr
  exact h u hu r hr
theorem NetIn.comX_at (h:NetIn places shards x n) {f:Nat} (hf:f<places) {C:ComT} (hC:C.place=f) {y:SndT} (hy:y∈(x.P f).ss):comX x shards f C y.to.toNat y.sh.toNat=msgC shards C y:=by
 have hso:=h.snd f hf y hy
 obtain⟨w1,w2⟩:=(h.pin f hf).way y hy
 have hsh:((y.sh.toNat:Nat):Int)=y.sh:=Int.toNat_of_nonneg w2
 have hto:((y.to.toNat:Nat):Int)=y.to:=Int.toNat_of_nonneg w1
 obtain⟨i1,i2,i3⟩:=h.pid f hf
 unfold comX msgC
 rw[hsh]
 split
 ·rfl
 ·have h1:(partC shards C y.sh).when.getD (partC shards C y.sh).place.toNat 0=C.when.getD f 0:=by
   show C.when.getD C.place.toNat 0=_
   rw[hC,Int.toNat_natCast]
  have h2:=((h.pin f hf).snd y hy).1
  rw[hto,SndT.msg,hso.q,h1,h2,i1]
theorem NetIn.beatX_at (h:NetIn places shards x n) {f:Nat} (hf:f<places) {y:SndT} (hy:y∈(x.P f).ss):beatX x f y.to.toNat y.sh.toNat=[SndT.beatM y (x.P f).clock]:=by
 have hso:=h.snd f hf y hy
 obtain⟨w1,w2⟩:=(h.pin f hf).way y hy
 have hsh:((y.sh.toNat:Nat):Int)=y.sh:=Int.toNat_of_nonneg w2
 have hto:((y.to.toNat:Nat):Int)=y.to:=Int.toNat_of_nonneg w1
 have h2:=((h.pin f hf).snd y hy).1
 rw[beatX,SndT.beatM,hsh,hto,hso.q,h2,(h.pid f hf).1,h.clk f hf]
theorem NetIn.com_sent (h:NetIn places shards x n) {f:Nat} (hf:f<places) {C:ComT} (hC:C.place=f) {m:MsgT} (hm:m∈comMs (x.P f) C):∃t sh:Nat,t<places∧t≠f∧sh<shards∧m.to=t∧((netCom x shards f C).H f t sh)[(x.H f t sh).length]?=some m:=by
 obtain⟨l,hl,hm⟩:=List.mem_flatten.1 hm
 obtain⟨y,hy,rfl⟩:=List.mem_map.1 hl
 obtain⟨p1,p2,p3⟩:=h.pairS hf hy
 obtain⟨w1,w2⟩:=(h.pin f hf).way y hy
 rw[(h.pid f hf).2.2]at hm
 have e:=h.comX_at hf hC hy
 have e2:msgC shards C y=[m]∧m.to=y.to:=by
  unfold msgC at hm ⊢
  split at hm
  ·cases hm
  ·rename_i h0
   rw[if_neg h0,List.mem_singleton.1 hm]
   exact⟨rfl,rfl⟩
 refine⟨_,_,p1,p2,p3,by omega,?_⟩
 rw[netCom,updH_at,e,e2.1,List.getElem?_concat_length]
theorem NetIn.beat_sent (h:NetIn places shards x n) {f:Nat} (hf:f<places) {m:MsgT} (hm:m∈beatMs (x.P f)):∃t sh:Nat,t<places∧t≠f∧sh<shards∧m.to=t∧((netBeat x f).H f t sh)[(x.H f t sh).length]?=some m:=by
 obtain⟨y,hy,rfl⟩:=List.mem_map.1 hm
 obtain⟨p1,p2,p3⟩:=h.pairS hf hy
 obtain⟨w1,w2⟩:=(h.pin f hf).way y hy
 refine⟨_,_,p1,p2,p3,by show y.to=_;omega,?_⟩
 rw[netBeat,updH_at,h.beatX_at hf hy,List.getElem?_concat_length]
theorem NetIn.sndAt (h:NetIn places shards x n) {t f sh:Nat} (ht:t<places) (hf:f<places) (hne:t≠f) (hs:sh<shards):∃y∈(x.P f).ss,y.to.toNat=t∧y.sh.toNat=sh:=by
 obtain⟨i1,i2,i3⟩:=h.pid f hf
 have h1:=(h.pin f hf).ss
 have h2:=pairsP_at (id:=f) (shards:=shards) (places:=places) ht hne hs
 rw[i1,i2,i3]at h1
 rw[←h1]at h2
 obtain⟨y,hy,he⟩:=List.mem_map.1 (List.mem_of_getElem? h2)
 obtain⟨e1,e2⟩:=Prod.mk.inj he
 exact⟨y,hy,e1,e2⟩
theorem NetIn.com_new (h:NetIn places shards x n) {f:Nat} (hf:f<places) {C:ComT} (hC:C.place=f) {t sh j:Nat} (ht:t<places) (hne:t≠f) (hs:sh<shards) {m:MsgT} (hm:((netCom x shards f C).H f t sh)[j]?=some m):(x.H f t sh)[j]?=some m∨m∈comMs (x.P f) C:=by
 obtain⟨y,hy,rfl,rfl⟩:=h.sndAt ht hf hne hs
 rw[netCom,updH_at,h.comX_at hf hC hy]at hm
 rcases Nat.lt_or_ge j (x.H f y.to.toNat y.sh.toNat).length with hj|hj
 ·rw[List.getElem?_append_left hj]at hm
  exact .inl hm
 ·rw[List.getElem?_append_right hj]at hm
  refine .inr (List.mem_flatten.2 ⟨_,List.mem_map_of_mem hy,?_⟩)
  rw[(h.pid f hf).2.2]
  exact List.mem_of_getElem? hm
theorem NetIn.beat_new (h:NetIn places shards x n) {f:Nat} (hf:f<places) {t sh j:Nat} (ht:t<places) (hne:t≠f) (hs:sh<shards) {m:MsgT} (hm:((netBeat x f).H f t sh)[j]?=some m):(x.H f t sh)[j]?=some m∨m∈beatMs (x.P f):=by
 obtain⟨y,hy,rfl,rfl⟩:=h.sndAt ht hf hne hs
 rw[netBeat,updH_at,h.beatX_at hf hy]at hm
 rcases Nat.lt_or_ge j (x.H f y.to.toNat y.sh.toNat).length with hj|hj
 ·rw[List.getElem?_append_left hj]at hm
  exact .inl hm
 ·rw[List.getElem?_append_right hj]at hm
  rw[List.mem_singleton.1 (List.mem_of_getElem? hm)]
  exact .inr (List.mem_map_of_mem hy)
end
end Go.Proofs.YtmkapocibaojdaaGreatDoor
end
section
namespace Go.Sx
open Go
theorem kindOf_all {l:List DoneT} {k:Int} (h:∀a∈l,a.o.kind=k) (hne:l≠[]):kindOf l=k:=by
 cases l with
 | nil=>exact absurd rfl hne
 | cons a l=>exact h a (List.mem_cons_self ..)
theorem only_one {l:List DoneT} {a:DoneT} (h:l.Pairwise fun a b=>doneLt a b=true) (hm:∀b,b∈l↔b=a):l=[a]:=
 eq_of_sorted (lt:=fun a b=>doneLt a b=true) (fun _ _=>doneLt_asymm) h (List.pairwise_singleton ..) fun x=>by rw[hm x,List.mem_singleton]
theorem snapL_len (x:PlT):(snapL x).length=x.places:=by simp[snapL]
end Go.Sx
namespace Go.Proofs.YtmkapocibaojdaaGreatDoor
open Go Go.Sx
theorem inL_refl (xs:List Int):inL xs xs=true:=inL_true rfl fun j x y hx hy=>by
 rw[hx]at hy
 cases hy
 exact Int.le_refl _
section
variable {places shards n:Nat} {x:Net}
theorem NetIn.dots1 (h:NetIn places shards x n) {at':List Int}:∀a∈allDone (seenK x.K places at'),∀b∈allDone (seenK x.K places at'),a.d=b.d→a=b:=fun a ha b hb he=>by
 obtain⟨C,hC,o,ho,rfl⟩:=mem_allDone.1 ha
 obtain⟨D,hD,p,hp,rfl⟩:=mem_allDone.1 hb
 obtain⟨f,hf,hC,_⟩:=mem_seenK.1 hC
 obtain⟨g,hg,hD,_⟩:=mem_seenK.1 hD
 simp only[doneOf,dotOf,DotT.mk.injEq]at he
 obtain⟨e1,e2,e3⟩:=he
 obtain⟨c1,_,_,c4,_⟩:=h.mem hf hC
 obtain⟨d1,_,_,_,_⟩:=h.mem hg hD
 have hfg:f=g:=by omega
 subst hfg
 rw[c1,d1,Int.toNat_natCast]at e2
 obtain rfl:=h.uniq hf hC hD e2
 rw[op_uniq c4 ho hp e3]
theorem NetIn.seen (h:NetIn places shards x n) {at':List Int} {key:ByteArray} {a:DoneT}:a∈opsOf key (seenK x.K places at')↔a.o.key=key∧∃f<places,∃C∈x.K f,inL C.when at'=true∧∃o∈C.ops,a=doneOf C o:=by
 rw[opsOf_mem,firsts_mem h.dots1,mem_allDone]
 constructor
 ·rintro⟨⟨C,hC,o,ho,he⟩,hk⟩
  obtain⟨f,hf,hC,hi⟩:=mem_seenK.1 hC
  exact⟨hk,f,hf,C,hC,hi,o,ho,he⟩
 ·rintro⟨hk,f,hf,C,hC,hi,o,ho,he⟩
  exact⟨⟨C,mem_seenK.2 ⟨f,hf,hC,hi⟩,o,ho,he⟩,hk⟩
theorem NetIn.reads (h:NetIn places shards x n) {t:Nat} (ht:t<places) (key:ByteArray):Sx.valOf key (withinC (x.P t).L key (snapL (x.P t)))=Sx.valOf key (seenK x.K places (snapL (x.P t))):=
 valOf_same (h.read ht (by rw[snapL_len,(h.pid t ht).2.1]) (inL_refl _) key)
theorem NetIn.whole (h:NetIn places shards x n) {C:ComT} {f:Nat} (hf:f<places) (hC:C∈x.K f) (hK:∀g<places,∀D∈x.K g,D=C) (h2:∀o∈C.ops,o.kind=2) (at':List Int) :
  (∀key,(∃o∈C.ops,o.key=key)→(Sx.valOf key (seenK x.K places at')).kind=2)∨(∀key,(Sx.valOf key (seenK x.K places at')).kind=0):=by
 by_cases hi:inL C.when at'=true
 ·refine .inl fun key ⟨o,ho,hk⟩=>kindOf_all (fun a ha=>?_) fun h0=>?_
  ·obtain⟨_,g,hg,D,hD,_,p,hp,rfl⟩:=h.seen.1 ha
   rw[hK g hg D hD]at hp
   exact h2 p hp
  ·have:doneOf C o∈opsOf key (seenK x.K places at'):=h.seen.2 ⟨hk,f,hf,C,hC,hi,o,ho,rfl⟩
   rw[h0]at this
   cases this
 ·refine .inr fun key=>?_
  have:opsOf key (seenK x.K places at')=[]:=List.eq_nil_iff_forall_not_mem.2 fun a ha=>by
   obtain⟨_,g,hg,D,hD,h1,_⟩:=h.seen.1 ha
   rw[hK g hg D hD]at h1
   exact hi h1
  show kindOf _=0
  rw[this]
  rfl
theorem NetIn.one (h:NetIn places shards x n) {C:ComT} {o:OpT} {f:Nat} (hf:f<places) (hC:C∈x.K f) (ho:C.ops=[o]) (hk:o.kind=2) (hn:o.n=1) (hK:∀g<places,∀D∈x.K g,∀p∈D.ops,p.key=o.key→D=C) {at':List Int} (hi:inL C.when at'=true):(Sx.valOf o.key (seenK x.K places at')).n=1:=by
 have e:opsOf o.key (seenK x.K places at')=[doneOf C o]:=only_one (opsOf_strict _ _) fun b=>by
  rw[h.seen]
  constructor
  ·rintro⟨h1,g,hg,D,hD,_,p,hp,rfl⟩
   have:=hK g hg D hD p hp h1
   subst this
   rw[ho]at hp
   rw[List.mem_singleton.1 hp]
  ·rintro rfl
   exact⟨rfl,f,hf,C,hC,hi,o,by simp[ho],rfl⟩
 have e2:(doneOf C o).o=o:=rfl
 simp[Sx.valOf,ofKey,e,kindL,kindOf,e2,hk,Sx.sumN,hn]
theorem NetIn.none (h:NetIn places shards x n) {key:ByteArray} {at':List Int} (hK:∀g<places,∀D∈x.K g,inL D.when at'=true→∀p∈D.ops,p.key≠key):(Sx.valOf key (seenK x.K places at')).n=0:=by
 have:opsOf key (seenK x.K places at')=[]:=List.eq_nil_iff_forall_not_mem.2 fun a ha=>by
  obtain⟨hk,g,hg,D,hD,h1,p,hp,rfl⟩:=h.seen.1 ha
  exact hK g hg D hD h1 p hp hk
 simp[Sx.valOf,this,kindOf]
theorem NetIn.cause (h:NetIn places shards x n) {C D:ComT} {o p:OpT} {f g:Nat} (hf:f<places) (hg:g<places) (hC:C∈x.K f) (hD:D∈x.K g) (hCo:C.ops=[o]) (hDp:D.ops=[p]) (hk:o.kind=2) (hn:o.n=1) (hne:o.key≠p.key) (hK:∀i<places,∀E∈x.K i,E=C∨E=D) (hCD:inL C.when D.when=true) {at':List Int} :
  (Sx.valOf p.key (seenK x.K places at')).n=0∨(Sx.valOf o.key (seenK x.K places at')).n=1:=by
 by_cases hi:inL D.when at'=true
 ·have hi2:inL C.when at'=true:=inL_trans hCD hi (by rw[(h.mem hf hC).2.2.2.2,(h.mem hg hD).2.2.2.2];exact Nat.le_refl _)
  refine .inr (h.one hf hC hCo hk hn (fun i hI E hE q hq he=>?_) hi2)
  rcases hK i hI E hE with rfl|rfl
  ·rfl
  ·rw[hDp]at hq
   rw[List.mem_singleton.1 hq]at he
   exact absurd he.symm hne
 ·refine .inl (h.none fun i hI E hE h1 q hq he=>?_)
  rcases hK i hI E hE with rfl|rfl
  ·rw[hCo]at hq
   rw[List.mem_singleton.1 hq]at he
   exact hne he
  ·exact hi h1
theorem NetIn.own (h:NetIn places shards x n) {t:Nat} (ht:t<places):snapT (x.P t) t=(x.K t).length:=by
 rw[snapT,if_pos (h.pid t ht).1.symm,h.clk t ht]
def Even (places shards:Nat) (x:Net) (f:Nat):Prop:=∀t<places,t≠f→∀sh<shards,timeAt (x.H f t sh) (x.H f t sh).length=(x.K f).length
theorem even_beat {f:Nat}:Even places shards (netBeat x f) f:=fun t ht hne sh hs=>by
 rw[netBeat,updH_at,updK_at]
 exact timeAt_last
theorem NetIn.heard_all (h:NetIn places shards x n) (hcl:ClosedN places x) {t f:Nat} (ht:t<places) (hf:f<places) (hne:f≠t) (hg:∀sh<shards,∀i<(x.H f t sh).length,Got x f t sh i) (he:Even places shards x f):snapT (x.P t) f=(x.K f).length:=
 h.got_all hcl ht hf hne hg fun sh hs=>he t ht (Ne.symm hne) sh hs
end
end Go.Proofs.YtmkapocibaojdaaGreatDoor
end
section
namespace Go.Proofs.YtmkapocibaojdaaGreatDoor
open Go Go.Sx
def SentAt (shards:Nat) (x:Net) (f t:Nat) (m:MsgT):Prop:=∃s j:Nat,s<shards∧(x.H f t s)[j]?=some m
def Came (shards:Nat) (x:Net) (f t:Nat) (m:MsgT):Prop:=∃s j:Nat,s<shards∧(x.H f t s)[j]?=some m∧Got x f t s j
def FullN (places:Nat) (x:Net):Prop:=∀f<places,∀s∈(x.P f).ss,s.l=x.H f s.to.toNat s.sh.toNat
section
variable {places shards n f t:Nat} {x:Net} {m:MsgT}
theorem NetIn.hlen (h:NetIn places shards x n) {s:Nat} (hf:f<places) (ht:t<places) (hne:t≠f) (hs:s<shards):(x.H f t s).length≤n:=by
 obtain⟨y,hy,h1,h2⟩:=h.sndAt ht hf hne hs
 have h3:=(h.snd f hf y hy).q
 rw[h1,h2]at h3
 have h4:=((h.pin f hf).snd y hy).2.2.2.1
 omega
theorem SentAt.fine (hm:SentAt shards x f t m) (h:NetIn places shards x n) (hf:f<places) (ht:t<places) (hne:t≠f):m.fm=f∧m.to=t∧Fit m∧1≤m.seq∧m.seq≤n∧0≤m.time:=by
 obtain⟨s,j,hs,hj⟩:=hm
 obtain⟨h1,h2,h3,h4,h5,h6,_⟩:=(h.msg f hf t ht hne s hs).at' j m hj
 have h7:=(List.getElem?_eq_some_iff.1 hj).1
 have h8:=h.hlen hf ht hne hs
 exact⟨h1,h2,h.fit ht hf (Ne.symm hne) hs hj,by omega,by omega,h5⟩
theorem SentAt.hear (hm:SentAt shards x f t m) (h:NetIn places shards x n) (hf:f<places) (ht:t<places) (hne:t≠f) (hl:∀s<shards,(x.H f t s).length≤201):NetIn places shards (x.setP t (hearPl (x.P t) m).2.2) (n+1)∧(hearPl (x.P t) m).1=0:=by
 obtain⟨s,j,hs,hj⟩:=hm
 obtain⟨h1,h2⟩:=h.hear ht hf (Ne.symm hne) hs hj
 exact⟨h1,h2 (hl s hs)⟩
theorem SentAt.upd (hm:SentAt shards x f t m) (g:Nat) (p:PlT) (K':List ComT) (X:Nat→Nat→List MsgT):SentAt shards (x.upd g p K' X) f t m:=by
 obtain⟨s,j,hs,hj⟩:=hm
 refine⟨s,j,hs,?_⟩
 by_cases hg:f=g
 ·subst hg
  rw[updH_at,List.getElem?_append_left (List.getElem?_eq_some_iff.1 hj).1]
  exact hj
 ·rw[updH_ne hg]
  exact hj
theorem NetIn.com_at (h:NetIn places shards x n) (hf:f<places) {C:ComT} (hC:C.place=f) (hm:m∈comMs (x.P f) C):∃t<places,t≠f∧m.to=t∧SentAt shards (netCom x shards f C) f t m:=by
 obtain⟨t,s,h1,h2,h3,h4,h5⟩:=h.com_sent hf hC hm
 exact⟨t,h1,h2,h4,s,_,h3,h5⟩
theorem NetIn.beat_at (h:NetIn places shards x n) (hf:f<places) (hm:m∈beatMs (x.P f)):∃t<places,t≠f∧m.to=t∧SentAt shards (netBeat x f) f t m:=by
 obtain⟨t,s,h1,h2,h3,h4,h5⟩:=h.beat_sent hf hm
 exact⟨t,h1,h2,h4,s,_,h3,h5⟩
theorem SentAt.came (hm:SentAt shards x f t m) (h:NetIn places shards x n) (hcl:ClosedN places x) (hf:f<places) (ht:t<places) (hne:t≠f) (hl:∀s<shards,(x.H f t s).length≤201) :
  ClosedN places (x.setP t (hearPl (x.P t) m).2.2)∧Came shards (x.setP t (hearPl (x.P t) m).2.2) f t m∧∀f' t' z,Came shards x f' t' z→Came shards (x.setP t (hearPl (x.P t) m).2.2) f' t' z:=by
 have h0:=(hm.hear h hf ht hne hl).2
 obtain⟨s,j,hs,hj⟩:=hm
 obtain⟨h1,h2,h3⟩:=h.hear_got hcl ht hf (Ne.symm hne) hs hj
 exact⟨h1,⟨s,j,hs,hj,h3 h0⟩,fun f' t' z ⟨s,j,a,b,c⟩=>⟨s,j,a,b,h2 _ _ _ _ c⟩⟩
theorem NetIn.all_came (h:NetIn places shards x n) (hf:f<places) (ht:t<places) (hne:t≠f) (ha:∀z,SentAt shards x f t z→Came shards x f t z):∀sh<shards,∀i<(x.H f t sh).length,Got x f t sh i:=fun s hs i hi=>by
 have hm:(x.H f t s)[i]?=some (x.H f t s)[i]:=List.getElem?_eq_getElem hi
 obtain⟨s2,j,hs2,hj,hg⟩:=ha _ ⟨s,i,hs,hm⟩
 obtain⟨_,_,a3,a4,_⟩:=(h.msg f hf t ht hne s hs).at' i _ hm
 obtain⟨_,_,b3,b4,_⟩:=(h.msg f hf t ht hne s2 hs2).at' j _ hj
 have e1:s=s2:=by omega
 have e2:i=j:=by omega
 subst e1 e2
 exact hg
theorem known_snap {p:PlT} (hx:PlOk p):knownErr p (snapL p)=0:=by
 rw[knownErr,if_neg (by simp[snapL_ok hx]),if_neg (by simp[snapL_len]),if_pos (inL_refl _)]
theorem FullN.com (h:NetIn places shards x n) (hF:FullN places x) (hf:f<places) {C:ComT} (hC:C.place=f):FullN places (netCom x shards f C):=fun i hi s hs=>by
 by_cases hif:i=f
 ·subst hif
  rw[netCom,updP_at]at hs
  obtain⟨y,hy,rfl⟩:=List.mem_map.1 hs
  have h1:=hF i hi y hy
  have h2:=h.comX_at hi hC hy
  have e1:(sndC (x.P i).shards C y).to=y.to∧(sndC (x.P i).shards C y).sh=y.sh:=by
   unfold sndC
   split <;> exact⟨rfl,rfl⟩
  rw[netCom,updH_at,e1.1,e1.2,h2,←h1,(h.pid i hi).2.2]
  unfold sndC msgC
  split
  ·simp
  ·rfl
 ·rw[netCom,updP_ne hif]at hs
  rw[netCom,updH_ne hif]
  exact hF i hi s hs
theorem FullN.beat (h:NetIn places shards x n) (hF:FullN places x) (hf:f<places):FullN places (netBeat x f):=fun i hi s hs=>by
 by_cases hif:i=f
 ·subst hif
  rw[netBeat,updP_at]at hs
  obtain⟨y,hy,rfl⟩:=List.mem_map.1 hs
  have h1:=hF i hi y hy
  have h2:=h.beatX_at hi hy
  show y.l++[SndT.beatM y (x.P i).clock]=(netBeat x i).H i y.to.toNat y.sh.toNat
  rw[netBeat,updH_at,h2,←h1]
 ·rw[netBeat,updP_ne hif]at hs
  rw[netBeat,updH_ne hif]
  exact hF i hi s hs
theorem hearPl_ss {p:PlT} (hm:m.time≠-1):(hearPl p m).2.2.ss=p.ss:=by
 by_cases h:hearWay p m≠0
 ·rw[hearPl,if_pos h]
 ·rw[hearPl,if_neg h,if_neg hm]
  split
  ·rfl
  ·split <;> rfl
theorem FullN.hear (hF:FullN places x) (hm:m.time≠-1):FullN places (x.setP t (hearPl (x.P t) m).2.2):=fun i hi s hs=>by
 by_cases hit:i=t
 ·subst hit
  rw[setP_at,hearPl_ss hm]at hs
  exact hF i hi s hs
 ·rw[setP_ne _ _ hit]at hs
  exact hF i hi s hs
theorem FullN.again (hF:FullN places x) (h:NetIn places shards x n) (hf:f<places) (hm:m∈againMs (x.P f)):∃t<places,t≠f∧SentAt shards x f t m:=by
 obtain⟨l,hl,hm⟩:=List.mem_flatten.1 hm
 obtain⟨y,hy,rfl⟩:=List.mem_map.1 hl
 obtain⟨p1,p2,p3⟩:=h.pairS hf hy
 rw[hF f hf y hy]at hm
 obtain⟨j,hj⟩:=List.getElem?_of_mem hm
 exact⟨_,p1,p2,_,j,p3,hj⟩
theorem FullN.back (hF:FullN places x) (h:NetIn places shards x n) (hf:f<places) (ht:t<places) (hne:t≠f) (hm:SentAt shards x f t m):m∈againMs (x.P f):=by
 obtain⟨s,j,hs,hj⟩:=hm
 obtain⟨y,hy,h1,h2⟩:=h.sndAt ht hf hne hs
 refine List.mem_flatten.2 ⟨_,List.mem_map_of_mem hy,?_⟩
 rw[hF f hf y hy,h1,h2]
 exact List.mem_of_getElem? hj
end
end Go.Proofs.YtmkapocibaojdaaGreatDoor
end
section
namespace Go.Proofs.YtmkapocibaojdaaGreatDoor
open Go Go.Sx
theorem vecErr_mk {xs:List Int} (h1:1≤xs.length) (h6:xs.length≤6) (h:∀t∈xs,0≤t∧t≤1099511627776):vecErr xs=0:=by
 rw[vecErr,if_neg (by omega),if_neg]
 intro ha
 obtain⟨t,ht,hb⟩:=List.any_eq_true.1 ha
 have:=h t ht
 simp only[badT,Bool.or_eq_true,decide_eq_true_eq]at hb
 omega
theorem renum_inc (ops:List OpT):(renum ops).Pairwise fun a b=>a.no<b.no:=by
 rw[List.pairwise_iff_getElem]
 intro i j hi hj hlt
 simp only[renum,List.getElem_mapIdx]
 omega
theorem com_fine {x:PlT} {n:Nat} {at':List Int} {ops:List OpT} (hx:PlIn x n) (hn:n<600) (hk:knownErr x at'=0) (h0:ops≠[]) (h12:ops.length≤12) (ho:∀o∈ops,∀i:Nat,i<12→opErr { o with no:=i } x.places=0):(comErr x at' ops).code=0:=by
 obtain⟨k1,k2,k3⟩:=known_len hk
 have hc:=hx.clk
 have hc0:=hx.c0
 have hid:=hx.id
 have hp1:=hx.p1
 have hp6:=hx.p6
 have hl:(comP x at' ops).when.length=at'.length:=by simp[comP]
 rw[comErr,if_neg (by simp[hk]),if_neg (by omega)]
 refine comFault_mk (vecErr_mk (by omega) (by omega) fun t ht=>?_) (show(0:Int)≤(x.id:Int)by omega) (by rw[hl];show(x.id:Int)<_;omega) (by show(renum ops).length≤12;rw[renum_len];exact h12) ?_ ?_ (fun o hm=>?_) (renum_inc ops)
 ·rcases List.mem_or_eq_of_mem_set ht with ht|rfl
  ·exact vecErr_in k1 t ht
  ·omega
 ·show(at'.set x.id (x.clock+1))[(x.id:Int).toNat]?≠some 0
  rw[Int.toNat_natCast,List.getElem?_set_self (by omega)]
  intro h
  have:=Option.some.inj h
  omega
 ·intro h
  have:=congrArg List.length h
  rw[show(comP x at' ops).ops=renum ops from rfl,renum_len]at this
  exact h0 (List.length_eq_zero_iff.1 this)
 ·obtain⟨i,hi,rfl⟩:=List.mem_mapIdx.1 hm
  rw[hl,k2]
  exact ho _ (List.getElem_mem hi) i (by omega)
def cOp (key:ByteArray):OpT:=⟨0,key,2,ByteArray.mk #[],1,false,[]⟩
theorem cOp_fine {key:ByteArray} (hk:nameOk key=true) {p i:Nat} (h1:1≤p) (h6:p≤6) (hi:i<12):opErr { cOp key with no:=i } p=0:=by
 have h0:(ByteArray.mk #[]).size=0:=rfl
 rw[opRest (by show ¬((p:Int)<1∨6<(p:Int)∨(i:Int)<0∨12≤(i:Int));omega) hk (.inr (.inl rfl)) (by simp[shapeOk,cOp,h0]),if_neg (by simp only[cOp,List.length_nil,h0];omega),if_neg (by simp[cOp,badDots])]
theorem known_zero {i p sh:Nat} (hp1:1≤p) (hp6:p≤6) (hs1:1≤sh) (hs6:sh≤6) (hi:i<p):knownErr (newP i p sh) (List.replicate p 0)=0:=by
 have h1:inL (List.replicate p 0) (snapL (newP i p sh))=true:=(net_new hp1 hp6 hs1 hs6).base i hi i hi
 rw[knownErr,if_neg (by simp[zeros_ok hp1 hp6]),if_neg (by simp[newP]),if_pos h1]
theorem atErr_snap {x:PlT} (hx:PlOk x) (hb:inL x.base (snapL x)=true) {key:ByteArray} (hk:nameOk key=true):atErr x.places x.base key (snapL x)=0:=by
 rw[atErr,if_neg (by simp[hk]),if_neg (by simp[snapL_ok hx]),if_neg (by simp[snapL_len]),if_neg (by simp[hb])]
structure Sys (places shards:Nat) (x:Net) (l:List MsgT) (n:Nat):Prop where
 net:NetIn places shards x n
 cl:ClosedN places x
 l:∀m∈l,∃f<places,∃t<places,t≠f∧m.to=t∧SentAt shards x f t m
 few:∀f<places,∀t<places,t≠f→∀s<shards,(x.H f t s).length≤201
def AllIn (places shards:Nat) (x:Net) (l:List MsgT):Prop:=∀f<places,∀t<places,t≠f→∀m,SentAt shards x f t m→m∈l
section
variable {places shards n f t:Nat} {x:Net} {m:MsgT} {l:List MsgT}
theorem sys_new (hp1:1≤places) (hp6:places≤6) (hs1:1≤shards) (hs6:shards≤6):Sys places shards (newNet places shards) [] 0:=⟨net_new hp1 hp6 hs1 hs6,closed_new,by simp,fun _ _ _ _ _ _ _=>by simp[newNet]⟩
theorem all_new:AllIn places shards (newNet places shards) []:=fun f _ t _ _ m ⟨s,j,_,hj⟩=>by simp[newNet]at hj
theorem Sys.hear (h:Sys places shards x l n) (hm:m∈l) (ht:t<places) (hto:m.to=t) :
  Sys places shards (x.setP t (hearPl (x.P t) m).2.2) l (n+1)∧(hearPl (x.P t) m).1=0∧Fit m∧1≤m.seq∧m.seq≤n∧0≤m.time∧(∃f<places,f≠t∧m.fm=f∧Came shards (x.setP t (hearPl (x.P t) m).2.2) f t m)∧∀f' t' z,Came shards x f' t' z→Came shards (x.setP t (hearPl (x.P t) m).2.2) f' t' z:=by
 obtain⟨f,hf,t',ht',hne,hto',hs⟩:=h.l m hm
 obtain rfl:t'=t:=by omega
 have hw:=h.few f hf t' ht hne
 obtain⟨a1,a2⟩:=hs.hear h.net hf ht hne hw
 obtain⟨b1,b2,b3⟩:=hs.came h.net h.cl hf ht hne hw
 obtain⟨c1,c2,c3,c4,c5,c6⟩:=hs.fine h.net hf ht hne
 exact⟨⟨a1,b1,h.l,h.few⟩,a2,c3,c4,c5,c6,⟨f,hf,Ne.symm hne,c1,b2⟩,b3⟩
theorem Sys.com (h:Sys places shards x l n) (hn:n<201) (hf:f<places) {at':List Int} {ops:List OpT} (hc:(comErr (x.P f) at' ops).code=0) (hd:∀o∈ops,o.dots.length≤1000000):Sys places shards (netCom x shards f (comP (x.P f) at' ops)) (l++comMs (x.P f) (comP (x.P f) at' ops)) (n+1):=by
 have h1:=h.net.com_ok hf hc hd
 refine⟨h1,h.cl.upd rfl,fun m hm=>?_,fun f' hf' t ht hne s hs=>Nat.le_trans (h1.hlen hf' ht hne hs) (by omega)⟩
 rcases List.mem_append.1 hm with hm|hm
 ·obtain⟨f',a,t,b,c,d,e⟩:=h.l m hm
  exact⟨f',a,t,b,c,d,e.upd ..⟩
 ·obtain⟨t,a,b,c,d⟩:=h.net.com_at hf (C:=comP (x.P f) at' ops) (by show(((x.P f).id:Nat):Int)=f;rw[(h.net.pid f hf).1]) hm
  exact⟨f,hf,t,a,b,c,d⟩
theorem Sys.beat (h:Sys places shards x l n) (hn:n<201) (hf:f<places):Sys places shards (netBeat x f) (l++beatMs (x.P f)) (n+1):=by
 have h1:=h.net.beat_ok hf
 refine⟨h1,h.cl.upd rfl,fun m hm=>?_,fun f' hf' t ht hne s hs=>Nat.le_trans (h1.hlen hf' ht hne hs) (by omega)⟩
 rcases List.mem_append.1 hm with hm|hm
 ·obtain⟨f',a,t,b,c,d,e⟩:=h.l m hm
  exact⟨f',a,t,b,c,d,e.upd ..⟩
 ·obtain⟨t,a,b,c,d⟩:=h.net.beat_at hf hm
  exact⟨f,hf,t,a,b,c,d⟩
theorem Sys.mono (h:Sys places shards x l n) {k:Nat} (hk:n≤k):Sys places shards x l k:=⟨h.net.mono hk,h.cl,h.l,h.few⟩
theorem Sys.sub (h:Sys places shards x l n) {l':List MsgT} (hl:∀m∈l',∃f<places,∃t<places,t≠f∧m.to=t∧SentAt shards x f t m):Sys places shards x l' n:=⟨h.net,h.cl,hl,h.few⟩
theorem AllIn.com (ha:AllIn places shards x l) (h:NetIn places shards x n) (hf:f<places) {C:ComT} (hC:C.place=f):AllIn places shards (netCom x shards f C) (l++comMs (x.P f) C):=fun f' hf' t ht hne m ⟨s,j,hs,hj⟩=>by
 by_cases hff:f'=f
 ·subst hff
  rcases h.com_new hf hC ht hne hs hj with h1|h1
  ·exact List.mem_append.2 (.inl (ha f' hf' t ht hne m ⟨s,j,hs,h1⟩))
  ·exact List.mem_append.2 (.inr h1)
 ·rw[netCom,updH_ne hff]at hj
  exact List.mem_append.2 (.inl (ha f' hf' t ht hne m ⟨s,j,hs,hj⟩))
theorem AllIn.beat (ha:AllIn places shards x l) (h:NetIn places shards x n) (hf:f<places):AllIn places shards (netBeat x f) (l++beatMs (x.P f)):=fun f' hf' t ht hne m ⟨s,j,hs,hj⟩=>by
 by_cases hff:f'=f
 ·subst hff
  rcases h.beat_new hf ht hne hs hj with h1|h1
  ·exact List.mem_append.2 (.inl (ha f' hf' t ht hne m ⟨s,j,hs,h1⟩))
  ·exact List.mem_append.2 (.inr h1)
 ·rw[netBeat,updH_ne hff]at hj
  exact List.mem_append.2 (.inl (ha f' hf' t ht hne m ⟨s,j,hs,hj⟩))
theorem Sys.heard (h:Sys places shards x l n) (hf:f<places) (ht:t<places) (hne:t≠f) (he:Even places shards x f) (ha:∀z,SentAt shards x f t z→Came shards x f t z):snapT (x.P t) f=(x.K f).length:=
 h.net.heard_all h.cl ht hf (Ne.symm hne) (h.net.all_came hf ht hne ha) he
end
end Go.Proofs.YtmkapocibaojdaaGreatDoor
end
section
namespace Go.Proofs.YtmkapocibaojdaaGreatDoor
open Go Go.Sx
structure WholeI (sh:Nat) (C:ComT) (l:List MsgT) (x:Net) (n:Nat):Prop where
 sys:Sys 2 sh x l n
 memC:C∈x.K 0
 K:∀g<2,∀D∈x.K g,D=C
 to:∀m∈l,m.to=1
section
variable {sh:Nat} {keys:List ByteArray}
theorem cOp_dots {keys:List ByteArray}:∀o∈keys.map cOp,o.dots.length≤1000000:=fun o ho=>by
 obtain⟨k,_,rfl⟩:=List.mem_map.1 ho
 simp[cOp]
theorem WholeI.beat {C:ComT} {l:List MsgT} {x:Net} {n:Nat} (h:WholeI sh C l x n) (hn:n<201):WholeI sh C (l++beatMs (x.P 0)) (netBeat x 0) (n+1):=by
 have h1:=h.sys.beat hn (f:=0) (by decide)
 refine⟨h1,?_,fun g hg D hD=>?_,fun m hm=>?_⟩
 ·rw[netBeat,updK_at]
  exact h.memC
 ·rcases(by omega:g=0∨g=1)with rfl|rfl
  ·rw[netBeat,updK_at]at hD
   exact h.K 0 (by decide) D hD
  ·rw[netBeat,updK_ne (by decide)]at hD
   exact h.K 1 (by decide) D hD
 ·rcases List.mem_append.1 hm with hm|hm
  ·exact h.to m hm
  ·obtain⟨t,a,b,c,_⟩:=h.sys.net.beat_at (by decide) hm
   omega
theorem WholeI.hear {C:ComT} {l:List MsgT} {x:Net} {n:Nat} {m:MsgT} (h:WholeI sh C l x n) (hm:m∈l):WholeI sh C l (x.setP 1 (hearPl (x.P 1) m).2.2) (n+1)∧(hearPl (x.P 1) m).1=0∧Fit m∧1≤m.seq∧m.seq≤n:=by
 obtain⟨h1,h2,h3,h4,h5,_⟩:=h.sys.hear hm (t:=1) (by decide) (h.to m hm)
 exact⟨⟨h1,h.memC,h.K,h.to⟩,h2,h3,h4,h5⟩
theorem WholeI.read {C:ComT} {l:List MsgT} {x:Net} {n:Nat} (h:WholeI sh C l x n) (h2:∀o∈C.ops,o.kind=2) :
  (∀key,(∃o∈C.ops,o.key=key)→(Sx.valOf key (withinC (x.P 1).L key (snapL (x.P 1)))).kind=2)∨(∀key,(Sx.valOf key (withinC (x.P 1).L key (snapL (x.P 1)))).kind=0):=by
 rcases h.sys.net.whole (f:=0) (by decide) h.memC h.K h2 (snapL (x.P 1))with h3|h3
 ·exact .inl fun key hk=>by rw[h.sys.net.reads (by decide)];exact h3 key hk
 ·exact .inr fun key=>by rw[h.sys.net.reads (by decide)];exact h3 key
end
end Go.Proofs.YtmkapocibaojdaaGreatDoor
end
section
namespace Go.Sx
open Go
structure NetS where
 i:Int
 x:Net
end Go.Sx
namespace Go.Proofs.YtmkapocibaojdaaGreatDoor
open Go Go.Sx
theorem readK_snap {x:PlT} (hx:PlOk x) (hb:inL x.base (snapL x)=true) {key:ByteArray} (hk:nameOk key=true):readK x key (snapL x)=0:=by
 have h1:readErr x key (snapL x)=0:=by rw[readErr,if_pos hk,known_snap hx]
 rw[readK,if_neg (by simp[h1]),atErr_snap hx hb hk]
end Go.Proofs.YtmkapocibaojdaaGreatDoor
end
section
namespace Go.Proofs.YtmkapocibaojdaaGreatDoor
open Go Go.Sx
theorem snap3 {x:PlT} (hp:x.places=3):snapL x=[snapT x 0,snapT x 1,snapT x 2]:=by
 rw[snapL,hp]
 rfl
structure CauseA (sh:Nat) (C:ComT) (all:List MsgT) (x:Net) (n i:Nat):Prop where
 sys:Sys 3 sh x all n
 memAll:AllIn 3 sh x all
 K0:x.K 0=[C]
 K1:x.K 1=[]
 K2:x.K 2=[]
 even:Even 3 sh x 0
 came:∀k<i,∀m,all[k]?=some m→m.to=1→∃f:Nat,f<3∧f≠1∧m.fm=f∧Came sh x f 1 m
structure CauseB (sh:Nat) (C D:ComT) (l:List MsgT) (x:Net) (n:Nat):Prop where
 sys:Sys 3 sh x l n
 memC:C∈x.K 0
 memD:D∈x.K 1
 K:∀i<3,∀E∈x.K i,E=C∨E=D
section
variable {sh n i:Nat} {a b:ByteArray} {C D:ComT} {l all:List MsgT} {x:Net} {m:MsgT}
abbrev comA (sh:Nat) (a:ByteArray):ComT:=comP (newP 0 3 sh) [0,0,0] [cOp a]
theorem cause_com (hs1:1≤sh) (hs6:sh≤6) (ha:nameOk a=true):(comErr (newP 0 3 sh) [0,0,0] [cOp a]).code=0:=by
 refine com_fine (newP_in 0 (by decide) (by decide) hs1 hs6 (by decide)) (by decide) (known_zero (i:=0) (p:=3) (by decide) (by decide) hs1 hs6 (by decide)) (by simp) (by simp) fun o ho i hi=>?_
 rw[List.mem_singleton.1 ho]
 exact cOp_fine ha (by show 1≤3;decide) (by show 3≤6;decide) hi
theorem one_dots:∀o∈[cOp a],o.dots.length≤1000000:=cOp_dots (keys:=[a])
theorem cause_start (hs1:1≤sh) (hs6:sh≤6) (ha:nameOk a=true):CauseA sh (comA sh a) (comMs (newP 0 3 sh) (comA sh a)++beatMs (comPl (newP 0 3 sh) (comA sh a))) (netBeat (netCom (newNet 3 sh) sh 0 (comA sh a)) 0) 2 0:=by
 have h0:=sys_new (places:=3) (shards:=sh) (by decide) (by decide) hs1 hs6
 have h1:=h0.com (f:=0) (by decide) (by decide) (cause_com hs1 hs6 ha) one_dots
 have h2:=h1.beat (f:=0) (by decide) (by decide)
 have g1:=(all_new (places:=3) (shards:=sh)).com h0.net (f:=0) (by decide) (C:=comA sh a) rfl
 have g2:=g1.beat h1.net (f:=0) (by decide)
 rw[List.nil_append]at h2 g2
 exact⟨h2,g2,rfl,rfl,rfl,even_beat,fun k hk=>absurd hk (Nat.not_lt_zero k)⟩
theorem CauseA.hear (h:CauseA sh C all x n i) (hm:all[i]?=some m) (hto:m.to=1):CauseA sh C all (x.setP 1 (hearPl (x.P 1) m).2.2) (n+1) (i+1)∧(hearPl (x.P 1) m).1=0∧Fit m∧1≤m.seq∧m.seq≤n:=by
 obtain⟨h1,h2,h3,h4,h5,_,h6,h7⟩:=h.sys.hear (List.mem_of_getElem? hm) (t:=1) (by decide) hto
 refine⟨⟨h1,h.memAll,h.K0,h.K1,h.K2,h.even,fun k hk z hz hzt=>?_⟩,h2,h3,h4,h5⟩
 rcases Nat.lt_succ_iff_lt_or_eq.1 hk with hk|rfl
 ·obtain⟨f,f1,f2,f3,f4⟩:=h.came k hk z hz hzt
  exact⟨f,f1,f2,f3,h7 _ _ _ f4⟩
 ·rw[hm]at hz
  cases hz
  exact h6
theorem CauseA.skip (h:CauseA sh C all x n i) (hm:all[i]?=some m) (hto:m.to≠1):CauseA sh C all x n (i+1):=by
 refine⟨h.sys,h.memAll,h.K0,h.K1,h.K2,h.even,fun k hk z hz hzt=>?_⟩
 rcases Nat.lt_succ_iff_lt_or_eq.1 hk with hk|rfl
 ·exact h.came k hk z hz hzt
 ·rw[hm]at hz
  cases hz
  exact absurd hzt hto
theorem CauseA.in (h:CauseA sh (comA sh a) all x n all.length):inL (comA sh a).when (snapL (x.P 1))=true∧inL (comA sh a).when ((snapL (x.P 1)).set 1 ((x.P 1).clock+1))=true:=by
 obtain⟨p1,p2,p3⟩:=h.sys.net.pid 1 (by decide)
 have h1:snapT (x.P 1) 0=(x.K 0).length:=h.sys.heard (by decide) (by decide) (by decide) h.even fun z hz=>by
  obtain⟨k,hk⟩:=List.getElem?_of_mem (h.memAll 0 (by decide) 1 (by decide) (by decide) z hz)
  obtain⟨c1,c2,_⟩:=hz.fine h.sys.net (by decide) (by decide) (by decide)
  obtain⟨f,f1,f2,f3,f4⟩:=h.came k (List.getElem?_eq_some_iff.1 hk).1 z hk c2
  obtain rfl:f=0:=by omega
  exact f4
 rw[h.K0]at h1
 have hpl:=(h.sys.net.pin 1 (by decide)).toPlOk
 have t1:=(snapT_in hpl (k:=1) (by omega)).1
 have t2:=(snapT_in hpl (k:=2) (by omega)).1
 have c0:=hpl.c0
 have hw:(comA sh a).when=[1,0,0]:=rfl
 rw[hw,snap3 p2,h1]
 constructor
 ·simp[inL]
  omega
 ·simp[inL]
  omega
theorem CauseA.read (h:CauseA sh (comA sh a) all x n all.length):(Sx.valOf a (withinC (x.P 1).L a (snapL (x.P 1)))).n=1:=by
 rw[h.sys.net.reads (by decide)]
 refine h.sys.net.one (C:=comA sh a) (o:=cOp a) (f:=0) (by decide) (by rw[h.K0];exact List.mem_singleton.2 rfl) rfl rfl rfl (fun g hg D hD _ _ _=>?_) h.in.1
 rcases(by omega:g=0∨g=1∨g=2)with rfl|rfl|rfl
 ·rw[h.K0]at hD
  exact List.mem_singleton.1 hD
 ·rw[h.K1]at hD
  cases hD
 ·rw[h.K2]at hD
  cases hD
theorem CauseA.com (h:CauseA sh (comA sh a) all x n all.length) (hn:n<200) (hb:nameOk b=true):(comErr (x.P 1) (snapL (x.P 1)) [cOp b]).code=0 ∧
  CauseB sh (comA sh a) (comP (x.P 1) (snapL (x.P 1)) [cOp b]) (all++comMs (x.P 1) (comP (x.P 1) (snapL (x.P 1)) [cOp b])++beatMs (comPl (x.P 1) (comP (x.P 1) (snapL (x.P 1)) [cOp b]))) (netBeat (netCom x sh 1 (comP (x.P 1) (snapL (x.P 1)) [cOp b])) 1) (n+2):=by
 obtain⟨p1,p2,p3⟩:=h.sys.net.pid 1 (by decide)
 have hpl:=h.sys.net.pin 1 (by decide)
 have hc:(comErr (x.P 1) (snapL (x.P 1)) [cOp b]).code=0:=com_fine hpl (by omega) (known_snap hpl.toPlOk) (by simp) (by simp) fun o ho i hi=>by
  rw[List.mem_singleton.1 ho]
  exact cOp_fine hb (by omega) (by omega) hi
 have h1:=h.sys.com (f:=1) (by omega) (by decide) hc one_dots
 have h2:=h1.beat (f:=1) (by omega) (by decide)
 have e:(netCom x sh 1 (comP (x.P 1) (snapL (x.P 1)) [cOp b])).P 1=comPl (x.P 1) (comP (x.P 1) (snapL (x.P 1)) [cOp b]):=updP_at
 rw[e]at h2
 refine⟨hc,h2,?_,?_,fun i hi E hE=>?_⟩
 ·show comA sh a∈x.K 0
  rw[h.K0]
  exact List.mem_singleton.2 rfl
 ·show _∈x.K 1++[_]
  exact List.mem_append.2 (.inr (List.mem_singleton.2 rfl))
 ·rcases(by omega:i=0∨i=1∨i=2)with rfl|rfl|rfl
  ·have hE:E∈x.K 0:=hE
   rw[h.K0]at hE
   exact .inl (List.mem_singleton.1 hE)
  ·have hE:E∈x.K 1++[_]:=hE
   rw[h.K1,List.nil_append]at hE
   exact .inr (List.mem_singleton.1 hE)
  ·have hE:E∈x.K 2:=hE
   rw[h.K2]at hE
   cases hE
theorem CauseB.hear (h:CauseB sh C D l x n) (hm:m∈l) (hto:m.to=2):CauseB sh C D l (x.setP 2 (hearPl (x.P 2) m).2.2) (n+1)∧(hearPl (x.P 2) m).1=0∧Fit m∧1≤m.seq∧m.seq≤n:=by
 obtain⟨h1,h2,h3,h4,h5,_⟩:=h.sys.hear hm (t:=2) (by decide) hto
 exact⟨⟨h1,h.memC,h.memD,h.K⟩,h2,h3,h4,h5⟩
theorem CauseB.end {p:PlT} {at':List Int} (h:CauseB sh (comA sh a) (comP p at' [cOp b]) l x n) (hi:inL (comA sh a).when (comP p at' [cOp b]).when=true) (hne:a≠b) :
  (Sx.valOf b (withinC (x.P 2).L b (snapL (x.P 2)))).n=0∨(Sx.valOf a (withinC (x.P 2).L a (snapL (x.P 2)))).n=1:=by
 rw[h.sys.net.reads (by decide),h.sys.net.reads (by decide)]
 exact h.sys.net.cause (o:=cOp a) (p:=cOp b) (f:=0) (g:=1) (by decide) (by decide) h.memC h.memD rfl rfl rfl rfl hne h.K hi
end
end Go.Proofs.YtmkapocibaojdaaGreatDoor
end
section
namespace Go.Proofs.YtmkapocibaojdaaGreatDoor
open Go Go.Sx
set_option maxHeartbeats 8000000 in
theorem causeTail {w0:World} {S0:Nat→Prop} {er:Nat→Addr} {eb:Nat→Array Value×TypeId} {sh:Nat} {ta:Option Addr} {tc:Nat} {pick:List Int} {ky kz:ByteArray} {p:PlT} {at':List Int} {l:List MsgT} {x:Net} {n zb k cv:Nat} {av:Option Addr} (hw:CauseB sh (comA sh ky) (comP p at' [cOp kz]) l x n) (hn:n≤500) (hin:inL (comA sh ky).when (comP p at' [cOp kz]).when=true) (hne:ky≠kz) (ha:nameOk ky=true) (hb:nameOk kz=true) (hp60:pick.length≤60) :
  J Tryz.prog Tryz.f5 (retR Tryz.prog Tryz.f5 fun e w'=>Ret [] (zero w0) S0 w' e (.bool true) [] []) Tryz.f5.ntmps [.c (.rg 28 false),.c (.block 2 (.loop (.seq (.seq (.rg 29 false) (.cond (.tmp 176) .skip (.exit 2))) (.seq (.block 3 (.seq (.seq (.rg 31 false) (.cond (.tmp 203) (.exit 3) .skip)) (.seq (.rg 32 false) (.seq (.rg 33 false) (.cond (.tmp 217) (.seq (.rg 34 false) .ret) .skip))))) (.rg 30 false))))),.c (.seq (.rg 35 false) (.seq (.rg 36 false) (.seq (.rg 37 false) .ret)))] [(1,.val (.string ky)),(2,.val (.string kz)),(3,.val (.slice ta pick.length tc)),(8,.val (.bool false)),(14,.val (.pointer (some ⟨zb,0,none⟩))),(17,.val (.slice av k cv))] [] [] [([],zero w0)] ⟨newS S0 [] w0,[cPlace zb (x.P 2)],[(.nilIface,dC er eb),(.slice ta pick.length tc,dInts pick),(.slice av k cv,.sl 9 (l.map eMsg))]⟩:=by
 refine J_stpx (stp_replen 2 rfl) fun _ hkl=>?_
 rw[List.length_map]at hkl
 subst hkl
 refine Za [zR 0] [] [zI 25 0] ?_
 refine J_block ?_
 refine J_loopx (fun z:NetS=>[zV 1 (.string ky),zV 2 (.string kz),zS 3 ta pick.length tc,zB 8 false,zP 14 zb,zS 17 av l.length cv,zI 25 z.i]) (fun z:NetS=>[]) (fun z:NetS=>[cPlace zb (z.x.P 2)]) (fun z:NetS=>[(.nilIface,(dC er eb)),(.slice ta pick.length tc,(dInts pick)),(.slice av l.length cv,(D.sl 9 (List.map eMsg l)))]) (fun z:NetS=>(pick.length - z.i).toNat) (fun z:NetS=>(0≤z.i∧z.i≤pick.length∧CauseB sh (comA sh ky) (comP p at' [cOp kz]) l z.x (n+z.i.toNat))) ⟨0,x⟩ [1,2,3,8,14,17,25] [] [0] [0,1,2] ?_ (by kernel_rfl) rfl rfl rfl ?_
 ·exact⟨by simp,by simp,by simpa using hw⟩
 clear hw
 rintro⟨i,x⟩ ⟨hi0,hi,hw⟩
 dsimp only at hi0 hi hw ⊢
 refine J_seq ?_
 refine Zs (Rds 0 4) [] [zB 176 (decide (i<(↑pick.length:Int)))] ?_
 refine cC (t:=decide (i<(↑pick.length:Int))) (fun hlt=>?_) (fun hlt=>?_)
 ·have hlt2:i<pick.length:=of_decide_eq_true hlt
  have hi1:n+(i+1).toNat=n+i.toNat+1:=by omega
  have hsk:CauseB sh (comA sh ky) (comP p at' [cOp kz]) l x (n+(i+1).toNat):=⟨hw.sys.mono (by omega),hw.memC,hw.memD,hw.K⟩
  obtain⟨t,ht⟩:∃t,pick[i.toNat]?=some t:=⟨_,List.getElem?_eq_getElem (by omega)⟩
  refine J_read0 1 rfl i.toNat (map_at ht) (by kernel_rfl) (fun b1 off1 cs1 ty1 fz1 ha1 hrd1=>?_)
  cases ha1
  have hrd1_0:=rd0 (hrd1 0 _ rfl)
  by_cases h0:t<0
  case pos=>
   try simp only[aQ]
   refine J_skip (J_seq (J_block (J_seq ?_)))
   refine Zt [zR 0,zR 1,.rd 2 [] 0 2,.rd 3 [.r 0 (some (nI t))] 0 0,.rd 4 [] 0 6,zR 5,.rd 6 [] 1 0,.rd 7 [] 1 0,.rd 8 [] 1 0,.rd 9 [] 1 0,.rd 10 [] 1 0,.rd 11 [] 1 0,.rd 12 [] 1 0,zR 13,zR 14,.rd 15 [] 1 0,.rd 16 [] 1 0,.rd 17 [] 1 0,.rd 18 [] 1 0,.rd 19 [] 1 0,.rd 20 [] 1 0,.rd 21 [] 1 0,.rd 22 [] 1 0,.rd 23 [] 1 0,zR 24] [176] [zB 203 true] (oC hi0 (oC hlt2 (oC hrd1_0 (oC (show decide (t<(0:Int))=true from by simp;omega) oN)))) ?_
   refine cTt ?_
   refine J_exit rfl ?_
   refine Zp [zR 0,.rd 1 [] 0 1,zR 2] [203] [zI 25 (i+1)] (oC (show IntKind.i64.wrap (i+1)=i+1 from wrap_i64 (by omega) (by omega)) oN) ?_
   refine J_backx ⟨i+1,x⟩ [1,2,3,8,14,17,25] [] [0] [0,1,2] ?_ ?_ (by kernel_rfl) rfl rfl rfl
   ·exact⟨by simp only;omega,by simp only;omega,hsk⟩
   ·simp only
    omega
  by_cases h1:t<(l.length:Int)
  case neg=>
   try simp only[aQ]
   refine J_skip (J_seq (J_block (J_seq ?_)))
   refine Zt ([zR 0,zR 1,.rd 2 [] 0 2,.rd 3 [.r 0 (some (nI t))] 0 0,.rd 4 [] 0 7]++Rds 5 8++[.rd 8 [] 0 2,.rd 9 [.r 0 (some (nI t))] 0 0,zR 10,zR 11,.rd 12 [] 0 6,zR 13,zR 14,.rd 15 [] 1 0,.rd 16 [] 1 0,.rd 17 [] 1 0,.rd 18 [] 1 0,.rd 19 [] 1 0,.rd 20 [] 1 0,.rd 21 [] 1 0,.rd 22 [] 1 0,.rd 23 [] 1 0,zR 24]) [176] [zB 203 true] (oC hi0 (oC hlt2 (oC hrd1_0 (oC (show decide (t<(0:Int))=false from by simp;omega) (oC hi0 (oC hlt2 (oC hrd1_0 (oC (show decide (t≥(↑l.length:Int))=true from by simp;omega) oN)))))))) ?_
   refine cTt ?_
   refine J_exit rfl ?_
   refine Zp [zR 0,.rd 1 [] 0 1,zR 2] [203] [zI 25 (i+1)] (oC (show IntKind.i64.wrap (i+1)=i+1 from wrap_i64 (by omega) (by omega)) oN) ?_
   refine J_backx ⟨i+1,x⟩ [1,2,3,8,14,17,25] [] [0] [0,1,2] ?_ ?_ (by kernel_rfl) rfl rfl rfl
   ·exact⟨by simp only;omega,by simp only;omega,hsk⟩
   ·simp only
    omega
  obtain⟨m,hm⟩:∃m,l[t.toNat]?=some m:=⟨_,List.getElem?_eq_getElem (by omega)⟩
  refine J_read2 2 rfl t.toNat (map_at hm) (by kernel_rfl) (fun b2 off2 cs2 ty2 fz2 a2_0 c2_0 a2_1 c2_1 ha2 hrd2=>?_)
  cases ha2
  have hrd2_0:=rd0 (hrd2 0 _ rfl)
  have hrd2_1:=hrd2 1 _ rfl
  have hrd2_2:=hrd2 2 _ rfl
  have hrd2_3:=hrd2 3 _ rfl
  have hrd2_4:=hrd2 4 _ rfl
  have hrd2_5:=hrd2 5 _ rfl
  have hrd2_6:=hrd2 6 _ rfl
  have hrd2_7:=hrd2 7 _ rfl
  have hrd2_8:=hrd2 8 _ rfl
  by_cases hto:m.to=2
  case neg=>
   try simp only[aQ]
   refine J_skip (J_seq (J_block (J_seq ?_)))
   refine Zt ([zR 0,zR 1,.rd 2 [] 0 2,.rd 3 [.r 0 (some (nI t))] 0 0,.rd 4 [] 0 7]++Rds 5 8++[.rd 8 [] 0 2,.rd 9 [.r 0 (some (nI t))] 0 0,zR 10,zR 11,.rd 12 [] 0 7]++Rds 13 18++[.rd 18 [] 0 2,.rd 19 [.r 0 (some (nI t))] 0 0,.rd 20 [] 0 2,zR 21,.rd 22 [.r 1 (some (nI m.to))] 0 0,.rd 23 [] 0 6,zR 24]) [176] [zB 203 true] (oC hi0 (oC hlt2 (oC hrd1_0 (oC (show decide (t<(0:Int))=false from by simp;omega) (oC hi0 (oC hlt2 (oC hrd1_0 (oC (show decide (t≥(↑l.length:Int))=false from by simp;omega) (oC hi0 (oC hlt2 (oC hrd1_0 (oC (show 0≤t from by omega) (oC h1 (oC hrd2_1 (oC (show(m.to != (2:Int))=true from by simp;omega) oN))))))))))))))) ?_
   refine cTt ?_
   refine J_exit rfl ?_
   refine Zp [zR 0,.rd 1 [] 0 1,zR 2] [203] [zI 25 (i+1)] (oC (show IntKind.i64.wrap (i+1)=i+1 from wrap_i64 (by omega) (by omega)) oN) ?_
   refine J_backx ⟨i+1,x⟩ [1,2,3,8,14,17,25] [] [0] [0,1,2] ?_ ?_ (by kernel_rfl) rfl rfl rfl
   ·exact⟨by simp only;omega,by simp only;omega,hsk⟩
   ·simp only
    omega
  obtain⟨hw2,he0,hfit,hsq1,hsq2⟩:=hw.hear (List.mem_of_getElem? hm) hto
  try simp only[aQ]
  refine J_skip (J_seq (J_block (J_seq ?_)))
  refine Zt ([zR 0,zR 1,.rd 2 [] 0 2,.rd 3 [.r 0 (some (nI t))] 0 0,.rd 4 [] 0 7]++Rds 5 8++[.rd 8 [] 0 2,.rd 9 [.r 0 (some (nI t))] 0 0,zR 10,zR 11,.rd 12 [] 0 7]++Rds 13 18++[.rd 18 [] 0 2,.rd 19 [.r 0 (some (nI t))] 0 0,.rd 20 [] 0 2,zR 21,.rd 22 [.r 1 (some (nI m.to))] 0 0,.rd 23 [] 0 7,zR 24]) [176] [zB 203 false] (oC hi0 (oC hlt2 (oC hrd1_0 (oC (show decide (t<(0:Int))=false from by simp;omega) (oC hi0 (oC hlt2 (oC hrd1_0 (oC (show decide (t≥(↑l.length:Int))=false from by simp;omega) (oC hi0 (oC hlt2 (oC hrd1_0 (oC (show 0≤t from by omega) (oC h1 (oC hrd2_1 (oC (show(m.to != (2:Int))=false from by simp;omega) oN))))))))))))))) ?_
  refine cF ?_
  refine J_skip ?_
  refine jS [(0,true),(1,true),(2,true),(3,true),(4,true),(5,true),(6,true),(7,true),(8,false),(9,true),(10,true),(11,true),(12,true),(13,true)] [] ?_
  refine Yp (Rds 0 4++[.rd 4 [] 0 2,.rd 5 [.r 0 (some (nI t))] 0 0,.rd 6 [] 0 2,.rd 7 [.r 1 (some (nI m.fm)),.r 1 (some (nI m.to)),.r 1 (some (nI m.shard)),.r 1 (some (nI m.seq)),.r 1 (some (nI m.time)),.r 1 (some (.bool m.beat)),.r 1 (some (.slice (a2_0,c2_0).fst ((List.map eI m.c.when).length) c2_0)),.r 1 (some (nI m.c.place)),.r 1 (some (.slice (a2_1,c2_1).fst ((List.map eOp m.c.ops).length) c2_1))] 0 0]) [203] [zP 205 zb,zV 212 (.agg #[nI m.fm,nI m.to,nI m.shard,nI m.seq,nI m.time,.bool m.beat,.slice (a2_0,c2_0).fst ((List.map eI m.c.when).length) c2_0,nI m.c.place,.slice (a2_1,c2_1).fst ((List.map eOp m.c.ops).length) c2_1])] (oC hi0 (oC hlt2 (oC hrd1_0 (oC (show 0≤t from by omega) (oC h1 (oC hrd2_0 (oC hrd2_1 (oC hrd2_2 (oC hrd2_3 (oC hrd2_4 (oC hrd2_5 (oC hrd2_6 (oC hrd2_7 (oC hrd2_8 oN)))))))))))))) ?_
  refine JR_call [] [0] 24 #[.pointer (some (⟨zb,0,none⟩)),.agg #[.int .i64 m.fm,.int .i64 m.to,.int .i64 m.shard,.int .i64 m.seq,.int .i64 m.time,.bool m.beat,.slice (a2_0,c2_0).fst ((List.map eI m.c.when).length) c2_0,.int .i64 m.c.place,.slice (a2_1,c2_1).fst ((List.map eOp m.c.ops).length) c2_1]] (some 213) (by kernel_rfl) (by kernel_rfl) (by decide) (fun w S M hP hG _=>?_)
  refine(placeHear (m:=m) (n:=n+i.toNat) (hG.at 0 rfl) hP (hw.sys.net.pin 2 (by decide)) (by omega) (hG.at 3 rfl) (hG.at 4 rfl) hfit (by omega)).mono ?_
  rintro e1 w1 ⟨ua,un,uc,v,hR,hv⟩
  rw[he0]at hv
  obtain⟨_,rfl⟩|⟨h,_⟩:=hv
  case inr=>exact absurd rfl h
  rw[show cPlace zb (hearPl (x.P 2) m).2.2=cPlace zb ((x.setP 2 (hearPl (x.P 2) m).2.2).P 2)by rw[setP_at]]at hR
  refine⟨_,_,_,hR,?_⟩
  try simp only[aQ]
  refine Ya (Rds 9 14) [213,205,212] [zV 27 .nilIface] ?_
  try simp only[aQ]
  refine JR_end ?_
  try simp only[aQ]
  refine J_seq ?_
  try simp only[aQ]
  refine Za [zR 0,zR 1] [] [zB 217 false] ?_
  try simp only[aQ]
  refine cF ?_
  try simp only[aQ]
  refine J_skip ?_
  try simp only[aQ]
  refine J_eb ?_
  try simp only[aQ]
  refine Zp [zR 0,.rd 1 [] 0 1,zR 2] [217] [zI 25 (i+1)] (oC (show IntKind.i64.wrap (i+1)=i+1 from wrap_i64 (by omega) (by omega)) oN) ?_
  try simp only[aQ]
  refine J_backx ⟨i+1,x.setP 2 (hearPl (x.P 2) m).2.2⟩ [1,2,3,8,14,17,25] [] [0] [0,1,2] ?_ ?_ (by kernel_rfl) rfl rfl rfl
  ·refine⟨by simp only;omega,by simp only;omega,?_⟩
   dsimp only
   rw[hi1]
   exact hw2
  ·simp only
   omega
 ·have hpl:=(hw.sys.net.pin 2 (by decide)).mono (show n+i.toNat≤600 by omega)
  have hp3:=(hw.sys.net.pid 2 (by decide)).2.1
  have hsl:=snapL_len (x.P 2)
  have hra:=readK_snap hpl.toPlOk (hw.sys.net.base 2 (by decide) 2 (by decide)) ha
  have hrb:=readK_snap hpl.toPlOk (hw.sys.net.base 2 (by decide) 2 (by decide)) hb
  have hend:=hw.end hin hne
  refine J_exit rfl ?_
  refine jS [(0,true),(1,true),(2,true),(3,false),(4,false),(5,true),(6,true),(7,true),(8,false),(9,false),(10,true)] [] ?_
  refine Ya (Rds 0 3) [176,1,3,17,25] [zP 219 zb,zV 220 (.string ky),zP 221 zb] ?_
  refine JR_call [] [0] 19 #[.pointer (some (⟨zb,0,none⟩))] (some 222) (by kernel_rfl) (by kernel_rfl) (by decide) (fun w S M hP hG _=>?_)
  refine(placeSnapshot hP hpl.toPlOk).mono ?_
  rintro e1 w1 ⟨a3,n3,c3,hR⟩
  refine⟨_,_,_,hR,?_⟩
  try simp only[aQ]
  refine JR_callz [] [0] 25 #[.pointer (some (⟨zb,0,none⟩)),.string ky,.slice a3 n3 c3] (some 223) zero_all (by kernel_rfl) (by kernel_rfl) (by decide) (fun w S M hP hG _=>?_)
  refine(placeRead (n:=600) (at':=snapL (x.P 2)) (key:=ky) (hG.at 0 rfl) hP hpl (by omega) (hG.at 3 rfl) (by omega)).mono ?_
  rintro e3 w3 (⟨h,_⟩|⟨_,ua,un,uc,hR⟩)
  ·exact absurd hra h
  refine⟨_,_,_,hR,?_⟩
  try simp only[aQ]
  refine Ym (Rds 5 8++[.wr 8 [] 0,.wr 9 (hnO 0 4) 0,zR 10]) [223,222,219,220,221] (fun nu1=>[zV 11 .nilIface,zP 28 (nu1 0)]) o0 (fun nu1=>[(nu1 0,.cells #[nI ((Sx.valOf ky (withinC (x.P 2).L ky (snapL (x.P 2)))).kind),.string ((Sx.valOf ky (withinC (x.P 2).L ky (snapL (x.P 2)))).text),nI ((Sx.valOf ky (withinC (x.P 2).L ky (snapL (x.P 2)))).n),.slice ua un uc] 64 (0,0))]) [] (fun nu1=>?_)
  try simp only[aQ]
  refine JR_end ?_
  try simp only[aQ]
  refine J_seq ?_
  try simp only[aQ]
  refine jT [(0,true),(1,true),(2,true),(3,false),(4,false),(5,true),(6,true),(7,true),(8,false),(9,false),(10,true)] [] ?_
  refine Ya (Rds 0 3) [2,14] [zP 227 zb,zV 228 (.string kz),zP 229 zb] ?_
  refine JR_call [] [0] 19 #[.pointer (some (⟨zb,0,none⟩))] (some 230) (by kernel_rfl) (by kernel_rfl) (by decide) (fun w S M hP hG _=>?_)
  refine(placeSnapshot hP hpl.toPlOk).mono ?_
  rintro e4 w4 ⟨a5,n5,c5,hR⟩
  refine⟨_,_,_,hR,?_⟩
  try simp only[aQ]
  refine JR_callz [] [0] 25 #[.pointer (some (⟨zb,0,none⟩)),.string kz,.slice a5 n5 c5] (some 231) zero_all (by kernel_rfl) (by kernel_rfl) (by decide) (fun w S M hP hG _=>?_)
  refine(placeRead (n:=600) (at':=snapL (x.P 2)) (key:=kz) (hG.at 0 rfl) hP hpl (by omega) (hG.at 5 rfl) (by omega)).mono ?_
  rintro e5 w5 (⟨h,_⟩|⟨_,ub,um,ud,hR⟩)
  ·exact absurd hrb h
  refine⟨_,_,_,hR,?_⟩
  have e9:((Sx.valOf kz (withinC (x.P 2).L kz (snapL (x.P 2)))).n==0||(Sx.valOf ky (withinC (x.P 2).L ky (snapL (x.P 2)))).n==1)=true:=by rcases hend with h|h <;> simp[h]
  try simp only[aQ]
  refine Ym (Rds 5 8++[.wr 8 [] 0,.wr 9 (hnO 1 4) 0,zR 10]) [231,230,227,228,229] (fun nu2=>[zV 13 .nilIface,zP 29 (nu2 0)]) o0 (fun nu2=>[(nu2 0,.cells #[nI ((Sx.valOf kz (withinC (x.P 2).L kz (snapL (x.P 2)))).kind),.string ((Sx.valOf kz (withinC (x.P 2).L kz (snapL (x.P 2)))).text),nI ((Sx.valOf kz (withinC (x.P 2).L kz (snapL (x.P 2)))).n),.slice ub um ud] 64 (0,0))]) [] (fun nu2=>?_)
  try simp only[aQ]
  refine JR_end ?_
  try simp only[aQ]
  refine J_seq ?_
  try simp only[aQ]
  refine Za (Rds 0 8++[.rd 8 [.o 1 none] 0 0,zR 9,zR 10,.rd 11 [] 2 0,.rd 12 [.o 0 none] 2 0,.rd 13 [] 2 0,.rd 14 [] 0 3,zR 15,zR 16]) [13,29,11,28] [zB 8 ((Sx.valOf kz (withinC (x.P 2).L kz (snapL (x.P 2)))).n==0||(Sx.valOf ky (withinC (x.P 2).L ky (snapL (x.P 2)))).n==1)] ?_
  try simp only[aQ]
  refine Yr [[]] (.bool ((Sx.valOf kz (withinC (x.P 2).L kz (snapL (x.P 2)))).n==0||(Sx.valOf ky (withinC (x.P 2).L ky (snapL (x.P 2)))).n==1)) fun a w s=>?_
  rw[e9]
  exact s.retz (by simp) [] [] rfl rfl
end Go.Proofs.YtmkapocibaojdaaGreatDoor
end
section
namespace Go.Proofs.YtmkapocibaojdaaGreatDoor
open Go Go.Sx
set_option maxHeartbeats 8000000 in
theorem causeMid {w0:World} {S0:Nat→Prop} {er:Nat→Addr} {eb:Nat→Array Value×TypeId} {sh:Nat} {ta:Option Addr} {tc:Nat} {pick:List Int} {ky kz:ByteArray} {all:List MsgT} {x:Net} {qb zb k cv:Nat} {av:Option Addr} (hw:CauseA sh (comA sh ky) all x 2 0) (hl:all.length≤72) (hne:ky≠kz) (ha:nameOk ky=true) (hb:nameOk kz=true) (hp60:pick.length≤60) :
  J Tryz.prog Tryz.f5 (retR Tryz.prog Tryz.f5 fun e w'=>Ret [] (zero w0) S0 w' e (.bool true) [] []) Tryz.f5.ntmps [.c (.rg 13 false),.c (.block 0 (.loop (.seq (.seq (.rg 14 false) (.cond (.tmp 118) .skip (.exit 0))) (.seq (.block 1 (.seq (.rg 16 false) (.cond (.tmp 126) (.seq (.rg 17 false) (.seq (.rg 18 false) (.cond (.tmp 137) (.seq (.rg 19 false) .ret) .skip))) .skip))) (.rg 15 false))))),.c (.seq (.rg 20 false) (.seq (.seq (.rg 21 false) (.cond (.tmp 152) (.seq (.rg 22 false) .ret) .skip)) (.seq (.rg 23 false) (.seq (.seq (.rg 24 false) (.cond (.tmp 165) (.seq (.rg 25 false) .ret) .skip)) (.seq (.rg 26 false) (.seq (.rg 27 false) (.seq (.seq (.rg 28 false) (.block 2 (.loop (.seq (.seq (.rg 29 false) (.cond (.tmp 176) .skip (.exit 2))) (.seq (.block 3 (.seq (.seq (.rg 31 false) (.cond (.tmp 203) (.exit 3) .skip)) (.seq (.rg 32 false) (.seq (.rg 33 false) (.cond (.tmp 217) (.seq (.rg 34 false) .ret) .skip))))) (.rg 30 false)))))) (.seq (.rg 35 false) (.seq (.rg 36 false) (.seq (.rg 37 false) .ret))))))))))] [(1,.val (.string ky)),(2,.val (.string kz)),(3,.val (.slice ta pick.length tc)),(8,.val (.bool false)),(12,.val (.pointer (some ⟨qb,0,none⟩))),(14,.val (.pointer (some ⟨zb,0,none⟩))),(17,.val (.slice av k cv))] [] [] [([],zero w0)] ⟨newS S0 [] w0,[cPlace qb (x.P 1),cPlace zb (x.P 2),cAcc (.slice av k cv) 62 9 (all.map eMsg)],[(.nilIface,dC er eb),(.slice ta pick.length tc,dInts pick)]⟩:=by
 refine J_stpx (stp_acclen 2 rfl) fun _ hkl=>?_
 rw[List.length_map]at hkl
 subst hkl
 refine Za [zR 0] [] [zI 19 0] ?_
 refine J_block ?_
 refine J_loopx (fun z:NetS=>[zV 1 (.string ky),zV 2 (.string kz),zS 3 ta pick.length tc,zB 8 false,zP 12 qb,zP 14 zb,zS 17 av all.length cv,zI 19 z.i]) (fun z:NetS=>[]) (fun z:NetS=>[cPlace qb (z.x.P 1),cPlace zb (z.x.P 2),cAcc (.slice av all.length cv) 62 9 (all.map eMsg)]) (fun z:NetS=>[(.nilIface,(dC er eb)),(.slice ta pick.length tc,(dInts pick))]) (fun z:NetS=>(all.length - z.i).toNat) (fun z:NetS=>(0≤z.i∧z.i≤all.length∧CauseA sh (comA sh ky) all z.x (2+z.i.toNat) z.i.toNat)) ⟨0,x⟩ [1,2,3,8,12,14,17,19] [] [0,1,2] [0,1] ?_ (by kernel_rfl) rfl rfl rfl ?_
 ·exact⟨by simp,by simp,hw⟩
 clear hw
 rintro⟨i,x⟩ ⟨hi0,hi,hw⟩
 dsimp only at hi0 hi hw ⊢
 refine J_seq ?_
 refine Zs (Rds 0 4) [] [zB 118 (decide (i<(↑all.length:Int)))] ?_
 refine cC (t:=decide (i<(↑all.length:Int))) (fun hlt=>?_) (fun hlt=>?_)
 ·have hlt2:i<all.length:=of_decide_eq_true hlt
  have hi1:(i+1).toNat=i.toNat+1:=by omega
  obtain⟨m,hm⟩:∃m,all[i.toNat]?=some m:=⟨_,List.getElem?_eq_getElem (by omega)⟩
  refine J_openacc 2 rfl (by intro h0;rw[List.map_eq_nil_iff]at h0;rw[h0]at hm;simp at hm) fun g cur xs hu _ _ hrow=>?_
  subst hu
  refine J_stpx (stp_readrows 2 rfl i.toNat (map_at hm)) fun ls hls=>?_
  obtain⟨hls1,hls2⟩:=hls
  obtain⟨⟨xa,xc⟩,⟨ya,yc⟩,rfl⟩:∃l0 l1,ls=[l0,l1]:=len2 hls1
  have f:=fun(j:Nat) v h=>hrow.atx (hls2 j v h)
  have r0:cur[0+i.toNat*9]?=some (.int .i64 m.fm):=by rw[Nat.zero_add];exact f 0 _ rfl
  have r1:cur[0+i.toNat*9+1]?=some (.int .i64 m.to):=by rw[Nat.zero_add];exact f 1 _ rfl
  have r2:cur[0+i.toNat*9+2]?=some (.int .i64 m.shard):=by rw[Nat.zero_add];exact f 2 _ rfl
  have r3:cur[0+i.toNat*9+3]?=some (.int .i64 m.seq):=by rw[Nat.zero_add];exact f 3 _ rfl
  have r4:cur[0+i.toNat*9+4]?=some (.int .i64 m.time):=by rw[Nat.zero_add];exact f 4 _ rfl
  have r5:cur[0+i.toNat*9+5]?=some (.bool m.beat):=by rw[Nat.zero_add];exact f 5 _ rfl
  have r6:cur[0+i.toNat*9+6]?=some (.slice xa (m.c.when.map eI).length xc):=by rw[Nat.zero_add];exact f 6 _ rfl
  have r7:cur[0+i.toNat*9+7]?=some (.int .i64 m.c.place):=by rw[Nat.zero_add];exact f 7 _ rfl
  have r8:cur[0+i.toNat*9+8]?=some (.slice ya (m.c.ops.map eOp).length yc):=by rw[Nat.zero_add];exact f 8 _ rfl
  have hml:(List.map eMsg all).length=all.length:=List.length_map ..
  by_cases hto:m.to=1
  case neg=>
   try simp only[aQ]
   refine J_skip ?_
   try simp only[aQ]
   refine J_seq ?_
   try simp only[aQ]
   refine J_block ?_
   try simp only[aQ]
   refine J_seq ?_
   try simp only[aQ]
   refine Zp [zR 0,zR 1,.rd 2 [] 0 2,zR 3,.rd 4 [.o 0 (some (nI m.to))] 0 0,.rd 5 [] 0 7] [118] [zB 126 false] (oC hi0 (oC hlt2 (oC r1 (oC (show(m.to==(1:Int))=false from by simp;omega) oN)))) ?_
   try simp only[aQ]
   refine cF ?_
   try simp only[aQ]
   refine J_skip ?_
   try simp only[aQ]
   refine J_eb ?_
   try simp only[aQ]
   refine J_hide 0 rfl ?_
   refine J_stp (stp_closeacc 3 2 rfl rfl hrow (by decide)) ?_
   rw[hml]
   refine Nm [(cPlace qb (x.P 1)),(cPlace zb (x.P 2)),cAcc (.slice (sA g 0) all.length cv) 62 9 (List.map eMsg all)] ?_
   refine Zp [zR 0,.rd 1 [] 0 1,zR 2] [126] [zI 19 (i+1)] (oC (show IntKind.i64.wrap (i+1)=i+1 from wrap_i64 (by omega) (by omega)) oN) ?_
   refine J_backx ⟨i+1,x⟩ [1,2,3,8,12,14,17,19] [] [0,1,2] [0,1] ?_ ?_ (by kernel_rfl) rfl rfl rfl
   ·refine⟨by simp only;omega,by simp only;omega,?_⟩
    dsimp only
    rw[hi1]
    have h:=hw.skip hm hto
    exact⟨h.sys.mono (by omega),h.memAll,h.K0,h.K1,h.K2,h.even,h.came⟩
   ·simp only
    omega
  obtain⟨hw2,he0,hfit,hsq1,hsq2⟩:=hw.hear hm hto
  try simp only[aQ]
  refine J_skip ?_
  try simp only[aQ]
  refine J_seq ?_
  try simp only[aQ]
  refine J_block ?_
  try simp only[aQ]
  refine J_seq ?_
  try simp only[aQ]
  refine Zp [zR 0,zR 1,.rd 2 [] 0 2,zR 3,.rd 4 [.o 0 (some (nI m.to))] 0 0,.rd 5 [] 0 6] [118] [zB 126 true] (oC hi0 (oC hlt2 (oC r1 (oC (show(m.to==(1:Int))=true from by simp;omega) oN)))) ?_
  try simp only[aQ]
  refine cTt ?_
  try simp only[aQ]
  refine J_seq ?_
  try simp only[aQ]
  refine jT [(0,true),(1,true),(2,true),(3,true),(4,true),(5,false),(6,true),(7,true),(8,true),(9,true),(10,true)] [] ?_
  refine Yp (Rds 0 3++[.rd 3 [] 0 2,.rd 4 [.o 0 (some (nI m.fm)),.o 0 (some (nI m.to)),.o 0 (some (nI m.shard)),.o 0 (some (nI m.seq)),.o 0 (some (nI m.time)),.o 0 (some (.bool m.beat)),.o 0 (some (.slice xa ((List.map eI m.c.when).length) xc)),.o 0 (some (nI m.c.place)),.o 0 (some (.slice ya ((List.map eOp m.c.ops).length) yc))] 0 0]) [126] [zP 128 qb,zV 132 (.agg #[nI m.fm,nI m.to,nI m.shard,nI m.seq,nI m.time,.bool m.beat,.slice xa ((List.map eI m.c.when).length) xc,nI m.c.place,.slice ya ((List.map eOp m.c.ops).length) yc])] (oC hi0 (oC hlt2 (oC r0 (oC r1 (oC r2 (oC r3 (oC r4 (oC r5 (oC r6 (oC r7 (oC r8 oN))))))))))) ?_
  refine JR_call [] [0] 24 #[.pointer (some (⟨qb,0,none⟩)),.agg #[.int .i64 m.fm,.int .i64 m.to,.int .i64 m.shard,.int .i64 m.seq,.int .i64 m.time,.bool m.beat,.slice xa ((List.map eI m.c.when).length) xc,.int .i64 m.c.place,.slice ya ((List.map eOp m.c.ops).length) yc]] (some 133) (by kernel_rfl) (by kernel_rfl) (by decide) (fun w S M hP hG _=>?_)
  refine(placeHear (m:=m) (n:=2+i.toNat) (hG.at 0 rfl) hP (hw.sys.net.pin 1 (by decide)) (by omega) (hG.at 2 rfl) (hG.at 3 rfl) hfit (by omega)).mono ?_
  rintro e1 w1 ⟨ua,un,uc,v,hR,hv⟩
  rw[he0]at hv
  obtain⟨_,rfl⟩|⟨h,_⟩:=hv
  case inr=>exact absurd rfl h
  rw[show cPlace qb (hearPl (x.P 1) m).2.2=cPlace qb ((x.setP 1 (hearPl (x.P 1) m).2.2).P 1)by rw[setP_at]]at hR
  refine⟨_,_,_,hR,?_⟩
  try simp only[aQ]
  refine Ya (Rds 6 11) [133,128,132] [zV 21 .nilIface] ?_
  try simp only[aQ]
  refine JR_end ?_
  try simp only[aQ]
  refine J_seq ?_
  try simp only[aQ]
  refine Za [zR 0,zR 1] [] [zB 137 false] ?_
  try simp only[aQ]
  refine cF ?_
  try simp only[aQ]
  refine J_skip ?_
  try simp only[aQ]
  refine J_eb ?_
  try simp only[aQ]
  refine J_hide 0 rfl ?_
  refine J_stp (stp_closeacc 3 1 rfl rfl hrow (by decide)) ?_
  rw[hml]
  rw[show cPlace zb (x.P 2)=cPlace zb ((x.setP 1 (hearPl (x.P 1) m).2.2).P 2)by rw[setP_ne _ _ (by decide)]]
  refine Nm [(cPlace zb ((x.setP 1 (hearPl (x.P 1) m).snd.snd).P 2)),(cPlace qb ((x.setP 1 (hearPl (x.P 1) m).snd.snd).P 1)),cAcc (.slice (sA g 0) all.length cv) 62 9 (List.map eMsg all)] ?_
  refine Zp [zR 0,.rd 1 [] 0 1,zR 2] [137] [zI 19 (i+1)] (oC (show IntKind.i64.wrap (i+1)=i+1 from wrap_i64 (by omega) (by omega)) oN) ?_
  refine J_backx ⟨i+1,x.setP 1 (hearPl (x.P 1) m).2.2⟩ [1,2,3,8,12,14,17,19] [] [1,0,2] [0,1] ?_ ?_ (by kernel_rfl) rfl rfl rfl
  ·refine⟨by simp only;omega,by simp only;omega,?_⟩
   dsimp only
   rw[hi1]
   exact hw2
  ·simp only
   omega
 have hie:i.toNat=all.length:=by have:=of_decide_eq_false hlt;omega
 rw[hie]at hw
 have hpl:=(hw.sys.net.pin 1 (by decide)).mono (show 2+all.length≤90 by omega)
 have hp3:=(hw.sys.net.pid 1 (by decide)).2.1
 have hsl:=snapL_len (x.P 1)
 have hra:=readK_snap hpl.toPlOk (hw.sys.net.base 1 (by decide) 1 (by decide)) ha
 have hone:=hw.read
 obtain⟨hcf,hB⟩:=hw.com (b:=kz) (by omega) hb
 have hx1:=(hB.sys.net.pin 1 (by decide)).mono (show 2+all.length+2≤90 by omega)
 refine J_exit rfl ?_
 refine jS [(0,true),(1,true),(2,true),(3,false),(4,false),(5,true),(6,true),(7,true),(8,false),(9,false),(10,true)] [] ?_
 refine Ya (Rds 0 3) [118,19] [zP 139 qb,zV 140 (.string ky),zP 141 qb] ?_
 refine JR_call [] [0] 19 #[.pointer (some (⟨qb,0,none⟩))] (some 142) (by kernel_rfl) (by kernel_rfl) (by decide) (fun w S M hP hG _=>?_)
 refine(placeSnapshot hP hpl.toPlOk).mono ?_
 rintro e1 w1 ⟨a3,n3,c3,hR⟩
 refine⟨_,_,_,hR,?_⟩
 try simp only[aQ]
 refine JR_callz [] [2] 25 #[.pointer (some (⟨qb,0,none⟩)),.string ky,.slice a3 n3 c3] (some 143) zero_all (by kernel_rfl) (by kernel_rfl) (by decide) (fun w S M hP hG _=>?_)
 refine(placeRead (n:=90) (at':=snapL (x.P 1)) (key:=ky) (hG.at 0 rfl) hP hpl (by omega) (hG.at 2 rfl) (by omega)).mono ?_
 rintro e3 w3 (⟨h,_⟩|⟨_,ua,un,uc,hR⟩)
 ·exact absurd hra h
 refine⟨_,_,_,hR,?_⟩
 try simp only[aQ]
 refine Ym (Rds 5 8++[.wr 8 [] 0,.wr 9 (hnO 0 4) 0,zR 10]) [143,142,139,140,141] (fun nu1=>[zV 18 .nilIface,zP 22 (nu1 0)]) o0 (fun nu1=>[(nu1 0,.cells #[nI ((Sx.valOf ky (withinC (x.P 1).L ky (snapL (x.P 1)))).kind),.string ((Sx.valOf ky (withinC (x.P 1).L ky (snapL (x.P 1)))).text),nI ((Sx.valOf ky (withinC (x.P 1).L ky (snapL (x.P 1)))).n),.slice ua un uc] 64 (0,0))]) [] (fun nu1=>?_)
 try simp only[aQ]
 refine JR_end ?_
 try simp only[aQ]
 refine J_seq ?_
 try simp only[aQ]
 refine J_seq ?_
 try simp only[aQ]
 refine Zp (Rds 0 4++[.rd 4 [.o 0 none] 0 0,.rd 5 [] 0 7,zR 6]) [22] [zB 152 false] (oC (show((Sx.valOf ky (withinC (x.P (1:Nat)).L ky (snapL (x.P (1:Nat))))).n != (1:Int))=false from by simp;omega) oN) ?_
 try simp only[aQ]
 refine cF ?_
 try simp only[aQ]
 refine J_skip ?_
 try simp only[aQ]
 refine J_seq ?_
 try simp only[aQ]
 refine Nm [(cPlace zb (x.P 2)),cAcc (.slice av all.length cv) 62 9 (List.map eMsg all),(cPlace qb (x.P 1))] ?_
 refine jT [(0,true),(1,true),(2,false),(3,true),(4,true),(5,false),(6,false),(7,true),(8,true),(9,true),(10,true),(11,false),(12,false),(13,true),(14,true)] [] ?_
 refine Ya [zR 0,zR 1] [152] [zP 154 qb,zP 155 qb] ?_
 refine JR_call [] [2] 19 #[.pointer (some (⟨qb,0,none⟩))] (some 156) (by kernel_rfl) (by kernel_rfl) (by decide) (fun w S M hP hG _=>?_)
 refine(placeSnapshot hP hpl.toPlOk).mono ?_
 rintro e4 w4 ⟨a5,n5,c5,hR⟩
 refine⟨_,_,_,hR,?_⟩
 try simp only[aQ]
 refine Ym [zR 3,zR 4,.wr 5 [] 0] [155] (fun nu2=>[zS 159 (sA (nu2 0) 0) 1 1]) o0 (fun nu2=>[(nu2 0,.cells #[nI 0,.string kz,nI 2,.string (ByteArray.mk #[]),nI 1,.bool false,.slice none 0 0] 55 (0,0))]) [] (fun nu2=>?_)
 try simp only[aQ]
 refine JR_data (size:=7) 1 eOp [cOp kz] 1 rfl (by kernel_rfl) (by decide) (by intro x _;rfl) (by simp) ⟨.inl ⟨rfl,rfl⟩,⟨.inl ⟨rfl,rfl⟩,⟨.inl ⟨rfl,rfl⟩,⟨.inl ⟨rfl,rfl⟩,⟨.inl ⟨rfl,rfl⟩,⟨.inl ⟨rfl,rfl⟩,⟨.inr (.inr ⟨_,_,_,rfl,rfl⟩),trivial⟩⟩⟩⟩⟩⟩⟩ ?_
 refine JR_call [] [2] 22 #[.pointer (some (⟨qb,0,none⟩)),.slice a5 n5 c5,.slice (some (⟨nu2 0,0,none⟩)) 1 1] (some 160) (by kernel_rfl) (by kernel_rfl) (by decide) (fun w S M hP hG _=>?_)
 refine(placeCommit (n:=90) (x:=x.P 1) (at':=snapL (x.P 1)) (ops:=[cOp kz]) (hG.at 0 rfl) hP hpl (by decide) (hG.at 4 rfl) (hG.at 5 rfl) (by omega) (by simp) one_dots).mono ?_
 rintro e5 w5 (⟨h,_⟩|⟨_,u1,m1,d1,u2,m2,d2,u3,m3,d3,hR⟩)
 ·exact absurd hcf h
 refine⟨_,_,_,hR,?_⟩
 try simp only[aQ]
 refine Ym (Rds 7 11++[.wr 11 [] 0,.wr 12 (hnO 1 3) 0,zR 13,zR 14]) [160,159,156,154] (fun nu3=>[zS 24 u3 m3 d3]) o0 (fun nu3=>[(nu3 0,.cells #[.slice u1 m1 d1,nI ((↑(x.P 1).id:Int)),.slice u2 m2 d2] 35 (0,0))]) [] (fun nu3=>?_)
 try simp only[aQ]
 refine JR_end ?_
 try simp only[aQ]
 refine J_seq ?_
 try simp only[aQ]
 refine J_seq ?_
 try simp only[aQ]
 refine Za [zR 0,zR 1] [18] [zB 165 false] ?_
 try simp only[aQ]
 refine cF ?_
 try simp only[aQ]
 refine J_skip ?_
 try simp only[aQ]
 refine J_seq ?_
 try simp only[aQ]
 refine J_stpx (stp_replen 8 rfl) fun _ hm3=>?_
 rw[List.length_map]at hm3
 have hl1:=comMs_len (x.P 1) (comP (x.P 1) (snapL (x.P 1)) [cOp kz])
 have hl2:=hpl.ssl.2
 have hx2:=com_in hpl hcf one_dots
 have hl3:=beatMs_len hx2
 refine Nm [(cPlace zb (x.P 2)),cAcc (.slice av all.length cv) 62 9 (List.map eMsg all),(cPlace qb (comPl (x.P 1) (comP (x.P 1) (snapL (x.P 1)) [cOp kz])))] ?_
 refine jT [(0,true),(1,true),(2,false),(3,true)] [] ?_
 refine Ya [zR 0,zR 1] [165,24] [zS 166 av all.length cv,zS 167 u3 m3 d3] ?_
 refine JR_appm 1 56 62 9 104 (.agg #[.int .i64 0,.int .i64 0,.int .i64 0,.int .i64 0,.int .i64 0,.bool false,.slice none 0 0,.int .i64 0,.slice none 0 0]) (a0:=av) (len:=all.length) (cap0:=cv) (ax:=u3) (m:=m3) (c:=d3) (dst:=(some 168)) (comMs (x.P 1) (comP (x.P 1) (snapL (x.P 1)) [cOp kz])) (by kernel_rfl) (by kernel_rfl) (by kernel_rfl) (by kernel_rfl) rfl (by decide) rfl (fun _ _ _ s=>src_fact s 8 rfl (by decide)) (by simp only[maxLen];omega) (by omega) (fun av1 cv1=>?_)
 try simp only[aQ]
 refine Ya [zR 3] [168,166,167] [zS 17 av1 (all.length+m3) cv1] ?_
 try simp only[aQ]
 refine JR_end ?_
 try simp only[aQ]
 refine J_seq ?_
 try simp only[aQ]
 refine Nm [(cPlace zb (x.P 2)),(cPlace qb (comPl (x.P 1) (comP (x.P 1) (snapL (x.P 1)) [cOp kz]))),cAcc (.slice av1 (all.length+m3) cv1) 62 9 (List.map eMsg (all++comMs (x.P 1) (comP (x.P 1) (snapL (x.P 1)) [cOp kz])))] ?_
 refine jT [(0,true),(1,true),(2,false),(3,false),(4,true)] [] ?_
 refine Ya [zR 0,zR 1] [12] [zS 169 av1 (all.length+m3) cv1,zP 170 qb] ?_
 refine JR_call [] [1] 23 #[.pointer (some (⟨qb,0,none⟩))] (some 171) (by kernel_rfl) (by kernel_rfl) (by decide) (fun w S M hP hG _=>?_)
 refine(placeBeat (n:=91) (x:=comPl (x.P 1) (comP (x.P 1) (snapL (x.P 1)) [cOp kz])) (hG.at 0 rfl) hP hx2 (by decide)).mono ?_
 rintro e8 w8 ⟨u4,d4,hR⟩
 refine⟨_,_,_,hR,?_⟩
 try simp only[aQ]
 refine JR_appm 1 56 62 9 104 (.agg #[.int .i64 0,.int .i64 0,.int .i64 0,.int .i64 0,.int .i64 0,.bool false,.slice none 0 0,.int .i64 0,.slice none 0 0]) (a0:=av1) (len:=all.length+m3) (cap0:=cv1) (ax:=u4) (m:=(beatMs (comPl (x.P 1) (comP (x.P 1) (snapL (x.P 1)) [cOp kz]))).length) (c:=d4) (dst:=(some 172)) (beatMs (comPl (x.P 1) (comP (x.P 1) (snapL (x.P 1)) [cOp kz]))) (by kernel_rfl) (by kernel_rfl) (by kernel_rfl) (by kernel_rfl) rfl (by decide) rfl (fun _ _ _ s=>src_fact s 9 rfl (by decide)) (by simp only[maxLen];omega) (by omega) (fun av2 cv2=>?_)
 try simp only[aQ]
 refine Ya [zR 4] [172,171,169,170] [zS 17 av2 (all.length+m3+(beatMs (comPl (x.P 1) (comP (x.P 1) (snapL (x.P 1)) [cOp kz]))).length) cv2] ?_
 try simp only[aQ]
 refine JR_end ?_
 try simp only[aQ]
 refine J_seq ?_
 try simp only[aQ]
 refine J_seq ?_
 try simp only[aQ]
 refine J_stp (stp_freeze 2 rfl) ?_
 refine Nm [(cPlace zb (x.P 2)),(cPlace qb (beatPl (comPl (x.P 1) (comP (x.P 1) (snapL (x.P 1)) [cOp kz]))))] ?_
 have hin:inL (comA sh ky).when (comP (x.P 1) (snapL (x.P 1)) [cOp kz]).when=true:=by
  show inL _ ((snapL (x.P 1)).set (x.P 1).id ((x.P 1).clock+1))=true
  rw[(hw.sys.net.pid 1 (by decide)).1]
  exact hw.in.2
 refine J_cut (E':=[zV 1 (.string ky),zV 2 (.string kz),zS 3 ta pick.length tc,zB 8 false,zV 14 (.pointer (some ⟨zb,0,none⟩)),zS 17 av2 (all.length+m3+(beatMs (comPl (x.P 1) (comP (x.P 1) (snapL (x.P 1)) [cOp kz]))).length) cv2]) (h':=[]) (C':=[_]) (G':=[_,_,_]) [1,2,3,8,14,17] [] [0] [0,1,10] (by kernel_rfl) rfl rfl rfl ?_
 exact causeTail (x:=netBeat (netCom x sh 1 (comP (x.P 1) (snapL (x.P 1)) [cOp kz])) 1) hB (show 2+all.length+2≤500 by omega) hin hne ha hb hp60
end Go.Proofs.YtmkapocibaojdaaGreatDoor
end
section
namespace Go.Proofs.YtmkapocibaojdaaGreatDoor
open Go Go.Sx
set_option maxHeartbeats 8000000 in
theorem placeCause {w:World} {S:Nat→Prop} {er:Nat→Addr} {eb:Nat→Array Value×TypeId} {sh:Int} {ta:Option Addr} {tn tc:Nat} {ky kz:ByteArray} {pick:List Int} (hC:Rep w S .nilIface (dC er eb)) (h2:Rep w S (.slice ta tn tc) (dInts pick)) :
  Calls Tryz.prog 5 #[.int .i64 sh,.string ky,.string kz,.slice ta tn tc] w fun e w'=>Ret [] (zero w) S w' e (.bool true) [] []:=by
 obtain rfl:=rep_ints_len h2
 refine epG Tryz.func5 bd5 (args:=[.int .i64 sh,.string ky,.string kz,.slice ta pick.length tc]) (S:=S) (G:=[(_,dC er eb),(_,dInts pick)]) (by kernel_rfl) (.cons hC (.cons h2 (.nil _ _))) ?_
 refine J_zero ?_
 refine Zs [zR 0] [] [zB 8 false] ?_
 refine jS [(0,false),(1,true)] [] ?_
 refine Yc 11 #[] (some 30) fun w S hG=>?_
 refine(placed (hG.at 0 rfl)).mono ?_
 rintro e1 w1 hR
 refine⟨_,_,_,hR,?_⟩
 by_cases hs1:1≤sh
 case neg=>
  try simp only[aQ]
  refine Ya [zR 1] [30] [zB 9 true] ?_
  refine JR_end (J_seq ?_)
  refine Zt (Rds 0 4++[.rd 4 [] 0 6,zR 5,zR 6,.rd 7 [] 1 0,.rd 8 [] 1 0,zR 9,zR 10,.rd 11 [] 1 0,.rd 12 [] 1 0,.rd 13 [] 1 0,zR 14,zR 15,.rd 16 [] 1 0,.wr 17 [] 1,.rd 18 [] 1 0,zR 19,zR 20,.rd 21 [] 1 0,.wr 22 [] 1,.rd 23 [] 1 0,zR 24,zR 25,.rd 26 [] 1 0,.rd 27 [] 1 0,.rd 28 [] 1 0,zR 29]) [] [zB 60 true] (oC (show decide (sh<(1:Int))=true from by simp;omega) oN) ?_
  refine cTt ?_
  refine Zs [zR 0,zR 1] [60,9] [zB 8 true] ?_
  refine Yr [[]] (.bool true) fun a w s=>?_
  exact s.retz (by simp) [] [] rfl rfl
 by_cases hs6:sh≤6
 case neg=>
  try simp only[aQ]
  refine Ya [zR 1] [30] [zB 9 true] ?_
  refine JR_end (J_seq ?_)
  refine Zt (Rds 0 4++[.rd 4 [] 0 7]++Rds 5 8++[.rd 8 [] 0 6,zR 9,zR 10,.rd 11 [] 1 0,.rd 12 [] 1 0,.rd 13 [] 1 0,zR 14,zR 15,.rd 16 [] 1 0,.wr 17 [] 1,.rd 18 [] 1 0,zR 19,zR 20,.rd 21 [] 1 0,.wr 22 [] 1,.rd 23 [] 1 0,zR 24,zR 25,.rd 26 [] 1 0,.rd 27 [] 1 0,.rd 28 [] 1 0,zR 29]) [] [zB 60 true] (oC (show decide (sh<(1:Int))=false from by simp;omega) (oC (show decide (sh>(6:Int))=true from by simp;omega) oN)) ?_
  refine cTt ?_
  refine Zs [zR 0,zR 1] [60,9] [zB 8 true] ?_
  refine Yr [[]] (.bool true) fun a w s=>?_
  exact s.retz (by simp) [] [] rfl rfl
 by_cases hp60:pick.length≤60
 case neg=>
  try simp only[aQ]
  refine Ya [zR 1] [30] [zB 9 true] ?_
  refine JR_end (J_seq ?_)
  refine Zt (Rds 0 4++[.rd 4 [] 0 7]++Rds 5 8++[.rd 8 [] 0 7]++Rds 9 13++[.rd 13 [] 0 6,zR 14,zR 15,.rd 16 [] 1 0,.wr 17 [] 1,.rd 18 [] 1 0,zR 19,zR 20,.rd 21 [] 1 0,.wr 22 [] 1,.rd 23 [] 1 0,zR 24,zR 25,.rd 26 [] 1 0,.rd 27 [] 1 0,.rd 28 [] 1 0,zR 29]) [] [zB 60 true] (oC (show decide (sh<(1:Int))=false from by simp;omega) (oC (show decide (sh>(6:Int))=false from by simp;omega) (oC (show decide ((↑pick.length:Int)>(60:Int))=true from by simp;omega) oN))) ?_
  refine cTt ?_
  refine Zs [zR 0,zR 1] [60,9] [zB 8 true] ?_
  refine Yr [[]] (.bool true) fun a w s=>?_
  exact s.retz (by simp) [] [] rfl rfl
 try simp only[aQ]
 refine Ya [zR 1] [30] [zB 9 true] ?_
 refine JR_end (J_seq ?_)
 refine jS [(0,true),(1,true),(2,true),(3,true),(4,true),(5,true),(6,true),(7,true),(8,true),(9,true),(10,true),(11,true),(12,true),(13,true),(14,true),(15,true),(16,true),(17,false),(18,true),(19,true),(20,true),(21,true),(22,false),(23,true),(24,true),(25,true),(26,true),(27,true),(28,true),(29,true)] [] ?_
 refine Yp (Rds 0 4++[.rd 4 [] 0 7]++Rds 5 8++[.rd 8 [] 0 7]++Rds 9 13++[.rd 13 [] 0 7]++Rds 14 17) [] [zB 46 false,zV 47 (.string ky)] (oC (show decide (sh<(1:Int))=false from by simp;omega) (oC (show decide (sh>(6:Int))=false from by simp;omega) (oC (show decide ((↑pick.length:Int)>(60:Int))=false from by simp;omega) oN))) ?_
 refine Yc 21 #[.string ky] (some 48) fun w S hG=>?_
 refine(isName (S:=S)).mono ?_
 rintro e2 w2 hR
 refine⟨_,_,_,hR,?_⟩
 cases hka:nameOk ky with
 | false=>
  try simp only[aQ]
  refine Ya (Rds 18 21++[.rd 21 [] 1 0,.wr 22 [] 1,.rd 23 [] 1 0,zR 24,zR 25,.rd 26 [] 1 0,.rd 27 [] 1 0,.rd 28 [] 1 0,zR 29]) [48,46,47] [zB 60 true] ?_
  refine JR_end ?_
  refine cTt ?_
  refine Zs [zR 0,zR 1] [60,9] [zB 8 true] ?_
  refine Yr [[]] (.bool true) fun a w s=>?_
  exact s.retz (by simp) [] [] rfl rfl
 | true=>
 try simp only[aQ]
 refine Ya (Rds 18 22) [48,46,47] [zB 51 false,zV 52 (.string kz)] ?_
 refine Yc 21 #[.string kz] (some 53) fun w S hG=>?_
 refine(isName (S:=S)).mono ?_
 rintro e3 w3 hR
 refine⟨_,_,_,hR,?_⟩
 cases hkb:nameOk kz with
 | false=>
  try simp only[aQ]
  refine Ya (Rds 23 26++[.rd 26 [] 1 0,.rd 27 [] 1 0,.rd 28 [] 1 0,zR 29]) [53,51,52] [zB 60 true] ?_
  refine JR_end ?_
  refine cTt ?_
  refine Zs [zR 0,zR 1] [60,9] [zB 8 true] ?_
  refine Yr [[]] (.bool true) fun a w s=>?_
  exact s.retz (by simp) [] [] rfl rfl
 | true=>
 cases hab:(ky.toList==kz.toList)with
 | true=>
  try simp only[aQ]
  refine Yp (Rds 23 28++[.rd 28 [] 0 6,zR 29]) [53,51,52] [zB 60 true] (oC (show(ky.toList==kz.toList)=true from by assumption) oN) ?_
  refine JR_end ?_
  refine cTt ?_
  refine Zs [zR 0,zR 1] [60,9] [zB 8 true] ?_
  refine Yr [[]] (.bool true) fun a w s=>?_
  exact s.retz (by simp) [] [] rfl rfl
 | false=>
 have hne:ky≠kz:=fun h=>by
  subst h
  simp at hab
 obtain⟨sh,rfl⟩:∃n:Nat,sh=n:=⟨sh.toNat,by omega⟩
 try simp only[aQ]
 refine Yp (Rds 23 28++[.rd 28 [] 0 7,zR 29]) [53,51,52] [zB 60 false] (oC (show(ky.toList==kz.toList)=false from by assumption) oN) ?_
 refine JR_end ?_
 refine cF ?_
 refine J_skip ?_
 refine jS [(0,true),(1,false),(2,true),(3,true),(4,true),(5,true),(6,true)] [] ?_
 refine Ya [zR 0] [60,9] [zI 63 (↑sh:Int)] ?_
 refine Yc 12 #[nI 0,nI 3,nI (↑sh:Int)] (some 64) fun w S hG=>?_
 refine(placeNew (id:=0) (places:=3) (shards:=sh) (hG.at 0 rfl)).mono ?_
 rintro e4 w4 (⟨h,_⟩|⟨_,pb,hR⟩)
 ·exact absurd (by omega) h
 refine⟨_,_,_,hR,?_⟩
 rw[show newP (0:Int).toNat (3:Int).toNat (sh:Int).toNat=newP 0 3 sh from rfl]
 try simp only[aQ]
 refine Ya (Rds 2 7) [64,63] [zP 10 pb,zV 11 .nilIface] ?_
 refine JR_end ?_
 refine jS [(0,true),(1,false),(2,true),(3,true),(4,true),(5,true),(6,true)] [] ?_
 refine Ya [zR 0] [] [zI 68 (↑sh:Int)] ?_
 refine Yc 12 #[nI 1,nI 3,nI (↑sh:Int)] (some 69) fun w S hG=>?_
 refine(placeNew (id:=1) (places:=3) (shards:=sh) (hG.at 0 rfl)).mono ?_
 rintro e5 w5 (⟨h,_⟩|⟨_,qb,hR⟩)
 ·exact absurd (by omega) h
 refine⟨_,_,_,hR,?_⟩
 rw[show newP (1:Int).toNat (3:Int).toNat (sh:Int).toNat=newP 1 3 sh from rfl]
 try simp only[aQ]
 refine Ya (Rds 2 7) [69,68] [zP 12 qb,zV 13 .nilIface] ?_
 refine JR_end ?_
 refine jS [(0,true),(1,false),(2,true),(3,true),(4,true),(5,true),(6,true)] [] ?_
 refine Ya [zR 0] [0] [zI 73 (↑sh:Int)] ?_
 refine Yc 12 #[nI 2,nI 3,nI (↑sh:Int)] (some 74) fun w S hG=>?_
 refine(placeNew (id:=2) (places:=3) (shards:=sh) (hG.at 0 rfl)).mono ?_
 rintro e6 w6 (⟨h,_⟩|⟨_,zb,hR⟩)
 ·exact absurd (by omega) h
 refine⟨_,_,_,hR,?_⟩
 rw[show newP (2:Int).toNat (3:Int).toNat (sh:Int).toNat=newP 2 3 sh from rfl]
 have hcf:=cause_com (sh:=sh) (by omega) (by omega) hka
 have hcs:=cause_start (sh:=sh) (by omega) (by omega) hka
 try simp only[aQ]
 refine Ya (Rds 2 7) [74,73] [zP 14 zb,zV 15 .nilIface] ?_
 refine JR_end (J_seq ?_)
 refine Zs (Rds 0 22) [15] [zB 98 false] ?_
 refine cF ?_
 refine J_skip ?_
 refine jS [(0,true),(1,false),(2,true),(3,true),(4,false),(5,false),(6,true),(7,true),(8,true),(9,true),(10,false),(11,false),(12,true),(13,true)] [] ?_
 refine Ym [zR 0,.wr 1 [] 0,zR 2,zR 3,.wr 4 [] 0] [98] (fun nu1=>[zP 100 pb,zS 101 (sA (nu1 0) 0) 3 3,zS 104 (sA (nu1 1) 0) 1 1]) o0 (fun nu1=>[(nu1 0,.cells #[nI 0,nI 0,nI 0] 3 (0,0)),(nu1 1,.cells #[nI 0,.string ky,nI 2,.string (ByteArray.mk #[]),nI 1,.bool false,.slice none 0 0] 55 (0,0))]) [] (fun nu1=>?_)
 refine JR_data (size:=1) 0 eI [(0:Int),0,0] 3 rfl (by kernel_rfl) (by decide) (by intro x _;rfl) (by simp) ⟨.inl ⟨rfl,rfl⟩,⟨.inl ⟨rfl,rfl⟩,⟨.inl ⟨rfl,rfl⟩,trivial⟩⟩⟩ ?_
 refine JR_data (size:=7) 0 eOp [cOp ky] 1 rfl (by kernel_rfl) (by decide) (by intro x _;rfl) (by simp) ⟨.inl ⟨rfl,rfl⟩,⟨.inl ⟨rfl,rfl⟩,⟨.inl ⟨rfl,rfl⟩,⟨.inl ⟨rfl,rfl⟩,⟨.inl ⟨rfl,rfl⟩,⟨.inl ⟨rfl,rfl⟩,⟨.inr (.inr ⟨_,_,_,rfl,rfl⟩),trivial⟩⟩⟩⟩⟩⟩⟩ ?_
 have hx1:PlIn (comPl (newP 0 3 sh) (comA sh ky)) 2:=by
  have h:=((sys_new (places:=3) (shards:=sh) (by decide) (by decide) (by omega) (by omega)).com (f:=0) (by decide) (by decide) hcf one_dots).net.pin 0 (by decide)
  exact h.mono (by decide)
 have hp0:PlIn (newP 0 3 sh) 0:=newP_in 0 (by decide) (by decide) (by omega) (by omega) (by decide)
 have hl1:=comMs_len (newP 0 3 sh) (comA sh ky)
 have hl2:=hp0.ssl.2
 have hl3:=beatMs_len hx1
 refine JR_call [] [0] 22 #[.pointer (some (⟨pb,0,none⟩)),.slice (some (⟨nu1 0,0,none⟩)) 3 3,.slice (some (⟨nu1 1,0,none⟩)) 1 1] (some 105) (by kernel_rfl) (by kernel_rfl) (by decide) (fun w S M hP hG _=>?_)
 refine(placeCommitA (n:=0) (x:=newP 0 3 sh) (at':=[0,0,0]) (ops:=[cOp ky]) (hG.at 0 rfl) hP hp0 (by decide) (hG.at 2 rfl) (hG.at 3 rfl) (by simp) (by simp) one_dots).mono ?_
 rintro e7 w7 (⟨h,_⟩|⟨_,u1,m1,d1,u2,m2,d2,u3,m3,d3,hR⟩)
 ·exact absurd hcf h
 refine⟨_,_,_,hR,?_⟩
 try simp only[aQ]
 refine Ym (Rds 6 10++[.wr 10 [] 0,.wr 11 (hnO 0 3) 0,zR 12,zR 13]) [105,100,101,104] (fun nu2=>[zS 17 u3 m3 d3,zV 18 .nilIface]) o0 (fun nu2=>[(nu2 0,.cells #[.slice u1 m1 d1,nI ((↑(newP 0 3 sh).id:Int)),.slice u2 m2 d2] 35 (0,0))]) [] (fun nu2=>?_)
 try simp only[aQ]
 refine JR_end ?_
 try simp only[aQ]
 refine J_seq ?_
 try simp only[aQ]
 refine J_seq ?_
 try simp only[aQ]
 refine Za [zR 0,zR 1] [] [zB 110 false] ?_
 try simp only[aQ]
 refine cF ?_
 try simp only[aQ]
 refine J_skip ?_
 try simp only[aQ]
 refine J_seq ?_
 try simp only[aQ]
 refine J_stpx (stp_acclen 2 rfl) fun _ hm3=>?_
 rw[List.length_map]at hm3
 have hm4:m3=(comMs (newP 0 3 sh) (comA sh ky)).length:=hm3
 refine Nm [(cPlace qb (newP 1 3 sh)),(cPlace zb (newP 2 3 sh)),cAcc (.slice u3 m3 d3) 62 9 (List.map eMsg (comMs (newP 0 3 sh) (comP (newP 0 3 sh) [0,0,0] [cOp ky]))),(cPlace pb (comPl (newP 0 3 sh) (comP (newP 0 3 sh) [0,0,0] [cOp ky])))] ?_
 refine jT [(0,true),(1,true),(2,false),(3,false),(4,true)] [] ?_
 refine Ya [zR 0,zR 1] [110,10] [zS 111 u3 m3 d3,zP 112 pb] ?_
 refine JR_call [] [3] 23 #[.pointer (some (⟨pb,0,none⟩))] (some 113) (by kernel_rfl) (by kernel_rfl) (by decide) (fun w S M hP hG _=>?_)
 refine(placeBeat (n:=2) (x:=comPl (newP 0 3 sh) (comA sh ky)) (hG.at 0 rfl) hP hx1 (by decide)).mono ?_
 rintro e8 w8 ⟨u4,d4,hR⟩
 refine⟨_,_,_,hR,?_⟩
 try simp only[aQ]
 refine JR_appm 2 56 62 9 104 (.agg #[.int .i64 0,.int .i64 0,.int .i64 0,.int .i64 0,.int .i64 0,.bool false,.slice none 0 0,.int .i64 0,.slice none 0 0]) (a0:=u3) (len:=m3) (cap0:=d3) (ax:=u4) (m:=(beatMs (comPl (newP 0 3 sh) (comA sh ky))).length) (c:=d4) (dst:=(some 114)) (beatMs (comPl (newP 0 3 sh) (comA sh ky))) (by kernel_rfl) (by kernel_rfl) (by kernel_rfl) (by kernel_rfl) rfl (by decide) rfl (fun _ _ _ s=>src_fact s 6 rfl (by decide)) (by simp only[maxLen];omega) (by omega) (fun av1 cv1=>?_)
 try simp only[aQ]
 refine Ya [zR 4] [114,113,111,112] [zS 17 av1 (m3+(beatMs (comPl (newP 0 3 sh) (comA sh ky))).length) cv1] ?_
 try simp only[aQ]
 refine JR_end ?_
 try simp only[aQ]
 refine J_seq ?_
 try simp only[aQ]
 refine J_seq ?_
 try simp only[aQ]
 refine Nm [(cPlace qb (newP 1 3 sh)),(cPlace zb (newP 2 3 sh)),(cPlace pb (beatPl (comPl (newP 0 3 sh) (comA sh ky)))),cAcc (.slice av1 (m3+(beatMs (comPl (newP 0 3 sh) (comA sh ky))).length) cv1) 62 9 (List.map eMsg (comMs (newP 0 3 sh) (comP (newP 0 3 sh) [0,0,0] [cOp ky])++beatMs (comPl (newP 0 3 sh) (comA sh ky))))] ?_
 have hla:(comMs (newP 0 3 sh) (comA sh ky)++beatMs (comPl (newP 0 3 sh) (comA sh ky))).length≤72:=by
  rw[List.length_append]
  omega
 refine J_cut (E':=[zV 1 (.string ky),zV 2 (.string kz),zS 3 ta pick.length tc,zB 8 false,zV 12 (.pointer (some ⟨qb,0,none⟩)),zV 14 (.pointer (some ⟨zb,0,none⟩)),zS 17 av1 (m3+(beatMs (comPl (newP 0 3 sh) (comA sh ky))).length) cv1]) (h':=[]) (C':=[_,_,_]) (G':=[_,_]) [1,2,3,8,12,14,17] [] [0,1,3] [0,1] (by kernel_rfl) rfl rfl rfl ?_
 exact causeMid (x:=netBeat (netCom (newNet 3 sh) sh 0 (comA sh ky)) 0) hcs hla hne hka hkb hp60
end Go.Proofs.YtmkapocibaojdaaGreatDoor
end
