/- Part 13 of the texts of a claim: Net4 Net5 Net6 Net7 Net8 Net9 NetW PWhoT PWho Tx9. -/
import Derived.Stop.LaidErr
import Derived.Below
import Derived.Carry
import Derived.ChangeSame
import Derived.OpenShut
import Derived.ChangeSlices
import Derived.Test.YtmkapocibaojdaaGreatDoorTw12
section
namespace Go.Sx
open Go
def Net.upd (x:Net) (f:Nat) (p:PlT) (K':List ComT) (X:Nat→Nat→List MsgT):Net:=
 { P:=fun i=>if i=f then p else x.P i,K:=fun i=>if i=f then K' else x.K i,H:=fun a t sh=>if a=f then x.H a t sh++X t sh else x.H a t sh }
section upd
variable {x:Net} {f:Nat} {p:PlT} {K':List ComT} {X:Nat→Nat→List MsgT}
theorem updP_at:(x.upd f p K' X).P f=p:=if_pos rfl
theorem updP_ne {i:Nat} (h:i≠f):(x.upd f p K' X).P i=x.P i:=if_neg h
theorem updK_at:(x.upd f p K' X).K f=K':=if_pos rfl
theorem updK_ne {i:Nat} (h:i≠f):(x.upd f p K' X).K i=x.K i:=if_neg h
theorem updH_at {t sh:Nat}:(x.upd f p K' X).H f t sh=x.H f t sh++X t sh:=if_pos rfl
theorem updH_ne {i t sh:Nat} (h:i≠f):(x.upd f p K' X).H i t sh=x.H i t sh:=if_neg h
end upd
theorem timeAt_app {l X:List MsgT} {q:Nat} (h:q≤l.length):timeAt (l++X) q=timeAt l q:=by
 cases q with
 | zero=>rfl
 | succ k=>simp only[timeAt,List.getElem?_append_left (show k<l.length by omega)]
theorem timeAt_last {l:List MsgT} {m:MsgT}:timeAt (l++[m]) (l++[m]).length=m.time:=by
 simp[timeAt]
end Go.Sx
namespace Go.Proofs.YtmkapocibaojdaaGreatDoor
open Go Go.Sx
theorem RcvOk.app {r:RcvT} {l X:List MsgT} (h:RcvOk r l) (h0:0≤r.q):RcvOk r (l++X):=by
 have hq:=h.q
 refine⟨by simp;omega,by rw[timeAt_app (by omega)];exact h.t,fun m hm=>?_⟩
 obtain⟨j,h1,h2⟩:=h.l m hm
 exact⟨j,by rw[List.getElem?_append_left (List.getElem?_eq_some_iff.1 h1).1];exact h1,h2⟩
theorem ComeQ_app {l X:List MsgT} {k:Int} {q:PutT} (hk:k≤l.length):ComeQ (l++X) k q↔ComeQ l k q:=by
 constructor
 ·rintro⟨j,m,h1,h2,h3⟩
  exact⟨j,m,by rwa[List.getElem?_append_left (by omega)]at h1,h2,h3⟩
 ·rintro⟨j,m,h1,h2,h3⟩
  exact⟨j,m,by rw[List.getElem?_append_left (List.getElem?_eq_some_iff.1 h1).1];exact h1,h2,h3⟩
section net
variable {places shards n:Nat} {x:Net}
theorem NetIn.upd (h:NetIn places shards x n) {f:Nat} (hf:f<places) {p:PlT} {K':List ComT} {X:Nat→Nat→List MsgT} (hp:PlIn p (n+1)) (hid:p.id=f∧p.places=places∧p.shards=shards) (hclk:(K'.length:Int)=p.clock)
  (hcom:∀(j:Nat) C,K'[j]?=some C→C.place=f∧C.when.getD f 0=j+1∧(comFault C).code=0∧C.when.length=places)
  (hmsg:∀t<places,t≠f→∀sh<shards,Strm K' shards f t sh (x.H f t sh++X t sh)) (hsnd:∀s∈p.ss,SndOk s (x.H f s.to.toNat s.sh.toNat++X s.to.toNat s.sh.toNat)) (hrs:p.rs=(x.P f).rs)
  (hL:∀q,q∈p.L↔OwnQ K' q∨∃r∈(x.P f).rs,ComeQ (x.H r.fm.toNat f r.sh.toNat) r.q q) (hn:(p.L.map dotP).Nodup) (hbase:p.base=(x.P f).base) (hck:(x.P f).clock≤p.clock) :
  NetIn places shards (x.upd f p K' X) (n+1):=by
 obtain⟨i1,i2,i3⟩:=h.pid f hf
 have hsn:inL (snapL (x.P f)) (snapL p)=true:=by
  refine snapL_le (by rw[hid.2.1,i2]) fun k hk=>?_
  unfold snapT
  rw[hid.1,i1,hrs]
  split
  ·exact hck
  ·exact Int.le_refl _
 refine⟨fun i hi=>?_,fun i hi=>?_,fun i hi=>?_,fun i hi=>?_,fun a ha t ht hne sh hs=>?_,fun i hi s hs=>?_,fun i hi r hr=>?_,fun i hi q=>?_,fun i hi=>?_,fun i hi u hu=>?_⟩
 ·by_cases hif:i=f
  ·subst hif
   rw[updP_at]
   exact hp
  ·rw[updP_ne hif]
   exact(h.pin i hi).mono (by omega)
 ·by_cases hif:i=f
  ·subst hif
   rw[updP_at]
   exact hid
  ·rw[updP_ne hif]
   exact h.pid i hi
 ·by_cases hif:i=f
  ·subst hif
   rw[updP_at,updK_at]
   exact hclk
  ·rw[updP_ne hif,updK_ne hif]
   exact h.clk i hi
 ·by_cases hif:i=f
  ·subst hif
   rw[updK_at]
   exact hcom
  ·rw[updK_ne hif]
   exact h.com i hi
 ·by_cases hif:a=f
  ·subst hif
   rw[updK_at,updH_at]
   exact hmsg t ht hne sh hs
  ·rw[updK_ne hif,updH_ne hif]
   exact h.msg a ha t ht hne sh hs
 ·by_cases hif:i=f
  ·subst hif
   rw[updP_at]at hs
   rw[updH_at]
   exact hsnd s hs
  ·rw[updP_ne hif]at hs
   rw[updH_ne hif]
   exact h.snd i hi s hs
 ·have hr0:r∈(x.P i).rs:=by
   by_cases hif:i=f
   ·subst hif
    rw[updP_at,hrs]at hr
    exact hr
   ·rwa[updP_ne hif]at hr
  have h1:=h.rcv i hi r hr0
  have h2:=((h.pin i hi).rcv r hr0).1
  by_cases hrf:r.fm.toNat=f
  ·rw[hrf]at h1 ⊢
   rw[updH_at]
   exact h1.app h2
  ·rw[updH_ne hrf]
   exact h1
 ·by_cases hif:i=f
  ·subst hif
   rw[updP_at,updK_at,hL,hrs]
   have:∀r∈(x.P i).rs,(x.upd i p K' X).H r.fm.toNat i r.sh.toNat=x.H r.fm.toNat i r.sh.toNat:=fun r hr=>updH_ne (h.pair hi hr).2.1
   constructor
   ·rintro(h1|⟨r,hr,h1⟩)
    ·exact .inl h1
    ·exact .inr ⟨r,hr,by rw[this r hr];exact h1⟩
   ·rintro(h1|⟨r,hr,h1⟩)
    ·exact .inl h1
    ·exact .inr ⟨r,hr,by rw[this r hr]at h1;exact h1⟩
  ·rw[updP_ne hif,updK_ne hif,h.L i hi q]
   have:∀r∈(x.P i).rs,(ComeQ ((x.upd f p K' X).H r.fm.toNat i r.sh.toNat) r.q q↔ComeQ (x.H r.fm.toNat i r.sh.toNat) r.q q):=fun r hr=>by
    by_cases hrf:r.fm.toNat=f
    ·have h1:=(h.rcv i hi r hr).q
     rw[hrf]at h1 ⊢
     rw[updH_at]
     exact ComeQ_app h1
    ·rw[updH_ne hrf]
   constructor
   ·rintro(h1|⟨r,hr,h1⟩)
    ·exact .inl h1
    ·exact .inr ⟨r,hr,(this r hr).2 h1⟩
   ·rintro(h1|⟨r,hr,h1⟩)
    ·exact .inl h1
    ·exact .inr ⟨r,hr,(this r hr).1 h1⟩
 ·by_cases hif:i=f
  ·subst hif
   rw[updP_at]
   exact hn
  ·rw[updP_ne hif]
   exact h.nodup i hi
 ·have hb:((x.upd f p K' X).P i).base=(x.P i).base:=by
   by_cases hif:i=f
   ·subst hif
    rw[updP_at]
    exact hbase
   ·rw[updP_ne hif]
  rw[hb]
  by_cases huf:u=f
  ·subst huf
   rw[updP_at]
   have hbl:=(h.pin i hi).basel
   have hpi:=(h.pid i hi).2.1
   exact inL_trans (h.base i hi u hu) hsn (by rw[snapL,List.length_map,List.length_range];omega)
  ·rw[updP_ne huf]
   exact h.base i hi u hu
theorem Strm.more {K:List ComT} {f t sh:Nat} {l:List MsgT} (h:Strm K shards f t sh l) (C:ComT) (hC:(partC shards C sh).ops=[]):Strm (K++[C]) shards f t sh l:=by
 refine⟨fun j m hm=>?_,h.inc,fun D hD hne=>?_⟩
 ·obtain⟨h1,h2,h3,h4,h5,h6,h7⟩:=h.at' j m hm
  refine⟨h1,h2,h3,h4,h5,by simp;omega,h7.imp id fun⟨h8,D,hD,h9⟩=>⟨h8,D,List.mem_append.2 (.inl hD),h9⟩⟩
 ·rcases List.mem_append.1 hD with hD|hD
  ·exact h.all D hD hne
  ·obtain rfl:=List.mem_singleton.1 hD
   exact absurd hC hne
theorem Strm.com {K:List ComT} {f t sh:Nat} {l:List MsgT} (h:Strm K shards f t sh l) {C:ComT} (hC:(partC shards C sh).ops≠[]) (hw:C.when.getD f 0=K.length+1):Strm (K++[C]) shards f t sh (l++[⟨f,t,sh,l.length+1,C.when.getD f 0,false,partC shards C sh⟩]):=by
 refine⟨fun j m hm=>?_,?_,fun D hD hne=>?_⟩
 ·rcases Nat.lt_or_ge j l.length with hj|hj
  ·rw[List.getElem?_append_left hj]at hm
   obtain⟨h1,h2,h3,h4,h5,h6,h7⟩:=h.at' j m hm
   exact⟨h1,h2,h3,h4,h5,by simp;omega,h7.imp id fun⟨h8,D,hD,h9⟩=>⟨h8,D,List.mem_append.2 (.inl hD),h9⟩⟩
  ·have hjl:=(List.getElem?_eq_some_iff.1 hm).1
   simp at hjl
   have:j=l.length:=by omega
   subst this
   simp at hm
   subst hm
   refine⟨rfl,rfl,rfl,rfl,?_,?_,.inr ⟨rfl,C,by simp,rfl,hC,rfl⟩⟩
   ·show 0≤C.when.getD f 0
    omega
   ·have h8:((K++[C]).length:Int)=K.length+1:=by simp
    show C.when.getD f 0≤((K++[C]).length:Int)
    omega
 ·rw[List.pairwise_append]
  refine⟨h.inc,by simp,fun a ha b hb=>?_⟩
  obtain rfl:=List.mem_singleton.1 hb
  obtain⟨j,hj⟩:=List.getElem?_of_mem ha
  obtain⟨_,_,_,_,_,h6,_⟩:=h.at' j a hj
  exact⟨by show a.time≤C.when.getD f 0;omega,fun _=>by show a.time<C.when.getD f 0;omega⟩
 ·rcases List.mem_append.1 hD with hD|hD
  ·obtain⟨m,hm,h1⟩:=h.all D hD hne
   exact⟨m,List.mem_append.2 (.inl hm),h1⟩
  ·obtain rfl:=List.mem_singleton.1 hD
   exact⟨_,List.mem_append.2 (.inr (List.mem_singleton.2 rfl)),rfl,rfl,rfl⟩
theorem Strm.beat {K:List ComT} {f t sh:Nat} {l:List MsgT} (h:Strm K shards f t sh l):Strm K shards f t sh (l++[⟨f,t,sh,l.length+1,K.length,true,⟨[],0,[]⟩⟩]):=by
 refine⟨fun j m hm=>?_,?_,fun D hD hne=>?_⟩
 ·rcases Nat.lt_or_ge j l.length with hj|hj
  ·rw[List.getElem?_append_left hj]at hm
   exact h.at' j m hm
  ·have hjl:=(List.getElem?_eq_some_iff.1 hm).1
   simp at hjl
   have:j=l.length:=by omega
   subst this
   simp at hm
   subst hm
   exact⟨rfl,rfl,rfl,rfl,by show(0:Int)≤K.length;omega,Int.le_refl _,.inl ⟨rfl,rfl⟩⟩
 ·rw[List.pairwise_append]
  refine⟨h.inc,by simp,fun a ha b hb=>?_⟩
  obtain rfl:=List.mem_singleton.1 hb
  obtain⟨j,hj⟩:=List.getElem?_of_mem ha
  obtain⟨_,_,_,_,_,h6,_⟩:=h.at' j a hj
  exact⟨h6,fun h=>by cases h⟩
 ·obtain⟨m,hm,h1⟩:=h.all D hD hne
  exact⟨m,List.mem_append.2 (.inl hm),h1⟩
def comX (x:Net) (shards f:Nat) (C:ComT) (t sh:Nat):List MsgT:=if (partC shards C sh).ops=[]then []else [⟨f,t,sh,(x.H f t sh).length+1,C.when.getD f 0,false,partC shards C sh⟩]
def netCom (x:Net) (shards f:Nat) (C:ComT):Net:=x.upd f (comPl (x.P f) C) (x.K f++[C]) (comX x shards f C)
def beatX (x:Net) (f:Nat) (t sh:Nat):List MsgT:=[⟨f,t,sh,(x.H f t sh).length+1,(x.K f).length,true,⟨[],0,[]⟩⟩]
def netBeat (x:Net) (f:Nat):Net:=x.upd f (beatPl (x.P f)) (x.K f) (beatX x f)
theorem NetIn.pairS (h:NetIn places shards x n) {f:Nat} (hf:f<places) {s:SndT} (hs:s∈(x.P f).ss):s.to.toNat<places∧s.to.toNat≠f∧s.sh.toNat<shards:=by
 obtain⟨h1,h2,h3⟩:=h.pid f hf
 have hp:=(h.pin f hf).ss
 rw[h1,h2,h3]at hp
 have hm:PlT.pair s∈pairsP f shards places:=by rw[←hp];exact List.mem_map_of_mem hs
 obtain⟨rows,hrow,hm⟩:=List.mem_flatten.1 hm
 obtain⟨k,hk,rfl⟩:=List.mem_map.1 hrow
 unfold rowP at hm
 split at hm
 ·cases hm
 ·rename_i hkt
  obtain⟨i,hi,he⟩:=List.mem_map.1 hm
  obtain⟨e1,e2⟩:=Prod.mk.inj he
  rw[←e1,←e2]
  exact⟨List.mem_range.1 hk,hkt,List.mem_range.1 hi⟩
theorem NetIn.com_ok (h:NetIn places shards x n) {f:Nat} (hf:f<places) {at':List Int} {ops:List OpT} (hc:(comErr (x.P f) at' ops).code=0) (hd:∀o∈ops,o.dots.length≤1000000):NetIn places shards (netCom x shards f (comP (x.P f) at' ops)) (n+1):=by
 obtain⟨i1,i2,i3⟩:=h.pid f hf
 obtain⟨e1,e2,e3⟩:=comErr_ok hc
 obtain⟨_,e4,_⟩:=known_len e1
 have hcp:=comP_put (h.pin f hf) hc
 have hw:=comP_when (x:=x.P f) (ops:=ops) (show(x.P f).id<at'.length by omega)
 rw[i1]at hw
 have hck:=h.clk f hf
 have hw2:(comP (x.P f) at' ops).when.getD f 0=(x.K f).length+1:=by omega
 have hpl:(comP (x.P f) at' ops).place=f:=by
  show(((x.P f).id:Nat):Int)=f
  omega
 refine h.upd hf (com_in (h.pin f hf) hc hd) ⟨i1,i2,i3⟩ ?_ (fun j C hC=>?_) (fun t ht hne sh hs=>?_) (fun s hs=>?_) rfl (fun q=>?_) (hcp.nodup (h.nodup f hf)) rfl ?_
 ·show((x.K f++[comP (x.P f) at' ops]).length:Int)=(x.P f).clock+1
  simp
  omega
 ·rcases Nat.lt_or_ge j (x.K f).length with hj|hj
  ·rw[List.getElem?_append_left hj]at hC
   exact h.com f hf j C hC
  ·have hjl:=(List.getElem?_eq_some_iff.1 hC).1
   simp at hjl
   have:j=(x.K f).length:=by omega
   subst this
   simp at hC
   subst hC
   exact⟨hpl,hw2,e3,by simp[comP,e4,i2]⟩
 ·unfold comX
  split
  ·rename_i h0
   rw[List.append_nil]
   exact(h.msg f hf t ht hne sh hs).more _ h0
  ·rename_i h0
   exact(h.msg f hf t ht hne sh hs).com h0 hw2
 ·obtain⟨y,hy,rfl⟩:=List.mem_map.1 hs
  have hso:=h.snd f hf y hy
  obtain⟨p1,p2,p3⟩:=h.pairS hf hy
  obtain⟨w1,w2⟩:=(h.pin f hf).way y hy
  have hsh:((y.sh.toNat:Nat):Int)=y.sh:=Int.toNat_of_nonneg w2
  have hto:((y.to.toNat:Nat):Int)=y.to:=Int.toNat_of_nonneg w1
  unfold sndC
  rw[i3]
  split
  ·rename_i h0
   rw[comX,if_pos (by rw[hsh];exact h0),List.append_nil]
   exact hso
  ·rename_i h0
   have e:comX x shards f (comP (x.P f) at' ops) (SndT.com y (partC shards (comP (x.P f) at' ops) y.sh)).to.toNat (SndT.com y (partC shards (comP (x.P f) at' ops) y.sh)).sh.toNat=[SndT.msg y (partC shards (comP (x.P f) at' ops) y.sh)]:=by
    show comX x shards f (comP (x.P f) at' ops) y.to.toNat y.sh.toNat=_
    rw[comX,if_neg (by rw[hsh];exact h0),hsh,hto,SndT.msg,hso.q]
    have h1:(partC shards (comP (x.P f) at' ops) y.sh).when.getD (partC shards (comP (x.P f) at' ops) y.sh).place.toNat 0=(comP (x.P f) at' ops).when.getD f 0:=by
     show(comP (x.P f) at' ops).when.getD (comP (x.P f) at' ops).place.toNat 0=_
     rw[hpl,Int.toNat_natCast]
    have h2:=((h.pin f hf).snd y hy).1
    rw[h1,h2,i1]
   rw[e]
   obtain⟨a,ha,hl⟩:=hso.l
   show SndOk _ (x.H f y.to.toNat y.sh.toNat++_)
   refine⟨?_,?_,a,by simp;omega,?_⟩
   ·show y.q+1=_
    rw[hso.q]
    simp
   ·rw[timeAt_last]
    rfl
   ·show y.l++_=_
    rw[hl,List.drop_append_of_le_length ha]
 ·show q∈(x.P f).L++putsOf _ _↔_
  rw[List.mem_append,h.L f hf q]
  constructor
  ·rintro((⟨C,hC,h1⟩|h1)|h1)
   ·exact .inl ⟨C,List.mem_append.2 (.inl hC),h1⟩
   ·exact .inr h1
   ·obtain⟨o,ho,rfl⟩:=List.mem_map.1 h1
    exact .inl ⟨_,List.mem_append.2 (.inr (List.mem_singleton.2 rfl)),o,ho,rfl⟩
  ·rintro(⟨C,hC,o,ho,rfl⟩|h1)
   ·rcases List.mem_append.1 hC with hC|hC
    ·exact .inl (.inl ⟨C,hC,o,ho,rfl⟩)
    ·obtain rfl:=List.mem_singleton.1 hC
     exact .inr (List.mem_map_of_mem ho)
   ·exact .inl (.inr h1)
 ·show(x.P f).clock≤(x.P f).clock+1
  omega
theorem NetIn.beat_ok (h:NetIn places shards x n) {f:Nat} (hf:f<places):NetIn places shards (netBeat x f) (n+1):=by
 obtain⟨i1,i2,i3⟩:=h.pid f hf
 have hck:=h.clk f hf
 refine h.upd hf (beat_in (h.pin f hf)) ⟨i1,i2,i3⟩ hck (h.com f hf) (fun t ht hne sh hs=>(h.msg f hf t ht hne sh hs).beat) (fun s hs=>?_) rfl (h.L f hf) (h.nodup f hf) rfl (Int.le_refl _)
 obtain⟨y,hy,rfl⟩:=List.mem_map.1 hs
 have hso:=h.snd f hf y hy
 obtain⟨w1,w2⟩:=(h.pin f hf).way y hy
 have hsh:((y.sh.toNat:Nat):Int)=y.sh:=Int.toNat_of_nonneg w2
 have hto:((y.to.toNat:Nat):Int)=y.to:=Int.toNat_of_nonneg w1
 have e:beatX x f (SndT.beat y (x.P f).clock).to.toNat (SndT.beat y (x.P f).clock).sh.toNat=[SndT.beatM y (x.P f).clock]:=by
  show beatX x f y.to.toNat y.sh.toNat=_
  have h2:=((h.pin f hf).snd y hy).1
  rw[beatX,SndT.beatM,hsh,hto,hso.q,h2,i1,hck]
 rw[e]
 obtain⟨a,ha,hl⟩:=hso.l
 show SndOk _ (x.H f y.to.toNat y.sh.toNat++_)
 refine⟨?_,?_,a,by simp;omega,?_⟩
 ·show y.q+1=_
  rw[hso.q]
  simp
 ·rw[timeAt_last]
  rfl
 ·show y.l++_=_
  rw[hl,List.drop_append_of_le_length ha]
end net
end Go.Proofs.YtmkapocibaojdaaGreatDoor
end
section
namespace Go.Sx
open Go
theorem drain_closed:∀(n:Nat) (L:List MsgT) (q t:Int),L.length<n→kept (drain n L q t).2.1 ((drain n L q t).2.2.1+1)=none
 | 0,L,q,t,h=>by omega
 | n+1,L,q,t,h=>by
  unfold drain
  cases hk:kept L (q+1)with
  | none=>exact hk
  | some m=>exact drain_closed n (dropK L (q+1)) (q+1) m.time (by have:=dropK_len hk;omega)
theorem dropK_part {L:List MsgT} {k:Int} {m z:MsgT} (h:kept L k=some m) (hz:z∈L):z=m∨z∈dropK L k:=by
 by_cases hs:z.seq=k
 ·have:=List.find?_eq_some_iff_append.1 h
  obtain⟨_,us,bs,rfl,has⟩:=this
  have hd:dropK (us++m::bs) k=us++bs:=by
   unfold dropK
   rw[List.eraseP_append_right _ (fun x hx=>by simpa using has x hx)]
   rw[List.eraseP_cons_of_pos]
   simpa using kept_seq h
  rw[hd]
  rcases List.mem_append.1 hz with hz|hz
  ·exact .inr (List.mem_append.2 (.inl hz))
  ·rcases List.mem_cons.1 hz with hz|hz
   ·exact .inl hz
   ·exact .inr (List.mem_append.2 (.inr hz))
 ·refine .inr ?_
  unfold dropK
  exact(List.mem_eraseP_of_neg (by simpa using hs)).2 hz
theorem drain_part:∀(n:Nat) (L:List MsgT) (q t:Int),∀z∈L,z∈(drain n L q t).1∨z∈(drain n L q t).2.1
 | 0,L,q,t=>fun z hz=>.inr hz
 | n+1,L,q,t=>fun z hz=>by
  unfold drain
  cases hk:kept L (q+1)with
  | none=>exact .inr hz
  | some m=>
   rcases dropK_part hk hz with rfl|hz
   ·exact .inl (List.mem_cons_self ..)
   ·rcases drain_part n (dropK L (q+1)) (q+1) m.time z hz with h|h
    ·exact .inl (List.mem_cons_of_mem _ h)
    ·exact .inr h
end Go.Sx
namespace Go.Proofs.YtmkapocibaojdaaGreatDoor
open Go Go.Sx
def Closed (y:RcvT):Prop:=∀z∈y.l,z.seq≠y.q+1
def Has (y:RcvT) (H:List MsgT) (i:Nat):Prop:=(i:Int)<y.q∨∃z∈y.l,H[i]?=some z
section strm
variable {K:List ComT} {shards f t sh:Nat} {H:List MsgT}
theorem hear_has (hs:Strm K shards f t sh H) {y:RcvT} {m:MsgT} {j:Nat} (hr:RcvOk y H) (h1:y.fm=f) (h2:y.to=t) (h3:y.sh=sh) (hd:Dist y.l) (hq:0≤y.q) (hm:H[j]?=some m) (hK:(K.length:Int)≤1099511627776) (hc:Closed y) :
  Closed (RcvT.heard y m)∧(∀i,Has y H i→Has (RcvT.heard y m) H i)∧((RcvT.hear y m).1=0→Has (RcvT.heard y m) H j):=by
 obtain⟨m1,m2,m3,m4,m5,m6,_⟩:=hs.at' j m hm
 have c1:¬(m.fm≠y.fm∨m.to≠y.to∨m.shard≠y.sh):=by omega
 have c2:¬(m.seq<1∨m.time<0∨1099511627776<m.time):=by omega
 by_cases c3:m.seq≤y.q
 ·have e:RcvT.heard y m=y:=by simp[RcvT.heard,RcvT.hear,hearT,if_neg c1,if_neg c2,if_pos c3]
  rw[e]
  exact⟨hc,fun _ h=>h,fun _=>.inl (by omega)⟩
 by_cases c4:201<m.seq - y.q
 ·have e0:RcvT.hear y m=(7,[],⟨y.l,y.q,y.t⟩):=by rw[RcvT.hear,hearT,if_neg c1,if_neg c2,if_neg c3,if_pos c4]
  have e:RcvT.heard y m=y:=by simp[RcvT.heard,e0]
  rw[e,e0]
  exact⟨hc,fun _ h=>h,fun h=>by cases h⟩
 have key:∀L1:List MsgT,RcvT.hear y m=(0,(drainAll L1 y.q y.t).1,⟨(drainAll L1 y.q y.t).2.1,(drainAll L1 y.q y.t).2.2.1,(drainAll L1 y.q y.t).2.2.2⟩)→Dist L1→(∀z∈L1,∃i:Nat,H[i]?=some z∧y.q≤i)→(∀z∈y.l,z∈L1)→(∃z∈L1,H[j]?=some z)→Closed (RcvT.heard y m)∧(∀i,Has y H i→Has (RcvT.heard y m) H i)∧((RcvT.hear y m).1=0→Has (RcvT.heard y m) H j):=fun L1 h hd1 hL1 hyl hmm=>by
  have hqn:((y.q.toNat:Nat):Int)=y.q:=Int.toNat_of_nonneg hq
  obtain⟨d1,_,_,d4⟩:=drain_list (L1.length+1) L1 y.q.toNat y.t hd1 fun z hz=>by
   obtain⟨i,hi,hqi⟩:=hL1 z hz
   exact⟨i,hi,by omega,(hs.at' i z hi).2.2.2.1⟩
  rw[hqn]at d1 d4
  have dq:=drain_q (L1.length+1) L1 y.q y.t
  have dc:=drain_closed (L1.length+1) L1 y.q y.t (Nat.lt_succ_self _)
  have hin:∀(i:Nat) z,z∈L1→H[i]?=some z→Has (RcvT.heard y m) H i:=fun i z hz hi=>by
   unfold Has
   simp only[RcvT.heard,h,drainAll]
   rcases drain_part (L1.length+1) L1 y.q y.t z hz with h5|h5
   ·rw[d1]at h5
    obtain⟨k,k1,k2,k3⟩:=mem_window.1 h5
    have e1:=(hs.at' i z hi).2.2.2.1
    have e2:=(hs.at' k z k3).2.2.2.1
    left
    omega
   ·exact .inr ⟨z,h5,hi⟩
  refine⟨fun z hz=>?_,fun i hi=>?_,fun _=>?_⟩
  ·simp only[RcvT.heard,h,drainAll]at hz ⊢
   exact kept_none.1 dc z hz
  ·rcases hi with hi|⟨z,hz,hi⟩
   ·left
    simp only[RcvT.heard,h,drainAll]
    omega
   ·exact hin i z (hyl z hz) hi
  ·obtain⟨z,hz,hi⟩:=hmm
   exact hin j z hz hi
 cases hk:kept y.l m.seq with
 | none=>
  refine key (y.l++[m]) (by rw[RcvT.hear,hearT,if_neg c1,if_neg c2,if_neg c3,if_neg c4];simp only[hk]) (hd.app hk) (fun z hz=>?_) (fun z hz=>List.mem_append.2 (.inl hz)) ⟨m,by simp,hm⟩
  rcases List.mem_append.1 hz with hz|hz
  ·exact hr.l z hz
  ·obtain rfl:=List.mem_singleton.1 hz
   exact⟨j,hm,by omega⟩
 | some z=>
  refine key y.l (by rw[RcvT.hear,hearT,if_neg c1,if_neg c2,if_neg c3,if_neg c4];simp only[hk]) hd (fun z hz=>hr.l z hz) (fun z hz=>hz) ⟨z,kept_mem hk,?_⟩
  obtain⟨i,hi,_⟩:=hr.l z (kept_mem hk)
  have e1:=(hs.at' i z hi).2.2.2.1
  have e2:=kept_seq hk
  have:i=j:=by omega
  rw[←this]
  exact hi
theorem has_all {y:RcvT} (hr:RcvOk y H) (hq:0≤y.q) (hs:Strm K shards f t sh H) (hc:Closed y) (ha:∀i<H.length,Has y H i):y.q=H.length∧y.t=timeAt H H.length:=by
 have h1:=hr.q
 have h2:y.q=H.length:=by
  apply Int.le_antisymm h1
  apply Int.le_of_not_gt
  intro hlt
  rcases ha y.q.toNat (by omega)with h|⟨z,hz,hi⟩
  ·omega
  ·have:=(hs.at' _ z hi).2.2.2.1
   exact hc z hz (by omega)
 refine⟨h2,?_⟩
 rw[hr.t,h2,Int.toNat_natCast]
end strm
section net
variable {places shards n:Nat} {x:Net}
def ClosedN (places:Nat) (x:Net):Prop:=∀u<places,∀r∈(x.P u).rs,Closed r
def Got (x:Net) (f t sh i:Nat):Prop:=∃r∈(x.P t).rs,r.fm.toNat=f∧r.sh.toNat=sh∧Has r (x.H f t sh) i
theorem NetIn.hear_got (h:NetIn places shards x n) (hcl:ClosedN places x) {t f sh j:Nat} {m:MsgT} (ht:t<places) (hf:f<places) (hne:f≠t) (hs:sh<shards) (hm:(x.H f t sh)[j]?=some m) :
  ClosedN places (x.setP t (hearPl (x.P t) m).2.2)∧(∀a b c i,Got x a b c i→Got (x.setP t (hearPl (x.P t) m).2.2) a b c i)∧((hearPl (x.P t) m).1=0→Got (x.setP t (hearPl (x.P t) m).2.2) f t sh j):=by
 obtain⟨i1,i2,i3⟩:=h.pid t ht
 have hst:=h.msg f hf t ht (Ne.symm hne) sh hs
 obtain⟨m1,m2,m3,m4,m5,m6,_⟩:=hst.at' j m hm
 obtain⟨y,hy,y1,y2,y3⟩:=h.recvAt ht hf hne hs
 have hmem:=List.mem_of_getElem? hy
 have hyl:=(List.getElem?_eq_some_iff.1 hy).1
 have hway:hearWay (x.P t) m=0:=by rw[hearWay,i1,i2,i3,if_neg (by omega),if_neg (by omega)]
 have hpos:posM (x.P t) m=posP t shards f+sh:=by rw[posM,i1,i3,m1,m3,Int.toNat_natCast,Int.toNat_natCast]
 have hrc:=h.rcv t ht y hmem
 rw[y1,y2,Int.toNat_natCast,Int.toNat_natCast]at hrc
 obtain⟨r1,r2,r3⟩:=(h.pin t ht).rcv y hmem
 have hK:((x.K f).length:Int)≤1099511627776:=by
  rw[h.clk f hf]
  exact(h.pin f hf).c1
 obtain⟨g1,g2,g3⟩:=hear_has hst hrc y1 y3 y2 r3 r1 hm hK (hcl t ht y hmem)
 have hE:hearPl (x.P t) m=if (RcvT.hear y m).1≠0 then ((RcvT.hear y m).1,[],x.P t)else (0,[ackM (x.P t) m (RcvT.heard y m).q],{ x.P t with rs:=(x.P t).rs.set (posP t shards f+sh) (RcvT.heard y m),L:=putMs (x.P t).places (x.P t).base m.fm (x.P t).L (RcvT.hear y m).2.1 }):=by
  rw[hearPl,if_neg (by simp[hway]),if_neg (by omega),hpos,hy]
 rw[hE]
 by_cases hc:(RcvT.hear y m).1≠0
 ·rw[if_pos hc]
  simp only[setP_self]
  exact⟨hcl,fun _ _ _ _ h=>h,fun h=>absurd h hc⟩
 rw[if_neg hc]
 have hyn:RcvT.heard y m∈(x.P t).rs.set (posP t shards f+sh) (RcvT.heard y m):=List.mem_of_getElem? (List.getElem?_set_self hyl)
 refine⟨fun u hu r hr=>?_,fun a b c i ⟨r,hr,ha,hb,hh⟩=>?_,fun _=>?_⟩
 ·by_cases hut:u=t
  ·subst hut
   rw[setP_at]at hr
   rcases set_mem hr with hr|rfl
   ·exact hcl u hu r hr
   ·exact g1
  ·rw[setP_ne _ _ hut]at hr
   exact hcl u hu r hr
 ·by_cases hbt:b=t
  ·subst hbt
   unfold Got
   rw[setP_at]
   obtain⟨k,hk⟩:=List.getElem?_of_mem hr
   by_cases hkp:posP b shards f+sh=k
   ·rw[←hkp,hy]at hk
    obtain rfl:=Option.some.inj hk
    rw[y1,Int.toNat_natCast]at ha
    rw[y2,Int.toNat_natCast]at hb
    subst ha hb
    exact⟨_,hyn,by rw[show(RcvT.heard y m).fm=y.fm from rfl,y1,Int.toNat_natCast],by rw[show(RcvT.heard y m).sh=y.sh from rfl,y2,Int.toNat_natCast],g2 i hh⟩
   ·exact⟨r,List.mem_of_getElem? (i:=k) (by rw[List.getElem?_set_ne hkp];exact hk),ha,hb,hh⟩
  ·unfold Got
   rw[setP_ne _ _ hbt]
   exact⟨r,hr,ha,hb,hh⟩
 ·unfold Got
  rw[setP_at]
  exact⟨_,hyn,by rw[show(RcvT.heard y m).fm=y.fm from rfl,y1,Int.toNat_natCast],by rw[show(RcvT.heard y m).sh=y.sh from rfl,y2,Int.toNat_natCast],g3 (by simpa using hc)⟩
theorem NetIn.got_all (h:NetIn places shards x n) (hcl:ClosedN places x) {t f:Nat} (ht:t<places) (hf:f<places) (hne:f≠t) (hg:∀sh<shards,∀i<(x.H f t sh).length,Got x f t sh i) {T:Int} (hT:∀sh<shards,timeAt (x.H f t sh) (x.H f t sh).length=T):snapT (x.P t) f=T:=by
 obtain⟨i1,i2,i3⟩:=h.pid t ht
 have hs1:=(h.pin t ht).s1
 rw[i3]at hs1
 have hall:∀r∈(x.P t).rs,r.fm.toNat=f→r.t=T:=fun r hr hrf=>by
  obtain⟨p1,p2,p3⟩:=h.pair ht hr
  have hrc:=h.rcv t ht r hr
  rw[hrf]at hrc
  rw[←hT _ p3]
  refine(has_all hrc ((h.pin t ht).rcv r hr).1 (h.msg f hf t ht (Ne.symm hne) _ p3) (hcl t ht r hr) fun i hi=>?_).2
  obtain⟨r2,hr2,ha,hb,hh⟩:=hg _ p3 i hi
  have:r2=r:=h.recv_uniq ht hr2 hr (by rw[PlT.pairR,PlT.pairR,ha,hb,hrf])
  rw[←this]
  rw[←this]at hh
  exact hh
 rw[snapT,if_neg (by rw[i1];exact hne)]
 obtain⟨r,hr,hrf,_⟩:=h.recv ht hf hne (show 0<shards by omega)
 have hne2:((x.P t).rs.filter fun r=>decide (r.fm.toNat=f)).map (·.t)≠[]:=by
  intro h0
  rw[List.map_eq_nil_iff,List.filter_eq_nil_iff]at h0
  exact h0 r hr (by simp[hrf])
 obtain⟨z,hz,hzt⟩:=List.mem_map.1 (minT_mem hne2)
 obtain⟨hz1,hz2⟩:=List.mem_filter.1 hz
 rw[←hzt]
 exact hall z hz1 (of_decide_eq_true hz2)
end net
end Go.Proofs.YtmkapocibaojdaaGreatDoor
end
section
namespace Go.Proofs.YtmkapocibaojdaaGreatDoor
open Go Go.Sx
def newNet (places shards:Nat):Net:=⟨fun i=>newP i places shards,fun _ _ _=>[],fun _=>[]⟩
section
variable {places shards n:Nat} {x:Net}
theorem new_ss {id:Nat} {s:SndT} (hs:s∈(newP id places shards).ss):∃a b:Nat,s=⟨id,a,b,0,0,[]⟩:=by
 obtain⟨q,_,rfl⟩:=List.mem_map.1 hs
 exact⟨_,_,rfl⟩
theorem new_rs {id:Nat} {s:RcvT} (hs:s∈(newP id places shards).rs):∃a b:Nat,s=⟨a,id,b,0,0,[]⟩:=by
 obtain⟨q,_,rfl⟩:=List.mem_map.1 hs
 exact⟨_,_,rfl⟩
theorem net_new (hp1:1≤places) (hp6:places≤6) (hs1:1≤shards) (hs6:shards≤6):NetIn places shards (newNet places shards) 0 where
 pin i hi:=newP_in 0 hp1 hp6 hs1 hs6 hi
 pid i _:=⟨rfl,rfl,rfl⟩
 clk i _:=rfl
 com i _ j C h:=by simp[newNet]at h
 msg f _ t _ _ sh _:=⟨fun j m h=>by simp[newNet]at h,List.Pairwise.nil,fun C h=>by simp[newNet]at h⟩
 snd f _ s hs:=by
  obtain⟨a,b,rfl⟩:=new_ss hs
  exact⟨rfl,rfl,0,Nat.le_refl _,rfl⟩
 rcv t _ r hr:=by
  obtain⟨a,b,rfl⟩:=new_rs hr
  exact⟨Int.le_refl _,rfl,fun m h=>by cases h⟩
 L t _ q:=by
  constructor
  ·intro h
   cases h
  ·rintro(⟨C,hC,_⟩|⟨r,_,j,m,h,_⟩)
   ·cases hC
   ·simp[newNet]at h
 nodup t _:=List.nodup_nil
 base t ht u hu:=by
  refine inL_true (by simp[newNet,newP,snapL]) fun j a b ha hb=>?_
  have h1:a=0:=by
   have:=List.mem_of_getElem? ha
   exact List.eq_of_mem_replicate this
  have h2:=List.mem_of_getElem? hb
  obtain⟨k,hk,rfl⟩:=List.mem_map.1 h2
  have:=(snapT_in (newP_in 0 hp1 hp6 hs1 hs6 hu).toPlOk (List.mem_range.1 hk)).1
  rw[h1]
  exact this
theorem closed_new:ClosedN places (newNet places shards):=fun u _ r hr=>by
 obtain⟨a,b,rfl⟩:=new_rs hr
 intro z hz
 cases hz
theorem ClosedN.upd {f:Nat} {p:PlT} {K':List ComT} {X:Nat→Nat→List MsgT} (h:ClosedN places x) (hp:p.rs=(x.P f).rs):ClosedN places (x.upd f p K' X):=fun u hu r hr=>by
 by_cases huf:u=f
 ·subst huf
  rw[updP_at,hp]at hr
  exact h u hu r hr
 ·rw[updP_ne huf]at hr
  exact h u hu r hr
theorem NetIn.comX_at (h:NetIn places shards x n) {f:Nat} (hf:f<places) {C:ComT} (hC:C.place=f) {y:SndT} (hy:y∈(x.P f).ss):comX x shards f C y.to.toNat y.sh.toNat=msgC shards C y:=by
 have hso:=h.snd f hf y hy
 obtain⟨w1,w2⟩:=(h.pin f hf).way y hy
 have hsh:((y.sh.toNat:Nat):Int)=y.sh:=Int.toNat_of_nonneg w2
 have hto:((y.to.toNat:Nat):Int)=y.to:=Int.toNat_of_nonneg w1
 obtain⟨i1,i2,i3⟩:=h.pid f hf
 unfold comX msgC
 rw[hsh]
 split
 ·rfl
 ·have h1:(partC shards C y.sh).when.getD (partC shards C y.sh).place.toNat 0=C.when.getD f 0:=by
   show C.when.getD C.place.toNat 0=_
   rw[hC,Int.toNat_natCast]
  have h2:=((h.pin f hf).snd y hy).1
  rw[hto,SndT.msg,hso.q,h1,h2,i1]
theorem NetIn.beatX_at (h:NetIn places shards x n) {f:Nat} (hf:f<places) {y:SndT} (hy:y∈(x.P f).ss):beatX x f y.to.toNat y.sh.toNat=[SndT.beatM y (x.P f).clock]:=by
 have hso:=h.snd f hf y hy
 obtain⟨w1,w2⟩:=(h.pin f hf).way y hy
 have hsh:((y.sh.toNat:Nat):Int)=y.sh:=Int.toNat_of_nonneg w2
 have hto:((y.to.toNat:Nat):Int)=y.to:=Int.toNat_of_nonneg w1
 have h2:=((h.pin f hf).snd y hy).1
 rw[beatX,SndT.beatM,hsh,hto,hso.q,h2,(h.pid f hf).1,h.clk f hf]
theorem NetIn.com_sent (h:NetIn places shards x n) {f:Nat} (hf:f<places) {C:ComT} (hC:C.place=f) {m:MsgT} (hm:m∈comMs (x.P f) C):∃t sh:Nat,t<places∧t≠f∧sh<shards∧m.to=t∧((netCom x shards f C).H f t sh)[(x.H f t sh).length]?=some m:=by
 obtain⟨l,hl,hm⟩:=List.mem_flatten.1 hm
 obtain⟨y,hy,rfl⟩:=List.mem_map.1 hl
 obtain⟨p1,p2,p3⟩:=h.pairS hf hy
 obtain⟨w1,w2⟩:=(h.pin f hf).way y hy
 rw[(h.pid f hf).2.2]at hm
 have e:=h.comX_at hf hC hy
 have e2:msgC shards C y=[m]∧m.to=y.to:=by
  unfold msgC at hm ⊢
  split at hm
  ·cases hm
  ·rename_i h0
   rw[if_neg h0,List.mem_singleton.1 hm]
   exact⟨rfl,rfl⟩
 refine⟨_,_,p1,p2,p3,by omega,?_⟩
 rw[netCom,updH_at,e,e2.1,List.getElem?_concat_length]
theorem NetIn.beat_sent (h:NetIn places shards x n) {f:Nat} (hf:f<places) {m:MsgT} (hm:m∈beatMs (x.P f)):∃t sh:Nat,t<places∧t≠f∧sh<shards∧m.to=t∧((netBeat x f).H f t sh)[(x.H f t sh).length]?=some m:=by
 obtain⟨y,hy,rfl⟩:=List.mem_map.1 hm
 obtain⟨p1,p2,p3⟩:=h.pairS hf hy
 obtain⟨w1,w2⟩:=(h.pin f hf).way y hy
 refine⟨_,_,p1,p2,p3,by show y.to=_;omega,?_⟩
 rw[netBeat,updH_at,h.beatX_at hf hy,List.getElem?_concat_length]
theorem NetIn.sndAt (h:NetIn places shards x n) {t f sh:Nat} (ht:t<places) (hf:f<places) (hne:t≠f) (hs:sh<shards):∃y∈(x.P f).ss,y.to.toNat=t∧y.sh.toNat=sh:=by
 obtain⟨i1,i2,i3⟩:=h.pid f hf
 have h1:=(h.pin f hf).ss
 have h2:=pairsP_at (id:=f) (shards:=shards) (places:=places) ht hne hs
 rw[i1,i2,i3]at h1
 rw[←h1]at h2
 obtain⟨y,hy,he⟩:=List.mem_map.1 (List.mem_of_getElem? h2)
 obtain⟨e1,e2⟩:=Prod.mk.inj he
 exact⟨y,hy,e1,e2⟩
theorem NetIn.com_new (h:NetIn places shards x n) {f:Nat} (hf:f<places) {C:ComT} (hC:C.place=f) {t sh j:Nat} (ht:t<places) (hne:t≠f) (hs:sh<shards) {m:MsgT} (hm:((netCom x shards f C).H f t sh)[j]?=some m):(x.H f t sh)[j]?=some m∨m∈comMs (x.P f) C:=by
 obtain⟨y,hy,rfl,rfl⟩:=h.sndAt ht hf hne hs
 rw[netCom,updH_at,h.comX_at hf hC hy]at hm
 rcases Nat.lt_or_ge j (x.H f y.to.toNat y.sh.toNat).length with hj|hj
 ·rw[List.getElem?_append_left hj]at hm
  exact .inl hm
 ·rw[List.getElem?_append_right hj]at hm
  refine .inr (List.mem_flatten.2 ⟨_,List.mem_map_of_mem hy,?_⟩)
  rw[(h.pid f hf).2.2]
  exact List.mem_of_getElem? hm
theorem NetIn.beat_new (h:NetIn places shards x n) {f:Nat} (hf:f<places) {t sh j:Nat} (ht:t<places) (hne:t≠f) (hs:sh<shards) {m:MsgT} (hm:((netBeat x f).H f t sh)[j]?=some m):(x.H f t sh)[j]?=some m∨m∈beatMs (x.P f):=by
 obtain⟨y,hy,rfl,rfl⟩:=h.sndAt ht hf hne hs
 rw[netBeat,updH_at,h.beatX_at hf hy]at hm
 rcases Nat.lt_or_ge j (x.H f y.to.toNat y.sh.toNat).length with hj|hj
 ·rw[List.getElem?_append_left hj]at hm
  exact .inl hm
 ·rw[List.getElem?_append_right hj]at hm
  rw[List.mem_singleton.1 (List.mem_of_getElem? hm)]
  exact .inr (List.mem_map_of_mem hy)
end
end Go.Proofs.YtmkapocibaojdaaGreatDoor
end
section
namespace Go.Sx
open Go
theorem kindOf_all {l:List DoneT} {k:Int} (h:∀a∈l,a.o.kind=k) (hne:l≠[]):kindOf l=k:=by
 cases l with
 | nil=>exact absurd rfl hne
 | cons a l=>exact h a (List.mem_cons_self ..)
theorem only_one {l:List DoneT} {a:DoneT} (h:l.Pairwise fun a b=>doneLt a b=true) (hm:∀b,b∈l↔b=a):l=[a]:=
 eq_of_sorted (lt:=fun a b=>doneLt a b=true) (fun _ _=>doneLt_asymm) h (List.pairwise_singleton ..) fun x=>by rw[hm x,List.mem_singleton]
theorem snapL_len (x:PlT):(snapL x).length=x.places:=by simp[snapL]
end Go.Sx
namespace Go.Proofs.YtmkapocibaojdaaGreatDoor
open Go Go.Sx
theorem inL_refl (xs:List Int):inL xs xs=true:=inL_true rfl fun j x y hx hy=>by
 rw[hx]at hy
 cases hy
 exact Int.le_refl _
section
variable {places shards n:Nat} {x:Net}
theorem NetIn.dots1 (h:NetIn places shards x n) {at':List Int}:∀a∈allDone (seenK x.K places at'),∀b∈allDone (seenK x.K places at'),a.d=b.d→a=b:=fun a ha b hb he=>by
 obtain⟨C,hC,o,ho,rfl⟩:=mem_allDone.1 ha
 obtain⟨D,hD,p,hp,rfl⟩:=mem_allDone.1 hb
 obtain⟨f,hf,hC,_⟩:=mem_seenK.1 hC
 obtain⟨g,hg,hD,_⟩:=mem_seenK.1 hD
 simp only[doneOf,dotOf,DotT.mk.injEq]at he
 obtain⟨e1,e2,e3⟩:=he
 obtain⟨c1,_,_,c4,_⟩:=h.mem hf hC
 obtain⟨d1,_,_,_,_⟩:=h.mem hg hD
 have hfg:f=g:=by omega
 subst hfg
 rw[c1,d1,Int.toNat_natCast]at e2
 obtain rfl:=h.uniq hf hC hD e2
 rw[op_uniq c4 ho hp e3]
theorem NetIn.seen (h:NetIn places shards x n) {at':List Int} {key:ByteArray} {a:DoneT}:a∈opsOf key (seenK x.K places at')↔a.o.key=key∧∃f<places,∃C∈x.K f,inL C.when at'=true∧∃o∈C.ops,a=doneOf C o:=by
 rw[opsOf_mem,firsts_mem h.dots1,mem_allDone]
 constructor
 ·rintro⟨⟨C,hC,o,ho,he⟩,hk⟩
  obtain⟨f,hf,hC,hi⟩:=mem_seenK.1 hC
  exact⟨hk,f,hf,C,hC,hi,o,ho,he⟩
 ·rintro⟨hk,f,hf,C,hC,hi,o,ho,he⟩
  exact⟨⟨C,mem_seenK.2 ⟨f,hf,hC,hi⟩,o,ho,he⟩,hk⟩
theorem NetIn.reads (h:NetIn places shards x n) {t:Nat} (ht:t<places) (key:ByteArray):Sx.valOf key (withinC (x.P t).L key (snapL (x.P t)))=Sx.valOf key (seenK x.K places (snapL (x.P t))):=
 valOf_same (h.read ht (by rw[snapL_len,(h.pid t ht).2.1]) (inL_refl _) key)
theorem NetIn.whole (h:NetIn places shards x n) {C:ComT} {f:Nat} (hf:f<places) (hC:C∈x.K f) (hK:∀g<places,∀D∈x.K g,D=C) (h2:∀o∈C.ops,o.kind=2) (at':List Int) :
  (∀key,(∃o∈C.ops,o.key=key)→(Sx.valOf key (seenK x.K places at')).kind=2)∨(∀key,(Sx.valOf key (seenK x.K places at')).kind=0):=by
 by_cases hi:inL C.when at'=true
 ·refine .inl fun key ⟨o,ho,hk⟩=>kindOf_all (fun a ha=>?_) fun h0=>?_
  ·obtain⟨_,g,hg,D,hD,_,p,hp,rfl⟩:=h.seen.1 ha
   rw[hK g hg D hD]at hp
   exact h2 p hp
  ·have:doneOf C o∈opsOf key (seenK x.K places at'):=h.seen.2 ⟨hk,f,hf,C,hC,hi,o,ho,rfl⟩
   rw[h0]at this
   cases this
 ·refine .inr fun key=>?_
  have:opsOf key (seenK x.K places at')=[]:=List.eq_nil_iff_forall_not_mem.2 fun a ha=>by
   obtain⟨_,g,hg,D,hD,h1,_⟩:=h.seen.1 ha
   rw[hK g hg D hD]at h1
   exact hi h1
  show kindOf _=0
  rw[this]
  rfl
theorem NetIn.one (h:NetIn places shards x n) {C:ComT} {o:OpT} {f:Nat} (hf:f<places) (hC:C∈x.K f) (ho:C.ops=[o]) (hk:o.kind=2) (hn:o.n=1) (hK:∀g<places,∀D∈x.K g,∀p∈D.ops,p.key=o.key→D=C) {at':List Int} (hi:inL C.when at'=true):(Sx.valOf o.key (seenK x.K places at')).n=1:=by
 have e:opsOf o.key (seenK x.K places at')=[doneOf C o]:=only_one (opsOf_strict _ _) fun b=>by
  rw[h.seen]
  constructor
  ·rintro⟨h1,g,hg,D,hD,_,p,hp,rfl⟩
   have:=hK g hg D hD p hp h1
   subst this
   rw[ho]at hp
   rw[List.mem_singleton.1 hp]
  ·rintro rfl
   exact⟨rfl,f,hf,C,hC,hi,o,by simp[ho],rfl⟩
 have e2:(doneOf C o).o=o:=rfl
 simp[Sx.valOf,ofKey,e,kindL,kindOf,e2,hk,Sx.sumN,hn]
theorem NetIn.none (h:NetIn places shards x n) {key:ByteArray} {at':List Int} (hK:∀g<places,∀D∈x.K g,inL D.when at'=true→∀p∈D.ops,p.key≠key):(Sx.valOf key (seenK x.K places at')).n=0:=by
 have:opsOf key (seenK x.K places at')=[]:=List.eq_nil_iff_forall_not_mem.2 fun a ha=>by
  obtain⟨hk,g,hg,D,hD,h1,p,hp,rfl⟩:=h.seen.1 ha
  exact hK g hg D hD h1 p hp hk
 simp[Sx.valOf,this,kindOf]
theorem NetIn.own (h:NetIn places shards x n) {t:Nat} (ht:t<places):snapT (x.P t) t=(x.K t).length:=by
 rw[snapT,if_pos (h.pid t ht).1.symm,h.clk t ht]
def Even (places shards:Nat) (x:Net) (f:Nat):Prop:=∀t<places,t≠f→∀sh<shards,timeAt (x.H f t sh) (x.H f t sh).length=(x.K f).length
theorem NetIn.heard_all (h:NetIn places shards x n) (hcl:ClosedN places x) {t f:Nat} (ht:t<places) (hf:f<places) (hne:f≠t) (hg:∀sh<shards,∀i<(x.H f t sh).length,Got x f t sh i) (he:Even places shards x f):snapT (x.P t) f=(x.K f).length:=
 h.got_all hcl ht hf hne hg fun sh hs=>he t ht (Ne.symm hne) sh hs
end
end Go.Proofs.YtmkapocibaojdaaGreatDoor
end
section
namespace Go.Proofs.YtmkapocibaojdaaGreatDoor
open Go Go.Sx
def SentAt (shards:Nat) (x:Net) (f t:Nat) (m:MsgT):Prop:=∃s j:Nat,s<shards∧(x.H f t s)[j]?=some m
def Came (shards:Nat) (x:Net) (f t:Nat) (m:MsgT):Prop:=∃s j:Nat,s<shards∧(x.H f t s)[j]?=some m∧Got x f t s j
def FullN (places:Nat) (x:Net):Prop:=∀f<places,∀s∈(x.P f).ss,s.l=x.H f s.to.toNat s.sh.toNat
section
variable {places shards n f t:Nat} {x:Net} {m:MsgT}
theorem NetIn.hlen (h:NetIn places shards x n) {s:Nat} (hf:f<places) (ht:t<places) (hne:t≠f) (hs:s<shards):(x.H f t s).length≤n:=by
 obtain⟨y,hy,h1,h2⟩:=h.sndAt ht hf hne hs
 have h3:=(h.snd f hf y hy).q
 rw[h1,h2]at h3
 have h4:=((h.pin f hf).snd y hy).2.2.2.1
 omega
theorem SentAt.fine (hm:SentAt shards x f t m) (h:NetIn places shards x n) (hf:f<places) (ht:t<places) (hne:t≠f):m.fm=f∧m.to=t∧Fit m∧1≤m.seq∧m.seq≤n∧0≤m.time:=by
 obtain⟨s,j,hs,hj⟩:=hm
 obtain⟨h1,h2,h3,h4,h5,h6,_⟩:=(h.msg f hf t ht hne s hs).at' j m hj
 have h7:=(List.getElem?_eq_some_iff.1 hj).1
 have h8:=h.hlen hf ht hne hs
 exact⟨h1,h2,h.fit ht hf (Ne.symm hne) hs hj,by omega,by omega,h5⟩
theorem SentAt.hear (hm:SentAt shards x f t m) (h:NetIn places shards x n) (hf:f<places) (ht:t<places) (hne:t≠f) (hl:∀s<shards,(x.H f t s).length≤201):NetIn places shards (x.setP t (hearPl (x.P t) m).2.2) (n+1)∧(hearPl (x.P t) m).1=0:=by
 obtain⟨s,j,hs,hj⟩:=hm
 obtain⟨h1,h2⟩:=h.hear ht hf (Ne.symm hne) hs hj
 exact⟨h1,h2 (hl s hs)⟩
theorem SentAt.upd (hm:SentAt shards x f t m) (g:Nat) (p:PlT) (K':List ComT) (X:Nat→Nat→List MsgT):SentAt shards (x.upd g p K' X) f t m:=by
 obtain⟨s,j,hs,hj⟩:=hm
 refine⟨s,j,hs,?_⟩
 by_cases hg:f=g
 ·subst hg
  rw[updH_at,List.getElem?_append_left (List.getElem?_eq_some_iff.1 hj).1]
  exact hj
 ·rw[updH_ne hg]
  exact hj
theorem NetIn.com_at (h:NetIn places shards x n) (hf:f<places) {C:ComT} (hC:C.place=f) (hm:m∈comMs (x.P f) C):∃t<places,t≠f∧m.to=t∧SentAt shards (netCom x shards f C) f t m:=by
 obtain⟨t,s,h1,h2,h3,h4,h5⟩:=h.com_sent hf hC hm
 exact⟨t,h1,h2,h4,s,_,h3,h5⟩
theorem NetIn.beat_at (h:NetIn places shards x n) (hf:f<places) (hm:m∈beatMs (x.P f)):∃t<places,t≠f∧m.to=t∧SentAt shards (netBeat x f) f t m:=by
 obtain⟨t,s,h1,h2,h3,h4,h5⟩:=h.beat_sent hf hm
 exact⟨t,h1,h2,h4,s,_,h3,h5⟩
theorem SentAt.came (hm:SentAt shards x f t m) (h:NetIn places shards x n) (hcl:ClosedN places x) (hf:f<places) (ht:t<places) (hne:t≠f) (hl:∀s<shards,(x.H f t s).length≤201) :
  ClosedN places (x.setP t (hearPl (x.P t) m).2.2)∧Came shards (x.setP t (hearPl (x.P t) m).2.2) f t m∧∀f' t' z,Came shards x f' t' z→Came shards (x.setP t (hearPl (x.P t) m).2.2) f' t' z:=by
 have h0:=(hm.hear h hf ht hne hl).2
 obtain⟨s,j,hs,hj⟩:=hm
 obtain⟨h1,h2,h3⟩:=h.hear_got hcl ht hf (Ne.symm hne) hs hj
 exact⟨h1,⟨s,j,hs,hj,h3 h0⟩,fun f' t' z ⟨s,j,a,b,c⟩=>⟨s,j,a,b,h2 _ _ _ _ c⟩⟩
theorem NetIn.all_came (h:NetIn places shards x n) (hf:f<places) (ht:t<places) (hne:t≠f) (ha:∀z,SentAt shards x f t z→Came shards x f t z):∀sh<shards,∀i<(x.H f t sh).length,Got x f t sh i:=fun s hs i hi=>by
 have hm:(x.H f t s)[i]?=some (x.H f t s)[i]:=List.getElem?_eq_getElem hi
 obtain⟨s2,j,hs2,hj,hg⟩:=ha _ ⟨s,i,hs,hm⟩
 obtain⟨_,_,a3,a4,_⟩:=(h.msg f hf t ht hne s hs).at' i _ hm
 obtain⟨_,_,b3,b4,_⟩:=(h.msg f hf t ht hne s2 hs2).at' j _ hj
 have e1:s=s2:=by omega
 have e2:i=j:=by omega
 subst e1 e2
 exact hg
theorem known_snap {p:PlT} (hx:PlOk p):knownErr p (snapL p)=0:=by
 rw[knownErr,if_neg (by simp[snapL_ok hx]),if_neg (by simp[snapL_len]),if_pos (inL_refl _)]
theorem FullN.com (h:NetIn places shards x n) (hF:FullN places x) (hf:f<places) {C:ComT} (hC:C.place=f):FullN places (netCom x shards f C):=fun i hi s hs=>by
 by_cases hif:i=f
 ·subst hif
  rw[netCom,updP_at]at hs
  obtain⟨y,hy,rfl⟩:=List.mem_map.1 hs
  have h1:=hF i hi y hy
  have h2:=h.comX_at hi hC hy
  have e1:(sndC (x.P i).shards C y).to=y.to∧(sndC (x.P i).shards C y).sh=y.sh:=by
   unfold sndC
   split <;> exact⟨rfl,rfl⟩
  rw[netCom,updH_at,e1.1,e1.2,h2,←h1,(h.pid i hi).2.2]
  unfold sndC msgC
  split
  ·simp
  ·rfl
 ·rw[netCom,updP_ne hif]at hs
  rw[netCom,updH_ne hif]
  exact hF i hi s hs
theorem FullN.beat (h:NetIn places shards x n) (hF:FullN places x) (hf:f<places):FullN places (netBeat x f):=fun i hi s hs=>by
 by_cases hif:i=f
 ·subst hif
  rw[netBeat,updP_at]at hs
  obtain⟨y,hy,rfl⟩:=List.mem_map.1 hs
  have h1:=hF i hi y hy
  have h2:=h.beatX_at hi hy
  show y.l++[SndT.beatM y (x.P i).clock]=(netBeat x i).H i y.to.toNat y.sh.toNat
  rw[netBeat,updH_at,h2,←h1]
 ·rw[netBeat,updP_ne hif]at hs
  rw[netBeat,updH_ne hif]
  exact hF i hi s hs
theorem hearPl_ss {p:PlT} (hm:m.time≠-1):(hearPl p m).2.2.ss=p.ss:=by
 by_cases h:hearWay p m≠0
 ·rw[hearPl,if_pos h]
 ·rw[hearPl,if_neg h,if_neg hm]
  split
  ·rfl
  ·split <;> rfl
theorem FullN.hear (hF:FullN places x) (hm:m.time≠-1):FullN places (x.setP t (hearPl (x.P t) m).2.2):=fun i hi s hs=>by
 by_cases hit:i=t
 ·subst hit
  rw[setP_at,hearPl_ss hm]at hs
  exact hF i hi s hs
 ·rw[setP_ne _ _ hit]at hs
  exact hF i hi s hs
theorem FullN.again (hF:FullN places x) (h:NetIn places shards x n) (hf:f<places) (hm:m∈againMs (x.P f)):∃t<places,t≠f∧SentAt shards x f t m:=by
 obtain⟨l,hl,hm⟩:=List.mem_flatten.1 hm
 obtain⟨y,hy,rfl⟩:=List.mem_map.1 hl
 obtain⟨p1,p2,p3⟩:=h.pairS hf hy
 rw[hF f hf y hy]at hm
 obtain⟨j,hj⟩:=List.getElem?_of_mem hm
 exact⟨_,p1,p2,_,j,p3,hj⟩
theorem FullN.back (hF:FullN places x) (h:NetIn places shards x n) (hf:f<places) (ht:t<places) (hne:t≠f) (hm:SentAt shards x f t m):m∈againMs (x.P f):=by
 obtain⟨s,j,hs,hj⟩:=hm
 obtain⟨y,hy,h1,h2⟩:=h.sndAt ht hf hne hs
 refine List.mem_flatten.2 ⟨_,List.mem_map_of_mem hy,?_⟩
 rw[hF f hf y hy,h1,h2]
 exact List.mem_of_getElem? hj
end
end Go.Proofs.YtmkapocibaojdaaGreatDoor
end
section
namespace Go.Proofs.YtmkapocibaojdaaGreatDoor
open Go Go.Sx
theorem vecErr_mk {xs:List Int} (h1:1≤xs.length) (h6:xs.length≤6) (h:∀t∈xs,0≤t∧t≤1099511627776):vecErr xs=0:=by
 rw[vecErr,if_neg (by omega),if_neg]
 intro ha
 obtain⟨t,ht,hb⟩:=List.any_eq_true.1 ha
 have:=h t ht
 simp only[badT,Bool.or_eq_true,decide_eq_true_eq]at hb
 omega
theorem renum_inc (ops:List OpT):(renum ops).Pairwise fun a b=>a.no<b.no:=by
 rw[List.pairwise_iff_getElem]
 intro i j hi hj hlt
 simp only[renum,List.getElem_mapIdx]
 omega
theorem com_fine {x:PlT} {n:Nat} {at':List Int} {ops:List OpT} (hx:PlIn x n) (hn:n<600) (hk:knownErr x at'=0) (h0:ops≠[]) (h12:ops.length≤12) (ho:∀o∈ops,∀i:Nat,i<12→opErr { o with no:=i } x.places=0):(comErr x at' ops).code=0:=by
 obtain⟨k1,k2,k3⟩:=known_len hk
 have hc:=hx.clk
 have hc0:=hx.c0
 have hid:=hx.id
 have hp1:=hx.p1
 have hp6:=hx.p6
 have hl:(comP x at' ops).when.length=at'.length:=by simp[comP]
 rw[comErr,if_neg (by simp[hk]),if_neg (by omega)]
 refine comFault_mk (vecErr_mk (by omega) (by omega) fun t ht=>?_) (show(0:Int)≤(x.id:Int)by omega) (by rw[hl];show(x.id:Int)<_;omega) (by show(renum ops).length≤12;rw[renum_len];exact h12) ?_ ?_ (fun o hm=>?_) (renum_inc ops)
 ·rcases List.mem_or_eq_of_mem_set ht with ht|rfl
  ·exact vecErr_in k1 t ht
  ·omega
 ·show(at'.set x.id (x.clock+1))[(x.id:Int).toNat]?≠some 0
  rw[Int.toNat_natCast,List.getElem?_set_self (by omega)]
  intro h
  have:=Option.some.inj h
  omega
 ·intro h
  have:=congrArg List.length h
  rw[show(comP x at' ops).ops=renum ops from rfl,renum_len]at this
  exact h0 (List.length_eq_zero_iff.1 this)
 ·obtain⟨i,hi,rfl⟩:=List.mem_mapIdx.1 hm
  rw[hl,k2]
  exact ho _ (List.getElem_mem hi) i (by omega)
def cOp (key:ByteArray):OpT:=⟨0,key,2,ByteArray.mk #[],1,false,[]⟩
theorem cOp_fine {key:ByteArray} (hk:nameOk key=true) {p i:Nat} (h1:1≤p) (h6:p≤6) (hi:i<12):opErr { cOp key with no:=i } p=0:=by
 have h0:(ByteArray.mk #[]).size=0:=rfl
 rw[opRest (by show ¬((p:Int)<1∨6<(p:Int)∨(i:Int)<0∨12≤(i:Int));omega) hk (.inr (.inl rfl)) (by simp[shapeOk,cOp,h0]),if_neg (by simp only[cOp,List.length_nil,h0];omega),if_neg (by simp[cOp,badDots])]
theorem known_zero {i p sh:Nat} (hp1:1≤p) (hp6:p≤6) (hs1:1≤sh) (hs6:sh≤6) (hi:i<p):knownErr (newP i p sh) (List.replicate p 0)=0:=by
 have h1:inL (List.replicate p 0) (snapL (newP i p sh))=true:=(net_new hp1 hp6 hs1 hs6).base i hi i hi
 rw[knownErr,if_neg (by simp[zeros_ok hp1 hp6]),if_neg (by simp[newP]),if_pos h1]
theorem atErr_snap {x:PlT} (hx:PlOk x) (hb:inL x.base (snapL x)=true) {key:ByteArray} (hk:nameOk key=true):atErr x.places x.base key (snapL x)=0:=by
 rw[atErr,if_neg (by simp[hk]),if_neg (by simp[snapL_ok hx]),if_neg (by simp[snapL_len]),if_neg (by simp[hb])]
structure Sys (places shards:Nat) (x:Net) (l:List MsgT) (n:Nat):Prop where
 net:NetIn places shards x n
 cl:ClosedN places x
 l:∀m∈l,∃f<places,∃t<places,t≠f∧m.to=t∧SentAt shards x f t m
 few:∀f<places,∀t<places,t≠f→∀s<shards,(x.H f t s).length≤201
def AllIn (places shards:Nat) (x:Net) (l:List MsgT):Prop:=∀f<places,∀t<places,t≠f→∀m,SentAt shards x f t m→m∈l
section
variable {places shards n f t:Nat} {x:Net} {m:MsgT} {l:List MsgT}
theorem sys_new (hp1:1≤places) (hp6:places≤6) (hs1:1≤shards) (hs6:shards≤6):Sys places shards (newNet places shards) [] 0:=⟨net_new hp1 hp6 hs1 hs6,closed_new,by simp,fun _ _ _ _ _ _ _=>by simp[newNet]⟩
theorem Sys.hear (h:Sys places shards x l n) (hm:m∈l) (ht:t<places) (hto:m.to=t) :
  Sys places shards (x.setP t (hearPl (x.P t) m).2.2) l (n+1)∧(hearPl (x.P t) m).1=0∧Fit m∧1≤m.seq∧m.seq≤n∧0≤m.time∧(∃f<places,f≠t∧m.fm=f∧Came shards (x.setP t (hearPl (x.P t) m).2.2) f t m)∧∀f' t' z,Came shards x f' t' z→Came shards (x.setP t (hearPl (x.P t) m).2.2) f' t' z:=by
 obtain⟨f,hf,t',ht',hne,hto',hs⟩:=h.l m hm
 obtain rfl:t'=t:=by omega
 have hw:=h.few f hf t' ht hne
 obtain⟨a1,a2⟩:=hs.hear h.net hf ht hne hw
 obtain⟨b1,b2,b3⟩:=hs.came h.net h.cl hf ht hne hw
 obtain⟨c1,c2,c3,c4,c5,c6⟩:=hs.fine h.net hf ht hne
 exact⟨⟨a1,b1,h.l,h.few⟩,a2,c3,c4,c5,c6,⟨f,hf,Ne.symm hne,c1,b2⟩,b3⟩
theorem Sys.com (h:Sys places shards x l n) (hn:n<201) (hf:f<places) {at':List Int} {ops:List OpT} (hc:(comErr (x.P f) at' ops).code=0) (hd:∀o∈ops,o.dots.length≤1000000):Sys places shards (netCom x shards f (comP (x.P f) at' ops)) (l++comMs (x.P f) (comP (x.P f) at' ops)) (n+1):=by
 have h1:=h.net.com_ok hf hc hd
 refine⟨h1,h.cl.upd rfl,fun m hm=>?_,fun f' hf' t ht hne s hs=>Nat.le_trans (h1.hlen hf' ht hne hs) (by omega)⟩
 rcases List.mem_append.1 hm with hm|hm
 ·obtain⟨f',a,t,b,c,d,e⟩:=h.l m hm
  exact⟨f',a,t,b,c,d,e.upd ..⟩
 ·obtain⟨t,a,b,c,d⟩:=h.net.com_at hf (C:=comP (x.P f) at' ops) (by show(((x.P f).id:Nat):Int)=f;rw[(h.net.pid f hf).1]) hm
  exact⟨f,hf,t,a,b,c,d⟩
theorem Sys.beat (h:Sys places shards x l n) (hn:n<201) (hf:f<places):Sys places shards (netBeat x f) (l++beatMs (x.P f)) (n+1):=by
 have h1:=h.net.beat_ok hf
 refine⟨h1,h.cl.upd rfl,fun m hm=>?_,fun f' hf' t ht hne s hs=>Nat.le_trans (h1.hlen hf' ht hne hs) (by omega)⟩
 rcases List.mem_append.1 hm with hm|hm
 ·obtain⟨f',a,t,b,c,d,e⟩:=h.l m hm
  exact⟨f',a,t,b,c,d,e.upd ..⟩
 ·obtain⟨t,a,b,c,d⟩:=h.net.beat_at hf hm
  exact⟨f,hf,t,a,b,c,d⟩
theorem Sys.mono (h:Sys places shards x l n) {k:Nat} (hk:n≤k):Sys places shards x l k:=⟨h.net.mono hk,h.cl,h.l,h.few⟩
theorem Sys.sub (h:Sys places shards x l n) {l':List MsgT} (hl:∀m∈l',∃f<places,∃t<places,t≠f∧m.to=t∧SentAt shards x f t m):Sys places shards x l' n:=⟨h.net,h.cl,hl,h.few⟩
theorem AllIn.com (ha:AllIn places shards x l) (h:NetIn places shards x n) (hf:f<places) {C:ComT} (hC:C.place=f):AllIn places shards (netCom x shards f C) (l++comMs (x.P f) C):=fun f' hf' t ht hne m ⟨s,j,hs,hj⟩=>by
 by_cases hff:f'=f
 ·subst hff
  rcases h.com_new hf hC ht hne hs hj with h1|h1
  ·exact List.mem_append.2 (.inl (ha f' hf' t ht hne m ⟨s,j,hs,h1⟩))
  ·exact List.mem_append.2 (.inr h1)
 ·rw[netCom,updH_ne hff]at hj
  exact List.mem_append.2 (.inl (ha f' hf' t ht hne m ⟨s,j,hs,hj⟩))
theorem AllIn.beat (ha:AllIn places shards x l) (h:NetIn places shards x n) (hf:f<places):AllIn places shards (netBeat x f) (l++beatMs (x.P f)):=fun f' hf' t ht hne m ⟨s,j,hs,hj⟩=>by
 by_cases hff:f'=f
 ·subst hff
  rcases h.beat_new hf ht hne hs hj with h1|h1
  ·exact List.mem_append.2 (.inl (ha f' hf' t ht hne m ⟨s,j,hs,h1⟩))
  ·exact List.mem_append.2 (.inr h1)
 ·rw[netBeat,updH_ne hff]at hj
  exact List.mem_append.2 (.inl (ha f' hf' t ht hne m ⟨s,j,hs,hj⟩))
theorem Sys.heard (h:Sys places shards x l n) (hf:f<places) (ht:t<places) (hne:t≠f) (he:Even places shards x f) (ha:∀z,SentAt shards x f t z→Came shards x f t z):snapT (x.P t) f=(x.K f).length:=
 h.net.heard_all h.cl ht hf (Ne.symm hne) (h.net.all_came hf ht hne ha) he
end
end Go.Proofs.YtmkapocibaojdaaGreatDoor
end
section
namespace Go.Proofs.YtmkapocibaojdaaGreatDoor
open Go Go.Sx
structure WholeI (sh:Nat) (C:ComT) (l:List MsgT) (x:Net) (n:Nat):Prop where
 sys:Sys 2 sh x l n
 memC:C∈x.K 0
 K:∀g<2,∀D∈x.K g,D=C
 to:∀m∈l,m.to=1
theorem to_one {sh:Nat} {x:Net} {l:List MsgT} {n:Nat} (h:Sys 2 sh x l n) (hf:∀m∈l,m.fm=0):∀m∈l,m.to=1:=fun m hm=>by
 obtain⟨f,hf2,t,ht,hne,hto,hs⟩:=h.l m hm
 have h1:=(hs.fine h.net hf2 ht hne).1
 have h2:=hf m hm
 omega
theorem comMs_fm {x:PlT} {n:Nat} (hx:PlIn x n) {C:ComT} {m:MsgT} (hm:m∈comMs x C):m.fm=x.id:=by
 obtain⟨l,hl,hm⟩:=List.mem_flatten.1 hm
 obtain⟨y,hy,rfl⟩:=List.mem_map.1 hl
 unfold msgC at hm
 split at hm
 ·cases hm
 ·rw[List.mem_singleton.1 hm]
  exact(hx.snd y hy).1
section
variable {sh:Nat} {keys:List ByteArray}
theorem whole_com (hs1:1≤sh) (hs6:sh≤6) (h0:keys≠[]) (h12:keys.length≤12) (hk:∀k∈keys,nameOk k=true):(comErr (newP 0 2 sh) [0,0] (keys.map cOp)).code=0:=by
 refine com_fine (newP_in 0 (by decide) (by decide) hs1 hs6 (by decide)) (by decide) (known_zero (i:=0) (p:=2) (by decide) (by decide) hs1 hs6 (by decide)) (by simpa using h0) (by simpa using h12) fun o ho i hi=>?_
 obtain⟨k,hk2,rfl⟩:=List.mem_map.1 ho
 exact cOp_fine (hk k hk2) (by show 1≤2;decide) (by show 2≤6;decide) hi
theorem cOp_dots {keys:List ByteArray}:∀o∈keys.map cOp,o.dots.length≤1000000:=fun o ho=>by
 obtain⟨k,_,rfl⟩:=List.mem_map.1 ho
 simp[cOp]
theorem whole_start (hs1:1≤sh) (hs6:sh≤6) (hc:(comErr (newP 0 2 sh) [0,0] (keys.map cOp)).code=0):WholeI sh (comP (newP 0 2 sh) [0,0] (keys.map cOp)) (comMs (newP 0 2 sh) (comP (newP 0 2 sh) [0,0] (keys.map cOp))) (netCom (newNet 2 sh) sh 0 (comP (newP 0 2 sh) [0,0] (keys.map cOp))) 1:=by
 have h1:=(sys_new (places:=2) (by decide) (by decide) hs1 hs6).com (f:=0) (by decide) (by decide) hc cOp_dots
 rw[List.nil_append]at h1
 refine⟨h1,?_,fun g hg D hD=>?_,to_one h1 fun m hm=>comMs_fm (newP_in 0 (by decide) (by decide) hs1 hs6 (by decide)) hm⟩
 ·rw[netCom,updK_at]
  exact List.mem_append.2 (.inr (List.mem_singleton.2 rfl))
 ·rcases(by omega:g=0∨g=1)with rfl|rfl
  ·rw[netCom,updK_at]at hD
   rcases List.mem_append.1 hD with hD|hD
   ·cases hD
   ·exact List.mem_singleton.1 hD
  ·rw[netCom,updK_ne (by decide)]at hD
   cases hD
theorem WholeI.beat {C:ComT} {l:List MsgT} {x:Net} {n:Nat} (h:WholeI sh C l x n) (hn:n<201):WholeI sh C (l++beatMs (x.P 0)) (netBeat x 0) (n+1):=by
 have h1:=h.sys.beat hn (f:=0) (by decide)
 refine⟨h1,?_,fun g hg D hD=>?_,fun m hm=>?_⟩
 ·rw[netBeat,updK_at]
  exact h.memC
 ·rcases(by omega:g=0∨g=1)with rfl|rfl
  ·rw[netBeat,updK_at]at hD
   exact h.K 0 (by decide) D hD
  ·rw[netBeat,updK_ne (by decide)]at hD
   exact h.K 1 (by decide) D hD
 ·rcases List.mem_append.1 hm with hm|hm
  ·exact h.to m hm
  ·obtain⟨t,a,b,c,_⟩:=h.sys.net.beat_at (by decide) hm
   omega
theorem WholeI.hear {C:ComT} {l:List MsgT} {x:Net} {n:Nat} {m:MsgT} (h:WholeI sh C l x n) (hm:m∈l):WholeI sh C l (x.setP 1 (hearPl (x.P 1) m).2.2) (n+1)∧(hearPl (x.P 1) m).1=0∧Fit m∧1≤m.seq∧m.seq≤n:=by
 obtain⟨h1,h2,h3,h4,h5,_⟩:=h.sys.hear hm (t:=1) (by decide) (h.to m hm)
 exact⟨⟨h1,h.memC,h.K,h.to⟩,h2,h3,h4,h5⟩
theorem WholeI.read {C:ComT} {l:List MsgT} {x:Net} {n:Nat} (h:WholeI sh C l x n) (h2:∀o∈C.ops,o.kind=2) :
  (∀key,(∃o∈C.ops,o.key=key)→(Sx.valOf key (withinC (x.P 1).L key (snapL (x.P 1)))).kind=2)∨(∀key,(Sx.valOf key (withinC (x.P 1).L key (snapL (x.P 1)))).kind=0):=by
 rcases h.sys.net.whole (f:=0) (by decide) h.memC h.K h2 (snapL (x.P 1))with h3|h3
 ·exact .inl fun key hk=>by rw[h.sys.net.reads (by decide)];exact h3 key hk
 ·exact .inr fun key=>by rw[h.sys.net.reads (by decide)];exact h3 key
theorem renum_cOp {keys:List ByteArray} {at':List Int} {x:PlT}:(∀o∈(comP x at' (keys.map cOp)).ops,o.kind=2)∧∀k∈keys,∃o∈(comP x at' (keys.map cOp)).ops,o.key=k:=by
 refine⟨fun o ho=>?_,fun k hk=>?_⟩
 ·obtain⟨o2,h2,i,rfl⟩:=renum_mem ho
  obtain⟨k,_,rfl⟩:=List.mem_map.1 h2
  rfl
 ·obtain⟨i,hi⟩:=List.getElem?_of_mem hk
  have h1:(keys.map cOp)[i]?=some (cOp k):=by rw[List.getElem?_map,hi];rfl
  exact⟨_,List.mem_of_getElem? (renum_at h1),rfl⟩
end
end Go.Proofs.YtmkapocibaojdaaGreatDoor
end
section
namespace Go.Sx
open Go
structure NetS where
 i:Int
 x:Net
end Go.Sx
namespace Go.Proofs.YtmkapocibaojdaaGreatDoor
open Go Go.Sx
set_option maxHeartbeats 4000000 in
theorem vown2 {w:World} {S:Nat→Prop} {a:Option Addr} {n c:Nat} {xs:List Int} (ha:Rep w S (.slice a n c) (dInts xs)) (hl:xs.length≤1000000) :
  Calls Tryz.prog 26 #[.slice a n c] w fun e w'=>∃a' c',Ret [] w S w' e (.slice a' n c') [] [(.slice a' n c',dInts xs)]:=by
 obtain rfl:=rep_ints_len ha
 refine epG Tryz.func26 bd26 (args:=[.slice a xs.length c]) (G:=[(_,dInts xs)]) (by kernel_rfl) (.cons ha (.nil _ _)) ?_
 refine J_stp (stp_accm eI 3 1) ?_
 try simp only[aQ]
 refine Zs [zR 0] [] [zS 2 none 0 0] ?_
 refine Zs [zR 0] [] [zS 3 none 0 0] ?_
 refine jS [(0,true),(1,true),(2,false),(3,true)] [] ?_
 refine Ya [zR 0,zR 1] [3,0] [zS 4 none 0 0,zS 5 a xs.length c] ?_
 refine JR_appm 0 32 3 1 8 (.int .i64 0) (a0:=none) (len:=0) (cap0:=0) (ax:=a) (m:=xs.length) (c:=c) (dst:=(some 6)) xs (by kernel_rfl) (by kernel_rfl) (by kernel_rfl) (by kernel_rfl) rfl (by decide) rfl (fun _ _ _ s=>src_fact s 0 rfl (by decide)) (by simp only[maxLen];omega) (by omega) (fun av1 cv1=>?_)
 rw[Nat.zero_add]
 try simp only[aQ]
 refine Ya [zR 3] [6,4,5] [zS 2 av1 xs.length cv1] ?_
 try simp only[aQ]
 refine JR_end ?_
 try simp only[aQ]
 refine Yr [[]] (.slice av1 xs.length cv1) fun a w s=>?_
 exact⟨av1,cv1,(s.stp (stp_freeze 0 rfl)).ret (by simp) [] [1] rfl rfl⟩
theorem readK_snap {x:PlT} (hx:PlOk x) (hb:inL x.base (snapL x)=true) {key:ByteArray} (hk:nameOk key=true):readK x key (snapL x)=0:=by
 have h1:readErr x key (snapL x)=0:=by rw[readErr,if_pos hk,known_snap hx]
 rw[readK,if_neg (by simp[h1]),atErr_snap hx hb hk]
def mF (q:Bool) (i:Int):Int:=if i=0 then 0 else if q then i else 0
theorem mF_true {i:Int} (hi:0≤i):mF true i=i:=by
 unfold mF
 split <;> simp_all
theorem mF_false {i:Int}:mF false i=0:=by
 unfold mF
 split <;> simp
set_option maxHeartbeats 8000000 in
theorem wholeTail {w0:World} {S0:Nat→Prop} {er:Nat→Addr} {eb:Nat→Array Value×TypeId} {sh:Nat} {ka ta:Option Addr} {kc tc:Nat} {keys:List ByteArray} {pick:List Int} {C:ComT} {l:List MsgT} {x:Net} {n qb k cv:Nat} {av:Option Addr} (hw:WholeI sh C l x n) (hn:n≤2) (h2:∀o∈C.ops,o.kind=2) (hk:∀q∈keys,nameOk q=true∧∃o∈C.ops,o.key=q) (hk12:keys.length≤12) (hp60:pick.length≤60) :
  J Tryz.prog Tryz.f4 (retR Tryz.prog Tryz.f4 fun e w'=>Ret [] (zero w0) S0 w' e (.bool true) [] []) Tryz.f4.ntmps [.c (.rg 21 false),.c (.block 2 (.loop (.seq (.seq (.rg 22 false) (.cond (.tmp 118) .skip (.exit 2))) (.seq (.block 3 (.seq (.seq (.rg 24 false) (.cond (.tmp 134) (.exit 3) .skip)) (.seq (.rg 25 false) (.seq (.rg 26 false) (.cond (.tmp 148) (.seq (.rg 27 false) .ret) .skip))))) (.rg 23 false))))),.c (.seq (.rg 28 false) (.seq (.rg 29 false) (.seq (.seq (.rg 30 false) (.block 4 (.loop (.seq (.seq (.rg 31 false) (.cond (.tmp 154) .skip (.exit 4))) (.seq (.block 5 (.seq (.rg 33 true) (.seq (.seq (.rg 34 false) (.cond (.tmp 169) (.seq (.rg 35 false) .ret) .skip)) (.seq (.rg 36 false) (.cond (.tmp 172) (.rg 37 false) .skip))))) (.rg 32 false)))))) (.seq (.rg 38 false) .ret))))] [(1,.val (.slice ka keys.length kc)),(2,.val (.slice ta pick.length tc)),(8,.val (.bool false)),(12,.val (.pointer (some ⟨qb,0,none⟩))),(18,.val (.slice av k cv))] [] [] [([],zero w0)] ⟨newS S0 [] w0,[cPlace qb (x.P 1)],[(.nilIface,dC er eb),(.slice ka keys.length kc,dStrs keys),(.slice ta pick.length tc,dInts pick),(.slice av k cv,.sl 9 (l.map eMsg))]⟩:=by
 refine J_stpx (stp_replen 3 rfl) fun _ hkl=>?_
 rw[List.length_map]at hkl
 subst hkl
 refine Za [zR 0] [] [zI 20 0] ?_
 refine J_block ?_
 refine J_loopx (fun z:NetS=>[zS 1 ka keys.length kc,zS 2 ta pick.length tc,zB 8 false,zP 12 qb,zS 18 av l.length cv,zI 20 z.i]) (fun z:NetS=>[]) (fun z:NetS=>[cPlace qb (z.x.P 1)]) (fun z:NetS=>[(.nilIface,(dC er eb)),(.slice ka keys.length kc,(dStrs keys)),(.slice ta pick.length tc,(dInts pick)),(.slice av l.length cv,(D.sl 9 (List.map eMsg l)))]) (fun z:NetS=>(pick.length - z.i).toNat) (fun z:NetS=>(0≤z.i∧z.i≤pick.length∧WholeI sh C l z.x (n+z.i.toNat))) ⟨0,x⟩ [1,2,8,12,18,20] [] [0] [0,1,2,3] ?_ (by kernel_rfl) rfl rfl rfl ?_
 ·exact⟨by simp,by simp,by simpa using hw⟩
 clear hw
 rintro⟨i,x⟩ ⟨hi0,hi,hw⟩
 dsimp only at hi0 hi hw ⊢
 refine J_seq ?_
 refine Zs (Rds 0 4) [] [zB 118 (decide (i<(↑pick.length:Int)))] ?_
 refine cC (t:=decide (i<(↑pick.length:Int))) (fun hlt=>?_) (fun hlt=>?_)
 ·have hlt2:i<pick.length:=of_decide_eq_true hlt
  have hi1:n+(i+1).toNat=n+i.toNat+1:=by omega
  obtain⟨t,ht⟩:∃t,pick[i.toNat]?=some t:=⟨_,List.getElem?_eq_getElem (by omega)⟩
  refine J_read0 2 rfl i.toNat (map_at ht) (by kernel_rfl) (fun b1 off1 cs1 ty1 fz1 ha1 hrd1=>?_)
  cases ha1
  have hrd1_0:=rd0 (hrd1 0 _ rfl)
  try simp only[aQ]
  refine J_skip (J_seq (J_block (J_seq ?_)))
  refine Zt [zR 0,zR 1,.rd 2 [] 0 2,.rd 3 [.r 0 (some (nI t))] 0 0,zR 4,zR 5,.rd 6 [] 2 0,.rd 7 [] 2 0,.rd 8 [] 2 2,.rd 9 [.r 0 (some (nI t))] 2 0,.rd 10 [] 2 0,.rd 11 [] 2 0,.rd 12 [] 2 0,.rd 13 [] 0 3] [118] [zB 134 (decide (t<0)||decide (t≥(↑l.length:Int)))] (oC hi0 (oC hlt2 (oC hrd1_0 (oC (show(decide (t<0))=false→0≤i from(fun _=>hi0)) (oC (show(decide (t<0))=false→i<(↑pick.length:Int) from(fun _=>hlt2)) (oC (show(decide (t<0))=false→cs1[off1+i.toNat*1]?=some (nI t) from(fun _=>hrd1_0)) oN)))))) ?_
  refine cC (t:=decide (t<0)||decide (t≥(↑l.length:Int))) (fun hbad=>?_) (fun hbad=>?_)
  ·refine J_exit rfl ?_
   refine Zp [zR 0,.rd 1 [] 0 1,zR 2] [134] [zI 20 (i+1)] (oC (show IntKind.i64.wrap (i+1)=i+1 from wrap_i64 (by omega) (by omega)) oN) ?_
   refine J_backx ⟨i+1,x⟩ [1,2,8,12,18,20] [] [0] [0,1,2,3] ?_ ?_ (by kernel_rfl) rfl rfl rfl
   ·refine⟨by simp only;omega,by simp only;omega,?_⟩
    dsimp only
    rw[hi1]
    exact⟨hw.sys.mono (Nat.le_succ _),hw.memC,hw.K,hw.to⟩
   ·simp only
    omega
  ·have htl:0≤t∧t<l.length:=by simp at hbad;omega
   obtain⟨m,hm⟩:∃m,l[t.toNat]?=some m:=⟨_,List.getElem?_eq_getElem (by omega)⟩
   obtain⟨hw2,he0,hfit,hsq1,hsq2⟩:=hw.hear (List.mem_of_getElem? hm)
   refine J_read2 3 rfl t.toNat (map_at hm) (by kernel_rfl) (fun b2 off2 cs2 ty2 fz2 a2_0 c2_0 a2_1 c2_1 ha2 hrd2=>?_)
   cases ha2
   have hrd2_0:=rd0 (hrd2 0 _ rfl)
   have hrd2_1:=hrd2 1 _ rfl
   have hrd2_2:=hrd2 2 _ rfl
   have hrd2_3:=hrd2 3 _ rfl
   have hrd2_4:=hrd2 4 _ rfl
   have hrd2_5:=hrd2 5 _ rfl
   have hrd2_6:=hrd2 6 _ rfl
   have hrd2_7:=hrd2 7 _ rfl
   have hrd2_8:=hrd2 8 _ rfl
   try simp only[aQ]
   refine J_skip ?_
   refine jS [(0,true),(1,true),(2,true),(3,true),(4,true),(5,true),(6,true),(7,true),(8,false),(9,true),(10,true),(11,true),(12,true),(13,true)] [] ?_
   refine Yp (Rds 0 4++[.rd 4 [] 0 2,.rd 5 [.r 0 (some (nI t))] 0 0,.rd 6 [] 0 2,.rd 7 [.r 1 (some (nI m.fm)),.r 1 (some (nI m.to)),.r 1 (some (nI m.shard)),.r 1 (some (nI m.seq)),.r 1 (some (nI m.time)),.r 1 (some (.bool m.beat)),.r 1 (some (.slice (a2_0,c2_0).fst ((List.map eI m.c.when).length) c2_0)),.r 1 (some (nI m.c.place)),.r 1 (some (.slice (a2_1,c2_1).fst ((List.map eOp m.c.ops).length) c2_1))] 0 0]) [134] [zP 136 qb,zV 143 (.agg #[nI m.fm,nI m.to,nI m.shard,nI m.seq,nI m.time,.bool m.beat,.slice (a2_0,c2_0).fst ((List.map eI m.c.when).length) c2_0,nI m.c.place,.slice (a2_1,c2_1).fst ((List.map eOp m.c.ops).length) c2_1])] (oC hi0 (oC hlt2 (oC hrd1_0 (oC (show 0≤t from by omega) (oC (show t<(↑l.length:Int) from by omega) (oC hrd2_0 (oC hrd2_1 (oC hrd2_2 (oC hrd2_3 (oC hrd2_4 (oC hrd2_5 (oC hrd2_6 (oC hrd2_7 (oC hrd2_8 oN)))))))))))))) ?_
   refine JR_call [] [0] 24 #[.pointer (some (⟨qb,0,none⟩)),.agg #[.int .i64 m.fm,.int .i64 m.to,.int .i64 m.shard,.int .i64 m.seq,.int .i64 m.time,.bool m.beat,.slice (a2_0,c2_0).fst ((List.map eI m.c.when).length) c2_0,.int .i64 m.c.place,.slice (a2_1,c2_1).fst ((List.map eOp m.c.ops).length) c2_1]] (some 144) (by kernel_rfl) (by kernel_rfl) (by decide) (fun w S M hP hG _=>?_)
   refine(placeHear (m:=m) (n:=n+i.toNat) (hG.at 0 rfl) hP (hw.sys.net.pin 1 (by decide)) (by omega) (hG.at 4 rfl) (hG.at 5 rfl) hfit (by omega)).mono ?_
   rintro e1 w1 ⟨ua,un,uc,v,hR,hv⟩
   rw[he0]at hv
   obtain⟨_,rfl⟩|⟨h,_⟩:=hv
   case inr=>exact absurd rfl h
   rw[show cPlace qb (hearPl (x.P 1) m).2.2=cPlace qb ((x.setP 1 (hearPl (x.P 1) m).2.2).P 1)by rw[setP_at]]at hR
   refine⟨_,_,_,hR,?_⟩
   try simp only[aQ]
   refine Ya (Rds 9 14) [144,136,143] [zV 22 .nilIface] ?_
   try simp only[aQ]
   refine JR_end ?_
   try simp only[aQ]
   refine J_seq ?_
   try simp only[aQ]
   refine Za [zR 0,zR 1] [] [zB 148 false] ?_
   try simp only[aQ]
   refine cF ?_
   try simp only[aQ]
   refine J_skip ?_
   try simp only[aQ]
   refine J_eb ?_
   try simp only[aQ]
   refine Zp [zR 0,.rd 1 [] 0 1,zR 2] [148] [zI 20 (i+1)] (oC (show IntKind.i64.wrap (i+1)=i+1 from wrap_i64 (by omega) (by omega)) oN) ?_
   try simp only[aQ]
   refine J_backx ⟨i+1,x.setP 1 (hearPl (x.P 1) m).2.2⟩ [1,2,8,12,18,20] [] [0] [0,1,2,3] ?_ ?_ (by kernel_rfl) rfl rfl rfl
   ·refine⟨by simp only;omega,by simp only;omega,?_⟩
    dsimp only
    rw[hi1]
    exact hw2
   ·simp only
    omega
 ·have hpl:=(hw.sys.net.pin 1 (by decide)).mono (show n+i.toNat≤600 by omega)
  have hp2:=(hw.sys.net.pid 1 (by decide)).2.1
  have hsl:=snapL_len (x.P 1)
  obtain⟨q,hq⟩:∃q:Bool,∀key∈keys,(Sx.valOf key (withinC (x.P 1).L key (snapL (x.P 1)))).kind=if q then 2 else 0:=by
   rcases hw.read h2 with h|h
   ·exact⟨true,fun key hm=>h key (hk key hm).2⟩
   ·exact⟨false,fun key hm=>h key⟩
  refine J_exit rfl ?_
  refine jS [(0,true),(1,false),(2,true)] [] ?_
  refine Ya [zR 0] [118,2,18,20] [zP 149 qb] ?_
  refine JR_call [] [0] 19 #[.pointer (some (⟨qb,0,none⟩))] (some 150) (by kernel_rfl) (by kernel_rfl) (by decide) (fun w S M hP hG _=>?_)
  refine(placeSnapshot hP hpl.toPlOk).mono ?_
  rintro e1 w1 ⟨a3,n3,c3,hR⟩
  refine⟨_,_,_,hR,?_⟩
  try simp only[aQ]
  refine Ya [zR 2] [150,149] [zS 23 a3 n3 c3] ?_
  try simp only[aQ]
  refine JR_end ?_
  try simp only[aQ]
  refine J_seq ?_
  try simp only[aQ]
  refine Za [zR 0] [] [zI 24 0] ?_
  try simp only[aQ]
  refine J_seq ?_
  try simp only[aQ]
  refine J_seq ?_
  try simp only[aQ]
  refine Za [zR 0] [] [zI 25 0] ?_
  try simp only[aQ]
  refine J_block ?_
  try simp only[aQ]
  refine J_loopx (fun i:Int=>[zS 1 ka keys.length kc,zB 8 false,zP 12 qb,zS 23 a3 n3 c3,zI 24 (mF q i),zI 25 i]) (fun i:Int=>[]) (fun i:Int=>[cPlace qb (x.P 1)]) (fun i:Int=>[(.nilIface,(dC er eb)),(.slice ka keys.length kc,(dStrs keys)),(.slice ta pick.length tc,(dInts pick)),(.slice av l.length cv,(D.sl 9 (List.map eMsg l))),(.slice a3 n3 c3,(dInts (snapL (x.P 1))))]) (fun i:Int=>(keys.length - i).toNat) (fun i:Int=>(0≤i∧i≤keys.length)) 0 [1,8,12,23,24,25] [] [0] [0,1,2,3,4] ?_ (by kernel_rfl) rfl rfl rfl ?_
  ·exact⟨by simp,by simp⟩
  rintro i ⟨hi0,hi⟩
  have hmf:0≤mF q i∧mF q i≤i:=by
   cases q
   ·rw[mF_false];omega
   ·rw[mF_true hi0];omega
  refine J_seq ?_
  refine Zs (Rds 0 4) [] [zB 154 (decide (i<(↑keys.length:Int)))] ?_
  refine cC (t:=decide (i<(↑keys.length:Int))) (fun hlt=>?_) (fun hlt=>?_)
  ·have hlt2:i<keys.length:=of_decide_eq_true hlt
   obtain⟨key,hx⟩:∃x,keys[i.toNat]?=some x:=⟨_,List.getElem?_eq_getElem (by omega)⟩
   have hkm:=List.mem_of_getElem? hx
   have hrk:=readK_snap hpl.toPlOk (hw.sys.net.base 1 (by decide) 1 (by decide)) (hk key hkm).1
   have hqk:=hq key hkm
   refine J_read0 1 rfl i.toNat (map_at hx) (by kernel_rfl) (fun b1 off1 cs1 ty1 fz1 ha1 hrd1=>?_)
   cases ha1
   have hrd1_0:=rd0 (hrd1 0 _ rfl)
   try simp only[aQ]
   refine J_skip (J_seq (J_block (J_seq ?_)))
   refine J_fork3 mixed [.rd 0 [] 0 0,.rd 1 [] 0 0,.rd 2 [] 0 0,.rd 3 [] 0 2,.rd 4 [.r 0 (some (.string key))] 0 0,.rd 5 [] 0 0] 6 11 [(7,false),(8,true),(9,true),(10,true),(11,false),(12,false),(13,true)] [(11,false),(7,false),(8,true),(9,true),(10,true),(12,false),(13,true)] [(6,false),(7,false),(8,true),(9,true),(10,true),(12,false),(13,true)] [(7,[]),(12,[])] [1,8,12,23,24,25,158,162,163] (E1:=fun _=>[(1,.val (.slice (some (⟨b1,off1,none⟩)) keys.length kc)),(8,.val (.bool false)),(12,.val (.pointer (some (⟨qb,0,none⟩)))),(23,.val (.slice a3 n3 c3)),(24,.val (.int .i64 (mF q i))),(25,.val (.int .i64 i)),(158,.val (.pointer (some (⟨qb,0,none⟩)))),(162,.val (.string key)),(163,.val (.slice a3 n3 c3))]) (p1:=fun _=>[(0:Int)≤i,i<(↑keys.length:Int),cs1[off1+i.toNat*(1:Nat)]?=some (Value.string key)]) (by kernel_rfl) (by kernel_rfl) (fun _=>by kernel_rfl) (fun _=>⟨hi0,hlt2,hrd1_0,trivial⟩) (fun _=>?_) (fun _=>?_)
   ·refine JR2_callp [] 26 #[.slice a3 n3 c3] (some 164) (by kernel_rfl) fun w S hG=>?_
    refine(vown2 (hG.at 4 rfl) (by omega)).mono ?_
    rintro e2 w2 ⟨a4,c4,hR⟩
    refine⟨_,_,_,hR,?_,?_⟩
    ·refine JR_callz [] [0] 25 #[.pointer (some (⟨qb,0,none⟩)),.string key,.slice a4 n3 c4] (some 165) zero_all (by kernel_rfl) (by kernel_rfl) (by decide) (fun w S M hP hG _=>?_)
     refine(placeRead (n:=600) (at':=snapL (x.P 1)) (key:=key) (hG.at 0 rfl) hP hpl (by omega) (hG.at 5 rfl) (by omega)).mono ?_
     rintro e3 w3 (⟨h,_⟩|⟨_,ua,un,uc,hR⟩)
     ·exact absurd hrk h
     refine⟨_,_,_,hR,?_⟩
     try simp only[aQ]
     refine Ym (Rds 8 11++[.wr 11 [] 0,.wr 12 (hnO 0 4) 0,zR 13]) [165,164,158,162,163] (fun nu1=>[zP 26 (nu1 0),zV 27 .nilIface]) o0 (fun nu1=>[(nu1 0,.cells #[nI ((Sx.valOf key (withinC (x.P 1).L key (snapL (x.P 1)))).kind),.string ((Sx.valOf key (withinC (x.P 1).L key (snapL (x.P 1)))).text),nI ((Sx.valOf key (withinC (x.P 1).L key (snapL (x.P 1)))).n),.slice ua un uc] 64 (0,0))]) [] (fun nu1=>?_)
     try simp only[aQ]
     refine JR_end ?_
     try simp only[aQ]
     refine J_seq ?_
     try simp only[aQ]
     refine J_seq ?_
     try simp only[aQ]
     refine Za [zR 0,zR 1] [] [zB 169 false] ?_
     try simp only[aQ]
     refine cF ?_
     try simp only[aQ]
     refine J_skip ?_
     try simp only[aQ]
     refine J_seq ?_
     try simp only[aQ]
     refine Za [zR 0,.rd 1 [.o 0 none] 0 0,zR 2] [169] [zB 172 ((Sx.valOf key (withinC (x.P 1).L key (snapL (x.P 1)))).kind==2)] ?_
     try simp only[aQ]
     refine cC (t:=(Sx.valOf key (withinC (x.P 1).L key (snapL (x.P 1)))).kind==2) (fun hkd=>?_) (fun hkd=>?_)
     ·have hq1:q=true:=by
       have:=of_decide_eq_true hkd
       cases q
       ·rw[hqk]at this
        simp at this
       ·rfl
      try simp only[aQ]
      refine Zp [zR 0,.rd 1 [] 0 1,zR 2] [172] [zI 24 (mF q i+1)] (oC (show IntKind.i64.wrap (mF q i+1)=mF q i+1 from wrap_i64 (by omega) (by omega)) oN) ?_
      try simp only[aQ]
      refine J_eb ?_
      try simp only[aQ]
      refine Zp [zR 0,.rd 1 [] 0 1,zR 2] [] [zI 25 (i+1)] (oC (show IntKind.i64.wrap (i+1)=i+1 from wrap_i64 (by omega) (by omega)) oN) ?_
      try simp only[aQ]
      rw[show mF q i+1=mF q (i+1)by rw[hq1,mF_true hi0,mF_true (by omega)]]
      refine J_backx (i+1) [1,8,12,23,24,25] [] [0] [0,1,2,3,4] ?_ ?_ (by kernel_rfl) rfl rfl rfl
      ·exact⟨by omega,by omega⟩
      ·omega
     ·have hq1:q=false:=by
       have:=of_decide_eq_false hkd
       cases q
       ·rfl
       ·rw[hqk]at this
        simp at this
      try simp only[aQ]
      refine J_skip ?_
      try simp only[aQ]
      refine J_eb ?_
      try simp only[aQ]
      refine Zp [zR 0,.rd 1 [] 0 1,zR 2] [172] [zI 25 (i+1)] (oC (show IntKind.i64.wrap (i+1)=i+1 from wrap_i64 (by omega) (by omega)) oN) ?_
      try simp only[aQ]
      rw[show mF q i=mF q (i+1)by rw[hq1,mF_false,mF_false]]
      refine J_backx (i+1) [1,8,12,23,24,25] [] [0] [0,1,2,3,4] ?_ ?_ (by kernel_rfl) rfl rfl rfl
      ·exact⟨by omega,by omega⟩
      ·omega
    ·try simp only[aQ]
     refine Ym [.wr 11 [] 0] [163] (fun nu1=>[zP 26 (nu1 0)]) o0 (fun nu1=>[(nu1 0,.cells #[nI 0,.string (ByteArray.mk #[]),nI 0,.slice none 0 0] 64 (0,0))]) [(7,[]),(12,[])] (fun nu1=>?_)
     refine JR_callz [] [0] 25 #[.pointer (some (⟨qb,0,none⟩)),.string key,.slice a4 n3 c4] (some 165) zero_all (by kernel_rfl) (by kernel_rfl) (by decide) (fun w S M hP hG _=>?_)
     refine(placeRead (n:=600) (at':=snapL (x.P 1)) (key:=key) (hG.at 0 rfl) hP hpl (by omega) (hG.at 5 rfl) (by omega)).mono ?_
     rintro e3 w3 (⟨h,_⟩|⟨_,ua,un,uc,hR⟩)
     ·exact absurd hrk h
     refine⟨_,_,_,hR,?_⟩
     try simp only[aQ]
     refine Ym (Rds 8 11++[.wr 12 (hnO 0 4) 0,zR 13]) [165,164,158,162] (fun _=>[zV 27 .nilIface]) (fun _=>[(0,.cells #[nI ((Sx.valOf key (withinC (x.P 1).L key (snapL (x.P 1)))).kind),.string ((Sx.valOf key (withinC (x.P 1).L key (snapL (x.P 1)))).text),nI ((Sx.valOf key (withinC (x.P 1).L key (snapL (x.P 1)))).n),.slice ua un uc] 64 (0,0))]) o0 [] (fun _=>?_)
     try simp only[aQ]
     refine JR_end ?_
     try simp only[aQ]
     refine J_seq ?_
     try simp only[aQ]
     refine J_seq ?_
     try simp only[aQ]
     refine Za [zR 0,zR 1] [] [zB 169 false] ?_
     try simp only[aQ]
     refine cF ?_
     try simp only[aQ]
     refine J_skip ?_
     try simp only[aQ]
     refine J_seq ?_
     try simp only[aQ]
     refine Za [zR 0,.rd 1 [.o 0 none] 0 0,zR 2] [169] [zB 172 ((Sx.valOf key (withinC (x.P 1).L key (snapL (x.P 1)))).kind==2)] ?_
     try simp only[aQ]
     refine cC (t:=(Sx.valOf key (withinC (x.P 1).L key (snapL (x.P 1)))).kind==2) (fun hkd=>?_) (fun hkd=>?_)
     ·have hq1:q=true:=by
       have:=of_decide_eq_true hkd
       cases q
       ·rw[hqk]at this
        simp at this
       ·rfl
      try simp only[aQ]
      refine Zp [zR 0,.rd 1 [] 0 1,zR 2] [172] [zI 24 (mF q i+1)] (oC (show IntKind.i64.wrap (mF q i+1)=mF q i+1 from wrap_i64 (by omega) (by omega)) oN) ?_
      try simp only[aQ]
      refine J_eb ?_
      try simp only[aQ]
      refine Zp [zR 0,.rd 1 [] 0 1,zR 2] [] [zI 25 (i+1)] (oC (show IntKind.i64.wrap (i+1)=i+1 from wrap_i64 (by omega) (by omega)) oN) ?_
      try simp only[aQ]
      rw[show mF q i+1=mF q (i+1)by rw[hq1,mF_true hi0,mF_true (by omega)]]
      refine J_backx (i+1) [1,8,12,23,24,25] [] [0] [0,1,2,3,4] ?_ ?_ (by kernel_rfl) rfl rfl rfl
      ·exact⟨by omega,by omega⟩
      ·omega
     ·have hq1:q=false:=by
       have:=of_decide_eq_false hkd
       cases q
       ·rfl
       ·rw[hqk]at this
        simp at this
      try simp only[aQ]
      refine J_skip ?_
      try simp only[aQ]
      refine J_eb ?_
      try simp only[aQ]
      refine Zp [zR 0,.rd 1 [] 0 1,zR 2] [172] [zI 25 (i+1)] (oC (show IntKind.i64.wrap (i+1)=i+1 from wrap_i64 (by omega) (by omega)) oN) ?_
      try simp only[aQ]
      rw[show mF q i=mF q (i+1)by rw[hq1,mF_false,mF_false]]
      refine J_backx (i+1) [1,8,12,23,24,25] [] [0] [0,1,2,3,4] ?_ ?_ (by kernel_rfl) rfl rfl rfl
      ·exact⟨by omega,by omega⟩
      ·omega
   ·refine Ym [.wr 11 [] 0] [] (fun nu1=>[(26,.val (.pointer (some (⟨nu1 0,0,none⟩))))]) o0 (fun nu1=>[(nu1 0,.cells #[.int .i64 0,.string (ByteArray.mk #[]),.int .i64 0,.slice none 0 0] 64 (0,0))]) [(7,[]),(12,[])] (fun nu1=>?_)
    refine Yc 26 #[.slice a3 n3 c3] (some 164) fun w S hG=>?_
    refine(vown2 (hG.at 4 rfl) (by omega)).mono ?_
    rintro e2 w2 ⟨a4,c4,hR⟩
    refine⟨_,_,_,hR,?_⟩
    try simp only[aQ]
    refine JR_callz [] [0] 25 #[.pointer (some (⟨qb,0,none⟩)),.string key,.slice a4 n3 c4] (some 165) zero_all (by kernel_rfl) (by kernel_rfl) (by decide) (fun w S M hP hG _=>?_)
    refine(placeRead (n:=600) (at':=snapL (x.P 1)) (key:=key) (hG.at 0 rfl) hP hpl (by omega) (hG.at 5 rfl) (by omega)).mono ?_
    rintro e3 w3 (⟨h,_⟩|⟨_,ua,un,uc,hR⟩)
    ·exact absurd hrk h
    refine⟨_,_,_,hR,?_⟩
    try simp only[aQ]
    refine Ym (Rds 8 11++[.wr 12 (hnO 0 4) 0,zR 13]) [165,164,158,162,163] (fun _=>[zV 27 .nilIface]) (fun _=>[(0,.cells #[nI ((Sx.valOf key (withinC (x.P 1).L key (snapL (x.P 1)))).kind),.string ((Sx.valOf key (withinC (x.P 1).L key (snapL (x.P 1)))).text),nI ((Sx.valOf key (withinC (x.P 1).L key (snapL (x.P 1)))).n),.slice ua un uc] 64 (0,0))]) o0 [] (fun _=>?_)
    try simp only[aQ]
    refine JR_end ?_
    try simp only[aQ]
    refine J_seq ?_
    try simp only[aQ]
    refine J_seq ?_
    try simp only[aQ]
    refine Za [zR 0,zR 1] [] [zB 169 false] ?_
    try simp only[aQ]
    refine cF ?_
    try simp only[aQ]
    refine J_skip ?_
    try simp only[aQ]
    refine J_seq ?_
    try simp only[aQ]
    refine Za [zR 0,.rd 1 [.o 0 none] 0 0,zR 2] [169] [zB 172 ((Sx.valOf key (withinC (x.P 1).L key (snapL (x.P 1)))).kind==2)] ?_
    try simp only[aQ]
    refine cC (t:=(Sx.valOf key (withinC (x.P 1).L key (snapL (x.P 1)))).kind==2) (fun hkd=>?_) (fun hkd=>?_)
    ·have hq1:q=true:=by
      have:=of_decide_eq_true hkd
      cases q
      ·rw[hqk]at this
       simp at this
      ·rfl
     try simp only[aQ]
     refine Zp [zR 0,.rd 1 [] 0 1,zR 2] [172] [zI 24 (mF q i+1)] (oC (show IntKind.i64.wrap (mF q i+1)=mF q i+1 from wrap_i64 (by omega) (by omega)) oN) ?_
     try simp only[aQ]
     refine J_eb ?_
     try simp only[aQ]
     refine Zp [zR 0,.rd 1 [] 0 1,zR 2] [] [zI 25 (i+1)] (oC (show IntKind.i64.wrap (i+1)=i+1 from wrap_i64 (by omega) (by omega)) oN) ?_
     try simp only[aQ]
     rw[show mF q i+1=mF q (i+1)by rw[hq1,mF_true hi0,mF_true (by omega)]]
     refine J_backx (i+1) [1,8,12,23,24,25] [] [0] [0,1,2,3,4] ?_ ?_ (by kernel_rfl) rfl rfl rfl
     ·exact⟨by omega,by omega⟩
     ·omega
    ·have hq1:q=false:=by
      have:=of_decide_eq_false hkd
      cases q
      ·rfl
      ·rw[hqk]at this
       simp at this
     try simp only[aQ]
     refine J_skip ?_
     try simp only[aQ]
     refine J_eb ?_
     try simp only[aQ]
     refine Zp [zR 0,.rd 1 [] 0 1,zR 2] [172] [zI 25 (i+1)] (oC (show IntKind.i64.wrap (i+1)=i+1 from wrap_i64 (by omega) (by omega)) oN) ?_
     try simp only[aQ]
     rw[show mF q i=mF q (i+1)by rw[hq1,mF_false,mF_false]]
     refine J_backx (i+1) [1,8,12,23,24,25] [] [0] [0,1,2,3,4] ?_ ?_ (by kernel_rfl) rfl rfl rfl
     ·exact⟨by omega,by omega⟩
     ·omega
  ·have hie:i=keys.length:=by have:=of_decide_eq_false hlt;omega
   subst hie
   have hmq:mF q keys.length=0∨mF q keys.length=keys.length:=by
    cases q
    ·exact .inl mF_false
    ·exact .inr (mF_true hi0)
   rcases hmq with hmq|hmq
   ·rw[hmq]
    refine J_exit rfl ?_
    refine Zs (Rds 0 3++[.rd 3 [] 1 0,.rd 4 [] 1 0,.rd 5 [] 1 0,.rd 6 [] 1 0,zR 7,zR 8]) [154,1,12,23,24,25] [zB 8 true] ?_
    refine Yr [[]] (.bool true) fun a w s=>?_
    exact s.retz (by simp) [] [] rfl rfl
   ·rw[hmq]
    refine J_exit rfl ?_
    refine Zs (Rds 0 3++[.rd 3 [] 2 0,.rd 4 [] 2 0,.rd 5 [] 2 0,.rd 6 [] 2 0,.rd 7 [] 0 3,zR 8]) [154,1,12,23,24,25] [zB 8 ((↑keys.length:Int)==0||(↑keys.length:Int)==(↑keys.length:Int))] ?_
    refine Yr [[]] (.bool ((↑keys.length:Int)==0||(↑keys.length:Int)==(↑keys.length:Int))) fun a w s=>?_
    rw[show((keys.length:Int)==0||(keys.length:Int)==(keys.length:Int))=true by simp]
    exact s.retz (by simp) [] [] rfl rfl
end Go.Proofs.YtmkapocibaojdaaGreatDoor
end
section
namespace Go.Proofs.YtmkapocibaojdaaGreatDoor
open Go Go.Sx
set_option maxHeartbeats 8000000 in
theorem placeWhole {w:World} {S:Nat→Prop} {er:Nat→Addr} {eb:Nat→Array Value×TypeId} {sh:Int} {ka ta:Option Addr} {kn kc tn tc:Nat} {keys:List ByteArray} {pick:List Int} {beats:Bool} (hC:Rep w S .nilIface (dC er eb)) (h1:Rep w S (.slice ka kn kc) (dStrs keys)) (h2:Rep w S (.slice ta tn tc) (dInts pick)) :
  Calls Tryz.prog 4 #[.int .i64 sh,.slice ka kn kc,.slice ta tn tc,.bool beats] w fun e w'=>Ret [] (zero w) S w' e (.bool true) [] []:=by
 have e1:=h1.slen
 rw[List.length_map]at e1
 subst e1
 obtain rfl:=rep_ints_len h2
 refine epG Tryz.func4 bd4 (args:=[.int .i64 sh,.slice ka keys.length kc,.slice ta pick.length tc,.bool beats]) (S:=S) (G:=[(_,dC er eb),(_,dStrs keys),(_,dInts pick)]) (by kernel_rfl) (.cons hC (.cons h1 (.cons h2 (.nil _ _)))) ?_
 refine J_zero ?_
 refine Zs [zR 0] [] [zB 8 false] ?_
 refine jS [(0,false),(1,true)] [] ?_
 refine Yc 11 #[] (some 28) fun w S hG=>?_
 refine(placed (hG.at 0 rfl)).mono ?_
 rintro e1 w1 hR
 refine⟨_,_,_,hR,?_⟩
 try simp only[aQ]
 refine Ya [zR 1] [28] [zB 9 true] ?_
 refine JR_end (J_seq ?_)
 refine Zs (Rds 0 7++[.rd 7 [] 2 0,.rd 8 [] 2 0,.rd 9 [] 0 3,zR 10,.rd 11 [] 2 0,.rd 12 [] 2 0,.rd 13 [] 2 0,.rd 14 [] 0 3,zR 15,.rd 16 [] 2 0,.rd 17 [] 2 0,.rd 18 [] 2 0,.rd 19 [] 0 3,zR 20,.rd 21 [] 2 0,.rd 22 [] 2 0,.rd 23 [] 2 0,.rd 24 [] 0 3]) [] [zB 53 (decide (sh<1)||decide (sh>6)||decide ((↑keys.length:Int)<1)||decide ((↑keys.length:Int)>12)||decide ((↑pick.length:Int)>60))] ?_
 refine cC (t:=decide (sh<1)||decide (sh>6)||decide ((↑keys.length:Int)<1)||decide ((↑keys.length:Int)>12)||decide ((↑pick.length:Int)>60)) (fun hb=>?_) (fun hb=>?_)
 ·refine J_seq ?_
  refine Za [zR 0,zR 1] [53,9] [zB 8 true] ?_
  refine Yr [[]] (.bool true) fun a w s=>?_
  exact s.retz (by simp) [] [] rfl rfl
 have hok:1≤sh∧sh≤6∧1≤keys.length∧keys.length≤12∧pick.length≤60:=by simp at hb;omega
 obtain⟨hs1,hs6,hk1,hk12,hp60⟩:=hok
 obtain⟨sh,rfl⟩:∃n:Nat,sh=n:=⟨sh.toNat,by omega⟩
 refine J_skip ?_
 refine jS [(0,true),(1,false),(2,true),(3,true),(4,true),(5,true),(6,true)] [] ?_
 refine Ya [zR 0] [53,9] [zI 56 (↑sh:Int)] ?_
 refine Yc 12 #[nI 0,nI 2,nI (↑sh:Int)] (some 57) fun w S hG=>?_
 refine(placeNew (id:=0) (places:=2) (shards:=sh) (hG.at 0 rfl)).mono ?_
 rintro e2 w2 (⟨h,_⟩|⟨_,pb,hR⟩)
 ·exact absurd (by omega) h
 refine⟨_,_,_,hR,?_⟩
 rw[show newP (0:Int).toNat (2:Int).toNat (sh:Int).toNat=newP 0 2 sh from rfl]
 try simp only[aQ]
 refine Ya (Rds 2 7) [57,56] [zP 10 pb,zV 11 .nilIface] ?_
 refine JR_end ?_
 refine jS [(0,true),(1,false),(2,true),(3,true),(4,true),(5,true),(6,true)] [] ?_
 refine Ya [zR 0] [0] [zI 61 (↑sh:Int)] ?_
 refine Yc 12 #[nI 1,nI 2,nI (↑sh:Int)] (some 62) fun w S hG=>?_
 refine(placeNew (id:=1) (places:=2) (shards:=sh) (hG.at 0 rfl)).mono ?_
 rintro e3 w3 (⟨h,_⟩|⟨_,qb,hR⟩)
 ·exact absurd (by omega) h
 refine⟨_,_,_,hR,?_⟩
 rw[show newP (1:Int).toNat (2:Int).toNat (sh:Int).toNat=newP 1 2 sh from rfl]
 try simp only[aQ]
 refine Ya (Rds 2 7) [62,61] [zP 12 qb,zV 13 .nilIface] ?_
 refine JR_end (J_seq ?_)
 refine Zs (Rds 0 14) [13,11] [zB 78 false] ?_
 refine cF ?_
 refine J_skip ?_
 refine Zs [zR 0] [78] [zS 14 none 0 0] ?_
 refine J_seq ?_
 refine Zs [zR 0] [] [zI 15 0] ?_
 refine J_block ?_
 refine J_stp (stp_accm eOp 55 7) ?_
 refine Nm [(cPlace pb (newP 0 2 sh)),(cPlace qb (newP 1 2 sh)),cAcc (.slice none 0 0) 55 7 (List.map eOp [])] ?_
 refine J_loopx (fun z:AccI=>[zS 1 ka keys.length kc,zS 2 ta pick.length tc,zB 3 beats,zB 8 false,zP 10 pb,zP 12 qb,zS 14 z.a z.k z.c,zI 15 z.i]) (fun z:AccI=>[]) (fun z:AccI=>[cPlace pb (newP 0 2 sh),cPlace qb (newP 1 2 sh),cAcc (.slice z.a z.k z.c) 55 7 (((keys.take z.i.toNat).map cOp).map eOp)]) (fun z:AccI=>[(.nilIface,(dC er eb)),(.slice ka keys.length kc,(dStrs keys)),(.slice ta pick.length tc,(dInts pick))]) (fun z:AccI=>(keys.length - z.i).toNat) (fun z:AccI=>(0≤z.i∧z.i≤keys.length∧∀k∈keys.take z.i.toNat,nameOk k=true)) ⟨0,none,0,0⟩ [1,2,3,8,10,12,14,15] [] [0,1,2] [0,1,2] ?_ (by kernel_rfl) rfl rfl rfl ?_
 ·exact⟨by simp,by simp,by simp⟩
 rintro⟨i,av,k,cv⟩ ⟨hi0,hi,hnm⟩
 dsimp only at hi0 hi hnm ⊢
 refine J_stpx (stp_acclen 2 rfl) fun _ hk=>?_
 have hk2:k≤12:=by simp at hk;omega
 refine J_seq ?_
 refine Zs (Rds 0 4) [] [zB 82 (decide (i<(↑keys.length:Int)))] ?_
 refine cC (t:=decide (i<(↑keys.length:Int))) (fun hlt=>?_) (fun hlt=>?_)
 ·have hlt2:i<keys.length:=of_decide_eq_true hlt
  obtain⟨x,hx⟩:∃x,keys[i.toNat]?=some x:=⟨_,List.getElem?_eq_getElem (by omega)⟩
  refine J_read0 1 rfl i.toNat (map_at hx) (by kernel_rfl) (fun b1 off1 cs1 ty1 fz1 ha1 hrd1=>?_)
  cases ha1
  have hrd1_0:=rd0 (hrd1 0 _ rfl)
  try simp only[aQ]
  refine J_skip (J_seq (J_block ?_))
  refine jS [(0,true),(1,true),(2,true),(3,true),(4,false),(5,true)] [] ?_
  refine Yp [zR 0,zR 1,.rd 2 [] 0 2,.rd 3 [.r 0 (some (.string x))] 0 0] [82] [zV 88 (.string x)] (oC hi0 (oC hlt2 (oC hrd1_0 oN))) ?_
  refine Yc 21 #[.string x] (some 89) fun w S hG=>?_
  refine(isName (S:=S)).mono ?_
  rintro e4 w4 hR
  refine⟨_,_,_,hR,?_⟩
  cases hn:nameOk x with
  | false=>
   try simp only[aQ]
   refine Ya [zR 5] [89,88] [zB 16 false] ?_
   refine JR_end (J_seq ?_)
   refine Zs [zR 0,zR 1] [] [zB 91 true] ?_
   refine cTt ?_
   refine Zs [zR 0] [91] [zB 8 true] ?_
   refine Yr [[]] (.bool true) fun a w s=>?_
   exact s.retz (by simp) [] [] rfl rfl
  | true=>
   try simp only[aQ]
   refine Ya [zR 5] [89,88] [zB 16 true] ?_
   refine JR_end (J_seq ?_)
   refine Zs [zR 0,zR 1] [] [zB 91 false] ?_
   refine cF ?_
   refine J_skip ?_
   refine Nm [(cPlace pb (newP 0 2 sh)),(cPlace qb (newP 1 2 sh)),cAcc (.slice av k cv) 55 7 (List.map eOp (List.map cOp (List.take i.toNat keys)))] ?_
   refine jT [(0,true),(1,true),(2,true),(3,true),(4,true),(5,true),(6,false),(7,false),(8,true)] [] ?_
   refine Yn (Rds 0 3++[.rd 3 [] 0 2,.rd 4 [.r 0 (some (.string x))] 0 0,zR 5,.wr 6 [] 0]) [91] (fun nu1=>[zS 92 av k cv,zS 98 (sA (nu1 0) 0) 1 1]) o0 (fun nu1=>[(nu1 0,.cells #[nI 0,.string x,nI 2,.string (ByteArray.mk #[]),nI 1,.bool false,.slice none 0 0] 55 (0,0))]) [] (fun nu1=>(oC hi0 (oC hlt2 (oC hrd1_0 oN)))) (fun nu1=>?_)
   refine JR_appm 2 33 55 7 88 (.agg #[.int .i64 0,.string (ByteArray.mk #[]),.int .i64 0,.string (ByteArray.mk #[]),.int .i64 0,.bool false,.slice none 0 0]) (a0:=av) (len:=k) (cap0:=cv) (ax:=(some (⟨nu1 0,0,none⟩))) (m:=1) (c:=1) (dst:=(some 99)) [(cOp x)] (by kernel_rfl) (by kernel_rfl) (by kernel_rfl) (by kernel_rfl) rfl (by decide) rfl (fun _ _ _ s=>src_one s 0 rfl rfl ⟨.inl ⟨rfl,rfl⟩,⟨.inl ⟨rfl,rfl⟩,⟨.inl ⟨rfl,rfl⟩,⟨.inl ⟨rfl,rfl⟩,⟨.inl ⟨rfl,rfl⟩,⟨.inl ⟨rfl,rfl⟩,⟨.inr (.inr ⟨_,_,_,rfl,rfl⟩),trivial⟩⟩⟩⟩⟩⟩⟩) (by simp only[maxLen];omega) (by omega) (fun av1 cv1=>?_)
   rw[show(keys.take i.toNat).map cOp++[cOp x]=(keys.take (i+1).toNat).map cOp by rw[←take_snoc hi0 hx,List.map_append];rfl]
   refine JN [(cPlace pb (newP 0 2 sh)),(cPlace qb (newP 1 2 sh)),cAcc (.slice av1 (k+1) cv1) 55 7 (List.map eOp (List.map cOp (List.take (i+1).toNat keys)))] ?_
   try simp only[aQ]
   refine Ya [zR 8] [99,92,98] [zS 14 av1 (k+1) cv1] ?_
   refine JR_end (J_eb ?_)
   refine Zp [zR 0,.rd 1 [] 0 1,zR 2] [] [zI 15 (i+1)] (oC (show IntKind.i64.wrap (i+1)=i+1 from wrap_i64 (by omega) (by omega)) oN) ?_
   refine J_backx ⟨i+1,_,k+1,_⟩ [1,2,3,8,10,12,14,15] [] [0,1,2] [0,1,2] ?_ ?_ (by kernel_rfl) rfl rfl rfl
   ·refine⟨by simp only;omega,by simp only;omega,fun q hq=>?_⟩
    rw[←take_snoc hi0 hx,List.mem_append,List.mem_singleton]at hq
    rcases hq with hq|rfl
    ·exact hnm q hq
    ·exact hn
   ·simp only
    omega
 have hie:i.toNat=keys.length:=by have:=of_decide_eq_false hlt;omega
 rw[hie,List.take_length]at hnm
 rw[hie,List.take_length]
 have hk0:keys≠[]:=fun h=>by rw[h]at hk1;simp at hk1
 have hcf:=whole_com (sh:=sh) (by omega) (by omega) hk0 hk12 hnm
 have hws:=whole_start (sh:=sh) (by omega) (by omega) hcf
 refine J_exit rfl ?_
 refine J_seq ?_
 refine J_stp (stp_freeze 2 rfl) ?_
 refine Nm [(cPlace pb (newP 0 2 sh)),(cPlace qb (newP 1 2 sh))] ?_
 try simp only[aQ]
 refine jT [(0,true),(1,false),(2,true),(3,false),(4,true),(5,true),(6,true),(7,true),(8,false),(9,false),(10,true),(11,true)] [] ?_
 refine Ym [zR 0,.wr 1 [] 0,zR 2] [82,14,15] (fun nu1=>[zP 101 pb,zS 102 (sA (nu1 0) 0) 2 2,zS 103 av k cv]) o0 (fun nu1=>[(nu1 0,.cells #[nI 0,nI 0] 3 (0,0))]) [] (fun nu1=>?_)
 refine JR_data (size:=1) 0 eI [(0:Int),0] 2 rfl (by kernel_rfl) (by decide) (by intro x _;rfl) (by simp) ⟨.inl ⟨rfl,rfl⟩,⟨.inl ⟨rfl,rfl⟩,trivial⟩⟩ ?_
 refine JR_call [] [0] 22 #[.pointer (some (⟨pb,0,none⟩)),.slice (some (⟨nu1 0,0,none⟩)) 2 2,.slice av k cv] (some 104) (by kernel_rfl) (by kernel_rfl) (by decide) (fun w S M hP hG _=>?_)
 refine(placeCommitA (n:=0) (x:=newP 0 2 sh) (at':=[0,0]) (ops:=keys.map cOp) (hG.at 0 rfl) hP (newP_in 0 (by decide) (by decide) (by omega) (by omega) (by decide)) (by decide) (hG.at 4 rfl) (hG.at 3 rfl) (by simp) (by simp;omega) cOp_dots).mono ?_
 rintro e5 w5 (⟨h,_⟩|⟨_,u1,m1,d1,u2,m2,d2,u3,m3,d3,hR⟩)
 ·exact absurd hcf h
 refine⟨_,_,_,hR,?_⟩
 try simp only[aQ]
 refine Ym (Rds 4 8++[.wr 8 [] 0,.wr 9 (hnO 0 3) 0,zR 10,zR 11]) [104,101,102,103] (fun nu2=>[zS 18 u3 m3 d3,zV 19 .nilIface]) o0 (fun nu2=>[(nu2 0,.cells #[.slice u1 m1 d1,nI ((↑(newP 0 2 sh).id:Int)),.slice u2 m2 d2] 35 (0,0))]) [] (fun nu2=>?_)
 try simp only[aQ]
 refine JR_end ?_
 try simp only[aQ]
 refine J_seq ?_
 try simp only[aQ]
 refine J_seq ?_
 try simp only[aQ]
 refine Za [zR 0,zR 1] [19] [zB 109 false] ?_
 try simp only[aQ]
 refine cF ?_
 try simp only[aQ]
 refine J_skip ?_
 try simp only[aQ]
 refine J_seq ?_
 try simp only[aQ]
 refine J_seq ?_
 try simp only[aQ]
 refine Nm [(cPlace qb (newP 1 2 sh)),cAcc (.slice u3 m3 d3) 62 9 (List.map eMsg (comMs (newP 0 2 sh) (comP (newP 0 2 sh) [0,0] (List.map cOp keys)))),(cPlace pb (comPl (newP 0 2 sh) (comP (newP 0 2 sh) [0,0] (List.map cOp keys))))] ?_
 have hrn:=renum_cOp (keys:=keys) (at':=[0,0]) (x:=newP 0 2 sh)
 have hkn:∀q∈keys,nameOk q=true∧∃o∈(comP (newP 0 2 sh) [0,0] (keys.map cOp)).ops,o.key=q:=fun q hq=>⟨hnm q hq,hrn.2 q hq⟩
 refine Za [zR 0] [109,3] [zB 110 beats] ?_
 refine cC (t:=beats) (fun hbt=>?_) (fun hbt=>?_)
 ·have hx1:PlIn (comPl (newP 0 2 sh) (comP (newP 0 2 sh) [0,0] (keys.map cOp))) 1:=hws.sys.net.pin 0 (by decide)
  refine J_stpx (stp_acclen 1 rfl) fun _ hm3=>?_
  rw[List.length_map]at hm3
  have hb4:=beatMs_len hx1
  have hm4:m3≤36:=by rw[hm3];exact Nat.le_trans (comMs_len _ _) (newP_in 0 (by decide) (by decide) (by omega) (by omega) (by decide)).ssl.2
  refine jT [(0,true),(1,true),(2,false),(3,false),(4,true)] [] ?_
  refine Ya [zR 0,zR 1] [110,10] [zS 111 u3 m3 d3,zP 112 pb] ?_
  refine JR_call [] [2] 23 #[.pointer (some (⟨pb,0,none⟩))] (some 113) (by kernel_rfl) (by kernel_rfl) (by decide) (fun w S M hP hG _=>?_)
  refine(placeBeat (n:=1) (hG.at 0 rfl) hP (hws.sys.net.pin 0 (by decide)) (by decide)).mono ?_
  rintro e6 w6 ⟨u4,d4,hR⟩
  refine⟨_,_,_,hR,?_⟩
  try simp only[aQ]
  refine JR_appm 1 56 62 9 104 (.agg #[.int .i64 0,.int .i64 0,.int .i64 0,.int .i64 0,.int .i64 0,.bool false,.slice none 0 0,.int .i64 0,.slice none 0 0]) (a0:=u3) (len:=m3) (cap0:=d3) (ax:=u4) (m:=(beatMs (comPl (newP 0 2 sh) (comP (newP 0 2 sh) [0,0] (List.map cOp keys)))).length) (c:=d4) (dst:=(some 114)) (beatMs (comPl (newP 0 2 sh) (comP (newP 0 2 sh) [0,0] (List.map cOp keys)))) (by kernel_rfl) (by kernel_rfl) (by kernel_rfl) (by kernel_rfl) rfl (by decide) rfl (fun _ _ _ s=>src_fact s 7 rfl (by decide)) (by simp only[maxLen];omega) (by omega) (fun av1 cv1=>?_)
  try simp only[aQ]
  refine Ya [zR 4] [114,113,111,112] [zS 18 av1 (m3+(beatMs (comPl (newP 0 2 sh) (comP (newP 0 2 sh) [0,0] (List.map cOp keys)))).length) cv1] ?_
  try simp only[aQ]
  refine JR_end ?_
  try simp only[aQ]
  refine J_seq ?_
  try simp only[aQ]
  refine J_seq ?_
  try simp only[aQ]
  refine J_stp (stp_freeze 2 rfl) ?_
  refine Nm [(cPlace qb (newP 1 2 sh)),(cPlace pb (beatPl (comPl (newP 0 2 sh) (comP (newP 0 2 sh) [0,0] (List.map cOp keys)))))] ?_
  refine J_cut (E':=[zS 1 ka keys.length kc,zS 2 ta pick.length tc,zB 8 false,zV 12 (.pointer (some ⟨qb,0,none⟩)),zS 18 av1 (m3+(beatMs (comPl (newP 0 2 sh) (comP (newP 0 2 sh) [0,0] (keys.map cOp)))).length) cv1]) (h':=[]) (C':=[_]) (G':=[_,_,_,_]) [1,2,8,12,18] [] [0] [0,1,2,8] (by kernel_rfl) rfl rfl rfl ?_
  exact wholeTail (hws.beat (by decide)) (by decide) hrn.1 hkn hk12 hp60
 ·refine J_skip ?_
  refine J_seq (J_seq ?_)
  refine J_stp (stp_freeze 1 rfl) ?_
  refine Nm [(cPlace qb (newP 1 2 sh)),(cPlace pb (comPl (newP 0 2 sh) (comP (newP 0 2 sh) [0,0] (List.map cOp keys))))] ?_
  refine J_cut (E':=[zS 1 ka keys.length kc,zS 2 ta pick.length tc,zB 8 false,zV 12 (.pointer (some ⟨qb,0,none⟩)),zS 18 u3 m3 d3]) (h':=[]) (C':=[_]) (G':=[_,_,_,_]) [1,2,8,12,18] [] [0] [0,1,2,7] (by kernel_rfl) rfl rfl rfl ?_
  exact wholeTail hws (by decide) hrn.1 hkn hk12 hp60
end Go.Proofs.YtmkapocibaojdaaGreatDoor
end
section
namespace Go.Sx
open Go Go.RowKit Go.ChangeShapes Go.WideShapes
theorem Fr.below {w w':World} (h:Fr [] w w'):Below w.heap.size w w':=⟨h.os,h.tape,h.output,h.size,fun b hb=>h.block b hb (by simp)⟩
def IntsAt (w:World) (ad:Option Addr) (zs:List Int):Prop:=zs≠[]→∃bo off cs ty fz,ad=some ⟨bo,off,none⟩∧w.heap[bo]?=some (.cells cs ty fz)∧∀(i:Nat) z,zs[i]?=some z→cs[off+i]?=some (.int .i64 z)
theorem cell_blk {w:World} {a:Addr} {v:Value} (h:w.cell? a=some v):∃cs ty fz,w.heap[a.block]?=some (.cells cs ty fz)∧a.spot=none∧cs[a.off]?=some v:=by
 unfold World.cell? at h
 split at h
 ·rename_i cs ty fz hb
  split at h
  ·cases h
  ·rename_i hs
   exact⟨cs,ty,fz,hb,by simpa using hs,h⟩
 ·cases h
section
variable {H:Type} {enc:TypeId×Value→H} {P:Program}
theorem open_intsAt {W:World} {base:Nat} {t e:TypeId} {v:Value} {d:DataW H} {ps:List MemPlace} (ht:P.underlying t=some (.slice e)) (he:P.underlying e=some (.int .i64)) (hc:P.cellsOf e=1)
  (hv:Value.okWide P W .any base t v) (h:DataW.Trod enc P W 0 (fun _=>true) true t v d ps):∃ad zs c,v=.slice ad zs.length c∧IntsAt W ad zs∧(∀z∈zs,-9223372036854775808≤z∧z≤9223372036854775807)∧zs.length≤maxLen:=by
 obtain⟨a0,len,cap,rfl⟩:=okWide_slice ht hv
 obtain⟨fuel,hf⟩:=h
 rcases open_ints ht he hc hf with ⟨hcs,hx⟩|⟨a,len',cap',zs,hcs,_,hl,hm,hz,hx,hcell,hwz⟩
 ·simp[Value.cells]at hcs
  obtain⟨rfl,rfl,rfl⟩:=hcs
  exact⟨none,[],0,rfl,fun h=>absurd rfl h,by simp,by simp⟩
 ·simp[Value.cells]at hcs
  obtain⟨rfl,rfl,rfl⟩:=hcs
  simp only[if_true]at hz
  refine⟨some a,zs.take len,cap,by rw[List.length_take,Nat.min_eq_left (by omega)],fun hne=>?_,fun z hz=>?_,by rw[List.length_take];omega⟩
  ·have hpos:0<zs.length:=by
    rcases zs with _|⟨z,zs⟩
    ·simp at hne
    ·simp
   obtain⟨cs,ty,fz,hb,hs,_⟩:=cell_blk (hcell 0 hpos)
   have e0:a.add 0=a:=by simp[Addr.add]
   rw[e0]at hb hs
   obtain⟨b,off,sp⟩:=a
   simp only at hb hs
   subst hs
   refine⟨b,off,cs,ty,fz,rfl,hb,fun i z hi=>?_⟩
   rw[List.getElem?_take]at hi
   split at hi
   ·have hil:=(List.getElem?_eq_some_iff.1 hi).1
    obtain⟨cs',ty',fz',hb',_,hc'⟩:=cell_blk (hcell i hil)
    rw[addr_add]at hb' hc'
    simp only at hb' hc'
    rw[hb]at hb'
    cases hb'
    rw[hc',List.getD_eq_getElem?_getD,hi]
    rfl
   ·cases hi
  ·have:=hwz z (List.mem_of_mem_take hz)
   simp[Lit.wf,IntKind.min,IntKind.max,IntKind.signed,IntKind.bits]at this
   exact this
theorem open_intsRep {W:World} {base:Nat} {t e:TypeId} {v:Value} {d:DataW H} {ps:List MemPlace} (ht:P.underlying t=some (.slice e)) (he:P.underlying e=some (.int .i64)) (hc:P.cellsOf e=1)
  (hv:Value.okWide P W .any base t v) (h:DataW.Trod enc P W 0 (fun _=>true) true t v d ps):∃ad zs c,v=.slice ad zs.length c∧Rep W (fun _=>True) (.slice ad zs.length c) (dInts zs)∧(∀z∈zs,-9223372036854775808≤z∧z≤9223372036854775807)∧zs.length≤maxLen:=by
 obtain⟨a0,len,cap,rfl⟩:=okWide_slice ht hv
 obtain⟨ad,zs,c,hx,hat,hz,hl⟩:=open_intsAt ht he hc hv h
 injection hx with h1 h2 h3
 subst h1 h2 h3
 refine⟨a0,zs,cap,rfl,?_,hz,hl⟩
 by_cases hne:zs=[]
 ·subst hne
  exact .nil
 ·obtain⟨fuel,hf⟩:=h
  have hcap:zs.length≤cap:=by
   rcases open_ints ht he hc hf with ⟨hcs,_⟩|⟨a,len',cap',zs',hcs,_,hl',_⟩
   ·simp[Value.cells]at hcs
    exact absurd hcs.2.1 hne
   ·simp[Value.cells]at hcs
    obtain⟨rfl,rfl,rfl⟩:=hcs
    exact hl'
  obtain⟨bo,off,cs,ty,fz,rfl,hb,hcell⟩:=hat hne
  have hlen:(zs.map eI).length=zs.length:=by simp
  have:=Rep.sl (S:=fun _=>True) (off:=off) (cap:=cap) (k:=1) (rows:=zs.map eI) (fun i _=>.int .i64 (zs.getD i 0)) hb trivial (by simpa using hcap) (by decide) (by simp) (fun i j hi hj=>?_) (fun i j row d hi hj=>?_)
  ·simpa using this
  ·obtain rfl:j=0:=by omega
   rw[hlen]at hi
   have:=hcell i (zs[i]) (List.getElem?_eq_getElem hi)
   rw[Nat.mul_one,Nat.add_zero,this]
   simp[List.getD_eq_getElem?_getD,List.getElem?_eq_getElem hi]
  ·rw[List.getElem?_map]at hi
   obtain⟨z,hz',rfl⟩:=Option.map_eq_some_iff.1 hi
   match j,hj with
   | 0,hj=>
    simp only[List.getElem?_cons_zero,Option.some.injEq]at hj
    subst hj
    simp only[List.getD_eq_getElem?_getD,hz',Option.getD_some]
    exact .v rfl
   | j+1,hj=>simp at hj
theorem rep_var {W:World} {n:String} {g:Nat} {x:Value} (hg:P.globalNamed n=some g) (h:W.var? P n=some #[x]) (hx:x.oneCell'=true):Rep W (fun _=>True) (.pointer (some ⟨g,0,none⟩)) (.ptr [.v x]):=by
 unfold World.var? at h
 simp only[hg,Option.bind_some]at h
 split at h
 ·rename_i cs ty fz hb
  cases h
  refine .ptr (fun _=>x) hb trivial (fun j hj=>?_) (fun j d hj=>?_)
  ·obtain rfl:j=0:=by simpa using hj
   rfl
  ·match j,hj with
   | 0,hj=>
    simp only[List.getElem?_cons_zero,Option.some.injEq]at hj
    subst hj
    exact .v hx
   | j+1,hj=>simp at hj
 ·cases h
theorem sents {W:World} {ti tp te ts:TypeId} {ms:Array (String×TypeId)} {nm:String} {f:Field} (hi:P.underlying ti=some (.interface ms)) (hrow:∀u,P.typeName? 3 u=some nm→u=tp)
  (hp:P.underlying tp=some (.pointer te)) (he:P.underlying te=some (.struct #[f])) (hft:f.type=ts) (hfo:f.offset=0) (hs:P.underlying ts=some .string) (hc:P.cellsOf te=1) (hcs:P.cellsOf ts=1) :
  ∀(ns:List (String×List UInt8)) (ps:List MemPlace),DataW.LaidVars P W (ns.map fun x=>(x.1,DataW.iface nm (.ptr (.agg [.lit (.string x.2)])))) ps →
   ns.all (fun x=>match P.globalNamed x.1 with
    | some g=>(P.globals[g]?).map (·.type)==some ti
    | none=>false)=true →
   (∀b off,MemPlace.cell b off∈ps→∀u v,W.cell? ⟨b,off,none⟩=some (.iface u v)→Value.okWide P W .any 0 u v) →
   ∃adz:List Addr,adz.length=ns.length∧(∀(i:Nat) x a,ns[i]?=some x→adz[i]?=some a→W.var? P x.1=some #[.iface tp (.pointer (some a))]∧a.spot=none)∧(adz.map fun a=>MemPlace.cell a.block a.off).Sublist ps
 | [],ps,_,_,_=>⟨[],rfl,by simp,by simp⟩
 | (n,text)::ns,ps,h,hg,hr=>by
  rw[List.map_cons]at h
  obtain⟨g0,t0,cs0,f0,p0,q0,hg0,ht0,hv0,hd0,hq,e0⟩:=h
  rw[List.all_cons,Bool.and_eq_true]at hg
  obtain⟨hg1,hg2⟩:=hg
  simp only[hg0,ht0,beq_iff_eq,Option.some.injEq]at hg1
  subst hg1 e0
  obtain⟨l0⟩:=cs0
  have ok0:∀u v,l0=[.iface u v]→Value.okWide P W .any 0 u v:=fun u v e=>by
   subst e
   exact hr g0 0 (by simp[MemPlace.row]) u v (by simpa using World.var?_cell hg0 hv0 0)
  obtain⟨a0,s0,rfl,hc0,hs0,hz0,rfl⟩:=errorString_of_trod hi hrow hp he hft hfo hs hc hcs hd0 ok0
  obtain⟨adz,h1,h2,h3⟩:=sents hi hrow hp he hft hfo hs hc hcs ns q0 hq hg2 fun b off hm=>hr b off (List.mem_append_right _ hm)
  obtain⟨_,_,_,_,hspot,_⟩:=cell_blk hc0
  refine⟨a0::adz,by simp[h1],fun i x a hx ha=>?_,?_⟩
  ·cases i with
   | zero=>
    simp only[List.getElem?_cons_zero,Option.some.injEq]at hx ha
    subst hx ha
    exact⟨hv0,hspot⟩
   | succ i=>
    simp only[List.getElem?_cons_succ]at hx ha
    exact h2 i x a hx ha
  ·rw[List.map_cons,List.append_assoc]
   refine(List.Sublist.cons_cons _ h3).trans (?_:List.Sublist _ (MemPlace.row a0 1++q0)) |>.trans (List.sublist_append_right _ _)
   simp[MemPlace.row]
theorem errs_of {W:World} {ti tp te ts:TypeId} {ms:Array (String×TypeId)} {nm:String} {f:Field} (hi:P.underlying ti=some (.interface ms)) (hrow:∀u,P.typeName? 3 u=some nm→u=tp)
  (hp:P.underlying tp=some (.pointer te)) (he:P.underlying te=some (.struct #[f])) (hft:f.type=ts) (hfo:f.offset=0) (hs:P.underlying ts=some .string) (hc:P.cellsOf te=1) (hcs:P.cellsOf ts=1)
  (ns:List (String×List UInt8)) (h:laidMet P (ns.map fun x=>(x.1,DataW.iface nm (.ptr (.agg [.lit (.string x.2)])))) W)
  (hg:ns.all (fun x=>match P.globalNamed x.1 with
    | some g=>(P.globals[g]?).map (·.type)==some ti
    | none=>false)=true) :
  ∃(er:Nat→Addr) (eb:Nat→Array Value×TypeId),(∀(i:Nat) x,ns[i]?=some x→W.var? P x.1=some #[.iface tp (.pointer (some (er (i+1))))]∧W.heap[(er (i+1)).block]?=some (.cells (eb (i+1)).1 (eb (i+1)).2 (0,0))) ∧
   ∀i j,1≤i→i≤ns.length→1≤j→j≤ns.length→er i=er j→i=j:=by
 obtain⟨ps,hv,hnd,hrows⟩:=h
 obtain⟨adz,h1,h2,h3⟩:=sents hi hrow hp he hft hfo hs hc hcs ns ps hv hg fun b off hm=>(hrows b off hm).2
 have hnd2:=h3.nodup hnd
 have key:∀i:Nat,i<ns.length→∃a,adz[i]?=some a:=fun i hi=>⟨_,List.getElem?_eq_getElem (by omega)⟩
 have hcell:∀(i:Nat) a,adz[i]?=some a→∃c:Array Value×TypeId,W.heap[a.block]?=some (.cells c.1 c.2 (0,0)):=fun i a ha=>by
  obtain⟨c,t,hct⟩:=(hrows a.block a.off (h3.subset (List.mem_map.2 ⟨a,List.mem_of_getElem? ha,rfl⟩))).1
  exact⟨(c,t),hct⟩
 classical
 refine⟨fun k=>adz.getD (k - 1) ⟨0,0,none⟩,fun k=>if hx:∃c:Array Value×TypeId,W.heap[(adz.getD (k - 1) ⟨0,0,none⟩).block]?=some (.cells c.1 c.2 (0,0))then hx.choose else (#[],0),fun i x hx=>?_,fun i j hi1 hi2 hj1 hj2 he=>?_⟩
 ·obtain⟨a,ha⟩:=key i (List.getElem?_eq_some_iff.1 hx).1
  have e:adz.getD (i+1 - 1) ⟨0,0,none⟩=a:=by simp[List.getD_eq_getElem?_getD,ha]
  have hh:=hcell i a ha
  simp only[e]
  refine⟨(h2 i x a hx ha).1,?_⟩
  rw[dif_pos hh]
  exact hh.choose_spec
 ·obtain⟨a,ha⟩:=key (i - 1) (by omega)
  obtain⟨b,hb⟩:=key (j - 1) (by omega)
  simp only[List.getD_eq_getElem?_getD,ha,hb,Option.getD_some]at he
  subst he
  have e1:(adz.map fun a=>MemPlace.cell a.block a.off)[i - 1]?=some (.cell a.block a.off):=by simp[ha]
  have e2:(adz.map fun a=>MemPlace.cell a.block a.off)[j - 1]?=some (.cell a.block a.off):=by simp[hb]
  have:=(List.getElem?_inj (List.getElem?_eq_some_iff.1 e1).1 hnd2).1 (e1.trans e2.symm)
  omega
theorem trodAll_again (hl:laidOutB P=true) {W W':World} {sp:Nat→Bool} (hb:Below W.heap.size W W'):∀{ts:List TypeId} {vs:List Value} {ds:List (DataW H)} {ps:List MemPlace},
  (∀t∈ts,P.readableRec t=true∧t<P.types.size)→DataW.TrodAll enc P W 0 (fun _=>true) true ts vs ds ps→(∀x∈ps,x.block<W.heap.size)→(∀x∈ps,sp x.block=true)→DataW.TrodAll enc P W' 0 sp true ts vs ds ps
 | [],vs,ds,ps,_,h,_,_=>by
  obtain⟨rfl,rfl,rfl⟩:=trodAll_nil h
  exact trodAll_mk0
 | t::ts,vs,ds,ps,ht,h,hlt,hsp=>by
  obtain⟨v,vs',d,ds',p,q,rfl,rfl,rfl,h0,h1⟩:=trodAll_cons h
  obtain⟨hr,hrow⟩:=ht t (List.mem_cons_self ..)
  refine trodAll_cons_mk (WideElems.Trod_stays hl hr hrow h0 (fun x hx=>hb.same (hlt x (List.mem_append_left _ hx))) fun x hx=>hsp x (List.mem_append_left _ hx)) ?_
  exact trodAll_again hl hb (fun t ht'=>ht t (List.mem_cons_of_mem _ ht')) h1 (fun x hx=>hlt x (List.mem_append_right _ hx)) fun x hx=>hsp x (List.mem_append_right _ hx)
theorem law_post {f:Func} {s:ChangeSpec} {apart fresh handsOn again:Bool} {W W':World} {args:Array Value} {ds gs:List (DataW H)} {before:List MemPlace} {tb:TypeId}
  (hl:laidOutB P=true) (hts:f.params.toList.all (fun t=>P.readableRec t&&Nat.blt t P.types.size)=true) (hb4:P.underlying tb=some .bool) (hrt:f.resultTypes = #[tb]) (hvs:s.vars=[])
  (hW:DataW.Whole enc P f.params.toList s.vars apart W args.toList ds gs before) (hfn:∀gs,gs=[]→s.fn H (ds++gs)={ results:=[.lit (.bool true)],args:=ds })
  (hb:Below W.heap.size W W'):s.post enc P f apart fresh handsOn again W args (.bool true) W':=by
 have hlt:∀x∈before,x.block<W.heap.size:=fun x hx=>hW.lt x hx
 have hold:∀x∈before,(fun b=>decide (b<W.heap.size)) x.block=true:=fun x hx=>by simpa using hlt x hx
 have hW':=hW
 obtain⟨p,q,hA,hV,hpq,hz,hn⟩:=hW'
 rw[hvs]at hV
 obtain⟨rfl,rfl⟩:=trodVars_none hV
 rw[List.append_nil]at hpq
 subst hpq
 have hfn:=hfn [] rfl
 have htt:∀t∈f.params.toList,P.readableRec t=true∧t<P.types.size:=fun t ht=>by
  have:=List.all_eq_true.1 hts t ht
  simp only[Bool.and_eq_true]at this
  exact⟨this.1,Nat.lt_of_succ_le (Nat.le_of_ble_eq_true this.2)⟩
 have hres:∀(b:Nat) (sp:Nat→Bool) (hd:Bool),DataW.TrodAll enc P W' b sp hd f.resultTypes.toList ((Value.bool true).resultList f.resultTypes.size) (s.fn H (ds++[])).results []:=fun b sp hd=>by
  rw[hfn,hrt]
  exact trodAll_mk1 ⟨1,by simp[DataW.trod,Value.cells,hb4]⟩
 have hargs:∀sp:Nat→Bool,(∀x∈before,sp x.block=true)→DataW.TrodAll enc P W' 0 sp true f.params.toList args.toList (s.fn H (ds++[])).args before:=fun sp hsp=>by
  rw[hfn]
  exact trodAll_again hl hb htt hA hlt hsp
 have hvars:∀sp:Nat→Bool,DataW.TrodVars enc P W' sp s.vars (s.fn H (ds++[])).vars []:=fun sp=>by
  rw[hvs,hfn]
  rfl
 refine⟨ds,[],before,[],before,[],hW,hres _ _ _,hargs _ hold,hvars _,World.keptBut_mono (fun x hx=>⟨hx,.inr (.inl hx)⟩) (hb.frame (·∈before)),fun _=>?_⟩
 refine⟨?_,_,_,([]++before)++[],⟨[]++before,[],trodAll_append (hargs _ (fun _ _=>rfl)) (hres _ _ _),hvars _,rfl,?_,?_⟩,?_⟩
 ·intro j t r hj hv
  rw[hrt]at hj hv
  match j,hj,hv with
  | 0,hj,hv=>
   simp[Value.resultList]at hj hv
   subst hj;subst hv
   simp[Value.okWide,hb4,Cell.okWide,Cell.ok]
  | j+1,hj,hv=>simp at hj
 ·intro b off hp
  have hin:MemPlace.cell b off∈before:=by simpa using hp
  rw[hb.frozen (hlt _ hin)]
  exact hz b off hin
 ·intro ha
  simpa using hn ha
 ·intro x hx _
  simpa using hx
end
end Go.Sx
end
