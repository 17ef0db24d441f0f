/- The texts of this claim, put together. -/
import Derived.Test.YtiohehjhlghikaaGreatDoorJgPVC4
set_option linter.all false
set_option maxRecDepth 100000
open Go.Instr (loadAt fieldAt indexAt extract buildSlice build)
namespace Go.Proofs.YtiohehjhlghikaaGreatDoor
open Go
structure Dk where
 (size sectors:Nat)
 st:List Tx
 buf:List (Nat×Tx)
 arm:Nat
def lM(st:List Tx)(buf:List (Nat×Tx)):List Tx:=buf.foldl (λl w=>l.set w.1 w.2) st
def zP:∀(buf:List (Nat×Tx)) (st:List Tx),(lM st buf).length=st.length
 | [],st=>rfl
 | w::buf,st=>by
  show(lM (st.set w.1 w.2) buf).length=_;rw[zP buf,List.length_set]
def aIL(st:List Tx)(buf:List (Nat×Tx))(w:Nat×Tx):lM st (buf++[w])=(lM st buf).set w.1 w.2:=by unfold lM;rw[List.foldl_append];rfl
def Dk.tick(d:Dk):Dk:=⟨d.size,d.sectors,d.st,d.buf,d.arm-1⟩
def Dk.wr(d:Dk)(n:Int)(s:Tx):Dk×Int:=
 if n<0∨(d.sectors:Int)≤n∨s.length≠d.size then(d,1) else if d.arm=1 then(d.tick,13) else(⟨d.size,d.sectors,d.st,d.buf++[(n.toNat,s)],d.arm-1⟩,0)
def Dk.fl(d:Dk):Dk×Int:=if d.arm=1 then(d.tick,13) else(⟨d.size,d.sectors,lM d.st d.buf,[],d.arm-1⟩,0)
def Dk.at(d:Dk)(n:Nat):Tx:=(lM d.st d.buf).getD n []
def Dk.rd(d:Dk)(n:Int):Tx×Int:=if n<0∨(d.sectors:Int)≤n then([],1) else(d.at n.toNat,0)
structure Dk.Ok(d:Dk):Prop where
 len:d.st.length=d.sectors
 size:fS d.size
 one:1≤d.sectors
 many:d.sectors≤4096
 each:∀s∈d.st,s.length=d.size
 buf:∀w∈d.buf,w.1<d.sectors∧w.2.length=d.size
def Dk.Ok.tick{d:Dk}(H:d.Ok):d.tick.Ok:=⟨H.len,H.size,H.one,H.many,H.each,H.buf⟩
def Dk.Ok.wr{d:Dk}(H:d.Ok)(n:Int)(s:Tx):(d.wr n s).1.Ok:=by
 unfold Dk.wr;split
 ·exact H
 ·rename_i h;split
  ·exact H.tick
  ·refine⟨H.len,H.size,H.one,H.many,H.each,λw hw=>?_⟩;rcases xA.1 hw with hw|hw
   ·exact H.buf w hw
   ·simp only[iI] at hw;subst hw;have h2:¬s.length≠d.size:=λhx=>h (.inr (.inr hx));exact⟨by show n.toNat<d.sectors;omega,by show s.length=d.size;omega⟩
def aFi{n:Nat}:∀(buf:List (Nat×Tx)) (st:List Tx),(∀s∈st,s.length=n)->(∀w∈buf,w.2.length=n)->∀s∈lM st buf,s.length=n
 | [],st,h,_=>h
 | w::buf,st,h,hb=>aFi buf (st.set w.1 w.2) (λs hs=>by
   rcases List.mem_or_eq_of_mem_set hs with h1|h1
   ·exact h s h1
   ·rw[h1];exact hb w (by simp)) λx hx=>hb x (by simp[hx])
def Dk.Ok.fl{d:Dk}(H:d.Ok):d.fl.1.Ok:=by
 unfold Dk.fl;split
 ·exact H.tick
 ·exact⟨by show(lM _ _).length=_;rw[zP];exact H.len,H.size,H.one,H.many,aFi _ _ H.each λw hw=>(H.buf w hw).2,by simp⟩
def Dk.wr_geo(d:Dk)(n:Int)(s:Tx):(d.wr n s).1.size=d.size∧(d.wr n s).1.sectors=d.sectors:=by
 unfold Dk.wr;split
 ·exact⟨rfl,rfl⟩
 ·split<;>exact⟨rfl,rfl⟩
def Dk.fl_geo(d:Dk):d.fl.1.size=d.size∧d.fl.1.sectors=d.sectors:=by
 unfold Dk.fl;split<;>exact⟨rfl,rfl⟩
def Dk.Ok.at_len{d:Dk}(H:d.Ok){n:Nat}(h:n<d.sectors):(d.at n).length=d.size:=by
 unfold Dk.at;have hl:n<(lM d.st d.buf).length:=by rw[zP,H.len];exact h
 rw[aDm,kV hl];exact aFi _ _ H.each (λw hw=>(H.buf w hw).2) _ (aIu hl)
structure Wl where
 hd:Hd
 (slot used ser:Nat)
 (ready broken:Bool)
def Wl.zero:Wl:=⟨Hd.zero,0,0,0,false,false⟩
def iQ:Dk->Nat->List Tx->Dk×Int
 | d,_,[]=>d.fl
 | d,n,s::l=>if (d.wr (n:Int) s).2≠0 then((d.wr (n:Int) s).1,(d.wr (n:Int) s).2) else iQ (d.wr (n:Int) s).1 (n+1) l
def vI:∀(l:List Tx) {d:Dk} (_:d.Ok) (n:Nat),(iQ d n l).1.Ok∧(iQ d n l).1.size=d.size∧(iQ d n l).1.sectors=d.sectors∧((iQ d n l).2=0∨(iQ d n l).2=1∨(iQ d n l).2=13)
 | [],d,H,n=>by
  refine⟨H.fl,d.fl_geo.1,d.fl_geo.2,?_⟩;show d.fl.2=0∨d.fl.2=1∨d.fl.2=13;unfold Dk.fl;split
  ·exact .inr (.inr rfl)
  ·exact .inl rfl
 | s::l,d,H,n=>by
  unfold iQ;split
  ·refine⟨H.wr _ _,(d.wr_geo _ _).1,(d.wr_geo _ _).2,?_⟩;show(d.wr _ _).2=0∨(d.wr _ _).2=1∨(d.wr _ _).2=13;unfold Dk.wr;split
   ·exact .inr (.inl rfl)
   ·split
    ·exact .inr (.inr rfl)
    ·exact .inl rfl
  ·obtain⟨a,b,c,e⟩:=vI l (H.wr (n:Int) s) (n+1);exact⟨a,b.trans (d.wr_geo _ _).1,c.trans (d.wr_geo _ _).2,e⟩
def Dk.segs(d:Dk):Nat:=(d.sectors-2)/2
def Dk.base(d:Dk)(seg:Nat):Nat:=2+seg*d.segs
def Dk.secs(d:Dk)(n k:Nat):List Tx:=(List.range k).map λi=>d.at (n+i)
def Dk.secs_len(d:Dk)(n k:Nat):(d.secs n k).length=k:=by simp[Dk.secs]
def zI(d:Dk)(hd:Hd)(slot:Nat):Wl×List Tx:=
 (⟨hd,slot,(jR d.size hd.gen (d.segs+1) (d.secs (d.base hd.seg) d.segs) 0).2,(jR d.size hd.gen (d.segs+1) (d.secs (d.base hd.seg) d.segs) 0).1.length,false,false⟩,(jR d.size hd.gen (d.segs+1) (d.secs (d.base hd.seg) d.segs) 0).1)
def fL(d:Dk):Dk×(Wl×List Tx)×Int:=
 if d.sectors<4 then(d,(Wl.zero,[]),1)
 else if d.fl.2≠0 then(d.fl.1,(Wl.zero,[]),d.fl.2)
 else if (mY d.size (d.fl.1.at 0) (d.fl.1.at 1)).2<0 then
  if (iQ d.fl.1 1 [(fQ d.size ⟨1,0⟩).1]).2≠0 then((iQ d.fl.1 1 [(fQ d.size ⟨1,0⟩).1]).1,(Wl.zero,[]),(iQ d.fl.1 1 [(fQ d.size ⟨1,0⟩).1]).2)
  else((iQ d.fl.1 1 [(fQ d.size ⟨1,0⟩).1]).1,zI (iQ d.fl.1 1 [(fQ d.size ⟨1,0⟩).1]).1 ⟨1,0⟩ 1,0)
 else(d.fl.1,zI d.fl.1 (mY d.size (d.fl.1.at 0) (d.fl.1.at 1)).1 (mY d.size (d.fl.1.at 0) (d.fl.1.at 1)).2.toNat,0)
def Wl.brk(w:Wl)(e:Int):Wl:=⟨w.hd,w.slot,w.used,w.ser,w.ready,decide (e=13)⟩
def fits(d:Dk)(w:Wl)(n:Nat):Bool:=decide (dQ d.size n≠0∧dQ d.size n+w.used≤d.segs)
def aAq(d:Dk)(w:Wl)(s:Tx):Dk×Int:=iQ d (d.base w.hd.seg+w.used) (fZ d.size w.hd.gen w.ser s)
def kX(d:Dk)(w:Wl)(s:Tx):Dk×Wl×Int:=
 if w.broken then(d,w,14)
 else if w.ready=false then(d,w.brk 15,15)
 else if dQ d.size s.length=0 then(d,w.brk 1,1)
 else if fits d w s.length=false then(d,w.brk 2,2)
 else if (aAq d w s).2≠0 then((aAq d w s).1,w.brk (aAq d w s).2,(aAq d w s).2)
 else((aAq d w s).1,⟨w.hd,w.slot,w.used+dQ d.size s.length,w.ser+1,w.ready,false⟩,0)
def nJ(d:Dk)(h:Hd)(s:Tx):Dk×Int:=iQ d (d.base h.seg) (fZ d.size h.gen 0 s)
def gK(d:Dk)(w:Wl)(s:Tx):Dk×Wl×Int:=
 if w.broken then(d,w,14)
 else if dQ d.size s.length=0 then(d,w.brk 1,1)
 else if d.segs<dQ d.size s.length then(d,w.brk 2,2)
 else if (iB w.hd).2≠0 then(d,w.brk (iB w.hd).2,(iB w.hd).2)
 else if (nJ d (iB w.hd).1 s).2≠0 then((nJ d (iB w.hd).1 s).1,w.brk (nJ d (iB w.hd).1 s).2,(nJ d (iB w.hd).1 s).2)
 else if (iQ (nJ d (iB w.hd).1 s).1 (1-w.slot) [(fQ d.size (iB w.hd).1).1]).2≠0 then
  ((iQ (nJ d (iB w.hd).1 s).1 (1-w.slot) [(fQ d.size (iB w.hd).1).1]).1,w.brk (iQ (nJ d (iB w.hd).1 s).1 (1-w.slot) [(fQ d.size (iB w.hd).1).1]).2,(iQ (nJ d (iB w.hd).1 s).1 (1-w.slot) [(fQ d.size (iB w.hd).1).1]).2)
 else((iQ (nJ d (iB w.hd).1 s).1 (1-w.slot) [(fQ d.size (iB w.hd).1).1]).1,⟨(iB w.hd).1,1-w.slot,dQ d.size s.length,1,true,false⟩,0)
def aOx{l:List Tx}{i n:Nat}{s:Tx}(h:n<l.length):(l.set n s).getD i []=if i=n then s else l.getD i []:=by
 rw[aDm,aDm,List.getElem?_set];by_cases c:n=i
 ·subst c;simp[h]
 ·rw[if_neg c,if_neg (by omega)]
structure aQd(d d':Dk)(n:Nat)(l:List Tx):Prop where
 ok:d'.Ok
 size:d'.size=d.size
 sectors:d'.sectors=d.sectors
 arm:d'.arm=0
 buf:d'.buf=[]
 here:∀i,d'.at i=if n≤i∧i<n+l.length then l.getD (i-n) [] else d.at i
def aF9:∀(l:List Tx) {d:Dk} (_:d.Ok) (_:d.arm=0) (n:Nat) (_:n+l.length≤d.sectors) (_:∀s∈l,s.length=d.size),(iQ d n l).2=0∧aQd d (iQ d n l).1 n l
 | [],d,H,ha,n,hn,hl=>by
  have e:iQ d n []=(⟨d.size,d.sectors,lM d.st d.buf,[],d.arm-1⟩,0):=by
   show d.fl=_;unfold Dk.fl;rw[if_neg (by omega)]
  have hok:(iQ d n []).1.Ok:=(vI [] H n).1;rw[e] at hok ⊢;exact⟨rfl,hok,rfl,rfl,by show d.arm-1=0;omega,rfl,λi=>by rw[if_neg (by simp only[kW];omega)];rfl⟩
 | s::l,d,H,ha,n,hn,hl=>by
  simp only[iN] at hn;have e:d.wr (n:Int) s=(⟨d.size,d.sectors,d.st,d.buf++[(n,s)],d.arm-1⟩,0):=by
   unfold Dk.wr;rw[if_neg (by have:=hl s (by simp);omega),if_neg (by omega)];rfl
  have h1:=H.wr (n:Int) s;have eat:∀i,(d.wr (n:Int) s).1.at i=if i=n then s else d.at i:=λi=>by
   rw[e];show(lM d.st (d.buf++[(n,s)])).getD i []=_;rw[aIL,aOx (by rw[zP,H.len];omega)];rfl
  have ih:=aF9 l h1 (by rw[e];show d.arm-1=0;omega) (n+1) (by rw[e];show n+1+l.length≤d.sectors;omega) (by rw[e];exact λx hx=>hl x (by simp[hx]));have ep:iQ d n (s::l)=iQ (d.wr (n:Int) s).1 (n+1) l:=by
   conv=>lhs;unfold iQ
   rw[if_neg (by rw[e];simp)]
  rw[ep];obtain⟨a,b⟩:=ih;refine⟨a,b.ok,b.size.trans (by rw[e]),b.sectors.trans (by rw[e]),b.arm,b.buf,λi=>?_⟩;rw[b.here i,eat i];simp only[iN];by_cases c1:i=n
  ·subst c1;rw[if_neg (by omega),if_pos rfl,if_pos (by omega),aIC];rfl
  ·by_cases c2:n+1≤i∧i<n+1+l.length
   ·rw[if_pos c2,if_pos (by omega)];obtain⟨k,hk⟩:∃k,i-n=k+1:=⟨i-n-1,by omega⟩;rw[hk,show i-(n+1)=k by omega];rfl
   ·rw[if_neg c2,if_neg c1,if_neg (by omega)]
def aHN{size n:Nat}(ok:fS size)(h:n≤4096):dQ size n=max 1 ((n+(size-25)-1)/(size-25)):=by unfold dQ;rw[if_pos ⟨ok,h⟩]
def tY{size n:Nat}(ok:fS size)(h:n≤4096):1≤dQ size n:=by rw[aHN ok h];omega
def aCt{size n k:Nat}(ok:fS size)(h:n≤4096)(hk:k+1<dQ size n):(k+1)*(size-25)<n:=by
 rw[aHN ok h] at hk;have h64:=ok.1;obtain⟨room,hr⟩:∃room,size-25=room:=⟨_,rfl⟩;rw[hr] at hk ⊢;have hq:k+2≤(n+room-1)/room:=by omega
 have h2:=(Nat.le_div_iff_mul_le (by omega)).1 hq;rw[show(k+2)*room=(k+1)*room+room by rw[show k+2=(k+1)+1 by omega,Nat.succ_mul]] at h2;omega
def aCs{size n k:Nat}(ok:fS size)(h:n≤4096)(hk:k+1=dQ size n):n≤(k+1)*(size-25)∧(1≤k->k*(size-25)<n):=by
 have h64:=ok.1;have hk':=hk;rw[aHN ok h] at hk;refine⟨?_,λh1=>?_⟩
 ·obtain⟨room,hr⟩:∃room,size-25=room:=⟨_,rfl⟩;rw[hr] at hk ⊢;have hq:(n+room-1)/room<k+2:=by omega
  have h2:=(Nat.div_lt_iff_lt_mul (by omega)).1 hq;rw[show(k+2)*room=(k+1)*room+room by rw[show k+2=(k+1)+1 by omega,Nat.succ_mul]] at h2;omega
 ·obtain⟨j,rfl⟩:∃j,k=j+1:=⟨k-1,by omega⟩;exact aCt ok h (by omega)
def aMs{size n:Nat}(ok:fS size):dQ size n≤106:=by
 unfold dQ;split
 ·rename_i c;have h64:=ok.1;have h4:=c.2;obtain⟨room,hr⟩:∃room,size-25=room:=⟨_,rfl⟩;rw[hr];have:(n+room-1)/room<107:=(Nat.div_lt_iff_lt_mul (by omega)).2 (by omega);omega
 ·omega
def aQv{size m n:Nat}(ok:fS size)(h:m≤n)(hn:n≤4096):dQ size m≤dQ size n:=by
 rw[aHN ok hn,aHN ok (by omega)];have:(m+(size-25)-1)/(size-25)≤(n+(size-25)-1)/(size-25):=Nat.div_le_div_right (by omega);omega
def aFn{size:Nat}{s:Tx}{k:Nat}(ok:fS size)(h:s.length≤4096)(hk:k<dQ size s.length):
  (iX (size-25) s k).length+25≤size∧(k+1≠dQ size s.length->(iX (size-25) s k).length=size-25)∧(k+1=dQ size s.length->1<dQ size s.length->iX (size-25) s k≠[])∧k*(size-25)+(iX (size-25) s k).length≤4096:=by
 have h64:=ok.1;have e:(iX (size-25) s k).length=min (size-25) (s.length-k*(size-25)):=by unfold iX;rw[mH,jE]
 have hm:(k+1)*(size-25)=k*(size-25)+(size-25):=Nat.succ_mul _ _;refine⟨by omega,λc=>?_,λc c1=>?_,?_⟩
 ·have:=aCt (k:=k) ok h (by omega);omega
 ·have:=(aCs ok h c).2 (by omega);intro h0;rw[h0] at e;simp only[kW] at e;omega
 ·by_cases c:k+1=dQ size s.length
  ·by_cases c1:1≤k
   ·have:=(aCs ok h c).2 c1;omega
   ·obtain rfl:k=0:=by omega
    rw[Nat.zero_mul] at e ⊢;omega
  ·have:=aCt (k:=k) ok h (by omega);omega
def aNy{size gen ser:Nat}{s:Tx}{k:Nat}(ok:fS size)(h:s.length≤4096)(g1:gen<18446744073709551616)(g2:ser<18446744073709551616)(hk:k<dQ size s.length):
  fP size (nQ size gen ser k (dQ size s.length) (iX (size-25) s k))=(⟨gen,ser,k,dQ size s.length,iX (size-25) s k⟩,0):=by
 obtain⟨a,b,c,d⟩:=aFn ok h hk;have h106:=aMs (n:=s.length) ok;refine aQR ok a g1 g2 hk (by omega) ⟨b,c⟩ ⟨?_,?_⟩
 ·have:=tY (n:=k*(size-25)+(iX (size-25) s k).length) ok d;show dQ size (k*(size-25)+(iX (size-25) s k).length)≠0;omega
 ·exact aQv ok h (mS _)
def aSZ(room:Nat)(s:Tx)(k:Nat):s.take (k*room)++iX room s k=s.take ((k+1)*room):=by
 unfold iX;rw[Nat.succ_mul,List.take_add]
def aRc{size gen ser:Nat}{s:Tx}(ok:fS size)(h:s.length≤4096)(g1:gen<18446744073709551616)(g2:ser<18446744073709551616)(rest:List Tx):∀(j k p:Nat),k+(j+1)=dQ size s.length->(k≠0->p=dQ size s.length)->
  iW size gen ser ((List.range' k (j+1)).map (λk=>nQ size gen ser k (dQ size s.length) (iX (size-25) s k))++rest) k p (s.take (k*(size-25)))=(s,dQ size s.length)
 | j,k,p,hj,hp=>by
  have er:=aNy (size:=size) (gen:=gen) (ser:=ser) (s:=s) (k:=k) ok h g1 g2 (by omega);have ep:(if k=0 then dQ size s.length else p)=dQ size s.length:=by
   split
   ·rfl
   ·rename_i c;exact hp c
  rw[List.range'_succ,hM,zLT];unfold iW;simp only[er,ep];rw[if_neg (by unfold aGB;simp),aSZ];by_cases c:k+1=dQ size s.length
  ·rw[if_pos c];have:=(aCs ok h c).1;rw[rN (by omega)]
  ·rw[if_neg c];obtain⟨i,rfl⟩:∃i,j=i+1:=⟨j-1,by omega⟩;exact aRc ok h g1 g2 rest i (k+1) _ (by omega) λ_=>rfl
def kK(size gen ser:Nat)(s:Tx):(fZ size gen ser s).length=dQ size s.length:=by simp[fZ]
def aQ8{size gen ser:Nat}{s:Tx}(ok:fS size)(h:s.length≤4096)(g1:gen<18446744073709551616)(g2:ser<18446744073709551616)(rest:List Tx):iW size gen ser (fZ size gen ser s++rest) 0 0 []=(s,dQ size s.length):=by
 have h1:=tY (n:=s.length) ok h;obtain⟨j,hj⟩:∃j,dQ size s.length=j+1:=⟨dQ size s.length-1,by omega⟩;have:=aRc (s:=s) ok h g1 g2 rest j 0 0 (by omega) (λc=>absurd rfl c);rw[Nat.zero_mul,zLd,←hj] at this;unfold fZ;rw[List.range_eq_range'];exact this
def Old(size g:Nat)(s:Tx):Prop:=(fP size s).2=0->(fP size s).1.gen<g
def Old.mono{size g g':Nat}{s:Tx}(h:Old size g s)(hg:g≤g'):Old size g' s:=λe=>by have:=h e;omega
def aUu{size gen ser:Nat}{rest:List Tx}(h:∀x,rest.head? =some x->Old size gen x):iW size gen ser rest 0 0 []=([],0):=by
 cases rest with
 | nil=>rfl
 | cons x xs=>
  unfold iW;rw[if_pos];by_cases c:(fP size x).2=0
  ·have:=h x rfl c;exact .inr (.inl (by omega))
  ·exact .inl c
def kM(size gen:Nat):Nat->List Tx->List Tx
 | _,[]=>[]
 | ser,s::l=>fZ size gen ser s++kM size gen (ser+1) l
def aJH(size gen:Nat):∀(l:List Tx) (ser:Nat) (s:Tx),kM size gen ser (l++[s])=kM size gen ser l++fZ size gen (ser+l.length) s
 | [],ser,s=>by simp[kM]
 | x::l,ser,s=>by
  show fZ size gen ser x++kM size gen (ser+1) (l++[s])=(fZ size gen ser x++kM size gen (ser+1) l)++_;rw[aJH size gen l (ser+1) s,uV,iN,show ser+1+l.length=ser+(l.length+1) by omega]
def aGI{size gen:Nat}(ok:fS size):∀(l:List Tx) (ser:Nat),(∀s∈l,s.length≤4096)->l.length≤(kM size gen ser l).length
 | [],ser,_=>lA _
 | x::l,ser,h=>by
  have:=aGI (gen:=gen) ok l (ser+1) λs hs=>h s (by simp[hs]);have h1:=tY (n:=x.length) ok (h x (by simp));show(l.length+1)≤(fZ size gen ser x++kM size gen (ser+1) l).length;rw[jK,kK];omega
def aID{size gen:Nat}(ok:fS size)(g1:gen<18446744073709551616){rest:List Tx}(hr:∀x,rest.head? =some x->Old size gen x):∀(l:List Tx) (f ser:Nat),(∀s∈l,s.length≤4096)->l.length<f->ser+l.length<18446744073709551616->
  jR size gen f (kM size gen ser l++rest) ser=(l,(kM size gen ser l).length)
 | [],f,ser,_,hf,_=>by
  obtain⟨f,rfl⟩:∃g,f=g+1:=⟨f-1,by simp only[kW] at hf;omega⟩;unfold jR;rw[if_pos (by show(iW size gen ser rest 0 0 []).2=0;rw[aUu hr])];rfl
 | s::l,f,ser,hl,hf,hs=>by
  simp only[iN] at hf hs;obtain⟨f,rfl⟩:∃g,f=g+1:=⟨f-1,by omega⟩;have h1:=hl s (by simp);have hp:=tY (n:=s.length) ok h1;have er:iW size gen ser (kM size gen ser (s::l)++rest) 0 0 []=(s,dQ size s.length):=by
   show iW size gen ser ((fZ size gen ser s++kM size gen (ser+1) l)++rest) 0 0 []=_;rw[uV];exact aQ8 ok h1 g1 (by omega) _
  have ed:(kM size gen ser (s::l)++rest).drop (dQ size s.length)=kM size gen (ser+1) l++rest:=by
   show((fZ size gen ser s++kM size gen (ser+1) l)++rest).drop _=_;rw[uV,←kK size gen ser s,List.drop_left]
  have ih:=aID ok g1 hr l f (ser+1) (λx hx=>hl x (by simp[hx])) (by omega) (by omega);unfold jR;rw[er];simp only;rw[if_neg (by omega),ed,ih];simp only[kM,jK,kK]
structure Log(d:Dk)(w:Wl)(l:List Tx):Prop where
 ok:d.Ok
 arm:d.arm=0
 buf:d.buf=[]
 four:4≤d.sectors
 g1:1≤w.hd.gen
 g2:w.hd.gen<18446744073709551615
 seg:w.hd.seg≤1
 slot:w.slot≤1
 head:d.at w.slot=(fQ d.size w.hd).1
 other:(fW d.size (d.at (1-w.slot))).1.gen<w.hd.gen
 used:w.used=(kM d.size w.hd.gen 0 l).length
 fits:w.used≤d.segs
 ser:w.ser=l.length
 recs:d.secs (d.base w.hd.seg) w.used=kM d.size w.hd.gen 0 l
 short:∀s∈l,s.length≤4096
 rest:∀i,w.used≤i->i<d.segs->Old d.size w.hd.gen (d.at (d.base w.hd.seg+i))
 all:∀i,2≤i->i<d.sectors->Old d.size (w.hd.gen+1) (d.at i)
 broken:w.broken=false
def aPe(d:Dk)(h:4≤d.sectors){seg:Nat}(hs:seg≤1){i:Nat}(hi:i<d.segs):2≤d.base seg+i∧d.base seg+i<d.sectors:=by
 unfold Dk.base;unfold Dk.segs at hi ⊢;have:seg=0∨seg=1:=by omega
 rcases this with rfl|rfl<;>omega
def zZ(d:Dk)(h:4≤d.sectors){seg:Nat}(hs:seg≤1):d.base seg+d.segs≤d.sectors:=by
 unfold Dk.base Dk.segs;have:seg=0∨seg=1:=by omega
 rcases this with rfl|rfl<;>omega
def aOH(d:Dk)(n a b:Nat):d.secs n (a+b)=d.secs n a++d.secs (n+a) b:=by
 unfold Dk.secs;rw[List.range_eq_range',List.range_eq_range',List.range_eq_range',←List.range'_append_1,wA,iP];congr 1;rw[List.range'_eq_map_range,zLZ,←List.range_eq_range'];apply zL0;intro i _;show d.at (n+(a+i))=d.at (n+a+i);rw[Nat.add_assoc]
def aQh{d:Dk}{w:Wl}{l:List Tx}(H:Log d w l):mY d.size (d.at 0) (d.at 1)=(w.hd,(w.slot:Int)):=by
 have hg:=aOt H.ok.size (by have:=H.g1;omega) (by have:=H.g2;omega) H.seg;rw[←H.head] at hg;have ho:=H.other;have g1:=H.g1;have hne:w.hd≠Hd.zero:=λe=>by rw[e] at g1;exact absurd g1 (by decide)
 unfold mY;have hs:=H.slot;have:w.slot=0∨w.slot=1:=by omega
 rcases this with e|e
 ·rw[e] at hg ho ⊢;rw[hg];have:wK (Hd.zero,-1) 0 w.hd=(w.hd,0):=by
   unfold wK;rw[if_pos ⟨hne,by show 0<w.hd.gen;omega⟩]
  rw[this];unfold wK;rw[if_neg (λc=>by
   have h2:w.hd.gen<(fW d.size (d.at 1)).1.gen:=c.2;have h3:(fW d.size (d.at 1)).1.gen<w.hd.gen:=ho;omega)]
  rfl
 ·rw[e] at hg ho ⊢;rw[hg];have hlt:(wK (Hd.zero,-1) 0 (fW d.size (d.at (1-1))).1).1.gen<w.hd.gen:=by
   unfold wK;split
   ·exact ho
   ·show 0<w.hd.gen;omega
  exact if_pos ⟨hne,hlt⟩
def aSc{d:Dk}(ha:d.arm=0)(hb:d.buf=[]):d.fl=(d,0):=by
 unfold Dk.fl;rw[if_neg (by omega)];obtain⟨a,b,c,e,f⟩:=d;simp only at ha hb;subst ha hb;rfl
def aOR{d:Dk}{w:Wl}{l:List Tx}(H:Log d w l):fL d=(d,(⟨w.hd,w.slot,w.used,w.ser,false,false⟩,l),0):=by
 have ef:=aSc H.arm H.buf;have en:=aQh H;unfold fL;rw[ef];simp only;rw[if_neg (by have:=H.four;omega),if_neg (by simp),en];simp only;rw[if_neg (by omega),wU];have e1:d.secs (d.base w.hd.seg) d.segs=kM d.size w.hd.gen 0 l++d.secs (d.base w.hd.seg+w.used) (d.segs-w.used):=by
  have hf:=H.fits;rw[show d.segs=w.used+(d.segs-w.used) by omega,aOH,H.recs];rw[show w.used+(d.segs-w.used)-w.used=d.segs-w.used by omega]
 have hl:=aGI (gen:=w.hd.gen) H.ok.size l 0 H.short;have es:=aID (gen:=w.hd.gen) (rest:=d.secs (d.base w.hd.seg+w.used) (d.segs-w.used)) H.ok.size (by have:=H.g2;omega) (λx hx=>by
  by_cases c:w.used<d.segs
  ·have:=H.rest w.used (mS _) c;have e2:d.secs (d.base w.hd.seg+w.used) (d.segs-w.used)=d.at (d.base w.hd.seg+w.used)::(d.secs (d.base w.hd.seg+w.used) (d.segs-w.used)).tail:=by
    obtain⟨n,hn⟩:∃n,d.segs-w.used=n+1:=⟨d.segs-w.used-1,by omega⟩;rw[hn];unfold Dk.secs;rw[List.range_succ_eq_map,hM,List.tail_cons,zLP]
   rw[e2] at hx;simp only[List.head?_cons,zL4] at hx;rw[←hx];exact this
  ·rw[show d.segs-w.used=0 by omega] at hx;simp[Dk.secs] at hx) l (d.segs+1) 0 H.short (by have:=H.used;have:=H.fits;omega) (by have:=H.used;have:=H.fits;have:=H.ok.many;unfold Dk.segs at *;omega)
 unfold zI;rw[e1,es,←H.used,←H.ser]
def aIT{t:Tx}{n:Nat}(h:n≤t.length):lS (0,t) (n:Int)=(t.take n,((0:Int),t.drop n)):=by
 unfold lS;rw[if_pos ⟨rfl,by omega,by simp only;omega⟩];simp only[wU]
def aMR{t:Tx}{n:Nat}(h:t.length<n):lS (0,t) (n:Int)=([],((6:Int),t)):=by
 unfold lS;rw[if_neg (by simp only;omega)];rfl
def oJ{t:Tx}{c:Nat}(h:c≤t.length):fC (0,t) c=(kY (t.take c),((0:Int),t.drop c)):=by
 unfold fC;rw[aIT h]
def aA6(s:Tx):Nat:=kY ((s.drop 1).take 8)
def aAx(s:Tx):Nat:=kY ((s.drop 9).take 8)
def iZ(s:Tx):Nat:=kY ((s.drop 17).take 1)
def gT(s:Tx):Nat:=kY ((s.drop 18).take 1)
def jS(s:Tx):Nat:=kY ((s.drop 19).take 2)
def lX(s:Tx):Tx:=(s.drop 21).take (jS s)
def pF(s:Tx):jV:=⟨aA6 s,aAx s,iZ s,gT s,lX s⟩
structure aWs(size:Nat)(s:Tx):Prop where
 g:frG s=(aA6 s,((0:Int),s.drop 9))
 n:frN s=(aAx s,((0:Int),s.drop 17))
 k:wO s=(iZ s,((0:Int),s.drop 18))
 q:uQ s=(gT s,((0:Int),s.drop 19))
 l:lS (0,s) 1=(s.take 1,((0:Int),s.drop 1))
 t:wN s=if jS s≤size-25 then(lX s,((0:Int),s.drop (21+jS s))) else([],((6:Int),s.drop 21))
def aQY{size:Nat}{s:Tx}(ok:64≤size)(h:s.length=size-4):aWs size s:=by
 have l0:lS (0,s) 1=(s.take 1,((0:Int),s.drop 1)):=aIT (n:=1) (by omega);have g:frG s=(aA6 s,((0:Int),s.drop 9)):=by
  unfold frG;rw[l0];simp only;rw[oJ (by rw[jE];omega),pN];rfl
 have n:frN s=(aAx s,((0:Int),s.drop 17)):=by
  unfold frN;rw[g];simp only;rw[oJ (by rw[jE];omega),pN];rfl
 have k:wO s=(iZ s,((0:Int),s.drop 18)):=by
  unfold wO;rw[n];simp only;rw[oJ (by rw[jE];omega),pN];rfl
 have q:uQ s=(gT s,((0:Int),s.drop 19)):=by
  unfold uQ;rw[k];simp only;rw[oJ (by rw[jE];omega),pN];rfl
 refine⟨g,n,k,q,l0,?_⟩;unfold wN vM;rw[q];simp only;rw[oJ (by rw[jE];omega),pN];simp only;show lS (0,s.drop 21) (jS s:Nat)=_;split
 ·rw[aIT (by rw[jE];omega),pN];rfl
 ·rw[aMR (by rw[jE];omega)]
def aFV(size:Nat)(f:jV):Prop:=(f.part+1<f.parts∧f.b.length≠size-25)∨(0<f.part∧f.b.length=0)
def aER(size:Nat)(f:jV):Nat:=if f.part+1=f.parts then(f.parts-1)*(size-25)+f.b.length else(f.parts-1)*(size-25)+1
instance (n:Nat) (f:jV):Decidable (aFV n f):=by unfold aFV;infer_instance
def wB(size:Nat)(s:Tx):jV×Int:=
 if ¬fS size then(jV.zero,1) else if s.length≠size then(jV.zero,6) else if nP s=false then(jV.zero,8)
 else if size-25<jS s∨gT s≤iZ s then(jV.zero,5)
 else if aFV size (pF s) then(jV.zero,5)
 else if 4096<aER size (pF s)∨nQ size (aA6 s) (aAx s) (iZ s) (gT s) (lX s)≠s then(jV.zero,5)
 else(pF s,0)
def aFH{t:Tx}{c:Nat}(h:c≤t.length):be (kY (t.take c)) c=t.take c:=by
 have:=aVj (t.take c);rw[mH,aGW h] at this;exact this
def nY(s:Tx)(i c n:Nat)(h:i+c≤n):((s.take n).drop i).take c=(s.drop i).take c:=by
 rw[zLy,aH8,aGW (by omega)]
def aSn{s:Tx}{n:Nat}(h:21≤n)(hl:jS s+21≤n):pF (s.take n)=pF s∧jS (s.take n)=jS s:=by
 have e:jS (s.take n)=jS s:=by unfold jS;rw[nY _ _ _ _ (by omega)]
 refine⟨?_,e⟩;unfold pF lX;rw[e];unfold aA6 aAx iZ gT;rw[nY _ _ _ _ (by omega),nY _ _ _ _ (by omega),nY _ _ _ _ (by omega),nY _ _ _ _ (by omega),nY _ _ _ _ (by omega)]
def aSO{s:Tx}{n:Nat}(h:21≤n):jS (s.take n)=jS s:=by unfold jS;rw[nY _ _ _ _ (by omega)]
def aTS{size:Nat}{s:Tx}(ok:fS size)(h:s.length=size-4)(hl:jS s≤size-25):mU size (aA6 s) (aAx s) (iZ s) (gT s) (lX s)=s↔(s.take 1=[82]∧∀x∈s.drop (21+jS s),x=0):=by
 have h64:=ok.1;have tl:(lX s).length=jS s:=by unfold lX;rw[mH,jE];omega
 have b1:be (aA6 s) 8=(s.drop 1).take 8:=aFH (by rw[jE];omega);have b2:be (aAx s) 8=(s.drop 9).take 8:=aFH (by rw[jE];omega);have b3:be (iZ s) 1=(s.drop 17).take 1:=aFH (by rw[jE];omega);have b4:be (gT s) 1=(s.drop 18).take 1:=aFH (by rw[jE];omega);have b5:be (lX s).length 2=(s.drop 19).take 2:=by rw[tl];exact aFH (by rw[jE];omega)
 have sp:∀i c,s.drop i=(s.drop i).take c++s.drop (i+c):=λi c=>by rw[←pN,zL6]
 have es:s=s.take 1++((s.drop 1).take 8++((s.drop 9).take 8++((s.drop 17).take 1++((s.drop 18).take 1++(((s.drop 19).take 2++lX s)++s.drop (21+jS s)))))):=by
  conv=>lhs;rw[←zL6 1 s,sp 1 8,sp 9 8,sp 17 1,sp 18 1,sp 19 2,sp 21 (jS s)]
  simp only[uV];rfl
 unfold mU;rw[b1,b2,b3,b4,b5];have hz:(s.drop (21+jS s)).length=size-25-(lX s).length:=by rw[jE,tl];omega
 constructor
 ·intro e
  conv at e=>rhs;rw[es]
  obtain⟨c1,e⟩:=List.append_inj e (by rw[mH];simp;omega);have e:=List.append_cancel_left e;have e:=List.append_cancel_left e;have e:=List.append_cancel_left e;have e:=List.append_cancel_left e;have e:=List.append_cancel_left e;refine⟨c1.symm,λx hx=>?_⟩;rw[←e] at hx;exact List.eq_of_mem_replicate hx
 ·rintro⟨c1,c2⟩;have e:kQ (size-25-(lX s).length)=s.drop (21+jS s):=by
   unfold kQ;rw[←hz];exact(List.eq_replicate_iff.2 ⟨rfl,c2⟩).symm
  conv=>rhs;rw[es]
  rw[c1,e]
def aOM{s b:Tx}{size:Nat}(h4:4≤size)(hs:nP s=true)(hl:s.length=size)(hb:b.length=size-4):mV b=s↔b=s.take (size-4):=by
 unfold nP at hs;rw[decide_eq_true_eq,hl] at hs;constructor
 ·intro e;rw[←e];exact(aL2 (by omega)).symm
 ·intro e;subst e;unfold mV;rw[hs.2,zL6]
def aRm{size:Nat}{f:jV}(ok:fS size)(h1:f.part<f.parts)(h2:¬aFV size f)(hl:f.b.length≤size-25):aHm size f↔aER size f≤4096:=by
 have h64:=ok.1;unfold aFV at h2;unfold aHm aER;have key:∀n,dQ size n≠0↔n≤4096:=λn=>by
  constructor
  ·intro h;unfold dQ at h;split at h
   ·rename_i c;exact c.2
   ·exact absurd rfl h
  ·intro h;have:=tY (n:=n) ok h;omega
 rw[key]
 -- how many parts there may be at most
 have pk:∀p,2≤p->(p≤dQ size 4096↔(p-1)*(size-25)<4096):=λp hp=>by
  obtain⟨k,rfl⟩:∃k,p=k+1:=⟨p-1,by omega⟩;rw[Nat.add_sub_cancel];constructor
  ·intro h;by_cases c:k+1=dQ size 4096
   ·exact(aCs ok (mS _) c).2 (by omega)
   ·have:=aCt (k:=k) ok (mS 4096) (by omega);have hm:(k+1)*(size-25)=k*(size-25)+(size-25):=Nat.succ_mul _ _;omega
  ·intro h;by_cases c:k+1≤dQ size 4096
   ·exact c
   ·exfalso;have hp1:=tY (n:=4096) ok (mS _);obtain⟨m,hm⟩:∃m,dQ size 4096=m+1:=⟨dQ size 4096-1,by omega⟩;have h3:=(aCs ok (mS 4096) hm.symm).1;have h4:(m+1)*(size-25)≤k*(size-25):=zLO _ (by omega);omega
 by_cases c:f.part+1=f.parts
 ·rw[if_pos c,show f.part=f.parts-1 by omega];constructor
  ·exact λh=>h.1
  ·intro h;refine⟨h,?_⟩;by_cases c2:2≤f.parts
   ·rw[pk _ c2];omega
   ·have:=tY (n:=4096) ok (mS _);omega
 ·rw[if_neg c];have hb:f.b.length=size-25:=Classical.byContradiction λhx=>h2 (.inl ⟨by omega,hx⟩);rw[hb];have hm:(f.part+1)*(size-25)=f.part*(size-25)+(size-25):=Nat.succ_mul _ _;have hle:(f.part+1)*(size-25)≤(f.parts-1)*(size-25):=zLO _ (by omega);rw[pk _ (by omega)];constructor
  ·intro h;omega
  ·intro h;omega
def aOc(size:Nat)(s:Tx):wB size s=fP size s:=by
 unfold wB fP;split
 ·rfl
 ·rename_i ok;have ok:fS size:=Classical.not_not.1 ok;have h64:=ok.1;split
  ·rfl
  ·rename_i hl;have hl:s.length=size:=Classical.not_not.1 hl;split
   ·rfl
   ·rename_i hs;have hs:nP s=true:=by simpa using hs
    obtain⟨s',hs'⟩:∃s',s.take (size-4)=s':=⟨_,rfl⟩;have hl':s'.length=size-4:=by rw[←hs',mH];omega
    have F:=aQY (size:=size) h64 hl';have eL:jS s'=jS s:=by rw[←hs'];exact aSO (by omega)
    rw[hs'];by_cases cl:jS s≤size-25
    ·have eF:pF s'=pF s:=by rw[←hs'];exact(aSn (by omega) (by omega)).1
     have eG:aA6 s'=aA6 s:=congrArg jV.gen eF;have eS:aAx s'=aAx s:=congrArg jV.ser eF;have eP:iZ s'=iZ s:=congrArg jV.part eF;have eQ:gT s'=gT s:=congrArg jV.parts eF;have eT:lX s'=lX s:=congrArg jV.b eF;have ft:=F.t;rw[if_pos (by omega)] at ft;have fz:frZ s'=(s'.drop (21+jS s'),((0:Int),[])):=by
      unfold frZ;rw[ft];show lS (0,s'.drop (21+jS s')) (aI3 (0,s'.drop (21+jS s')):Nat)=_;have:aI3 (0,s'.drop (21+jS s'))=(s'.drop (21+jS s')).length:=rfl;rw[this,aIT (mS _),rN (mS _),aAr (mS _)]
     have eOf:aAm s'=pF s:=by
      unfold aAm;rw[F.g,F.n,F.k,F.q,ft,←eF];rfl
     have tl:(pF s).b.length=jS s:=by
      rw[←eF];show(lX s').length=jS s;unfold lX;rw[mH,jE];omega
     have o1:aH4 s'↔(iZ s<gT s∧mU size (aA6 s) (aAx s) (iZ s) (gT s) (lX s)=s'):=by
      unfold aH4;rw[fz,F.k,F.q,F.l,eP,eQ];have:=aTS ok hl' (by omega);rw[eG,eS,eP,eQ,eT] at this;rw[this];constructor
      ·rintro⟨-,a,b,c⟩;exact⟨c,a,b⟩
      ·rintro⟨c,a,b⟩;exact⟨rfl,a,b,c⟩
     have hb:(mU size (aA6 s) (aAx s) (iZ s) (gT s) (lX s)).length=size-4:=aF5 (by
      have:(lX s).length=jS s:=tl;omega)
     have o0:=aOM (by omega) hs hl hb;rw[hs'] at o0;rw[eOf];by_cases cp:iZ s<gT s
     ·rw[if_neg (by omega)];have o2:aGl size (pF s)↔¬aFV size (pF s):=by
       unfold aGl aFV;show(iZ s+1≠gT s->_)∧(iZ s+1=gT s->1<gT s->_)↔¬((iZ s+1<gT s∧_)∨(0<iZ s∧_));rw[List.ne_nil_iff_length_pos];omega
      by_cases cb:aFV size (pF s)
      ·rw[if_pos cb,if_neg (λc=>(o2.1 c.2.1) cb)]
      ·rw[if_neg cb];have o3:=aRm (f:=pF s) ok cp cb (by omega);by_cases cf:aER size (pF s)≤4096∧nQ size (aA6 s) (aAx s) (iZ s) (gT s) (lX s)=s
       ·rw[if_neg (by rintro(c|c);omega;exact c cf.2),if_pos ⟨o1.2 ⟨cp,o0.1 cf.2⟩,o2.2 cb,o3.2 cf.1⟩]
       ·rw[if_pos (Classical.byContradiction λc=>cf ⟨by omega,Classical.byContradiction λx=>c (.inr x)⟩),if_neg (λc=>cf ⟨o3.1 c.2.2,o0.2 (o1.1 c.1).2⟩)]
     ·rw[if_pos (.inr (by omega)),if_neg (λc=>cp (o1.1 c.1).1)]
    ·rw[if_pos (.inl (by omega)),if_neg (λc=>?_)];have ft:=F.t;rw[if_neg (by omega)] at ft;have:(frZ s').2.1=0:=c.1.1;unfold frZ at this;rw[ft] at this;have:=aFd (aI3 (6,s'.drop 21):Nat) 6 (s'.drop 21) (by decide);simp only at this;rename_i h0;rw[this] at h0;cases h0
def aBd{size:Nat}:∀{st:List Tx} (_:∀s∈st,s.length=size),st.flatten.length=st.length*size
 | [],_=>by simp
 | x::st,h=>by
  rw[aDr,jK,aBd λs hs=>h s (by simp[hs]),h x (by simp),iN,Nat.succ_mul];omega
def aFl{size:Nat}:∀{st:List Tx} (_:∀s∈st,s.length=size) (n:Nat),st.flatten.drop (n*size)=(st.drop n).flatten
 | st,_,0=>by simp
 | [],_,n+1=>by simp
 | x::st,h,n+1=>by
  have hx:=h x (by simp);rw[aDr,Nat.succ_mul,Nat.add_comm,←pN,←hx,List.drop_left,hx,aFl (λs hs=>h s (by simp[hs])) n,zLa]
def aNL{size:Nat}:∀{st:List Tx} (_:∀s∈st,s.length=size) (n:Nat),st.flatten.take (n*size)=(st.take n).flatten
 | st,_,0=>by simp
 | [],_,n+1=>by simp
 | x::st,h,n+1=>by
  have hx:=h x (by simp);rw[aDr,zLc,aDr,List.take_append,rN (by rw[hx,Nat.succ_mul];omega),hx,Nat.succ_mul,Nat.add_sub_cancel,aNL (λs hs=>h s (by simp[hs])) n]
def aQG{size:Nat}{st:List Tx}(h:∀s∈st,s.length=size){n:Nat}(hn:n<st.length):(st.flatten.drop (n*size)).take size=st.getD n []:=by
 have e:st.drop n=st[n]::st.drop (n+1):=aA3 hn;rw[aFl h,e,aDr,aDm,kV hn];have:=h _ (aIu hn);rw[←this,List.take_left];rfl
def aTQ{size:Nat}{st:List Tx}(h:∀s∈st,s.length=size){n:Nat}(hn:n<st.length){s:Tx}(hs:s.length≤size):st.flatten.take (n*size)++s++st.flatten.drop (n*size+s.length)=(st.set n (s++(st.getD n []).drop s.length)).flatten:=by
 have e:st.drop n=st[n]::st.drop (n+1):=aA3 hn;have hl:=h _ (aIu hn);rw[aNL h,←pN,aFl h,e,aDr,List.drop_append_of_le_length (by omega),List.set_eq_take_append_cons_drop,if_pos hn,zLG,aDr,aDm,kV hn];simp only[Option.getD_some,uV]
def aJ1:∀(buf:List (Nat×Tx)) (st:List Tx) (n:Nat),(∀w∈buf,w.1≠n)->(lM st buf).getD n []=st.getD n []
 | [],st,n,_=>rfl
 | w::buf,st,n,h=>by
  show(lM (st.set w.1 w.2) buf).getD n []=_;rw[aJ1 buf _ n λx hx=>h x (by simp[hx]),aDm,aDm,List.getElem?_set_ne (h w (by simp))]
def aRK(st:List Tx)(a b:List (Nat×Tx)):lM st (a++b)=lM (lM st a) b:=List.foldl_append
def aPJ{st:List Tx}{buf:List (Nat×Tx)}{i n:Nat}{w:Nat×Tx}(hw:buf[i]? =some w)(hn:w.1=n)(hl:n<st.length)(h:∀x∈buf.drop (i+1),x.1≠n):(lM st buf).getD n []=w.2:=by
 have hi:=(zLA.1 hw).1;have e:buf=buf.take i++[w]++buf.drop (i+1):=by
  have e1:buf.take i++[w]=buf.take (i+1):=by rw[zLR,hw];rfl
  rw[e1,zL6]
 rw[e,aRK,aJ1 _ _ _ h,aIL,aOx (by rw[zP,hn];exact hl),if_pos hn.symm]
structure WOk(d:Dk)(w:Wl):Prop where
 ok:d.Ok
 four:4≤d.sectors
 seg:w.hd.seg≤1
 slot:w.slot≤1
 used:w.used≤d.segs
def aW4(d:Dk):d.fl.2=0∨d.fl.2=13:=by
 unfold Dk.fl;split
 ·exact .inr rfl
 ·exact .inl rfl
def aWy{d:Dk}{n:Nat}{s:Tx}(hn:n<d.sectors)(hs:s.length=d.size):(d.wr (n:Int) s).2=0∨(d.wr (n:Int) s).2=13:=by
 unfold Dk.wr;rw[if_neg (by omega)];split
 ·exact .inr rfl
 ·exact .inl rfl
def aLp:∀(l:List Tx) {d:Dk} (n:Nat) (_:n+l.length≤d.sectors) (_:∀s∈l,s.length=d.size),(iQ d n l).2=0∨(iQ d n l).2=13
 | [],d,n,_,_=>aW4 d
 | s::l,d,n,hn,hl=>by
  simp only[iN] at hn;have h1:=aWy (d:=d) (n:=n) (s:=s) (by omega) (hl s (by simp));have hg:=d.wr_geo (n:Int) s;unfold iQ;by_cases c:(d.wr (n:Int) s).2=0
  ·rw[if_neg (by simp[c])];exact aLp l (n+1) (by rw[hg.2];omega) (by rw[hg.1];exact λx hx=>hl x (by simp[hx]))
  ·rw[if_pos c];rcases h1 with h1|h1
   ·exact absurd h1 c
   ·exact .inr h1
def aBT{size n:Nat}(ok:fS size):dQ size n=0↔4096<n:=by
 constructor
 ·intro h;by_cases c:n≤4096
  ·have:=tY (n:=n) ok c;omega
  ·omega
 ·intro h;unfold dQ;rw[if_neg (by omega)]
def aJf{size gen ser:Nat}{s:Tx}(ok:fS size)(h:s.length≤4096):∀x∈fZ size gen ser s,x.length=size:=by
 intro x hx;unfold fZ at hx;obtain⟨k,hk,rfl⟩:=pQ.1 hx;exact aIw (aFn ok h (aGT.1 hk)).1
def WOk.ap{d:Dk}{w:Wl}(H:WOk d w){s:Tx}(hf:fits d w s.length=true):(aAq d w s).2=0∨(aAq d w s).2=13:=by
 unfold fits at hf;rw[decide_eq_true_eq] at hf;have hs:s.length≤4096:=by
  have:=(aBT (n:=s.length) H.ok.size).2;omega
 have:=zZ d H.four H.seg;exact aLp _ _ (by rw[kK];omega) (aJf H.ok.size hs)
def WOk.ck{d:Dk}{seg gen:Nat}(ok:d.Ok)(four:4≤d.sectors)(hseg:seg≤1){s:Tx}(h0:dQ d.size s.length≠0)(hp:dQ d.size s.length≤d.segs):(nJ d ⟨gen,seg⟩ s).2=0∨(nJ d ⟨gen,seg⟩ s).2=13:=by
 have hs:s.length≤4096:=by
  have:=(aBT (n:=s.length) ok.size).2;omega
 have:=zZ d four hseg;exact aLp _ _ (by rw[kK];show d.base seg+_≤_;omega) (aJf ok.size hs)
def aIi(h:Hd):(iB h).1.seg≤1:=by
 unfold iB;split
 ·exact lA _
 ·show(if h.seg=0 then 1 else 0)≤1;split<;>omega
def aQ6{size:Nat}{h:Hd}(ok:fS size)(h0:(fQ size h).2=0):(fQ size h).1.length=size:=by
 unfold fQ at h0 ⊢;split at h0
 ·cases h0
 ·rename_i c;rw[if_neg c];show(mV (nI size h)).length=size;rw[aDy];unfold nI;simp only[jK,gS,vT,iN,kW];have:=ok.1;omega
def aM1{size:Nat}{h:Hd}(ok:fS size)(h0:(iB h).2=0):(fQ size (iB h).1).2=0∧(fQ size (iB h).1).1.length=size:=by
 have e:(fQ size (iB h).1).2=0:=by
  have hs:=aIi h;have hg:(iB h).1.gen≠0:=by
   unfold iB at h0 ⊢;split at h0
   ·cases h0
   ·rename_i c;rw[if_neg c];show h.gen+1≠0;omega
  unfold fQ;rw[if_neg (by rintro(a|a|a);exact a ok;exact hg a;omega)]
 exact⟨e,aQ6 ok e⟩
def aL4{size gen ser:Nat}:∀(xs:List Tx) (k p:Nat) (t:Tx),(iW size gen ser xs k p t).2≤k+xs.length
 | [],_,_,_=>lA _
 | x::xs,k,p,t=>by
  unfold iW;have ih:=λq=>aL4 (size:=size) (gen:=gen) (ser:=ser) xs (k+1) q (t++(fP size x).1.b);generalize (if k=0 then(fP size x).1.parts else p)=q at *;split
  ·exact lA _
  ·split
   ·rename_i h;simp only[iN];omega
   ·have:=ih q;simp only[iN];omega
def aIR{size gen:Nat}:∀(f:Nat) (xs:List Tx) (ser:Nat),(jR size gen f xs ser).2≤xs.length
 | 0,_,_=>lA _
 | f+1,xs,ser=>by
  unfold jR;split
  ·exact lA _
  ·have h1:=aL4 (size:=size) (gen:=gen) (ser:=ser) xs 0 0 [];have h2:=aIR (size:=size) (gen:=gen) f (xs.drop (iW size gen ser xs 0 0 []).2) (ser+1);rw[jE] at h2;simp only;omega
def aHv{size gen:Nat}:∀(f:Nat) (xs:List Tx) (ser:Nat),(jR size gen f xs ser).1.length≤(jR size gen f xs ser).2
 | 0,_,_=>lA _
 | f+1,xs,ser=>by
  unfold jR;split
  ·exact lA _
  ·have h2:=aHv (size:=size) (gen:=gen) f (xs.drop (iW size gen ser xs 0 0 []).2) (ser+1);simp only[iN];omega
def aP5{size:Nat}{s:Tx}:(fW size s).1.seg≤1:=by
 unfold fW;split
 ·exact lA _
 ·split
  ·exact lA _
  ·split
   ·exact lA _
   ·split
    ·rename_i d;have h2:=d.1;unfold fQ at h2;split at h2
     ·cases h2
     ·rename_i e;show(uH s).seg≤1;omega
    ·exact lA _
def aOl{b:Hd×Int}{k:Int}{h:Hd}(hb:b.1.seg≤1)(hh:h.seg≤1):(wK b k h).1.seg≤1∧((wK b k h).2=k∨(wK b k h).2=b.2):=by
 unfold wK;split
 ·exact⟨hh,.inl rfl⟩
 ·exact⟨hb,.inr rfl⟩
def aKD(size:Nat)(x y:Tx):(mY size x y).1.seg≤1∧((mY size x y).2= -1∨(mY size x y).2=0∨(mY size x y).2=1):=by
 have h1:=aOl (b:=(Hd.zero,-1)) (k:=0) (h:=(fW size x).1) (lA _) aP5;have h2:=aOl (k:=1) (h:=(fW size y).1) h1.1 aP5;unfold mY;refine⟨h2.1,?_⟩;rcases h2.2 with e|e
 ·exact .inr (.inr e)
 ·rcases h1.2 with e'|e'
  ·exact .inr (.inl (e.trans e'))
  ·exact .inl (e.trans e')
def WOk.mk'{d:Dk}(ok:d.Ok)(four:4≤d.sectors){hd:Hd}(hs:hd.seg≤1){slot:Nat}(h1:slot≤1):WOk d (zI d hd slot).1:=
 ⟨ok,four,hs,h1,by
  have:=aIR (size:=d.size) (gen:=hd.gen) (d.segs+1) (d.secs (d.base hd.seg) d.segs) 0;rw[Dk.secs_len] at this;exact this⟩
def aNR{d d':Dk}{n:Nat}{l:List Tx}(L:aQd d d' n l):d'.secs n l.length=l:=by
 unfold Dk.secs;apply aK8;intro i;rw[wV];by_cases c:i<l.length
 ·rw[List.getElem?_range c,aJZ,L.here,if_pos (by omega),aB0,aDm,kV c];rfl
 ·rw[List.getElem?_eq_none (by simp;omega),List.getElem?_eq_none (by omega)];rfl
def aOY{d d':Dk}{n:Nat}{l:List Tx}(L:aQd d d' n l){m k:Nat}(h:m+k≤n∨n+l.length≤m):d'.secs m k=d.secs m k:=by
 unfold Dk.secs;apply zL0;intro i hi;have:=aGT.1 hi;rw[L.here,if_neg (by omega)]
def aM6{size:Nat}{h:Hd}(ok:fS size)(g:h.gen≠0)(g2:h.seg≤1):(fQ size h).1.length=size∧(fQ size h).2=0:=by
 have e:fQ size h=(mV (nI size h),0):=by unfold fQ;rw[if_neg (by rintro(c|c|c);exact c ok;exact g c;omega)]
 rw[e];refine⟨?_,rfl⟩;show(mV (nI size h)).length=size;rw[aDy];unfold nI;simp only[jK,gS,vT,iN,kW];have:=ok.1;omega
def aQO{size gen ser:Nat}{s:Tx}{k:Nat}(hk:k<dQ size s.length):(fZ size gen ser s).getD k []=nQ size gen ser k (dQ size s.length) (iX (size-25) s k):=by
 unfold fZ;rw[aDm,wV,List.getElem?_range hk];rfl
def aLt{size gen ser:Nat}{s:Tx}{k:Nat}(ok:fS size)(h:s.length≤4096)(g1:gen<18446744073709551616)(g2:ser<18446744073709551616)(hk:k<dQ size s.length):Old size (gen+1) ((fZ size gen ser s).getD k []):=by
 rw[aQO hk];intro _;rw[aNy ok h g1 g2 hk];show gen<gen+1;omega
def aKx{size gen ser:Nat}{s:Tx}(ok:fS size)(h:s.length≤4096):∀x∈fZ size gen ser s,x.length=size:=by
 intro x hx;unfold fZ at hx;obtain⟨k,hk,rfl⟩:=pQ.1 hx;exact aIw (aFn ok h (aGT.1 hk)).1
def aUY{h:Hd}(g:h.gen<18446744073709551615):iB h=(⟨h.gen+1,if h.seg=0 then 1 else 0⟩,0):=by unfold iB;rw[if_neg (by omega)]
def aMw{d:Dk}{w:Wl}{l:List Tx}(H:Log d w l){s:Tx}(hs:s.length≤4096)(hp:dQ d.size s.length≤d.segs)(hg:w.hd.gen<18446744073709551614):
  ∃d' w',gK d w s=(d',w',0)∧Log d' w' [s]∧w'.ready=true∧w'.hd.gen=w.hd.gen+1∧d'.size=d.size∧d'.sectors=d.sectors:=by
 have ok:=H.ok.size;have h1:=tY (n:=s.length) ok hs;have en:=aUY (h:=w.hd) (by omega);have hseg:(if w.hd.seg=0 then 1 else 0)≤1:=by split<;>omega
 generalize hsg:(if w.hd.seg=0 then 1 else 0)=sg at *;have hl4:=H.four;have hbf:=zZ d hl4 hseg;have hsl:=H.slot;have hb2:2≤d.base sg:=by unfold Dk.base;omega
 obtain⟨A0,A⟩:=aF9 (fZ d.size (w.hd.gen+1) 0 s) H.ok H.arm (d.base sg) (by rw[kK];omega) (aKx ok hs);obtain⟨hl1,hl2⟩:=aM6 (size:=d.size) (h:=⟨w.hd.gen+1,sg⟩) ok (by simp) hseg;obtain⟨B0,B⟩:=aF9 [(fQ d.size ⟨w.hd.gen+1,sg⟩).1] A.ok A.arm (1-w.slot) (by rw[A.sectors];simp only[iN,kW];omega) (by simp[hl1,A.size]);have ew:gK d w s=((iQ (iQ d (d.base sg) (fZ d.size (w.hd.gen+1) 0 s)).1 (1-w.slot) [(fQ d.size ⟨w.hd.gen+1,sg⟩).1]).1,⟨⟨w.hd.gen+1,sg⟩,1-w.slot,dQ d.size s.length,1,true,false⟩,0):=by
  unfold gK nJ;rw[if_neg (by rw[H.broken];simp),if_neg (by omega),if_neg (by omega),en];simp only;rw[if_neg (by simp),if_neg (by rw[A0];simp),if_neg (by rw[B0];simp)]
 generalize (iQ d (d.base sg) (fZ d.size (w.hd.gen+1) 0 s)).1=d1 at *;generalize (iQ d1 (1-w.slot) [(fQ d.size ⟨w.hd.gen+1,sg⟩).1]).1=d2 at *;have esz:d2.size=d.size:=B.size.trans A.size;have esc:d2.sectors=d.sectors:=B.sectors.trans A.sectors;have esg:d2.segs=d.segs:=by unfold Dk.segs;rw[esc]
 have eba:∀n,d2.base n=d.base n:=λn=>by unfold Dk.base;rw[esg]
 have hat:∀i,2≤i->d2.at i=d1.at i:=λi hi=>by rw[B.here,if_neg (by simp only[iN,kW];omega)]
 refine⟨d2,_,ew,⟨B.ok,B.arm,B.buf,by omega,by show 1≤w.hd.gen+1;omega,by show w.hd.gen+1<_;omega,hseg,by show 1-w.slot≤1;omega,?_,?_,?_,?_,rfl,?_,?_,?_,?_,rfl⟩,rfl,rfl,esz,esc⟩
 ·show d2.at (1-w.slot)=_;rw[B.here,if_pos (by simp only[iN,kW];omega),aIC,esz];rfl
 ·show(fW d2.size (d2.at (1-(1-w.slot)))).1.gen<w.hd.gen+1;rw[show 1-(1-w.slot)=w.slot by omega,B.here,if_neg (by simp only[iN,kW];omega),A.here,if_neg (by omega),H.head,esz,aOt ok (by have:=H.g1;omega) (by omega) H.seg];show w.hd.gen<w.hd.gen+1;omega
 ·show dQ d.size s.length=(fZ d2.size (w.hd.gen+1) 0 s++[]).length;rw[zLQ,kK,esz]
 ·show dQ d.size s.length≤d2.segs;rw[esg];exact hp
 ·show d2.secs (d2.base sg) (dQ d.size s.length)=fZ d2.size (w.hd.gen+1) 0 s++[];rw[zLQ,eba,esz];have e1:d2.secs (d.base sg) (dQ d.size s.length)=d1.secs (d.base sg) (dQ d.size s.length):=aOY B (.inr (by simp only[iN,kW];omega));have e2:=aNR A;rw[kK] at e2;rw[e1,e2]
 ·intro x hx;simp only[iI] at hx;rw[hx];exact hs
 ·intro i hi1 hi2;have hi1:dQ d.size s.length≤i:=hi1;rw[esg] at hi2;show Old d2.size (w.hd.gen+1) (d2.at (d2.base sg+i));rw[eba,esz,hat _ (by omega),A.here,if_neg (by rw[kK];omega)];exact H.all _ (by omega) (by omega)
 ·intro i hi1 hi2;show Old d2.size (w.hd.gen+1+1) (d2.at i);rw[esz,hat _ hi1,A.here];split
  ·rename_i c;rw[kK] at c;exact aLt ok hs (by omega) (by omega) (by omega)
  ·exact(H.all i hi1 (by omega)).mono (by omega)
def aLw{d:Dk}{w:Wl}{l:List Tx}(H:Log d w l)(hr:w.ready=true){s:Tx}(hs:s.length≤4096)(hf:fits d w s.length=true):
  ∃d' w',kX d w s=(d',w',0)∧Log d' w' (l++[s])∧w'.ready=true∧w'.hd.gen=w.hd.gen∧d'.size=d.size∧d'.sectors=d.sectors:=by
 have ok:=H.ok.size;have hf':=hf;unfold fits at hf;rw[decide_eq_true_eq] at hf;obtain⟨hf1,hf2⟩:=hf;have hl4:=H.four;have hbf:=zZ d hl4 H.seg;have hb2:2≤d.base w.hd.seg:=by unfold Dk.base;omega
 have hsl:=H.slot;have hg2:=H.g2;have hser:w.ser<18446744073709551616:=by
  have h1:=aGI (gen:=w.hd.gen) ok l 0 H.short;have h2:=H.used;have h3:=H.ok.many;have h4:=H.ser;unfold Dk.segs at hf2;omega
 obtain⟨A0,A⟩:=aF9 (fZ d.size w.hd.gen w.ser s) H.ok H.arm (d.base w.hd.seg+w.used) (by rw[kK];omega) (aKx ok hs);have ew:kX d w s=((iQ d (d.base w.hd.seg+w.used) (fZ d.size w.hd.gen w.ser s)).1,⟨w.hd,w.slot,w.used+dQ d.size s.length,w.ser+1,w.ready,false⟩,0):=by
  unfold kX aAq;rw[if_neg (by rw[H.broken];simp),if_neg (by rw[hr];simp),if_neg hf1,if_neg (by rw[hf'];simp),if_neg (by rw[A0];simp)]
 generalize (iQ d (d.base w.hd.seg+w.used) (fZ d.size w.hd.gen w.ser s)).1=d1 at *;have esg:d1.segs=d.segs:=by unfold Dk.segs;rw[A.sectors]
 have eba:∀n,d1.base n=d.base n:=λn=>by unfold Dk.base;rw[esg]
 have efa:kM d1.size w.hd.gen 0 (l++[s])=kM d.size w.hd.gen 0 l++fZ d.size w.hd.gen w.ser s:=by rw[aJH,iP,←H.ser,A.size]
 refine⟨d1,_,ew,⟨A.ok,A.arm,A.buf,by rw[A.sectors];exact hl4,H.g1,H.g2,H.seg,H.slot,?_,?_,?_,?_,?_,?_,?_,?_,?_,rfl⟩,hr,rfl,A.size,A.sectors⟩
 ·show d1.at w.slot=_;rw[A.here,if_neg (by omega),H.head,A.size]
 ·show(fW d1.size (d1.at (1-w.slot))).1.gen<w.hd.gen;rw[A.here,if_neg (by omega),A.size];exact H.other
 ·show w.used+dQ d.size s.length=(kM d1.size w.hd.gen 0 (l++[s])).length;rw[efa,jK,kK,←H.used]
 ·show w.used+dQ d.size s.length≤d1.segs;rw[esg];omega
 ·show w.ser+1=(l++[s]).length;rw[jK,←H.ser];rfl
 ·show d1.secs (d1.base w.hd.seg) (w.used+dQ d.size s.length)=kM d1.size w.hd.gen 0 (l++[s]);have e2:=aNR A;rw[kK] at e2;rw[efa,eba,aOH,e2,aOY A (.inl (mS _)),H.recs]
 ·intro x hx;rcases xA.1 hx with hx|hx
  ·exact H.short x hx
  ·simp only[iI] at hx;rw[hx];exact hs
 ·intro i hi1 hi2;have hi1:w.used+dQ d.size s.length≤i:=hi1;rw[esg] at hi2;show Old d1.size w.hd.gen (d1.at (d1.base w.hd.seg+i));rw[eba,A.size,A.here,if_neg (by rw[kK];omega)];exact H.rest i (by omega) hi2
 ·intro i hi1 hi2;rw[A.sectors] at hi2;show Old d1.size (w.hd.gen+1) (d1.at i);rw[A.size,A.here];split
  ·rename_i c;rw[kK] at c;exact aLt ok hs (by omega) hser (by omega)
  ·exact H.all i hi1 hi2
structure aNp(d:Dk):Prop where
 ok:d.Ok
 arm:d.arm=0
 buf:d.buf=[]
 z:∀i,i<d.sectors->d.at i=kQ d.size
def aMu{n:Nat}(h:64≤n):(kQ n).head? =some 0:=by
 obtain⟨m,rfl⟩:∃m,n=m+1:=⟨n-1,by omega⟩;rfl
def aTp{n g:Nat}(h:64≤n):Old n g (kQ n):=λe=>by
 have:=(aPW e).1;rw[aMu h] at this;cases this
def aN5{n:Nat}(h:64≤n):(fW n (kQ n)).1=Hd.zero:=aOB λe=>by
 have:=aQV e;rw[aMu h] at this;cases this
def aLX{d:Dk}(H:aNp d)(h4:4≤d.sectors):∃d' w',fL d=(d',(w',[]),0)∧Log d' w' []∧w'.hd.gen=1∧d'.size=d.size∧d'.sectors=d.sectors:=by
 have ok:=H.ok.size;have ef:=aSc H.arm H.buf;have en:mY d.size (d.at 0) (d.at 1)=(Hd.zero,-1):=by
  rw[H.z 0 (by omega),H.z 1 (by omega)];unfold mY;rw[aN5 ok.1];unfold wK;rw[if_neg (by simp),if_neg (by simp)]
 obtain⟨hl1,hl2⟩:=aM6 (size:=d.size) (h:=⟨1,0⟩) ok (by simp) (by simp);obtain⟨B0,B⟩:=aF9 [(fQ d.size ⟨1,0⟩).1] H.ok H.arm 1 (by simp only[iN,kW];omega) (by simp[hl1]);have ew:fL d=((iQ d 1 [(fQ d.size ⟨1,0⟩).1]).1,zI (iQ d 1 [(fQ d.size ⟨1,0⟩).1]).1 ⟨1,0⟩ 1,0):=by
  unfold fL;rw[ef];simp only;rw[if_neg (by omega),if_neg (by simp),en];simp only;rw[if_pos (by decide),if_neg (by rw[B0];simp)]
 generalize (iQ d 1 [(fQ d.size ⟨1,0⟩).1]).1=d1 at *;have esg:d1.segs=d.segs:=by unfold Dk.segs;rw[B.sectors]
 have eba:∀n,d1.base n=d.base n:=λn=>by unfold Dk.base;rw[esg]
 have hz:∀i,2≤i->i<d.sectors->d1.at i=kQ d.size:=λi h1 h2=>by
  rw[B.here,if_neg (by simp only[iN,kW];omega),H.z i h2]
 have hold:∀i g,2≤i->i<d.sectors->Old d1.size g (d1.at i):=λi g h1 h2=>by
  rw[hz i h1 h2,B.size];exact aTp ok.1
 have es:=aID (gen:=1) (rest:=d1.secs (d1.base 0) d1.segs) (size:=d1.size) (by rw[B.size];exact ok) (by decide) (λx hx=>by
  have hm:=List.mem_of_mem_head? hx;unfold Dk.secs at hm;obtain⟨i,hi,rfl⟩:=pQ.1 hm;have hi:=aGT.1 hi;rw[esg] at hi;have:=aPe d h4 (seg:=0) (by omega) hi;rw[eba];exact hold _ _ this.1 this.2) [] (d1.segs+1) 0 (by simp) (by simp) (by simp)
 have em:zI d1 ⟨1,0⟩ 1=(⟨⟨1,0⟩,1,0,0,false,false⟩,[]):=by
  have es':jR d1.size 1 (d1.segs+1) (d1.secs (d1.base 0) d1.segs) 0=([],0):=es;unfold zI;rw[es'];rfl
 rw[em] at ew;refine⟨d1,_,ew,⟨B.ok,B.arm,B.buf,by rw[B.sectors];exact h4,by decide,by decide,by decide,by decide,?_,?_,rfl,lA _,rfl,rfl,by simp,?_,?_,rfl⟩,rfl,B.size,B.sectors⟩
 ·show d1.at 1=_;rw[B.here,if_pos (by simp),B.size];rfl
 ·show(fW d1.size (d1.at 0)).1.gen<1;rw[B.here,if_neg (by simp),B.size,H.z 0 (by omega),aN5 ok.1];decide
 ·intro i _ hi;rw[esg] at hi;have:=aPe d h4 (seg:=0) (by omega) hi;show Old d1.size 1 (d1.at (d1.base 0+i));rw[eba];exact hold _ _ this.1 this.2
 ·intro i h1 h2;rw[B.sectors] at h2;exact hold _ _ h1 h2
def qB(s:Tx):Hd:=⟨kY ((s.drop 1).take 8),kY ((s.drop 9).take 1)⟩
def aFg(size:Nat)(s:Tx):Prop:=s.take 1=[72]∧(qB s).gen≠0∧(qB s).seg<2∧∀x∈(s.take (size-4)).drop 10,x=0
instance (n:Nat) (s:Tx):Decidable (aFg n s):=by unfold aFg;infer_instance
def aHE(size:Nat)(s:Tx):Hd×Int:=
 if ¬fS size then(Hd.zero,1) else if s.length≠size then(Hd.zero,6) else if nP s=false then(Hd.zero,8)
 else if aFg size s then(qB s,0) else(Hd.zero,5)
def aUt{s:Tx}(h:10≤s.length):uH s=qB s:=by
 unfold uH qB;rw[oJ (by rw[jE];omega)];simp only;rw[oJ (by rw[jE,jE];omega),pN]
def aVG(size:Nat)(s:Tx):aHE size s=fW size s:=by
 unfold aHE fW;split
 ·rfl
 ·rename_i ok;have ok:fS size:=Classical.not_not.1 ok;have h64:=ok.1;split
  ·rfl
  ·rename_i hl;have hl:s.length=size:=Classical.not_not.1 hl;split
   ·rfl
   ·rename_i hs;have hs:nP s=true:=by simpa using hs
    rw[aUt (by omega)];have hb:(nI size (qB s)).length=size-4:=by
     unfold nI;simp only[jK,gS,vT,iN,kW];omega
    have o0:=aOM (by omega) hs hl hb;have b1:be (qB s).gen 8=(s.drop 1).take 8:=aFH (by rw[jE];omega);have b2:be (qB s).seg 1=(s.drop 9).take 1:=aFH (by rw[jE];omega);have o1:nI size (qB s)=s.take (size-4)↔s.take 1=[72]∧∀x∈(s.take (size-4)).drop 10,x=0:=by
     unfold nI;rw[b1,b2];have es:s.take (size-4)=s.take 1++((s.drop 1).take 8++((s.drop 9).take 1++(s.take (size-4)).drop 10)):=by
      have sp:∀i c,(s.take (size-4)).drop i=((s.take (size-4)).drop i).take c++(s.take (size-4)).drop (i+c):=λi c=>by rw[←pN,zL6]
      have e0:(s.take (size-4)).drop 0=s.take (size-4):=rfl
      conv=>lhs;rw[←e0,sp 0 1,sp 1 8,sp 9 1]
      rw[nY _ _ _ _ (by omega),nY _ _ _ _ (by omega),nY _ _ _ _ (by omega)];rfl
     have hz:((s.take (size-4)).drop 10).length=size-14:=by rw[jE,mH];omega
     constructor
     ·intro e;rw[es] at e;obtain⟨c1,e⟩:=List.append_inj e (by rw[mH];simp;omega);have e:=List.append_cancel_left e;have e:=List.append_cancel_left e;refine⟨c1.symm,λx hx=>?_⟩;rw[←e] at hx;exact List.eq_of_mem_replicate hx
     ·rintro⟨c1,c2⟩;have e:kQ (size-14)=(s.take (size-4)).drop 10:=by
       unfold kQ;rw[←hz];exact(List.eq_replicate_iff.2 ⟨rfl,c2⟩).symm
      rw[es,c1,←e]
    by_cases c:(qB s).gen≠0∧(qB s).seg<2
    ·have eh:fQ size (qB s)=(mV (nI size (qB s)),0):=by unfold fQ;rw[if_neg (by rintro(a|a|a);exact a ok;exact c.1 a;omega)]
     rw[eh];simp only[true_and];by_cases d:mV (nI size (qB s))=s
     ·have:=o1.1 (o0.1 d);rw[if_pos d,if_pos (show aFg size s from⟨this.1,c.1,c.2,this.2⟩)]
     ·rw[if_neg d,if_neg (λx:aFg size s=>d (o0.2 (o1.2 ⟨x.1,x.2.2.2⟩)))]
    ·have eh:fQ size (qB s)=([],1):=by unfold fQ;rw[if_pos (by by_cases a:(qB s).gen=0;exact .inr (.inl a);exact .inr (.inr (by omega)))]
     rw[eh,if_neg (λx:aFg size s=>c ⟨x.2.1,x.2.2.1⟩),if_neg (by simp)]
def yP(b:Hd×Int)(k:Int)(h:Hd×Int):Hd×Int:=if h.2=0∧(b.2<0∨b.1.gen<h.1.gen) then(h.1,k) else b
def aU2{size:Nat}{s:Tx}(h:(fW size s).2=0):(fW size s).1.gen≠0:=by
 unfold fW at h ⊢;split at h
 ·cases h
 ·rename_i a;split at h
  ·cases h
  ·rename_i b;split at h
   ·cases h
   ·rename_i c;split at h
    ·rename_i d;rw[if_neg a,if_neg b,if_neg c,if_pos d];have h2:=d.1;unfold fQ at h2;split at h2
     ·cases h2
     ·rename_i e;exact λx=>e (.inr (.inl x))
    ·cases h
def aQt(size:Nat)(x y:Tx):yP (yP (Hd.zero,-1) 0 (fW size x)) 1 (fW size y)=mY size x y:=by
 have key:∀(b:Hd×Int) (k:Int) (s:Tx),(b.2<0->b.1.gen=0)->yP b k (fW size s)=wK b k (fW size s).1:=λb k s hb=>by
  unfold yP wK;by_cases c:(fW size s).2=0
  ·have hg:=aU2 c;have hne:(fW size s).1≠Hd.zero:=λe=>hg (by rw[e];rfl);by_cases d:b.1.gen<(fW size s).1.gen
   ·rw[if_pos ⟨c,.inr d⟩,if_pos ⟨hne,d⟩]
   ·rw[if_neg (λx=>?_),if_neg (λx=>d x.2)];rcases x.2 with e|e
    ·have:=hb e;omega
    ·exact d e
  ·have hz:=aOB c;rw[if_neg (λx=>c x.1),if_neg (λx=>x.1 hz)]
 unfold mY;rw[key (Hd.zero,-1) 0 x (λ_=>rfl),key];intro h;unfold wK at h ⊢;split at h
 ·exact absurd h (by simp)
 ·rename_i c;rw[if_neg c];rfl
def aBG{h:PH}{l:List UInt8}(hl:l.length≤8){k:cF}(hk:k (.int .u64 (kY l)) h):bW PG jW #[.string (tx l)] h k:=by
 apply zN.call;unfold zN;refine⟨λvs h'=>∃i:Nat,i≤l.length∧vs=[.string (tx l),.int .u64 (kY (l.take i)),.int .i64 i]∧h'=h,fN l.length 2,⟨0,by omega,rfl,rfl⟩,?_⟩;rintro ρ h' ⟨i,hi,hvs,rfl⟩;simp only[hM,jA,kP,and_true] at hvs;obtain⟨s0,s1,s3⟩:=hvs;rw[s0,s1,s3];unfold aEB;by_cases hlt:i<l.length
 ·have hd:((i:Int)<(l.length:Int))=True:=by apply eq_true;omega
  obtain⟨b,hb⟩:∃b,l[i]? =some b:=⟨_,kV hlt⟩;have hsm:=aNb hlt hl;have hb8:=b.toNat_lt;have ei:=nR (i:=i) (by omega);have e2:IntKind.u64.wrap ((kY (l.take i):Int)*256)=((kY (l.take i)*256:Nat):Int):=by rw[jU (by omega) (by omega)];omega
  have e3:IntKind.u64.wrap (b.toNat:Int)=(b.toNat:Int):=jU (by omega) (by omega);have e4:IntKind.u64.wrap (((kY (l.take i)*256:Nat):Int)+(b.toNat:Int))=((kY (l.take (i+1)):Nat):Int):=by rw[aOO hb,jU (by omega) (by omega)];omega
  simp only[bR.len,kU,hd,e2,nL bR.und hb,aP9,e3,e4,ei,cD,reduceIte];exact⟨⟨i+1,by omega,rfl,by trivial⟩,by simp[fN,s3];omega⟩
 ·have hd:((i:Int)<(l.length:Int))=False:=by apply eq_false;omega
  rw[rN (by omega)];simp only[bR.len,kU,hd,cD,reduceIte];exact hk
def aD5(x:Int):cC PG (convert aR cI (.int .i64 x))=some (.int .u64 (IntKind.u64.wrap x)):=by kernel_rfl
def aLb{h:PH}{p:Pk}(w:p.wf)(hr:p.right=true){k:cF}(hk:∀h',cX h h'->k (.string (tx p.bs)) h'):bW PG uY #[.agg p.cells.toArray] h k:=by
 obtain⟨r1,r2,-,-,r5⟩:=Pk.right_iff.1 hr;obtain⟨w1,w2,w3,w4⟩:=w;have ed:=aQk p;have el:=aHA p;obtain⟨f,s,t,d⟩:=p;obtain⟨f,rfl⟩:=zLm r1;obtain⟨s,rfl⟩:=zLm w1;obtain⟨t,rfl⟩:=zLm w3;simp only at r2 w2 w4 r5;unfold Pk.bs at hk;simp only[wU] at hk;generalize Pk.tx ⟨(f:Int),(s:Int),(t:Int),d⟩=l at *;subst ed;simp only[kU] at el r5;apply rG.call;unfold rG;intro r hr
 try rw[cO]
 have u1:cX h (h.set r (.cells (Value.cells (.agg (Pk.cells ⟨(f:Int),(s:Int),(t:Int),tx l⟩).toArray)) bX)):=cV.new hr;have B1:Bx (h.set r (.cells (Value.cells (.agg (Pk.cells ⟨(f:Int),(s:Int),(t:Int),tx l⟩).toArray)) bX)) r (Pk.cells ⟨(f:Int),(s:Int),(t:Int),tx l⟩):=Bx.new;generalize h.set r (.cells (Value.cells (.agg (Pk.cells ⟨(f:Int),(s:Int),(t:Int),tx l⟩).toArray)) bX)=h1 at *;have l0:∀{h':PH},cX h1 h'->cB PG h' (loadAt aR (pT r 0))=some (.int .i64 (f:Int)):=λu=>by rw[aR.load,(B1.ext u).cell];rfl
 have l1:∀{h':PH},cX h1 h'->cB PG h' (loadAt cI (pT r 1))=some (.int .u64 (s:Int)):=λu=>by rw[cI.load,(B1.ext u).cell];rfl
 have l2:∀{h':PH},cX h1 h'->cB PG h' (loadAt cI (pT r 2))=some (.int .u64 (t:Int)):=λu=>by rw[cI.load,(B1.ext u).cell];rfl
 have l3:∀{h':PH},cX h1 h'->cB PG h' (loadAt bR (pT r 3))=some (.string (tx l)):=λu=>by rw[bR.load,(B1.ext u).cell];rfl
 have c1:IntKind.u64.wrap (f:Int)=(f:Int):=jU (by omega) (by omega);have c2:IntKind.u64.wrap (l.length:Int)=(l.length:Int):=jU (by omega) (by omega);have ln:cC PG (Builtin.len_ #[bR] aR #[.string (tx l)])=some (.int .i64 (l.length:Int)):=by rw[tN bR.und,kU]
 simp only[bX.f0,bX.f1,bX.f2,bX.f3,l0 cV.refl,l1 cV.refl,l2 cV.refl,l3 cV.refl,ln,aD5,c1,c2,cD,reduceIte,cJ,Nat.reduceAdd];refine lY (by omega) (by decide) λh2 u2=>?_;simp only[iP,l1 u2,l2 u2,l3 u2,eq_self,true_and];refine lY (by omega) (by decide) λh3 u3=>?_;have e3:=u2.trans u3;have a1:cC PG (binOp .add bR (.string (tx (be f 1))) (.string (tx (be s 8))))=some (.string (tx (be f 1++be s 8))):=jQ (by simp only[gS];decide);simp only[l2 e3,l3 e3,a1,eq_self,true_and,cD,reduceIte,cJ,Nat.reduceAdd];refine lY (by omega) (by decide) λh4 u4=>?_;have e4:=e3.trans u4;have a2:cC PG (binOp .add bR (.string (tx (be f 1++be s 8))) (.string (tx (be t 8))))=some (.string (tx ((be f 1++be s 8)++be t 8))):=jQ (by simp only[gS,jK];decide);simp only[l3 e4,a2,eq_self,true_and,cD,reduceIte,cJ,Nat.reduceAdd];refine lY (by omega) (by decide) λh5 u5=>?_;have e5:=e4.trans u5;have a3:cC PG (binOp .add bR (.string (tx ((be f 1++be s 8)++be t 8))) (.string (tx (be l.length 2))))=some (.string (tx (((be f 1++be s 8)++be t 8)++be l.length 2))):=jQ (by simp only[gS,jK];decide);have a4:cC PG (binOp .add bR (.string (tx (((be f 1++be s 8)++be t 8)++be l.length 2))) (.string (tx l)))=some (.string (tx ((((be f 1++be s 8)++be t 8)++be l.length 2)++l))):=jQ (by simp only[gS,jK];omega);simp only[l3 e5,a3,a4,eq_self,true_and,cD,reduceIte,cJ,Nat.reduceAdd];rw[uV,uV,uV];exact hk _ (u1.trans e5)
end Go.Proofs.YtiohehjhlghikaaGreatDoor
