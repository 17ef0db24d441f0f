/- The texts of this claim, put together. -/
import Derived.Test.YtiohehjhlghikaaGreatDoorJgNVC4
set_option linter.all false
set_option maxRecDepth 100000
open Go.Instr (loadAt fieldAt indexAt extract buildSlice build)
namespace Go.Proofs.YtiohehjhlghikaaGreatDoor
open Go
structure Dk where
 (size sectors:Nat)
 st:List Tx
 buf:List (Nat×Tx)
 arm:Nat
def lP(st:List Tx)(buf:List (Nat×Tx)):List Tx:=buf.foldl (λl w=>l.set w.1 w.2) st
def aAA:∀(buf:List (Nat×Tx)) (st:List Tx),(lP st buf).length=st.length
 | [],st=>rfl
 | w::buf,st=>by
  show(lP (st.set w.1 w.2) buf).length=_;rw[aAA buf,List.length_set]
def aIY(st:List Tx)(buf:List (Nat×Tx))(w:Nat×Tx):lP st (buf++[w])=(lP st buf).set w.1 w.2:=by unfold lP;rw[List.foldl_append];rfl
def Dk.tick(d:Dk):Dk:=⟨d.size,d.sectors,d.st,d.buf,d.arm-1⟩
def Dk.wr(d:Dk)(n:Int)(s:Tx):Dk×Int:=
 if n<0∨(d.sectors:Int)≤n∨s.length≠d.size then(d,1) else if d.arm=1 then(d.tick,13) else(⟨d.size,d.sectors,d.st,d.buf++[(n.toNat,s)],d.arm-1⟩,0)
def Dk.fl(d:Dk):Dk×Int:=if d.arm=1 then(d.tick,13) else(⟨d.size,d.sectors,lP d.st d.buf,[],d.arm-1⟩,0)
def Dk.at(d:Dk)(n:Nat):Tx:=(lP d.st d.buf).getD n []
def Dk.rd(d:Dk)(n:Int):Tx×Int:=if n<0∨(d.sectors:Int)≤n then([],1) else(d.at n.toNat,0)
structure Dk.Ok(d:Dk):Prop where
 len:d.st.length=d.sectors
 size:fU d.size
 one:1≤d.sectors
 many:d.sectors≤4096
 each:∀s∈d.st,s.length=d.size
 buf:∀w∈d.buf,w.1<d.sectors∧w.2.length=d.size
def Dk.Ok.tick{d:Dk}(H:d.Ok):d.tick.Ok:=⟨H.len,H.size,H.one,H.many,H.each,H.buf⟩
def Dk.Ok.wr{d:Dk}(H:d.Ok)(n:Int)(s:Tx):(d.wr n s).1.Ok:=by
 unfold Dk.wr;split
 ·exact H
 ·rename_i h;split
  ·exact H.tick
  ·refine⟨H.len,H.size,H.one,H.many,H.each,λw hw=>?_⟩;rcases xN.1 hw with hw|hw
   ·exact H.buf w hw
   ·simp only[iL] at hw;subst hw;have h2:¬s.length≠d.size:=λhx=>h (.inr (.inr hx));exact⟨by show n.toNat<d.sectors;omega,by show s.length=d.size;omega⟩
def aFv{n:Nat}:∀(buf:List (Nat×Tx)) (st:List Tx),(∀s∈st,s.length=n)->(∀w∈buf,w.2.length=n)->∀s∈lP st buf,s.length=n
 | [],st,h,_=>h
 | w::buf,st,h,hb=>aFv buf (st.set w.1 w.2) (λs hs=>by
   rcases List.mem_or_eq_of_mem_set hs with h1|h1
   ·exact h s h1
   ·rw[h1];exact hb w (by simp)) λx hx=>hb x (by simp[hx])
def Dk.Ok.fl{d:Dk}(H:d.Ok):d.fl.1.Ok:=by
 unfold Dk.fl;split
 ·exact H.tick
 ·exact⟨by show(lP _ _).length=_;rw[aAA];exact H.len,H.size,H.one,H.many,aFv _ _ H.each λw hw=>(H.buf w hw).2,by simp⟩
def Dk.wr_geo(d:Dk)(n:Int)(s:Tx):(d.wr n s).1.size=d.size∧(d.wr n s).1.sectors=d.sectors:=by
 unfold Dk.wr;split
 ·exact⟨rfl,rfl⟩
 ·split<;>exact⟨rfl,rfl⟩
def Dk.fl_geo(d:Dk):d.fl.1.size=d.size∧d.fl.1.sectors=d.sectors:=by
 unfold Dk.fl;split<;>exact⟨rfl,rfl⟩
def Dk.Ok.at_len{d:Dk}(H:d.Ok){n:Nat}(h:n<d.sectors):(d.at n).length=d.size:=by
 unfold Dk.at;have hl:n<(lP d.st d.buf).length:=by rw[aAA,H.len];exact h
 rw[aD4,kO hl];exact aFv _ _ H.each (λw hw=>(H.buf w hw).2) _ (aJB hl)
structure Wl where
 hd:Hd
 (slot used ser:Nat)
 (ready broken:Bool)
def Wl.zero:Wl:=⟨Hd.zero,0,0,0,false,false⟩
def iQ:Dk->Nat->List Tx->Dk×Int
 | d,_,[]=>d.fl
 | d,n,s::l=>if (d.wr (n:Int) s).2≠0 then((d.wr (n:Int) s).1,(d.wr (n:Int) s).2) else iQ (d.wr (n:Int) s).1 (n+1) l
def oL:∀(l:List Tx) {d:Dk} (_:d.Ok) (n:Nat),(iQ d n l).1.Ok∧(iQ d n l).1.size=d.size∧(iQ d n l).1.sectors=d.sectors∧((iQ d n l).2=0∨(iQ d n l).2=1∨(iQ d n l).2=13)
 | [],d,H,n=>by
  refine⟨H.fl,d.fl_geo.1,d.fl_geo.2,?_⟩;show d.fl.2=0∨d.fl.2=1∨d.fl.2=13;unfold Dk.fl;split
  ·exact .inr (.inr rfl)
  ·exact .inl rfl
 | s::l,d,H,n=>by
  unfold iQ;split
  ·refine⟨H.wr _ _,(d.wr_geo _ _).1,(d.wr_geo _ _).2,?_⟩;show(d.wr _ _).2=0∨(d.wr _ _).2=1∨(d.wr _ _).2=13;unfold Dk.wr;split
   ·exact .inr (.inl rfl)
   ·split
    ·exact .inr (.inr rfl)
    ·exact .inl rfl
  ·obtain⟨a,b,c,e⟩:=oL l (H.wr (n:Int) s) (n+1);exact⟨a,b.trans (d.wr_geo _ _).1,c.trans (d.wr_geo _ _).2,e⟩
def Dk.segs(d:Dk):Nat:=(d.sectors-2)/2
def Dk.base(d:Dk)(seg:Nat):Nat:=2+seg*d.segs
def Dk.secs(d:Dk)(n k:Nat):List Tx:=(List.range k).map λi=>d.at (n+i)
def Dk.secs_len(d:Dk)(n k:Nat):(d.secs n k).length=k:=by simp[Dk.secs]
def zN(d:Dk)(hd:Hd)(slot:Nat):Wl×List Tx:=
 (⟨hd,slot,(jU d.size hd.gen (d.segs+1) (d.secs (d.base hd.seg) d.segs) 0).2,(jU d.size hd.gen (d.segs+1) (d.secs (d.base hd.seg) d.segs) 0).1.length,false,false⟩,(jU d.size hd.gen (d.segs+1) (d.secs (d.base hd.seg) d.segs) 0).1)
def fH(d:Dk):Dk×(Wl×List Tx)×Int:=
 if d.sectors<4 then(d,(Wl.zero,[]),1)
 else if d.fl.2≠0 then(d.fl.1,(Wl.zero,[]),d.fl.2)
 else if (nC d.size (d.fl.1.at 0) (d.fl.1.at 1)).2<0 then
  if (iQ d.fl.1 1 [(fQ d.size ⟨1,0⟩).1]).2≠0 then((iQ d.fl.1 1 [(fQ d.size ⟨1,0⟩).1]).1,(Wl.zero,[]),(iQ d.fl.1 1 [(fQ d.size ⟨1,0⟩).1]).2)
  else((iQ d.fl.1 1 [(fQ d.size ⟨1,0⟩).1]).1,zN (iQ d.fl.1 1 [(fQ d.size ⟨1,0⟩).1]).1 ⟨1,0⟩ 1,0)
 else(d.fl.1,zN d.fl.1 (nC d.size (d.fl.1.at 0) (d.fl.1.at 1)).1 (nC d.size (d.fl.1.at 0) (d.fl.1.at 1)).2.toNat,0)
def Wl.brk(w:Wl)(e:Int):Wl:=⟨w.hd,w.slot,w.used,w.ser,w.ready,decide (e=13)⟩
def fits(d:Dk)(w:Wl)(n:Nat):Bool:=decide (dQ d.size n≠0∧dQ d.size n+w.used≤d.segs)
def yR(d:Dk)(w:Wl)(s:Tx):Dk×Int:=iQ d (d.base w.hd.seg+w.used) (fV d.size w.hd.gen w.ser s)
def iG(d:Dk)(w:Wl)(s:Tx):Dk×Wl×Int:=
 if w.broken then(d,w,14)
 else if w.ready=false then(d,w.brk 15,15)
 else if dQ d.size s.length=0 then(d,w.brk 1,1)
 else if fits d w s.length=false then(d,w.brk 2,2)
 else if (yR d w s).2≠0 then((yR d w s).1,w.brk (yR d w s).2,(yR d w s).2)
 else((yR d w s).1,⟨w.hd,w.slot,w.used+dQ d.size s.length,w.ser+1,w.ready,false⟩,0)
def lX(d:Dk)(h:Hd)(s:Tx):Dk×Int:=iQ d (d.base h.seg) (fV d.size h.gen 0 s)
def fS(d:Dk)(w:Wl)(s:Tx):Dk×Wl×Int:=
 if w.broken then(d,w,14)
 else if dQ d.size s.length=0 then(d,w.brk 1,1)
 else if d.segs<dQ d.size s.length then(d,w.brk 2,2)
 else if (gL w.hd).2≠0 then(d,w.brk (gL w.hd).2,(gL w.hd).2)
 else if (lX d (gL w.hd).1 s).2≠0 then((lX d (gL w.hd).1 s).1,w.brk (lX d (gL w.hd).1 s).2,(lX d (gL w.hd).1 s).2)
 else if (iQ (lX d (gL w.hd).1 s).1 (1-w.slot) [(fQ d.size (gL w.hd).1).1]).2≠0 then
  ((iQ (lX d (gL w.hd).1 s).1 (1-w.slot) [(fQ d.size (gL w.hd).1).1]).1,w.brk (iQ (lX d (gL w.hd).1 s).1 (1-w.slot) [(fQ d.size (gL w.hd).1).1]).2,(iQ (lX d (gL w.hd).1 s).1 (1-w.slot) [(fQ d.size (gL w.hd).1).1]).2)
 else((iQ (lX d (gL w.hd).1 s).1 (1-w.slot) [(fQ d.size (gL w.hd).1).1]).1,⟨(gL w.hd).1,1-w.slot,dQ d.size s.length,1,true,false⟩,0)
def aPV{l:List Tx}{i n:Nat}{s:Tx}(h:n<l.length):(l.set n s).getD i []=if i=n then s else l.getD i []:=by
 rw[aD4,aD4,List.getElem?_set];by_cases c:n=i
 ·subst c;simp[h]
 ·rw[if_neg c,if_neg (by omega)]
structure aRK(d d':Dk)(n:Nat)(l:List Tx):Prop where
 ok:d'.Ok
 size:d'.size=d.size
 sectors:d'.sectors=d.sectors
 arm:d'.arm=0
 buf:d'.buf=[]
 here:∀i,d'.at i=if n≤i∧i<n+l.length then l.getD (i-n) [] else d.at i
def aGI:∀(l:List Tx) {d:Dk} (_:d.Ok) (_:d.arm=0) (n:Nat) (_:n+l.length≤d.sectors) (_:∀s∈l,s.length=d.size),(iQ d n l).2=0∧aRK d (iQ d n l).1 n l
 | [],d,H,ha,n,hn,hl=>by
  have e:iQ d n []=(⟨d.size,d.sectors,lP d.st d.buf,[],d.arm-1⟩,0):=by
   show d.fl=_;unfold Dk.fl;rw[if_neg (by omega)]
  have hok:(iQ d n []).1.Ok:=(oL [] H n).1;rw[e] at hok ⊢;exact⟨rfl,hok,rfl,rfl,by show d.arm-1=0;omega,rfl,λi=>by rw[if_neg (by simp only[kI];omega)];rfl⟩
 | s::l,d,H,ha,n,hn,hl=>by
  simp only[iP] at hn;have e:d.wr (n:Int) s=(⟨d.size,d.sectors,d.st,d.buf++[(n,s)],d.arm-1⟩,0):=by
   unfold Dk.wr;rw[if_neg (by have:=hl s (by simp);omega),if_neg (by omega)];rfl
  have h1:=H.wr (n:Int) s;have eat:∀i,(d.wr (n:Int) s).1.at i=if i=n then s else d.at i:=λi=>by
   rw[e];show(lP d.st (d.buf++[(n,s)])).getD i []=_;rw[aIY,aPV (by rw[aAA,H.len];omega)];rfl
  have ih:=aGI l h1 (by rw[e];show d.arm-1=0;omega) (n+1) (by rw[e];show n+1+l.length≤d.sectors;omega) (by rw[e];exact λx hx=>hl x (by simp[hx]));have ep:iQ d n (s::l)=iQ (d.wr (n:Int) s).1 (n+1) l:=by
   conv=>lhs;unfold iQ
   rw[if_neg (by rw[e];simp)]
  rw[ep];obtain⟨a,b⟩:=ih;refine⟨a,b.ok,b.size.trans (by rw[e]),b.sectors.trans (by rw[e]),b.arm,b.buf,λi=>?_⟩;rw[b.here i,eat i];simp only[iP];by_cases c1:i=n
  ·subst c1;rw[if_neg (by omega),if_pos rfl,if_pos (by omega),aId];rfl
  ·by_cases c2:n+1≤i∧i<n+1+l.length
   ·rw[if_pos c2,if_pos (by omega)];obtain⟨k,hk⟩:∃k,i-n=k+1:=⟨i-n-1,by omega⟩;rw[hk,show i-(n+1)=k by omega];rfl
   ·rw[if_neg c2,if_neg c1,if_neg (by omega)]
def aHm{size n:Nat}(ok:fU size)(h:n≤4096):dQ size n=max 1 ((n+(size-25)-1)/(size-25)):=by unfold dQ;rw[if_pos ⟨ok,h⟩]
def uJ{size n:Nat}(ok:fU size)(h:n≤4096):1≤dQ size n:=by rw[aHm ok h];omega
def aC0{size n k:Nat}(ok:fU size)(h:n≤4096)(hk:k+1<dQ size n):(k+1)*(size-25)<n:=by
 rw[aHm ok h] at hk;have h64:=ok.1;obtain⟨room,hr⟩:∃room,size-25=room:=⟨_,rfl⟩;rw[hr] at hk ⊢;have hq:k+2≤(n+room-1)/room:=by omega
 have h2:=(Nat.le_div_iff_mul_le (by omega)).1 hq;rw[show(k+2)*room=(k+1)*room+room by rw[show k+2=(k+1)+1 by omega,Nat.succ_mul]] at h2;omega
def aCs{size n k:Nat}(ok:fU size)(h:n≤4096)(hk:k+1=dQ size n):n≤(k+1)*(size-25)∧(1≤k->k*(size-25)<n):=by
 have h64:=ok.1;have hk':=hk;rw[aHm ok h] at hk;refine⟨?_,λh1=>?_⟩
 ·obtain⟨room,hr⟩:∃room,size-25=room:=⟨_,rfl⟩;rw[hr] at hk ⊢;have hq:(n+room-1)/room<k+2:=by omega
  have h2:=(Nat.div_lt_iff_lt_mul (by omega)).1 hq;rw[show(k+2)*room=(k+1)*room+room by rw[show k+2=(k+1)+1 by omega,Nat.succ_mul]] at h2;omega
 ·obtain⟨j,rfl⟩:∃j,k=j+1:=⟨k-1,by omega⟩;exact aC0 ok h (by omega)
def aIC{size n:Nat}(ok:fU size):dQ size n≤106:=by
 unfold dQ;split
 ·rename_i c;have h64:=ok.1;have h4:=c.2;obtain⟨room,hr⟩:∃room,size-25=room:=⟨_,rfl⟩;rw[hr];have:(n+room-1)/room<107:=(Nat.div_lt_iff_lt_mul (by omega)).2 (by omega);omega
 ·omega
def aQg{size m n:Nat}(ok:fU size)(h:m≤n)(hn:n≤4096):dQ size m≤dQ size n:=by
 rw[aHm ok hn,aHm ok (by omega)];have:(m+(size-25)-1)/(size-25)≤(n+(size-25)-1)/(size-25):=Nat.div_le_div_right (by omega);omega
def aF7{size:Nat}{s:Tx}{k:Nat}(ok:fU size)(h:s.length≤4096)(hk:k<dQ size s.length):
  (jA (size-25) s k).length+25≤size∧(k+1≠dQ size s.length->(jA (size-25) s k).length=size-25)∧(k+1=dQ size s.length->1<dQ size s.length->jA (size-25) s k≠[])∧k*(size-25)+(jA (size-25) s k).length≤4096:=by
 have h64:=ok.1;have e:(jA (size-25) s k).length=min (size-25) (s.length-k*(size-25)):=by unfold jA;rw[mN,jC]
 have hm:(k+1)*(size-25)=k*(size-25)+(size-25):=Nat.succ_mul _ _;refine⟨by omega,λc=>?_,λc c1=>?_,?_⟩
 ·have:=aC0 (k:=k) ok h (by omega);omega
 ·have:=(aCs ok h c).2 (by omega);intro h0;rw[h0] at e;simp only[kI] at e;omega
 ·by_cases c:k+1=dQ size s.length
  ·by_cases c1:1≤k
   ·have:=(aCs ok h c).2 c1;omega
   ·obtain rfl:k=0:=by omega
    rw[Nat.zero_mul] at e ⊢;omega
  ·have:=aC0 (k:=k) ok h (by omega);omega
def aOa{size gen ser:Nat}{s:Tx}{k:Nat}(ok:fU size)(h:s.length≤4096)(g1:gen<18446744073709551616)(g2:ser<18446744073709551616)(hk:k<dQ size s.length):
  fR size (nR size gen ser k (dQ size s.length) (jA (size-25) s k))=(⟨gen,ser,k,dQ size s.length,jA (size-25) s k⟩,0):=by
 obtain⟨a,b,c,d⟩:=aF7 ok h hk;have h106:=aIC (n:=s.length) ok;refine aQu ok a g1 g2 hk (by omega) ⟨b,c⟩ ⟨?_,?_⟩
 ·have:=uJ (n:=k*(size-25)+(jA (size-25) s k).length) ok d;show dQ size (k*(size-25)+(jA (size-25) s k).length)≠0;omega
 ·exact aQg ok h (mG _)
def aSZ(room:Nat)(s:Tx)(k:Nat):s.take (k*room)++jA room s k=s.take ((k+1)*room):=by
 unfold jA;rw[Nat.succ_mul,List.take_add]
def aSu{size gen ser:Nat}{s:Tx}(ok:fU size)(h:s.length≤4096)(g1:gen<18446744073709551616)(g2:ser<18446744073709551616)(rest:List Tx):∀(j k p:Nat),k+(j+1)=dQ size s.length->(k≠0->p=dQ size s.length)->
  iX size gen ser ((List.range' k (j+1)).map (λk=>nR size gen ser k (dQ size s.length) (jA (size-25) s k))++rest) k p (s.take (k*(size-25)))=(s,dQ size s.length)
 | j,k,p,hj,hp=>by
  have er:=aOa (size:=size) (gen:=gen) (ser:=ser) (s:=s) (k:=k) ok h g1 g2 (by omega);have ep:(if k=0 then dQ size s.length else p)=dQ size s.length:=by
   split
   ·rfl
   ·rename_i c;exact hp c
  rw[List.range'_succ,hY,zLT];unfold iX;simp only[er,ep];rw[if_neg (by unfold aGL;simp),aSZ];by_cases c:k+1=dQ size s.length
  ·rw[if_pos c];have:=(aCs ok h c).1;rw[qX (by omega)]
  ·rw[if_neg c];obtain⟨i,rfl⟩:∃i,j=i+1:=⟨j-1,by omega⟩;exact aSu ok h g1 g2 rest i (k+1) _ (by omega) λ_=>rfl
def jS(size gen ser:Nat)(s:Tx):(fV size gen ser s).length=dQ size s.length:=by simp[fV]
def aRF{size gen ser:Nat}{s:Tx}(ok:fU size)(h:s.length≤4096)(g1:gen<18446744073709551616)(g2:ser<18446744073709551616)(rest:List Tx):iX size gen ser (fV size gen ser s++rest) 0 0 []=(s,dQ size s.length):=by
 have h1:=uJ (n:=s.length) ok h;obtain⟨j,hj⟩:∃j,dQ size s.length=j+1:=⟨dQ size s.length-1,by omega⟩;have:=aSu (s:=s) ok h g1 g2 rest j 0 0 (by omega) (λc=>absurd rfl c);rw[Nat.zero_mul,zLd,←hj] at this;unfold fV;rw[List.range_eq_range'];exact this
def Old(size g:Nat)(s:Tx):Prop:=(fR size s).2=0->(fR size s).1.gen<g
def Old.mono{size g g':Nat}{s:Tx}(h:Old size g s)(hg:g≤g'):Old size g' s:=λe=>by have:=h e;omega
def aUp{size gen ser:Nat}{rest:List Tx}(h:∀x,rest.head? =some x->Old size gen x):iX size gen ser rest 0 0 []=([],0):=by
 cases rest with
 | nil=>rfl
 | cons x xs=>
  unfold iX;rw[if_pos];by_cases c:(fR size x).2=0
  ·have:=h x rfl c;exact .inr (.inl (by omega))
  ·exact .inl c
def kQ(size gen:Nat):Nat->List Tx->List Tx
 | _,[]=>[]
 | ser,s::l=>fV size gen ser s++kQ size gen (ser+1) l
def aJZ(size gen:Nat):∀(l:List Tx) (ser:Nat) (s:Tx),kQ size gen ser (l++[s])=kQ size gen ser l++fV size gen (ser+l.length) s
 | [],ser,s=>by simp[kQ]
 | x::l,ser,s=>by
  show fV size gen ser x++kQ size gen (ser+1) (l++[s])=(fV size gen ser x++kQ size gen (ser+1) l)++_;rw[aJZ size gen l (ser+1) s,vP,iP,show ser+1+l.length=ser+(l.length+1) by omega]
def aGc{size gen:Nat}(ok:fU size):∀(l:List Tx) (ser:Nat),(∀s∈l,s.length≤4096)->l.length≤(kQ size gen ser l).length
 | [],ser,_=>lD _
 | x::l,ser,h=>by
  have:=aGc (gen:=gen) ok l (ser+1) λs hs=>h s (by simp[hs]);have h1:=uJ (n:=x.length) ok (h x (by simp));show(l.length+1)≤(fV size gen ser x++kQ size gen (ser+1) l).length;rw[jO,jS];omega
def aIN{size gen:Nat}(ok:fU size)(g1:gen<18446744073709551616){rest:List Tx}(hr:∀x,rest.head? =some x->Old size gen x):∀(l:List Tx) (f ser:Nat),(∀s∈l,s.length≤4096)->l.length<f->ser+l.length<18446744073709551616->
  jU size gen f (kQ size gen ser l++rest) ser=(l,(kQ size gen ser l).length)
 | [],f,ser,_,hf,_=>by
  obtain⟨f,rfl⟩:∃g,f=g+1:=⟨f-1,by simp only[kI] at hf;omega⟩;unfold jU;rw[if_pos (by show(iX size gen ser rest 0 0 []).2=0;rw[aUp hr])];rfl
 | s::l,f,ser,hl,hf,hs=>by
  simp only[iP] at hf hs;obtain⟨f,rfl⟩:∃g,f=g+1:=⟨f-1,by omega⟩;have h1:=hl s (by simp);have hp:=uJ (n:=s.length) ok h1;have er:iX size gen ser (kQ size gen ser (s::l)++rest) 0 0 []=(s,dQ size s.length):=by
   show iX size gen ser ((fV size gen ser s++kQ size gen (ser+1) l)++rest) 0 0 []=_;rw[vP];exact aRF ok h1 g1 (by omega) _
  have ed:(kQ size gen ser (s::l)++rest).drop (dQ size s.length)=kQ size gen (ser+1) l++rest:=by
   show((fV size gen ser s++kQ size gen (ser+1) l)++rest).drop _=_;rw[vP,←jS size gen ser s,List.drop_left]
  have ih:=aIN ok g1 hr l f (ser+1) (λx hx=>hl x (by simp[hx])) (by omega) (by omega);unfold jU;rw[er];simp only;rw[if_neg (by omega),ed,ih];simp only[kQ,jO,jS]
structure Log(d:Dk)(w:Wl)(l:List Tx):Prop where
 ok:d.Ok
 arm:d.arm=0
 buf:d.buf=[]
 four:4≤d.sectors
 g1:1≤w.hd.gen
 g2:w.hd.gen<18446744073709551615
 seg:w.hd.seg≤1
 slot:w.slot≤1
 head:d.at w.slot=(fQ d.size w.hd).1
 other:(fZ d.size (d.at (1-w.slot))).1.gen<w.hd.gen
 used:w.used=(kQ d.size w.hd.gen 0 l).length
 fits:w.used≤d.segs
 ser:w.ser=l.length
 recs:d.secs (d.base w.hd.seg) w.used=kQ d.size w.hd.gen 0 l
 short:∀s∈l,s.length≤4096
 rest:∀i,w.used≤i->i<d.segs->Old d.size w.hd.gen (d.at (d.base w.hd.seg+i))
 all:∀i,2≤i->i<d.sectors->Old d.size (w.hd.gen+1) (d.at i)
 broken:w.broken=false
def aP2(d:Dk)(h:4≤d.sectors){seg:Nat}(hs:seg≤1){i:Nat}(hi:i<d.segs):2≤d.base seg+i∧d.base seg+i<d.sectors:=by
 unfold Dk.base;unfold Dk.segs at hi ⊢;have:seg=0∨seg=1:=by omega
 rcases this with rfl|rfl<;>omega
def aAP(d:Dk)(h:4≤d.sectors){seg:Nat}(hs:seg≤1):d.base seg+d.segs≤d.sectors:=by
 unfold Dk.base Dk.segs;have:seg=0∨seg=1:=by omega
 rcases this with rfl|rfl<;>omega
def aOQ(d:Dk)(n a b:Nat):d.secs n (a+b)=d.secs n a++d.secs (n+a) b:=by
 unfold Dk.secs;rw[List.range_eq_range',List.range_eq_range',List.range_eq_range',←List.range'_append_1,wB,iS];congr 1;rw[List.range'_eq_map_range,zLZ,←List.range_eq_range'];apply zL0;intro i _;show d.at (n+(a+i))=d.at (n+a+i);rw[Nat.add_assoc]
def aQ5{d:Dk}{w:Wl}{l:List Tx}(H:Log d w l):nC d.size (d.at 0) (d.at 1)=(w.hd,(w.slot:Int)):=by
 have hg:=aOR H.ok.size (by have:=H.g1;omega) (by have:=H.g2;omega) H.seg;rw[←H.head] at hg;have ho:=H.other;have g1:=H.g1;have hne:w.hd≠Hd.zero:=λe=>by rw[e] at g1;exact absurd g1 (by decide)
 unfold nC;have hs:=H.slot;have:w.slot=0∨w.slot=1:=by omega
 rcases this with e|e
 ·rw[e] at hg ho ⊢;rw[hg];have:wO (Hd.zero,-1) 0 w.hd=(w.hd,0):=by
   unfold wO;rw[if_pos ⟨hne,by show 0<w.hd.gen;omega⟩]
  rw[this];unfold wO;rw[if_neg (λc=>by
   have h2:w.hd.gen<(fZ d.size (d.at 1)).1.gen:=c.2;have h3:(fZ d.size (d.at 1)).1.gen<w.hd.gen:=ho;omega)]
  rfl
 ·rw[e] at hg ho ⊢;rw[hg];have hlt:(wO (Hd.zero,-1) 0 (fZ d.size (d.at (1-1))).1).1.gen<w.hd.gen:=by
   unfold wO;split
   ·exact ho
   ·show 0<w.hd.gen;omega
  exact if_pos ⟨hne,hlt⟩
def aR5{d:Dk}(ha:d.arm=0)(hb:d.buf=[]):d.fl=(d,0):=by
 unfold Dk.fl;rw[if_neg (by omega)];obtain⟨a,b,c,e,f⟩:=d;simp only at ha hb;subst ha hb;rfl
def aOS{d:Dk}{w:Wl}{l:List Tx}(H:Log d w l):fH d=(d,(⟨w.hd,w.slot,w.used,w.ser,false,false⟩,l),0):=by
 have ef:=aR5 H.arm H.buf;have en:=aQ5 H;unfold fH;rw[ef];simp only;rw[if_neg (by have:=H.four;omega),if_neg (by simp),en];simp only;rw[if_neg (by omega),wY];have e1:d.secs (d.base w.hd.seg) d.segs=kQ d.size w.hd.gen 0 l++d.secs (d.base w.hd.seg+w.used) (d.segs-w.used):=by
  have hf:=H.fits;rw[show d.segs=w.used+(d.segs-w.used) by omega,aOQ,H.recs];rw[show w.used+(d.segs-w.used)-w.used=d.segs-w.used by omega]
 have hl:=aGc (gen:=w.hd.gen) H.ok.size l 0 H.short;have es:=aIN (gen:=w.hd.gen) (rest:=d.secs (d.base w.hd.seg+w.used) (d.segs-w.used)) H.ok.size (by have:=H.g2;omega) (λx hx=>by
  by_cases c:w.used<d.segs
  ·have:=H.rest w.used (mG _) c;have e2:d.secs (d.base w.hd.seg+w.used) (d.segs-w.used)=d.at (d.base w.hd.seg+w.used)::(d.secs (d.base w.hd.seg+w.used) (d.segs-w.used)).tail:=by
    obtain⟨n,hn⟩:∃n,d.segs-w.used=n+1:=⟨d.segs-w.used-1,by omega⟩;rw[hn];unfold Dk.secs;rw[List.range_succ_eq_map,hY,List.tail_cons,zLP]
   rw[e2] at hx;simp only[List.head?_cons,zL4] at hx;rw[←hx];exact this
  ·rw[show d.segs-w.used=0 by omega] at hx;simp[Dk.secs] at hx) l (d.segs+1) 0 H.short (by have:=H.used;have:=H.fits;omega) (by have:=H.used;have:=H.fits;have:=H.ok.many;unfold Dk.segs at *;omega)
 unfold zN;rw[e1,es,←H.used,←H.ser]
def aIp{t:Tx}{n:Nat}(h:n≤t.length):mD (0,t) (n:Int)=(t.take n,((0:Int),t.drop n)):=by
 unfold mD;rw[if_pos ⟨rfl,by omega,by simp only;omega⟩];simp only[wY]
def aMi{t:Tx}{n:Nat}(h:t.length<n):mD (0,t) (n:Int)=([],((6:Int),t)):=by
 unfold mD;rw[if_neg (by simp only;omega)];rfl
def oP{t:Tx}{c:Nat}(h:c≤t.length):fD (0,t) c=(lC (t.take c),((0:Int),t.drop c)):=by
 unfold fD;rw[aIp h]
def aAx(s:Tx):Nat:=lC ((s.drop 1).take 8)
def aAq(s:Tx):Nat:=lC ((s.drop 9).take 8)
def jB(s:Tx):Nat:=lC ((s.drop 17).take 1)
def gX(s:Tx):Nat:=lC ((s.drop 18).take 1)
def jW(s:Tx):Nat:=lC ((s.drop 19).take 2)
def mB(s:Tx):Tx:=(s.drop 21).take (jW s)
def pI(s:Tx):kB:=⟨aAx s,aAq s,jB s,gX s,mB s⟩
structure aXB(size:Nat)(s:Tx):Prop where
 g:frG s=(aAx s,((0:Int),s.drop 9))
 n:frN s=(aAq s,((0:Int),s.drop 17))
 k:wU s=(jB s,((0:Int),s.drop 18))
 q:uR s=(gX s,((0:Int),s.drop 19))
 l:mD (0,s) 1=(s.take 1,((0:Int),s.drop 1))
 t:wZ s=if jW s≤size-25 then(mB s,((0:Int),s.drop (21+jW s))) else([],((6:Int),s.drop 21))
def aQs{size:Nat}{s:Tx}(ok:64≤size)(h:s.length=size-4):aXB size s:=by
 have l0:mD (0,s) 1=(s.take 1,((0:Int),s.drop 1)):=aIp (n:=1) (by omega);have g:frG s=(aAx s,((0:Int),s.drop 9)):=by
  unfold frG;rw[l0];simp only;rw[oP (by rw[jC];omega),pR];rfl
 have n:frN s=(aAq s,((0:Int),s.drop 17)):=by
  unfold frN;rw[g];simp only;rw[oP (by rw[jC];omega),pR];rfl
 have k:wU s=(jB s,((0:Int),s.drop 18)):=by
  unfold wU;rw[n];simp only;rw[oP (by rw[jC];omega),pR];rfl
 have q:uR s=(gX s,((0:Int),s.drop 19)):=by
  unfold uR;rw[k];simp only;rw[oP (by rw[jC];omega),pR];rfl
 refine⟨g,n,k,q,l0,?_⟩;unfold wZ vB;rw[q];simp only;rw[oP (by rw[jC];omega),pR];simp only;show mD (0,s.drop 21) (jW s:Nat)=_;split
 ·rw[aIp (by rw[jC];omega),pR];rfl
 ·rw[aMi (by rw[jC];omega)]
def aFd(size:Nat)(f:kB):Prop:=(f.part+1<f.parts∧f.b.length≠size-25)∨(0<f.part∧f.b.length=0)
def aEQ(size:Nat)(f:kB):Nat:=if f.part+1=f.parts then(f.parts-1)*(size-25)+f.b.length else(f.parts-1)*(size-25)+1
instance (n:Nat) (f:kB):Decidable (aFd n f):=by unfold aFd;infer_instance
def wH(size:Nat)(s:Tx):kB×Int:=
 if ¬fU size then(kB.zero,1) else if s.length≠size then(kB.zero,6) else if nQ s=false then(kB.zero,8)
 else if size-25<jW s∨gX s≤jB s then(kB.zero,5)
 else if aFd size (pI s) then(kB.zero,5)
 else if 4096<aEQ size (pI s)∨nR size (aAx s) (aAq s) (jB s) (gX s) (mB s)≠s then(kB.zero,5)
 else(pI s,0)
def aFf{t:Tx}{c:Nat}(h:c≤t.length):be (lC (t.take c)) c=t.take c:=by
 have:=aWa (t.take c);rw[mN,aFU h] at this;exact this
def nW(s:Tx)(i c n:Nat)(h:i+c≤n):((s.take n).drop i).take c=(s.drop i).take c:=by
 rw[zLy,aIP,aFU (by omega)]
def aS2{s:Tx}{n:Nat}(h:21≤n)(hl:jW s+21≤n):pI (s.take n)=pI s∧jW (s.take n)=jW s:=by
 have e:jW (s.take n)=jW s:=by unfold jW;rw[nW _ _ _ _ (by omega)]
 refine⟨?_,e⟩;unfold pI mB;rw[e];unfold aAx aAq jB gX;rw[nW _ _ _ _ (by omega),nW _ _ _ _ (by omega),nW _ _ _ _ (by omega),nW _ _ _ _ (by omega),nW _ _ _ _ (by omega)]
def aSA{s:Tx}{n:Nat}(h:21≤n):jW (s.take n)=jW s:=by unfold jW;rw[nW _ _ _ _ (by omega)]
def aUJ{size:Nat}{s:Tx}(ok:fU size)(h:s.length=size-4)(hl:jW s≤size-25):nA size (aAx s) (aAq s) (jB s) (gX s) (mB s)=s↔(s.take 1=[82]∧∀x∈s.drop (21+jW s),x=0):=by
 have h64:=ok.1;have tl:(mB s).length=jW s:=by unfold mB;rw[mN,jC];omega
 have b1:be (aAx s) 8=(s.drop 1).take 8:=aFf (by rw[jC];omega);have b2:be (aAq s) 8=(s.drop 9).take 8:=aFf (by rw[jC];omega);have b3:be (jB s) 1=(s.drop 17).take 1:=aFf (by rw[jC];omega);have b4:be (gX s) 1=(s.drop 18).take 1:=aFf (by rw[jC];omega);have b5:be (mB s).length 2=(s.drop 19).take 2:=by rw[tl];exact aFf (by rw[jC];omega)
 have sp:∀i c,s.drop i=(s.drop i).take c++s.drop (i+c):=λi c=>by rw[←pR,zL6]
 have es:s=s.take 1++((s.drop 1).take 8++((s.drop 9).take 8++((s.drop 17).take 1++((s.drop 18).take 1++(((s.drop 19).take 2++mB s)++s.drop (21+jW s)))))):=by
  conv=>lhs;rw[←zL6 1 s,sp 1 8,sp 9 8,sp 17 1,sp 18 1,sp 19 2,sp 21 (jW s)]
  simp only[vP];rfl
 unfold nA;rw[b1,b2,b3,b4,b5];have hz:(s.drop (21+jW s)).length=size-25-(mB s).length:=by rw[jC,tl];omega
 constructor
 ·intro e
  conv at e=>rhs;rw[es]
  obtain⟨c1,e⟩:=List.append_inj e (by rw[mN];simp;omega);have e:=List.append_cancel_left e;have e:=List.append_cancel_left e;have e:=List.append_cancel_left e;have e:=List.append_cancel_left e;have e:=List.append_cancel_left e;refine⟨c1.symm,λx hx=>?_⟩;rw[←e] at hx;exact List.eq_of_mem_replicate hx
 ·rintro⟨c1,c2⟩;have e:kT (size-25-(mB s).length)=s.drop (21+jW s):=by
   unfold kT;rw[←hz];exact(List.eq_replicate_iff.2 ⟨rfl,c2⟩).symm
  conv=>rhs;rw[es]
  rw[c1,e]
def aON{s b:Tx}{size:Nat}(h4:4≤size)(hs:nQ s=true)(hl:s.length=size)(hb:b.length=size-4):mZ b=s↔b=s.take (size-4):=by
 unfold nQ at hs;rw[decide_eq_true_eq,hl] at hs;constructor
 ·intro e;rw[←e];exact(aL0 (by omega)).symm
 ·intro e;subst e;unfold mZ;rw[hs.2,zL6]
def aRt{size:Nat}{f:kB}(ok:fU size)(h1:f.part<f.parts)(h2:¬aFd size f)(hl:f.b.length≤size-25):aHy size f↔aEQ size f≤4096:=by
 have h64:=ok.1;unfold aFd at h2;unfold aHy aEQ;have key:∀n,dQ size n≠0↔n≤4096:=λn=>by
  constructor
  ·intro h;unfold dQ at h;split at h
   ·rename_i c;exact c.2
   ·exact absurd rfl h
  ·intro h;have:=uJ (n:=n) ok h;omega
 rw[key]
 -- how many parts there may be at most
 have pk:∀p,2≤p->(p≤dQ size 4096↔(p-1)*(size-25)<4096):=λp hp=>by
  obtain⟨k,rfl⟩:∃k,p=k+1:=⟨p-1,by omega⟩;rw[Nat.add_sub_cancel];constructor
  ·intro h;by_cases c:k+1=dQ size 4096
   ·exact(aCs ok (mG _) c).2 (by omega)
   ·have:=aC0 (k:=k) ok (mG 4096) (by omega);have hm:(k+1)*(size-25)=k*(size-25)+(size-25):=Nat.succ_mul _ _;omega
  ·intro h;by_cases c:k+1≤dQ size 4096
   ·exact c
   ·exfalso;have hp1:=uJ (n:=4096) ok (mG _);obtain⟨m,hm⟩:∃m,dQ size 4096=m+1:=⟨dQ size 4096-1,by omega⟩;have h3:=(aCs ok (mG 4096) hm.symm).1;have h4:(m+1)*(size-25)≤k*(size-25):=wA _ (by omega);omega
 by_cases c:f.part+1=f.parts
 ·rw[if_pos c,show f.part=f.parts-1 by omega];constructor
  ·exact λh=>h.1
  ·intro h;refine⟨h,?_⟩;by_cases c2:2≤f.parts
   ·rw[pk _ c2];omega
   ·have:=uJ (n:=4096) ok (mG _);omega
 ·rw[if_neg c];have hb:f.b.length=size-25:=Classical.byContradiction λhx=>h2 (.inl ⟨by omega,hx⟩);rw[hb];have hm:(f.part+1)*(size-25)=f.part*(size-25)+(size-25):=Nat.succ_mul _ _;have hle:(f.part+1)*(size-25)≤(f.parts-1)*(size-25):=wA _ (by omega);rw[pk _ (by omega)];constructor
  ·intro h;omega
  ·intro h;omega
def aOE(size:Nat)(s:Tx):wH size s=fR size s:=by
 unfold wH fR;split
 ·rfl
 ·rename_i ok;have ok:fU size:=Classical.not_not.1 ok;have h64:=ok.1;split
  ·rfl
  ·rename_i hl;have hl:s.length=size:=Classical.not_not.1 hl;split
   ·rfl
   ·rename_i hs;have hs:nQ s=true:=by simpa using hs
    obtain⟨s',hs'⟩:∃s',s.take (size-4)=s':=⟨_,rfl⟩;have hl':s'.length=size-4:=by rw[←hs',mN];omega
    have F:=aQs (size:=size) h64 hl';have eL:jW s'=jW s:=by rw[←hs'];exact aSA (by omega)
    rw[hs'];by_cases cl:jW s≤size-25
    ·have eF:pI s'=pI s:=by rw[←hs'];exact(aS2 (by omega) (by omega)).1
     have eG:aAx s'=aAx s:=congrArg kB.gen eF;have eS:aAq s'=aAq s:=congrArg kB.ser eF;have eP:jB s'=jB s:=congrArg kB.part eF;have eQ:gX s'=gX s:=congrArg kB.parts eF;have eT:mB s'=mB s:=congrArg kB.b eF;have ft:=F.t;rw[if_pos (by omega)] at ft;have fz:frZ s'=(s'.drop (21+jW s'),((0:Int),[])):=by
      unfold frZ;rw[ft];show mD (0,s'.drop (21+jW s')) (aI5 (0,s'.drop (21+jW s')):Nat)=_;have:aI5 (0,s'.drop (21+jW s'))=(s'.drop (21+jW s')).length:=rfl;rw[this,aIp (mG _),qX (mG _),aBA (mG _)]
     have eOf:aBB s'=pI s:=by
      unfold aBB;rw[F.g,F.n,F.k,F.q,ft,←eF];rfl
     have tl:(pI s).b.length=jW s:=by
      rw[←eF];show(mB s').length=jW s;unfold mB;rw[mN,jC];omega
     have o1:aH8 s'↔(jB s<gX s∧nA size (aAx s) (aAq s) (jB s) (gX s) (mB s)=s'):=by
      unfold aH8;rw[fz,F.k,F.q,F.l,eP,eQ];have:=aUJ ok hl' (by omega);rw[eG,eS,eP,eQ,eT] at this;rw[this];constructor
      ·rintro⟨-,a,b,c⟩;exact⟨c,a,b⟩
      ·rintro⟨c,a,b⟩;exact⟨rfl,a,b,c⟩
     have hb:(nA size (aAx s) (aAq s) (jB s) (gX s) (mB s)).length=size-4:=aGP (by
      have:(mB s).length=jW s:=tl;omega)
     have o0:=aON (by omega) hs hl hb;rw[hs'] at o0;rw[eOf];by_cases cp:jB s<gX s
     ·rw[if_neg (by omega)];have o2:aG2 size (pI s)↔¬aFd size (pI s):=by
       unfold aG2 aFd;show(jB s+1≠gX s->_)∧(jB s+1=gX s->1<gX s->_)↔¬((jB s+1<gX s∧_)∨(0<jB s∧_));rw[List.ne_nil_iff_length_pos];omega
      by_cases cb:aFd size (pI s)
      ·rw[if_pos cb,if_neg (λc=>(o2.1 c.2.1) cb)]
      ·rw[if_neg cb];have o3:=aRt (f:=pI s) ok cp cb (by omega);by_cases cf:aEQ size (pI s)≤4096∧nR size (aAx s) (aAq s) (jB s) (gX s) (mB s)=s
       ·rw[if_neg (by rintro(c|c);omega;exact c cf.2),if_pos ⟨o1.2 ⟨cp,o0.1 cf.2⟩,o2.2 cb,o3.2 cf.1⟩]
       ·rw[if_pos (Classical.byContradiction λc=>cf ⟨by omega,Classical.byContradiction λx=>c (.inr x)⟩),if_neg (λc=>cf ⟨o3.1 c.2.2,o0.2 (o1.1 c.1).2⟩)]
     ·rw[if_pos (.inr (by omega)),if_neg (λc=>cp (o1.1 c.1).1)]
    ·rw[if_pos (.inl (by omega)),if_neg (λc=>?_)];have ft:=F.t;rw[if_neg (by omega)] at ft;have:(frZ s').2.1=0:=c.1.1;unfold frZ at this;rw[ft] at this;have:=aFr (aI5 (6,s'.drop 21):Nat) 6 (s'.drop 21) (by decide);simp only at this;rename_i h0;rw[this] at h0;cases h0
def aAN{size:Nat}:∀{st:List Tx} (_:∀s∈st,s.length=size),st.flatten.length=st.length*size
 | [],_=>by simp
 | x::st,h=>by
  rw[aDw,jO,aAN λs hs=>h s (by simp[hs]),h x (by simp),iP,Nat.succ_mul];omega
def aGK{size:Nat}:∀{st:List Tx} (_:∀s∈st,s.length=size) (n:Nat),st.flatten.drop (n*size)=(st.drop n).flatten
 | st,_,0=>by simp
 | [],_,n+1=>by simp
 | x::st,h,n+1=>by
  have hx:=h x (by simp);rw[aDw,Nat.succ_mul,Nat.add_comm,←pR,←hx,List.drop_left,hx,aGK (λs hs=>h s (by simp[hs])) n,zLa]
def aND{size:Nat}:∀{st:List Tx} (_:∀s∈st,s.length=size) (n:Nat),st.flatten.take (n*size)=(st.take n).flatten
 | st,_,0=>by simp
 | [],_,n+1=>by simp
 | x::st,h,n+1=>by
  have hx:=h x (by simp);rw[aDw,zLc,aDw,List.take_append,qX (by rw[hx,Nat.succ_mul];omega),hx,Nat.succ_mul,Nat.add_sub_cancel,aND (λs hs=>h s (by simp[hs])) n]
def aP6{size:Nat}{st:List Tx}(h:∀s∈st,s.length=size){n:Nat}(hn:n<st.length):(st.flatten.drop (n*size)).take size=st.getD n []:=by
 have e:st.drop n=st[n]::st.drop (n+1):=aAy hn;rw[aGK h,e,aDw,aD4,kO hn];have:=h _ (aJB hn);rw[←this,List.take_left];rfl
def aUI{size:Nat}{st:List Tx}(h:∀s∈st,s.length=size){n:Nat}(hn:n<st.length){s:Tx}(hs:s.length≤size):st.flatten.take (n*size)++s++st.flatten.drop (n*size+s.length)=(st.set n (s++(st.getD n []).drop s.length)).flatten:=by
 have e:st.drop n=st[n]::st.drop (n+1):=aAy hn;have hl:=h _ (aJB hn);rw[aND h,←pR,aGK h,e,aDw,List.drop_append_of_le_length (by omega),List.set_eq_take_append_cons_drop,if_pos hn,zLG,aDw,aD4,kO hn];simp only[Option.getD_some,vP]
def aKC:∀(buf:List (Nat×Tx)) (st:List Tx) (n:Nat),(∀w∈buf,w.1≠n)->(lP st buf).getD n []=st.getD n []
 | [],st,n,_=>rfl
 | w::buf,st,n,h=>by
  show(lP (st.set w.1 w.2) buf).getD n []=_;rw[aKC buf _ n λx hx=>h x (by simp[hx]),aD4,aD4,List.getElem?_set_ne (h w (by simp))]
def aRH(st:List Tx)(a b:List (Nat×Tx)):lP st (a++b)=lP (lP st a) b:=List.foldl_append
def aPe{st:List Tx}{buf:List (Nat×Tx)}{i n:Nat}{w:Nat×Tx}(hw:buf[i]? =some w)(hn:w.1=n)(hl:n<st.length)(h:∀x∈buf.drop (i+1),x.1≠n):(lP st buf).getD n []=w.2:=by
 have hi:=(zLA.1 hw).1;have e:buf=buf.take i++[w]++buf.drop (i+1):=by
  have e1:buf.take i++[w]=buf.take (i+1):=by rw[zLR,hw];rfl
  rw[e1,zL6]
 rw[e,aRH,aKC _ _ _ h,aIY,aPV (by rw[aAA,hn];exact hl),if_pos hn.symm]
structure WOk(d:Dk)(w:Wl):Prop where
 ok:d.Ok
 four:4≤d.sectors
 seg:w.hd.seg≤1
 slot:w.slot≤1
 used:w.used≤d.segs
def aXN(d:Dk):d.fl.2=0∨d.fl.2=13:=by
 unfold Dk.fl;split
 ·exact .inr rfl
 ·exact .inl rfl
def aXU{d:Dk}{n:Nat}{s:Tx}(hn:n<d.sectors)(hs:s.length=d.size):(d.wr (n:Int) s).2=0∨(d.wr (n:Int) s).2=13:=by
 unfold Dk.wr;rw[if_neg (by omega)];split
 ·exact .inr rfl
 ·exact .inl rfl
def aLx:∀(l:List Tx) {d:Dk} (n:Nat) (_:n+l.length≤d.sectors) (_:∀s∈l,s.length=d.size),(iQ d n l).2=0∨(iQ d n l).2=13
 | [],d,n,_,_=>aXN d
 | s::l,d,n,hn,hl=>by
  simp only[iP] at hn;have h1:=aXU (d:=d) (n:=n) (s:=s) (by omega) (hl s (by simp));have hg:=d.wr_geo (n:Int) s;unfold iQ;by_cases c:(d.wr (n:Int) s).2=0
  ·rw[if_neg (by simp[c])];exact aLx l (n+1) (by rw[hg.2];omega) (by rw[hg.1];exact λx hx=>hl x (by simp[hx]))
  ·rw[if_pos c];rcases h1 with h1|h1
   ·exact absurd h1 c
   ·exact .inr h1
def aBZ{size n:Nat}(ok:fU size):dQ size n=0↔4096<n:=by
 constructor
 ·intro h;by_cases c:n≤4096
  ·have:=uJ (n:=n) ok c;omega
  ·omega
 ·intro h;unfold dQ;rw[if_neg (by omega)]
def aKN{size gen ser:Nat}{s:Tx}(ok:fU size)(h:s.length≤4096):∀x∈fV size gen ser s,x.length=size:=by
 intro x hx;unfold fV at hx;obtain⟨k,hk,rfl⟩:=pV.1 hx;exact aJA (aF7 ok h (aGU.1 hk)).1
def WOk.ap{d:Dk}{w:Wl}(H:WOk d w){s:Tx}(hf:fits d w s.length=true):(yR d w s).2=0∨(yR d w s).2=13:=by
 unfold fits at hf;rw[decide_eq_true_eq] at hf;have hs:s.length≤4096:=by
  have:=(aBZ (n:=s.length) H.ok.size).2;omega
 have:=aAP d H.four H.seg;exact aLx _ _ (by rw[jS];omega) (aKN H.ok.size hs)
def WOk.ck{d:Dk}{seg gen:Nat}(ok:d.Ok)(four:4≤d.sectors)(hseg:seg≤1){s:Tx}(h0:dQ d.size s.length≠0)(hp:dQ d.size s.length≤d.segs):(lX d ⟨gen,seg⟩ s).2=0∨(lX d ⟨gen,seg⟩ s).2=13:=by
 have hs:s.length≤4096:=by
  have:=(aBZ (n:=s.length) ok.size).2;omega
 have:=aAP d four hseg;exact aLx _ _ (by rw[jS];show d.base seg+_≤_;omega) (aKN ok.size hs)
def aJK(h:Hd):(gL h).1.seg≤1:=by
 unfold gL;split
 ·exact lD _
 ·show(if h.seg=0 then 1 else 0)≤1;split<;>omega
def aQ0{size:Nat}{h:Hd}(ok:fU size)(h0:(fQ size h).2=0):(fQ size h).1.length=size:=by
 unfold fQ at h0 ⊢;split at h0
 ·cases h0
 ·rename_i c;rw[if_neg c];show(mZ (nM size h)).length=size;rw[aEI];unfold nM;simp only[jO,gU,vT,iP,kI];have:=ok.1;omega
def aNZ{size:Nat}{h:Hd}(ok:fU size)(h0:(gL h).2=0):(fQ size (gL h).1).2=0∧(fQ size (gL h).1).1.length=size:=by
 have e:(fQ size (gL h).1).2=0:=by
  have hs:=aJK h;have hg:(gL h).1.gen≠0:=by
   unfold gL at h0 ⊢;split at h0
   ·cases h0
   ·rename_i c;rw[if_neg c];show h.gen+1≠0;omega
  unfold fQ;rw[if_neg (by rintro(a|a|a);exact a ok;exact hg a;omega)]
 exact⟨e,aQ0 ok e⟩
def aLz{size gen ser:Nat}:∀(xs:List Tx) (k p:Nat) (t:Tx),(iX size gen ser xs k p t).2≤k+xs.length
 | [],_,_,_=>lD _
 | x::xs,k,p,t=>by
  unfold iX;have ih:=λq=>aLz (size:=size) (gen:=gen) (ser:=ser) xs (k+1) q (t++(fR size x).1.b);generalize (if k=0 then(fR size x).1.parts else p)=q at *;split
  ·exact lD _
  ·split
   ·rename_i h;simp only[iP];omega
   ·have:=ih q;simp only[iP];omega
def aIh{size gen:Nat}:∀(f:Nat) (xs:List Tx) (ser:Nat),(jU size gen f xs ser).2≤xs.length
 | 0,_,_=>lD _
 | f+1,xs,ser=>by
  unfold jU;split
  ·exact lD _
  ·have h1:=aLz (size:=size) (gen:=gen) (ser:=ser) xs 0 0 [];have h2:=aIh (size:=size) (gen:=gen) f (xs.drop (iX size gen ser xs 0 0 []).2) (ser+1);rw[jC] at h2;simp only;omega
def aHz{size gen:Nat}:∀(f:Nat) (xs:List Tx) (ser:Nat),(jU size gen f xs ser).1.length≤(jU size gen f xs ser).2
 | 0,_,_=>lD _
 | f+1,xs,ser=>by
  unfold jU;split
  ·exact lD _
  ·have h2:=aHz (size:=size) (gen:=gen) f (xs.drop (iX size gen ser xs 0 0 []).2) (ser+1);simp only[iP];omega
def aPx{size:Nat}{s:Tx}:(fZ size s).1.seg≤1:=by
 unfold fZ;split
 ·exact lD _
 ·split
  ·exact lD _
  ·split
   ·exact lD _
   ·split
    ·rename_i d;have h2:=d.1;unfold fQ at h2;split at h2
     ·cases h2
     ·rename_i e;show(uA s).seg≤1;omega
    ·exact lD _
def aO7{b:Hd×Int}{k:Int}{h:Hd}(hb:b.1.seg≤1)(hh:h.seg≤1):(wO b k h).1.seg≤1∧((wO b k h).2=k∨(wO b k h).2=b.2):=by
 unfold wO;split
 ·exact⟨hh,.inl rfl⟩
 ·exact⟨hb,.inr rfl⟩
def aHw(size:Nat)(x y:Tx):(nC size x y).1.seg≤1∧((nC size x y).2= -1∨(nC size x y).2=0∨(nC size x y).2=1):=by
 have h1:=aO7 (b:=(Hd.zero,-1)) (k:=0) (h:=(fZ size x).1) (lD _) aPx;have h2:=aO7 (k:=1) (h:=(fZ size y).1) h1.1 aPx;unfold nC;refine⟨h2.1,?_⟩;rcases h2.2 with e|e
 ·exact .inr (.inr e)
 ·rcases h1.2 with e'|e'
  ·exact .inr (.inl (e.trans e'))
  ·exact .inl (e.trans e')
def WOk.mk'{d:Dk}(ok:d.Ok)(four:4≤d.sectors){hd:Hd}(hs:hd.seg≤1){slot:Nat}(h1:slot≤1):WOk d (zN d hd slot).1:=
 ⟨ok,four,hs,h1,by
  have:=aIh (size:=d.size) (gen:=hd.gen) (d.segs+1) (d.secs (d.base hd.seg) d.segs) 0;rw[Dk.secs_len] at this;exact this⟩
def aL6{d:Dk}(H:d.Ok):(fH d).1.Ok∧(fH d).1.size=d.size∧(fH d).1.sectors=d.sectors∧((fH d).2.2=0->WOk (fH d).1 (fH d).2.1.1):=by
 unfold fH;split
 ·exact⟨H,rfl,rfl,λh=>by cases h⟩
 ·rename_i h4;split
  ·rename_i h0;exact⟨H.fl,d.fl_geo.1,d.fl_geo.2,λh=>absurd h h0⟩
  ·split
   ·obtain⟨a,b,c,-⟩:=oL [(fQ d.size ⟨1,0⟩).1] H.fl 1;split
    ·rename_i h0;exact⟨a,b.trans d.fl_geo.1,c.trans d.fl_geo.2,λh=>absurd h h0⟩
    ·refine⟨a,b.trans d.fl_geo.1,c.trans d.fl_geo.2,λ_=>WOk.mk' a (by rw[c,d.fl_geo.2];omega) (lD _) (mG _)⟩
   ·rename_i hn;have hk:=aHw d.size (d.fl.1.at 0) (d.fl.1.at 1);exact⟨H.fl,d.fl_geo.1,d.fl_geo.2,λ_=>WOk.mk' H.fl (by rw[d.fl_geo.2];omega) hk.1 (by omega)⟩
def aNH{d d':Dk}{n:Nat}{l:List Tx}(L:aRK d d' n l):d'.secs n l.length=l:=by
 unfold Dk.secs;apply aLS;intro i;rw[wW];by_cases c:i<l.length
 ·rw[List.getElem?_range c,aJ9,L.here,if_pos (by omega),aB4,aD4,kO c];rfl
 ·rw[List.getElem?_eq_none (by simp;omega),List.getElem?_eq_none (by omega)];rfl
def aPT{d d':Dk}{n:Nat}{l:List Tx}(L:aRK d d' n l){m k:Nat}(h:m+k≤n∨n+l.length≤m):d'.secs m k=d.secs m k:=by
 unfold Dk.secs;apply zL0;intro i hi;have:=aGU.1 hi;rw[L.here,if_neg (by omega)]
def aNa{size:Nat}{h:Hd}(ok:fU size)(g:h.gen≠0)(g2:h.seg≤1):(fQ size h).1.length=size∧(fQ size h).2=0:=by
 have e:fQ size h=(mZ (nM size h),0):=by unfold fQ;rw[if_neg (by rintro(c|c|c);exact c ok;exact g c;omega)]
 rw[e];refine⟨?_,rfl⟩;show(mZ (nM size h)).length=size;rw[aEI];unfold nM;simp only[jO,gU,vT,iP,kI];have:=ok.1;omega
def aQ3{size gen ser:Nat}{s:Tx}{k:Nat}(hk:k<dQ size s.length):(fV size gen ser s).getD k []=nR size gen ser k (dQ size s.length) (jA (size-25) s k):=by
 unfold fV;rw[aD4,wW,List.getElem?_range hk];rfl
def aLt{size gen ser:Nat}{s:Tx}{k:Nat}(ok:fU size)(h:s.length≤4096)(g1:gen<18446744073709551616)(g2:ser<18446744073709551616)(hk:k<dQ size s.length):Old size (gen+1) ((fV size gen ser s).getD k []):=by
 rw[aQ3 hk];intro _;rw[aOa ok h g1 g2 hk];show gen<gen+1;omega
def aKy{size gen ser:Nat}{s:Tx}(ok:fU size)(h:s.length≤4096):∀x∈fV size gen ser s,x.length=size:=by
 intro x hx;unfold fV at hx;obtain⟨k,hk,rfl⟩:=pV.1 hx;exact aJA (aF7 ok h (aGU.1 hk)).1
def aUw{h:Hd}(g:h.gen<18446744073709551615):gL h=(⟨h.gen+1,if h.seg=0 then 1 else 0⟩,0):=by unfold gL;rw[if_neg (by omega)]
def aNo{d:Dk}{w:Wl}{l:List Tx}(H:Log d w l){s:Tx}(hs:s.length≤4096)(hp:dQ d.size s.length≤d.segs)(hg:w.hd.gen<18446744073709551614):
  ∃d' w',fS d w s=(d',w',0)∧Log d' w' [s]∧w'.ready=true∧w'.hd.gen=w.hd.gen+1∧d'.size=d.size∧d'.sectors=d.sectors:=by
 have ok:=H.ok.size;have h1:=uJ (n:=s.length) ok hs;have en:=aUw (h:=w.hd) (by omega);have hseg:(if w.hd.seg=0 then 1 else 0)≤1:=by split<;>omega
 generalize hsg:(if w.hd.seg=0 then 1 else 0)=sg at *;have hl4:=H.four;have hbf:=aAP d hl4 hseg;have hsl:=H.slot;have hb2:2≤d.base sg:=by unfold Dk.base;omega
 obtain⟨A0,A⟩:=aGI (fV d.size (w.hd.gen+1) 0 s) H.ok H.arm (d.base sg) (by rw[jS];omega) (aKy ok hs);obtain⟨hl1,hl2⟩:=aNa (size:=d.size) (h:=⟨w.hd.gen+1,sg⟩) ok (by simp) hseg;obtain⟨B0,B⟩:=aGI [(fQ d.size ⟨w.hd.gen+1,sg⟩).1] A.ok A.arm (1-w.slot) (by rw[A.sectors];simp only[iP,kI];omega) (by simp[hl1,A.size]);have ew:fS d w s=((iQ (iQ d (d.base sg) (fV d.size (w.hd.gen+1) 0 s)).1 (1-w.slot) [(fQ d.size ⟨w.hd.gen+1,sg⟩).1]).1,⟨⟨w.hd.gen+1,sg⟩,1-w.slot,dQ d.size s.length,1,true,false⟩,0):=by
  unfold fS lX;rw[if_neg (by rw[H.broken];simp),if_neg (by omega),if_neg (by omega),en];simp only;rw[if_neg (by simp),if_neg (by rw[A0];simp),if_neg (by rw[B0];simp)]
 generalize (iQ d (d.base sg) (fV d.size (w.hd.gen+1) 0 s)).1=d1 at *;generalize (iQ d1 (1-w.slot) [(fQ d.size ⟨w.hd.gen+1,sg⟩).1]).1=d2 at *;have esz:d2.size=d.size:=B.size.trans A.size;have esc:d2.sectors=d.sectors:=B.sectors.trans A.sectors;have esg:d2.segs=d.segs:=by unfold Dk.segs;rw[esc]
 have eba:∀n,d2.base n=d.base n:=λn=>by unfold Dk.base;rw[esg]
 have hat:∀i,2≤i->d2.at i=d1.at i:=λi hi=>by rw[B.here,if_neg (by simp only[iP,kI];omega)]
 refine⟨d2,_,ew,⟨B.ok,B.arm,B.buf,by omega,by show 1≤w.hd.gen+1;omega,by show w.hd.gen+1<_;omega,hseg,by show 1-w.slot≤1;omega,?_,?_,?_,?_,rfl,?_,?_,?_,?_,rfl⟩,rfl,rfl,esz,esc⟩
 ·show d2.at (1-w.slot)=_;rw[B.here,if_pos (by simp only[iP,kI];omega),aId,esz];rfl
 ·show(fZ d2.size (d2.at (1-(1-w.slot)))).1.gen<w.hd.gen+1;rw[show 1-(1-w.slot)=w.slot by omega,B.here,if_neg (by simp only[iP,kI];omega),A.here,if_neg (by omega),H.head,esz,aOR ok (by have:=H.g1;omega) (by omega) H.seg];show w.hd.gen<w.hd.gen+1;omega
 ·show dQ d.size s.length=(fV d2.size (w.hd.gen+1) 0 s++[]).length;rw[zLQ,jS,esz]
 ·show dQ d.size s.length≤d2.segs;rw[esg];exact hp
 ·show d2.secs (d2.base sg) (dQ d.size s.length)=fV d2.size (w.hd.gen+1) 0 s++[];rw[zLQ,eba,esz];have e1:d2.secs (d.base sg) (dQ d.size s.length)=d1.secs (d.base sg) (dQ d.size s.length):=aPT B (.inr (by simp only[iP,kI];omega));have e2:=aNH A;rw[jS] at e2;rw[e1,e2]
 ·intro x hx;simp only[iL] at hx;rw[hx];exact hs
 ·intro i hi1 hi2;have hi1:dQ d.size s.length≤i:=hi1;rw[esg] at hi2;show Old d2.size (w.hd.gen+1) (d2.at (d2.base sg+i));rw[eba,esz,hat _ (by omega),A.here,if_neg (by rw[jS];omega)];exact H.all _ (by omega) (by omega)
 ·intro i hi1 hi2;show Old d2.size (w.hd.gen+1+1) (d2.at i);rw[esz,hat _ hi1,A.here];split
  ·rename_i c;rw[jS] at c;exact aLt ok hs (by omega) (by omega) (by omega)
  ·exact(H.all i hi1 (by omega)).mono (by omega)
def aLl{d:Dk}{w:Wl}{l:List Tx}(H:Log d w l)(hr:w.ready=true){s:Tx}(hs:s.length≤4096)(hf:fits d w s.length=true):
  ∃d' w',iG d w s=(d',w',0)∧Log d' w' (l++[s])∧w'.ready=true∧w'.hd.gen=w.hd.gen∧d'.size=d.size∧d'.sectors=d.sectors:=by
 have ok:=H.ok.size;have hf':=hf;unfold fits at hf;rw[decide_eq_true_eq] at hf;obtain⟨hf1,hf2⟩:=hf;have hl4:=H.four;have hbf:=aAP d hl4 H.seg;have hb2:2≤d.base w.hd.seg:=by unfold Dk.base;omega
 have hsl:=H.slot;have hg2:=H.g2;have hser:w.ser<18446744073709551616:=by
  have h1:=aGc (gen:=w.hd.gen) ok l 0 H.short;have h2:=H.used;have h3:=H.ok.many;have h4:=H.ser;unfold Dk.segs at hf2;omega
 obtain⟨A0,A⟩:=aGI (fV d.size w.hd.gen w.ser s) H.ok H.arm (d.base w.hd.seg+w.used) (by rw[jS];omega) (aKy ok hs);have ew:iG d w s=((iQ d (d.base w.hd.seg+w.used) (fV d.size w.hd.gen w.ser s)).1,⟨w.hd,w.slot,w.used+dQ d.size s.length,w.ser+1,w.ready,false⟩,0):=by
  unfold iG yR;rw[if_neg (by rw[H.broken];simp),if_neg (by rw[hr];simp),if_neg hf1,if_neg (by rw[hf'];simp),if_neg (by rw[A0];simp)]
 generalize (iQ d (d.base w.hd.seg+w.used) (fV d.size w.hd.gen w.ser s)).1=d1 at *;have esg:d1.segs=d.segs:=by unfold Dk.segs;rw[A.sectors]
 have eba:∀n,d1.base n=d.base n:=λn=>by unfold Dk.base;rw[esg]
 have efa:kQ d1.size w.hd.gen 0 (l++[s])=kQ d.size w.hd.gen 0 l++fV d.size w.hd.gen w.ser s:=by rw[aJZ,iS,←H.ser,A.size]
 refine⟨d1,_,ew,⟨A.ok,A.arm,A.buf,by rw[A.sectors];exact hl4,H.g1,H.g2,H.seg,H.slot,?_,?_,?_,?_,?_,?_,?_,?_,?_,rfl⟩,hr,rfl,A.size,A.sectors⟩
 ·show d1.at w.slot=_;rw[A.here,if_neg (by omega),H.head,A.size]
 ·show(fZ d1.size (d1.at (1-w.slot))).1.gen<w.hd.gen;rw[A.here,if_neg (by omega),A.size];exact H.other
 ·show w.used+dQ d.size s.length=(kQ d1.size w.hd.gen 0 (l++[s])).length;rw[efa,jO,jS,←H.used]
 ·show w.used+dQ d.size s.length≤d1.segs;rw[esg];omega
 ·show w.ser+1=(l++[s]).length;rw[jO,←H.ser];rfl
 ·show d1.secs (d1.base w.hd.seg) (w.used+dQ d.size s.length)=kQ d1.size w.hd.gen 0 (l++[s]);have e2:=aNH A;rw[jS] at e2;rw[efa,eba,aOQ,e2,aPT A (.inl (mG _)),H.recs]
 ·intro x hx;rcases xN.1 hx with hx|hx
  ·exact H.short x hx
  ·simp only[iL] at hx;rw[hx];exact hs
 ·intro i hi1 hi2;have hi1:w.used+dQ d.size s.length≤i:=hi1;rw[esg] at hi2;show Old d1.size w.hd.gen (d1.at (d1.base w.hd.seg+i));rw[eba,A.size,A.here,if_neg (by rw[jS];omega)];exact H.rest i (by omega) hi2
 ·intro i hi1 hi2;rw[A.sectors] at hi2;show Old d1.size (w.hd.gen+1) (d1.at i);rw[A.size,A.here];split
  ·rename_i c;rw[jS] at c;exact aLt ok hs (by omega) hser (by omega)
  ·exact H.all i hi1 hi2
structure aRe(d:Dk):Prop where
 ok:d.Ok
 arm:d.arm=0
 buf:d.buf=[]
 z:∀i,i<d.sectors->d.at i=kT d.size
def aNC{n:Nat}(h:64≤n):(kT n).head? =some 0:=by
 obtain⟨m,rfl⟩:∃m,n=m+1:=⟨n-1,by omega⟩;rfl
def aTt{n g:Nat}(h:64≤n):Old n g (kT n):=λe=>by
 have:=(aPa e).1;rw[aNC h] at this;cases this
def aPU{n:Nat}(h:64≤n):(fZ n (kT n)).1=Hd.zero:=aPW λe=>by
 have:=aRV e;rw[aNC h] at this;cases this
def aRP{d:Dk}(H:aRe d)(h4:4≤d.sectors):∃d' w',fH d=(d',(w',[]),0)∧Log d' w' []∧w'.hd.gen=1∧d'.size=d.size∧d'.sectors=d.sectors:=by
 have ok:=H.ok.size;have ef:=aR5 H.arm H.buf;have en:nC d.size (d.at 0) (d.at 1)=(Hd.zero,-1):=by
  rw[H.z 0 (by omega),H.z 1 (by omega)];unfold nC;rw[aPU ok.1];unfold wO;rw[if_neg (by simp),if_neg (by simp)]
 obtain⟨hl1,hl2⟩:=aNa (size:=d.size) (h:=⟨1,0⟩) ok (by simp) (by simp);obtain⟨B0,B⟩:=aGI [(fQ d.size ⟨1,0⟩).1] H.ok H.arm 1 (by simp only[iP,kI];omega) (by simp[hl1]);have ew:fH d=((iQ d 1 [(fQ d.size ⟨1,0⟩).1]).1,zN (iQ d 1 [(fQ d.size ⟨1,0⟩).1]).1 ⟨1,0⟩ 1,0):=by
  unfold fH;rw[ef];simp only;rw[if_neg (by omega),if_neg (by simp),en];simp only;rw[if_pos (by decide),if_neg (by rw[B0];simp)]
 generalize (iQ d 1 [(fQ d.size ⟨1,0⟩).1]).1=d1 at *;have esg:d1.segs=d.segs:=by unfold Dk.segs;rw[B.sectors]
 have eba:∀n,d1.base n=d.base n:=λn=>by unfold Dk.base;rw[esg]
 have hz:∀i,2≤i->i<d.sectors->d1.at i=kT d.size:=λi h1 h2=>by
  rw[B.here,if_neg (by simp only[iP,kI];omega),H.z i h2]
 have hold:∀i g,2≤i->i<d.sectors->Old d1.size g (d1.at i):=λi g h1 h2=>by
  rw[hz i h1 h2,B.size];exact aTt ok.1
 have es:=aIN (gen:=1) (rest:=d1.secs (d1.base 0) d1.segs) (size:=d1.size) (by rw[B.size];exact ok) (by decide) (λx hx=>by
  have hm:=List.mem_of_mem_head? hx;unfold Dk.secs at hm;obtain⟨i,hi,rfl⟩:=pV.1 hm;have hi:=aGU.1 hi;rw[esg] at hi;have:=aP2 d h4 (seg:=0) (by omega) hi;rw[eba];exact hold _ _ this.1 this.2) [] (d1.segs+1) 0 (by simp) (by simp) (by simp)
 have em:zN d1 ⟨1,0⟩ 1=(⟨⟨1,0⟩,1,0,0,false,false⟩,[]):=by
  have es':jU d1.size 1 (d1.segs+1) (d1.secs (d1.base 0) d1.segs) 0=([],0):=es;unfold zN;rw[es'];rfl
 rw[em] at ew;refine⟨d1,_,ew,⟨B.ok,B.arm,B.buf,by rw[B.sectors];exact h4,by decide,by decide,by decide,by decide,?_,?_,rfl,lD _,rfl,rfl,by simp,?_,?_,rfl⟩,rfl,B.size,B.sectors⟩
 ·show d1.at 1=_;rw[B.here,if_pos (by simp),B.size];rfl
 ·show(fZ d1.size (d1.at 0)).1.gen<1;rw[B.here,if_neg (by simp),B.size,H.z 0 (by omega),aPU ok.1];decide
 ·intro i _ hi;rw[esg] at hi;have:=aP2 d h4 (seg:=0) (by omega) hi;show Old d1.size 1 (d1.at (d1.base 0+i));rw[eba];exact hold _ _ this.1 this.2
 ·intro i h1 h2;rw[B.sectors] at h2;exact hold _ _ h1 h2
def qC(s:Tx):Hd:=⟨lC ((s.drop 1).take 8),lC ((s.drop 9).take 1)⟩
def aFu(size:Nat)(s:Tx):Prop:=s.take 1=[72]∧(qC s).gen≠0∧(qC s).seg<2∧∀x∈(s.take (size-4)).drop 10,x=0
instance (n:Nat) (s:Tx):Decidable (aFu n s):=by unfold aFu;infer_instance
def aHr(size:Nat)(s:Tx):Hd×Int:=
 if ¬fU size then(Hd.zero,1) else if s.length≠size then(Hd.zero,6) else if nQ s=false then(Hd.zero,8)
 else if aFu size s then(qC s,0) else(Hd.zero,5)
def aVP{s:Tx}(h:10≤s.length):uA s=qC s:=by
 unfold uA qC;rw[oP (by rw[jC];omega)];simp only;rw[oP (by rw[jC,jC];omega),pR]
def aVB(size:Nat)(s:Tx):aHr size s=fZ size s:=by
 unfold aHr fZ;split
 ·rfl
 ·rename_i ok;have ok:fU size:=Classical.not_not.1 ok;have h64:=ok.1;split
  ·rfl
  ·rename_i hl;have hl:s.length=size:=Classical.not_not.1 hl;split
   ·rfl
   ·rename_i hs;have hs:nQ s=true:=by simpa using hs
    rw[aVP (by omega)];have hb:(nM size (qC s)).length=size-4:=by
     unfold nM;simp only[jO,gU,vT,iP,kI];omega
    have o0:=aON (by omega) hs hl hb;have b1:be (qC s).gen 8=(s.drop 1).take 8:=aFf (by rw[jC];omega);have b2:be (qC s).seg 1=(s.drop 9).take 1:=aFf (by rw[jC];omega);have o1:nM size (qC s)=s.take (size-4)↔s.take 1=[72]∧∀x∈(s.take (size-4)).drop 10,x=0:=by
     unfold nM;rw[b1,b2];have es:s.take (size-4)=s.take 1++((s.drop 1).take 8++((s.drop 9).take 1++(s.take (size-4)).drop 10)):=by
      have sp:∀i c,(s.take (size-4)).drop i=((s.take (size-4)).drop i).take c++(s.take (size-4)).drop (i+c):=λi c=>by rw[←pR,zL6]
      have e0:(s.take (size-4)).drop 0=s.take (size-4):=rfl
      conv=>lhs;rw[←e0,sp 0 1,sp 1 8,sp 9 1]
      rw[nW _ _ _ _ (by omega),nW _ _ _ _ (by omega),nW _ _ _ _ (by omega)];rfl
     have hz:((s.take (size-4)).drop 10).length=size-14:=by rw[jC,mN];omega
     constructor
     ·intro e;rw[es] at e;obtain⟨c1,e⟩:=List.append_inj e (by rw[mN];simp;omega);have e:=List.append_cancel_left e;have e:=List.append_cancel_left e;refine⟨c1.symm,λx hx=>?_⟩;rw[←e] at hx;exact List.eq_of_mem_replicate hx
     ·rintro⟨c1,c2⟩;have e:kT (size-14)=(s.take (size-4)).drop 10:=by
       unfold kT;rw[←hz];exact(List.eq_replicate_iff.2 ⟨rfl,c2⟩).symm
      rw[es,c1,←e]
    by_cases c:(qC s).gen≠0∧(qC s).seg<2
    ·have eh:fQ size (qC s)=(mZ (nM size (qC s)),0):=by unfold fQ;rw[if_neg (by rintro(a|a|a);exact a ok;exact c.1 a;omega)]
     rw[eh];simp only[true_and];by_cases d:mZ (nM size (qC s))=s
     ·have:=o1.1 (o0.1 d);rw[if_pos d,if_pos (show aFu size s from⟨this.1,c.1,c.2,this.2⟩)]
     ·rw[if_neg d,if_neg (λx:aFu size s=>d (o0.2 (o1.2 ⟨x.1,x.2.2.2⟩)))]
    ·have eh:fQ size (qC s)=([],1):=by unfold fQ;rw[if_pos (by by_cases a:(qC s).gen=0;exact .inr (.inl a);exact .inr (.inr (by omega)))]
     rw[eh,if_neg (λx:aFu size s=>c ⟨x.2.1,x.2.2.1⟩),if_neg (by simp)]
def zP(b:Hd×Int)(k:Int)(h:Hd×Int):Hd×Int:=if h.2=0∧(b.2<0∨b.1.gen<h.1.gen) then(h.1,k) else b
def aUq{size:Nat}{s:Tx}(h:(fZ size s).2=0):(fZ size s).1.gen≠0:=by
 unfold fZ at h ⊢;split at h
 ·cases h
 ·rename_i a;split at h
  ·cases h
  ·rename_i b;split at h
   ·cases h
   ·rename_i c;split at h
    ·rename_i d;rw[if_neg a,if_neg b,if_neg c,if_pos d];have h2:=d.1;unfold fQ at h2;split at h2
     ·cases h2
     ·rename_i e;exact λx=>e (.inr (.inl x))
    ·cases h
def aQo(size:Nat)(x y:Tx):zP (zP (Hd.zero,-1) 0 (fZ size x)) 1 (fZ size y)=nC size x y:=by
 have key:∀(b:Hd×Int) (k:Int) (s:Tx),(b.2<0->b.1.gen=0)->zP b k (fZ size s)=wO b k (fZ size s).1:=λb k s hb=>by
  unfold zP wO;by_cases c:(fZ size s).2=0
  ·have hg:=aUq c;have hne:(fZ size s).1≠Hd.zero:=λe=>hg (by rw[e];rfl);by_cases d:b.1.gen<(fZ size s).1.gen
   ·rw[if_pos ⟨c,.inr d⟩,if_pos ⟨hne,d⟩]
   ·rw[if_neg (λx=>?_),if_neg (λx=>d x.2)];rcases x.2 with e|e
    ·have:=hb e;omega
    ·exact d e
  ·have hz:=aPW c;rw[if_neg (λx=>c x.1),if_neg (λx=>x.1 hz)]
 unfold nC;rw[key (Hd.zero,-1) 0 x (λ_=>rfl),key];intro h;unfold wO at h ⊢;split at h
 ·exact absurd h (by simp)
 ·rename_i c;rw[if_neg c];rfl
def aBP{h:PH}{l:List UInt8}(hl:l.length≤8){k:cF}(hk:k (.int .u64 (lC l)) h):bT PG jZ #[.string (tx l)] h k:=by
 apply zF.call;unfold zF;refine⟨λvs h'=>∃i:Nat,i≤l.length∧vs=[.string (tx l),.int .u64 (lC (l.take i)),.int .i64 i]∧h'=h,fN l.length 2,⟨0,by omega,rfl,rfl⟩,?_⟩;rintro ρ h' ⟨i,hi,hvs,rfl⟩;simp only[hY,iZ,kP,and_true] at hvs;obtain⟨s0,s1,s3⟩:=hvs;rw[s0,s1,s3];unfold aD6;by_cases hlt:i<l.length
 ·have hd:((i:Int)<(l.length:Int))=True:=by apply eq_true;omega
  obtain⟨b,hb⟩:∃b,l[i]? =some b:=⟨_,kO hlt⟩;have hsm:=aNb hlt hl;have hb8:=b.toNat_lt;have ei:=nP (i:=i) (by omega);have e2:IntKind.u64.wrap ((lC (l.take i):Int)*256)=((lC (l.take i)*256:Nat):Int):=by rw[jY (by omega) (by omega)];omega
  have e3:IntKind.u64.wrap (b.toNat:Int)=(b.toNat:Int):=jY (by omega) (by omega);have e4:IntKind.u64.wrap (((lC (l.take i)*256:Nat):Int)+(b.toNat:Int))=((lC (l.take (i+1)):Nat):Int):=by rw[aPE hb,jY (by omega) (by omega)];omega
  simp only[aT.len,kV,hd,e2,nL aT.und hb,aP7,e3,e4,ei,cB,reduceIte];exact⟨⟨i+1,by omega,rfl,by trivial⟩,by simp[fN,s3];omega⟩
 ·have hd:((i:Int)<(l.length:Int))=False:=by apply eq_false;omega
  rw[qX (by omega)];simp only[aT.len,kV,hd,cB,reduceIte];exact hk
def aD7(x:Int):cC PG (convert aR cI (.int .i64 x))=some (.int .u64 (IntKind.u64.wrap x)):=by kernel_rfl
def aL8{h:PH}{p:Pk}(w:p.wf)(hr:p.right=true){k:cF}(hk:∀h',cZ h h'->k (.string (tx p.bs)) h'):bT PG vD #[.agg p.cells.toArray] h k:=by
 obtain⟨r1,r2,-,-,r5⟩:=Pk.right_iff.1 hr;obtain⟨w1,w2,w3,w4⟩:=w;have ed:=aRC p;have el:=aHh p;obtain⟨f,s,t,d⟩:=p;obtain⟨f,rfl⟩:=zLm r1;obtain⟨s,rfl⟩:=zLm w1;obtain⟨t,rfl⟩:=zLm w3;simp only at r2 w2 w4 r5;unfold Pk.bs at hk;simp only[wY] at hk;generalize Pk.tx ⟨(f:Int),(s:Int),(t:Int),d⟩=l at *;subst ed;simp only[kV] at el r5;apply qU.call;unfold qU;intro r hr
 try rw[cO]
 have u1:cZ h (h.set r (.cells (Value.cells (.agg (Pk.cells ⟨(f:Int),(s:Int),(t:Int),tx l⟩).toArray)) bX)):=cT.new hr;have B1:Bx (h.set r (.cells (Value.cells (.agg (Pk.cells ⟨(f:Int),(s:Int),(t:Int),tx l⟩).toArray)) bX)) r (Pk.cells ⟨(f:Int),(s:Int),(t:Int),tx l⟩):=Bx.new;generalize h.set r (.cells (Value.cells (.agg (Pk.cells ⟨(f:Int),(s:Int),(t:Int),tx l⟩).toArray)) bX)=h1 at *;have l0:∀{h':PH},cZ h1 h'->cD PG h' (loadAt aR (pT r 0))=some (.int .i64 (f:Int)):=λu=>by rw[aR.load,(B1.ext u).cell];rfl
 have l1:∀{h':PH},cZ h1 h'->cD PG h' (loadAt cI (pT r 1))=some (.int .u64 (s:Int)):=λu=>by rw[cI.load,(B1.ext u).cell];rfl
 have l2:∀{h':PH},cZ h1 h'->cD PG h' (loadAt cI (pT r 2))=some (.int .u64 (t:Int)):=λu=>by rw[cI.load,(B1.ext u).cell];rfl
 have l3:∀{h':PH},cZ h1 h'->cD PG h' (loadAt aT (pT r 3))=some (.string (tx l)):=λu=>by rw[aT.load,(B1.ext u).cell];rfl
 have c1:IntKind.u64.wrap (f:Int)=(f:Int):=jY (by omega) (by omega);have c2:IntKind.u64.wrap (l.length:Int)=(l.length:Int):=jY (by omega) (by omega);have ln:cC PG (Builtin.len_ #[aT] aR #[.string (tx l)])=some (.int .i64 (l.length:Int)):=by rw[tR aT.und,kV]
 simp only[bX.f0,bX.f1,bX.f2,bX.f3,l0 cT.refl,l1 cT.refl,l2 cT.refl,l3 cT.refl,ln,aD7,c1,c2,cB,reduceIte,cJ,Nat.reduceAdd];refine lW (by omega) (by decide) λh2 u2=>?_;simp only[iS,l1 u2,l2 u2,l3 u2,eq_self,true_and];refine lW (by omega) (by decide) λh3 u3=>?_;have e3:=u2.trans u3;have a1:cC PG (binOp .add aT (.string (tx (be f 1))) (.string (tx (be s 8))))=some (.string (tx (be f 1++be s 8))):=jT (by simp only[gU];decide);simp only[l2 e3,l3 e3,a1,eq_self,true_and,cB,reduceIte,cJ,Nat.reduceAdd];refine lW (by omega) (by decide) λh4 u4=>?_;have e4:=e3.trans u4;have a2:cC PG (binOp .add aT (.string (tx (be f 1++be s 8))) (.string (tx (be t 8))))=some (.string (tx ((be f 1++be s 8)++be t 8))):=jT (by simp only[gU,jO];decide);simp only[l3 e4,a2,eq_self,true_and,cB,reduceIte,cJ,Nat.reduceAdd];refine lW (by omega) (by decide) λh5 u5=>?_;have e5:=e4.trans u5;have a3:cC PG (binOp .add aT (.string (tx ((be f 1++be s 8)++be t 8))) (.string (tx (be l.length 2))))=some (.string (tx (((be f 1++be s 8)++be t 8)++be l.length 2))):=jT (by simp only[gU,jO];decide);have a4:cC PG (binOp .add aT (.string (tx (((be f 1++be s 8)++be t 8)++be l.length 2))) (.string (tx l)))=some (.string (tx ((((be f 1++be s 8)++be t 8)++be l.length 2)++l))):=jT (by simp only[gU,jO];omega);simp only[l3 e5,a3,a4,eq_self,true_and,cB,reduceIte,cJ,Nat.reduceAdd];rw[vP,vP,vP];exact hk _ (u1.trans e5)
end Go.Proofs.YtiohehjhlghikaaGreatDoor
