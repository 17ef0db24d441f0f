/- The texts of this claim, put together. -/
import Derived.Test.YtiohehjhlghikaaGreatDoorJgSVC4
set_option linter.all false
set_option maxRecDepth 100000
open Go.Instr (loadAt fieldAt indexAt extract buildSlice build)
namespace Go.Proofs.YtiohehjhlghikaaGreatDoor
open Go
structure Dk where
 (size sectors:Nat)
 st:List Tx
 buf:List (Nat×Tx)
 arm:Nat
def kH(st:List Tx)(buf:List (Nat×Tx)):List Tx:=buf.foldl (λl w=>l.set w.1 w.2) st
def aAE:∀(buf:List (Nat×Tx)) (st:List Tx),(kH st buf).length=st.length
 | [],st=>rfl
 | w::buf,st=>by
  show(kH (st.set w.1 w.2) buf).length=_;rw[aAE buf,List.length_set]
def aI2(st:List Tx)(buf:List (Nat×Tx))(w:Nat×Tx):kH st (buf++[w])=(kH st buf).set w.1 w.2:=by unfold kH;rw[List.foldl_append];rfl
def Dk.tick(d:Dk):Dk:=⟨d.size,d.sectors,d.st,d.buf,d.arm-1⟩
def Dk.wr(d:Dk)(n:Int)(s:Tx):Dk×Int:=
 if n<0∨(d.sectors:Int)≤n∨s.length≠d.size then(d,1) else if d.arm=1 then(d.tick,13) else(⟨d.size,d.sectors,d.st,d.buf++[(n.toNat,s)],d.arm-1⟩,0)
def Dk.fl(d:Dk):Dk×Int:=if d.arm=1 then(d.tick,13) else(⟨d.size,d.sectors,kH d.st d.buf,[],d.arm-1⟩,0)
def Dk.at(d:Dk)(n:Nat):Tx:=(kH d.st d.buf).getD n []
def Dk.rd(d:Dk)(n:Int):Tx×Int:=if n<0∨(d.sectors:Int)≤n then([],1) else(d.at n.toNat,0)
structure Dk.Ok(d:Dk):Prop where
 len:d.st.length=d.sectors
 size:gB d.size
 one:1≤d.sectors
 many:d.sectors≤4096
 each:∀s∈d.st,s.length=d.size
 buf:∀w∈d.buf,w.1<d.sectors∧w.2.length=d.size
def Dk.Ok.tick{d:Dk}(H:d.Ok):d.tick.Ok:=⟨H.len,H.size,H.one,H.many,H.each,H.buf⟩
def Dk.Ok.wr{d:Dk}(H:d.Ok)(n:Int)(s:Tx):(d.wr n s).1.Ok:=by
 unfold Dk.wr;split
 ·exact H
 ·rename_i h;split
  ·exact H.tick
  ·refine⟨H.len,H.size,H.one,H.many,H.each,λw hw=>?_⟩;rcases tK.1 hw with hw|hw
   ·exact H.buf w hw
   ·simp only[iC] at hw;subst hw;have h2:¬s.length≠d.size:=λhx=>h (.inr (.inr hx));exact⟨by show n.toNat<d.sectors;omega,by show s.length=d.size;omega⟩
def aGY{n:Nat}:∀(buf:List (Nat×Tx)) (st:List Tx),(∀s∈st,s.length=n)->(∀w∈buf,w.2.length=n)->∀s∈kH st buf,s.length=n
 | [],st,h,_=>h
 | w::buf,st,h,hb=>aGY buf (st.set w.1 w.2) (λs hs=>by
   rcases List.mem_or_eq_of_mem_set hs with h1|h1
   ·exact h s h1
   ·rw[h1];exact hb w (by simp)) λx hx=>hb x (by simp[hx])
def Dk.Ok.fl{d:Dk}(H:d.Ok):d.fl.1.Ok:=by
 unfold Dk.fl;split
 ·exact H.tick
 ·exact⟨by show(kH _ _).length=_;rw[aAE];exact H.len,H.size,H.one,H.many,aGY _ _ H.each λw hw=>(H.buf w hw).2,by simp⟩
def Dk.wr_geo(d:Dk)(n:Int)(s:Tx):(d.wr n s).1.size=d.size∧(d.wr n s).1.sectors=d.sectors:=by
 unfold Dk.wr;split
 ·exact⟨rfl,rfl⟩
 ·split<;>exact⟨rfl,rfl⟩
def Dk.fl_geo(d:Dk):d.fl.1.size=d.size∧d.fl.1.sectors=d.sectors:=by
 unfold Dk.fl;split<;>exact⟨rfl,rfl⟩
def Dk.Ok.at_len{d:Dk}(H:d.Ok){n:Nat}(h:n<d.sectors):(d.at n).length=d.size:=by
 unfold Dk.at;have hl:n<(kH d.st d.buf).length:=by rw[aAE,H.len];exact h
 rw[sQ,kF hl];exact aGY _ _ H.each (λw hw=>(H.buf w hw).2) _ (aHO hl)
structure Wl where
 hd:Hd
 (slot used ser:Nat)
 (ready broken:Bool)
def Wl.zero:Wl:=⟨Hd.zero,0,0,0,false,false⟩
def iE:Dk->Nat->List Tx->Dk×Int
 | d,_,[]=>d.fl
 | d,n,s::l=>if (d.wr (n:Int) s).2≠0 then((d.wr (n:Int) s).1,(d.wr (n:Int) s).2) else iE (d.wr (n:Int) s).1 (n+1) l
def pW:∀(l:List Tx) {d:Dk} (_:d.Ok) (n:Nat),(iE d n l).1.Ok∧(iE d n l).1.size=d.size∧(iE d n l).1.sectors=d.sectors∧((iE d n l).2=0∨(iE d n l).2=1∨(iE d n l).2=13)
 | [],d,H,n=>by
  refine⟨H.fl,d.fl_geo.1,d.fl_geo.2,?_⟩;show d.fl.2=0∨d.fl.2=1∨d.fl.2=13;unfold Dk.fl;split
  ·exact .inr (.inr rfl)
  ·exact .inl rfl
 | s::l,d,H,n=>by
  unfold iE;split
  ·refine⟨H.wr _ _,(d.wr_geo _ _).1,(d.wr_geo _ _).2,?_⟩;show(d.wr _ _).2=0∨(d.wr _ _).2=1∨(d.wr _ _).2=13;unfold Dk.wr;split
   ·exact .inr (.inl rfl)
   ·split
    ·exact .inr (.inr rfl)
    ·exact .inl rfl
  ·obtain⟨a,b,c,e⟩:=pW l (H.wr (n:Int) s) (n+1);exact⟨a,b.trans (d.wr_geo _ _).1,c.trans (d.wr_geo _ _).2,e⟩
def Dk.segs(d:Dk):Nat:=(d.sectors-2)/2
def Dk.base(d:Dk)(seg:Nat):Nat:=2+seg*d.segs
def Dk.secs(d:Dk)(n k:Nat):List Tx:=(List.range k).map λi=>d.at (n+i)
def Dk.secs_len(d:Dk)(n k:Nat):(d.secs n k).length=k:=by simp[Dk.secs]
def oX(d:Dk)(hd:Hd)(slot:Nat):Wl×List Tx:=
 (⟨hd,slot,(jD d.size hd.gen (d.segs+1) (d.secs (d.base hd.seg) d.segs) 0).2,(jD d.size hd.gen (d.segs+1) (d.secs (d.base hd.seg) d.segs) 0).1.length,false,false⟩,(jD d.size hd.gen (d.segs+1) (d.secs (d.base hd.seg) d.segs) 0).1)
def fA(d:Dk):Dk×(Wl×List Tx)×Int:=
 if d.sectors<4 then(d,(Wl.zero,[]),1)
 else if d.fl.2≠0 then(d.fl.1,(Wl.zero,[]),d.fl.2)
 else if (jX d.size (d.fl.1.at 0) (d.fl.1.at 1)).2<0 then
  if (iE d.fl.1 1 [(fO d.size ⟨1,0⟩).1]).2≠0 then((iE d.fl.1 1 [(fO d.size ⟨1,0⟩).1]).1,(Wl.zero,[]),(iE d.fl.1 1 [(fO d.size ⟨1,0⟩).1]).2)
  else((iE d.fl.1 1 [(fO d.size ⟨1,0⟩).1]).1,oX (iE d.fl.1 1 [(fO d.size ⟨1,0⟩).1]).1 ⟨1,0⟩ 1,0)
 else(d.fl.1,oX d.fl.1 (jX d.size (d.fl.1.at 0) (d.fl.1.at 1)).1 (jX d.size (d.fl.1.at 0) (d.fl.1.at 1)).2.toNat,0)
def Wl.brk(w:Wl)(e:Int):Wl:=⟨w.hd,w.slot,w.used,w.ser,w.ready,decide (e=13)⟩
def fits(d:Dk)(w:Wl)(n:Nat):Bool:=decide (dL d.size n≠0∧dL d.size n+w.used≤d.segs)
def rG(d:Dk)(w:Wl)(s:Tx):Dk×Int:=iE d (d.base w.hd.seg+w.used) (fR d.size w.hd.gen w.ser s)
def hM(d:Dk)(w:Wl)(s:Tx):Dk×Wl×Int:=
 if w.broken then(d,w,14)
 else if w.ready=false then(d,w.brk 15,15)
 else if dL d.size s.length=0 then(d,w.brk 1,1)
 else if fits d w s.length=false then(d,w.brk 2,2)
 else if (rG d w s).2≠0 then((rG d w s).1,w.brk (rG d w s).2,(rG d w s).2)
 else((rG d w s).1,⟨w.hd,w.slot,w.used+dL d.size s.length,w.ser+1,w.ready,false⟩,0)
def lL(d:Dk)(h:Hd)(s:Tx):Dk×Int:=iE d (d.base h.seg) (fR d.size h.gen 0 s)
def fP(d:Dk)(w:Wl)(s:Tx):Dk×Wl×Int:=
 if w.broken then(d,w,14)
 else if dL d.size s.length=0 then(d,w.brk 1,1)
 else if d.segs<dL d.size s.length then(d,w.brk 2,2)
 else if (gT w.hd).2≠0 then(d,w.brk (gT w.hd).2,(gT w.hd).2)
 else if (lL d (gT w.hd).1 s).2≠0 then((lL d (gT w.hd).1 s).1,w.brk (lL d (gT w.hd).1 s).2,(lL d (gT w.hd).1 s).2)
 else if (iE (lL d (gT w.hd).1 s).1 (1-w.slot) [(fO d.size (gT w.hd).1).1]).2≠0 then
  ((iE (lL d (gT w.hd).1 s).1 (1-w.slot) [(fO d.size (gT w.hd).1).1]).1,w.brk (iE (lL d (gT w.hd).1 s).1 (1-w.slot) [(fO d.size (gT w.hd).1).1]).2,(iE (lL d (gT w.hd).1 s).1 (1-w.slot) [(fO d.size (gT w.hd).1).1]).2)
 else((iE (lL d (gT w.hd).1 s).1 (1-w.slot) [(fO d.size (gT w.hd).1).1]).1,⟨(gT w.hd).1,1-w.slot,dL d.size s.length,1,true,false⟩,0)
def aGC{l:List Tx}{i n:Nat}{s:Tx}(h:n<l.length):(l.set n s).getD i []=if i=n then s else l.getD i []:=by
 rw[sQ,sQ,List.getElem?_set];by_cases c:n=i
 ·subst c;simp[h]
 ·rw[if_neg c,if_neg (by omega)]
structure aNA(d d':Dk)(n:Nat)(l:List Tx):Prop where
 ok:d'.Ok
 size:d'.size=d.size
 sectors:d'.sectors=d.sectors
 arm:d'.arm=0
 buf:d'.buf=[]
 here:∀i,d'.at i=if n≤i∧i<n+l.length then l.getD (i-n) [] else d.at i
def aBd:∀(l:List Tx) {d:Dk} (_:d.Ok) (_:d.arm=0) (n:Nat) (_:n+l.length≤d.sectors) (_:∀s∈l,s.length=d.size),(iE d n l).2=0∧aNA d (iE d n l).1 n l
 | [],d,H,ha,n,hn,hl=>by
  have e:iE d n []=(⟨d.size,d.sectors,kH d.st d.buf,[],d.arm-1⟩,0):=by
   show d.fl=_;unfold Dk.fl;rw[if_neg (by omega)]
  have hok:(iE d n []).1.Ok:=(pW [] H n).1;rw[e] at hok ⊢;exact⟨rfl,hok,rfl,rfl,by show d.arm-1=0;omega,rfl,λi=>by rw[if_neg (by simp only[kV];omega)];rfl⟩
 | s::l,d,H,ha,n,hn,hl=>by
  simp only[iU] at hn;have e:d.wr (n:Int) s=(⟨d.size,d.sectors,d.st,d.buf++[(n,s)],d.arm-1⟩,0):=by
   unfold Dk.wr;rw[if_neg (by have:=hl s (by simp);omega),if_neg (by omega)];rfl
  have h1:=H.wr (n:Int) s;have eat:∀i,(d.wr (n:Int) s).1.at i=if i=n then s else d.at i:=λi=>by
   rw[e];show(kH d.st (d.buf++[(n,s)])).getD i []=_;rw[aI2,aGC (by rw[aAE,H.len];omega)];rfl
  have ih:=aBd l h1 (by rw[e];show d.arm-1=0;omega) (n+1) (by rw[e];show n+1+l.length≤d.sectors;omega) (by rw[e];exact λx hx=>hl x (by simp[hx]));have ep:iE d n (s::l)=iE (d.wr (n:Int) s).1 (n+1) l:=by
   conv=>lhs;unfold iE
   rw[if_neg (by rw[e];simp)]
  rw[ep];obtain⟨a,b⟩:=ih;refine⟨a,b.ok,b.size.trans (by rw[e]),b.sectors.trans (by rw[e]),b.arm,b.buf,λi=>?_⟩;rw[b.here i,eat i];simp only[iU];by_cases c1:i=n
  ·subst c1;rw[if_neg (by omega),if_pos rfl,if_pos (by omega),aJE];rfl
  ·by_cases c2:n+1≤i∧i<n+1+l.length
   ·rw[if_pos c2,if_pos (by omega)];obtain⟨k,hk⟩:∃k,i-n=k+1:=⟨i-n-1,by omega⟩;rw[hk,show i-(n+1)=k by omega];rfl
   ·rw[if_neg c2,if_neg c1,if_neg (by omega)]
def aIR{size n:Nat}(ok:gB size)(h:n≤4096):dL size n=max 1 ((n+(size-25)-1)/(size-25)):=by unfold dL;rw[if_pos ⟨ok,h⟩]
def tL{size n:Nat}(ok:gB size)(h:n≤4096):1≤dL size n:=by rw[aIR ok h];omega
def aDQ{size n k:Nat}(ok:gB size)(h:n≤4096)(hk:k+1<dL size n):(k+1)*(size-25)<n:=by
 rw[aIR ok h] at hk;have h64:=ok.1;obtain⟨room,hr⟩:∃room,size-25=room:=⟨_,rfl⟩;rw[hr] at hk ⊢;have hq:k+2≤(n+room-1)/room:=by omega
 have h2:=(Nat.le_div_iff_mul_le (by omega)).1 hq;rw[show(k+2)*room=(k+1)*room+room by rw[show k+2=(k+1)+1 by omega,Nat.succ_mul]] at h2;omega
def aDN{size n k:Nat}(ok:gB size)(h:n≤4096)(hk:k+1=dL size n):n≤(k+1)*(size-25)∧(1≤k->k*(size-25)<n):=by
 have h64:=ok.1;have hk':=hk;rw[aIR ok h] at hk;refine⟨?_,λh1=>?_⟩
 ·obtain⟨room,hr⟩:∃room,size-25=room:=⟨_,rfl⟩;rw[hr] at hk ⊢;have hq:(n+room-1)/room<k+2:=by omega
  have h2:=(Nat.div_lt_iff_lt_mul (by omega)).1 hq;rw[show(k+2)*room=(k+1)*room+room by rw[show k+2=(k+1)+1 by omega,Nat.succ_mul]] at h2;omega
 ·obtain⟨j,rfl⟩:∃j,k=j+1:=⟨k-1,by omega⟩;exact aDQ ok h (by omega)
def aIf{size n:Nat}(ok:gB size):dL size n≤106:=by
 unfold dL;split
 ·rename_i c;have h64:=ok.1;have h4:=c.2;obtain⟨room,hr⟩:∃room,size-25=room:=⟨_,rfl⟩;rw[hr];have:(n+room-1)/room<107:=(Nat.div_lt_iff_lt_mul (by omega)).2 (by omega);omega
 ·omega
def aRj{size m n:Nat}(ok:gB size)(h:m≤n)(hn:n≤4096):dL size m≤dL size n:=by
 rw[aIR ok hn,aIR ok (by omega)];have:(m+(size-25)-1)/(size-25)≤(n+(size-25)-1)/(size-25):=Nat.div_le_div_right (by omega);omega
def aGg{size:Nat}{s:Tx}{k:Nat}(ok:gB size)(h:s.length≤4096)(hk:k<dL size s.length):
  (jJ (size-25) s k).length+25≤size∧(k+1≠dL size s.length->(jJ (size-25) s k).length=size-25)∧(k+1=dL size s.length->1<dL size s.length->jJ (size-25) s k≠[])∧k*(size-25)+(jJ (size-25) s k).length≤4096:=by
 have h64:=ok.1;have e:(jJ (size-25) s k).length=min (size-25) (s.length-k*(size-25)):=by unfold jJ;rw[lU,jC]
 have hm:(k+1)*(size-25)=k*(size-25)+(size-25):=Nat.succ_mul _ _;refine⟨by omega,λc=>?_,λc c1=>?_,?_⟩
 ·have:=aDQ (k:=k) ok h (by omega);omega
 ·have:=(aDN ok h c).2 (by omega);intro h0;rw[h0] at e;simp only[kV] at e;omega
 ·by_cases c:k+1=dL size s.length
  ·by_cases c1:1≤k
   ·have:=(aDN ok h c).2 c1;omega
   ·obtain rfl:k=0:=by omega
    rw[Nat.zero_mul] at e ⊢;omega
  ·have:=aDQ (k:=k) ok h (by omega);omega
def aMW{size gen ser:Nat}{s:Tx}{k:Nat}(ok:gB size)(h:s.length≤4096)(g1:gen<18446744073709551616)(g2:ser<18446744073709551616)(hk:k<dL size s.length):
  fW size (nC size gen ser k (dL size s.length) (jJ (size-25) s k))=(⟨gen,ser,k,dL size s.length,jJ (size-25) s k⟩,0):=by
 obtain⟨a,b,c,d⟩:=aGg ok h hk;have h106:=aIf (n:=s.length) ok;refine aSK ok a g1 g2 hk (by omega) ⟨b,c⟩ ⟨?_,?_⟩
 ·have:=tL (n:=k*(size-25)+(jJ (size-25) s k).length) ok d;show dL size (k*(size-25)+(jJ (size-25) s k).length)≠0;omega
 ·exact aRj ok h (lM _)
def aUR(room:Nat)(s:Tx)(k:Nat):s.take (k*room)++jJ room s k=s.take ((k+1)*room):=by
 unfold jJ;rw[Nat.succ_mul,List.take_add]
def aUH{size gen ser:Nat}{s:Tx}(ok:gB size)(h:s.length≤4096)(g1:gen<18446744073709551616)(g2:ser<18446744073709551616)(rest:List Tx):∀(j k p:Nat),k+(j+1)=dL size s.length->(k≠0->p=dL size s.length)->
  iY size gen ser ((List.range' k (j+1)).map (λk=>nC size gen ser k (dL size s.length) (jJ (size-25) s k))++rest) k p (s.take (k*(size-25)))=(s,dL size s.length)
 | j,k,p,hj,hp=>by
  have er:=aMW (size:=size) (gen:=gen) (ser:=ser) (s:=s) (k:=k) ok h g1 g2 (by omega);have ep:(if k=0 then dL size s.length else p)=dL size s.length:=by
   split
   ·rfl
   ·rename_i c;exact hp c
  rw[List.range'_succ,iG,zLT];unfold iY;simp only[er,ep];rw[if_neg (by unfold aGd;simp),aUR];by_cases c:k+1=dL size s.length
  ·rw[if_pos c];have:=(aDN ok h c).1;rw[sK (by omega)]
  ·rw[if_neg c];obtain⟨i,rfl⟩:∃i,j=i+1:=⟨j-1,by omega⟩;exact aUH ok h g1 g2 rest i (k+1) _ (by omega) λ_=>rfl
def iN(size gen ser:Nat)(s:Tx):(fR size gen ser s).length=dL size s.length:=by simp[fR]
def aNY{size gen ser:Nat}{s:Tx}(ok:gB size)(h:s.length≤4096)(g1:gen<18446744073709551616)(g2:ser<18446744073709551616)(rest:List Tx):iY size gen ser (fR size gen ser s++rest) 0 0 []=(s,dL size s.length):=by
 have h1:=tL (n:=s.length) ok h;obtain⟨j,hj⟩:∃j,dL size s.length=j+1:=⟨dL size s.length-1,by omega⟩;have:=aUH (s:=s) ok h g1 g2 rest j 0 0 (by omega) (λc=>absurd rfl c);rw[Nat.zero_mul,zLd,←hj] at this;unfold fR;rw[List.range_eq_range'];exact this
def Old(size g:Nat)(s:Tx):Prop:=(fW size s).2=0->(fW size s).1.gen<g
def Old.mono{size g g':Nat}{s:Tx}(h:Old size g s)(hg:g≤g'):Old size g' s:=λe=>by have:=h e;omega
def aWy{size gen ser:Nat}{rest:List Tx}(h:∀x,rest.head? =some x->Old size gen x):iY size gen ser rest 0 0 []=([],0):=by
 cases rest with
 | nil=>rfl
 | cons x xs=>
  unfold iY;rw[if_pos];by_cases c:(fW size x).2=0
  ·have:=h x rfl c;exact .inr (.inl (by omega))
  ·exact .inl c
def lD(size gen:Nat):Nat->List Tx->List Tx
 | _,[]=>[]
 | ser,s::l=>fR size gen ser s++lD size gen (ser+1) l
def aKR(size gen:Nat):∀(l:List Tx) (ser:Nat) (s:Tx),lD size gen ser (l++[s])=lD size gen ser l++fR size gen (ser+l.length) s
 | [],ser,s=>by simp[lD]
 | x::l,ser,s=>by
  show fR size gen ser x++lD size gen (ser+1) (l++[s])=(fR size gen ser x++lD size gen (ser+1) l)++_;rw[aKR size gen l (ser+1) s,uS,iU,show ser+1+l.length=ser+(l.length+1) by omega]
def aG7{size gen:Nat}(ok:gB size):∀(l:List Tx) (ser:Nat),(∀s∈l,s.length≤4096)->l.length≤(lD size gen ser l).length
 | [],ser,_=>kT _
 | x::l,ser,h=>by
  have:=aG7 (gen:=gen) ok l (ser+1) λs hs=>h s (by simp[hs]);have h1:=tL (n:=x.length) ok (h x (by simp));show(l.length+1)≤(fR size gen ser x++lD size gen (ser+1) l).length;rw[jM,iN];omega
def aI4{size gen:Nat}(ok:gB size)(g1:gen<18446744073709551616){rest:List Tx}(hr:∀x,rest.head? =some x->Old size gen x):∀(l:List Tx) (f ser:Nat),(∀s∈l,s.length≤4096)->l.length<f->ser+l.length<18446744073709551616->
  jD size gen f (lD size gen ser l++rest) ser=(l,(lD size gen ser l).length)
 | [],f,ser,_,hf,_=>by
  obtain⟨f,rfl⟩:∃g,f=g+1:=⟨f-1,by simp only[kV] at hf;omega⟩;unfold jD;rw[if_pos (by show(iY size gen ser rest 0 0 []).2=0;rw[aWy hr])];rfl
 | s::l,f,ser,hl,hf,hs=>by
  simp only[iU] at hf hs;obtain⟨f,rfl⟩:∃g,f=g+1:=⟨f-1,by omega⟩;have h1:=hl s (by simp);have hp:=tL (n:=s.length) ok h1;have er:iY size gen ser (lD size gen ser (s::l)++rest) 0 0 []=(s,dL size s.length):=by
   show iY size gen ser ((fR size gen ser s++lD size gen (ser+1) l)++rest) 0 0 []=_;rw[uS];exact aNY ok h1 g1 (by omega) _
  have ed:(lD size gen ser (s::l)++rest).drop (dL size s.length)=lD size gen (ser+1) l++rest:=by
   show((fR size gen ser s++lD size gen (ser+1) l)++rest).drop _=_;rw[uS,←iN size gen ser s,List.drop_left]
  have ih:=aI4 ok g1 hr l f (ser+1) (λx hx=>hl x (by simp[hx])) (by omega) (by omega);unfold jD;rw[er];simp only;rw[if_neg (by omega),ed,ih];simp only[lD,jM,iN]
structure Log(d:Dk)(w:Wl)(l:List Tx):Prop where
 ok:d.Ok
 arm:d.arm=0
 buf:d.buf=[]
 four:4≤d.sectors
 g1:1≤w.hd.gen
 g2:w.hd.gen<18446744073709551615
 seg:w.hd.seg≤1
 slot:w.slot≤1
 head:d.at w.slot=(fO d.size w.hd).1
 other:(fI d.size (d.at (1-w.slot))).1.gen<w.hd.gen
 used:w.used=(lD d.size w.hd.gen 0 l).length
 fits:w.used≤d.segs
 ser:w.ser=l.length
 recs:d.secs (d.base w.hd.seg) w.used=lD d.size w.hd.gen 0 l
 short:∀s∈l,s.length≤4096
 rest:∀i,w.used≤i->i<d.segs->Old d.size w.hd.gen (d.at (d.base w.hd.seg+i))
 all:∀i,2≤i->i<d.sectors->Old d.size (w.hd.gen+1) (d.at i)
 broken:w.broken=false
def aQu(d:Dk)(h:4≤d.sectors){seg:Nat}(hs:seg≤1){i:Nat}(hi:i<d.segs):2≤d.base seg+i∧d.base seg+i<d.sectors:=by
 unfold Dk.base;unfold Dk.segs at hi ⊢;have:seg=0∨seg=1:=by omega
 rcases this with rfl|rfl<;>omega
def qZ(d:Dk)(h:4≤d.sectors){seg:Nat}(hs:seg≤1):d.base seg+d.segs≤d.sectors:=by
 unfold Dk.base Dk.segs;have:seg=0∨seg=1:=by omega
 rcases this with rfl|rfl<;>omega
def aMC(d:Dk)(n a b:Nat):d.secs n (a+b)=d.secs n a++d.secs (n+a) b:=by
 unfold Dk.secs;rw[List.range_eq_range',List.range_eq_range',List.range_eq_range',←List.range'_append_1,xJ,iZ];congr 1;rw[List.range'_eq_map_range,zLZ,←List.range_eq_range'];apply zL0;intro i _;show d.at (n+(a+i))=d.at (n+a+i);rw[Nat.add_assoc]
def aRr{d:Dk}{w:Wl}{l:List Tx}(H:Log d w l):jX d.size (d.at 0) (d.at 1)=(w.hd,(w.slot:Int)):=by
 have hg:=aKF H.ok.size (by have:=H.g1;omega) (by have:=H.g2;omega) H.seg;rw[←H.head] at hg;have ho:=H.other;have g1:=H.g1;have hne:w.hd≠Hd.zero:=λe=>by rw[e] at g1;exact absurd g1 (by decide)
 unfold jX;have hs:=H.slot;have:w.slot=0∨w.slot=1:=by omega
 rcases this with e|e
 ·rw[e] at hg ho ⊢;rw[hg];have:nP (Hd.zero,-1) 0 w.hd=(w.hd,0):=by
   unfold nP;rw[if_pos ⟨hne,by show 0<w.hd.gen;omega⟩]
  rw[this];unfold nP;rw[if_neg (λc=>by
   have h2:w.hd.gen<(fI d.size (d.at 1)).1.gen:=c.2;have h3:(fI d.size (d.at 1)).1.gen<w.hd.gen:=ho;omega)]
  rfl
 ·rw[e] at hg ho ⊢;rw[hg];have hlt:(nP (Hd.zero,-1) 0 (fI d.size (d.at (1-1))).1).1.gen<w.hd.gen:=by
   unfold nP;split
   ·exact ho
   ·show 0<w.hd.gen;omega
  exact if_pos ⟨hne,hlt⟩
def aKf{d:Dk}(ha:d.arm=0)(hb:d.buf=[]):d.fl=(d,0):=by
 unfold Dk.fl;rw[if_neg (by omega)];obtain⟨a,b,c,e,f⟩:=d;simp only at ha hb;subst ha hb;rfl
def aPj{d:Dk}{w:Wl}{l:List Tx}(H:Log d w l):fA d=(d,(⟨w.hd,w.slot,w.used,w.ser,false,false⟩,l),0):=by
 have ef:=aKf H.arm H.buf;have en:=aRr H;unfold fA;rw[ef];simp only;rw[if_neg (by have:=H.four;omega),if_neg (by simp),en];simp only;rw[if_neg (by omega),xK];have e1:d.secs (d.base w.hd.seg) d.segs=lD d.size w.hd.gen 0 l++d.secs (d.base w.hd.seg+w.used) (d.segs-w.used):=by
  have hf:=H.fits;rw[show d.segs=w.used+(d.segs-w.used) by omega,aMC,H.recs];rw[show w.used+(d.segs-w.used)-w.used=d.segs-w.used by omega]
 have hl:=aG7 (gen:=w.hd.gen) H.ok.size l 0 H.short;have es:=aI4 (gen:=w.hd.gen) (rest:=d.secs (d.base w.hd.seg+w.used) (d.segs-w.used)) H.ok.size (by have:=H.g2;omega) (λx hx=>by
  by_cases c:w.used<d.segs
  ·have:=H.rest w.used (lM _) c;have e2:d.secs (d.base w.hd.seg+w.used) (d.segs-w.used)=d.at (d.base w.hd.seg+w.used)::(d.secs (d.base w.hd.seg+w.used) (d.segs-w.used)).tail:=by
    obtain⟨n,hn⟩:∃n,d.segs-w.used=n+1:=⟨d.segs-w.used-1,by omega⟩;rw[hn];unfold Dk.secs;rw[List.range_succ_eq_map,iG,List.tail_cons,zLP]
   rw[e2] at hx;simp only[List.head?_cons,zL4] at hx;rw[←hx];exact this
  ·rw[show d.segs-w.used=0 by omega] at hx;simp[Dk.secs] at hx) l (d.segs+1) 0 H.short (by have:=H.used;have:=H.fits;omega) (by have:=H.used;have:=H.fits;have:=H.ok.many;unfold Dk.segs at *;omega)
 unfold oX;rw[e1,es,←H.used,←H.ser]
def aJP{t:Tx}{n:Nat}(h:n≤t.length):mL (0,t) (n:Int)=(t.take n,((0:Int),t.drop n)):=by
 unfold mL;rw[if_pos ⟨rfl,by omega,by simp only;omega⟩];simp only[xK]
def aNt{t:Tx}{n:Nat}(h:t.length<n):mL (0,t) (n:Int)=([],((6:Int),t)):=by
 unfold mL;rw[if_neg (by simp only;omega)];rfl
def pJ{t:Tx}{c:Nat}(h:c≤t.length):fK (0,t) c=(lG (t.take c),((0:Int),t.drop c)):=by
 unfold fK;rw[aJP h]
def yU(s:Tx):Nat:=lG ((s.drop 1).take 8)
def aBS(s:Tx):Nat:=lG ((s.drop 9).take 8)
def jL(s:Tx):Nat:=lG ((s.drop 17).take 1)
def iA(s:Tx):Nat:=lG ((s.drop 18).take 1)
def kG(s:Tx):Nat:=lG ((s.drop 19).take 2)
def mK(s:Tx):Tx:=(s.drop 21).take (kG s)
def pZ(s:Tx):kK:=⟨yU s,aBS s,jL s,iA s,mK s⟩
structure aYy(size:Nat)(s:Tx):Prop where
 g:frG s=(yU s,((0:Int),s.drop 9))
 n:frN s=(aBS s,((0:Int),s.drop 17))
 k:yD s=(jL s,((0:Int),s.drop 18))
 q:vQ s=(iA s,((0:Int),s.drop 19))
 l:mL (0,s) 1=(s.take 1,((0:Int),s.drop 1))
 t:yC s=if kG s≤size-25 then(mK s,((0:Int),s.drop (21+kG s))) else([],((6:Int),s.drop 21))
def aRv{size:Nat}{s:Tx}(ok:64≤size)(h:s.length=size-4):aYy size s:=by
 have l0:mL (0,s) 1=(s.take 1,((0:Int),s.drop 1)):=aJP (n:=1) (by omega);have g:frG s=(yU s,((0:Int),s.drop 9)):=by
  unfold frG;rw[l0];simp only;rw[pJ (by rw[jC];omega),qK];rfl
 have n:frN s=(aBS s,((0:Int),s.drop 17)):=by
  unfold frN;rw[g];simp only;rw[pJ (by rw[jC];omega),qK];rfl
 have k:yD s=(jL s,((0:Int),s.drop 18)):=by
  unfold yD;rw[n];simp only;rw[pJ (by rw[jC];omega),qK];rfl
 have q:vQ s=(iA s,((0:Int),s.drop 19)):=by
  unfold vQ;rw[k];simp only;rw[pJ (by rw[jC];omega),qK];rfl
 refine⟨g,n,k,q,l0,?_⟩;unfold yC vT;rw[q];simp only;rw[pJ (by rw[jC];omega),qK];simp only;show mL (0,s.drop 21) (kG s:Nat)=_;split
 ·rw[aJP (by rw[jC];omega),qK];rfl
 ·rw[aNt (by rw[jC];omega)]
def aGI(size:Nat)(f:kK):Prop:=(f.part+1<f.parts∧f.b.length≠size-25)∨(0<f.part∧f.b.length=0)
def aFY(size:Nat)(f:kK):Nat:=if f.part+1=f.parts then(f.parts-1)*(size-25)+f.b.length else(f.parts-1)*(size-25)+1
instance (n:Nat) (f:kK):Decidable (aGI n f):=by unfold aGI;infer_instance
def vV(size:Nat)(s:Tx):kK×Int:=
 if ¬gB size then(kK.zero,1) else if s.length≠size then(kK.zero,6) else if oE s=false then(kK.zero,8)
 else if size-25<kG s∨iA s≤jL s then(kK.zero,5)
 else if aGI size (pZ s) then(kK.zero,5)
 else if 4096<aFY size (pZ s)∨nC size (yU s) (aBS s) (jL s) (iA s) (mK s)≠s then(kK.zero,5)
 else(pZ s,0)
def aGB{t:Tx}{c:Nat}(h:c≤t.length):be (lG (t.take c)) c=t.take c:=by
 have:=aXF (t.take c);rw[lU,aG6 h] at this;exact this
def oH(s:Tx)(i c n:Nat)(h:i+c≤n):((s.take n).drop i).take c=(s.drop i).take c:=by
 rw[zLy,aI0,aG6 (by omega)]
def aTK{s:Tx}{n:Nat}(h:21≤n)(hl:kG s+21≤n):pZ (s.take n)=pZ s∧kG (s.take n)=kG s:=by
 have e:kG (s.take n)=kG s:=by unfold kG;rw[oH _ _ _ _ (by omega)]
 refine⟨?_,e⟩;unfold pZ mK;rw[e];unfold yU aBS jL iA;rw[oH _ _ _ _ (by omega),oH _ _ _ _ (by omega),oH _ _ _ _ (by omega),oH _ _ _ _ (by omega),oH _ _ _ _ (by omega)]
def aUL{s:Tx}{n:Nat}(h:21≤n):kG (s.take n)=kG s:=by unfold kG;rw[oH _ _ _ _ (by omega)]
def aVc{size:Nat}{s:Tx}(ok:gB size)(h:s.length=size-4)(hl:kG s≤size-25):mX size (yU s) (aBS s) (jL s) (iA s) (mK s)=s↔(s.take 1=[82]∧∀x∈s.drop (21+kG s),x=0):=by
 have h64:=ok.1;have tl:(mK s).length=kG s:=by unfold mK;rw[lU,jC];omega
 have b1:be (yU s) 8=(s.drop 1).take 8:=aGB (by rw[jC];omega);have b2:be (aBS s) 8=(s.drop 9).take 8:=aGB (by rw[jC];omega);have b3:be (jL s) 1=(s.drop 17).take 1:=aGB (by rw[jC];omega);have b4:be (iA s) 1=(s.drop 18).take 1:=aGB (by rw[jC];omega);have b5:be (mK s).length 2=(s.drop 19).take 2:=by rw[tl];exact aGB (by rw[jC];omega)
 have sp:∀i c,s.drop i=(s.drop i).take c++s.drop (i+c):=λi c=>by rw[←qK,zL6]
 have es:s=s.take 1++((s.drop 1).take 8++((s.drop 9).take 8++((s.drop 17).take 1++((s.drop 18).take 1++(((s.drop 19).take 2++mK s)++s.drop (21+kG s)))))):=by
  conv=>lhs;rw[←zL6 1 s,sp 1 8,sp 9 8,sp 17 1,sp 18 1,sp 19 2,sp 21 (kG s)]
  simp only[uS];rfl
 unfold mX;rw[b1,b2,b3,b4,b5];have hz:(s.drop (21+kG s)).length=size-25-(mK s).length:=by rw[jC,tl];omega
 constructor
 ·intro e
  conv at e=>rhs;rw[es]
  obtain⟨c1,e⟩:=List.append_inj e (by rw[lU];simp;omega);have e:=List.append_cancel_left e;have e:=List.append_cancel_left e;have e:=List.append_cancel_left e;have e:=List.append_cancel_left e;have e:=List.append_cancel_left e;refine⟨c1.symm,λx hx=>?_⟩;rw[←e] at hx;exact List.eq_of_mem_replicate hx
 ·rintro⟨c1,c2⟩;have e:kJ (size-25-(mK s).length)=s.drop (21+kG s):=by
   unfold kJ;rw[←hz];exact(List.eq_replicate_iff.2 ⟨rfl,c2⟩).symm
  conv=>rhs;rw[es]
  rw[c1,e]
def aPF{s b:Tx}{size:Nat}(h4:4≤size)(hs:oE s=true)(hl:s.length=size)(hb:b.length=size-4):mQ b=s↔b=s.take (size-4):=by
 unfold oE at hs;rw[decide_eq_true_eq,hl] at hs;constructor
 ·intro e;rw[←e];exact(aMm (by omega)).symm
 ·intro e;subst e;unfold mQ;rw[hs.2,zL6]
def aUE{size:Nat}{f:kK}(ok:gB size)(h1:f.part<f.parts)(h2:¬aGI size f)(hl:f.b.length≤size-25):aIu size f↔aFY size f≤4096:=by
 have h64:=ok.1;unfold aGI at h2;unfold aIu aFY;have key:∀n,dL size n≠0↔n≤4096:=λn=>by
  constructor
  ·intro h;unfold dL at h;split at h
   ·rename_i c;exact c.2
   ·exact absurd rfl h
  ·intro h;have:=tL (n:=n) ok h;omega
 rw[key]
 -- how many parts there may be at most
 have pk:∀p,2≤p->(p≤dL size 4096↔(p-1)*(size-25)<4096):=λp hp=>by
  obtain⟨k,rfl⟩:∃k,p=k+1:=⟨p-1,by omega⟩;rw[Nat.add_sub_cancel];constructor
  ·intro h;by_cases c:k+1=dL size 4096
   ·exact(aDN ok (lM _) c).2 (by omega)
   ·have:=aDQ (k:=k) ok (lM 4096) (by omega);have hm:(k+1)*(size-25)=k*(size-25)+(size-25):=Nat.succ_mul _ _;omega
  ·intro h;by_cases c:k+1≤dL size 4096
   ·exact c
   ·exfalso;have hp1:=tL (n:=4096) ok (lM _);obtain⟨m,hm⟩:∃m,dL size 4096=m+1:=⟨dL size 4096-1,by omega⟩;have h3:=(aDN ok (lM 4096) hm.symm).1;have h4:(m+1)*(size-25)≤k*(size-25):=zLO _ (by omega);omega
 by_cases c:f.part+1=f.parts
 ·rw[if_pos c,show f.part=f.parts-1 by omega];constructor
  ·exact λh=>h.1
  ·intro h;refine⟨h,?_⟩;by_cases c2:2≤f.parts
   ·rw[pk _ c2];omega
   ·have:=tL (n:=4096) ok (lM _);omega
 ·rw[if_neg c];have hb:f.b.length=size-25:=Classical.byContradiction λhx=>h2 (.inl ⟨by omega,hx⟩);rw[hb];have hm:(f.part+1)*(size-25)=f.part*(size-25)+(size-25):=Nat.succ_mul _ _;have hle:(f.part+1)*(size-25)≤(f.parts-1)*(size-25):=zLO _ (by omega);rw[pk _ (by omega)];constructor
  ·intro h;omega
  ·intro h;omega
def aMc(size:Nat)(s:Tx):vV size s=fW size s:=by
 unfold vV fW;split
 ·rfl
 ·rename_i ok;have ok:gB size:=Classical.not_not.1 ok;have h64:=ok.1;split
  ·rfl
  ·rename_i hl;have hl:s.length=size:=Classical.not_not.1 hl;split
   ·rfl
   ·rename_i hs;have hs:oE s=true:=by simpa using hs
    obtain⟨s',hs'⟩:∃s',s.take (size-4)=s':=⟨_,rfl⟩;have hl':s'.length=size-4:=by rw[←hs',lU];omega
    have F:=aRv (size:=size) h64 hl';have eL:kG s'=kG s:=by rw[←hs'];exact aUL (by omega)
    rw[hs'];by_cases cl:kG s≤size-25
    ·have eF:pZ s'=pZ s:=by rw[←hs'];exact(aTK (by omega) (by omega)).1
     have eG:yU s'=yU s:=congrArg kK.gen eF;have eS:aBS s'=aBS s:=congrArg kK.ser eF;have eP:jL s'=jL s:=congrArg kK.part eF;have eQ:iA s'=iA s:=congrArg kK.parts eF;have eT:mK s'=mK s:=congrArg kK.b eF;have ft:=F.t;rw[if_pos (by omega)] at ft;have fz:frZ s'=(s'.drop (21+kG s'),((0:Int),[])):=by
      unfold frZ;rw[ft];show mL (0,s'.drop (21+kG s')) (aJp (0,s'.drop (21+kG s')):Nat)=_;have:aJp (0,s'.drop (21+kG s'))=(s'.drop (21+kG s')).length:=rfl;rw[this,aJP (lM _),sK (lM _),yQ (lM _)]
     have eOf:aBI s'=pZ s:=by
      unfold aBI;rw[F.g,F.n,F.k,F.q,ft,←eF];rfl
     have tl:(pZ s).b.length=kG s:=by
      rw[←eF];show(mK s').length=kG s;unfold mK;rw[lU,jC];omega
     have o1:aIk s'↔(jL s<iA s∧mX size (yU s) (aBS s) (jL s) (iA s) (mK s)=s'):=by
      unfold aIk;rw[fz,F.k,F.q,F.l,eP,eQ];have:=aVc ok hl' (by omega);rw[eG,eS,eP,eQ,eT] at this;rw[this];constructor
      ·rintro⟨-,a,b,c⟩;exact⟨c,a,b⟩
      ·rintro⟨c,a,b⟩;exact⟨rfl,a,b,c⟩
     have hb:(mX size (yU s) (aBS s) (jL s) (iA s) (mK s)).length=size-4:=aGe (by
      have:(mK s).length=kG s:=tl;omega)
     have o0:=aPF (by omega) hs hl hb;rw[hs'] at o0;rw[eOf];by_cases cp:jL s<iA s
     ·rw[if_neg (by omega)];have o2:aHn size (pZ s)↔¬aGI size (pZ s):=by
       unfold aHn aGI;show(jL s+1≠iA s->_)∧(jL s+1=iA s->1<iA s->_)↔¬((jL s+1<iA s∧_)∨(0<jL s∧_));rw[List.ne_nil_iff_length_pos];omega
      by_cases cb:aGI size (pZ s)
      ·rw[if_pos cb,if_neg (λc=>(o2.1 c.2.1) cb)]
      ·rw[if_neg cb];have o3:=aUE (f:=pZ s) ok cp cb (by omega);by_cases cf:aFY size (pZ s)≤4096∧nC size (yU s) (aBS s) (jL s) (iA s) (mK s)=s
       ·rw[if_neg (by rintro(c|c);omega;exact c cf.2),if_pos ⟨o1.2 ⟨cp,o0.1 cf.2⟩,o2.2 cb,o3.2 cf.1⟩]
       ·rw[if_pos (Classical.byContradiction λc=>cf ⟨by omega,Classical.byContradiction λx=>c (.inr x)⟩),if_neg (λc=>cf ⟨o3.1 c.2.2,o0.2 (o1.1 c.1).2⟩)]
     ·rw[if_pos (.inr (by omega)),if_neg (λc=>cp (o1.1 c.1).1)]
    ·rw[if_pos (.inl (by omega)),if_neg (λc=>?_)];have ft:=F.t;rw[if_neg (by omega)] at ft;have:(frZ s').2.1=0:=c.1.1;unfold frZ at this;rw[ft] at this;have:=aGQ (aJp (6,s'.drop 21):Nat) 6 (s'.drop 21) (by decide);simp only at this;rename_i h0;rw[this] at h0;cases h0
def aBx{size:Nat}:∀{st:List Tx} (_:∀s∈st,s.length=size),st.flatten.length=st.length*size
 | [],_=>by simp
 | x::st,h=>by
  rw[aEU,jM,aBx λs hs=>h s (by simp[hs]),h x (by simp),iU,Nat.succ_mul];omega
def aG2{size:Nat}:∀{st:List Tx} (_:∀s∈st,s.length=size) (n:Nat),st.flatten.drop (n*size)=(st.drop n).flatten
 | st,_,0=>by simp
 | [],_,n+1=>by simp
 | x::st,h,n+1=>by
  have hx:=h x (by simp);rw[aEU,Nat.succ_mul,Nat.add_comm,←qK,←hx,List.drop_left,hx,aG2 (λs hs=>h s (by simp[hs])) n,zLa]
def aOU{size:Nat}:∀{st:List Tx} (_:∀s∈st,s.length=size) (n:Nat),st.flatten.take (n*size)=(st.take n).flatten
 | st,_,0=>by simp
 | [],_,n+1=>by simp
 | x::st,h,n+1=>by
  have hx:=h x (by simp);rw[aEU,zLc,aEU,List.take_append,sK (by rw[hx,Nat.succ_mul];omega),hx,Nat.succ_mul,Nat.add_sub_cancel,aOU (λs hs=>h s (by simp[hs])) n]
def aRB{size:Nat}{st:List Tx}(h:∀s∈st,s.length=size){n:Nat}(hn:n<st.length):(st.flatten.drop (n*size)).take size=st.getD n []:=by
 have e:st.drop n=st[n]::st.drop (n+1):=aAs hn;rw[aG2 h,e,aEU,sQ,kF hn];have:=h _ (aHO hn);rw[←this,List.take_left];rfl
def aVh{size:Nat}{st:List Tx}(h:∀s∈st,s.length=size){n:Nat}(hn:n<st.length){s:Tx}(hs:s.length≤size):st.flatten.take (n*size)++s++st.flatten.drop (n*size+s.length)=(st.set n (s++(st.getD n []).drop s.length)).flatten:=by
 have e:st.drop n=st[n]::st.drop (n+1):=aAs hn;have hl:=h _ (aHO hn);rw[aOU h,←qK,aG2 h,e,aEU,List.drop_append_of_le_length (by omega),List.set_eq_take_append_cons_drop,if_pos hn,zLG,aEU,sQ,kF hn];simp only[Option.getD_some,uS]
def aEo:∀(buf:List (Nat×Tx)) (st:List Tx) (n:Nat),(∀w∈buf,w.1≠n)->(kH st buf).getD n []=st.getD n []
 | [],st,n,_=>rfl
 | w::buf,st,n,h=>by
  show(kH (st.set w.1 w.2) buf).getD n []=_;rw[aEo buf _ n λx hx=>h x (by simp[hx]),sQ,sQ,List.getElem?_set_ne (h w (by simp))]
def aSj(st:List Tx)(a b:List (Nat×Tx)):kH st (a++b)=kH (kH st a) b:=List.foldl_append
def aQd{st:List Tx}{buf:List (Nat×Tx)}{i n:Nat}{w:Nat×Tx}(hw:buf[i]? =some w)(hn:w.1=n)(hl:n<st.length)(h:∀x∈buf.drop (i+1),x.1≠n):(kH st buf).getD n []=w.2:=by
 have hi:=(zLA.1 hw).1;have e:buf=buf.take i++[w]++buf.drop (i+1):=by
  have e1:buf.take i++[w]=buf.take (i+1):=by rw[zLR,hw];rfl
  rw[e1,zL6]
 rw[e,aSj,aEo _ _ _ h,aI2,aGC (by rw[aAE,hn];exact hl),if_pos hn.symm]
def uG(size:Nat):List ((Nat×Tx)×(Bool×Int))->Bool->List Tx->List Tx
 | [],_,st=>st
 | x::r,torn,st=>
  if x.2.1=false then uG size r torn st
  else if 0<x.2.2∧x.2.2<size∧torn=false then uG size r true (st.set x.1.1 (x.1.2.take x.2.2.toNat++(st.getD x.1.1 []).drop x.2.2.toNat))
  else uG size r torn (st.set x.1.1 x.1.2)
def Dk.crash(d:Dk)(l:List (Bool×Int)):Dk:=⟨d.size,d.sectors,uG d.size (d.buf.zip l) false d.st,[],0⟩
def aJx{size:Nat}:∀(l:List ((Nat×Tx)×(Bool×Int))) (t:Bool) (st:List Tx),(uG size l t st).length=st.length
 | [],_,_=>rfl
 | x::r,t,st=>by
  unfold uG;split
  ·exact aJx r t st
  ·split
   ·rw[aJx r true,List.length_set]
   ·rw[aJx r t,List.length_set]
def aIg{size:Nat}:∀(l:List ((Nat×Tx)×(Bool×Int))) (t:Bool) (st:List Tx),(∀s∈st,s.length=size)->(∀x∈l,x.1.1<st.length∧x.1.2.length=size)->∀s∈uG size l t st,s.length=size
 | [],_,_,h,_=>h
 | x::r,t,st,h,hl=>by
  obtain⟨h1,h2⟩:=hl x (by simp);have hr:=λy hy=>hl y (aHC _ hy);have h3:(st.getD x.1.1 []).length=size:=by
   rw[sQ,kF h1];exact h _ (aHO h1)
  unfold uG;split
  ·exact aIg r t st h hr
  ·split
   ·rename_i c;refine aIg r true _ (λs hs=>?_) (by rw[List.length_set];exact hr);rcases List.mem_or_eq_of_mem_set hs with e|e
    ·exact h s e
    ·rw[e,jM,lU,jC,h2,h3];omega
   ·refine aIg r t _ (λs hs=>?_) (by rw[List.length_set];exact hr);rcases List.mem_or_eq_of_mem_set hs with e|e
    ·exact h s e
    ·rw[e];exact h2
def Dk.Ok.crash{d:Dk}(H:d.Ok)(l:List (Bool×Int)):(d.crash l).Ok:=⟨by show(uG _ _ _ _).length=_;rw[aJx];exact H.len,H.size,H.one,H.many,aIg _ _ _ H.each λx hx=>by
 have:=H.buf x.1 (List.of_mem_zip hx).1;exact⟨by rw[H.len];exact this.1,this.2⟩,by simp[Dk.crash]⟩
structure yB(d:Dk)(w:Wl):Prop where
 ok:d.Ok
 four:4≤d.sectors
 seg:w.hd.seg≤1
 slot:w.slot≤1
 used:w.used≤d.segs
def aYp(d:Dk):d.fl.2=0∨d.fl.2=13:=by
 unfold Dk.fl;split
 ·exact .inr rfl
 ·exact .inl rfl
def aYY{d:Dk}{n:Nat}{s:Tx}(hn:n<d.sectors)(hs:s.length=d.size):(d.wr (n:Int) s).2=0∨(d.wr (n:Int) s).2=13:=by
 unfold Dk.wr;rw[if_neg (by omega)];split
 ·exact .inr rfl
 ·exact .inl rfl
def aLH:∀(l:List Tx) {d:Dk} (n:Nat) (_:n+l.length≤d.sectors) (_:∀s∈l,s.length=d.size),(iE d n l).2=0∨(iE d n l).2=13
 | [],d,n,_,_=>aYp d
 | s::l,d,n,hn,hl=>by
  simp only[iU] at hn;have h1:=aYY (d:=d) (n:=n) (s:=s) (by omega) (hl s (by simp));have hg:=d.wr_geo (n:Int) s;unfold iE;by_cases c:(d.wr (n:Int) s).2=0
  ·rw[if_neg (by simp[c])];exact aLH l (n+1) (by rw[hg.2];omega) (by rw[hg.1];exact λx hx=>hl x (by simp[hx]))
  ·rw[if_pos c];rcases h1 with h1|h1
   ·exact absurd h1 c
   ·exact .inr h1
def qX{size n:Nat}(ok:gB size):dL size n=0↔4096<n:=by
 constructor
 ·intro h;by_cases c:n≤4096
  ·have:=tL (n:=n) ok c;omega
  ·omega
 ·intro h;unfold dL;rw[if_neg (by omega)]
def aEz{size gen ser:Nat}{s:Tx}(ok:gB size)(h:s.length≤4096):∀x∈fR size gen ser s,x.length=size:=by
 intro x hx;unfold fR at hx;obtain⟨k,hk,rfl⟩:=pQ.1 hx;exact aJ7 (aGg ok h (aFM.1 hk)).1
def yB.ap{d:Dk}{w:Wl}(H:yB d w){s:Tx}(hf:fits d w s.length=true):(rG d w s).2=0∨(rG d w s).2=13:=by
 unfold fits at hf;rw[decide_eq_true_eq] at hf;have hs:s.length≤4096:=by
  have:=(qX (n:=s.length) H.ok.size).2;omega
 have:=qZ d H.four H.seg;exact aLH _ _ (by rw[iN];omega) (aEz H.ok.size hs)
def yB.ck{d:Dk}{seg gen:Nat}(ok:d.Ok)(four:4≤d.sectors)(hseg:seg≤1){s:Tx}(h0:dL d.size s.length≠0)(hp:dL d.size s.length≤d.segs):(lL d ⟨gen,seg⟩ s).2=0∨(lL d ⟨gen,seg⟩ s).2=13:=by
 have hs:s.length≤4096:=by
  have:=(qX (n:=s.length) ok.size).2;omega
 have:=qZ d four hseg;exact aLH _ _ (by rw[iN];show d.base seg+_≤_;omega) (aEz ok.size hs)
def aJu(h:Hd):(gT h).1.seg≤1:=by
 unfold gT;split
 ·exact kT _
 ·show(if h.seg=0 then 1 else 0)≤1;split<;>omega
def aSo{size:Nat}{h:Hd}(ok:gB size)(h0:(fO size h).2=0):(fO size h).1.length=size:=by
 unfold fO at h0 ⊢;split at h0
 ·cases h0
 ·rename_i c;rw[if_neg c];show(mQ (nM size h)).length=size;rw[aEe];unfold nM;simp only[jM,hY,xD,iU,kV];have:=ok.1;omega
def aOH{size:Nat}{h:Hd}(ok:gB size)(h0:(gT h).2=0):(fO size (gT h).1).2=0∧(fO size (gT h).1).1.length=size:=by
 have e:(fO size (gT h).1).2=0:=by
  have hs:=aJu h;have hg:(gT h).1.gen≠0:=by
   unfold gT at h0 ⊢;split at h0
   ·cases h0
   ·rename_i c;rw[if_neg c];show h.gen+1≠0;omega
  unfold fO;rw[if_neg (by rintro(a|a|a);exact a ok;exact hg a;omega)]
 exact⟨e,aSo ok e⟩
def aNL{size gen ser:Nat}:∀(xs:List Tx) (k p:Nat) (t:Tx),(iY size gen ser xs k p t).2≤k+xs.length
 | [],_,_,_=>kT _
 | x::xs,k,p,t=>by
  unfold iY;have ih:=λq=>aNL (size:=size) (gen:=gen) (ser:=ser) xs (k+1) q (t++(fW size x).1.b);generalize (if k=0 then(fW size x).1.parts else p)=q at *;split
  ·exact kT _
  ·split
   ·rename_i h;simp only[iU];omega
   ·have:=ih q;simp only[iU];omega
def aJR{size gen:Nat}:∀(f:Nat) (xs:List Tx) (ser:Nat),(jD size gen f xs ser).2≤xs.length
 | 0,_,_=>kT _
 | f+1,xs,ser=>by
  unfold jD;split
  ·exact kT _
  ·have h1:=aNL (size:=size) (gen:=gen) (ser:=ser) xs 0 0 [];have h2:=aJR (size:=size) (gen:=gen) f (xs.drop (iY size gen ser xs 0 0 []).2) (ser+1);rw[jC] at h2;simp only;omega
def aGo{size gen:Nat}:∀(f:Nat) (xs:List Tx) (ser:Nat),(jD size gen f xs ser).1.length≤(jD size gen f xs ser).2
 | 0,_,_=>kT _
 | f+1,xs,ser=>by
  unfold jD;split
  ·exact kT _
  ·have h2:=aGo (size:=size) (gen:=gen) f (xs.drop (iY size gen ser xs 0 0 []).2) (ser+1);simp only[iU];omega
def aRY{size:Nat}{s:Tx}:(fI size s).1.seg≤1:=by
 unfold fI;split
 ·exact kT _
 ·split
  ·exact kT _
  ·split
   ·exact kT _
   ·split
    ·rename_i d;have h2:=d.1;unfold fO at h2;split at h2
     ·cases h2
     ·rename_i e;show(vF s).seg≤1;omega
    ·exact kT _
def aPD{b:Hd×Int}{k:Int}{h:Hd}(hb:b.1.seg≤1)(hh:h.seg≤1):(nP b k h).1.seg≤1∧((nP b k h).2=k∨(nP b k h).2=b.2):=by
 unfold nP;split
 ·exact⟨hh,.inl rfl⟩
 ·exact⟨hb,.inr rfl⟩
def aGc(size:Nat)(x y:Tx):(jX size x y).1.seg≤1∧((jX size x y).2= -1∨(jX size x y).2=0∨(jX size x y).2=1):=by
 have h1:=aPD (b:=(Hd.zero,-1)) (k:=0) (h:=(fI size x).1) (kT _) aRY;have h2:=aPD (k:=1) (h:=(fI size y).1) h1.1 aRY;unfold jX;refine⟨h2.1,?_⟩;rcases h2.2 with e|e
 ·exact .inr (.inr e)
 ·rcases h1.2 with e'|e'
  ·exact .inr (.inl (e.trans e'))
  ·exact .inl (e.trans e')
def yB.mk'{d:Dk}(ok:d.Ok)(four:4≤d.sectors){hd:Hd}(hs:hd.seg≤1){slot:Nat}(h1:slot≤1):yB d (oX d hd slot).1:=
 ⟨ok,four,hs,h1,by
  have:=aJR (size:=d.size) (gen:=hd.gen) (d.segs+1) (d.secs (d.base hd.seg) d.segs) 0;rw[Dk.secs_len] at this;exact this⟩
def aM0{d:Dk}(H:d.Ok):(fA d).1.Ok∧(fA d).1.size=d.size∧(fA d).1.sectors=d.sectors∧((fA d).2.2=0->yB (fA d).1 (fA d).2.1.1):=by
 unfold fA;split
 ·exact⟨H,rfl,rfl,λh=>by cases h⟩
 ·rename_i h4;split
  ·rename_i h0;exact⟨H.fl,d.fl_geo.1,d.fl_geo.2,λh=>absurd h h0⟩
  ·split
   ·obtain⟨a,b,c,-⟩:=pW [(fO d.size ⟨1,0⟩).1] H.fl 1;split
    ·rename_i h0;exact⟨a,b.trans d.fl_geo.1,c.trans d.fl_geo.2,λh=>absurd h h0⟩
    ·refine⟨a,b.trans d.fl_geo.1,c.trans d.fl_geo.2,λ_=>yB.mk' a (by rw[c,d.fl_geo.2];omega) (kT _) (lM _)⟩
   ·rename_i hn;have hk:=aGc d.size (d.fl.1.at 0) (d.fl.1.at 1);exact⟨H.fl,d.fl_geo.1,d.fl_geo.2,λ_=>yB.mk' H.fl (by rw[d.fl_geo.2];omega) hk.1 (by omega)⟩
def aK3{d d':Dk}{n:Nat}{l:List Tx}(L:aNA d d' n l):d'.secs n l.length=l:=by
 unfold Dk.secs;apply aMH;intro i;rw[wG];by_cases c:i<l.length
 ·rw[List.getElem?_range c,aKh,L.here,if_pos (by omega),aCb,sQ,kF c];rfl
 ·rw[List.getElem?_eq_none (by simp;omega),List.getElem?_eq_none (by omega)];rfl
def aMb{d d':Dk}{n:Nat}{l:List Tx}(L:aNA d d' n l){m k:Nat}(h:m+k≤n∨n+l.length≤m):d'.secs m k=d.secs m k:=by
 unfold Dk.secs;apply zL0;intro i hi;have:=aFM.1 hi;rw[L.here,if_neg (by omega)]
def aEy{size:Nat}{h:Hd}(ok:gB size)(g:h.gen≠0)(g2:h.seg≤1):(fO size h).1.length=size∧(fO size h).2=0:=by
 have e:fO size h=(mQ (nM size h),0):=by unfold fO;rw[if_neg (by rintro(c|c|c);exact c ok;exact g c;omega)]
 rw[e];refine⟨?_,rfl⟩;show(mQ (nM size h)).length=size;rw[aEe];unfold nM;simp only[jM,hY,xD,iU,kV];have:=ok.1;omega
def aRp{size gen ser:Nat}{s:Tx}{k:Nat}(hk:k<dL size s.length):(fR size gen ser s).getD k []=nC size gen ser k (dL size s.length) (jJ (size-25) s k):=by
 unfold fR;rw[sQ,wG,List.getElem?_range hk];rfl
def aNP{size gen ser:Nat}{s:Tx}{k:Nat}(ok:gB size)(h:s.length≤4096)(g1:gen<18446744073709551616)(g2:ser<18446744073709551616)(hk:k<dL size s.length):Old size (gen+1) ((fR size gen ser s).getD k []):=by
 rw[aRp hk];intro _;rw[aMW ok h g1 g2 hk];show gen<gen+1;omega
def aLk{size gen ser:Nat}{s:Tx}(ok:gB size)(h:s.length≤4096):∀x∈fR size gen ser s,x.length=size:=by
 intro x hx;unfold fR at hx;obtain⟨k,hk,rfl⟩:=pQ.1 hx;exact aJ7 (aGg ok h (aFM.1 hk)).1
def aN1{h:Hd}(g:h.gen<18446744073709551615):gT h=(⟨h.gen+1,if h.seg=0 then 1 else 0⟩,0):=by unfold gT;rw[if_neg (by omega)]
def aOa{d:Dk}{w:Wl}{l:List Tx}(H:Log d w l){s:Tx}(hs:s.length≤4096)(hp:dL d.size s.length≤d.segs)(hg:w.hd.gen<18446744073709551614):
  ∃d' w',fP d w s=(d',w',0)∧Log d' w' [s]∧w'.ready=true∧w'.hd.gen=w.hd.gen+1∧d'.size=d.size∧d'.sectors=d.sectors:=by
 have ok:=H.ok.size;have h1:=tL (n:=s.length) ok hs;have en:=aN1 (h:=w.hd) (by omega);have hseg:(if w.hd.seg=0 then 1 else 0)≤1:=by split<;>omega
 generalize hsg:(if w.hd.seg=0 then 1 else 0)=sg at *;have hl4:=H.four;have hbf:=qZ d hl4 hseg;have hsl:=H.slot;have hb2:2≤d.base sg:=by unfold Dk.base;omega
 obtain⟨A0,A⟩:=aBd (fR d.size (w.hd.gen+1) 0 s) H.ok H.arm (d.base sg) (by rw[iN];omega) (aLk ok hs);obtain⟨hl1,hl2⟩:=aEy (size:=d.size) (h:=⟨w.hd.gen+1,sg⟩) ok (by simp) hseg;obtain⟨B0,B⟩:=aBd [(fO d.size ⟨w.hd.gen+1,sg⟩).1] A.ok A.arm (1-w.slot) (by rw[A.sectors];simp only[iU,kV];omega) (by simp[hl1,A.size]);have ew:fP d w s=((iE (iE d (d.base sg) (fR d.size (w.hd.gen+1) 0 s)).1 (1-w.slot) [(fO d.size ⟨w.hd.gen+1,sg⟩).1]).1,⟨⟨w.hd.gen+1,sg⟩,1-w.slot,dL d.size s.length,1,true,false⟩,0):=by
  unfold fP lL;rw[if_neg (by rw[H.broken];simp),if_neg (by omega),if_neg (by omega),en];simp only;rw[if_neg (by simp),if_neg (by rw[A0];simp),if_neg (by rw[B0];simp)]
 generalize (iE d (d.base sg) (fR d.size (w.hd.gen+1) 0 s)).1=d1 at *;generalize (iE d1 (1-w.slot) [(fO d.size ⟨w.hd.gen+1,sg⟩).1]).1=d2 at *;have esz:d2.size=d.size:=B.size.trans A.size;have esc:d2.sectors=d.sectors:=B.sectors.trans A.sectors;have esg:d2.segs=d.segs:=by unfold Dk.segs;rw[esc]
 have eba:∀n,d2.base n=d.base n:=λn=>by unfold Dk.base;rw[esg]
 have hat:∀i,2≤i->d2.at i=d1.at i:=λi hi=>by rw[B.here,if_neg (by simp only[iU,kV];omega)]
 refine⟨d2,_,ew,⟨B.ok,B.arm,B.buf,by omega,by show 1≤w.hd.gen+1;omega,by show w.hd.gen+1<_;omega,hseg,by show 1-w.slot≤1;omega,?_,?_,?_,?_,rfl,?_,?_,?_,?_,rfl⟩,rfl,rfl,esz,esc⟩
 ·show d2.at (1-w.slot)=_;rw[B.here,if_pos (by simp only[iU,kV];omega),aJE,esz];rfl
 ·show(fI d2.size (d2.at (1-(1-w.slot)))).1.gen<w.hd.gen+1;rw[show 1-(1-w.slot)=w.slot by omega,B.here,if_neg (by simp only[iU,kV];omega),A.here,if_neg (by omega),H.head,esz,aKF ok (by have:=H.g1;omega) (by omega) H.seg];show w.hd.gen<w.hd.gen+1;omega
 ·show dL d.size s.length=(fR d2.size (w.hd.gen+1) 0 s++[]).length;rw[zLQ,iN,esz]
 ·show dL d.size s.length≤d2.segs;rw[esg];exact hp
 ·show d2.secs (d2.base sg) (dL d.size s.length)=fR d2.size (w.hd.gen+1) 0 s++[];rw[zLQ,eba,esz];have e1:d2.secs (d.base sg) (dL d.size s.length)=d1.secs (d.base sg) (dL d.size s.length):=aMb B (.inr (by simp only[iU,kV];omega));have e2:=aK3 A;rw[iN] at e2;rw[e1,e2]
 ·intro x hx;simp only[iC] at hx;rw[hx];exact hs
 ·intro i hi1 hi2;have hi1:dL d.size s.length≤i:=hi1;rw[esg] at hi2;show Old d2.size (w.hd.gen+1) (d2.at (d2.base sg+i));rw[eba,esz,hat _ (by omega),A.here,if_neg (by rw[iN];omega)];exact H.all _ (by omega) (by omega)
 ·intro i hi1 hi2;show Old d2.size (w.hd.gen+1+1) (d2.at i);rw[esz,hat _ hi1,A.here];split
  ·rename_i c;rw[iN] at c;exact aNP ok hs (by omega) (by omega) (by omega)
  ·exact(H.all i hi1 (by omega)).mono (by omega)
def aNB{d:Dk}{w:Wl}{l:List Tx}(H:Log d w l)(hr:w.ready=true){s:Tx}(hs:s.length≤4096)(hf:fits d w s.length=true):
  ∃d' w',hM d w s=(d',w',0)∧Log d' w' (l++[s])∧w'.ready=true∧w'.hd.gen=w.hd.gen∧d'.size=d.size∧d'.sectors=d.sectors:=by
 have ok:=H.ok.size;have hf':=hf;unfold fits at hf;rw[decide_eq_true_eq] at hf;obtain⟨hf1,hf2⟩:=hf;have hl4:=H.four;have hbf:=qZ d hl4 H.seg;have hb2:2≤d.base w.hd.seg:=by unfold Dk.base;omega
 have hsl:=H.slot;have hg2:=H.g2;have hser:w.ser<18446744073709551616:=by
  have h1:=aG7 (gen:=w.hd.gen) ok l 0 H.short;have h2:=H.used;have h3:=H.ok.many;have h4:=H.ser;unfold Dk.segs at hf2;omega
 obtain⟨A0,A⟩:=aBd (fR d.size w.hd.gen w.ser s) H.ok H.arm (d.base w.hd.seg+w.used) (by rw[iN];omega) (aLk ok hs);have ew:hM d w s=((iE d (d.base w.hd.seg+w.used) (fR d.size w.hd.gen w.ser s)).1,⟨w.hd,w.slot,w.used+dL d.size s.length,w.ser+1,w.ready,false⟩,0):=by
  unfold hM rG;rw[if_neg (by rw[H.broken];simp),if_neg (by rw[hr];simp),if_neg hf1,if_neg (by rw[hf'];simp),if_neg (by rw[A0];simp)]
 generalize (iE d (d.base w.hd.seg+w.used) (fR d.size w.hd.gen w.ser s)).1=d1 at *;have esg:d1.segs=d.segs:=by unfold Dk.segs;rw[A.sectors]
 have eba:∀n,d1.base n=d.base n:=λn=>by unfold Dk.base;rw[esg]
 have efa:lD d1.size w.hd.gen 0 (l++[s])=lD d.size w.hd.gen 0 l++fR d.size w.hd.gen w.ser s:=by rw[aKR,iZ,←H.ser,A.size]
 refine⟨d1,_,ew,⟨A.ok,A.arm,A.buf,by rw[A.sectors];exact hl4,H.g1,H.g2,H.seg,H.slot,?_,?_,?_,?_,?_,?_,?_,?_,?_,rfl⟩,hr,rfl,A.size,A.sectors⟩
 ·show d1.at w.slot=_;rw[A.here,if_neg (by omega),H.head,A.size]
 ·show(fI d1.size (d1.at (1-w.slot))).1.gen<w.hd.gen;rw[A.here,if_neg (by omega),A.size];exact H.other
 ·show w.used+dL d.size s.length=(lD d1.size w.hd.gen 0 (l++[s])).length;rw[efa,jM,iN,←H.used]
 ·show w.used+dL d.size s.length≤d1.segs;rw[esg];omega
 ·show w.ser+1=(l++[s]).length;rw[jM,←H.ser];rfl
 ·show d1.secs (d1.base w.hd.seg) (w.used+dL d.size s.length)=lD d1.size w.hd.gen 0 (l++[s]);have e2:=aK3 A;rw[iN] at e2;rw[efa,eba,aMC,e2,aMb A (.inl (lM _)),H.recs]
 ·intro x hx;rcases tK.1 hx with hx|hx
  ·exact H.short x hx
  ·simp only[iC] at hx;rw[hx];exact hs
 ·intro i hi1 hi2;have hi1:w.used+dL d.size s.length≤i:=hi1;rw[esg] at hi2;show Old d1.size w.hd.gen (d1.at (d1.base w.hd.seg+i));rw[eba,A.size,A.here,if_neg (by rw[iN];omega)];exact H.rest i (by omega) hi2
 ·intro i hi1 hi2;rw[A.sectors] at hi2;show Old d1.size (w.hd.gen+1) (d1.at i);rw[A.size,A.here];split
  ·rename_i c;rw[iN] at c;exact aNP ok hs (by omega) hser (by omega)
  ·exact H.all i hi1 hi2
structure aM8(d:Dk):Prop where
 ok:d.Ok
 arm:d.arm=0
 buf:d.buf=[]
 z:∀i,i<d.sectors->d.at i=kJ d.size
def aLR{n:Nat}(h:64≤n):(kJ n).head? =some 0:=by
 obtain⟨m,rfl⟩:∃m,n=m+1:=⟨n-1,by omega⟩;rfl
def aVP{n g:Nat}(h:64≤n):Old n g (kJ n):=λe=>by
 have:=(aL8 e).1;rw[aLR h] at this;cases this
def aJ1{n:Nat}(h:64≤n):(fI n (kJ n)).1=Hd.zero:=aMA λe=>by
 have:=aRu e;rw[aLR h] at this;cases this
def aR7{d:Dk}(H:aM8 d)(h4:4≤d.sectors):∃d' w',fA d=(d',(w',[]),0)∧Log d' w' []∧w'.hd.gen=1∧d'.size=d.size∧d'.sectors=d.sectors:=by
 have ok:=H.ok.size;have ef:=aKf H.arm H.buf;have en:jX d.size (d.at 0) (d.at 1)=(Hd.zero,-1):=by
  rw[H.z 0 (by omega),H.z 1 (by omega)];unfold jX;rw[aJ1 ok.1];unfold nP;rw[if_neg (by simp),if_neg (by simp)]
 obtain⟨hl1,hl2⟩:=aEy (size:=d.size) (h:=⟨1,0⟩) ok (by simp) (by simp);obtain⟨B0,B⟩:=aBd [(fO d.size ⟨1,0⟩).1] H.ok H.arm 1 (by simp only[iU,kV];omega) (by simp[hl1]);have ew:fA d=((iE d 1 [(fO d.size ⟨1,0⟩).1]).1,oX (iE d 1 [(fO d.size ⟨1,0⟩).1]).1 ⟨1,0⟩ 1,0):=by
  unfold fA;rw[ef];simp only;rw[if_neg (by omega),if_neg (by simp),en];simp only;rw[if_pos (by decide),if_neg (by rw[B0];simp)]
 generalize (iE d 1 [(fO d.size ⟨1,0⟩).1]).1=d1 at *;have esg:d1.segs=d.segs:=by unfold Dk.segs;rw[B.sectors]
 have eba:∀n,d1.base n=d.base n:=λn=>by unfold Dk.base;rw[esg]
 have hz:∀i,2≤i->i<d.sectors->d1.at i=kJ d.size:=λi h1 h2=>by
  rw[B.here,if_neg (by simp only[iU,kV];omega),H.z i h2]
 have hold:∀i g,2≤i->i<d.sectors->Old d1.size g (d1.at i):=λi g h1 h2=>by
  rw[hz i h1 h2,B.size];exact aVP ok.1
 have es:=aI4 (gen:=1) (rest:=d1.secs (d1.base 0) d1.segs) (size:=d1.size) (by rw[B.size];exact ok) (by decide) (λx hx=>by
  have hm:=List.mem_of_mem_head? hx;unfold Dk.secs at hm;obtain⟨i,hi,rfl⟩:=pQ.1 hm;have hi:=aFM.1 hi;rw[esg] at hi;have:=aQu d h4 (seg:=0) (by omega) hi;rw[eba];exact hold _ _ this.1 this.2) [] (d1.segs+1) 0 (by simp) (by simp) (by simp)
 have em:oX d1 ⟨1,0⟩ 1=(⟨⟨1,0⟩,1,0,0,false,false⟩,[]):=by
  have es':jD d1.size 1 (d1.segs+1) (d1.secs (d1.base 0) d1.segs) 0=([],0):=es;unfold oX;rw[es'];rfl
 rw[em] at ew;refine⟨d1,_,ew,⟨B.ok,B.arm,B.buf,by rw[B.sectors];exact h4,by decide,by decide,by decide,by decide,?_,?_,rfl,kT _,rfl,rfl,by simp,?_,?_,rfl⟩,rfl,B.size,B.sectors⟩
 ·show d1.at 1=_;rw[B.here,if_pos (by simp),B.size];rfl
 ·show(fI d1.size (d1.at 0)).1.gen<1;rw[B.here,if_neg (by simp),B.size,H.z 0 (by omega),aJ1 ok.1];decide
 ·intro i _ hi;rw[esg] at hi;have:=aQu d h4 (seg:=0) (by omega) hi;show Old d1.size 1 (d1.at (d1.base 0+i));rw[eba];exact hold _ _ this.1 this.2
 ·intro i h1 h2;rw[B.sectors] at h2;exact hold _ _ h1 h2
def qT(s:Tx):Hd:=⟨lG ((s.drop 1).take 8),lG ((s.drop 9).take 1)⟩
def aGN(size:Nat)(s:Tx):Prop:=s.take 1=[72]∧(qT s).gen≠0∧(qT s).seg<2∧∀x∈(s.take (size-4)).drop 10,x=0
instance (n:Nat) (s:Tx):Decidable (aGN n s):=by unfold aGN;infer_instance
def aG4(size:Nat)(s:Tx):Hd×Int:=
 if ¬gB size then(Hd.zero,1) else if s.length≠size then(Hd.zero,6) else if oE s=false then(Hd.zero,8)
 else if aGN size s then(qT s,0) else(Hd.zero,5)
def aWT{s:Tx}(h:10≤s.length):vF s=qT s:=by
 unfold vF qT;rw[pJ (by rw[jC];omega)];simp only;rw[pJ (by rw[jC,jC];omega),qK]
def aQw(size:Nat)(s:Tx):aG4 size s=fI size s:=by
 unfold aG4 fI;split
 ·rfl
 ·rename_i ok;have ok:gB size:=Classical.not_not.1 ok;have h64:=ok.1;split
  ·rfl
  ·rename_i hl;have hl:s.length=size:=Classical.not_not.1 hl;split
   ·rfl
   ·rename_i hs;have hs:oE s=true:=by simpa using hs
    rw[aWT (by omega)];have hb:(nM size (qT s)).length=size-4:=by
     unfold nM;simp only[jM,hY,xD,iU,kV];omega
    have o0:=aPF (by omega) hs hl hb;have b1:be (qT s).gen 8=(s.drop 1).take 8:=aGB (by rw[jC];omega);have b2:be (qT s).seg 1=(s.drop 9).take 1:=aGB (by rw[jC];omega);have o1:nM size (qT s)=s.take (size-4)↔s.take 1=[72]∧∀x∈(s.take (size-4)).drop 10,x=0:=by
     unfold nM;rw[b1,b2];have es:s.take (size-4)=s.take 1++((s.drop 1).take 8++((s.drop 9).take 1++(s.take (size-4)).drop 10)):=by
      have sp:∀i c,(s.take (size-4)).drop i=((s.take (size-4)).drop i).take c++(s.take (size-4)).drop (i+c):=λi c=>by rw[←qK,zL6]
      have e0:(s.take (size-4)).drop 0=s.take (size-4):=rfl
      conv=>lhs;rw[←e0,sp 0 1,sp 1 8,sp 9 1]
      rw[oH _ _ _ _ (by omega),oH _ _ _ _ (by omega),oH _ _ _ _ (by omega)];rfl
     have hz:((s.take (size-4)).drop 10).length=size-14:=by rw[jC,lU];omega
     constructor
     ·intro e;rw[es] at e;obtain⟨c1,e⟩:=List.append_inj e (by rw[lU];simp;omega);have e:=List.append_cancel_left e;have e:=List.append_cancel_left e;refine⟨c1.symm,λx hx=>?_⟩;rw[←e] at hx;exact List.eq_of_mem_replicate hx
     ·rintro⟨c1,c2⟩;have e:kJ (size-14)=(s.take (size-4)).drop 10:=by
       unfold kJ;rw[←hz];exact(List.eq_replicate_iff.2 ⟨rfl,c2⟩).symm
      rw[es,c1,←e]
    by_cases c:(qT s).gen≠0∧(qT s).seg<2
    ·have eh:fO size (qT s)=(mQ (nM size (qT s)),0):=by unfold fO;rw[if_neg (by rintro(a|a|a);exact a ok;exact c.1 a;omega)]
     rw[eh];simp only[true_and];by_cases d:mQ (nM size (qT s))=s
     ·have:=o1.1 (o0.1 d);rw[if_pos d,if_pos (show aGN size s from⟨this.1,c.1,c.2,this.2⟩)]
     ·rw[if_neg d,if_neg (λx:aGN size s=>d (o0.2 (o1.2 ⟨x.1,x.2.2.2⟩)))]
    ·have eh:fO size (qT s)=([],1):=by unfold fO;rw[if_pos (by by_cases a:(qT s).gen=0;exact .inr (.inl a);exact .inr (.inr (by omega)))]
     rw[eh,if_neg (λx:aGN size s=>c ⟨x.2.1,x.2.2.1⟩),if_neg (by simp)]
def aAY(b:Hd×Int)(k:Int)(h:Hd×Int):Hd×Int:=if h.2=0∧(b.2<0∨b.1.gen<h.1.gen) then(h.1,k) else b
def aWE{size:Nat}{s:Tx}(h:(fI size s).2=0):(fI size s).1.gen≠0:=by
 unfold fI at h ⊢;split at h
 ·cases h
 ·rename_i a;split at h
  ·cases h
  ·rename_i b;split at h
   ·cases h
   ·rename_i c;split at h
    ·rename_i d;rw[if_neg a,if_neg b,if_neg c,if_pos d];have h2:=d.1;unfold fO at h2;split at h2
     ·cases h2
     ·rename_i e;exact λx=>e (.inr (.inl x))
    ·cases h
def aSk(size:Nat)(x y:Tx):aAY (aAY (Hd.zero,-1) 0 (fI size x)) 1 (fI size y)=jX size x y:=by
 have key:∀(b:Hd×Int) (k:Int) (s:Tx),(b.2<0->b.1.gen=0)->aAY b k (fI size s)=nP b k (fI size s).1:=λb k s hb=>by
  unfold aAY nP;by_cases c:(fI size s).2=0
  ·have hg:=aWE c;have hne:(fI size s).1≠Hd.zero:=λe=>hg (by rw[e];rfl);by_cases d:b.1.gen<(fI size s).1.gen
   ·rw[if_pos ⟨c,.inr d⟩,if_pos ⟨hne,d⟩]
   ·rw[if_neg (λx=>?_),if_neg (λx=>d x.2)];rcases x.2 with e|e
    ·have:=hb e;omega
    ·exact d e
  ·have hz:=aMA c;rw[if_neg (λx=>c x.1),if_neg (λx=>x.1 hz)]
 unfold jX;rw[key (Hd.zero,-1) 0 x (λ_=>rfl),key];intro h;unfold nP at h ⊢;split at h
 ·exact absurd h (by simp)
 ·rename_i c;rw[if_neg c];rfl
def aCF{h:PH}{l:List UInt8}(hl:l.length≤8){k:cE}(hk:k (.int .u64 (lG l)) h):bT PG kM #[.string (tx l)] h k:=by
 apply aAW.call;unfold aAW;refine⟨λvs h'=>∃i:Nat,i≤l.length∧vs=[.string (tx l),.int .u64 (lG (l.take i)),.int .i64 i]∧h'=h,fT l.length 2,⟨0,by omega,rfl,rfl⟩,?_⟩;rintro ρ h' ⟨i,hi,hvs,rfl⟩;simp only[iG,jB,kZ,and_true] at hvs;obtain⟨s0,s1,s3⟩:=hvs;rw[s0,s1,s3];unfold aEd;by_cases hlt:i<l.length
 ·have hd:((i:Int)<(l.length:Int))=True:=by apply eq_true;omega
  obtain⟨b,hb⟩:∃b,l[i]? =some b:=⟨_,kF hlt⟩;have hsm:=aOV hlt hl;have hb8:=b.toNat_lt;have ei:=nR (i:=i) (by omega);have e2:IntKind.u64.wrap ((lG (l.take i):Int)*256)=((lG (l.take i)*256:Nat):Int):=by rw[kI (by omega) (by omega)];omega
  have e3:IntKind.u64.wrap (b.toNat:Int)=(b.toNat:Int):=kI (by omega) (by omega);have e4:IntKind.u64.wrap (((lG (l.take i)*256:Nat):Int)+(b.toNat:Int))=((lG (l.take (i+1)):Nat):Int):=by rw[aQB hb,kI (by omega) (by omega)];omega
  simp only[aT.len,lJ,hd,e2,oB aT.und hb,aQv,e3,e4,ei,cC,reduceIte];exact⟨⟨i+1,by omega,rfl,by trivial⟩,by simp[fT,s3];omega⟩
 ·have hd:((i:Int)<(l.length:Int))=False:=by apply eq_false;omega
  rw[sK (by omega)];simp only[aT.len,lJ,hd,cC,reduceIte];exact hk
def aEv(x:Int):cB PG (convert aR cJ (.int .i64 x))=some (.int .u64 (IntKind.u64.wrap x)):=by kernel_rfl
def aNQ{h:PH}{p:Pk}(w:p.wf)(hr:p.right=true){k:cE}(hk:∀h',dA h h'->k (.string (tx p.bs)) h'):bT PG wR #[.agg p.cells.toArray] h k:=by
 obtain⟨r1,r2,-,-,r5⟩:=Pk.right_iff.1 hr;obtain⟨w1,w2,w3,w4⟩:=w;have ed:=aSU p;have el:=aH8 p;obtain⟨f,s,t,d⟩:=p;obtain⟨f,rfl⟩:=zLm r1;obtain⟨s,rfl⟩:=zLm w1;obtain⟨t,rfl⟩:=zLm w3;simp only at r2 w2 w4 r5;unfold Pk.bs at hk;simp only[xK] at hk;generalize Pk.tx ⟨(f:Int),(s:Int),(t:Int),d⟩=l at *;subst ed;simp only[lJ] at el r5;apply rU.call;unfold rU;intro r hr
 try rw[cR]
 have u1:dA h (h.set r (.cells (Value.cells (.agg (Pk.cells ⟨(f:Int),(s:Int),(t:Int),tx l⟩).toArray)) bX)):=cX.new hr;have B1:Bx (h.set r (.cells (Value.cells (.agg (Pk.cells ⟨(f:Int),(s:Int),(t:Int),tx l⟩).toArray)) bX)) r (Pk.cells ⟨(f:Int),(s:Int),(t:Int),tx l⟩):=Bx.new;generalize h.set r (.cells (Value.cells (.agg (Pk.cells ⟨(f:Int),(s:Int),(t:Int),tx l⟩).toArray)) bX)=h1 at *;have l0:∀{h':PH},dA h1 h'->cD PG h' (loadAt aR (pT r 0))=some (.int .i64 (f:Int)):=λu=>by rw[aR.load,(B1.ext u).cell];rfl
 have l1:∀{h':PH},dA h1 h'->cD PG h' (loadAt cJ (pT r 1))=some (.int .u64 (s:Int)):=λu=>by rw[cJ.load,(B1.ext u).cell];rfl
 have l2:∀{h':PH},dA h1 h'->cD PG h' (loadAt cJ (pT r 2))=some (.int .u64 (t:Int)):=λu=>by rw[cJ.load,(B1.ext u).cell];rfl
 have l3:∀{h':PH},dA h1 h'->cD PG h' (loadAt aT (pT r 3))=some (.string (tx l)):=λu=>by rw[aT.load,(B1.ext u).cell];rfl
 have c1:IntKind.u64.wrap (f:Int)=(f:Int):=kI (by omega) (by omega);have c2:IntKind.u64.wrap (l.length:Int)=(l.length:Int):=kI (by omega) (by omega);have ln:cB PG (Builtin.len_ #[aT] aR #[.string (tx l)])=some (.int .i64 (l.length:Int)):=by rw[uZ aT.und,lJ]
 simp only[bX.f0,bX.f1,bX.f2,bX.f3,l0 cX.refl,l1 cX.refl,l2 cX.refl,l3 cX.refl,ln,aEv,c1,c2,cC,reduceIte,cI,Nat.reduceAdd];refine mJ (by omega) (by decide) λh2 u2=>?_;simp only[iZ,l1 u2,l2 u2,l3 u2,eq_self,true_and];refine mJ (by omega) (by decide) λh3 u3=>?_;have e3:=u2.trans u3;have a1:cB PG (binOp .add aT (.string (tx (be f 1))) (.string (tx (be s 8))))=some (.string (tx (be f 1++be s 8))):=jW (by simp only[hY];decide);simp only[l2 e3,l3 e3,a1,eq_self,true_and,cC,reduceIte,cI,Nat.reduceAdd];refine mJ (by omega) (by decide) λh4 u4=>?_;have e4:=e3.trans u4;have a2:cB PG (binOp .add aT (.string (tx (be f 1++be s 8))) (.string (tx (be t 8))))=some (.string (tx ((be f 1++be s 8)++be t 8))):=jW (by simp only[hY,jM];decide);simp only[l3 e4,a2,eq_self,true_and,cC,reduceIte,cI,Nat.reduceAdd];refine mJ (by omega) (by decide) λh5 u5=>?_;have e5:=e4.trans u5;have a3:cB PG (binOp .add aT (.string (tx ((be f 1++be s 8)++be t 8))) (.string (tx (be l.length 2))))=some (.string (tx (((be f 1++be s 8)++be t 8)++be l.length 2))):=jW (by simp only[hY,jM];decide);have a4:cB PG (binOp .add aT (.string (tx (((be f 1++be s 8)++be t 8)++be l.length 2))) (.string (tx l)))=some (.string (tx ((((be f 1++be s 8)++be t 8)++be l.length 2)++l))):=jW (by simp only[hY,jM];omega);simp only[l3 e5,a3,a4,eq_self,true_and,cC,reduceIte,cI,Nat.reduceAdd];rw[uS,uS,uS];exact hk _ (u1.trans e5)
end Go.Proofs.YtiohehjhlghikaaGreatDoor
