/- RoundBegins holds: the last shift to begin, and what is to be left out at a start, are the reference's. Conditions: none. -/
import Derived.Conc.CrowdTrace
import Derived.Below
import Derived.Deep.Slices
import Derived.Conc.LeavingOf
import Derived.Carry
import Derived.ChangeSlices
import Derived.WideShapes
import Derived.Test.YteeagjkaflglpaaGreatX06
set_option maxRecDepth 100000
set_option maxHeartbeats 8000000
set_option linter.all false
variable{m k i j o p s d:Nat}{w t e:cJ}{x y z:cK}{A B C:Nat->Prop}{R:Go.dA.dO}{l f:List Nat}{T U:cR}{a:Option Go.Addr}{H N:Go.Proofs.W.Gd}{W X:Array cK}{M Y:List cK}{I J:Int}{D E:Bool}{K:dZ}{S:cJ->Prop}{P:cU}
namespace Go.Proofs.W
open Go.RowKit
def lS{c:Type}(f:c->dP)(n:Nat)(w:cJ)(a:dW)(l:List c):Prop:=∀k (h:k<l.length),∃b o,a=some ⟨b,o,none⟩/\∀j v,(f l[k])[j]? =some v->w.cell? ⟨b,o+k*n+j,none⟩=some v
theorem lS.cells{i:Type}{f:i->dP}{n:Nat}{w:cJ}{a:dW}{l:List i}(h:lS f n w a l)(k:0<n)(m:∀x,(f x).length=n):iP w a (l.flatMap f):=by obtain d|d:=nt l.length;exact .inl (by rw[oy d];rfl);have⟨b,o,e,_⟩:=h 0 d;refine .inr ⟨b,o,e,λj u p=>?_⟩;have c:=(nk.1 p).1;rw[Bq m]at c;have g:=Nat.div_add_mod j n;have y:=Nat.mod_lt j k;have q:j/n<l.length:=(Nat.div_lt_iff_lt_mul k).2 c;rw[Nat.mul_comm]at g;have r:j%n<(f l[j/n]).length:=cL;have s:=rW m l (j/n) q (j%n) _ (ft r);rw[g,p]at s;have⟨z,A,t,v⟩:=h (j/n) q;rw[e]at t;cases t;have:=v (j%n) _ (ft r);rw[Kw,g]at this;rw[this,dT s]
def lS.own{d:Type}{f:d->dP}{n g:Nat}{w:cJ}{l:List d}(h:dg g T M w z l.length (l.flatMap f))(r:M.length=n)(i:∀x,(f x).length=n):∃a c,z=.slice a l.length c/\lS f n w a l/\l.length<=c:=by obtain⟨s,⟨t,rfl⟩|⟨b,c,u,v,rfl,m,y,o,A,B,C⟩⟩:=h;exact⟨none,0,cL,λk e=>cM,cM⟩;refine⟨_,c,rfl,λk e=>⟨b,0,rfl,λj z p=>cO m ?_⟩,o⟩;have q:j<(f l[k]).iw:=cL;have D:=rW i l k e j z p;grind
theorem kz.cells{w:cJ}{a:dW}{l:List Tq}(h:kz w a l):iP w a (l.flatMap uP):=lS.cells (f:=uP) (n:=3) h cL λ_=>rfl
theorem gZ.cells{w:cJ}{a:dW}{l:List Dr}(h:gZ w a l):iP w a (l.flatMap dL):=lS.cells (f:=dL) (n:=3) (λk d=>by
 obtain⟨b,o,e,g,i,m⟩:=h k d;refine⟨b,o,e,λj v c=>?_⟩;match j,c with
 |0,c=>cases c;grind
 |1,c=>cases c;grind
 |2,c=>cases c;grind) cL λ_=>rfl
def iL(n:Int):dP:=[.int .i64 n]
theorem iF.cells{w:cJ}{a:dW}{l:eY}(h:iF w a l):iP w a (l.flatMap iL):=lS.cells (f:=iL) (n:=1) (λk d=>by
 obtain⟨b,o,e,g⟩:=h k d;refine⟨b,o,e,λj v c=>?_⟩;match j,c with
 |0,c=>cases c;grind) cL λ_=>rfl
def zp(a:Nat)(w:cJ)(v:cK)(l:List Tq):Prop:=dg a 84 [.int .i64 0,.int .i64 0,.bool false] w v l.length (l.flatMap uP)
def H6(a:Nat)(w:cJ)(v:cK)(l:eY):Prop:=dg a 3 [.int .i64 0] w v l.length (l.flatMap iL)
def zp.row{w:cJ}{l:List Tq}(h:zp m w z l):∃a c,z=.slice a l.length c/\kz w a l/\l.length<=c:=lS.own h rfl λ_=>rfl
def H6.row{w:cJ}{l:eY}(h:H6 m w z l):∃a c,z=.slice a l.length c/\iF w a l/\l.length<=c:=by obtain⟨a,c,d,g,i⟩:=lS.own (f:=iL) (n:=1) h rfl λ_=>rfl;refine⟨a,c,d,λk j=>?_,i⟩;obtain⟨b,o,e,p⟩:=g k j;have:=p 0 _ rfl;grind
def V0{a:Type}{f:a->dP}(b:∀x,∀u∈f x,u.oneCell'=true)(l:List a):∀u∈l.flatMap f,u.oneCell'=true:=cL
def V1(x:Tq):∀u∈uP x,u.oneCell'=true:=λu a=>by simp only[uP,fi,pA,mh]at a;obtain rfl|rfl|rfl:=a<;>rfl
def Q7{l:List Tq}{w:cJ}(h:kz w a l)(c:l.length<=100000):Calls V.prog 37 #[.slice a l.length m] w (fO λv d=>Ext w d/\zp w.heap.size d v l):=by refine go (V.fn Tryz.func37 cL) Tryz.ntmps37 ?_;exact er [] 84 λj k e b g=>n5 (n0:=w.heap.size) UV g b (Bq (f:=uP) (n:=3) (λ_=>rfl) l) (h.ext e).cells (V0 V1 l) cM λv o i p=>⟨_,rfl,cL,i⟩
section
variable{x y:dU}{w:cJ}
def Xk(q:Tq):Sem.run V.prog (do eqGuard .neq 84 x y (.agg (uP q).toArray) (.agg (uP q).toArray);binOp .neq 84 (.agg (uP q).toArray) (.agg (uP q).toArray)) w=.ok (.bool false) w:=by have⟨a,b,c⟩:=q;show Sem.run jV (do eqGuard .neq 84 x y (.agg #[i64 a,i64 b,.bool c]) (.agg #[i64 a,i64 b,.bool c]);binOp .neq 84 (.agg #[i64 a,i64 b,.bool c]) (.agg #[i64 a,i64 b,.bool c])) w=.ok (.bool false) w;go_simp
def Xl(q:Dr):Sem.run V.prog (do eqGuard .neq 81 x y (.agg (dL q).toArray) (.agg (dL q).toArray);binOp .neq 81 (.agg (dL q).toArray) (.agg (dL q).toArray)) w=.ok (.bool false) w:=by have⟨a,b,c⟩:=q;show Sem.run jV (do eqGuard .neq 81 x y (.agg #[i64 a,i64 b,i64 c]) (.agg #[i64 a,i64 b,i64 c]);binOp .neq 81 (.agg #[i64 a,i64 b,i64 c]) (.agg #[i64 a,i64 b,i64 c])) w=.ok (.bool false) w;go_simp
end
def H7{l:List Tq}{f:Option Addr}{w:cJ}(q:kz w a l)(h:kz w f l)(p:l.length<=100000):
 Calls V.prog 41 #[.slice a l.length m,.slice f l.length k] w (fO λv g=>v=.bool true/\Ext w g):=by
 refine go (V.fn Tryz.func41 cL) Tryz.ntmps41 ?_;refine dm (dm (gP (kZ dq ?_)));refine fc l.length (λd (_:Unit)=>[(0,.slice a l.length m),(1,.slice f l.length k),(5,i64 d)]) (λd _ g=>Ext w g) () ⟨by trivial,Ext.refl _⟩ ?_;rintro d _ g x e;refine dm (dN ⟨λc=>?_,λr=>⟨_,rfl,rfl,e⟩⟩);have c:d<l.length:=cL;obtain⟨b,o,rfl,y⟩:=q d c;obtain⟨z,A,rfl,s⟩:=h d c;exact dE dD (jx d 3 c (dx (.agg (uP l[d]).toArray) (λi n=>ez (vs:=uP l[d]) (λj v t=>(e.trans n).cell cL) ⟨rfl,Ext.refl _⟩) (jx d 3 c (dx (.agg (uP l[d]).toArray) (λi n=>ez (vs:=uP l[d]) (λj v t=>(e.trans n).cell cL) ⟨rfl,Ext.refl _⟩) (dx (.bool false) (λi _=>⟨_,i,Xk _,rfl,Ext.refl _⟩) λB u=>kZ rfl (cY ⟨c,(),by trivial,e.trans u⟩))))))
def Cf{q:dW}{w:cJ}(J:gZ w a H.doors)(x:gZ w q H.doors)(E:H.doors.length<=100000):Calls V.prog 40 #[gV H a m,gV H q k] w (fO λv g=>v=.bool true/\Ext w g):=by
 refine TK (V.fn Tryz.func40 cL) Tryz.ntmps40 (dX.seq dB ?_);refine eJ λu F r K n=>eJ λL s G M y=>?_;have N:=r.trans G;have n:=G.at_ n;refine dX.iu (dX.of dB (cP (cO n rfl) (dm (cP (cO y rfl) (dm (gP (kZ dq ?_)))))));refine dX.iu (dX.of dB ?_);refine fc H.doors.length (λc (_:Unit)=>[(2,dj F),(3,dj s),(5,i64 c)]) (λc _ g=>Ext L g) () ⟨by trivial,Ext.refl _⟩ ?_;rintro c _ I W e;have l:=N.trans e;refine cP (cO (e.at_ n) rfl) (dm (dN ⟨λf=>?_,λO=>?_⟩));have f:c<H.doors.length:=cL;have⟨b,o,z,P,Q,i⟩:=J c f;have⟨R,S,t,A,B,C⟩:=x c f;subst z t
 have T:∀{g} (h:Ext I g),∀j v,(dL H.doors[c])[j]? =some v->g.cell? (dt b (o+c*3+j))=some v:=λh j v d=>by
  match j,d with
  |0,d=>cases d;exact(l.trans h).cell P
  |1,d=>cases d;exact(l.trans h).cell Q
  |2,d=>cases d;exact(l.trans h).cell i
 have D:∀{g} (h:Ext I g),∀j v,(dL H.doors[c])[j]? =some v->g.cell? (dt R (S+c*3+j))=some v:=λh j v d=>by
  match j,d with
  |0,d=>cases d;exact(l.trans h).cell A
  |1,d=>cases d;exact(l.trans h).cell B
  |2,d=>cases d;exact(l.trans h).cell C
 exact dE dD (dl (cO (e.at_ n) rfl) (jx c 3 f (dx (.agg (dL H.doors[c]).toArray) (λu r=>ez (vs:=dL H.doors[c]) (T r) fL) (dl (cO (e.at_ y) rfl) (jx c 3 f (dx (.agg (dL H.doors[c]).toArray) (λu r=>ez (vs:=dL H.doors[c]) (D r) fL) (dx (.bool false) (λu _=>⟨_,u,Xl _,rfl,Ext.refl _⟩) λX U=>kZ rfl (cY ⟨f,(),by trivial,e.trans U⟩))))))));refine dX.jJ (l0:=[(2,dj F),(3,dj s)]) (by trivial) (dX.iu (mJ.start (mJ.Cc 41 dB ?_)));have p:=e.at_ n;have i:=e.at_ y;refine cP (cO p rfl) (cP (cO i rfl) (eZ (ko (decide_eq_true rfl) ?_)));refine cP (cO p rfl) (cP (cO i rfl) (eZ (ko (decide_eq_true rfl) ?_)));refine cP (cO p rfl) (cP (cO i rfl) (eZ (ko (decide_eq_true rfl) ?_)));refine cP (cO p rfl) (cP (cO i rfl) (eZ (ko (decide_eq_true rfl) ?_)));refine cP (cO p rfl) (cP (cO i rfl) (eZ (ko (decide_eq_true rfl) ?_)));exact cP (cO p rfl) (cP (cO i rfl) (eZ (mJ.fin (dX.of dB ⟨_,rfl,dH Value.bool (decide_eq_true rfl),l⟩))))
variable{G:Gd}{da:Option Addr}{dc:Nat}{w:cJ}
def Dt{l:List Tq}{a:Option Addr}{c:Nat}(d:kz w a l)(e:l.length<=100000):Calls V.prog 126 #[.slice a l.length c] w (fO λv f=>v=.int .i64 (dV l)/\f=w):=by refine go (V.fn Tryz.func126 cL) Tryz.ntmps126 ?_;refine dm (eZ ⟨λh=>?_,λh=>?_⟩);have h:l.length=0:=cL;exact⟨_,rfl,by rw[oy h];rfl,rfl⟩;have h:¬l.length=0:=cL;obtain⟨b,o,rfl,g⟩:=d (l.length-1) cM;refine dm (fI (fH (l.length-1) 3 cM (cP (g 1 _ rfl) ⟨_,rfl,?_,rfl⟩) cM));show Value.int .i64 _=_;unfold dV;grind
def H8(p:gZ w da G.doors)(b:G.doors.length<=100000){l:List Tq}{j:Option Addr}{k:Nat}(m:kz w j l)(c:l.length<=100000)(e:l.length<=k)(s:Int):
 Calls V.prog 99 #[gV G da dc,.slice j l.length k,.int .i64 s] w (fO λv q=>v=.int .i64 (dK G l s 0)/\Ext w q):=by
 refine go (V.fn Tryz.func99 cL) Tryz.ntmps99 ?_;refine eJ λu x f r n=>eF n (ep (H4 (dc:=dc) (p.ext f) b (m.ext f) c e) λy o=>?_);rw[LV];have d:=f.trans o;unfold dK;refine gP ⟨λh=>?_,λh=>?_⟩;have h:¬kH G l=0:=fx h;exact⟨_,rfl,by rw[cS h];rfl,d⟩;have h:kH G l=0:=cL;have t:eo G=0:=by unfold kH at h;grind
 have g:=(eD t).days;rw[cV h];unfold qU;refine cP (cO (o.at_ n) rfl) (qo (fI (dF (gT _ _ _ _) (eK ⟨λa=>?_,λa=>?_⟩))));have a:kT s 0 (2*G.days-1)=false:=cL;exact⟨_,rfl,by rw[a];rfl,d⟩;have a:kT s 0 (2*G.days-1)=true:=cL;refine dF (Dt (m.ext d) c) (dN ⟨λi=>?_,λi=>?_⟩);exact⟨_,rfl,by rw[a,cV (fx i)];rfl,d⟩;exact⟨_,rfl,by rw[a,cS (ie i)];rfl,d⟩
def LW{l:eY}:decide (sC I l 0<0)=!Ey I l:=by grind [decide_eq_true,decide_eq_false,Ey,sC]
def qD(T:Int)(t:Td):Du:=
 ⟨if(decide (1<T)&&decide (t.mornings=0))&&(decide (1<T)&&decide (t.evenings=0))then max 2 (max 1 (T-t.times))else max 1 (T-t.times),decide (1<T)&&decide (t.mornings=0),decide (1<T)&&decide (t.evenings=0)⟩
section
variable{G:Gd}{da:Option Addr}{dc:Nat}{w:cJ}
def Q8{l:List Tq}{la:dW}{lc:Nat}(hT:0<=G.tries/\G.tries<=1000)(hr:kz w la l)(z:l.length<=100000)(hs:∀q∈l,0<=q.shift/\q.shift<=1000)(d:Nat):
 Calls V.prog 141 #[gV G da dc,.slice la l.length lc,.int .i64 d] w (fO λv m=>v=.agg (xG d (qD G.tries (sx d sv l))).toArray/\Ext w m):=by
 have L:=xV d l;refine TL Tryz.func141 Tryz.ntmps141 (dX.seq dB ?_);refine eJ λw1 gb e1 aa hb=>eU λw2 o N ab A=>?_;have E2:=e1.trans N;refine dX.seq dB (ep (rZ (hr.ext E2) z hs d) λw3 F=>eU λw4 H O ac P=>dI P λI R g=>?_);generalize sx d sv l=t at*;have⟨b1,b2,b3⟩:=L;have g:I.heap[H]? =some (.cells (IC t).toArray 173):=g.trans (dH (λa=>some (Obj.cells a 173)) (ef (pJ 173).toArray _ rfl));have s1:=e1.size;have s2:=N.size;have s3:=F.size;have ad:=dA.lt_of_heap hb;have ae:=dA.lt_of_heap A;have k:=R.fN (O.at_ (F.at_ (N.at_ hb))) (show¬gb=H by omega);have B:=R.fN (O.at_ (F.at_ A)) (show¬o=H by omega);have S:Ext w I:=((E2.trans F).trans O).cT R cM;refine dX.iu (dX.mono (Q:=λe C m=>e=.normal/\∃c,Sub [(3,dj gb),(6,dj o),(7,dj H),(8,dj c)] C/\Ext I m/\I.heap.size<=c/\m.heap[c]? =some (.cells (xG d ⟨0,decide (1<G.tries)&&decide (t.mornings=0),decide (1<G.tries)&&decide (t.evenings=0)⟩).toArray 101)) ?_ ?_);rintro e C w6 ⟨rfl,c,T,n,f,i⟩;generalize hM:(decide (1<G.tries)&&decide (t.mornings=0))=M at*;generalize hE:(decide (1<G.tries)&&decide (t.evenings=0))=E at*;have U:=n.at_ k;have W:=n.at_ g;have X:=n.at_ B;have D:¬o=c:=iI (dA.lt_of_heap B);refine dX.jJ T (dX.seq dB ?_);refine cP (cO U rfl) (cP (cO W rfl) (fI (rJ (dI i λJ y b=>?_))));have b:J.heap[c]? =some (.cells (xG d ⟨max 1 (G.tries-t.times),M,E⟩).toArray 101):=b;have p:=y.fN X D;have Y:Ext w J:=(S.trans n).cT y (iI S.size);have hq:qD G.tries t=⟨if M&&E then max 2 (max 1 (G.tries-t.times))else max 1 (G.tries-t.times),M,E⟩:=by unfold qD;rw[hM,hE]
 refine dX.jJ (l0:=[(6,dj o),(8,dj c)]) (by trivial) (dX.iu (dX.mono (Q:=λe C m=>e=.normal/\Sub [(6,dj o),(8,dj c)] C/\Ext w m/\m.heap[o]? =some (.cells (pJ 101).toArray 101)/\m.heap[c]? =some (.cells (xG d (qD G.tries t)).toArray 101)) ?_ ?_));rintro e C w8 ⟨rfl,T,E8,Z,r⟩;generalize qD G.tries t=u at*;refine dX.jJ T (dX.of dB ?_);refine ez (vs:=xG d u) (λj v hj=>by rw[dn];exact cO r (fB hj)) (dI Z λw9 k9 s=>?_);have s:w9.heap[o]? =some (.cells (xG d u).toArray 101):=s.trans (dH (λa=>some (Obj.cells a 101)) (ef (pJ 101).toArray _ rfl));exact⟨.agg (xG d u).toArray,jy _ s λj v hj=>by rw[dn];simpa using hj,_,rfl,rfl,E8.cT k9 cM⟩;rw[hq];refine dX.of dB (cP (cO b rfl) ⟨λK=>cP (cO b rfl) ⟨λh2=>?_,λh2=>?_⟩,λK=>?_⟩);subst K h2;refine cP (cO b rfl) (rJ (dI b λw8 k8 r=>⟨rfl,by trivial,Y.cT k8 (iI S.size),k8.fN p D,r⟩));subst K h2;exact⟨rfl,by trivial,Y,p,b⟩;subst K;exact kZ rfl ⟨rfl,by trivial,Y,p,b⟩;refine dX.of dB (cP (cO k rfl) (mI ⟨λh=>cP (cO g rfl) (eZ (cP (cO k rfl) (mI ⟨λx=>cP (cO g rfl) (eZ ?_),λx=>?_⟩))),λh=>cP (cO k rfl) (mI ⟨λx=>?_,λx=>?_⟩)⟩));rw[h];exact eC (.agg (xG d ⟨0,decide (t.mornings=0),decide (t.evenings=0)⟩).toArray) (eU λw6 c n f i=>dI i λJ y b=>⟨rfl,c,by trivial,n.cT y f,f,b⟩);rw[h]at x;cases x;rw[h]at x;cases x;rw[h];exact eC (.agg (xG d ⟨0,false,false⟩).toArray) (eU λw6 c n f i=>dI i λJ y b=>⟨rfl,c,by trivial,n.cT y f,f,b⟩)
end
def Cg(t:Td)(k:Nat)(p:cN)(s:Nat):Bool:=(decide (0<k)&&decide (s/2<=p.getD (k-1) 0/2))||decide (((s/2:Nat):Int)=t.day)
def mB(t:Td)(f n k:Nat)(p:cN):List cN:=((List.range n).filter λj=>!Cg t k p (f+j)).map λj=>p++[f+j]
def jB(t:Td)(f n:Nat):Nat->List cN
 |0=>[[]]
 |k+1=>(jB t f n k).flatMap (mB t f n k)
def wQ(M E:Bool)(p:cN):Bool:=(p.any (λs=>decide (s%2=0))||!M)&&(p.any (λs=>decide (s%2=1))||!E)
def BH(G:Gd)(t:Td)(f:Nat):List cN:=(jB t f ((2*G.days).toNat-f) (qD G.tries t).tries.toNat).filter (wQ (qD G.tries t).morning (qD G.tries t).evening)
def uA(t:Td)(f n k:Nat)(p:cN):(mB t f n k p).length<=n:=by unfold mB;rw[nP];exact du (List.length_filter_le _ _) dq
theorem tP{t:Td}:∀{c:Nat} {p:cN},p∈jB t m k c->p.length=c/\∀s∈p,m<=s/\s<m+k
 |0,p,h=>by
  obtain rfl:p=[]:=by simpa[jB]using h
  exact⟨rfl,λs a=>by cases a⟩
 |c+1,p,h=>by simp only[jB,me]at h;have⟨q,b,h⟩:=h;have b:=tP b;simp only[mB,kJ,py,gf]at h;obtain⟨j,⟨d,_⟩,rfl⟩:=h;refine⟨by simp[b.1],λs a=>?_⟩;obtain a|a:=jQ.1 a;exact b.2 s a;obtain rfl:s=m+j:=fB a;omega
theorem nE{a c:Type}{g:a->List c}(b:∀x,(g x).length<=m):∀l:List a,(l.flatMap g).length<=l.length*m
 |[]=>dq
 |x::r=>by have:=nE b r;have:=b x;simp only[vQ,lx,fa,Nat.succ_mul];omega
def BI{t:Td}{f n:Nat}(a:n<=6):∀{k:Nat},k<=3->(jB t f n k).length<=216:=by
 have b:(jB t f n 1).length<=6:=by have:=nE (λp=>uA t f n 0 p) (jB t f n 0);simp only[jB,fa,fP]at this⊢;omega
 have c:(jB t f n 2).length<=36:=by have:=nE (λp=>uA t f n 1 p) (jB t f n 1);have e:(jB t f n 2)=(jB t f n 1).flatMap (mB t f n 1):=rfl;rw[e];exact du this (Nat.mul_le_mul b a)
 have d:(jB t f n 3).length<=216:=by have:=nE (λp=>uA t f n 2 p) (jB t f n 2);have e:(jB t f n 3)=(jB t f n 2).flatMap (mB t f n 2):=rfl;rw[e];exact du this (Nat.mul_le_mul c a)
 intro k g;obtain rfl|rfl|rfl|rfl:k=0\/k=1\/k=2\/k=3:=cM;simp[jB];omega;omega;exact d
def Fh{T:Int}{t:Td}(a:0<=T/\T<=3)(b:0<=t.times):1<=(qD T t).tries/\(qD T t).tries<=3:=by unfold qD;simp only;split<;>omega
def fh.at{d:List cN}(h:fh m w x d)(i:k<d.length):∃b c a e,x=.slice (some ⟨b,0,none⟩) d.length c/\w.cell? ⟨b,k,none⟩=some (.slice a d[k].length e)/\eO m w (.slice a d[k].length e) d[k]/\fJ w a d[k]/\d[k].length<=e:=by obtain⟨r,⟨s,⟨t,rfl⟩|⟨b,c,v,y,rfl,j,z,A,B,l,C⟩⟩,D,f⟩:=h;omega;have⟨u,n,g⟩:=f k i;obtain⟨o,e,rfl,p,q⟩:=g.row;exact⟨b,c,o,e,rfl,cO j (by rw[l k cM];exact n),g,p,q⟩
section
variable{G:Gd}{da:Option Addr}{dc:Nat}{w:cJ}
def Fi(ok:G.Ok){l:List Tq}{N:dW}{lc:Nat}(hr:kz w N l)(af:l.length<=100000)(hs:∀q∈l,0<=q.shift/\q.shift<=1000)(d f:Nat)(hf:f<=1000):
 Calls V.prog 142 #[gV G da dc,.slice N l.length lc,.int .i64 d,.int .i64 f] w (fO λv g=>Ext w g/\fh w.heap.size g v (BH G (sx d sv l) f)):=by
 have⟨t,ht⟩:=ju (sx d sv l);have aP:TV l.length t:=by grind [xV]
 have⟨b1,b2,b3⟩:=aP;have bf:=ok.days;have bg:=ok.tries;have⟨D2,bh⟩:=ju ((2*G.days).toNat);have hD:(D2:Int)=2*G.days:=cM;have⟨n,hn⟩:=ju (D2-f);have ak:n<=6:=cM;have bi:=Fh (T:=G.tries) (t:=t) cM b1.1;have av:∀{w1:cJ},Ext w w1->Calls V.prog 141 #[gV G da dc,.slice N l.length lc,i64 d] w1 (fO λv g=>v=.agg (xG d (qD G.tries t)).toArray/\Ext w1 g):=λe=>by rw[ht];exact Q8 cM (hr.ext e) af hs d
 have aw:BH G (sx d sv l) f=(jB t f n (qD G.tries t).tries.toNat).filter (wQ (qD G.tries t).morning (qD G.tries t).evening):=by grind [BH]
 rw[aw];have ax:∀{w1:cJ},Ext w w1->Calls V.prog 140 #[.slice N l.length lc,i64 d] w1 (fO λv g=>v=.agg (IC t).toArray/\Ext w1 g):=λe=>by rw[ht];exact rZ (hr.ext e) af hs d
 generalize qD G.tries t=u at*;have⟨K,hK⟩:∃K:Nat,u.tries=K:=⟨u.tries.toNat,cM⟩;have aQ:u.tries.toNat=K:=cM;rw[aQ];have aR:K<=3:=cM;clear aw ht;refine TK (V.fn Tryz.func142 cL) Tryz.ntmps142 (dX.seq dB ?_);refine eJ λw1 gb e1 bj hb=>dX.seq dB<|dX.seq dB (eF hb (ep (av e1) λw2 e2=>eU λw3 ub e3 bc aS=>dI aS λw4 k4 al=>?_));have al:w4.heap[ub]? =some (.cells (xG d u).toArray 101):=al.trans (dH (λa=>some (Obj.cells a 101)) (ef (pJ 101).toArray _ rfl));have s1:=e1.size;have s2:=e2.size;have aT:=k4.fN (e3.at_ (e2.at_ hb)) (show¬gb=ub by grind);have E4:Ext w w4:=((e1.trans e2).trans e3).cT k4 cM;refine dX.seq dB (er [fo] 27 λw5 ab e5 bk ay=>?_);have E5:=E4.trans e5;have s4:=E4.size;have s5:=E5.size
 have aU:fh w.heap.size w5 (eT ab 1 1) (jB t f n 0):=⟨[fo],⟨rfl,.inr ⟨ab,1,_,cM,rfl,ay,rfl,di _,cL,λj _=>dq,λj hj bl=>cL⟩⟩,rfl,λk hk=>by
  obtain rfl:k=0:=by grind [jB]
  exact⟨_,rfl,dg.nil _ _ _ _⟩⟩
 refine dX.iu (dX.iu (dX.of dB ?_));refine pT K (λk (v:cK)=>[(1,.slice N l.length lc),(2,i64 d),(3,i64 f),(4,dj gb),(9,fo),(10,dj ub),(11,v),(12,i64 k)]) (λk v g=>Ext w5 g/\fh w.heap.size g v (jB t f n k)) (eT ab 1 1) ⟨by trivial,Ext.refl _,aU⟩ ?_;rintro k v6 w6 hk ⟨e6,O⟩;have az:=(e5.trans e6).at_ al;have aV:=(e5.trans e6).at_ aT;refine dX.iu (dX.of dB (cP (cO az rfl) (dN ⟨λbm=>?_,λbn=>?_⟩)));have aW:k<K:=cL;obtain⟨a6,c6,rfl,_,_⟩:=O.row;have ag:=BI (t:=t) (f:=f) ak (show k<=3 by omega);have E6:=E5.trans e6;refine dX.iu (dX.block (dX.seq dB (dX.iu (dX.iu (dX.of dB ?_)))));refine pT (jB t f n k).length (λi v=>[(1,.slice N l.length lc),(2,i64 d),(3,i64 f),(4,dj gb),(9,fo),(10,dj ub),(11,.slice a6 (jB t f n k).length c6),(12,i64 k),(13,v),(14,i64 i)]) (λi v g=>Ext w6 g/\fh w6.heap.size g v (((jB t f n k).take i).flatMap (mB t f n k))) (fo) ⟨by trivial,Ext.refl _,[],dg.nil _ _ _ _,rfl,λk hk=>cL⟩ ?_;rintro i v7 w7 hi ⟨L,J⟩;refine dX.iu (dX.of dB (dm (dN ⟨λaA=>?_,λaB=>?_⟩)));have c:i<(jB t f n k).length:=cL;have⟨p,hp⟩:=ju ((jB t f n k)[i]);have ac:=tP (eG c);rw[<-hp]at ac;have bo:((jB t f n k).take i).flatMap (mB t f n k)=((jB t f n k).take i).flatMap (mB t f n k):=rfl;have aX:(((jB t f n k).take i).flatMap (mB t f n k)).length<=216*6:=by have h1:=nE (λp=>uA t f n k p) ((jB t f n k).take i);have F:((jB t f n k).take i).length<=216:=cL;exact du h1 (Nat.mul_le_mul F ak)
 have o:((jB t f n k).take (i+1)).flatMap (mB t f n k)=((jB t f n k).take i).flatMap (mB t f n k)++mB t f n k p:=by rw[iT c,List.flatMap_append,<-hp];simp
 generalize hP:((jB t f n k).take i).flatMap (mB t f n k)=P at*;refine dX.iu (dX.block (dX.iu (dX.of dB ?_)));refine pT n (λj v=>[(1,.slice N l.length lc),(2,i64 d),(3,i64 f),(4,dj gb),(9,fo),(10,dj ub),(11,.slice a6 (jB t f n k).length c6),(12,i64 k),(13,v),(14,i64 i),(15,i64 ((f+j:Nat):Int))]) (λj v g=>Ext w6 g/\fh w6.heap.size g v (P++((List.range j).filter λj=>!Cg t k p (f+j)).map λj=>p++[f+j])) v7 ⟨by trivial,L,cL⟩ ?_;rintro j v8 w8 hj ⟨x,R⟩;have aY:=x.at_ aV;refine dX.iu (dX.of dB (cP (cO aY rfl) (qo (dN ⟨λaC=>?_,λaD=>?_⟩))));have aE:j<n:=cL;have bp:(((List.range j).filter λj=>!Cg t k p (f+j)).map λj=>p++[f+j]).length<=j:=by grind
 have C:((List.range (j+1)).filter λj=>!Cg t k p (f+j)).map (λj=>p++[f+j])=(((List.range j).filter λj=>!Cg t k p (f+j)).map λj=>p++[f+j])++if Cg t k p (f+j)then []else [p++[f+j]]:=by rw[nq,List.filter_append,qH,List.filter_cons];grind
 generalize ((List.range j).filter λj=>!Cg t k p (f+j)).map (λj=>p++[f+j])=Q at*;have S:((f+j:Nat):Int)+1=((f+(j+1):Nat):Int):=cM;have⟨s,aZ⟩:=ju (f+j);rw[<-aZ]at C S⊢;have bq:s<=2000:=cM;have⟨b6,am,a7,c7,a0,r,H,B,an⟩:=O.at c;rw[<-hp]at r H B an;obtain⟨rfl,rfl⟩:a6=some (dt b6 0)/\c6=am:=cL;have I:=x.cell r;refine dX.iu (dX.block (dX.iu (dX.iu (dX.mono (Q:=λe l' g=>e=.normal/\Sub [(1,.slice N l.length lc),(2,i64 d),(3,i64 f),(4,dj gb),(9,fo),(10,dj ub),(11,eT b6 (jB t f n k).length c6),(12,i64 k),(13,v8),(14,i64 i),(15,i64 (s:Int)),(69,.bool (Cg t k p s))] l'/\Ext w8 g) ?_ ?_))));rintro e l' M ⟨rfl,hS,E⟩;refine dX.jJ hS (dX.of dB ⟨λao=>?_,λao=>?_⟩);rw[ao,cV rfl,List.append_nil]at C;refine dX.of dB (cY ⟨aE,v8,⟨rfl,rfl,rfl,rfl,rfl,rfl,rfl,rfl,rfl,rfl,dH (λn=>some (Value.int .i64 n)) S,trivial⟩,x.trans E,?_⟩);rw[C];exact R.ext E;rw[ao,cS Bool.false_ne_true]at C;have ad:=x.trans E;have s6:=e6.size;have a1:=ad.size;refine dX.of dB (er [] 3 λa2 nb D aF U=>eX i c (cP (by rw[dn];exact(E.trans D).cell I) (n5 (n0:=M.heap.size) oR U aF (by simp[gA]) (B.ext (ad.trans D)).cells (wz p) cM λq aG hq hE=>?_)));have ah:Ext M aG:=hE M D (di _);refine er [i64 (s:Int)] 3 λbr bs ae bd aH=>hH oR (dg.ext hq ae) (ah.trans ae).size aH cM λq' aI g1 g2 g3=>?_;have aJ:Ext M aI:=(ah.trans ae).iZ g2 (dg.ext hq ae) (di _);have ai:eO M.heap.size aI q' (p++[s]):=by unfold eO;rw[lx];simpa[gA]using g1
 obtain⟨a3,a4,rfl,_,_⟩:=ai.row;refine er [.slice a3 (p++[s]).length a4] 27 λbt bu aK be aL=>?_;have W:=aJ.trans aK;have aj:=(R.ext E).ext W;refine tM aj (ad.trans W).size (eO.low (dg.ext ai aK) a1) aL cL λv' bv g4 g5 _=>dX.of dB (cY ⟨aE,v',⟨rfl,rfl,rfl,rfl,rfl,rfl,rfl,rfl,rfl,rfl,dH (λn=>some (Value.int .i64 n)) S,trivial⟩,(ad.trans W).sn g5 λb hb=>(aj.blk hb).1,?_⟩);grind;have aM:Ext w w8:=E6.trans x;refine dX.of dB (mI ⟨λh0=>?_,λh0=>?_⟩);have aN:0<k:=cL;have ap:k-1<p.length:=cM;obtain⟨b7,o7,rfl,aq⟩:=B (k-1) ap;have bw:=ac.2 _ (eG ap);have bx:p.getD (k-1) 0=p[k-1]:=getD_eq ap;refine lQ (n:=2) cL cM (eX i c (cP (by rw[dn];omega) (fI (eX (k-1) cM (cP (x.cell aq) (lQ (n:=2) cL cM (oP ⟨λF=>?_,λF=>?_⟩))) cM))));have F:s/2<=p[k-1]/2:=cL;exact⟨rfl,⟨rfl,rfl,rfl,rfl,rfl,rfl,rfl,rfl,rfl,rfl,rfl,dH (λb=>some (Value.bool b)) (show true=Cg t k p s by grind [Cg]),trivial⟩,Ext.refl _⟩;have F:¬s/2<=p[k-1]/2:=cL;refine lQ (n:=2) cL cM (ep (ax aM) λM E=>eC (i64 t.day) (eZ ?_));exact⟨rfl,⟨rfl,rfl,rfl,rfl,rfl,rfl,rfl,rfl,rfl,rfl,rfl,dH (λb=>some (Value.bool b)) (show _=Cg t k p s by grind [Cg]),trivial⟩,E⟩;have aN:¬0<k:=cL;refine kZ rfl (lQ (n:=2) cL cM (ep (ax aM) λM E=>eC (i64 t.day) (eZ ?_)));exact⟨rfl,⟨rfl,rfl,rfl,rfl,rfl,rfl,rfl,rfl,rfl,rfl,rfl,dH (λb=>some (Value.bool b)) (show _=Cg t k p s by simp[Cg,aN]),trivial⟩,E⟩;obtain rfl:j=n:=cL;refine dX.of dB (cY ⟨c,v8,by trivial,x,?_⟩);rw[o];exact R;obtain rfl:i=(jB t f n k).length:=cL;rw[j5]at J;refine dX.of dB (dX.of dB (cY ⟨aW,v7,by trivial,e6.trans L,J.low cL⟩));obtain rfl:k=K:=cL;obtain⟨a6,c6,rfl,_,_⟩:=O.row;have ag:=BI (t:=t) (f:=f) ak aR;have E6:=E5.trans e6;refine dX.iu (dX.iu (dX.of dB ?_));have⟨A,hA⟩:=ju (jB t f n k);have a5:∀p∈A,p.length<=3/\∀s∈p,s<=2000:=λp hp=>by grind [tP]
 rw[<-hA]at O ag⊢;refine pT A.length (λi v=>[(1,.slice N l.length lc),(2,i64 d),(3,i64 f),(4,dj gb),(9,v),(10,dj ub),(11,.slice a6 A.length c6),(16,i64 i)]) (λi v g=>Ext w6 g/\fh w.heap.size g v ((A.take i).filter (wQ u.morning u.evening))/\∀b,cW v b->w6.heap.size<=b) (fo) ⟨by trivial,Ext.refl _,⟨[],dg.nil _ _ _ _,rfl,λk hk=>cL⟩,λb hb=>by have⟨_,_,e⟩:=hb;grind⟩ ?_;rintro i v7 w7 hi ⟨L,J,aO⟩;refine dX.iu (dX.of dB (dm (dN ⟨λaA=>?_,λaB=>?_⟩)));have c:i<A.length:=cL;have⟨p,hp⟩:=ju (A[i]);have ac:=a5 _ (eG c);have o:(A.take (i+1)).filter (wQ u.morning u.evening)=(A.take i).filter (wQ u.morning u.evening)++if wQ u.morning u.evening p then [p]else []:=by rw[iT c,List.filter_append,<-hp,List.filter_cons];simp
 have⟨b6,am,a7,c7,a0,r,H,B,an⟩:=O.at c;rw[<-hp]at r H B an ac;obtain⟨rfl,rfl⟩:a6=some (dt b6 0)/\c6=am:=cL;refine dX.iu (dX.block (dX.seq dB (dX.iu (dX.iu (dX.of dB ?_)))));refine pT p.length (λj (_:Unit)=>[(1,.slice N l.length lc),(2,i64 d),(3,i64 f),(4,dj gb),(9,v7),(10,dj ub),(11,eT b6 A.length c6),(16,i64 i),(17,.bool ((p.take j).any λs=>decide (s%2=0))),(18,.bool ((p.take j).any λs=>decide (s%2=1))),(19,i64 j)]) (λj _ g=>Ext w7 g) () ⟨by trivial,Ext.refl _⟩ ?_;rintro j _ w8 hj x;have I:=(L.trans x).cell r;refine dX.iu (dX.of dB (eX i c (cP (by rw[dn];omega) (dm (dN ⟨λaC=>?_,λaD=>?_⟩)))));have y:j<p.length:=cL;obtain⟨b7,o7,rfl,aq⟩:=B j y;have aa:=(L.trans x).cell aq;have a8:(p.take (j+1)).any (λs=>decide (s%2=0))=((p.take j).any (λs=>decide (s%2=0))||decide (p[j]%2=0)):=by rw[iT y,List.any_append];simp
 have a9:(p.take (j+1)).any (λs=>decide (s%2=1))=((p.take j).any (λs=>decide (s%2=1))||decide (p[j]%2=1)):=by rw[iT y,List.any_append];simp
 generalize (p.take j).any (λs=>decide (s%2=0))=X at*;generalize (p.take j).any (λs=>decide (s%2=1))=Y at*;have d1:decide (((p[j]%2:Nat):Int)=0)=decide (p[j]%2=0):=by congr 1;exact propext cM
 have d2:decide (((p[j]%2:Nat):Int)=1)=decide (p[j]%2=1):=by congr 1;exact propext cM
 have z:∀{a b:Bool},a=(X||decide (p[j]%2=0))->b=(Y||decide (p[j]%2=1))->some (Value.bool a)=some (.bool ((p.take (j+1)).any λs=>decide (s%2=0)))/\some (Value.bool b)=some (.bool ((p.take (j+1)).any λs=>decide (s%2=1))):=λh1 F=>by rw[a8,a9,h1,F];grind
 have ar:w8.cell? (dt b6 (0+i))=some (FF b7 o7 p.length c7):=cL;refine dX.iu (dX.block (dE dD ?_));refine⟨λh1=>⟨λF=>?_,λF=>?_⟩,λh1=>?_⟩;have⟨f1,f2⟩:=z (a:=true) (b:=true) cL cL;exactλM E=>dX.of dB (cY ⟨y,(),⟨rfl,rfl,rfl,rfl,rfl,rfl,rfl,rfl,f1,f2,rfl,trivial⟩,x.trans E⟩);have⟨f1,f2⟩:=z (a:=true) (b:=decide (((p[j]%2:Nat):Int)=1)) cL cL;exact gl i c (dl ar (gl j y (dl aa (.exact _ (λw _=>tx (m:=p[j]) (n:=2) cL fL) (.exact _ (λw _=>eZ fL) λM E=>dX.of dB (cY ⟨y,(),⟨rfl,rfl,rfl,rfl,rfl,rfl,rfl,rfl,f1,f2,rfl,trivial⟩,x.trans E⟩))))));refine gl i c (dl ar (gl j y (dl aa (.exact _ (λw _=>tx (m:=p[j]) (n:=2) cL fL) (.exact _ (λw _=>eZ fL) ⟨λF=>?_,λF=>?_⟩)))));have⟨f1,f2⟩:=z (a:=decide (((p[j]%2:Nat):Int)=0)) (b:=true) cL cL;exactλM E=>dX.of dB (cY ⟨y,(),⟨rfl,rfl,rfl,rfl,rfl,rfl,rfl,rfl,f1,f2,rfl,trivial⟩,x.trans E⟩);have⟨f1,f2⟩:=z (a:=decide (((p[j]%2:Nat):Int)=0)) (b:=decide (((p[j]%2:Nat):Int)=1)) cL cL;exact gl i c (dl ar (gl j y (dl aa (.exact _ (λw _=>tx (m:=p[j]) (n:=2) cL fL) (.exact _ (λw _=>eZ fL) λM E=>dX.of dB (cY ⟨y,(),⟨rfl,rfl,rfl,rfl,rfl,rfl,rfl,rfl,f1,f2,rfl,trivial⟩,x.trans E⟩))))));obtain rfl:j=p.length:=cL;rw[j5];have⟨X,hX⟩:=ju (p.any λs=>decide (s%2=0));have⟨Y,hY⟩:=ju (p.any λs=>decide (s%2=1));have ba:wQ u.morning u.evening p=((X||!u.morning)&&(Y||!u.evening)):=by grind [wQ]
 rw[<-hX,<-hY];have au:=(L.trans x).at_ az;have⟨Z,hZ⟩:=ju (wQ u.morning u.evening p);rw[<-hZ]at ba o;refine dX.iu (dX.mono (Q:=λe l' g=>e=.normal/\Sub [(1,.slice N l.length lc),(2,i64 d),(3,i64 f),(4,dj gb),(9,v7),(10,dj ub),(11,eT b6 A.length c6),(16,i64 i),(135,.bool Z)] l'/\g=w8) ?_ ?_);rintro e l' M ⟨rfl,hS,rfl⟩;have bz:=x;have E8:=E6.trans (L.trans x);have R:=J.ext x;have bb:((A.take i).filter (wQ u.morning u.evening)).length<=216:=du (List.length_filter_le _ _) cL;refine dX.jJ hS (dX.of dB ⟨λhz=>?_,λhz=>?_⟩);rw[hz,cV rfl]at o;refine eX i c (cP (by rw[dn];omega) (er [.slice a7 p.length c7] 27 λa2 nb D aF U=>tM (R.ext D) (E8.trans D).size ((dg.ext H ((L.trans x).trans D))) U cM λv' aG g1 g2 g3=>?_));refine dX.of dB (cY ⟨c,v',by trivial,((L.trans x).trans D).sn g2 aO,cL,λb hb=>?_⟩);obtain h|h:=g3 b hb;grind;exact du ((L.trans x).trans D).size h;rw[hz,cS Bool.false_ne_true,List.append_nil]at o;exact dX.of dB (cY ⟨c,v7,by trivial,L.trans x,cL,aO⟩);refine mJ.start (mJ.Cc 14 dB ?_);have z:∀{b:Bool},b=Z->some (Value.bool b)=some (.bool Z):=λh=>cL;refine⟨λh1=>⟨λF=>?_,λF=>cP (cO au rfl) (eK ?_)⟩,λh1=>cP (cO au rfl) (eK ⟨λh3=>⟨λF=>?_,λF=>cP (cO au rfl) (eK ?_)⟩,λh3=>?_⟩)⟩;exact mJ.fin ⟨rfl,⟨rfl,rfl,rfl,rfl,rfl,rfl,rfl,rfl,z cL,trivial⟩,rfl⟩;exact mJ.fin ⟨rfl,⟨rfl,rfl,rfl,rfl,rfl,rfl,rfl,rfl,z cL,trivial⟩,rfl⟩;exact mJ.fin ⟨rfl,⟨rfl,rfl,rfl,rfl,rfl,rfl,rfl,rfl,z cL,trivial⟩,rfl⟩;exact mJ.fin ⟨rfl,⟨rfl,rfl,rfl,rfl,rfl,rfl,rfl,rfl,z cL,trivial⟩,rfl⟩;exact mJ.fin ⟨rfl,⟨rfl,rfl,rfl,rfl,rfl,rfl,rfl,rfl,z cL,trivial⟩,rfl⟩;obtain rfl:i=A.length:=cL;rw[j5]at J;exact dX.of dB ⟨_,rfl,E6.trans L,J⟩
end
def Q9{x:Sx}{t:Td}(h:qC I x t)(g:0<=t.mornings/\0<=t.evenings)(a:gY H.tries x=false):qD H.tries t=ja H x:=by
 have b:=h.tries;have c:=h.mornings;have d:=h.evenings;have e:sD H x=(decide (1<H.tries)&&decide (t.mornings=0)):=by grind [sD];
 have f:uE H x=(decide (1<H.tries)&&decide (t.evenings=0)):=by grind [uE];
 have i:H.tries<=t.times->1<H.tries/\(t.mornings=0\/t.evenings=0):=λj=>by unfold gY at a;rw[b,c,d]at a;simp only[Bool.or_eq_false_iff,Bool.and_eq_false_iff,decide_eq_false_iff_not]at a;omega
 unfold qD ja EM;rw[e,f,b];congr 1;generalize k:decide (1<H.tries)=B;grind [decide,IB]
def LX(t:Td)(f n:Nat):Nat->Nat->List cN->List cN
 |0,_,a=>a
 |c+1,k,a=>LX t f n c (k+1) (a.flatMap (mB t f n k))
theorem BJ(t:Td)(f n:Nat):∀(c k:Nat) (a:List cN),LX t f n c k a=a.flatMap λp=>LX t f n c k [p]
 |0,k,a=>by simp[LX]
 |c+1,k,a=>by simp only[LX];rw[BJ t f n c (k+1) (a.flatMap _),List.flatMap_assoc];congr 1;funext p;rw[BJ t f n c (k+1) ([p].flatMap _)];simp
theorem H9(t:Td)(f n:Nat):∀(c k:Nat) (a:List cN),LX t f n (c+1) k a=(LX t f n c k a).flatMap (mB t f n (k+c))
 |0,k,a=>rfl
 |c+1,k,a=>by have:=H9 t f n c (k+1) (a.flatMap (mB t f n k));rw[show k+1+c=k+(c+1) by omega]at this;exact this
theorem LY(t:Td)(f n:Nat):∀k,jB t f n k=LX t f n k 0 [[]]
 |0=>rfl
 |k+1=>by rw[H9,<-LY t f n k,dn];rfl
def Kc{c:Type}{L f sh:Nat}(g:Nat->List c)(e:f<=sh)(h:∀s,f<=s->s<sh->s<L->g s=[]):(List.range (L-f)).flatMap (λj=>g (f+j))=(List.range (L-sh)).flatMap λi=>g (sh+i):=by
 have b:∀(a m:Nat),(List.range m).flatMap (λj=>g (a+j))=(List.range' a m).flatMap g:=λa m=>by rw[List.range'_eq_map_range,List.flatMap_map]
 rw[b,b];have nil:∀(a m:Nat),(∀s,a<=s->s<a+m->g s=[])->(List.range' a m).flatMap g=[]:=λa m h=>by grind [List.flatMap_eq_nil_iff]
 obtain d|d:=Nat.le_total sh L;rw[show L-f=(sh-f)+(L-sh) by omega,<-List.range'_append_1,List.flatMap_append,show f+(sh-f)=sh by omega,nil f (sh-f) cL,qI];grind
theorem wR{x:Sx}{t:Td}(h:qC I x t)(f:fl H<=6)(q:I<=m)(u:Du)(v:u.tries=k):∀(c a:Nat),a+c=k->∀(b:Nat) (p:cN) (sh:Nat),c<b->p.length=a->m<=sh->(a=0->sh=m)->(0<a->p.getD (a-1) 0+1=sh)->lB (fl H) x u b p sh=(LX t m (fl H-m) c a [p]).filter (wQ u.morning u.evening)
 |0,a,g,b+1,p,sh,_,w,e,y,n=>by rw[lB,cV cM];simp only[LX,List.filter_cons,List.filter_nil];rfl
 |c+1,a,g,b+1,p,sh,z,w,e,y,n=>by
  rw[lB,cS cM];have D:=wR h f q u v c (a+1) cM
  have d:(LX t m (fl H-m) (c+1) a [p]).filter (wQ u.morning u.evening)=(List.range (fl H-m)).flatMap λj=>(λs=>if Cg t a p s then []else(LX t m (fl H-m) c (a+1) [p++[s]]).filter (wQ u.morning u.evening)) (m+j):=by
   simp only[LX];rw[BJ];simp only[vQ,List.flatMap_nil,List.append_nil,mB];rw[List.flatMap_map,List.filter_flatMap];generalize List.range (fl H-m)=l;induction l with
   |nil=>rfl
   |cons j r A=>
    grind
  rw[d];refine Eq.trans ?_ (Kc (sh:=sh) (λs=>if Cg t a p s then []else(LX t m (fl H-m) c (a+1) [p++[s]]).filter (wQ u.morning u.evening)) e λs E F G=>?_).symm;rw[List.flatMap_def,List.flatMap_def];refine dH List.flatten (List.map_congr_left λi o=>?_);have o:=gf.1 o;have B:qW x p (sh+i)=Cg t a p (sh+i):=by
   have J:px x ((sh+i)/2)=decide ((((sh+i)/2:Nat):Int)=t.day):=by have:=h.day (sh+i) cM cM;grind
   unfold qW Cg;grind
  grind;have C:0<a:=by grind
  have:=n C;have:Cg t a p s=true:=by grind [decide_eq_true,Cg]
  grind
def Kd(c:H.Ok){x:Sx}{t:Td}(d:qC I x t)(g:0<=t.mornings/\0<=t.evenings)(h:0<=t.times)(i:gY H.tries x=false)(j:I<=m):BH H t m=jz H x m:=by
 have k:=c.days;have l:=c.tries;have e:=Q9 d g i;have a:=Fh (T:=H.tries) (t:=t) cM h;have b:(qD H.tries t).tries<=max 1 H.tries:=by grind [qD]
 rw[e]at a b;unfold BH jz;rw[e];have⟨K,f⟩:∃K:Nat,(ja H x).tries=K:=⟨(ja H x).tries.toNat,cM⟩;rw[f,ow];rw[wR d (by grind [fl]) j (ja H x) f K 0 dq _ [] m (by grind [fl]) rfl (di _) cM cM,LY];rfl
structure Xm(G:Gd)(l:List Tq):Prop where
 g:eo G=0
 sh:∀q∈l,0<=q.shift/\q.shift<=1000
 len:(fA G l).2.length=G.doors.length
 both:∀d:Nat,d<G.doors.length->qC (dV l) ((fA G l).2.getD d qw) (sx d sv l)
theorem Ia{G:Gd}(x:G.days<=3):∀(l a:List Tq) (b:List Sx),b.length=G.doors.length->(∀d:Nat,d<G.doors.length->qC (dV a) (b.getD d qw) (sx d sv a))->(oZ G b (dV a) l).1=0->(∀q∈l,0<=q.shift/\q.shift<=1000)/\(oZ G b (dV a) l).2.length=G.doors.length/\∀d:Nat,d<G.doors.length->qC (dV (a++l)) ((oZ G b (dV a) l).2.getD d qw) (sx d sv (a++l))
 |[],a,b,g,f,_=>⟨λq y=>by simp at y,g,by rw[List.append_nil];exact f⟩
 |q::r,a,b,g,f,h=>by simp only[oZ]at h⊢;by_cases i:(kT q.door 0 ((G.doors.iw:Int)-1)&&kT q.shift 0 (2*G.days-1))=true;rw[cV i]at h⊢;simp only[kT,eW,kM]at i;have⟨d,j⟩:∃d:Nat,q.door=(d:Int):=⟨q.door.toNat,cM⟩;have⟨s,p⟩:∃s:Nat,q.shift=(s:Int):=⟨q.shift.toNat,cM⟩;have k:d<G.doors.iw:=cM;have m:s<6:=cM;have z:=f d k;by_cases t:q.shift<dV a;rw[cV t]at h;cases h;rw[cS t]at h⊢;have A:q.shift.toNat=s:=cM;have n:q.door.toNat=d:=cM;rw[A,n]at h⊢;by_cases u:px (b.getD d qw) (s/2)=true;rw[cV u]at h;cases h;rw[cS u]at h⊢;by_cases v:gY G.tries (b.getD d qw)=true;rw[cV v]at h;cases h;rw[cS v]at h⊢;have e:q.shift=dV (a++[q]):=(og a q).symm;rw[e]at h⊢;have:=Ia x r (a++[q]) _ (fB g) (λw o=>?_) h;rw[List.append_assoc]at this;refine⟨λB c=>?_,this.2⟩;obtain rfl|c:=fi.1 c;omega;exact this.1 B c;rw[og,wO,p];by_cases C:w=d;subst C;rw[cV j,gW,List.getElem?_set_self cM];exact z.step q s p m cM;rw[cS cM,gW,List.getElem?_set_ne cM,<-gW];exact(f w o).mono cM;rw[cS i]at h;cases h
def nF{G:Gd}{l:List Tq}(h:kH G l=0):Xm G l:=by
 have a:eo G=0:=by unfold kH at h;by_cases b:eo G=0;exact b;rw[cS b]at h;exact absurd h b
 have c:(fA G l).1=0:=by unfold kH at h;rwa[cV a]at h
 have:=Ia (eD a).days.2 l [] _ dq (λd e=>by rw[gW,List.getElem?_replicate,cV e];exact qC.zero) c;exact⟨a,this.1,this.2.1,this.2.2⟩
section
variable{G:Gd}{da:Option Addr}{dc:Nat}{w:cJ}{l:List Tq}{la:Option Addr}{lc:Nat}
end
section
variable{G:Gd}{da:Option Addr}{dc:Nat}{w:cJ}{l:List Tq}{la:Option Addr}{lc:Nat}
end
variable{G:Gd}{da:Option Addr}{dc:Nat}{w:cJ}
def zq{l:List Tq}(h:dK G l I J=0):eo G=0/\kH G l=0:=by
 have a:kH G l=0:=by unfold dK at h;by_cases a:kH G l=0;exact a;rw[cS a]at h;exact absurd h a
 refine⟨?_,a⟩;unfold kH at a;by_cases b:eo G=0;exact b;rw[cS b]at a;exact absurd a b
section
variable{G:Gd}{da:Option Addr}{dc:Nat}{w:cJ}{l:List Tq}{la:Option Addr}{lc:Nat}
end
section
variable{G:Gd}{da:Option Addr}{dc:Nat}{w:cJ}{l:List Tq}{la:Option Addr}{lc:Nat}
end
section
variable{x y:dU}{w:cJ}
end
def lS.ext{c:Type}{f:c->dP}{l:List c}(h:lS f m w a l)(e:Ext w t):lS f m t a l:=λk d=>by have⟨b,o,g,i⟩:=h k d;exact⟨b,o,g,λj v n=>e.cell (i j v n)⟩
def Ke{a:Type}(f:a->dP)(n b:Nat)(w:cJ)(l:List a):Prop:=∀k (h:k<l.length),∀j v,(f l[k])[j]? =some v->w.cell? ⟨b,0+k*n+j,none⟩=some v
theorem Ke.of{a:Type}{f:a->dP}{l:List a}{t:cR}(b:∀x,(f x).length=m)(c:w.heap[k]? =some (.cells (l.flatMap f).toArray t)):Ke f m k w l:=λd e j v g=>by refine cO c ?_;rw[dn];simpa using rW b l d e j v g
def Ke.ext{a:Type}{f:a->dP}{l:List a}(h:Ke f m k w l)(e:Ext w t):Ke f m k t l:=λb c j v d=>e.cell (h b c j v d)
def BK{a:Type}(f:a->cK)(b:Nat)(w:cJ)(l:List a):Prop:=∀k (h:k<l.length),w.cell? ⟨b,0+k,none⟩=some (f l[k])
theorem BK.of{a:Type}{f:a->cK}{l:List a}{t:cR}(b:w.heap[m]? =some (.cells (l.map f).toArray t)):BK f m w l:=λk c=>by refine cO b ?_;rw[dn];simp[c]
def BK.ext{a:Type}{f:a->cK}{l:List a}(h:BK f m w l)(e:Ext w t):BK f m t l:=λk b=>e.cell (h k b)
structure Dv(w:cJ)(la:Option Addr)(lc:Nat)(l:List Tq):Prop where
 row:kz w la l
 len:l.length<=31
 cap:l.length<=lc
 nil:la=none->l.length=0
theorem Dv.ext{l:List Tq}(h:Dv w a m l)(e:Ext w t):Dv t a m l:=⟨h.row.ext e,h.len,h.cap,h.nil⟩
structure Ra(w:cJ)(da:Option Addr)(G:Gd):Prop where
 row:gZ w da G.doors
 len:G.doors.length<=20
theorem Ra.ext(h:Ra w a H)(e:Ext w t):Ra t a H:=⟨h.row.ext e,h.len⟩
def Ib:Calls V.prog 76 #[gV H a m] w (fO λv b=>v=.bool (decide (20<H.doors.length))/\Ext w b):=by refine jd Tryz.func76 Tryz.ntmps76 ?_;refine eJ λf g c d e=>cP (cO e rfl) (dm (mI ⟨_,rfl,dH Value.bool ?_,c⟩));rw[Bool.eq_iff_iff];simp only[decide_eq_true_iff];omega
def zp.Yz{l:List Tq}(h:zp m w x l)(d:l.length<=31):∃a c,x=.slice a l.length c/\Dv w a c l:=by obtain⟨a,c,rfl,f,g⟩:=h.row;refine⟨a,c,rfl,f,d,g,λe=>?_⟩;subst e;obtain⟨_,⟨i,_⟩|⟨b,j,k,_,e,_⟩⟩:=h;exact i;injection e with e;cases e
def sE.q{l:List Ty}(h:sE m w x l):zp m w x (l.map Wj):=by unfold zp;rw[nP,List.flatMap_map];exact h
def eO.rowOf(h:eO m w (.slice a k i) l):fJ w a l:=by have⟨b,c,e,d,f⟩:=h.row;grind
section
variable{G:Gd}{l:List Ty}{s f:Nat}{S:List Nat}
end
theorem nJ.keep{c:List (Nat×cN)}(h:nJ m w x c)(e:dz A w t)(d:∀b,m<=b->¬A b):nJ m t x c:=by have⟨i,j,f,l⟩:=h;exact⟨i,j,dg.keep f e λb a=>d b (dg.blk f a).1,λk n=>by have⟨u,o,g⟩:=l k n;exact⟨u,o,dg.keep g e λb a=>d b (dg.blk g a).1⟩⟩
def DE.own(h:DE m w t)(k:dz (cW x) t e)(c:∀a,cW x a->w.heap.size<=a):DE m w e:=
 ⟨(h.1.trans k (H:=λa=>a=m\/w.heap.size<=a) (λ_ _ h=>.inl h) λa _ b=>.inr (c a b)).trans (dz.refl (λ_=>False) _) (λa b h=>h.elim id λh=>cM) λ_ _ h=>h.elim,λd=>(h.2 d).keep k λa b=>Cq (c a b) d.lt⟩
structure BL(t0:cR)(n0:Nat)(a b:cJ):Prop where
 k:dz (λx=>n0<=x) a b
 p:∀(x:Nat) cs t,t≠t0->a.heap[x]? =some (.cells cs t)->b.heap[x]? =some (.cells cs t)
 q:∀(x:Nat) cs,a.heap[x]? =some (.cells cs t0)->∃tU:Array cK,b.heap[x]? =some (.cells tU t0)/\tU.size=cs.size
abbrev Rb:=BL 24
def YA(i:cR)(j:Nat):gH (BL i j):=
 ⟨λw=>⟨dz.refl _ w,λ_ _ _ _ h=>h,λ_ d h=>⟨d,h,rfl⟩⟩,λa b c h k=>⟨h.k.trans k.k (λ_ _ h=>h) λ_ _ h=>h,λx d t g e=>k.p x d t g (h.p x d t g e),λx d e=>by have⟨f,l,n⟩:=h.q x d e;have⟨m,o,r⟩:=k.q x f l;grind⟩,λw=>⟨(Ext.drew w).keep _,λx d t _ e=>(Ext.drew w).at_ e,λx d e=>⟨d,(Ext.drew w).at_ e,rfl⟩⟩⟩
def YB(a:Nat):gH (Rb a):=YA 24 a
def Ext.eu(h:Ext w t)(c:cR)(d:Nat):BL c d w t:=⟨h.keep _,λx b e _ a=>h.at_ a,λx b a=>⟨b,h.at_ a,rfl⟩⟩
def Ext.et(h:Ext w t)(a:Nat):Rb a w t:=h.eu 24 a
def dg.et(h:dg k U M w x i Y)(e:BL T m w t)(f:U≠T):dg k U M t x i Y:=by obtain⟨a,h|⟨b,c,d,g,j,l,n⟩⟩:=h;exact⟨a,.inl h⟩;exact⟨a,.inr ⟨b,c,d,g,j,e.p b d U f l,n⟩⟩
theorem BL.ext(h:BL T m w t)(a:w.heap.size<=m):Ext w t:=h.k.ext λx b=>cM
def BM{b:Type}(f:cJ->dW->List b->Prop)(l:List b)(e:Int)(u:cK)(w:cJ):Prop:=∃a c,u=.tuple #[.slice a l.length c,.int .i64 e]/\f w a l
def Ic{b:Type}(f:cJ->dW->List b->Prop)(l:List b)(u:cK)(w:cJ):Prop:=∃a c,u=.slice a l.length c/\f w a l
section
variable{w:cJ}{kx:cK->Prop}{kr kp kl:io->Prop}{lb ea:Bool}
def BN{a:dP}(b:∀j v,a[j]? =some v->w.cell? ⟨m,o+j,none⟩=some v)(k:kx (.agg a.toArray))(c:G3 T=some true:=by rfl)(d:PK T=some a.length:=by rfl):xq Ext Ext w (λf g=>jO V.prog (Instr.loadAt T (.pointer (some ⟨m,o,none⟩))) f g) kx kr kp lb kl ea:=
 .exact _ (λ_ e=>ez (λj v h=>e.cell (b j v h)) fL c d) k
def pU{a:dW}(b:w.heap[k]? =some (.cells (gL H a m).toArray 24))(c:kx (gV H a m)):xq Ext Ext w (λd f=>jO V.prog (Instr.loadAt 24 (.pointer (some ⟨k,0,none⟩))) d f) kx kr kp lb kl ea:=
 .exact _ (λ_ e=>eF (e.at_ b) fL) c
def Kf{x y:dU}{m:Int}{a:IntKind}(h:kx (.bool false)):xq Ext Ext w (λb f=>jO V.prog (do eqGuard .neq T x y (.int a m) (.int a m);binOp .neq T (.int a m) (.int a m)) b f) kx kr kp lb kl ea:=
 .exact _ (λ_ _=>gP ⟨dH Value.bool dq,Ext.refl _⟩) h
end
def Ext.cl{w a:cJ}{b:dP}(e:Ext w a)(h:∀j v,b[j]? =some v->w.cell? ⟨m,o+j,none⟩=some v):∀j v,b[j]? =some v->a.cell? ⟨m,o+j,none⟩=some v:=λj v k=>e.cell (h j v k)
def Rc{l:eY}{c a:dW}{w:cJ}(e:iF w c l)(d:iF w a l)(b:l.length<=100000):Calls V.prog 58 #[.slice c l.length m,.slice a l.length k] w (fO λv f=>v=.bool true/\Ext w f):=by have:=AL l l c a m k w e d b;simpa using this
section
variable{α:Type}{f:cJ->Option Addr->List α->Prop}{l:List α}{A:Int}
def BM.st(d:∀{w c:cJ} {a:dW} {l:List α},f w a l->Ext w c->f c a l):∀v a b,BM f l A v a->Ext a b->BM f l A v b:=λ_ _ _ ⟨x,y,g,h⟩ e=>⟨x,y,g,d h e⟩
def Ic.st(d:∀{w c:cJ} {a:dW} {l:List α},f w a l->Ext w c->f c a l):∀v a b,Ic f l v a->Ext a b->Ic f l v b:=λ_ _ _ ⟨x,y,g,h⟩ e=>⟨x,y,g,d h e⟩
def BM.cs{v:cK}{w:cJ}{P:cK->Prop}(h:BM f l A v w)(k:∀x y,f w x l->P (.tuple #[.slice x l.length y,.int .i64 A])):P v:=by obtain⟨x,y,rfl,h⟩:=h;exact k x y h
end
def V2{w:cJ}{r:dC}{n:eH}{v:cK}(d:dP)(o:w.heap[k]? =some (.cells n T))(f:n.size=d.length)(p:m<=k)(s:∀g,BL T m w g->g.heap[k]? =some (.cells d.toArray T)->r g)(l:v.cells=d.toArray:=by rfl)(u:sB d=true:=by rfl)(y:PK T=some d.length:=by rfl):Eo V.prog (Instr.storeAt T (.pointer (some ⟨k,0,none⟩)) v) w r:=by refine jw o (by rw[l];simp[f]) (λg q z=>?_) (by rw[l];exact gJ u) (by rw[l];exact y);have c:fF g k d.toArray T:=z.trans (dH (λa=>some (Obj.cells a T)) (by rw[l];exact ef n d f));refine s g ⟨q.trans (dz.refl (λ_=>False) _) (λx _ b=>by subst b;exact p) λ_ _ h=>h.elim,λx i t A b=>q.fN b λe=>?_,λx i b=>?_⟩ c;subst e;exact lf b o A;by_cases j:x=k;subst j;rw[o]at b;injection b with b;injection b with b;subst b;exact⟨_,c,by simp[f]⟩;exact⟨i,q.fN b j,rfl⟩
def V3(a:Int)(l:cN):eY:=if a=0 then nS l else []
def Rd(A:Int)(u:cK)(_:cJ):Prop:=u=.int .i64 A
def Rd.st{A:Int}:∀v a b,Rd A v a->Ext a b->Rd A v b:=λ_ _ _ h _=>h
def YC{R:io}{w:cJ}:∀a,Ext w a->∀u,R u a->R u a/\Ext a a:=λ_ _ _ h=>⟨h,Ext.refl _⟩
def zI{n:Nat}{l:cN}(a:l.Pairwise (·<·))(b:n<=5)(c:∀d∈l,d<n):l.length<=5:=by have h:∀d∈l,d<5:=cL;rw[<-Bs a h];exact lZ (eB l) 5
section
variable{G:Gd}{da:Option Addr}{dc:Nat}{w:cJ}{la:Option Addr}{lc:Nat}
def Ci(H:eo G=0)(S:gZ w da G.doors){l:List Nat}(hr:fJ w la l)(T:l.Pairwise (·<·))(U:∀d∈l,d<G.doors.length)(hc:l.length<=lc):
 Calls V.prog 148 #[gV G da dc,.slice la l.length lc] w (fO λv D=>Ext w D/\eO w.heap.size D v (dG G (eB l))):=by
 have W:=eD H;have I:=W.many;have n:=zI T I U;refine go (V.fn Tryz.func148 cL) Tryz.ntmps148 ?_;refine eJ λX gb J aa hb=>cX (yS l.length l la lc X rfl n (hr.ext J) hc) ?_;rintro v E ⟨Y,u⟩;have E2:=J.trans Y;have K:=Y.at_ hb;have⟨f,i⟩:=ju (yL l);have u:fh X.heap.size E v f:=by rw[i];exact u
 have x:0<f.length:=by rw[i];exact NV _ l rfl
 have L:f.length<=3125:=by rw[i];exact du (uw l.length l n) (du (Nat.pow_le_pow_right dq n) cL)
 have j:∀r∈f,(∀d∈r,d<G.doors.length)/\r.length<=1000:=λr h=>by rw[i]at h;exact⟨H2 U r h,iI (xR _ l rfl r h)⟩
 have M:∀r∈f,0<=mT G r:=λr h=>(rL (n4 W) r).1;have y:∀{b},uU G f f.length b->f.getD b []=dG G (eB l):=λh=>by rw[i]at h⊢;exact h.fin T cL n
 clear i;obtain⟨a,c,rfl,_,_⟩:=u.row;refine fc (f.length-1) (λk (b:Nat)=>[(2,dj gb),(5,.slice a f.length c),(6,i64 b),(7,i64 ((k+1:Nat):Int))]) (λk b D=>Ext E D/\uU G f (k+1) b) 0 ⟨by trivial,Ext.refl _,uU.init x⟩ ?_;rintro k b w3 hk ⟨m,F⟩;have o:=F.1;have q:f.getD b []=f[b]:=cL;have⟨Z,c1,a8,c8,e,t,N,O,_⟩:=u.at o;cases e;have z:=m.at_ K;have P:=E2.trans m;have t:E.cell? ⟨Z,0+b,none⟩=some (.slice a8 f[b].length c8):=cL;refine dm (dN ⟨λab=>?_,λac=>?_⟩);have p:k+1<f.length:=cL;have⟨ad,ae,a7,c7,e,A,af,Q,_⟩:=u.at p;cases e;have A:E.cell? ⟨Z,0+(k+1),none⟩=some (.slice a7 f[k+1].length c7):=cL;have B:=j _ (eG p);have C:=j _ (eG o);have g:=F.step p M;rw[q]at g;refine dE dD ?_;refine pU z<|gl (k+1) p<|dl (m.cell A) ?_;refine il _ (λw4 s=>xW (dc:=dc) H (S.ext (P.trans s)) (Q.ext (m.trans s)) B.1 B.2) ?_;refine pU z<|gl b o<|dl (m.cell t) ?_;refine il _ (λw4 s=>xW (dc:=dc) H (S.ext (P.trans s)) (O.ext (m.trans s)) C.1 C.2)<|G4 λw4 s=>⟨λh=>?_,λh=>?_⟩;rw[cV (fx h)]at g;exact cY ⟨cM,k+1,by trivial,m.trans s,g⟩;rw[cS (ie h)]at g;exact cY ⟨cM,b,by trivial,m.trans s,g⟩;have R:k+1=f.length:=cL;rw[R]at F;have hS:=y F;rw[q]at hS;refine eX b o (cP (m.cell t) ⟨_,rfl,P,?_⟩);rw[<-hS];exact(eO.low N J.size).ext m
end
def Ie(d:Nat)(w:cJ)(v:cK)(c:List cN):Prop:=∃a:dP,dg d 27 [.slice none 0 0] w v c.length a/\a.length=c.length/\(∀k (h:k<c.length),∃u,a[k]? =some u/\eO d w u c[k])/\∀(i j:Nat) (u e:cK) (b:Nat),a[i]? =some u->a[j]? =some e->cW u b->cW e b->i=j
def Ie.own{a:List cN}(h:Ie m w x a):fh m w x a:=by have⟨b,c,d,e,_⟩:=h;exact⟨b,c,d,e⟩
theorem Ie.ext{a:List cN}(h:Ie m w x a)(e:Ext w t):Ie m t x a:=by have⟨b,c,d,f,g⟩:=h;refine⟨b,c.ext e,d,λk i=>?_,g⟩;have⟨u,j,l⟩:=f k i;exact⟨u,j,dg.ext l e⟩
def LZ{b:nu}{R:Array Bool}{g n1:Nat}{c:List cN}(E:dg g 27 [.slice none 0 0] w x c.length M)(L:M.length=c.length)(S:∀b (h:b<c.length),∃y,M[b]? =some y/\eO g w y c[b])(F:∀(i j:Nat) (y N:cK) (m:Nat),M[i]? =some y->M[j]? =some N->cW y m->cW N m->i=j)(G:g<=w.heap.size)(d:∀y∈M,∀m,cW y m->m<n1)(H:eO g w y l)(n:∀m,cW y m->n1<=m)(U:w.heap[m]? =some (.cells [y].toArray 27))(o:c.length+1<=1000000) (A:∀B p,Ie g p B (c++[l])->dz (cW x) w p->b B p):zd V.prog (builtin .append #[66,66] T R #[x,.slice (some ⟨m,0,none⟩) 1 k]) w b:=by
 have q:y.oneCell'=true:=by obtain⟨a,k,rfl,_⟩:=H.row;rfl
 refine hH Jw E G U o (λB p W I g3=>A B p ⟨M++[y],fB W,by simp[L],λi r=>?_,λi j C O m r s J K=>?_⟩ I) rfl (by simp[sB,q]);obtain t|X:=gC i c.length;have⟨C,F,P⟩:=S i t;refine⟨C,by rw[yd cM];exact F,?_⟩;rw[nm t];exact P.keep I (iB P E kg);obtain rfl:i=c.length:=by simp at r;omega
 refine⟨y,by rw[ye cM];simp[L],?_⟩;simp only[se (di _),lJ,nO];exact H.keep I (iB H E kg);have Y:=(nk.1 r).1;have Z:=(nk.1 s).1;simp only[lx,fa,fP]at Y Z;have e:∀{b:Nat} {z:cK},b<M.length->(M++[y])[b]? =some z->M[b]? =some z:=λA u=>by rwa[yd A]at u
 have f:∀{b:Nat} {z:cK},¬b<M.length->(M++[y])[b]? =some z->z=y/\b=M.length:=λ{b z} A u=>by have hl:=(nk.1 u).1;simp only[lx,fa,fP]at hl;obtain rfl:b=M.length:=cM;simp at u;exact⟨u.symm,rfl⟩
 by_cases Q:i<M.length;have D:=e Q r;by_cases v:j<M.length;exact F i j C O m D (e v s) J K;obtain⟨rfl,_⟩:=f v s;have:=d C (pz D) m J;have:=n m K;omega;obtain⟨rfl,D⟩:=f Q r;by_cases v:j<M.length;have:=d O (pz (e v s)) m K;have:=n m J;omega;rw[D,(f v s).2]
def Re(h:dg m U [z] w (.slice (some ⟨j,0,none⟩) k o) k M)(H:i<k)(e:x.cells=#[x])(s:x.oneCell'=true)(t:∀b,dg m U [z] b (.slice (some ⟨j,0,none⟩) k o) k (M.set i x)->dz (λl=>l=j) w b->S b)(u:PK T=some 1:=by rfl):Eo V.prog (Instr.storeAt T (.pointer (some ⟨j,0+i,none⟩)) x) w S:=by obtain⟨n,⟨I,_⟩|⟨v,J,p,y,U,A,q,B,C,D,E⟩⟩:=h;omega;injection U with U _ F;obtain rfl:j=v:=dH Addr.block (dT U);subst F;simp only[fa,fP,rm,dn]at n q;refine jw A (by rw[e];show 0+i+1<=_;omega) (λb G g=>t b ⟨fB n,.inr ⟨j,o,p.setIfInBounds i x,y,rfl,?_,fB q,B,C,λf c=>?_,λf c d=>?_⟩⟩ G) (λl r=>by rw[e]at r;rw[jE.1 r];exact s) (by rw[e];exact u);rw[g,e];show some (Obj.cells (p.setIfInBounds (0+i) _) _)=_;rw[dn];rw[sJ]at c;by_cases a:i=f;subst a;rw[ou cM,List.getElem?_set_self cM];rw[gd a,List.getElem?_set_ne a];exact D f c;rw[sJ]at c;rw[Array.size_setIfInBounds]at d;rw[gd cM];exact E f c d
def TW(h:dg m 27 [.slice none 0 0] w (.slice (some ⟨j,0,none⟩) k o) k M)(c:i<k)(d:∃a l o,x=.slice a l o)(e:∀b,dg m 27 [.slice none 0 0] b (.slice (some ⟨j,0,none⟩) k o) k (M.set i x)->dz (λf=>f=j) w b->S b):Eo V.prog (Instr.storeAt 27 (.pointer (some ⟨j,0+i,none⟩)) x) w S:=by obtain⟨a,l,g,rfl⟩:=d;exact Re h c rfl rfl e
def NY(o:Option (List cN))(a:Nat)(u:cK)(w:cJ):Prop:=∀D,o=some D->fh a w u D
def Oo(o:Option (List cN))(a:Nat)(v:cK)(w:cJ):Prop:=∃u,v=.tuple #[u,.bool o.isSome]/\NY o a u w
def NY.st{o:Option (List cN)}{c:Nat}:∀v a b,NY o c v a->Ext a b->NY o c v b:=λ_ _ _ h e D d=>(h D d).ext e
theorem Oo.st{o:Option (List cN)}{c:Nat}:∀v a b,Oo o c v a->Ext a b->Oo o c v b:=λ_ _ _ ⟨u,d,f⟩ e=>⟨u,d,NY.st _ _ _ f e⟩
def Oo.cs{o:Option (List cN)}{a:Nat}{P:cK->Prop}(h:Oo o a x w)(k:∀u,NY o a u w->P (.tuple #[u,.bool o.isSome])):P x:=by obtain⟨u,rfl,h⟩:=h;grind
def V4(A:Bool)(u:cK)(_:cJ):Prop:=u=.bool A
def V4.st{A:Bool}:∀v a b,V4 A v a->Ext a b->V4 A v b:=λ_ _ _ h _=>h
theorem NY.low{o:Option (List cN)}{a b:Nat}(h:NY o a x w)(c:b<=a):NY o b x w:=λD d=>(h D d).low c
section
variable{G:Gd}{da:Option Addr}{dc:Nat}
def Ig(a:G.Ok){g:cN}(b:∀d∈g,d<G.doors.length):(∀d∈dG G (eB g),d<G.doors.length)/\(dG G (eB g)).length<=1000:=by have h:=(oe a (eB g)).1;have c:=ky.eB (G:=G) a.many (l:=g) b;exact⟨λd e=>c.2 d (h.mem_iff.1 e),by grind [rP]⟩
def NZ{b:List cN}{d i:Nat}{r:cN}(c:(d::r).Pairwise (·<·))(h:∀g∈b,g.Pairwise (·<·)/\∀x∈g,∀y∈d::r,x<y):∀g∈gq b d i,g.Pairwise (·<·)/\∀x∈g,∀y∈r,x<y:=by have e:=List.pairwise_cons.1 c;unfold gq;intro g a;split at a;rename_i f;obtain a|rfl:=vR a;grind;grind;grind
theorem wS(hG:eo G=0)(m:Nat)(hm:m<=5):∀(l:List Nat) (a:Option Addr) (c:Nat) (gs:List (List Nat)) (gv:Value) (n0:Nat) (w:World),gZ w da G.doors->l.Pairwise (·<·)->(∀g∈gs,g.Pairwise (·<·)/\∀x∈g,∀y∈l,x<y)->(∀d∈l,d<G.doors.length)->(∀g∈gs,∀d∈g,d<G.doors.length)->gs.length<=m->fJ w a l->l.length<=c->fh n0 w gv gs->Calls V.prog 152 #[gV G da dc,.slice a l.length c,gv,.int .i64 m] w (fO λv w'=>Ext w w'/\Oo (lR G m l gs) w.heap.size v w')
 |[],a,c,gs,gv,n0,w,hd,_,XN,_,YD,Zm,_,_,hg=>by
  have ok:=eD hG;refine go (V.fn Tryz.func152 cL) Tryz.ntmps152 ?_;refine eJ λw1 gb e1 Zj hb=>dm (eZ (ko dq ?_));obtain⟨ga,gc,rfl,_,_⟩:=hg.row;refine fc gs.length (λk v=>[(2,.slice ga gs.length gc),(3,.int .i64 m),(4,dj gb),(10,v),(11,.int .i64 k)]) (λk v w'=>Ext w1 w'/\fh w1.heap.size w' v (vI G (gs.take k))/\∀g∈gs.take k,yP G g=true) (.slice none 0 0) ⟨⟨rfl,rfl,rfl,rfl,rfl,trivial⟩,Ext.refl _,⟨[],dg.nil _ _ _ _,rfl,λk hk=>by simp[vI]at hk⟩,λg hg=>cL⟩ ?_;rintro k v w2 hk ⟨e2,hv,hs⟩;have E2:=e1.trans e2;have Q4:=e2.at_ hb;refine dm (dN ⟨λXj=>?_,λZl=>?_⟩)
  ·have BD:k<gs.length:=cL;have⟨b1,c1,a7,c7,e,Zn,Zo,Z3,YE⟩:=(hg.ext E2).at BD;cases e;have Zp:=YD _ (List.getElem_mem BD);have⟨Z4,Z5⟩:=Ig ok Zp;have XO:gs.take (k+1)=gs.take k++[gs[k]]:=List.take_succ_eq_append_getElem BD;refine dE dD ?_;refine pU Q4<|gl k BD<|dl (by rw[Nat.zero_add];omega) ?_;refine .rel (λu w3=>eO w1.heap.size w3 u (dG G (eB gs[k]))) (λu a b h e=>dg.ext h e) (λw3 e3=>cX (Ci (dc:=dc) hG (hd.ext (E2.trans e3)) (Z3.ext e3) (XN _ (List.getElem_mem BD)).1 Zp YE) λu w4 ⟨e4,h4⟩=>⟨h4.low (e2.trans e3).size,e4⟩) ?_;refine .rel (λu w3=>eO w1.heap.size w3 u (dG G (eB gs[k]))) (λu a b h e=>dg.ext h e) (λw3 e3=>?_) ?_
   ·repeat intro _
    exact⟨cL,Ext.refl _⟩
   intro w3 e3 u hu;repeat intro _
   obtain⟨a9,c9,rfl,Z6,hc9⟩:=hu.row;have Zq:=e3.at_ Q4;have E3:=E2.trans e3;refine dE dD ?_;refine pU Zq<|il _ (λw4 e4=>Kb (dc:=dc) hG (hd.ext (E3.trans e4)) (Z6.ext e4) Z4 Z5) ?_;refine .exact (.int .i64 (iA G (dG G (eB gs[k])))) (λw1 _=>eC _ ⟨rfl,Ext.refl _⟩) (dl (cO Zq rfl) (AG λw4 e4=>⟨λh2=>?_,λh2=>?_⟩))
   ·have h2:G.minutes<iA G (dG G (eB gs[k])):=of_decide_eq_true h2;have hq:lR G m [] gs=none:=by
     rw[BC,if_neg λh=>by have h:=mA.1 h.2 _ (List.getElem_mem BD);have h:iA G (dG G (eB gs[k]))<=G.minutes:=of_decide_eq_true h;omega]
    rw[hq];exact⟨_,rfl,E3.trans e4,_,rfl,λD hD=>cL⟩
   ·have h2:¬G.minutes<iA G (dG G (eB gs[k])):=of_decide_eq_false h2;have hk5:(vI G (gs.take k)).length<=5:=by simp[vI];omega
    refine er [.slice a9 (dG G (eB gs[k])).length c9] 27 λw5 nb e5 Xn Z7=>tM (hv.ext ((e3.trans e4).trans e5)) (((e2.trans e3).trans e4).trans e5).size (dg.ext hu (e4.trans e5)) Z7 cM λv' w6 g1 g2 _=>cY ⟨BD,v',⟨rfl,rfl,rfl,rfl,rfl,trivial⟩,(((e2.trans e3).trans e4).trans e5).sn g2 λb hb=>(hv.blk hb).1,?_,λg hg=>?_⟩
    ·rw[XO,vI,List.map_append];exact g1
    ·rw[XO]at hg;rcases List.mem_append.1 hg with hg|hg
     ·grind
     ·rw[List.mem_singleton.1 hg];exact decide_eq_true cM
  ·obtain rfl:k=gs.length:=cL;rw[List.take_length]at hv hs;refine dm (eZ ⟨_,rfl,E2,v,?_,λD hD=>?_⟩)
   ·rw[BC];by_cases h:gs.length=m
    ·rw[if_pos ⟨h,mA.2 hs⟩];simp[h]
    ·rw[if_neg λh'=>h h'.1];have h:¬(gs.length:Int)=m:=cM;simp[h]
   ·rw[BC]at hD;split at hD
    ·cases hD
     exact hv.low e1.size
    grind
 |d::r,a,c,gs,gv,n0,w,hd,ha,XN,YF,YD,Zm,hr,hc,hg=>by
  have ok:=eD hG;refine go (V.fn Tryz.func152 cL) Tryz.ntmps152 ?_;refine eJ λw1 gb e1 Zj hb=>dm (eZ (kZ (decide_eq_false cL) ?_));obtain⟨ga,gc,rfl,hL,hgc⟩:=hg.row;have Zr:r.length<=4:=by have:=zI ha ok.many YF;grind
  have U0:∀g∈gs,g.length<=4:=λg hg=>by
   have hp:=XN g hg;have:(g++[d]).length<=5:=zI (n:=G.doors.length) (List.pairwise_append.2 ⟨hp.1,List.pairwise_singleton _ _,λx hx y hy=>cL⟩) ok.many λx hx=>by grind
   grind
  have YG:∀{i:Nat},i=min (gs.length+1) m->(∀j,j<i->lR G m r (gq gs d j)=none)->lR G m (d::r) gs=none:=λh h2=>by grind [Dq,qv]
  refine fc (min (gs.length+1) m) (λi (_:Unit)=>[(1,.slice a (d::r).length c),(2,.slice ga gs.length gc),(3,.int .i64 m),(4,dj gb),(13,.int .i64 i)]) (λi _ w'=>Ext w1 w'/\∀j,j<i->lR G m r (gq gs d j)=none) () ⟨⟨rfl,rfl,rfl,rfl,rfl,trivial⟩,Ext.refl _,λj hj=>cM⟩ ?_;rintro i _ w2 hi ⟨e2,Zs⟩;have E2:=e1.trans e2;have Xo:i=min (gs.length+1) m->Ext w w2/\Oo (lR G m (d::r) gs) w.heap.size (.tuple #[.slice none 0 0,.bool false]) w2:=λh=>by rw[YG h Zs];exact⟨E2,_,rfl,λD hD=>cL⟩
  refine dm (oP ⟨λhle=>dN ⟨λXj=>?_,λXj=>?_⟩,λhle=>kZ rfl ?_⟩)
  ·have hig:i<=gs.length:=cL;have him:i<m:=cL;have s2:=E2.size;refine fc gs.length (λk v=>[(1,.slice a (d::r).length c),(2,.slice ga gs.length gc),(3,.int .i64 m),(4,dj gb),(13,.int .i64 i),(14,v),(15,.int .i64 k)]) (λk v w'=>Ext w2 w'/\Ie w2.heap.size w' v (gs.take k)) (.slice none 0 0) ⟨⟨rfl,rfl,rfl,rfl,rfl,rfl,rfl,trivial⟩,Ext.refl _,[],dg.nil _ _ _ _,rfl,λk hk=>cL,λi j u u' b hi=>cL⟩ ?_;rintro k nv w3 hk ⟨e3,TX⟩;refine dm (dN ⟨λZ8=>?_,λZ9=>?_⟩)
   ·have BD:k<gs.length:=cL;have E3:=E2.trans e3;obtain⟨b7,o7,a7,c7,rfl,Zn,Zo,_⟩:=(hL.ext E3) k BD;have hl4:=U0 _ (List.getElem_mem BD);refine er [] 3 λw4 nb e4 Xn hb4=>eX k BD (cP (e4.cell Zn) (xQ [] hb4 dq Xn rfl (Zo.ext e4) cM λu w5 g1 e5=>?_));have hu:eO w3.heap.size w5 u gs[k]:=by
     simp only[List.length_nil,Nat.zero_add,List.nil_append]at g1;exact g1
    obtain⟨a8,c8,rfl,_,_⟩:=hu.row;have⟨us,h1,h2,h3,h4⟩:=TX;have XP:=e4.trans e5;refine er [.slice a8 gs[k].length c8] 27 λw6 TY e6 YH YI=>LZ (n1:=w3.heap.size) ((h1.ext XP).ext e6) h2 (λi hi=>by have⟨x,q1,q2⟩:=h3 i hi;exact⟨x,q1,dg.ext (dg.ext q2 XP) e6⟩) h4 ((e3.trans XP).trans e6).size (λx hx b hb=>?_) (dg.ext (eO.low hu e3.size) e6) (λb hb=>(dg.blk hu hb).1) YI cL λv' w7 g1 g2=>cY ⟨BD,v',⟨rfl,rfl,rfl,rfl,rfl,rfl,rfl,trivial⟩,((e3.trans XP).trans e6).sn g2 λb hb=>(h1.blk hb).1,?_⟩
    ·obtain⟨i,hi,rfl⟩:=List.getElem_of_mem hx;have⟨x,q1,q2⟩:=h3 i cM;rw[List.getElem?_eq_getElem hi]at q1;rw[Option.some.inj q1]at hb;exact(dg.blk q2 hb).2
    ·rw[List.take_succ_eq_append_getElem BD];grind
   obtain rfl:k=gs.length:=cL;rw[List.take_length]at TX;refine(λ(main:∀(w4:World) (Zt:Value) (Rf:List (List Nat)),Ext w2 w4->Ie w2.heap.size w4 Zt Rf->(∃Xp:i<Rf.length,gq gs d i=Rf.set i (Rf[i]++[d])/\Rf[i].length<=4)->dX V.prog _ _ [(1,.slice a (d::r).length c),(2,.slice ga gs.length gc),(3,.int .i64 m),(4,dj gb),(13,.int .i64 i),(14,Zt)] w4 _)=>dm (eZ ⟨λh=>?tagA,λh=>dX.jJ (l0:=[(1,.slice a (d::r).length c),(2,.slice ga gs.length gc),(3,.int .i64 m),(4,dj gb),(13,.int .i64 i),(14,nv)]) ⟨rfl,rfl,rfl,rfl,rfl,rfl,trivial⟩ (main w3 nv gs e3 TX ?tagB)⟩)) ?tagC;case tagA=>
    have h:i=gs.length:=Int.ofNat.inj (of_decide_eq_true h);have⟨us,h1,h2,h3,h4⟩:=TX;refine er [.slice none 0 0] 27 λw4 nb e4 Xn hb=>LZ (n1:=w4.heap.size) (l:=[]) (h1.ext e4) h2 (λk hk=>by have⟨x,q1,q2⟩:=h3 k hk;exact⟨x,q1,dg.ext q2 e4⟩) h4 (e3.trans e4).size (λx hx b hb=>?_) (dg.nil _ _ _ _) (λb hb=>by have⟨_,_,hb⟩:=hb;grind) hb cM λv' w5 g1 g2=>dX.jJ (l0:=[(1,.slice a (d::r).length c),(2,.slice ga gs.length gc),(3,.int .i64 m),(4,dj gb),(13,.int .i64 i),(14,v')]) ⟨rfl,rfl,rfl,rfl,rfl,rfl,trivial⟩ (main w5 v' (gs++[[]]) ((e3.trans e4).sn g2 λb hb=>(h1.blk hb).1) g1 ⟨cL,?_,?_⟩)
    ·obtain⟨k,hk,rfl⟩:=List.getElem_of_mem hx;have⟨x,q1,q2⟩:=h3 k cM;rw[List.getElem?_eq_getElem hk]at q1;rw[Option.some.inj q1]at hb;exact Nat.lt_of_lt_of_le (dg.blk q2 hb).2 e4.size
    ·subst h;rw[gq,if_neg dq];simp
    ·subst h;simp
   case tagB=>
    have h:¬i=gs.length:=λe=>of_decide_eq_false h (congrArg Int.ofNat e);have hl:i<gs.length:=cM;exact⟨hl,by rw[gq,if_pos hl,getD_eq hl],U0 _ (List.getElem_mem hl)⟩
   case tagC=>
    rintro w4 nv Rf e4 ⟨us,h1,h2,h3,h4⟩ ⟨Xp,XO,hl4⟩;have⟨u,hu,XQ⟩:=h3 i Xp;obtain⟨nb,nc,rfl,Xn,Zu⟩:=h1.cell cM;obtain⟨b1,o1,rfl,Zv⟩:=hr 0 dq;have hub:∀b,cW u b->w2.heap.size<=b/\b<w4.heap.size:=λb hb=>dg.blk XQ hb;have YJ:¬cW u nb:=iB h1 XQ cL nb ⟨_,_,rfl⟩;have hb1:=oX Zv;have hu1:¬cW u b1:=λh=>cL;have hc4:=(E2.trans e4).cell Zv;refine gQ 10 dD (ij (cW u)) (λa b h=>h.keep _) ?_;refine .exact (.pointer (some ⟨nb,0+i,none⟩)) (λw1 e=>eX i Xp ⟨rfl,Ext.refl _⟩) ?_;refine .exact u (λw1 e=>cP (e.fe cL YJ) ⟨rfl,Ext.refl _⟩) ?_;refine .exact (.pointer (some ⟨b1,o1+0,none⟩)) (λw1 e=>eX 0 dq ⟨rfl,Ext.refl _⟩) ?_;refine .exact (.int .i64 d) (λw1 e=>cP (e.fe hc4 hu1) ⟨rfl,Ext.refl _⟩) ?_;refine .early rfl (λx w1=>∃TY,x=.slice (some ⟨TY,0,none⟩) 1 1/\w4.heap.size<=TY/\w1.heap[TY]? =some (.cells [.int .i64 d].toArray 3)) (λu a b h e=>by have⟨TY,q1,q2,q3⟩:=h;exact⟨TY,q1,q2,e.at_ q3⟩) (λw1 e=>er [.int .i64 d] 3 λw5 TY e5 YH Q4=>⟨⟨TY,rfl,iI e.size,Q4⟩,e5⟩) ?_;refine .spec (λx w1=>eO w2.heap.size w1 x (Rf[i]++[d])) (λu a b h e=>dg.ext h e) (λw1 e x hx=>?_) ?_
    ·obtain⟨TY,rfl,q2,q3⟩:=hx;refine hH oR (dg.ext XQ e) (e4.trans e).size q3 cM λv' w5 g1 g2 _=>⟨?_,g2⟩;unfold eO;simpa[gA]using g1
    refine .late rfl (λx _=>x=.pointer (some ⟨nb,0+i,none⟩)) (λ_ _ _ h _=>h) (λw1 e _ _ _ _=>eX i Xp ⟨rfl,Ext.refl _⟩) ?_;rintro w5 e5 p rfl x hx _ _;have Xq:Ext w2 w5:=e4.sn e5 λb hb=>(hub b hb).1;have⟨xa,xc,hxe,_⟩:=hx.row;have Zw:dg w2.heap.size 27 [.slice none 0 0] w5 (.slice (some ⟨nb,0,none⟩) Rf.length nc) Rf.length us:=dg.keep h1 e5 λb hb Q4=>iB h1 XQ cL b hb Q4;refine TW Zw Xp ⟨_,_,_,hxe⟩ λw6 h16 k6=>?_;have e6:Ext w2 w6:=Xq.cT k6 Xn;have Xr:fh w2.heap.size w6 (.slice (some ⟨nb,0,none⟩) Rf.length nc) (gq gs d i):=by
     rw[XO];refine⟨us.set i x,cL,cL,λk hk=>?_⟩;rw[List.length_set]at hk;by_cases YK:i=k
     ·subst YK;refine⟨x,cL,?_⟩;rw[List.getElem_set_self];exact dg.keep hx k6 λb hb e=>by subst e;exact iB Zw hx cL _ ⟨_,_,rfl⟩ hb
     ·have⟨y,q1,q2⟩:=h3 k hk;refine⟨y,cL,?_⟩;rw[List.getElem_set_ne YK];refine dg.keep (dg.keep q2 e5 λb hb Q4=>YK (h4 i k u y b hu q1 Q4 hb)) k6 λb hb e=>?_;subst e;exact iB h1 q2 cL _ ⟨_,_,rfl⟩ hb
    have hln:(gq gs d i).length=Rf.length:=cL;have hnl:=ot gs d i;have hnm:(gq gs d i).length<=m:=by split at hnl<;>omega
    rw[<-hln]at Xr⊢;have E6:=E2.trans e6;have YI:=(e2.trans e6).at_ hb;refine dE dD ?_;refine pU YI<| .exact (.slice (uR (some ⟨b1,o1,none⟩) 1 c) r.length (c-1)) (λw7 e7=>wG 1 dq hc ⟨rfl,Ext.refl _⟩) ?_;refine .rel (Oo (lR G m r (gq gs d i)) w6.heap.size) Oo.st (λw7 e7=>cX (wS hG m hm r _ _ (gq gs d i) _ w2.heap.size w7 (hd.ext (E6.trans e7)) (List.pairwise_cons.1 ha).2 (NZ ha XN) (λx hx=>YF x (List.mem_cons_of_mem _ hx)) (xS YD (YF d List.mem_cons_self)) hnm ((hr.ext (E6.trans e7)).drop 1 cL) (by simp at hc;omega) (Xr.ext e7)) λv w8 ⟨e8,x,h8,h9⟩=>⟨⟨x,h8,h9.low e7.size⟩,e8⟩) ?_;refine .rel (Oo (lR G m r (gq gs d i)) w6.heap.size) Oo.st YC ?_;refine .rel (NY (lR G m r (gq gs d i)) w6.heap.size) NY.st (by rintro _ _ _ ⟨_,rfl,h⟩;exact⟨h,Ext.refl _⟩) ?_;refine .rel (V4 (lR G m r (gq gs d i)).isSome) V4.st (by rintro _ _ _ ⟨_,rfl,_⟩;exact⟨rfl,Ext.refl _⟩) ?_;refine .rel (NY (lR G m r (gq gs d i)) w6.heap.size) NY.st (by(repeat intro _);exact⟨cL,Ext.refl _⟩) ?_;refine .rel (V4 (lR G m r (gq gs d i)).isSome) V4.st (by(repeat intro _);exact⟨cL,Ext.refl _⟩) ?_;rintro w7 e7 _ rfl x hx;repeat intro _
    have E7:=E6.trans e7;have Xs:i<min (gs.length+1) m:=cM;cases hq:lR G m r (gq gs d i)with
    |none=>exact kZ rfl (cY ⟨Xs,(),⟨rfl,rfl,rfl,rfl,rfl,trivial⟩,(e2.trans e6).trans e7,λj hj=>by grind⟩)
    |some D=>
     have hf:lR G m (d::r) gs=some D:=by rw[Dq G m d r gs Zm,l8 Xs Zs hq]
     rw[hf];refine ko rfl ⟨_,rfl,E7,x,rfl,λD' hD'=>?_⟩;cases hD';exact(hx D hq).low E6.size
  ·have Xj:¬i<m:=cL;exact⟨_,rfl,Xo cM⟩
  ·have hle:¬i<=gs.length:=cL;exact⟨_,rfl,Xo cM⟩
end
section
variable{G:Gd}{da:Option Addr}{dc:Nat}{w:cJ}
def Kg(z:eo G=0)(p:gZ w da G.doors){l:List Nat}{a:Option Addr}{c:Nat}(F:fJ w a l)(q:l.Pairwise (·<·))(n:∀d∈l,d<G.doors.length)(H:l.length<=c):
 Calls V.prog 102 #[gV G da dc,.slice a l.length c] w (fO λv o=>Ext w o/\Oo (fT G (eB l)) w.heap.size v o):=by
 have A:=eD z;have B:=A.many;have I:=zI q B n;have f:=ky.eB (G:=G) B (l:=l) n;have r:eh (eB l)=l:=Bs q λd p=>iI (n d p);have C:=NU A f;rw[r]at C;rw[<-C];refine jd Tryz.func102 Tryz.ntmps102 ?_;refine eJ λJ K L M N=>?_;refine fc (l.length+1) (λm (_:Unit)=>[(1,.slice a l.length c),(2,dj K),(6,i64 m)]) (λm _ o=>Ext J o/\∀j,j<m->lR G j l []=none) () ⟨by trivial,Ext.refl _,λj O=>cM⟩ ?_;rintro m _ P W ⟨s,e⟩;have i:=L.trans s;refine dm (oP ⟨λb=>?_,λb=>?_⟩);have Q:m<=l.length:=iI (fx b);refine eF (s.at_ N) (cX (wS (dc:=dc) z m cM l a c [] (.slice none 0 0) 0 P (p.ext i) q (λg t=>by cases t) n (λg t=>by cases t) (gh _) (F.ext i) H ⟨[],dg.nil _ _ _ _,rfl,λk R=>by simp at R⟩) ?_);rintro _ X ⟨E,u,rfl,S⟩;cases x:lR G m l []with
 |none=>exact kZ rfl (cY ⟨cM,(),by trivial,s.trans E,λj O=>by obtain h|h:=gC j m;exact e j h;obtain rfl:j=m:=cM;exact x⟩)
 |some D=>
  have T:((List.range (l.length+1)).findSome? λm=>lR G m l [])=some D:=l8 cM e x;rw[T];refine ko rfl ⟨_,rfl,i.trans E,u,rfl,λY y=>?_⟩;cases y;exact(S D x).low i.size
 have b:¬m<=l.length:=iI (ie b);obtain rfl:m=l.length+1:=cM;rw[qv e];exact⟨_,rfl,i,_,rfl,λD U=>by cases U⟩
end
abbrev ID:=Option Addr×Nat×Nat
def zJ(i:Bool)(m a:Int)(d s:ID):dP:=[.bool i,.int .i64 m,.int .i64 a,.slice d.1 d.2.1 d.2.2,.slice s.1 s.2.1 s.2.2]
def Rg(i:Bool)(m a:Int)(d s:ID):cK:=.agg (zJ i m a d s).toArray
def Ih(i:Bool)(m a:Int)(j:Bool)(n b:Int):Bool:=!i||(j&&(decide (n<m)||(decide (n=m)&&decide (b<a))))
def r9{i:Bool}{m a:Int}{d s:ID}:ir (pJ 125).toArray 0 (zJ i m a d s)=(zJ i m a d s).toArray:=ef (pJ 125).toArray (zJ i m a d s) rfl
def Wl(h:w.heap[m]? =some (.cells M.toArray k)):∀j v,M[j]? =some v->w.cell? ⟨m,0+j,none⟩=some v:=λj v a=>by rw[dn];grind [cO]
def Ii(i j:Bool)(m a n b:Int)(d s r t:ID)(w:cJ):Calls V.prog 183 #[Rg i m a d s,Rg j n b r t] w (fO λv u=>v=(if Ih i m a j n b then Rg j n b r t else Rg i m a d s)/\Ext w u):=by
 refine TK (V.fn Tryz.func183 cL) Tryz.ntmps183 (dX.seq dB ?_);refine eJ λS p G H I=>eJ λT q C J K=>eU λx o y L D=>?_;have f:x.heap[p]? =some (.cells (zJ i m a d s).toArray 125):=(C.trans y).at_ I;have g:x.heap[q]? =some (.cells (zJ j n b r t).toArray 125):=y.at_ K;have E:=(G.trans C).trans y;have⟨c,M⟩:=ju (Ih i m a j n b);rw[<-M];refine dX.iu (dX.iu (dX.mono (Q:=λe F u=>e=.normal/\Sub [(2,dj p),(3,dj q),(4,dj o),(32,.bool c)] F/\u=x) ?_ ?_));rintro _ F _ ⟨rfl,N,rfl⟩;refine dX.jJ N (dX.of dB ⟨λh=>?_,λh=>?_⟩);rw[h,cV rfl];refine ez (Wl g) (dI D λz A l=>?_);have l:z.heap[o]? =some (.cells (zJ j n b r t).toArray 125):=l.trans (dH (λa=>some (Obj.cells a 125)) r9);exact⟨_,jy _ l cL,_,rfl,rfl,E.cT A cL⟩;rw[h,cS Bool.false_ne_true];refine dX.of dB<|ez (Wl f) (dI D λz A l=>?_);have l:z.heap[o]? =some (.cells (zJ i m a d s).toArray 125):=l.trans (dH (λa=>some (Obj.cells a 125)) r9);exact⟨_,jy _ l cL,_,rfl,rfl,E.cT A cL⟩;have k:∀{b:Bool},b=c->some (Value.bool b)=some (.bool c):=cL;have B:some gU=some gU:=rfl;refine mJ.start (mJ.Cc 13 dB ?_);refine cP (cO f rfl) (eK ⟨λO=>?_,λO=>cP (cO g rfl) ⟨λP=>cP (cO g rfl) (cP (cO f rfl) (dN ?_)),λP=>?_⟩⟩);refine mJ.jJ (l0:=[(2,dj p),(3,dj q),(4,dj o),(8,.bool true),(11,undef),(17,undef)]) (by trivial) (mJ.Cc 15 dB (ko rfl (mJ.fin ⟨rfl,⟨rfl,rfl,rfl,k ?_,trivial⟩,rfl⟩)));grind [Ih]
 ·refine mJ.jJ (l0:=[(2,dj p),(3,dj q),(4,dj o),(8,.bool false),(11,.bool true),(17,.bool (decide (n<m)))]) (by trivial) (mJ.Cc 15 dB ?_);refine⟨λR=>ko rfl (kZ rfl (mJ.fin ⟨rfl,⟨rfl,rfl,rfl,k ?_,trivial⟩,rfl⟩)),λR=>cP (cO g rfl) (cP (cO f rfl) (eZ ⟨λl=>cP (cO g rfl) (cP (cO f rfl) (dN (ko rfl (kZ rfl (mJ.fin ⟨rfl,⟨rfl,rfl,rfl,k ?_,trivial⟩,rfl⟩))))),λl=>ko rfl (kZ rfl (mJ.fin ⟨rfl,⟨rfl,rfl,rfl,k ?_,trivial⟩,rfl⟩))⟩))⟩;all_goals
   grind [Ih]
 refine mJ.jJ (l0:=[(2,dj p),(3,dj q),(4,dj o),(8,.bool false),(11,.bool false),(17,undef)]) (by trivial) (mJ.Cc 15 dB (kZ rfl (kZ rfl (mJ.fin ⟨rfl,⟨rfl,rfl,rfl,k ?_,trivial⟩,rfl⟩))));grind [Ih]
section
variable{G:Gd}{da:Option Addr}{dc:Nat}{w:cJ}
def pk(G:Gd)(l:List Tq)(a:eY)(i:Nat):Bool:=!Ce G.tries (sx (i:Nat) sv l)&&!Ey (i:Nat) a
def pV(G:Gd)(l:List Tq)(a:eY):cN:=(List.range G.doors.length).filter (pk G l a)
def xX(n:G.doors.length<=100000){l:List Tq}{o:dW}{lc:Nat}(y:kz w o l)(e:l.length<=100000)(z:∀q∈l,0<=q.shift/\q.shift<=1000){but:eY}{ba:dW}{bc:Nat}(A:iF w ba but)(p:but.length<=100000):
 Calls V.prog 101 #[gV G da dc,.slice o l.length lc,.slice ba but.length bc] w (fO λv f=>Ext w f/\eO w.heap.size f v (pV G l but)):=by
 refine go (V.fn Tryz.func101 cL) Tryz.ntmps101 ?_;refine eJ λu B x C D=>fc G.doors.length (λk v=>[(1,.slice o l.length lc),(2,.slice ba but.length bc),(3,dj B),(7,v),(8,i64 k)]) (λk v f=>Ext u f/\eO u.heap.size f v ((List.range k).filter (pk G l but))) (fo) ⟨by trivial,Ext.refl _,dg.nil _ _ _ _⟩ ?_;rintro k v M N ⟨d,g⟩;have r:=x.trans d;have h:=d.at_ D;refine cP (cO h rfl) (dm (dN ⟨λE=>?_,λF=>?_⟩));have c:k<G.doors.length:=cL;have b:(List.range (k+1)).filter (pk G l but)=(List.range k).filter (pk G l but)++if pk G l but k then [k]else []:=by rw[nq,List.filter_append,List.filter_cons];grind
 have H:((List.range k).filter (pk G l but)).length<=100000:=cL;refine dE dD (pU h (il _ (λi a=>rZ (y.ext (r.trans a)) e z k) (il _ (λi a=>Fg _) (mQ ⟨λI=>?_,λI=>?_⟩))));refine iY dD _ (λi a=>NX but k ba bc i (A.ext (r.trans a)) p) (G4 λi a=>⟨λs=>?_,λs=>?_⟩);rw[LW]at s;have j:pk G l but k=true:=by grind [pk]
 rw[j,cV rfl]at b;refine er [i64 k] 3 λO P m J t=>hH oR (dg.ext (dg.ext g a) m) ((d.trans a).trans m).size t cM λK Q R L S=>cY ⟨c,K,by trivial,?_,?_⟩;exact((d.trans a).trans m).iZ L (dg.ext (dg.ext g a) m) (di _);grind [List.length_append,eO,gA];rw[LW]at s;have j:pk G l but k=false:=by grind [pk]
 rw[j,cS Bool.false_ne_true,List.append_nil]at b;exact cY ⟨c,v,by trivial,d.trans a,by rw[b];exact dg.ext g a⟩;have j:pk G l but k=false:=by grind [pk]
 rw[j,cS Bool.false_ne_true,List.append_nil]at b;exactλi a=>kZ rfl (cY ⟨c,v,by trivial,d.trans a,by rw[b];exact dg.ext g a⟩);obtain rfl:k=G.doors.length:=cL;exact⟨_,rfl,r,eO.low g x.size⟩
end
def Zx(a b:Int):Int:=IntKind.i64.wrap (BitVec.ofInt 64 a&&&BitVec.ofInt 64 b).toNat
section
variable{w:cJ}{k:cK->cJ->Prop}{t:cR}{x y:dU}
def Rh(r:Int)(a:Zx I J=r)(h:k (.int .i64 r) w):jO V.prog (do eqGuard .and t x y (.int .i64 I) (.int .i64 J);binOp .and t (.int .i64 I) (.int .i64 J)) w k:=⟨_,w,rfl,by subst a;exact h⟩
def Ri(a:m<=64)(h:k (.int .i64 (I.fdiv (2^m))) w):jO V.prog (do eqGuard .shr t x y (.int .i64 I) (.int .i64 m);binOp .shr t (.int .i64 I) (.int .i64 m)) w k:=by
 refine⟨_,w,?_,h⟩;show Sem.run jV (Op.shift .shr .i64 I .i64 m) w=_;unfold Op.shift;rw[cS cM];have:min (m:Int).toNat IntKind.i64.bits=m:=by simp[IntKind.bits];omega
 rw[this];rfl
def Ij(b:m<=64)(a:IntKind.i64.wrap (I*2^m)=J)(h:k (.int .i64 J) w):jO V.prog (do eqGuard .shl t x y (.int .i64 I) (.int .i64 m);binOp .shl t (.int .i64 I) (.int .i64 m)) w k:=by
 refine⟨_,w,?_,h⟩;show Sem.run jV (Op.shift .shl .i64 I .i64 m) w=_;unfold Op.shift;rw[cS cM];have:min (m:Int).toNat IntKind.i64.bits=m:=by simp[IntKind.bits];omega
 rw[this,<-a];rfl
end
def V5:∀s:Nat,s<32->∀d:Nat,d<5->Zx ((s:Int).fdiv (2^d)) 1=if s.testBit d then 1 else 0:=by decide+kernel
def Dw:∀n:Nat,n<=5->IntKind.i64.wrap (1*2^n)=((2^n:Nat):Int):=by decide+kernel
section
variable{G:Gd}{da:Option Addr}{dc:Nat}{w:cJ}
def Wm(n s:Nat):cN:=(List.range n).filter λi=>s.testBit i
def uG(G:Gd)(s:Nat):Int:=match fT G s with
 |none=> -1
 |some D=>(D.length:Nat)
def iv(G:Gd):eY:=(List.range (2^G.doors.length)).map (uG G)
def TZ:∀n:Nat,n<=5->∀s:Nat,s<2^n->eB (Wm n s)=s:=by decide+kernel
def Rj(n s:Nat):Wm (n+1) s=Wm n s++if s.testBit n then [n]else []:=by rw[Wm,nq,List.filter_append,List.filter_cons];cases s.testBit n<;>rfl
def T1(n s:Nat):(Wm n s).length<=n:=du (List.length_filter_le _ _) dq
def Xt{n:Nat}(h:n<=5):2^n<=32:=du (Nat.pow_le_pow_right cL h) cL
def Fj(O:eo G=0)(E:gZ w da G.doors):Calls V.prog 151 #[gV G da dc] w (fO λv f=>Ext w f/\H6 w.heap.size f v (iv G)):=by
 have ok:=eD O;have F:=ok.many;have hp:=Xt F;refine go (V.fn Tryz.func151 cL) Tryz.ntmps151 ?_;refine eJ λB P Q aa hg=>fc (2^G.doors.length) (λs v=>[(1,dj P),(3,v),(4,i64 s)]) (λs v f=>Ext B f/\H6 B.heap.size f v ((List.range s).map (uG G))) (fo) ⟨by trivial,Ext.refl _,dg.nil _ _ _ _⟩ ?_;rintro s v R hs ⟨l,S⟩;have T:=Q.trans l;have o:=l.at_ hg;refine cP (cO o rfl) (dm (Ij cM (Dw _ F) (dN ⟨λab=>?_,λac=>?_⟩)));have j:s<2^G.doors.length:=cL;refine fc G.doors.length (λi u=>[(1,dj P),(3,v),(4,i64 s),(5,u),(6,i64 i)]) (λi u f=>Ext R f/\eO R.heap.size f u (Wm i s)) (fo) ⟨by trivial,Ext.refl _,dg.nil _ _ _ _⟩ ?_;rintro i u w3 hi ⟨m,H⟩;have p:=m.at_ o;have ad:=T1 i s;refine cP (cO p rfl) (dm (dN ⟨λU=>?_,λW=>?_⟩));have q:i<G.doors.length:=cL;have a:=Rj i s;refine Ri cM (Rh _ (V5 s cM i cM) (eZ ⟨λr=>?_,λr=>?_⟩));have r:s.testBit i=true:=by grind
 rw[r,cV rfl]at a;refine er [i64 i] 3 λw4 X n t I=>hH oR (dg.ext H n) (m.trans n).size I cM λg x C y Y=>cY ⟨q,g,by trivial,(m.trans n).iZ y (dg.ext H n) (di _),?_⟩;grind [List.length_append,eO,gA];have r:s.testBit i=false:=by grind
 rw[r,cS Bool.false_ne_true,List.append_nil]at a;exact cY ⟨q,u,by trivial,m,cL⟩;obtain rfl:i=G.doors.length:=cL;obtain⟨ua,uc,rfl,J,K⟩:=H.row;have z:=TZ _ F s j;have Z:=Kg (dc:=dc) O (E.ext (T.trans m)) J (List.Pairwise.filter _ List.pairwise_lt_range) (λd E=>by have:=(py.1 E).1;grind) K;rw[z]at Z;refine eF p (cX Z ?_);rintro _ w4 ⟨n,D,rfl,hD⟩;have A:=m.trans n;have b:=dg.ext S A;have a:(List.range (s+1)).map (uG G)=(List.range s).map (uG G)++[uG G s]:=by rw[nq,qH];rfl
 have ae:((List.range s).map (uG G)).length=s:=dq;have c:∀{x:cJ} {g:cK},dg B.heap.size 3 [i64 0] x g (((List.range s).map (uG G)).length+1) (((List.range s).map (uG G)).flatMap iL++[i64 (uG G s)])->H6 B.heap.size x g ((List.range (s+1)).map (uG G)):=λh=>by rw[a];unfold H6;rw[lx,List.flatMap_append];exact h
 cases M:fT G s with
 |none=>
  have N:uG G s= -1:=by rw[uG,M]
  rw[N]at c;exact kZ rfl (er [i64 (-1)] 3 λx X e t k=>hH oR (dg.ext b e) ((l.trans A).trans e).size k cM λg w6 C y Y=>cY ⟨j,g,by trivial,((l.trans A).trans e).iZ y (dg.ext b e) (di _),c C⟩)
 |some L=>
  have N:uG G s=(L.length:Nat):=by rw[uG,M]
  rw[N]at c;obtain⟨a7,c7,rfl,_⟩:=(hD L M).row;exact ko rfl (dm (er [i64 (L.length:Nat)] 3 λx X e t k=>hH oR (dg.ext b e) ((l.trans A).trans e).size k cM λg w6 C y Y=>cY ⟨j,g,by trivial,((l.trans A).trans e).iZ y (dg.ext b e) (di _),c C⟩))
 obtain rfl:s=2^G.doors.length:=cL;exact⟨_,rfl,T,dg.low S Q.size⟩
end
abbrev uV:=Option (Int×Int×List (List Nat))
def wT:uV->uV->uV
 |none,b=>b
 |some a,none=>some a
 |some a,some b=>if b.1<a.1\/b.1=a.1/\b.2.1<a.2.1 then some b else some a
def jS(a:eY)(v:Nat):Int:=a.getD v 0
def U1(a:eY)(o:uV)(v:Nat):Bool:=decide (0<=jS a v)&&match o with
 |none=>true
 |some r=>decide (jS a v<=r.1)
def jC(d:Nat)(sets:cN)(c:cN):cN:=c.foldl (λs x=>s.set x (s.getD x 0+2^d)) sets
def wU(a:eY)(o:uV)(d:Nat):cN->cN->Bool
 |_,[]=>true
 |s,x::r=>U1 a o ((jC d s [x]).getD x 0)&&wU a o d (jC d s [x]) r
def kF(b:eY):cN->Int->Int->Option (Int×Int)
 |[],m,a=>some (m,a)
 |v::r,m,a=>if jS b v<0 then none else kF b r (max m (jS b v)) (a+jS b v)
def uW(a:eY)(d:Nat)(sets:cN)(b:cN->cN->uV)(o:uV)(c:cN):uV:=
 if wU a o d sets c then wT o (b c (jC d sets c))else o
def uH(a:eY):List (Nat×List cN)->List cN->cN->uV
 |[],e,sets=>(kF a sets 0 0).map λp=>(p.1,p.2,e)
 |(d,f)::b,e,sets=>f.foldl (uW a d sets λc g=>uH a b (e++[c]) g) none
def pw(l:cN):Nat:=(l.map λd=>2^d).sum
theorem pm(d:Nat):∀(c s:cN),(jC d s c).length=s.length
 |[],s=>rfl
 |x::r,s=>by show(jC d (s.set x _) r).length=_;rw[pm d r,sJ]
theorem tQ(d:Nat):∀(c s:cN),m∉c->(jC d s c).getD m 0=s.getD m 0
 |[],s,_=>rfl
 |x::r,s,h=>by show(jC d (s.set x _) r).getD m 0=_;rw[tQ d r _ cL];grind
theorem L1(d:Nat)(y:Nat):∀(c s:cN),c.Nodup->(jC d s c).getD y 0<=s.getD y 0+2^d
 |[],s,_=>Nat.le_add_right _ _
 |x::r,s,h=>by show(jC d (s.set x _) r).getD y 0<=_;have a:=List.nodup_cons.1 h;by_cases e:x=y;subst e;rw[tQ d r _ a.1];grind;refine du (L1 d y r _ a.2) ?_;grind
def N4(d:Nat)(s c:cN)(x:Nat):jC d s (c++[x])=(jC d s c).set x ((jC d s c).getD x 0+2^d):=by unfold jC;grind
theorem Dx(a:eY)(o:uV)(d x:Nat):∀(c s:cN),wU a o d s (c++[x])=(wU a o d s c&&U1 a o ((jC d s (c++[x])).getD x 0))
 |[],s=>by simp[wU]
 |y::r,s=>by have h:=Dx a o d x r (jC d s [y]);grind [Bool.and_assoc,U1,wU,jC]
theorem BO(b:eY)(v:Nat):∀(l:cN) (m a:Int),kF b (l++[v]) m a=(kF b l m a).bind λp=>kF b [v] p.1 p.2
 |[],m,a=>rfl
 |x::r,m,a=>by show(if jS b x<0 then none else kF b (r++[v]) _ _)=Option.bind (if jS b x<0 then none else kF b r _ _) _;split;rfl;exact BO b v r _ _
theorem BP{b:eY}:∀{l:cN} {m a:Int} (k:Nat),kF b (l.take k) m a=none->kF b l m a=none
 |[],m,a,k,h=>cL
 |x::r,m,a,0,h=>by cases h
 |x::r,m,a,k+1,h=>by rw[List.take_succ_cons]at h;simp only[kF]at h⊢;split at h;grind;rename_i c;rw[cS c];exact BP k h
def N5{num:eY}{sets:cN}{go:cN->cN->uV}{a:List cN}(b:i<a.length):(a.take (i+1)).foldl (uW num d sets go) none=uW num d sets go ((a.take i).foldl (uW num d sets go) none) a[i]:=by rw[iT b,qG];rfl
def rl(w:cJ)(a:dW)(l:cN):Prop:=∀k (h:k<l.length),∃b o c,a=some ⟨b,o,none⟩/\w.heap[b]? =some (.cells c 3)/\c[o+k]? =some (.int .i64 l[k])
def nU(w:cJ)(a:dW)(c:List cN):Prop:=∀k (h:k<c.length),∃b o d e f,a=some ⟨b,o,none⟩/\w.heap[b]? =some (.cells d 27)/\d[o+k]? =some (.slice e c[k].length f)/\rl w e c[k]/\c[k].length<=f
def xY(F:dp)(w:cJ):Prop:=∀b a t,F b->w.heap[b]? =some (.cells a t)->¬(t=3\/t=27)
def rl.keep(h:rl w a l)(k:dz A w t)(e:xY A w):rl t a l:=λi f=>by have⟨b,o,c,g,d,j⟩:=h i f;exact⟨b,o,c,g,k.fN d (λm=>e b c 3 m d (.inl rfl)),j⟩
theorem nU.keep{l:List cN}(h:nU w a l)(k:dz A w t)(c:xY A w):nU t a l:=λi f=>by have⟨b,o,d,g,j,m,e,n,p,q⟩:=h i f;exact⟨b,o,d,g,j,m,k.fN e (λr=>c b d 27 r e (.inr rfl)),n,p.keep k c,q⟩
def Ik(w:cJ):xY (λ_=>False) w:=λ_ _ _ h=>h.elim
def Fl(h:w.heap[m]? =some (.cells W k))(b:¬(k=3\/k=27):=by decide):xY (λx=>x=m) w:=λx c t d a=>by subst d;rw[h]at a;cases a;exact b
def T2(h:dg m k M w x i Y)(b:¬(k=3\/k=27):=by decide):xY (cW x) w:=λd c t a f=>by have⟨l,g,e⟩:=a;obtain⟨j,⟨_,h⟩|⟨n,o,p,q,r,s,u⟩⟩:=h;grind;grind
def rl.ext(h:rl w a l)(e:Ext w t):rl t a l:=h.keep (e.keep λ_=>False) (Ik w)
def nU.ext{l:List cN}(h:nU w a l)(e:Ext w t):nU t a l:=h.keep (e.keep λ_=>False) (Ik w)
def rl.row(h:rl w a l):fJ w a l:=λi c=>by have⟨b,o,d,e,f,g⟩:=h i c;grind [cO]
theorem nU.row{l:List cN}(h:nU w a l):xx w a l:=λi c=>by have⟨b,o,n,d,e,f,g,j,k,m⟩:=h i c;exact⟨b,o,d,e,f,cO g j,k.row,m⟩
def eO.V6(h:eO m w x l):∃a c,x=.slice a l.length c/\rl w a l/\l.length<=c:=by obtain⟨o,⟨e,d⟩|⟨b,c,g,e,d,i,p,j,q,n,r⟩⟩:=h;rw[e];exact⟨none,0,d,λk f=>cM,gh _⟩;refine⟨_,c,d,λk f=>⟨b,0,g,rfl,i,?_⟩,j⟩;rw[dn,n k cL];simp[gA,ft f]
def L3{c:Nat}{ls:List cN}(h:dg m 27 [.slice none 0 0] w (.slice a ls.length c) ls.length M)(i:∀k (d:k<ls.length),∃x c,M[k]? =some (.slice x ls[k].length c)/\rl w x ls[k]/\ls[k].length<=c):nU w a ls/\ls.length<=c:=by
 obtain⟨j,⟨f,g⟩|⟨b,y,l,f,g,n,z,o,A,p,B⟩⟩:=h;rw[f];exact⟨λk d=>cM,gh _⟩;injection g with q C r;subst q r;refine⟨λk d=>?_,o⟩;have⟨x,s,t,u,v⟩:=i k d;refine⟨b,0,l,x,s,rfl,n,?_,u,v⟩;rw[dn];have e:k<M.length:=by simp at j;omega
 exact(p k e).trans t
theorem fh.V6{b:List cN}(h:fh m w x b):∃a c,x=.slice a b.length c/\nU w a b/\b.length<=c:=by
 have⟨i,d,j,e⟩:=h;obtain⟨a,c,rfl,_⟩:=d.len;have⟨l,n⟩:=L3 d λk f=>by have⟨u,o,g⟩:=e k f;obtain⟨p,c,rfl,q,r⟩:=g.V6;grind
 grind
def Il(w:cJ)(a:dW)(c:List (List cN)):Prop:=∀k (h:k<c.length),∃b o d e,a=some ⟨b,o,none⟩/\w.cell? ⟨b,o+k,none⟩=some (.slice d c[k].length e)/\nU w d c[k]/\c[k].length<=e
theorem Il.ext{c:List (List cN)}(h:Il w a c)(e:Ext w t):Il t a c:=λk d=>by have⟨b,o,f,g,i,j,l,m⟩:=h k d;exact⟨b,o,f,g,i,e.cell j,l.ext e,m⟩
theorem nU.cells{w:cJ}{a:dW}{d:List cN}(h:nU w a d):∃e:dP,e.length=d.length/\iP w a e/\(∀u∈e,∃x n c,u=.slice x n c)/\∀k (g:k<d.length),∃x c,e[k]? =some (.slice x d[k].length c)/\rl w x d[k]/\d[k].length<=c:=by
 have t:∀k,k<d.length->∃u:cK,∃b o,a=some (dt b o)/\w.cell? (dt b (o+k))=some u/\∃(g:k<d.length) (x:dW) (c:Nat),u=.slice x d[k].length c/\rl w x d[k]/\d[k].length<=c:=λk g=>by have⟨b,o,H,v,y,l,z,A,B,C⟩:=h k g;exact⟨_,b,o,l,cO z A,g,v,y,rfl,B,C⟩
 have⟨e,D,m⟩:=tH d.length t;refine⟨e,D,?_,λu E=>?_,λk g=>?_⟩;obtain F|F:=nt d.length;exact .inl (oy cM);have⟨b,o,l,_⟩:=m 0 cM;refine .inr ⟨b,o,l,λj u p=>?_⟩;have i:j<e.length:=by obtain h|h:=gC j e.length;exact h;rw[Uj h]at p;cases p
 have⟨I,J,f,r,_⟩:=m j i;rw[l]at f;injection f with f;injection f with f s;subst f s;rw[ft i]at p;rw[<-dT p];exact r;obtain⟨k,g,rfl⟩:=List.getElem_of_mem E;have⟨_,_,_,_,_,x,c,q,_⟩:=m k g;exact⟨x,_,c,q⟩;have⟨_,_,_,_,G,x,c,f,r,s⟩:=m k cM;exact⟨x,c,by rw[ft cM,f],r,s⟩
abbrev Im:ID:=(none,0,0)
def Rk(o:uV)(ds:ID)(i:Bool)(m a:Int)(d s:ID)(w:cJ):Prop:=match o with
 |none=>i=false/\m=0/\a=0/\d=Im/\s=Im
 |some r=>i=true/\m=r.1/\a=r.2.1/\d=ds/\s.2.1=r.2.2.length/\nU w s.1 r.2.2/\r.2.2.length<=s.2.2
def Cj(o:uV)(ds:ID)(v:cK)(w:cJ):Prop:=∃i m a d s,v=Rg i m a d s/\Rk o ds i m a d s w
def ScB(o:uV)(ds:ID)(b:Nat)(w:cJ):Prop:=∃i m a d s,w.heap[b]? =some (.cells (zJ i m a d s).toArray 125)/\Rk o ds i m a d s w
theorem Rk.keep{o:uV}{ds:ID}{m a:Int}{d s:ID}{F:dp}(h:Rk o ds E m a d s w)(k:dz F w t)(b:xY F w):Rk o ds E m a d s t:=by
 cases o with
 |none=>exact h
 |some r=>have⟨c,e,f,g,i,j,l⟩:=h;exact⟨c,e,f,g,i,j.keep k b,l⟩
theorem Rk.ext{o:uV}{ds:ID}{m a:Int}{d s:ID}(h:Rk o ds E m a d s w)(e:Ext w t):Rk o ds E m a d s t:=by
 cases o with
 |none=>exact h
 |some r=>have⟨b,c,f,g,i,j,k⟩:=h;exact⟨b,c,f,g,i,j.ext e,k⟩
def Cj.st{o:uV}{ds:ID}:∀v a b,Cj o ds v a->Ext a b->Cj o ds v b:=λ_ _ _ ⟨i,m,a,d,s,c,f⟩ e=>⟨i,m,a,d,s,c,f.ext e⟩
def Rk.better{o p:uV}{ds:ID}{j:Bool}{m a n b:Int}{d s e f:ID}(h:Rk o ds E m a d s w)(c:Rk p ds j n b e f w):Cj (wT o p) ds (if Ih E m a j n b then Rg j n b e f else Rg E m a d s) w:=by
 cases o with
 |none=>
  obtain⟨rfl,_⟩:=h;exact⟨j,n,b,e,f,rfl,c⟩
 |some r=>
  have i:=h;obtain⟨rfl,rfl,rfl,_⟩:=h;cases p with
  |none=>
   obtain⟨rfl,_⟩:=c;exact⟨_,_,_,_,_,rfl,i⟩
  |some q=>
   have l:=c;obtain⟨rfl,rfl,rfl,_⟩:=c;have g:wT (some r) (some q)=if q.1<r.1\/q.1=r.1/\q.2.1<r.2.1 then some q else some r:=rfl
   rw[g];by_cases k:q.1<r.1\/q.1=r.1/\q.2.1<r.2.1;rw[cV k,cV (by grind [Ih])];exact⟨_,_,_,_,_,rfl,l⟩;rw[cS k,cS (by grind [Ih])];exact⟨_,_,_,_,_,rfl,i⟩
def YL(a b c d:cK)(e f g k:Nat):L:=[(0,a),(1,b),(2,c),(4,d),(8,dj e),(10,dj f),(13,dj g),(14,.int .i64 (k:Nat))]
section
variable{num:List Int}{na da aa:Option Addr}{nc dc ac D:Nat}{ds:List Nat}{all:List (List (List Nat))}
theorem Rl(ct:ds.length<=5)(cu:all.length=ds.length)(cv:num.length<=1000)(hD:D<=100)(bQ:∀M∈all,M.length<=1000/\∀c∈M,c.Nodup/\c.length<=1000/\∀x∈c,x<D)(aI:∀z∈num,-1000<=z/\z<=1000)(bR:∀d∈ds,d<5):∀(r:Nat) (f:List cN) (sa:dW) (sc:Nat) (sets:cN) (ta:dW) (tc:Nat) (w:cJ),f.length+r=ds.length->iF w na num->fJ w da ds->Il w aa all->nU w sa f->f.length<=sc->fJ w ta sets->sets.length=D->(∀v∈sets,v+pw (ds.drop f.length)<num.length)->
 Calls V.prog 150 #[.slice na num.length nc,.slice da ds.length dc,.slice aa all.length ac,Rg false 0 0 Im (sa,f.length,sc),.slice ta sets.length tc] w (fO λv G=>Ext w G/\Cj (uH num ((ds.zip all).drop f.length) f sets) (da,ds.length,dc) v G):=by
 intro r;induction r with
 |zero=>
  intro f sa sc sets ta tc w hr hn hd ha hs a3 ht a4 aw;have ad:(ds.zip all).drop f.length=[]:=List.drop_eq_nil_of_le cL;rw[ad];refine TK (V.fn Tryz.func150 cL) Tryz.ntmps150 (dX.seq dB ?_);refine eJ λw1 Q e1 ax ay=>eU λw2 rb e2 az R=>?_;have U:w2.heap[Q]? =some (.cells (zJ false 0 0 Im (sa,f.length,sc)).toArray 125):=e2.at_ ay;have s1:=e1.size;have aA:¬rb=Q:=cL;refine dX.jJ (l0:=[(0,.slice na num.length nc),(1,.slice da ds.length dc),(4,.slice ta sets.length tc),(8,dj Q),(10,dj rb)]) (by trivial) ?_;refine dX.iu (dX.of dB (cP (cO U rfl) (dm (dm (eZ (ko (decide_eq_true (by show(f.length:Int)=_;omega)) ?_))))));refine dI U λw3 k3 aM=>dI aM λH k4 aN=>?_;have aN:H.heap[Q]? =some (.cells (zJ true 0 0 (da,ds.length,dc) (sa,f.length,sc)).toArray 125):=aN;have E4:Ext w H:=((e1.trans e2).cT k3 ax).cT k4 ax;have I:=k4.fN (k3.fN R aA) aA;refine fc sets.length (λk (p:Int×Int)=>[(0,.slice na num.length nc),(4,.slice ta sets.length tc),(8,dj Q),(10,dj rb),(11,i64 k)]) (λk p G=>dz (λx=>x=Q) H G/\G.heap[Q]? =some (.cells (zJ true p.1 p.2 (da,ds.length,dc) (sa,f.length,sc)).toArray 125)/\kF num (sets.take k) 0 0=some p/\(-1000*(k+1)<=p.2/\p.2<=1000*k)) (0,0) ⟨by trivial,dz.refl _ _,aN,rfl,dq,dq⟩ ?_;rintro k ⟨m,a⟩ w5 hk ⟨k5,W,a5,cw,cx⟩;have E5:=E4.cT k5 ax;refine dm (dN ⟨λbS=>?_,λbT=>?_⟩);have ae:k<sets.length:=cL;obtain⟨b,o,rfl,hc⟩:=ht k ae;have hv:=aw _ (eG ae);have A:=BO num sets[k] (sets.take k) 0 0;rw[<-iT ae,a5]at A;have A:kF num (sets.take (k+1)) 0 0=kF num [sets[k]] m a:=A;generalize sets[k]=v at*;have hv:v<num.length:=cM;obtain⟨b2,o2,rfl,bU⟩:=hn v hv;have hz:=aI _ (eG hv);have a6:jS num v=num[v]:=by rw[jS,gW,ft hv];rfl
  generalize num[v]=z at*;have A:kF num (sets.take (k+1)) 0 0=if z<0 then none else some (max m z,a+z):=by grind [kF]
  refine eX k ae (cP (E5.cell hc) (eX v hv (cP (E5.cell bU) (dN ⟨λaf=>?_,λag=>?_⟩))));have af:z<0:=fx af;rw[cV af]at A;have aO:uH num [] f sets=none:=by grind [BP,uH]
  rw[aO];have ah:=k5.fN I aA;refine eC (.agg (pJ 125).toArray) (dI ah λw6 k6 h6=>?_);have h6:w6.heap[rb]? =some (.cells (zJ false 0 0 Im Im).toArray 125):=h6.trans (dH (λa=>some (Obj.cells a 125)) (r9 (i:=false) (m:=0) (a:=0) (d:=Im) (s:=Im)));exact⟨_,jy _ h6 (λj v hj=>by rw[dn];simpa using hj),_,rfl,E5.cT k6 (du e1.size az),_,_,_,_,_,rfl,rfl,rfl,rfl,rfl,rfl⟩;have ag:¬z<0:=ie ag;rw[cS ag]at A;refine cP (cO W rfl) (rJ (cP (cO W rfl) (cY (dI W λw6 k6 h6=>dI h6 λw7 k7 h7=>cY ⟨ae,(max m z,a+z),by trivial,(k5.trans k6 (λ_ _ h=>h) λ_ _ h=>h).trans k7 (λ_ _ h=>h) λ_ _ h=>h,h7,A,cL,cL⟩))));obtain rfl:k=sets.length:=cL;rw[j5]at a5;have aP:uH num [] f sets=some (m,a,f):=by grind [uH]
  rw[aP];have ah:=k5.fN I aA;refine ez (Wl W) (dI ah λw6 k6 h6=>?_);have h6:w6.heap[rb]? =some (.cells (zJ true m a (da,ds.length,dc) (sa,f.length,sc)).toArray 125):=h6.trans (dH (λa=>some (Obj.cells a 125)) r9);have E6:=E5.cT k6 (du e1.size az);exact⟨_,jy _ h6 (λj v hj=>by rw[dn];simpa using hj),_,rfl,E6,_,_,_,_,_,rfl,rfl,rfl,rfl,rfl,rfl,hs.ext E6,a3⟩
 |succ r ih=>
  intro f sa sc sets ta tc w hr hn hd ha hs a3 ht a4 aw;have hk:f.length<ds.length:=cM;have aQ:f.length<all.length:=cM;obtain⟨d,aR⟩:∃d,d=ds[f.length]:=⟨_,rfl⟩;obtain⟨M,a7⟩:∃M,M=all[f.length]:=⟨_,rfl⟩;have ad:(ds.zip all).drop f.length=(d,M)::(ds.zip all).drop (f.length+1):=by rw[nN cL,List.getElem_zip,<-aR,<-a7]
  have aS:ds.drop f.length=d::ds.drop (f.length+1):=by rw[nN hk,<-aR]
  have a8:pw (ds.drop f.length)=2^d+pw (ds.drop (f.length+1)):=by rw[aS];rfl
  obtain⟨cy,bV⟩:=bQ M cL;have cm:d<5:=bR d cL;rw[ad];refine TK (V.fn Tryz.func150 cL) Tryz.ntmps150 (dX.seq dB ?_);refine eJ λw1 Q e1 ax ay=>eU λw2 rb e2 az R=>?_;have U:w2.heap[Q]? =some (.cells (zJ false 0 0 Im (sa,f.length,sc)).toArray 125):=e2.at_ ay;have s1:=e1.size;refine dX.jJ (l0:=[(0,.slice na num.length nc),(1,.slice da ds.length dc),(2,.slice aa all.length ac),(4,.slice ta sets.length tc),(8,dj Q),(10,dj rb)]) (by trivial) ?_;refine dX.iu (dX.of dB (cP (cO U rfl) (dm (dm (eZ (kZ (lK (by show¬(f.length:Int)=_;omega)) ?_))))));refine dX.seq dB (eU λw3 bb e3 cz ai=>dX.seq dB (cP (cO (e3.at_ U) rfl) (dm ?_)));have ai:w3.heap[bb]? =some (.cells (zJ false 0 0 Im Im).toArray 125):=ai;have aM:=e3.at_ U;have a9:=e3.at_ R;have s2:=e2.size;have E3:=(e1.trans e2).trans e3;have bW:w.heap.size<=bb:=cM;have l1:=dA.lt_of_heap ay;have l2:=dA.lt_of_heap R;have n1:¬Q=bb:=cM;have n2:¬rb=bb:=cM;obtain⟨go,bX⟩:∃go:cN->cN->uV,go=λc B=>uH num ((ds.zip all).drop (f.length+1)) (f++[c]) B:=⟨_,rfl⟩;have bY:uH num ((d,M)::(ds.zip all).drop (f.length+1)) f sets=M.foldl (uW num d sets go) none:=by rw[bX];rfl
  rw[bY];refine dX.jJ (l0:=YL (.slice na num.length nc) (.slice da ds.length dc) (.slice aa all.length ac) (.slice ta sets.length tc) Q rb bb f.length) (by trivial)<|dX.iu (dX.seq dB ?_);refine pT M.length (λi (_:Unit)=>(15,i64 i)::YL (.slice na num.length nc) (.slice da ds.length dc) (.slice aa all.length ac) (.slice ta sets.length tc) Q rb bb f.length) (λi _ G=>dz (λx=>x=bb) w3 G/\ScB ((M.take i).foldl (uW num d sets go) none) (da,ds.length,dc) bb G) () ⟨by trivial,dz.refl _ _,_,_,_,_,_,ai,rfl,rfl,rfl,rfl,rfl⟩ ?_;rintro i _ H hi ⟨k4,hB⟩;have E4:Ext w H:=E3.cT k4 bW;obtain⟨ab,ao,ca,cc,rfl,aT,bc,be⟩:=ha f.length aQ;rw[<-a7]at aT bc be;refine dX.iu (dX.of dB (eX f.length aQ (cP (E4.cell aT) (dm (dN ⟨λbS=>?_,λbT=>?_⟩)))));have aj:i<M.length:=cL;obtain⟨c,bf⟩:∃c,c=M[i]:=⟨_,rfl⟩;obtain⟨bg,cn,bZ⟩:=bV c cL;have aU:=N5 (num:=num) (d:=d) (sets:=sets) (go:=go) aj;rw[<-bf]at aU;generalize (M.take i).foldl (uW num d sets go) none=g at*;obtain⟨b1,o1,cA,xa,xc,rfl,bh,aB,aV,b0⟩:=bc i aj;have ak:=cO bh aB;rw[<-bf]at ak aV b0;obtain⟨bi,bm,ba,bd,bs,al,X⟩:=hB;refine dX.iu (dX.block (dX.seq dB (eX f.length aQ (cP (E4.cell aT) (eX i aj (cP (E4.cell ak) ?_))))));refine dX.seq dB (er [] 3 λw5 cB e5 bj W=>n5 (n0:=H.heap.size) oR W bj (by simp[gA]) (ht.ext (E4.trans e5)).cells (wz sets) cM λq w6 hq hE=>?_);have aW:Ext H w6:=hE H e5 (di _);have hq:eO H.heap.size w6 q sets:=hq;obtain⟨qa,qc,rfl,_,_⟩:=hq.row;have E6:=E4.trans aW;have co:=aW.at_ al;refine dX.seq dB (dX.iu (dX.seq dB ?_));refine pT c.length (λj (_:Unit)=>(16,.slice xa c.length xc)::(17,.slice qa sets.length qc)::(18,.bool (wU num g d sets (c.take j)))::(19,i64 j)::(15,i64 i)::YL (.slice na num.length nc) (.slice da ds.length dc) (FF ab ao all.length ac) (.slice ta sets.length tc) Q rb bb f.length) (λj _ G=>dz (cW (.slice qa sets.length qc)) w6 G/\eO H.heap.size G (.slice qa sets.length qc) (jC d sets (c.take j))) () ⟨by trivial,dz.refl _ _,hq⟩ ?_;rintro j _ w7 hj ⟨k7,aC⟩;have J:Ext H w7:=aW.iZ k7 hq (di _);have E7:=E4.trans J;have aJ:=J.at_ al;have aX:=pm d (c.take j) sets;refine dX.iu (dX.of dB (dm (dN ⟨λcp=>?_,λcq=>?_⟩)));have C:j<c.length:=cL;obtain⟨x,hx⟩:∃x,x=c[j]:=⟨_,rfl⟩;have N:x<sets.length:=by rw[hx,a4];exact bZ _ (eG C)
  have bk:c.take (j+1)=c.take j++[x]:=by rw[hx];simp
  have A:=N4 d sets (c.take j) x;have t:=Dx num g d x (c.take j) sets;rw[<-bk]at A t
  have b3:x∉c.take j:=λhm=>by
   have b4:(c.take j++[x]).Nodup:=by rw[<-bk];exact bg.sublist (List.take_sublist _ _)
   exact(List.nodup_append.1 b4).2.2 x hm x (jE.2 rfl) rfl
  have b5:=tQ d (c.take j) sets b3;generalize jC d sets (c.take j)=B at*;have b6:B.getD x 0+2^d<num.length:=by have h1:=aw _ (eG N);rw[a8]at h1;rw[b5,gW,ft N];simp only[kK];omega
  have aY:dg H.heap.size 3 [i64 0] w7 (.slice qa sets.length qc) sets.length (gA B):=by have h:=aC;unfold eO at h;grind
  obtain⟨Y,rfl,aD⟩:∃Y,qa=some (dt Y 0)/\H.heap.size<=Y:=by obtain⟨_,⟨h0,_⟩|⟨Y,b7,b8,q1,Z,_⟩⟩:=aY;omega;injection Z with Z;exact⟨Y,Z,q1⟩
  have bl:∀{G:cJ} {l:cN},dg H.heap.size 3 [i64 0] G (eT Y sets.length qc) sets.length (gA l)->l.length=sets.length->G.cell? (dt Y (0+x))=some (i64 ((l.getD x 0:Nat))):=λ{G l} h hl=>by obtain⟨_,⟨h0,_⟩|⟨cC,b7,b8,q1,Z,q3,q4,q5,q6,q7,q8⟩⟩:=h;omega;injection Z with Z _ q9;injection Z with Z;injection Z with Z;subst Z;have bo:x<l.length:=cM;rw[dn];refine cO q3 ((q7 x (by simpa[gA]using bo)).trans ?_);simp[gA,ft bo,gW]
  have bp:=bl aY aX;have hP:(0:Int)<=((2^d:Nat):Int):=Int.natCast_nonneg _;obtain⟨bx,ox,rfl,am⟩:=aV.row j C;rw[<-hx]at am;obtain⟨bq,oq,rfl,br⟩:=hd f.length hk;rw[<-aR]at br;refine dX.iu (dX.block (dX.seq dB (dE dD (gl j C (dl (E7.cell am) (gl j C (dl (E7.cell am) (gl x N (dl bp (gl f.length hk (dl (E7.cell br) (dx _ (λw1 _=>Ij cM (Dw d cM) ⟨rfl,dD.refl _⟩) (vn (gl x N λw8 e8=>?_))))))))))))));refine Re (dg.ext aY e8) N rfl rfl λw9 bt k9=>?_;obtain⟨O,S⟩:∃O,O=B.set x (B.getD x 0+2^d):=⟨_,rfl⟩;have bu:(gA B).set x (i64 ((B.getD x 0:Nat)+(2^d:Nat)))=gA O:=by rw[S];simp[gA,List.map_set]
  rw[bu]at bt;rw[<-S]at A;rw[A]at t⊢;have b9:O.length=sets.length:=by rw[S,sJ];grind
  have an:O.getD x 0<num.length:=by rw[S,gW,List.getElem?_set_self cM];exact b6
  have bv:=bl bt b9;generalize O.getD x 0=v2 at*;obtain⟨bn,on,rfl,bw⟩:=hn v2 an;have a6:jS num v2=num[v2]:=by rw[jS,gW,ft an];rfl
  have hz:=aI _ (eG an);generalize num[v2]=z at*;have cD:H.heap.size<=Y:=aD;have bz:Ext H w9:=(J.trans e8).cT k9 aD;have E9:=E4.trans bz;have aK:=bz.at_ al;have K9:dz (cW (eT Y sets.length qc)) w6 w9:=(k7.trans (e8.keep _) (λ_ _ h=>h) λ_ _ h=>h).trans k9 (λ_ _ h=>h) λx _ h=>by have h:x=Y:=h;rw[h];exact⟨_,_,rfl⟩
  have cb:U1 num g v2=(decide (0<=z)&&(!bi||decide (z<=bm))):=by
   unfold U1;rw[a6];cases g with
   |none=>obtain⟨rfl,_⟩:=X;rfl
   |some r=>obtain⟨rfl,rfl,_⟩:=X;rfl
  rw[cb]at t;have aE:∀{b:Bool},b=wU num g d sets (c.take (j+1))->some (Value.bool b)=some (.bool (wU num g d sets (c.take (j+1)))):=λh=>by rw[h]
  have aF:eO H.heap.size w9 (eT Y sets.length qc) O:=by unfold eO;grind
  have KK:∀{P:cJ},Ext w9 P->dz (cW (eT Y sets.length qc)) w6 P:=λe=>K9.trans (e.keep _) (λ_ _ h=>h) λ_ _ h=>h;refine dE dD ⟨λh1=>?_,λh1=>?_⟩;rw[h1]at t;refine gl j C (dl (E9.cell am) (gl x N (dl bv (gl v2 an (dl (E9.cell bw) (W4 ⟨λh2=>?_,λh2=>?_⟩))))));rw[h2]at t;refine dl (cO aK rfl) (mQ ⟨λh3=>?_,λh3=>?_⟩);rw[h3]at t;intro P n;refine dX.of dB ?_;exact cY ⟨C,(),⟨rfl,rfl,aE (by rw[t];rfl),rfl,rfl,rfl,rfl,rfl,rfl,rfl,rfl,rfl,rfl,trivial⟩,KK n,dg.ext aF n⟩;rw[h3]at t;refine gl j C (dl (E9.cell am) (gl x N (dl bv (gl v2 an (dl (E9.cell bw) (dl (cO aK rfl) (UE λP n=>?_)))))));refine dX.of dB ?_;exact cY ⟨C,(),⟨rfl,rfl,aE (by rw[t];rfl),rfl,rfl,rfl,rfl,rfl,rfl,rfl,rfl,rfl,rfl,trivial⟩,KK n,dg.ext aF n⟩;rw[h2]at t;intro P n;refine dX.of dB ?_;exact cY ⟨C,(),⟨rfl,rfl,aE (by rw[t];rfl),rfl,rfl,rfl,rfl,rfl,rfl,rfl,rfl,rfl,rfl,trivial⟩,KK n,dg.ext aF n⟩;rw[h1]at t;refine kZ rfl ?_;intro P n;refine dX.of dB ?_;exact cY ⟨C,(),⟨rfl,rfl,aE (by rw[t];rfl),rfl,rfl,rfl,rfl,rfl,rfl,rfl,rfl,rfl,rfl,trivial⟩,KK n,dg.ext aF n⟩;obtain rfl:j=c.length:=cL;rw[j5]at aC aX⊢;obtain⟨B,ap⟩:∃B,B=jC d sets c:=⟨_,rfl⟩;rw[<-ap]at aC aX;have cd:=J.at_ (k4.fN aM n1);have F:uW num d sets go g c=if wU num g d sets c then wT g (go c B)else g:=by rw[ap];rfl
  refine dX.of dB ⟨λhf=>?_,λhf=>?_⟩
  ·rw[hf,cV rfl]at F;obtain⟨us,ce,cf,bA,cg⟩:=(hs.ext E7).cells;refine er [] 27 λw8 Y e8 aD ch=>cP (cO (e8.at_ cd) rfl) (n5 (n0:=w7.heap.size) Jw ch aD rp (cf.ext e8) (λu hu=>by obtain⟨_,_,_,rfl⟩:=bA u hu;rfl) cL λZ w9 bB ci=>?_);have bC:Ext w7 w9:=ci w7 e8 (di _);refine er [.slice xa c.length xc] 27 λP cE n cr bD=>hH Jw (dg.ext bB n) (bC.trans n).size bD cL λq3 bE cj ck _=>?_;have T:Ext w7 bE:=(bC.trans n).iZ ck (dg.ext bB n) (di _);obtain⟨la,lc,rfl,cF,_⟩:=cj.len;have aZ:(f++[c]).length=f.length+1:=dq;obtain⟨bF,bG⟩:=L3 (ls:=f++[c]) (c:=lc) (by rw[aZ];omega) λk hk=>by obtain h|h:=gC k f.length;obtain⟨x,c2,r1,r2,r3⟩:=cg k h;refine⟨x,c2,?_,?_,?_⟩;rw[yd cM,r1,nm h];rw[nm h];exact r2.ext T;rw[nm h];grind;obtain rfl:k=f.length:=cL;refine⟨xa,xc,?_,?_,?_⟩;rw[ye cM,ce,lJ];simp;simp only[List.getElem_concat_length];exact aV.ext (E7.trans T);simp only[List.getElem_concat_length];grind
   refine eC (Rg false 0 0 Im (la,f.length+1,lc)) (eU λcG lb bH bI bJ=>dI bJ λaG bK aq=>?_);have aq:aG.heap[lb]? =some (.cells (zJ false 0 0 Im (la,f.length+1,lc)).toArray 125):=aq.trans (dH (λa=>some (Obj.cells a 125)) (r9 (i:=false) (m:=0) (a:=0) (d:=Im) (s:=(la,f.length+1,lc))));have L:Ext w7 aG:=(T.trans bH).cT bK (du T.size bI);have a0:Ext bE aG:=bH.cT bK bI;have a1:=E7.trans L;have ar:=L.at_ aJ;have bL:=dg.ext aC L;have cH:(ds.zip all).drop (f++[c]).length=(ds.zip all).drop (f.length+1):=cL;have cl:go c B=uH num ((ds.zip all).drop (f++[c]).length) (f++[c]) B:=cL;have bM:B.length=sets.length:=cL;have bN:∀v∈B,v+pw (ds.drop (f++[c]).length)<num.length:=λv hv=>by obtain⟨k,hk,rfl⟩:=List.getElem_of_mem hv;have h1:=L1 d k c sets bg;rw[<-ap]at h1;have bO:k<sets.length:=cM;have h2:=aw _ (eG bO);rw[a8]at h2;rw[aZ];simp only[gW,ft hk,ft bO,kK]at h1;omega
   have a2:∀E,Ext aG E->Calls V.prog 150 #[.slice na num.length nc,.slice da ds.length dc,FF ab ao all.length ac,Rg false 0 0 Im (la,f.length+1,lc),.slice qa sets.length qc] E (fO λv G=>Ext E G/\Cj (go c B) (da,ds.length,dc) v G):=λE y=>by have h:=ih (f++[c]) la lc B qa qc E cL (hn.ext (a1.trans y)) (hd.ext (a1.trans y)) (ha.ext (a1.trans y)) (bF.ext (a0.trans y)) bG (by obtain⟨a',c',q1,Z,_⟩:=(eO.row (dg.ext bL y));grind) cM bN;rw[<-cl,aZ,bM]at h;exact h
   refine dE dD (BN (Wl ar) (BN (Wl aq) ?_));refine .rel (Cj (go c B) (da,ds.length,dc)) Cj.st (λE y=>cX (a2 E y) λv aH ⟨au,av⟩=>⟨av,au⟩)<| .rel (Cj (wT g (go c B)) (da,ds.length,dc)) Cj.st (λE y v hv=>?_) ?_;obtain⟨j',n',b',d',s',rfl,hX⟩:=hv;exact ep (Ii _ _ _ _ _ _ _ _ _ _ _) λaH au=>⟨((X.ext (J.trans (L.trans (y.trans au)))).better (hX.ext au)),au⟩;intro E y u hu v hv;have hu:Cj (wT g (go c B)) (da,ds.length,dc) u E:=hu;obtain⟨i',m',a',d',s',rfl,hX⟩:=hu;repeat intro _
   have aL:=y.at_ ar;refine dI aL λaH bP av=>?_;have av:aH.heap[bb]? =some (.cells (zJ i' m' a' d' s').toArray 125):=av.trans (dH (λa=>some (Obj.cells a 125)) (ef (zJ bi bm ba bd bs).toArray (zJ i' m' a' d' s') rfl));have K:dz (λx=>x=bb) w3 aH:=(k4.trans ((J.trans (L.trans y)).keep _) (λ_ _ h=>h) λ_ _ h=>h).trans bP (λ_ _ h=>h) λ_ _ h=>h;refine dX.of dB ?_;exact cY ⟨aj,(),by trivial,K,by rw[aU,F];exact⟨_,_,_,_,_,av,hX.keep bP (Fl aL)⟩⟩
  rw[hf,cS Bool.false_ne_true]at F;exact dX.of dB (cY ⟨aj,(),by trivial,k4.trans (J.keep _) (λ_ _ h=>h) λ_ _ h=>h,by rw[aU,F];exact⟨_,_,_,_,_,aJ,X.ext J⟩⟩);obtain rfl:i=M.length:=cL;rw[j5]at hB;obtain⟨bi,bm,ba,bd,bs,al,X⟩:=hB;have I:=k4.fN a9 n2;refine dX.of dB (ez (Wl al) (dI I λw5 k5 h5=>?_));have h5:w5.heap[rb]? =some (.cells (zJ bi bm ba bd bs).toArray 125):=h5.trans (dH (λa=>some (Obj.cells a 125)) r9);exact⟨_,jy _ h5 (λj v hj=>by rw[dn];simpa using hj),_,rfl,E4.cT k5 (du e1.size az),_,_,_,_,_,rfl,X.keep k5 (Fl I)⟩
end
theorem Io{t:Td}:∀{a:Nat} {p:cN},p∈jB t m k a->p.Pairwise (·<·)/\∀x∈p,x<=p.getD (a-1) 0
 |0,p,h=>by
  obtain rfl:p=[]:=by grind [jB]
  simp
 |a+1,p,h=>by
  simp only[jB,me]at h;have⟨q,b,h⟩:=h;have⟨l,_⟩:=tP b;have⟨n,c⟩:=Io b;simp only[mB,kJ,py,gf]at h;obtain⟨j,⟨o,d⟩,rfl⟩:=h
  have e:∀x∈q,x<m+j:=λx f=>by
   have g:=c x f;have i:0<a:=by grind
   simp only[Cg,decide_eq_true i,Bool.true_and,sH,Bool.or_eq_false_iff,decide_eq_false_iff_not]at d;omega
  grind
def Ip(a:H.Ok){t:Td}(d:0<=t.times):(BH H t m).length<=216/\∀c∈BH H t m,c.Nodup/\c.length<=3/\∀x∈c,m<=x/\x<(2*H.days).toNat:=by have e:=a.days;have f:=a.tries;have g:=Fh (T:=H.tries) (t:=t) cM d;have h:(qD H.tries t).tries.toNat<=3:=cM;refine⟨du (List.length_filter_le _ _) (BI cM h),λc i=>?_⟩;have b:=(py.1 i).1;have⟨j,k⟩:=tP b;refine⟨(Io b).1.imp cM,cM,cL⟩
def N7(G:Gd):(iv G).length=2^G.doors.length:=by simp[iv]
theorem Rm:∀(n:Nat) (l:cN),l.Nodup->(∀d∈l,d<n)->pw l<2^n
 |0,l,_,h=>by
  cases l with
  |nil=>exact Nat.one_pos
  |cons d r=>exact absurd (h d fW) (Nat.not_lt_zero _)
 |n+1,l,b,h=>by
  have c:∀(l:cN) (x:Nat),pw (x::l)=2^x+pw l:=λ_ _=>rfl
  have a:pw l=pw (l.filter (·≠n))+if n∈l then 2^n else 0:=by
   clear h;induction l with
   |nil=>grind
   |cons x r f=>
    have g:=List.nodup_cons.1 b;rw[c,f g.2];by_cases e:x=n;grind;grind
  have i:=Rm n (l.filter (·≠n)) (b.filter _) cL;grind
def Fo{a:Nat}{w d:cJ}{e:List cN}{F:dp}(h:fh a w x e)(k:dz F w d)(j:∀b,F b->b<a):fh a d x e:=by
 have⟨l,m,o,p⟩:=h;have c:∀{t:cR} {f:dP} {u:cK} {n:Nat} {g:dP},dg a t f w u n g->dg a t f d u n g:=λh=>h.keep k λb q r=>by have:=j b r;have:=(dg.blk h q).1;omega
 exact⟨l,c m,o,λi s=>by have⟨u,v,y⟩:=p i s;exact⟨u,v,c y⟩⟩
def pW(G:Gd)(l:List Tq)(f:Nat)(a:cN):uV:=uH (iv G) (a.zip (a.map λd:Nat=>BH G (sx (d:Nat) sv l) f)) [] (List.replicate (2*G.days).toNat 0)
section
variable{G:Gd}{da:Option Addr}{dc:Nat}{w:cJ}
def Dy(hG:eo G=0)(hd:gZ w da G.doors){l:List Tq}{la:dW}{lc:Nat}(hr:kz w la l)(W:l.length<=100000)(hs:∀q∈l,0<=q.shift/\q.shift<=1000)(f:Nat)(hf:f<=1000){ds:cN}{I:dW}{P:Nat}(X:fJ w I ds)(Y:ds.Nodup)(Z:∀d∈ds,d<G.doors.length):
 Calls V.prog 100 #[gV G da dc,.slice la l.length lc,.int .i64 f,.slice I ds.length P] w (fO λv Q=>Ext w Q/\Cj (pW G l f ds) (I,ds.length,P) v Q):=by
 have ok:=eD hG;have A:=ok.many;have az:=ok.days;have aj:ds.length<=5:=du (wL _ _ Y Z) A;have⟨p,J⟩:=ju (λd:Nat=>BH G (sx (d:Nat) sv l) f:Nat->List (List Nat));have ab:∀d,(p d).length<=216/\∀c∈p d,c.Nodup/\c.length<=3/\∀x∈c,f<=x/\x<(2*G.days).toNat:=λd=>by rw[J];exact Ip ok (xV d l).1.1
 have hq:pW G l f ds=uH (iv G) (ds.zip (ds.map p)) [] (List.replicate (2*G.days).toNat 0):=by rw[J];rfl
 rw[hq];refine go (V.fn Tryz.func100 cL) Tryz.ntmps100 ?_;refine eJ λw1 gb e1 aA hg=>eU λR rb e2 ak ad=>?_;have E2:=e1.trans e2;have ae:=e2.at_ hg;refine fc ds.length (λi v=>[(1,.slice la l.length lc),(2,i64 f),(3,.slice I ds.length P),(4,dj gb),(8,dj rb),(9,v),(10,i64 i)]) (λi v Q=>Ext R Q/\∃K:dP,dg R.heap.size 66 [fo] Q v i K/\K.length=i/\∀j (h:j<ds.length),j<i->∃x c,K[j]? =some (.slice x (p ds[j]).length c)/\nU Q x (p ds[j])/\(p ds[j]).length<=c) (fo) ⟨by trivial,Ext.refl _,[],dg.nil _ _ _ _,rfl,cL⟩ ?_;rintro i v r hi ⟨e3,K,B,aB,af⟩;have E3:=E2.trans e3;have ag:=e3.at_ ae;have hF:∀b,cW v b->R.heap.size<=b/\b<r.heap.size:=λb hb=>B.blk hb;refine dm (dN ⟨λay=>?_,λaC=>?_⟩)
 ·have M:i<ds.length:=cL;have Ek:∀{g:cJ},dz (cW v) r g->Ext R g:=λe=>e3.sn e cL;obtain⟨ob,oo,rfl,al⟩:=X i M;have⟨L,hL⟩:=ju (p ds[i]);have am:=(ab ds[i]).1;rw[<-hL]at am;refine gQ 10 dD (ij (cW v)) (λa b h=>h.keep _)<| .exact (gV G da dc) (λg e=>eF ((Ek e).at_ ae) fL)<| .exact (oz ob (oo+i)) (λg e=>eX i M fL)<| .exact (i64 (ds[i]:Nat)) (λg e=>cP ((E2.trans (Ek e)).cell al) fL) ?_;refine .rel (λu g=>fh r.heap.size g u L) (λu a b h e=>Fo h e cL) (λg e=>cX (Fi (dc:=dc) ok (hr.ext (E2.trans (Ek e))) W hs ds[i] f hf) λu S ⟨F,A⟩=>⟨by rw[hL,J];exact A.low e.size,F⟩) ?_;refine .rel (λu g=>∃m y,u=eT m 1 1/\r.heap.size<=m/\g.heap[m]? =some (.cells [y].toArray 66)/\fh r.heap.size g y L) (λu a b ⟨m,y,E,t,T,q4⟩ e=>⟨m,y,E,t,e.fN T cL,Fo q4 e cL⟩) (λg e y U=>?_) ?_
  ·have U:fh r.heap.size g y L:=U;have an:=U;obtain⟨a',c',rfl,_⟩:=an.row;repeat intro _
   exact er [.slice a' L.length c'] 66 λS m F N O=>⟨⟨m,_,rfl,iI e.size,O,U.ext F⟩,F⟩
  refine .spec (λu g=>∃y,dg R.heap.size 66 [fo] g u (i+1) (K++[y])/\fh r.heap.size g y L) (λu a b ⟨y,E,t⟩ e=>⟨y,E.ext e,t.ext e⟩) (λg e y U=>?_) ?_
  ·obtain⟨m,y,rfl,t,T,q4⟩:∃m u,y=eT m 1 1/\r.heap.size<=m/\g.heap[m]? =some (.cells [u].toArray 66)/\fh r.heap.size g u L:=U;have ao:=q4;obtain⟨a',c',rfl,_⟩:=ao.row;repeat intro _
   exact hH Xb (B.ext e) (du e3.size e.size) T cM λv' S g1 g2 _=>⟨⟨_,g1,Fo q4 g2 cL⟩,g2⟩
  refine .late rfl (λu g=>∃y,dg R.heap.size 66 [fo] g u (i+1) (K++[y])/\fh r.heap.size g y L) (λu a b ⟨y,E,t⟩ e=>⟨y,E.ext e,t.ext e⟩) (λg e=>?_) ?_
  ·intro v1 h1;repeat intro _
   exact⟨h1,Ext.refl _⟩
  rintro g n v' ⟨y,ap,aq⟩;repeat intro _
  refine cY ⟨M,v',by trivial,Ek n,K++[y],ap,cL,λj hj aD=>?_⟩;obtain h|h:=gC j i;have⟨x,c,E,t,T⟩:=af j hj h;exact⟨x,c,cL,t.keep n (T2 B),T⟩;obtain rfl:j=i:=cM;rw[<-hL];obtain⟨x,c,rfl,E,t⟩:=aq.V6;exact cL
 ·obtain rfl:i=ds.length:=cL;obtain⟨aa,ac,rfl,aE,_⟩:=B.len;have⟨o,ar⟩:=ju ((2*G.days).toNat);have hD:2*G.days=(o:Nat):=cM;have ah:(ds.map p).length=ds.length:=nP _;have au:Il r aa (ds.map p):=λk hk=>by have ai:k<ds.length:=cM;have⟨x,c,E,t,T⟩:=af k ai ai;obtain⟨h0,⟨h1,h2⟩|⟨b,c',cs,h1,h2,h3,h4,A,h6,h7,h8⟩⟩:=B;omega;injection h2 with r1 r2 r3;subst r1 r3;refine⟨b,0,x,c,rfl,cO h3 ?_,?_,?_⟩;grind;grind;grind
  have H:=e3.at_ ad;have aF:=Xt A;have av:=N7 G;rw[<-ar];refine dE dD<|pU ag<| .rel (λu g=>H6 r.heap.size g u (iv G)) (λu a b h e=>dg.ext h e) (λg n=>cX (Fj (dc:=dc) hG (hd.ext (E3.trans n))) λu S ⟨F,A⟩=>⟨dg.low A n.size,F⟩)<| .exact (Rg false 0 0 Im Im) (λg n=>eC _ fL)<|dl (cO ag rfl)<| .exact (i64 (o:Nat)) (λg n=>qo ⟨cL,Ext.refl _⟩) ?_;refine .rel (λu g=>∃m,u=eT m o o/\g.heap[m]? =some (.cells (gA (List.replicate o 0)).toArray 3)) (λu a b ⟨m,E,t⟩ e=>⟨m,E,e.at_ t⟩) (λg n=>EG oR (di _) cM λS m F N O=>⟨⟨m,rfl,by rw[O,AO];simp[gA]⟩,F⟩) ?_;refine .rel (Cj (uH (iv G) (ds.zip (ds.map p)) [] (List.replicate o 0)) (I,ds.length,P)) Cj.st (λg n=>?_) ?_
  ·intro u hu v B;repeat intro _
   have B:H6 r.heap.size g v (iv G):=B;obtain⟨m,rfl,N⟩:∃m,u=eT m o o/\g.heap[m]? =some (.cells (gA (List.replicate o 0)).toArray 3):=hu;obtain⟨na,nc,rfl,aw,_⟩:=B.row;have C:=Rl (num:=iv G) (na:=na) (da:=I) (aa:=aa) (nc:=nc) (dc:=P) (ac:=ac) (D:=o) (ds:=ds) (all:=ds.map p) aj ah cM cM
    (λcs ax=>by obtain⟨d,aG,rfl⟩:=kJ.1 ax;grind)
    (λz hz=>by obtain⟨s,_,rfl⟩:=kJ.1 hz;grind [o9,uG,fT])
    cL ds.length [] none 0 (List.replicate o 0) (pr m 0) o g dq aw (X.ext (E3.trans n)) (au.ext n) (λk hk=>by simp at hk) (gh _) (λk hk=>⟨m,0,rfl,cO N (by simp only[List.length_replicate]at hk;simp[gA,hk])⟩) dq
    (λv B=>by rw[(List.mem_replicate.1 B).2,av];have:=Rm G.doors.length ds Y Z;grind)
   rw[List.length_replicate,ah]at C;exact cX C cL
  intro g n u hu;have hu:Cj (uH (iv G) (ds.zip (ds.map p)) [] (List.replicate o 0)) (I,ds.length,P) u g:=hu;obtain⟨i',m',a',d',s',rfl,hX⟩:=hu;repeat intro _
  refine dI (n.at_ H) λS k5 A=>?_;have A:S.heap[rb]? =some (.cells (zJ i' m' a' d' s').toArray 125):=A.trans (dH (λa=>some (Obj.cells a 125)) r9);exact⟨_,jy _ A cL,_,rfl,(E3.trans n).cT k5 (du e1.size ak),_,_,_,_,_,rfl,hX.keep k5 (Fl (n.at_ H))⟩
end
def L4(h:eO m w x l)(k:dz A w t)(a:∀b,A b->b<m):eO m t x l:=
 dg.keep h k λb c d=>by have:=a b d;have:=(dg.blk h c).1;omega
theorem Dz:∀(m:Nat) {l:cN} {la:dW} {lc:Nat} (w:cJ),fJ w la l->l.length<=lc->l.length<=5->m<=100->Calls V.prog 127 #[.slice la l.length lc,.int .i64 m] w (fO λv B=>Ext w B/\fh w.heap.size B v (jN m l))
 |0,l,la,lc,w,_,_,_,_=>by rw[show jN 0 l=[[]] by simp only[jN]];refine jd Tryz.func127 Tryz.ntmps127 ?_;refine eZ (ko dq (er [fo] 27 λw1 f e1 G g=>⟨_,rfl,e1,[fo],⟨rfl,.inr ⟨f,1,_,G,rfl,g,rfl,di _,kg,λj _=>dq,λj hj Z=>by simp at hj Z;omega⟩⟩,rfl,λk U=>?_⟩));obtain rfl:k=0:=fB U;exact⟨_,rfl,dg.nil _ _ _ _⟩
 |m+1,l,la,lc,w,hl,N,h5,hm=>by
  refine jd Tryz.func127 Tryz.ntmps127 ?_;refine eZ (kZ (lK cM) ?_);have aj:(jN (m+1) l).length<=32:=du (wN _ _) (du (Nat.pow_le_pow_right kg h5) kg);refine fc l.length (λi (x:cK×List cN)=>[(0,.slice la l.length lc),(1,i64 ((m+1:Nat):Int)),(5,x.1),(6,i64 (i:Nat))]) (λi x B=>Ext w B/\fh w.heap.size B x.1 x.2/\x.2++jN (m+1) (l.drop i)=jN (m+1) l) (fo,[]) ⟨by trivial,Ext.refl _,⟨[],dg.nil _ _ _ _,rfl,λk U=>by simp at U⟩,dq⟩ ?_;rintro i ⟨v,H⟩ w2 hi ⟨e2,W,p⟩;simp only at W p;refine dm (dN ⟨λaa=>?_,λab=>?_⟩);have C:i<l.length:=fB aa;have⟨T,hT⟩:=ju (jN m (l.drop (i+1)));have⟨d,hd⟩:=ju (l[i]);have s:H++T.map (d::·)++jN (m+1) (l.drop (i+1))=jN (m+1) l:=by rw[<-p,nN C,hT,hd];simp only[jN];rw[List.append_assoc]
  have ak:H.length+T.length<=32:=by have:=dH List.length s;simp only[lx,nP]at this;omega
  have E:=Dz m (l:=l.drop (i+1)) (la:=uR la (i+1) lc) (lc:=lc-(i+1)) w2 ((hl.ext e2).drop (i+1) N) (by rw[List.length_drop];omega) (by rw[List.length_drop];omega) cM;rw[<-hT,List.length_drop]at E;refine cY (wG (i+1) cM N (fI ?_) cM);rw[show((((m+1:Nat):Int))-1)=(m:Int) by omega];refine cX E ?_;rintro _ w3 ⟨e3,hu⟩;obtain⟨a5,c5,rfl,ac,al⟩:=hu.M4 (A:=cW v) λb g=>(W.blk g).2;have ad:=e2.trans e3;refine fc T.length (λk (r:cK)=>[(0,.slice la l.length lc),(1,i64 ((m+1:Nat):Int)),(5,r),(6,i64 (i:Nat)),(7,.slice a5 T.length c5),(8,i64 k)]) (λk r B=>Ext w B/\fh w.heap.size B r (H++(T.take k).map (d::·))/\l7 (cW r) B a5 T) v ⟨by trivial,ad,fB (W.ext e3),ac⟩ ?_;rintro k r q U ⟨X,D,O⟩;refine dm (dN ⟨λP=>?_,λQ=>?_⟩)
  ·have t:k<T.length:=fB P;have⟨b5,o5,a7,c7,ae,af,R,ag,am⟩:=O k t;subst af;have an:=(tO (by rw[<-hT];exact eG t)).1;obtain⟨lb,lo,rfl,F⟩:=hl i C;rw[<-hd]at F;have S:∀b,cW r b->w.heap.size<=b/\b<q.heap.size:=λb g=>D.blk g;have Ek:∀{c:cJ},dz (cW r) q c->Ext w c:=λe=>X.sn e λb g=>(S b g).1;have hn:∀{c:cJ},dz (cW r) q c->fJ c a7 T[k]:=λe=>(ag.go (λ_ h=>.inl h) λb o v9 hA I=>e.fe I hA).n;refine gQ 12 dD (ij (cW r)) (λa b h=>h.keep _)<| .exact (oz lb (lo+i)) (λc e=>eX i C fL)<| .exact (i64 (d:Nat)) (λc e=>cP ((Ek e).cell F) fL)<| .rel (λu c=>∃f,u=eT f 1 1/\q.heap.size<=f/\c.heap[f]? =some (.cells [Value.int .i64 (d:Nat)].toArray 3)) (λu a b ⟨f,J,z,K⟩ e=>⟨f,J,z,e.fN K λh=>iI ((S _ h).2)⟩) (λc e=>er [i64 (d:Nat)] 3 λw6 f L G g=>⟨⟨f,rfl,iI e.size,g⟩,L⟩) ?_;refine .exact (oz b5 (o5+k)) (λc e=>eX k t fL)<| .exact (.slice a7 T[k].length c7) (λc e=>cP (e.fe R ae) fL)<| .rel (λu c=>eO q.heap.size c u (d::T[k])) (λu a b h e=>L4 h e λb g=>(S b g).2) (λc e u hu=>?_) ?_
   ·obtain⟨f,rfl,z,K⟩:∃f,u=eT f 1 1/\q.heap.size<=f/\c.heap[f]? =some (.cells [Value.int .i64 (d:Nat)].toArray 3):=hu;repeat intro _
    refine Bt (n0:=q.heap.size) K rfl z rfl (hn e) cM λu w6 ah L=>⟨?_,L⟩;have h:=ah;rw[Nat.add_comm]at h;exact h
   refine .rel (λu c=>∃f y,u=eT f 1 1/\q.heap.size<=f/\c.heap[f]? =some (.cells [y].toArray 27)/\eO q.heap.size c y (d::T[k])) (λu a b ⟨f,y,J,z,K,q4⟩ e=>⟨f,y,J,z,e.fN K λh=>iI ((S _ h).2),L4 q4 e λb g=>(S b g).2⟩) (λc e y M=>?_) ?_
   ·have M:eO q.heap.size c y (d::T[k]):=M;have ai:=M;obtain⟨a',c',rfl,_⟩:=ai.row;repeat intro _
    exact er [.slice a' (d::T[k]).length c'] 27 λw6 f L G g=>⟨⟨f,_,rfl,iI e.size,g,dg.ext M L⟩,L⟩
   refine .spec (λu c=>fh w.heap.size c u (H++(T.take (k+1)).map (d::·))/\∀b,cW u b->cW r b\/q.heap.size<=b) (λu a b ⟨J,z⟩ e=>⟨J.ext e,z⟩) (λc e y M=>?_) ?_
   ·obtain⟨f,y,rfl,z,K,q4⟩:∃f u,y=eT f 1 1/\q.heap.size<=f/\c.heap[f]? =some (.cells [u].toArray 27)/\eO q.heap.size c u (d::T[k]):=M;repeat intro _
    refine tM (D.ext e) (du X.size e.size) (q4.low X.size) K rp λv8 w8 Y g2 g3=>⟨⟨?_,λb g=>?_⟩,g2⟩;rw[List.append_assoc]at Y;rw[iT t,qH];exact Y;obtain h|h:=g3 b g;exact .inl h;exact .inr (du e.size h)
   refine .late rfl (λu c=>fh w.heap.size c u (H++(T.take (k+1)).map (d::·))/\∀b,cW u b->cW r b\/q.heap.size<=b) (λu a b ⟨J,z⟩ e=>⟨J.ext e,z⟩) (λc e=>?_) ?_
   ·intro v1 h1;repeat intro _
    exact⟨h1,Ext.refl _⟩
   rintro c e5 v8 ⟨Y,g3⟩;repeat intro _
   refine cY ⟨t,v8,by trivial,Ek e5,Y,?_⟩;exact O.go g3 λb o v9 hA I=>e5.fe I hA
  obtain rfl:k=T.length:=by simp at Q;omega
  rw[j5]at D;exact cY ⟨C,(r,H++T.map (d::·)),by trivial,X,D,s⟩;obtain rfl:i=l.length:=by simp at ab;omega
  rw[List.drop_length]at p;have p:H++[]=jN (m+1) l:=p;rw[List.append_nil]at p;rw[<-p];exact⟨v,rfl,e2,W⟩
def Rn(a:cN)(b:List cN)(s:Nat):cN:=((a.zip b).filter λp=>decide (s∈p.2)).map Prod.fst
def Fp:List (Nat×List cN)->List cN->cN->cN
 |(d,_)::a,c::t,s=>Fp a t (jC d s c)
 |_,_,s=>s
theorem DC{b:eY}:∀{l:cN} {m a:Int} {p:Int×Int},kF b l m a=some p->∀v∈l,0<=jS b v
 |[],m,a,p,h=>cL
 |x::r,m,a,p,h=>λv c=>by simp only[kF]at h;split at h;grind;rename_i d;obtain rfl|c:=fi.1 c;omega;exact DC h v c
theorem wV(d:Nat):∀(c s:cN),c.Nodup->m<s.length->(jC d s c).getD m 0=s.getD m 0+if m∈c then 2^d else 0
 |[],s,_,_=>by simp[jC]
 |x::r,s,h,b=>by have a:=List.nodup_cons.1 h;show(jC d (s.set x _) r).getD m 0=_;by_cases e:x=m;subst e;rw[tQ d r _ a.1,cV fW];grind;rw[wV d r _ a.2 cL];grind
theorem Iq{y:Nat}:∀(a:List (Nat×List cN)) (t:List cN) (s:cN),t.length=a.length->(∀c∈t,c.Nodup)->y<s.length->(Fp a t s).length=s.length/\(Fp a t s).getD y 0=s.getD y 0+pw (Rn (a.map Prod.fst) t y)
 |[],[],s,_,_,_=>⟨rfl,by simp[Fp,Rn,pw]⟩
 |(d,_)::a,c::t,s,k,e,f=>by
  have g:=pm d c s;have b:y<(jC d s c).iw:=cL;have⟨l,i⟩:=Iq a t (jC d s c) cL cL b;refine⟨by grind [Fp],?_⟩;rw[Fp,i,wV d c s (e c fW) f];have j:Rn (d::a.map Prod.fst) (c::t) y=(if y∈c then [d]else [])++Rn (a.map Prod.fst) t y:=by grind [List.zip_cons_cons,Rn]
  rw[kI];show _=s.getD y 0+pw (Rn (d::a.map Prod.fst) (c::t) y);rw[j];by_cases h:y∈c;rw[cV h,cV h];have:pw ([d]++Rn (a.map Prod.fst) t y)=2^d+pw (Rn (a.map Prod.fst) t y):=rfl;omega;grind
def Ro:((List.range 32).all λs=>(List.range 5).all λd=>s.testBit d||(oi s d==s+2^d&&(decide (s+2^d<32)&&(List.range 5).all λe=>e==d||(s+2^d).testBit e==s.testBit e)))=true:=by decide+kernel
def L5(s:Nat)(a:s<32)(d:Nat)(b:d<5)(h:s.testBit d=false):oi s d=s+2^d/\s+2^d<32/\∀e:Nat,e<5->e≠d->(s+2^d).testBit e=s.testBit e:=by have c:=nj.1 (nj.1 Ro s (gf.2 a)) d (gf.2 b);grind
theorem Rp:∀(l:cN) (s:Nat),s<32->l.Nodup->(∀d∈l,d<5/\s.testBit d=false)->setFrom s l=s+pw l
 |[],s,_,_,_=>rfl
 |d::r,s,b,c,h=>by have⟨e,f⟩:=h d fW;have⟨g,i,j⟩:=L5 s b d e f;have a:=List.nodup_cons.1 c;show setFrom (oi s d) r=_;rw[g,Rp r _ i a.2 cL];grind [pw]
def Fq(a:l.Nodup)(h:∀d∈l,d<5):eB l=pw l:=by have:=Rp l 0 cL a cL;rw[dn]at this;exact this
theorem L6:∀(a:cN) (b:List cN),((a.zip b).map Prod.fst).Sublist a
 |[],_=>dq
 |d::r,[]=>dq
 |d::r,c::t=>fB (L6 r t)
def T3{ds:cN}{sh:List cN}{s:Nat}:(Rn ds sh s).Sublist ds:=by unfold Rn;exact((List.filter_sublist).map Prod.fst).trans (L6 _ _)
def vJ(G:Gd)(l:List Tq)(a:eY):(pV G l a).Pairwise (·<·)/\∀d∈pV G l a,d<G.doors.length:=⟨List.Pairwise.filter _ List.pairwise_lt_range,λd b=>by have:=(py.1 b).1;grind⟩
section
variable{G:Gd}{da:Option Addr}{dc:Nat}{w:cJ}
end
end Go.Proofs.W
namespace Go.Proofs.W
def DD(d:Nat)(sets:cN)(a:cN->cN->uV)(o:uV)(c:cN):uV:=wT o (a c (jC d sets c))
def sF(a:eY):List (Nat×List cN)->List cN->cN->uV
 |[],e,sets=>(kF a sets 0 0).map λp=>(p.1,p.2,e)
 |(d,f)::b,e,sets=>f.foldl (DD d sets λc g=>sF a b (e++[c]) g) none
theorem BQ{sets:cN}{e:cN->cN->uV}{r:Int×Int×List cN}:∀{cs:List cN} {o:uV},cs.foldl (DD d sets e) o=some r->o=some r\/∃c∈cs,e c (jC d sets c)=some r
 |[],o,h=>.inl h
 |c::cs,o,h=>by
  obtain h|⟨f,g,i⟩:=BQ (cs:=cs) h;unfold DD at h;have j:o=some r\/e c (jC d sets c)=some r:=by
   cases o with
   |none=>exact .inr h
   |some a=>
    generalize e c (jC d sets c)=b at h;cases b with
    |none=>exact .inl h
    |some b=>
     grind [wT]
  grind;grind
theorem DF{e:eY}:∀{b:List (Nat×List cN)} {a:List cN} {sets:cN} {r:Int×Int×List cN},sF e b a sets=some r->∃t:List cN,t.length=b.length/\(∀i (h:i<b.length) (o:i<t.length),t[i]∈b[i].2)/\kF e (Fp b t sets) 0 0=some (r.1,r.2.1)
 |[],a,sets,r,h=>by rw[sF]at h;obtain⟨p,g,rfl⟩:=iU.1 h;exact⟨[],rfl,λi h=>absurd h (Nat.not_lt_zero _),g⟩
 |(d,q)::b,a,sets,r,h=>by
  rw[sF]at h;obtain h|⟨c,j,h⟩:=BQ h;cases h;have⟨t,k,l,m⟩:=DF h;refine⟨c::t,by simp[k],λi n f=>?_,m⟩;cases i with
  |zero=>exact j
  |succ i=>exact l i (fB n) (fB f)
theorem DG{b:eY}:∀{l:cN} {m a:Int} {p:Int×Int},kF b l m a=some p->m<=p.1/\∀v∈l,jS b v<=p.1
 |[],m,a,p,h=>by
  cases h
  grind
 |x::r,m,a,p,h=>by simp only[kF]at h;split at h;grind;have⟨c,d⟩:=DG h;grind
theorem BR{a:eY}{o:uV}:∀(c s:cN),c.Nodup->wU a o d s c=false->∃x∈c,U1 a o ((jC d s c).getD x 0)=false
 |[],s,_,h=>by cases h
 |x::r,s,e,h=>by have b:=List.nodup_cons.1 e;simp only[wU,Bool.and_eq_false_iff]at h;obtain h|h:=h;refine⟨x,fW,?_⟩;show U1 a o ((jC d (jC d s [x]) r).getD x 0)=false;grind [tQ];have⟨y,f,h⟩:=BR r _ b.2 h;exact⟨y,jD _ f,h⟩
structure Sets(G:Gd)(rest:List (Nat×List (List Nat)))(A:Nat->List Nat)(sets:List Nat):Prop where
 val:∀y,y<sets.length->sets.getD y 0=pw (A y)
 nodup:∀y,(A y).Nodup
 door:∀y,∀d∈A y,d<G.doors.length/\d∉rest.map Prod.fst
structure Rest(G:Gd)(n:Nat)(rest:List (Nat×List (List Nat))):Prop where
 nodup:(rest.map Prod.fst).Nodup
 door:∀p∈rest,p.1<G.doors.length
 list:∀p∈rest,∀c∈p.2,c.Nodup/\∀x∈c,x<n
def Rest.tail{c:List cN}{a:List (Nat×List cN)}(h:Rest H m ((d,c)::a)):Rest H m a:=⟨(List.nodup_cons.1 h.nodup).2,λp b=>h.door p (jD _ b),λp b=>h.list p (jD _ b)⟩
theorem Sets.add{j:List cN}{f:List (Nat×List cN)}{A:Nat->cN}{sets c:cN}(h:Sets H ((d,j)::f) A sets)(k:Rest H sets.length ((d,j)::f))(n:c∈j):Sets H f (λy=>A y++if y∈c then [d]else []) (jC d sets c):=by have⟨l,o⟩:=k.list _ fW c n;refine⟨λy m=>?_,λy=>?_,λy e g=>?_⟩;rw[pm]at m;rw[wV d c sets l m,h.val y m];by_cases i:y∈c;rw[cV i,cV i];unfold pw;grind;grind;by_cases i:y∈c;rw[cV i];refine List.nodup_append.2 ⟨h.nodup y,dq,λa p b q e=>?_⟩;rw[jE.1 q]at e;subst e;exact(h.door y a p).2 dq;rw[cS i,List.append_nil];exact h.nodup y;obtain g|g:=jQ.1 g;have⟨r,s⟩:=h.door y e g;grind;split at g;rw[jE.1 g];exact⟨k.door _ fW,(List.nodup_cons.1 k.nodup).1⟩;grind
def Kh(b:H.Ok)(a:l.Nodup)(c:∀d∈l,d<H.doors.length):jS (iv H) (pw l)=nW H (eB l):=by have f:=b.many;have e:=Rm H.doors.iw l a c;unfold jS iv;rw[gW,yf,List.getElem?_range e,Fq a cL];grind [uG,pw,nW,fT]
def T4(o:H.Ok){f:List (Nat×List cN)}{A:Nat->cN}{sets:cN}{J:List cN}(h:Sets H f A sets)(q:Rest H sets.length f){r:Int×Int×List cN}(K:sF (iv H) f J sets=some r){y:Nat}(u:y<sets.length):0<=jS (iv H) (sets.getD y 0)/\jS (iv H) (sets.getD y 0)<=r.1:=by
 have z:=o.many;have⟨t,L,M,C⟩:=DF K;have⟨T,D⟩:=Iq (y:=y) f t sets L (λc N=>by obtain⟨i,O,rfl⟩:=List.getElem_of_mem N;exact(q.list _ (eG cM) _ (M i cM O)).1) u;have⟨B,E⟩:=ju (Rn (f.map Prod.fst) t y);have k:B.Sublist (f.map Prod.fst):=by rw[E];exact T3
 rw[<-E,h.val y u]at D;have v:pw (A y)+pw B=pw (A y++B):=by unfold pw;grind
 rw[v]at D;have l:(A y++B).Nodup:=List.nodup_append.2 ⟨h.nodup y,k.nodup q.nodup,λa P b F e=>(h.door y a P).2 cL⟩;have g:∀d∈A y++B,d<H.doors.iw:=λd m=>by obtain m|m:=jQ.1 m;exact(h.door y d m).1;obtain⟨p,Q,rfl⟩:=kJ.1 (k.subset m);exact q.door p Q
 have j:y<(Fp f t sets).iw:=cL;have R:(Fp f t sets)[y]=pw (A y++B):=cL;have G:=DC C _ (eG j);have S:=(DG C).2 _ (eG j);rw[R,Kh o l g]at G S;rw[h.val y u,Kh o (h.nodup y) cL];have w:∀d∈A y,d<5:=cL;have n:∀d∈A y++B,d<5:=cL;have U:=TU o (s:=eB (A y)) (t:=eB (A y++B)) (ky.eB z cL) (ky.eB z g) (λx I F=>(nD n I).2 (List.mem_append_left _ ((nD w I).1 F))) G;grind
def step_eq(m:H.Ok){g:List cN}{a:List (Nat×List cN)}{A:Nat->cN}{sets c:cN}{f:List cN}(h:Sets H ((d,g)::a) A sets)(i:Rest H sets.length ((d,g)::a))(l:c∈g)(o:uV):uW (iv H) d sets (λc j=>sF (iv H) a (f++[c]) j) o c=DD d sets (λc j=>sF (iv H) a (f++[c]) j) o c:=by
 unfold uW DD;split;rfl;rename_i n;obtain⟨k,p⟩:=i.list _ fW c l;obtain⟨x,u,b⟩:=BR c sets k (fB n);show o=wT o (sF (iv H) a (f++[c]) (jC d sets c));cases s:sF (iv H) a (f++[c]) (jC d sets c)with
 |none=>cases o<;>rfl
 |some r=>
  have e:(jC d sets c).length=sets.length:=pm d c sets;obtain⟨t,v⟩:=T4 m (h.add i l) (by rw[e];exact i.tail) s (y:=x) cL;unfold U1 at b;rw[decide_eq_true t,Bool.true_and]at b;cases o with
  |none=>grind
  |some q=>
   have b:¬jS (iv H) ((jC d sets c).getD x 0)<=q.1:=ie b;show some q=if r.1<q.1\/r.1=q.1/\r.2.1<q.2.1 then some r else some q
   grind
theorem fold_congr{c a:Type}{f g:a->c->a}:∀(l:List c) (b:a),(∀x∈l,∀b,f b x=g b x)->l.foldl f b=l.foldl g b
 |[],_,_=>rfl
 |x::r,b,h=>by rw[jP,jP,h x fW];exact fold_congr r _ cL
theorem Rq(g:H.Ok):∀(a:List (Nat×List cN)) (A:Nat->cN) (sets:cN) (b:List cN),Sets H a A sets->Rest H sets.length a->uH (iv H) a b sets=sF (iv H) a b sets
 |[],_,_,_,_,_=>rfl
 |(d,j)::a,A,sets,b,h,f=>by
  rw[uH,sF];refine fold_congr j none λc i o=>?_;rw[<-step_eq g h f i o];have e:(jC d sets c).length=sets.length:=pm d c sets;show(if wU (iv H) o d sets c=true then wT o (uH (iv H) a (b++[c]) (jC d sets c))else o)=if wU (iv H) o d sets c=true then wT o (sF (iv H) a (b++[c]) (jC d sets c))else o
  rw[Rq g a _ (jC d sets c) (b++[c]) (h.add f i) (by rw[e];exact f.tail)]
def zr(D:eR):Nat->cN->List cN
 |_,[]=>[]
 |k,i::r=>(ek D k).getD i []::zr D (k+1) r
theorem DI(D:eR)(i:Nat):∀(a:cN) (k:Nat),zr D k (a++[i])=zr D k a++[(ek D (k+a.length)).getD i []]
 |[],k=>rfl
 |p::r,k=>by rw[nM];simp only[zr];rw[DI D i r (k+1),nM,fa,show k+1+r.iw=k+(r.iw+1) by omega]
def Rr(D:eR):Sp->uV->Prop
 |none,none=>True
 |some (l,m,k),some r=>r.1=m/\r.2.1=k/\r.2.2=zr D 0 (l.map Int.toNat)
 |_,_=>False
def N8{D:eR}{b x:Sp}{o y:uV}(h:Rr D b o)(a:Rr D x y):Rr D (lz b x) (wT o y):=by
 obtain _|⟨l,m,k⟩:=b;cases o with
 |some _=>exact h.elim
 |none=>
  rw[lP];exact a
 cases o with
 |none=>exact h.elim
 |some r=>
  obtain _|⟨s,d,j⟩:=x;cases y with
  |some _=>exact a.elim
  |none=>exact h
  cases y with
  |none=>exact a.elim
  |some q=>
   have⟨e,f,n⟩:=h;have⟨g,i,p⟩:=a;unfold lz;rw[kY];show Rr D _ (if q.1<r.1\/q.1=r.1/\q.2.1<r.2.1 then some q else some r);rw[e,f,g,i];by_cases c:d<m\/d=m/\j<k;rw[cV (decide_eq_true c),cV c];exact⟨g,i,p⟩;rw[cS cL,cS c];exact⟨e,f,n⟩
theorem BS(b:eY):∀(l:cN) (m a:Int),kF b l m a=if(l.map (jS b)).any (·<0)then none else some ((l.map (jS b)).foldl max m,a+(l.map (jS b)).sum)
 |[],m,a=>by simp[kF]
 |x::r,m,a=>by simp only[kF,kI,List.any_cons,jP,List.sum_cons];by_cases h:jS b x<0;grind;rw[cS h,lK h,Bool.false_or,BS b r,Int.add_assoc]
theorem fold_zero:∀(n:Nat) (m:Int),0<=m->(List.replicate n (0:Int)).foldl max m=m
 |0,m,_=>rfl
 |n+1,m,h=>by rw[List.replicate_succ,jP,Int.max_eq_left h];exact fold_zero n m h
theorem yU:∀(l:eY) (m:Int),m<=l.foldl max m
 |[],m=>Int.le_refl _
 |x::r,m=>Int.le_trans (Int.le_max_left m x) (yU r _)
def Rs(a:List cN):(List.range a.length).map (λi=>a.getD i [])=a:=by apply List.ext_getElem;simp;grind
theorem Ir{D:eR}{f:Nat->Sp}{g:Nat->uV}:∀(l:cN) (b:Sp) (o:uV),Rr D b o->(∀i∈l,Rr D (f i) (g i))->Rr D (l.foldl (λb i=>lz b (f i)) b) (l.foldl (λo i=>wT o (g i)) o)
 |[],b,o,h,_=>h
 |i::r,b,o,h,a=>by rw[jP,jP];exact Ir r _ _ (N8 h (a i fW)) cL
section
variable{G:Gd}{xs:List Sx}{f:Nat}
def Rt(j:G.Ok)(q:xs.length=G.doors.length){L:Nat->Nat}{sets:cN}{A:Nat->cN}{b:List (Nat×List cN)}(c:Sets G b A sets)(r:sets.length<=6)(k:∀y,y<6->L y=if y<sets.length then sets.getD y 0 else 0)(l:∀y,∀d∈A y,d∈dJ G.tries xs)(e:cN):Rr (ei G xs f) (eV (ei G xs f) L e) (sF (iv G) [] (zr (ei G xs f) 0 e) sets):=by
 have s:=j.many;have t:nW G 0=0:=by unfold nW;rw[fT,cV rfl];rfl
 have u:∀y,y<6->(ei G xs f).counts.getD (L y) 0=if y<sets.iw then jS (iv G) (sets.getD y 0)else 0:=λy m=>by rw[k y m];split;rename_i g;have a:∀d∈A y,d<5:=λd h=>iI ((c.door y d h).1);rw[c.val y g,Kh j (c.nodup y) λd h=>(c.door y d h).1,<-Fq (c.nodup y) a];exact By cM f (mU _ 0 cL a) λx i n=>l y x ((nD a i).1 n);grind [By]
 have o:iO (ei G xs f) L=sets.map (jS (iv G))++List.replicate (6-sets.iw) 0:=by show((List.range 6).map L).map (λx=>(ei G xs f).counts.getD x 0)=_;apply List.ext_getElem;grind;grind
 unfold eV;rw[sF,BS,o];have p:(List.replicate (6-sets.iw) (0:Int)).any (λx=>decide (x<0))=false:=by grind
 rw[List.any_append,p,Bool.or_false];split;trivial;refine⟨?_,?_,?_⟩;show(sets.map (jS (iv G))).foldl max 0=_;rw[qG,fold_zero _ _ (yU _ 0)];show(0:Int)+(sets.map (jS (iv G))).sum=_;simp;show zr _ 0 e=_;congr 1;simp[List.map_map,zK]
end
section
variable{G:Gd}{xs:List Sx}{f:Nat}
theorem Is(F:G.Ok)(R:xs.length=G.doors.length):∀(n:Nat) (a:cN) (L:Nat->Nat) (sets:cN) (A:Nat->cN),a.length+n=(dJ G.tries xs).length->
 Sets G (((ei G xs f).opn.zip (ei G xs f).lists).drop a.length) A sets->Rest G sets.length (((ei G xs f).opn.zip (ei G xs f).lists).drop a.length)->sets.length<=6->(∀y,y<6->L y=if y<sets.length then sets.getD y 0 else 0)->(∀y,∀d∈A y,d∈dJ G.tries xs)->
 Rr (ei G xs f) (eI (ei G xs f) n a L none) (sF (iv G) (((ei G xs f).opn.zip (ei G xs f).lists).drop a.length) (zr (ei G xs f) 0 a) sets)
 |0,a,L,sets,A,V,k,s,S,E,H=>by have W:((ei G xs f).opn.zip (ei G xs f).lists).drop a.length=[]:=List.drop_eq_nil_of_le (by simp[ei];omega);rw[W,eI,lP];exact Rt F R k S E H a
 |n+1,a,L,sets,A,V,k,s,S,E,H=>by
  have h5:=F.many;have I:a.length<(dJ G.tries xs).length:=cM;have⟨d,t⟩:=ju (gi (ei G xs f) a.length);have⟨j,q⟩:=ju (ek (ei G xs f) a.length);have u:d=(dJ G.tries xs)[a.length]:=by rw[t];show(dJ G.tries xs).getD a.length 0=_;rw[gW,ft I];rfl
  have X:a.length<((ei G xs f).opn.zip (ei G xs f).lists).length:=by simp[ei];omega
  have J:((ei G xs f).opn.zip (ei G xs f).lists).drop a.length=(d,j)::((ei G xs f).opn.zip (ei G xs f).lists).drop (a.length+1):=by rw[nN X];congr 1;rw[List.getElem_zip,u,q];congr 1;show _=((dJ G.tries xs).map _).getD a.length [];rw[gW,ft (fB I)];rfl
  rw[J]at k s⊢;have⟨h,l⟩:=ju (((ei G xs f).opn.zip (ei G xs f).lists).drop (a.length+1));rw[<-l]at k s⊢;rw[eI,sF,<-t,<-q];have v:d∈dJ G.tries xs:=by rw[u];exact eG I
  have w:d<5:=iI (jm v);have Y:(λ(b:Sp) (i:Nat)=>eI (ei G xs f) n (a++[i]) (j7 d (j.getD i []) L) b)=λb i=>lz b (eI (ei G xs f) n (a++[i]) (j7 d (j.getD i []) L) none):=by funext b i;exact qj _ n _ _ b
  rw[Y]
  have Z:j.foldl (DD d sets λc nx=>sF (iv G) h (zr (ei G xs f) 0 a++[c]) nx) none=(List.range j.length).foldl (λo i=>wT o (sF (iv G) h (zr (ei G xs f) 0 a++[j.getD i []]) (jC d sets (j.getD i [])))) none:=by
   conv=>lhs;rw[<-Rs j]
   rw[List.foldl_map];rfl
  rw[Z];refine Ir _ _ _ trivial λi hi=>?_;have x:i<j.length:=gf.1 hi;have⟨c,K⟩:=ju (j.getD i []);have z:c∈j:=by rw[K,gW,ft x];exact eG x
  rw[<-K];have B:zr (ei G xs f) 0 (a++[i])=zr (ei G xs f) 0 a++[c]:=by rw[DI,dn,<-q,<-K]
  have m:(a++[i]).length=a.length+1:=dq;have C:=pm d c sets;have⟨M,N⟩:=s.list _ fW c z;have O:=k.add s z;have T:=Is F R n (a++[i]) (j7 d c L) (jC d sets c) (λy=>A y++if y∈c then [d]else []) (by rw[m];omega) (by rw[m,<-l];exact O) (by rw[m,<-l,C];exact s.tail) cM (λy U=>?_) (λy e p=>?_);rw[m,<-l,B]at T;exact T;rw[C];unfold j7;by_cases g:y<sets.length;rw[cV g,wV d c sets M g,E y U,cV g];split;rw[k.val y g];have r:∀e∈A y,e<5:=λe p=>iI ((k.door y e p).1);have D:=Fq (k.nodup y) r;rw[<-D];have P:eB (A y)<32:=mU _ 0 kg r;refine(L5 _ P d w ?_).1;cases hb:(eB (A y)).testBit d with
  |false=>rfl
  |true=>exact absurd ((nD r w).1 hb) λQ=>(k.door y d Q).2 dq
  rfl;rw[cS g,E y U,cS g,cS λQ=>g (N y Q)];obtain p|p:=jQ.1 p;exact H y e p;split at p;rw[jE.1 p];exact v;cases p
end
def N9{G:Gd}{l:List Tq}(e:kH G l=0):pV G l []=dJ G.tries (fA G l).2:=by
 have L:=nF e;unfold pV dJ qp;rw[L.len];refine List.filter_congr λd f=>?_;have b:d<G.doors.length:=gf.1 f;have c:=(L.both d b).met G.tries;have a:d<(fA G l).2.length:=by rw[L.len];grind
 rw[gW,ft a]at c;have c:gY G.tries (fA G l).2[d]=Ce G.tries (sx (d:Nat) sv l):=c;rw[ft a];grind [pk,Ey,sC]
def Oa{b:List Tq}(B:kH H b=0)(C:dV b<=m){a:List Sx}(k:a.length=H.doors.length)(n:l=dJ H.tries a)(t:∀d∈l,Ce H.tries (sx (d:Nat) sv b)=false/\a.getD d qw=(fA H b).2.getD d qw):Rr (ei H a m) (gO (ei H a m)) (pW H b m l):=by
 have L:=nF B;have h:=eD L.g;have J:=h.many;have D:=h.days;have u:∀d∈l,BH H (sx (d:Nat) sv b) m=jz H (a.getD d qw) m:=λd j=>by have⟨r,E⟩:=t d j;have o:=jm (n▸j);rw[k]at o;have v:=L.both d o;have f:=xV (d:Nat) b;rw[E];refine Kd h v ⟨f.2.1.1,f.2.2.1⟩ f.1.1 ?_ C;rw[v.met,r]
 have e:l.zip (l.map λd:Nat=>BH H (sx (d:Nat) sv b) m)=(ei H a m).opn.zip (ei H a m).lists:=by rw[List.map_congr_left u,n];rfl
 unfold pW;rw[e];have F:(((ei H a m).opn.zip (ei H a m).lists).map Prod.fst)=dJ H.tries a:=List.map_fst_zip (by simp[ei]);have w:Rest H (List.replicate (2*H.days).toNat 0).length ((ei H a m).opn.zip (ei H a m).lists):=by refine⟨by rw[F];exact tB _ _,λp s=>?_,λp s c z=>?_⟩;have r:=jm (List.of_mem_zip s).1;rw[k]at r;exact r;rw[<-e]at s;obtain⟨i,K,rfl⟩:=List.getElem_of_mem s;simp only[List.getElem_zip,List.getElem_map]at z;have⟨G,_,I⟩:=(Ip h (xV _ b).1.1).2 c z;exact⟨G,λx k=>by rw[List.length_replicate];exact(I x k).2⟩
 have q:∀y,(List.replicate (2*H.days).toNat 0).getD y 0=0:=λy=>by rw[gW,List.getElem?_replicate];split<;>rfl
 have A:Sets H ((ei H a m).opn.zip (ei H a m).lists) (λ_=>[]) (List.replicate (2*H.days).toNat 0):=⟨λy _=>q y,λ_=>List.nodup_nil,λ_ d j=>by cases j⟩;rw[Rq h _ _ _ [] A w];exact Is h k (dJ H.tries a).length [] L0 _ (λ_=>[]) dq A w rp (λy _=>by rw[q];split<;>rfl) λ_ d j=>by cases j
def Ki{l:List Tq}(e:kH H l=0)(S:cN):pV H l (nS S)=dJ H.tries (iG (fA H l).2 S):=by
 have L:=nF e;unfold pV dJ qp;rw[mW,L.len];refine List.filter_congr λd f=>?_;have a:d<H.doors.length:=gf.1 f;have c:=(L.both d a).met H.tries;have b:d<(fA H l).2.length:=by rw[L.len];exact a
 rw[gW,ft b]at c;have c:gY H.tries (fA H l).2[d]=Ce H.tries (sx (d:Nat) sv l):=c;rw[xU,ft b];simp only[pk,mg,HZ];rw[<-c];by_cases h:d∈S;simp[h,gY];simp[h]
def Kj{l:List Tq}(a:kH H l=0)(b:dV l<=m)(S:cN):Rr (ei H (iG (fA H l).2 S) m) (gO (ei H (iG (fA H l).2 S) m)) (pW H l m (pV H l (nS S))):=by
 have L:=nF a;refine Oa a b (by rw[mW];exact L.len) (Ki a S) λd c=>?_;have h:=(py.1 c).2;simp only[pk,eW,sH,HZ]at h;refine⟨h.1,?_⟩;have e:d∉S:=ie h.2;rw[gW,gW,xU];cases(fA H l).2[d]? with
 |none=>rfl
 |some x=>simp[e]
def T5(G:Gd)(l:List Tq)(f:Nat)(c:Int)(S:cN):Bool:=match pW G l f (pV G l (nS S))with
 |none=>false
 |some r=>decide (r.1<=c)
def Ru{l:List Tq}(a:kH H l=0)(b:dV l<=m)(c:Int)(S:cN):T5 H l m c S=mF H (fA H l).2 m c S:=by
 have h:=Kj a b S;unfold T5 mF pR;revert h;cases gO (ei H (iG (fA H l).2 S) m)with
 |none=>
  cases pW H l m (pV H l (nS S))with
  |none=>exactλ_=>rfl
  |some r=>exactλh=>h.elim
 |some x=>
  cases pW H l m (pV H l (nS S))with
  |none=>exactλh=>h.elim
  |some r=>
   have⟨f,d,k⟩:=x;rintro⟨e,_⟩;show decide (r.1<=c)=(true&&decide (d<=c));rw[e,Bool.true_and]
def tR(p:cN->Bool)(l:cN):jb p l=((sr l l.length).find? p).getD l:=by
 have h:=wM p l l.iw;unfold jb;rw[n9];revert h;cases(sr l l.iw).find? p with
 |some x=>
  intro h;have h:iQ p l l.iw=(true,x):=h;rw[h];rfl
 |none=>
  intro h;have h:(iQ p l l.iw).1=false:=h;rw[h,vH,H1];rfl
end Go.Proofs.W
namespace Go.Proofs.W
open Go.RowKit
def mC(G:Gd)(a:List Sx)(c:Int)(f:Nat):Prop:=(pR (ei G a f)).2=true/\(pR (ei G a f)).1<=c
def Rv(G:Gd)(a:List Sx)(b:Nat)(c:Int)(v:cK):Prop:=
 (∃t:Nat,v=.tuple #[.int .i64 t,.int .i64 0]/\b<=t/\t<fl G/\mC G a c t/\∀s,t<s->s<fl G->¬mC G a c s)\/(v=.tuple #[.int .i64 0,.int .i64 11]/\∀s,b<=s->s<fl G->¬mC G a c s)
def It{dc:Nat}{l:List Tq}{O:Option Addr}{lc:Nat}(S:gZ w a H.doors)(o:H.doors.length<=100000)(T:kz w O l)(D:l.length<=100000)(U:kH H l=0)(b:Nat)(E:dV l=b)(c:Nat)(hc:c<=5):
 Calls V.prog 62 #[gV H a dc,.slice O l.length lc,.int .i64 c] w (uF λv y=>Ext w y/\Rv H (fA H l).2 b c v):=by
 refine jd Tryz.func62 Tryz.ntmps62 ?_;refine eJ λw1 gb p W F=>eF F (cX (um (dc:=dc) (S.ext p) o (T.ext p) D) ?_);rintro v X ⟨P,⟨z,rfl⟩|⟨_,Y,gp,mk,Q,rfl,B,R⟩⟩;exact absurd U z;have s1:=p.size;have Z:=B.g.lo;have aa:=B.k.g.vL.days;have⟨m,G⟩:=ju ((fA H l).2);have n:=B.k;rw[<-G]at n R⊢;rw[E]at n;have⟨L,hL⟩:=ju (fl H);have I:(L:Int)=2*H.days:=by rw[hL];unfold fl;omega
 have ab:=n.bf;have J:∀x∈m,vw 100000 x:=λx K=>by have⟨⟨a1,a2⟩,⟨a3,a4⟩,a5,a6⟩:=R x K;exact⟨⟨cM,cM⟩,⟨cM,cM⟩,cM,cM⟩
 have⟨sa,sc,q1,q2,q3,q4⟩:=n.at_;refine gP (kZ dq (dF (fw _ _ _ _) (eK (kZ (by simp[kT];omega) ?_))));refine cP q1 (dF (last_at n.g) ?_);refine fc (L-b) (λk (_:Unit)=>[(2,i64 c),(8,dj Y),(10,i64 ((L:Int)-1-k))]) (λk _ y=>MA w.heap.size mk Q H (λ_=>False) X y/\∀s,L-k<=s->s<L->¬mC H m c s) () ⟨⟨rfl,rfl,?_,trivial⟩,(wD _ _ _ _ _).refl _,λs z e=>cM⟩ ?_;show some (Value.int .i64 (2*H.days-1))=some _;rw[<-I];simp;rintro k _ w3 ac ⟨C,i⟩;have q:=n.iC C.1;have⟨ad,ae,p1,p2,p3,p4⟩:=q.at_;refine cP p3 (uN ⟨λr=>?_,λt=>?_⟩);have r:(b:Int)<=(L:Int)-1-k:=fx r;have u:k<L-b:=cM;have⟨f,hf⟩:=ju (L-1-k);have M:(L:Int)-1-k=(f:Nat):=cM;rw[M];refine iM (C7 (n0:=w.heap.size) (A:=λ_=>False) q (λb E=>E.elim) (C.2 B.g.Xg) cM cM J cM) (λy h=>.inr ⟨rfl,h⟩) ?_;rintro _ w4 ⟨m4,rfl⟩;have j:=(wD w.heap.size mk Q H (λ_=>False)).trans _ _ _ C m4;have E4:Ext w w4:=j.1.from (p.trans P) (di _);have d:¬mC H m c f->∀s,L-(k+1)<=s->s<L->¬mC H m c s:=λh s z e=>by by_cases hs:s=f;rw[hs];exact h;exact i s cM e
 have step:some (Value.int .i64 ((f:Int)-1))=some (i64 ((L:Int)-1-(k+1:Nat))):=by congr 2;omega
 refine⟨λe=>oP ⟨λN=>?_,λN=>?_⟩,λe=>kZ rfl (fI ⟨u,(),⟨rfl,rfl,step,trivial⟩,j,d λh=>?_⟩)⟩;exact .inl ⟨_,rfl,E4,.inl ⟨f,rfl,cM,cM,⟨e,fx N⟩,λs h4 h5=>i s cM cM⟩⟩;exact fI ⟨u,(),⟨rfl,rfl,step,trivial⟩,j,d λh=>ie N h.2⟩;rw[h.1]at e;cases e;have t:¬(b:Int)<=(L:Int)-1-k:=ie t;exact .inl ⟨_,rfl,C.1.from (p.trans P) (di _),.inr ⟨rfl,λs z e=>i s cM cM⟩⟩
end Go.Proofs.W
namespace Go.Proofs.W
end Go.Proofs.W
namespace Go.Proofs.W
open Go.RowKit
theorem BT{G:Gd}{l:List Tq}(h:dK G l I 0=0):kH G l=0/\∃f:Nat,I=(f:Int)/\dV l<=f/\f<(2*G.days).toNat:=by
 have⟨b,c⟩:=zq h;have d:=(eD b).days;refine⟨c,I.toNat,?_⟩;have a:qU G (dV l) I=0:=by have e:=h;unfold dK at e;grind
 unfold qU at a;split at a;rename_i g;simp only[kT,eW,kM]at g;grind;grind
section
variable{G:Gd}{da:Option Addr}{dc:Nat}{w:cJ}{l:List Tq}{la:Option Addr}{lc:Nat}
end
def Fs(G:Gd)(l:List Tq)(c:Int)(v:cK):Prop:=
 (kH G l≠0/\v=.tuple #[.int .i64 0,.int .i64 (kH G l)])\/(kH G l=0/\((kT c 0 5=false/\v=.tuple #[.int .i64 0,.int .i64 1])\/(kT c 0 5=true/\Rv G (fA G l).2 (dV l).toNat c v)))
def Rv.one{G:Gd}{c:List Sx}{b:Nat}(h:Rv G c b I x)(d:Rv G c b I y):x=y:=by obtain⟨t,rfl,e,j,k,l⟩|⟨rfl,e⟩:=h;obtain⟨u,rfl,a,f,g,i⟩|⟨rfl,a⟩:=d;grind;grind;obtain⟨u,rfl,a,f,g,i⟩|⟨rfl,a⟩:=d;grind;rfl
theorem Fs.one{G:Gd}{l:List Tq}(h:Fs G l I x)(b:Fs G l I y):x=y:=by obtain⟨c,rfl⟩|⟨c,⟨d,rfl⟩|⟨d,e⟩⟩:=h;obtain⟨_,rfl⟩|⟨a,_⟩:=b;rfl;grind;obtain⟨a,_⟩|⟨_,⟨_,rfl⟩|⟨a,_⟩⟩:=b;grind;rfl;grind;obtain⟨a,_⟩|⟨_,⟨a,_⟩|⟨_,f⟩⟩:=b;grind;grind;exact e.one f
def Fs.two{G:Gd}{l:List Tq}(h:Fs G l I x):∃n e:Int,x=.tuple #[.int .i64 n,.int .i64 e]:=by obtain⟨_,rfl⟩|⟨_,⟨_,rfl⟩|⟨_,⟨t,rfl,_⟩|⟨rfl,_⟩⟩⟩:=h<;>exact⟨_,_,rfl⟩
def DJ{G:Gd}{l:List Tq}(a:kH G l=0):dV l=((dV l).toNat:Int):=by
 have L:=nF a;have:0<=dV l:=by
  unfold dV;cases h:l.getLast? with
  |none=>grind
  |some t=>exact(L.sh t (List.mem_of_getLast? h)).1
 omega
section
variable{G:Gd}{da:Option Addr}{dc:Nat}{w:cJ}{l:List Tq}{la:Option Addr}{lc:Nat}
def Ft(i:gZ w da G.doors)(a:G.doors.length<=100000)(j:kz w la l)(d:l.length<=100000)(c:Int):
 Calls V.prog 62 #[gV G da dc,.slice la l.length lc,.int .i64 c] w (uF λv q=>Ext w q/\Fs G l c v):=by
 by_cases g:kH G l=0;cases k:kT c 0 5 with
 |true=>
  have m:c=(c.toNat:Int)/\c.toNat<=5:=by simp only[kT,eW,kM]at k;omega
  rw[m.1];refine(It (dc:=dc) (lc:=lc) i a j d g (dV l).toNat (DJ g) c.toNat m.2).mono ?_;rintro e q (⟨v,rfl,b,h⟩|h);exact .inl ⟨v,rfl,b,.inr ⟨g,.inr ⟨by rw[<-m.1];exact k,h⟩⟩⟩;exact .inr h
 |false=>
  refine go (V.fn Tryz.func62 cL) Tryz.ntmps62 ?_;refine eJ λr s b n f=>eF f (cX (um (dc:=dc) (i.ext b) a (j.ext b) d) ?_);rintro v t ⟨o,⟨p,rfl⟩|⟨_,u,x,mk,y,rfl,z,A⟩⟩;grind;exact gP (kZ dq (dF (fw _ _ _ _) (eK (ko cL (.inl ⟨_,rfl,b.trans o,.inr ⟨g,.inl ⟨k,rfl⟩⟩⟩)))))
 refine go (V.fn Tryz.func62 cL) Tryz.ntmps62 ?_;refine eJ λr s b n f=>eF f (cX (um (dc:=dc) (i.ext b) a (j.ext b) d) ?_);rintro v t ⟨o,⟨p,rfl⟩|⟨p,u,x,mk,y,rfl,z,A⟩⟩;exact gP (ko cL (.inl ⟨_,rfl,b.trans o,.inl ⟨p,rfl⟩⟩));grind
def Iu(hd:gZ w da G.doors)(B:G.doors.length<=100000)(R:kz w la l)(m:l.length<=100000)(X:l.length<=lc)(c:Int):
 Calls V.prog 63 #[gV G da dc,.slice la l.length lc,.int .i64 c] w (fO λv Y=>Ext w Y/\Fs G l c v):=by
 refine go (V.fn Tryz.func63 cL) Tryz.ntmps63 ?_;refine eJ λw1 gb Z aj hg=>eF hg (ep (H4 (dc:=dc) (hd.ext Z) B (R.ext Z) m X) λw2 e2=>?_);rw[LV];have S:=Z.trans e2;refine gP ⟨λh=>?_,λh=>?_⟩;exact⟨_,rfl,S,.inl ⟨fx h,rfl⟩⟩;have z:kH G l=0:=cL;have L:=nF z;have ok:=eD L.g;have h5:=ok.many;have ak:=ok.days;have al:=DJ z;refine dF (gT _ _ _ _) (eK ⟨λT=>?_,λT=>?_⟩);exact⟨_,rfl,S,.inr ⟨z,.inl ⟨cL,rfl⟩⟩⟩;have T:kT c 0 5=true:=cL;have C:=e2.at_ hg;have⟨b,hb⟩:=ju ((dV l).toNat);have⟨D,hD⟩:=ju (fl G);have am:(D:Int)=2*G.days:=by grind [fl]
 have⟨A,p⟩:=ju ((fA G l).2);refine cP (cO C rfl) (qo (fI ?_));refine fc (D-b) (λk (_:Unit)=>[(1,.slice la l.iw lc),(2,i64 c),(3,dj gb),(9,i64 ((D:Int)-1-k))]) (λk _ Y=>Ext w2 Y/\∀s,D-k<=s->s<D->¬mC G A c s) () ⟨⟨rfl,rfl,rfl,?_,trivial⟩,Ext.refl _,cL⟩ ?_;show some (Value.int .i64 (2*G.days-1))=some _;grind;rintro k _ w3 an ⟨e3,E⟩;have F:=S.trans e3;have H:=e3.at_ C;refine dF (Dt (R.ext F) m) (uN ⟨λI=>?_,λJ=>?_⟩)
 ·have I:dV l<=(D:Int)-1-k:=fx I;have K:k<D-b:=cM;have⟨f,hf⟩:=ju (D-1-k);have aa:(D:Int)-1-k=(f:Nat):=cM;rw[aa];have ab:dV l<=f:=cM;have d:=Ru z ab c [];have ac:mF G (fA G l).2 f c []=true↔mC G A c f:=by
   rw[p];unfold mC mF;rw[eW,decide_eq_true_iff];rfl
  have⟨M,N⟩:=vJ G l (nS []);have⟨j,O⟩:=ju (pV G l (nS []));unfold T5 at d;rw[<-O]at M N d;have ad:j.Nodup:=M.imp cM;have ae:¬mC G A c f->∀s,D-(k+1)<=s->s<D->¬mC G A c s:=cL;have step:some (Value.int .i64 ((f:Int)-1))=some (i64 ((D:Int)-1-(k+1:Nat))):=cL;refine dE dD<|pU H<|pU H ?_;refine .rel (λu i=>eO w3.lG i u j) (λu a b h e=>dg.ext h e) (λi n=>cX (xX (da:=da) (dc:=dc) cM (R.ext (F.trans n)) m L.sh (but:=[]) (ba:=none) (bc:=0) (λk hk=>by simp at hk) dq) λu U ⟨e5,h5⟩=>⟨by rw[O];exact h5.low n.size,e5⟩) ?_;refine .rel (λu i=>∃P Q,Cj (pW G l f j) (P,j.iw,Q) u i) (λu a b ⟨x,y,q2⟩ e=>⟨x,y,Cj.st _ _ _ q2 e⟩) (λi n u q=>?_) ?_;have q:eO w3.lG i u j:=q;obtain⟨P,Q,rfl,af,_⟩:=q.row;exact cX (Dy (dc:=dc) (lc:=lc) L.g (hd.ext (F.trans n)) (R.ext (F.trans n)) m L.sh f cM af ad N) cL;refine .rel (λu i=>∃t,u=dj t/\w3.lG<=t/\i.heap[t]? =some (.cells (pJ 125).toArray 125)) (λu a b ⟨t,q1,q2,q3⟩ e=>⟨t,q1,q2,e.at_ q3⟩) (λi n=>eU λU t e5 ag hb=>⟨⟨t,rfl,du n.size ag,hb⟩,e5⟩) ?_;rintro i n _ ⟨sb,rfl,ah,ai⟩ u q;have q:∃P Q,Cj (pW G l f j) (P,j.iw,Q) u i:=q;obtain⟨P,Q,i',m',a',d',s',rfl,W⟩:=q;repeat intro _
  refine dI ai λU k5 o=>?_;have o:U.heap[sb]? =some (.cells (zJ i' m' a' d' s').toArray 125):=o.trans (dH (λa=>some (Obj.cells a 125)) r9);have E5:Ext w2 U:=e3.trans (n.cT k5 ah);refine cP (cO o rfl) ?_;cases hq:pW G l f j with
  |none=>
   rw[hq]at W d;obtain⟨rfl,_⟩:=W;exact⟨cL,λ_=>kZ rfl (fI ⟨K,(),⟨rfl,rfl,rfl,step,trivial⟩,E5,cL⟩)⟩
  |some r=>
   rw[hq]at W d;obtain⟨rfl,rfl,_⟩:=W;refine⟨λ_=>cP (cO o rfl) (oP ⟨λh3=>?_,λh3=>?_⟩),cL⟩;rw[p]at ac E;exact⟨_,rfl,S.trans E5,.inr ⟨z,.inr ⟨T,.inl ⟨f,rfl,cM,cM,cL,cL⟩⟩⟩⟩;exact fI ⟨K,(),⟨rfl,rfl,rfl,step,trivial⟩,E5,cL⟩
 have J:¬dV l<=(D:Int)-1-k:=ie J;rw[p]at E;exact⟨_,rfl,F,.inr ⟨z,.inr ⟨T,.inr ⟨rfl,cL⟩⟩⟩⟩
end
theorem sd{G:Gd}{l:List Tq}(c:Int):dK G l I c=if dK G l I 0=0 then(if kT c 0 5=true then 0 else 1)else dK G l I 0:=by unfold dK;grind [kT,kH,qU,dV]
def Iv{p:cN->Bool}{l:cN}{x:cN}{k:Nat}(h:(sr l k).find? p=some x):∀n,k<=n->(sr l n).find? p=some x
 |n,a=>by
  induction n with
  |zero=>
   grind
  |succ n b=>
   grind [Nat.lt_or_ge,rY]
theorem Fu{p:cN->Bool}{l:cN}{k i:Nat}(a:k<l.length)(b:(sr l k).find? p=none)(c:i<(jN k l).length)(e:((jN k l).take i).find? p=none)(f:p (jN k l)[i]=true):jb p l=(jN k l)[i]:=by
 have d:(jN k l).find? p=some (jN k l)[i]:=by
  conv=>lhs;rw[<-List.take_append_drop i (jN k l),nN c]
  grind
 rw[tR,Iv (k:=k+1) (x:=(jN k l)[i]) (by rw[rY,List.find?_append,b,d];rfl) _ a];rfl
section
variable{G:Gd}{da:Option Addr}{dc:Nat}{w:cJ}{l:List Tq}{la:Option Addr}{lc:Nat}
def Kk(hd:gZ w da G.doors)(W:G.doors.length<=100000)(hr:kz w la l)(B:l.length<=100000)(aj:l.length<=lc)(s c:Int):
 Calls V.prog 64 #[gV G da dc,.slice la l.length lc,.int .i64 s,.int .i64 c] w (fO λv T=>Ext w T/\((dK G l s c≠0/\v=.tuple #[.slice none 0 0,.int .i64 (dK G l s c)])\/(dK G l s c=0/\∃a n,v=.tuple #[.slice a (jb (mF G (fA G l).2 s.toNat c) (dJ G.tries (fA G l).2)).length n,.int .i64 0]/\fJ T a (jb (mF G (fA G l).2 s.toNat c) (dJ G.tries (fA G l).2))/\(jb (mF G (fA G l).2 s.toNat c) (dJ G.tries (fA G l).2)).length<=n))):=by
 refine go (V.fn Tryz.func64 cL) Tryz.ntmps64 ?_;refine eJ λw1 gb e1 av hg=>eF hg (ep (H8 (dc:=dc) (hd.ext e1) W (hr.ext e1) B aj s) λw2 e2=>gP ⟨λh=>?_,λh=>?_⟩);have h:dK G l s 0≠0:=fx h;have X:dK G l s c=dK G l s 0:=by rw[sd,cS h]
 exact⟨_,rfl,e1.trans e2,.inl ⟨cL,by rw[X];rfl⟩⟩;have h:dK G l s 0=0:=cL;have E2:=e1.trans e2;have Y:=e2.at_ hg;refine dF (gT _ _ _ _) (eK ⟨λZ=>?_,λZ=>?_⟩);have Z:kT c 0 5=false:=cL;have X:dK G l s c=1:=by rw[sd,cV h,Z];rfl
 exact⟨_,rfl,E2,.inl ⟨cL,by rw[X];rfl⟩⟩;have Z:kT c 0 5=true:=cL;have X:dK G l s c=0:=by rw[sd,cV h,Z];rfl
 obtain⟨hE,f,rfl,hf,aw⟩:=BT h;have L:=nF hE;have ok:=eD L.g;have h5:=ok.many;have ax:=ok.days;rw[X,ow];have⟨P,hP⟩:=ju (mF G (fA G l).2 f c);have aa:pV G l []=dJ G.tries (fA G l).2:=N9 hE;have⟨O,hO⟩:=ju (dJ G.tries (fA G l).2);have⟨_,ab⟩:=vJ G l [];rw[aa,<-hO]at ab;rw[<-hO,<-hP];have ac:O.length<=5:=by refine du (wL _ _ ?_ ab) h5;rw[hO];exact tB _ _
 refine eF Y (cX (xX (da:=da) (dc:=dc) cM (hr.ext E2) B L.sh (but:=[]) (ba:=none) (bc:=0) (λk hk=>by simp at hk) dq) ?_);rintro _ w3 ⟨e3,hv⟩;rw[aa,<-hO]at hv;obtain⟨E,F,rfl,C,ad⟩:=hv.row;have E3:=E2.trans e3;have ak:=e3.at_ Y;refine fc O.length (λk (_:Unit)=>[(1,.slice la l.length lc),(2,i64 (f:Nat)),(3,i64 c),(4,dj gb),(11,.slice E O.length F),(12,i64 k)]) (λk _ T=>Ext w3 T/\(sr O k).find? P=none) () ⟨by trivial,Ext.refl _,rfl⟩ ?_;rintro k _ I hk ⟨e4,ae⟩;refine dm (dN ⟨λay=>?_,λaz=>?_⟩);have al:k<O.length:=cL;refine cX (Dz k I (C.ext e4) ad ac cM) ?_;rintro _ w5 ⟨e5,t⟩;have⟨A,hA⟩:=ju (jN k O);rw[<-hA]at t;have aA:A.length<=32:=by rw[hA];exact du (wN _ _) (du (Nat.pow_le_pow_right cL ac) cL)
 obtain⟨pa,pc,rfl,hL,aB⟩:=t.row;have J:=e4.trans e5;refine fc A.length (λi (_:Unit)=>[(1,.slice la l.length lc),(2,i64 (f:Nat)),(3,i64 c),(4,dj gb),(11,.slice E O.length F),(12,i64 k),(13,.slice pa A.length pc),(14,i64 i)]) (λi _ T=>Ext w5 T/\(A.take i).find? P=none) () ⟨by trivial,Ext.refl _,rfl⟩ ?_;rintro i _ w6 hi ⟨U,p⟩;refine dm (dN ⟨λar=>?_,λau=>?_⟩)
 ·have m:i<A.length:=cL;obtain⟨pb,po,sa,sc,rfl,j,K,af⟩:=(hL.ext U) i m;have⟨S,hS⟩:=ju (A[i]);have aC:S.length=k:=by
   rw[hS];exact(tO (k:=k) (l:=O) cL).1
  rw[<-hS]at j K af;have E6:=E3.trans (J.trans U);have ag:=(J.trans U).at_ ak;have d:=Ru hE hf c S;rw[<-hP]at d;have⟨ah,H⟩:=vJ G l (nS S);have⟨z,ai⟩:=ju (pV G l (nS S));unfold T5 at d;rw[<-ai]at ah H d;have am:z.Nodup:=ah.imp cM;have an:(nS S).length=S.length:=nP _;have M:P S=false->(A.take (i+1)).find? P=none:=λh=>by rw[iT m,List.find?_append,p,<-hS,List.find?_cons,h];rfl
  refine dE dD<|pU ag<|pU ag<| .exact (oz pb (po+i)) (λN o=>eX i m fL)<| .exact (.slice sa S.length sc) (λN o=>cP (o.cell j) fL)<| .rel (λu I=>eO w6.heap.size I u z) (λu a b h e=>dg.ext h e) (λN o=>?_) ?_;have q:=xX (da:=da) (dc:=dc) (lc:=lc) (bc:=sc) cM (hr.ext (E6.trans o)) B L.sh (K.ext o).ints cM;rw[an]at q;exact cX q λu w8 ⟨e8,h8⟩=>⟨by rw[ai];exact h8.low o.size,e8⟩;refine .rel (λu I=>∃E F,Cj (pW G l f z) (E,z.length,F) u I) (λu a b ⟨x,y,q2⟩ e=>⟨x,y,Cj.st _ _ _ q2 e⟩) (λN o u t=>?_) ?_;have t:eO w6.heap.size N u z:=t;obtain⟨E,F,rfl,C,_⟩:=t.row;exact cX (Dy (dc:=dc) (lc:=lc) L.g (hd.ext (E6.trans o)) (hr.ext (E6.trans o)) B L.sh f cM C am H) cL;refine .rel (λu I=>∃Q,u=dj Q/\w6.heap.size<=Q/\I.heap[Q]? =some (.cells (pJ 125).toArray 125)) (λu a b ⟨Q,q1,q2,q3⟩ e=>⟨Q,q1,q2,e.at_ q3⟩) (λN o=>eU λw8 Q e8 ao hb=>⟨⟨Q,rfl,du o.size ao,hb⟩,e8⟩) ?_;rintro N o _ ⟨sb,rfl,ap,aq⟩ u t;have t:∃E F,Cj (pW G l f z) (E,z.length,F) u N:=t;obtain⟨_,_,i',m',a',d',s',rfl,hX⟩:=t;repeat intro _
  refine dI aq λw8 k8 D=>?_;have D:w8.heap[sb]? =some (.cells (zJ i' m' a' d' s').toArray 125):=D.trans (dH (λa=>some (Obj.cells a 125)) r9);have E8:Ext w6 w8:=o.cT k8 ap;refine cP (cO D rfl) ?_;cases hq:pW G l f z with
  |none=>
   rw[hq]at hX d;obtain⟨rfl,_⟩:=hX;exact⟨cL,λ_=>kZ rfl (cY ⟨m,(),by trivial,U.trans E8,M d.symm⟩)⟩
  |some r=>
   rw[hq]at hX d;obtain⟨rfl,rfl,_⟩:=hX;refine⟨λ_=>cP (cO D rfl) (oP ⟨λh3=>?_,λh3=>?_⟩),cL⟩;have aD:P S=true:=cL;have R:jb P O=S:=by grind [Fu]
   rw[R];exact eX i m (cP (E8.cell j) ⟨_,rfl,E6.trans E8,.inr ⟨rfl,sa,sc,rfl,K.ext E8,af⟩⟩);exact cY ⟨m,(),by trivial,U.trans E8,cL⟩
 obtain rfl:i=A.length:=cL;rw[j5,hA]at p;refine cY ⟨al,(),by trivial,J.trans U,?_⟩;rw[rY,List.find?_append,ae,p];rfl;obtain rfl:k=O.length:=cL;have R:jb P O=O:=by rw[tR,ae];rfl
 rw[R];exact⟨_,rfl,E3.trans e4,.inr ⟨rfl,E,F,rfl,C.ext e4,ad⟩⟩
end
def Ob:Calls V.prog 25 #[gV H a m] w (fO λv f=>(∃b,v=.bool b/\(b=false->H.doors.length<=20))/\Ext w f):=by refine TK (V.fn Tryz.func25 cL) Tryz.ntmps25 (dX.seq dB ?_);refine eJ λk l d g c=>dX.iu (mJ.start (mJ.Cc 15 dB ?_));refine cP (cO c rfl) (dm (mI ⟨λh=>cP (cO c rfl) (dm (oP ⟨λi=>?_,λi=>eF c (ep Ib λj e=>?_)⟩)),λh=>eF c (ep Ib λj e=>?_)⟩));exact mJ.fin (dX.of dB ⟨_,rfl,⟨_,rfl,cL⟩,d⟩);exact mJ.fin (dX.of dB ⟨_,rfl,⟨_,rfl,cL⟩,d.trans e⟩);exact mJ.fin (dX.of dB ⟨_,rfl,⟨_,rfl,cL⟩,d.trans e⟩)
def Kl{p:cN->Bool}(l:cN):(jb p l).length<=l.length:=by
 rw[tR];cases h:(sr l l.iw).find? p with
 |none=>grind
 |some x=>
  have⟨k,_,a⟩:=me.1 (List.mem_of_find?_eq_some h);exact(tO a).2.length_le
def Xu(G:Gd)(l:List Tq)(s c:Int):eY:=V3 (dK G l s c) (jb (mF G (fA G l).2 s.toNat c) (dJ G.tries (fA G l).2))
def T6(G:Gd)(l:List Tq)(s c:Int):(Xu G l s c).length<=100000:=by
 unfold Xu V3;split;rename_i h;have a:kH G l=0:=by grind [sd,BT]
 have L:=nF a;have b:=(eD L.g).many;have d:=Kl (p:=mF G (fA G l).2 s.toNat c) (dJ G.tries (fA G l).2);have e:=vt G.tries (fA G l).2 (fA G l).2.iw;have f:=L.len;grind [List.length_map,dJ,fA,nS];grind
theorem Rw{l:List Tq}(h:(dK H l I J≠0/\x=.tuple #[.slice none 0 0,.int .i64 (dK H l I J)])\/(dK H l I J=0/\∃a n,x=.tuple #[.slice a (jb (mF H (fA H l).2 I.toNat J) (dJ H.tries (fA H l).2)).length n,.int .i64 0]/\fJ w a (jb (mF H (fA H l).2 I.toNat J) (dJ H.tries (fA H l).2))/\(jb (mF H (fA H l).2 I.toNat J) (dJ H.tries (fA H l).2)).length<=n)):BM iF (Xu H l I J) (dK H l I J) x w:=by unfold Xu V3;obtain⟨b,rfl⟩|⟨b,a,n,rfl,c,_⟩:=h;rw[cS b];exact⟨none,0,rfl,λk d=>by simp at d⟩;rw[cV b,b];exact⟨a,n,by simp[nS],c.ints⟩
def T7(G:Gd)(l:List Tq)(c:Int):∃A B:Int,∀v,Fs G l c v->v=.tuple #[.int .i64 A,.int .i64 B]:=by by_cases h:∃v,Fs G l c v;have⟨v,a⟩:=h;obtain⟨A,B,rfl⟩:=a.two;exact⟨A,B,λu b=>b.one a⟩;exact⟨0,0,cL⟩
structure BU where
 G:Gd
 da:Option Addr
 dc:Nat
 l:List Tq
 la:Option Addr
 lc:Nat
 s:Int
 c:Int
structure T9(gs ls ss cs:Nat)(w:cJ)(bs:List BU):Prop where
 gI:Ke (λc:BU=>gL c.G c.da c.dc) 7 gs w bs
 lI:BK (λc:BU=>.slice c.la c.l.length c.lc) ls w bs
 sI:BK (λc:BU=>.int .i64 c.s) ss w bs
 cI:BK (λc:BU=>.int .i64 c.c) cs w bs
 all:∀c∈bs,Ra w c.da c.G/\Dv w c.la c.lc c.l
theorem T9.ext{a:List BU}(h:T9 m k i j w a)(e:Ext w t):T9 m k i j t a:=⟨h.gI.ext e,h.lI.ext e,h.sI.ext e,h.cI.ext e,λc b=>⟨(h.all c b).1.ext e,(h.all c b).2.ext e⟩⟩
def Oq(b:Nat)(t:Nat)(c:dP)(u:cK)(w:cJ):Prop:=∃a,u=.slice (some ⟨a,0,none⟩) 3 3/\a≠b/\w.heap[a]? =some (.cells c.toArray t)
def Oq.de(u:cK)(a b:cJ)(h:Oq m k M u a)(e:DE m a b):Oq m k M u b:=by have⟨d,f,c,g⟩:=h;exact⟨d,f,c,e.1.fN g c⟩
def Rx(a:Nat)(s:Int)(u:cK)(w:cJ):Prop:=∃f:Int,Oq a 3 [.int .i64 s,.int .i64 f,.int .i64 s] u w
theorem Rx.de(u:cK)(a b:cJ)(h:Rx m I u a)(e:DE m a b):Rx m I u b:=by have⟨f,h⟩:=h;exact⟨f,h.de _ _ _ e⟩
def Xv(a b c d k e:Nat)(f:dW)(n g:Nat):L:=[(14,.slice (some ⟨a,0,none⟩) 3 3),(15,.slice (some ⟨b,0,none⟩) 3 3),(16,.slice (some ⟨c,0,none⟩) 3 3),(17,.slice (some ⟨d,0,none⟩) 3 3),(18,.int .i64 k),(19,dj e),(20,.slice f n g)]
def Ck{dc:Nat}(hd:gZ w a H.doors)(bg:H.doors.length<=9223372036854775807){l:List Tq}{la:dW}{lc:Nat}(hl:kz w la l)(bh:l.length<=9223372036854775807)(aL:l.length<=lc)(aM:la=none->l.length=0)(s cv:Int) {ns:eY}{na:dW}(hr:iF w na ns)(aN:ns.length<=9223372036854775807):
 Calls V.prog 13 #[gV H a dc,.slice la l.length lc,.int .i64 s,.int .i64 cv,.slice na ns.length m] w (uF λv w'=>v=.bool true/\Ext w w'):=by
 refine TK (V.fn Tryz.func13 cL) Tryz.ntmps13 (dX.seq dB ?_);refine eJ λI ob e1 bi Q=>dX.iu (dX.iu (mJ.start (mJ.Cc 7 dB ?_)));refine eF Q (cX Ob ?_);rintro _ w2 ⟨⟨mb,rfl,aO⟩,e2⟩;have E2:=e1.trans e2;refine⟨λh=>?_,λh=>dm (mI ?_)⟩;refine mJ.fin (dX.of dB (ko rfl (iM (tI w2) (λw' h=>.inr ⟨rfl,h⟩) ?_)));rintro _ w3 ⟨rfl,e3⟩;exact .inl ⟨_,rfl,rfl,E2.trans e3⟩;refine mJ.fin (dX.of dB ⟨λh4=>?_,λh4=>?_⟩);refine iM (tI w2) (λw' h=>.inr ⟨rfl,h⟩) ?_;rintro _ w3 ⟨rfl,e3⟩;exact .inl ⟨_,rfl,rfl,E2.trans e3⟩;have ao:=aO h;have bd:l.length<=30:=cL;refine dX.jJ (l0:=[(1,.slice la l.length lc),(2,i64 s),(3,i64 cv),(4,.slice na ns.length m),(5,dj ob)]) (by trivial) (dX.seq dB ?_);refine cX (HK (hr.ext E2) aN) ?_;rintro _ w3 ⟨e3,z,rfl,bj,hD⟩;have E3:=E2.trans e3;refine dX.seq dB (cX (Fa hD 4 dq) ?_);rintro _ w4 ⟨d4,M,N,O,rfl,hO,bk,hM,bl⟩;have ok:=eD hM;have bm:=ok.days;have bn:=E3.size;have ab:w.heap.size<=z:=iI E2.size;have bo:=hD.lt;have bp:=d4.1.size;have E4:Ext w w4:=J6 E3 d4 ab;refine eU λw5 gb e5 aP aQ=>dI aQ λw6 k6 ag=>?_;replace ag:w6.heap[gb]? =some (.cells (gL M N O).toArray 24):=ag.trans (dH (λJ=>some (Obj.cells J 24)) (ef (pJ 24).toArray (gL M N O) rfl));have ac:Ext w4 w6:=Ext.cT e5 k6 aP;have D6:=(d4.2 hD).ext ac;refine dX.jJ (l0:=[(1,.slice la l.length lc),(2,i64 s),(3,i64 cv),(5,dj ob),(11,dj z),(12,dj gb)]) (by trivial) (dX.seq dB ?_);refine eF ag (cX (NP (dc:=O) D6 hM) ?_);rintro _ w7 ⟨d7,yl,sm,hu,aR,bq,aS⟩;have br:=ac.size;have bs:=d7.1.size;have aT:¬gb=z:=cM;have g7:=d7.1.fN ag aT;have ap:mz w3.heap.size w7 (.slice N M.doors.length O) M.doors:=dg.keep (dg.ext hO ac) d7.1 λb Q e=>iI ((dg.blk hO Q).1);have aU:=Q2 aR;have D7:=d7.2 D6;have E7:Ext w w7:=J6 (E4.trans ac) d7 ab;have bt:w7.heap[ob]? =some (.cells (gL H a dc).toArray 24):=by have h1:w4.heap[ob]? =some (.cells (gL H a dc).toArray 24):=d4.1.fN ((e2.trans e3).at_ Q) (Cq (dA.lt_of_heap Q) e2.size);exact d7.1.fN (ac.at_ h1) (Cq (dA.lt_of_heap Q) e2.size)
 have aV:ob≠z:=Cq (dA.lt_of_heap Q) e2.size;have⟨Y,hY⟩:=ju (yl.map Wj);have aq:Y.length=yl.length:=cL;obtain⟨ya,yc,rfl,_,_⟩:=hu.row;have aj:zp w6.heap.size w7 (.slice ya Y.length yc) Y:=by have:=hu.q;grind
 have⟨_,_,e,bu⟩:=aj.Yz cM;cases e;have rf:∀{v:cK} {w:cJ},v=v/\DE z w w:=⟨rfl,(zo z).refl _⟩;have h7:∀{i:cJ} {x:Nat} {o:Obj},DE z w7 i->x≠z->w7.heap[x]? =some o->i.heap[x]? =some o:=λe hx h=>e.1.fN h hx;have g8:∀i,DE z w7 i->i.heap[gb]? =some (.cells (gL M N O).toArray 24):=cL;have ar:∀{i:cJ},DE z w7 i->zp w6.heap.size i (.slice ya Y.length yc) Y:=λe=>dg.keep aj e.1 λb Q h=>iI (dg.blk aj Q);have⟨dd,bv⟩:∃dd:Nat,M.days=dd:=⟨M.days.toNat,cM⟩;refine dX.jJ (l0:=[(1,.slice la l.length lc),(2,i64 s),(3,i64 cv),(5,dj ob),(11,dj z),(12,dj gb),(13,.slice ya Y.length yc)]) ⟨rfl,rfl,rfl,rfl,rfl,rfl,by rw[aq];rfl,trivial⟩ (dX.seq dB ?_);refine dE (zo z)<| .exact (gV H a dc) (λi D=>eF cL rf)<| .exact (gV M N O) (λi D=>eF (g8 i D) rf)<| .exact (gV M N O) (λi D=>eF (g8 i D) rf)<| .rel (Oq z 24 (gL H a dc++gL M N O++gL M N O)) Oq.de (λi D=>er (gL H a dc++gL M N O++gL M N O) 24 λw9 E e9 R S=>⟨⟨E,rfl,iI D.1.size,S⟩,e9.de z⟩)<| .rel (Oq z 25 [.slice la l.length lc,.slice ya Y.length yc,fo]) Oq.de (λi D=>er [.slice la l.length lc,.slice ya Y.length yc,fo] 25 λw9 E e9 R S=>⟨⟨E,rfl,iI D.1.size,S⟩,e9.de z⟩)<| .exact (i64 (yM yl)) (λi D=>?_) ?_
 ·have h8:sE w6.heap.size i (.slice ya yl.length yc) yl:=dg.keep hu D.1 λb Q h=>iI (dg.blk hu Q);have hc:Calls V.prog 31 #[.slice ya Y.length yc] i (fO λv w'=>v=i64 (yM yl)/\w'=i):=by rw[aq];exact J2 (sE.rowOf h8) cM
  repeat intro _
  exact dF hc rf
 refine .exact (i64 M.days) (λi D=>cP (cO (g8 i D) rfl) rf)<| .exact (i64 (2*M.days)) (λi _=>qo rf)<| .exact (i64 (2*M.days-1)) (λi _=>fI rf)<| .rel (λu _=>∃f:Int,u=i64 f) cL (λi D=>?_) ?_
 ·repeat intro _
  exact cX (my (D.2 D7) (yM yl) (2*M.days-1) cM cM cM) cL
 refine .rel (Rx z s) Rx.de (λi D=>?_) ?_
 ·rintro u ⟨f,rfl⟩;repeat intro _
  exact er [i64 s,i64 f,i64 s] 3 λw9 E e9 R S=>⟨⟨f,E,rfl,cL,S⟩,e9.de z⟩
 refine .rel (λu _=>∃f:Int,u=i64 f) cL (λi D=>?_) ?_
 ·repeat intro _
  exact cX (qz (D.2 D7) 2 dq) cL
 refine .rel (Rx z cv) Rx.de (λi D=>?_) ?_
 ·rintro u ⟨f,rfl⟩;repeat intro _
  exact er [i64 cv,i64 f,i64 cv] 3 λw9 E e9 R S=>⟨⟨f,E,rfl,cL,S⟩,e9.de z⟩
 refine .rel (Oq z 24 (gL H a dc++gL M N O++gL M N O)) Oq.de (λi D=>?_) ?_
 ·repeat intro _
  exact⟨cL,(zo z).refl _⟩
 refine .rel (Oq z 25 [.slice la l.length lc,.slice ya Y.length yc,fo]) Oq.de (λi D=>?_) ?_
 ·repeat intro _
  exact⟨cL,(zo z).refl _⟩
 refine .rel (Rx z s) Rx.de (λi D=>?_) ?_
 ·repeat intro _
  exact⟨cL,(zo z).refl _⟩
 refine .rel (Rx z cv) Rx.de (λi D=>?_) ?_
 ·repeat intro _
  exact⟨cL,(zo z).refl _⟩
 rintro i D _ ⟨g,L,rfl,bw,au⟩ _ ⟨f,ss,rfl,bx,av⟩ _ ⟨ls,rfl,bz,aw⟩ _ ⟨gs,rfl,bA,ax⟩;repeat intro _
 have E8:Ext w i:=J6 E7 D ab;have aW:mz w3.heap.size i (.slice N M.doors.length O) M.doors:=dg.keep ap D.1 λb Q h=>iI (dg.blk ap Q);have aX:=mz.VX aW;have⟨_,_,aY,bB⟩:=(ar D).Yz cM;cases aY;have⟨cs,T⟩:=ju ([⟨H,a,dc,l,la,lc,s,cv⟩,⟨M,N,O,Y,ya,yc,f,g⟩,⟨M,N,O,[],none,0,s,cv⟩]:List BU);have bC:cs.length=3:=by rw[T];rfl
 have ay:T9 gs ls ss L i cs:=by have eM:Ra i N M:=⟨aX,cM⟩;have eL:Dv i la lc l:=⟨hl.ext E8,cM,aL,aM⟩;refine⟨Ke.of (t:=24) (λ_=>rfl) ?_,BK.of (t:=25) ?_,BK.of (t:=3) ?_,BK.of (t:=3) ?_,?_⟩;rw[T];exact ax;rw[T];exact aw;rw[T];exact av;rw[T];exact au;rw[T];intro c hc;simp only[fi,pA,mh]at hc;obtain rfl|rfl|rfl:=hc;exact⟨⟨hd.ext E8,ao⟩,eL⟩;grind;exact⟨eM,⟨λk hk=>by simp at hk,dq,dq,cL⟩⟩
 clear T;refine dX.jJ (l0:=[(14,eT gs 3 3),(15,eT ls 3 3),(16,eT ss 3 3),(17,eT L 3 3)]) (by trivial) (dX.iu (dX.seq dB ?_));refine pT 3 (λk (_:Unit)=>[(14,eT gs 3 3),(15,eT ls 3 3),(16,eT ss 3 3),(17,eT L 3 3),(18,i64 k)]) (λk _ w'=>Ext i w') () ⟨by trivial,Ext.refl _⟩ ?_;rintro k _ ah hk ai;refine dX.iu (dX.of dB (dm (dN ⟨λbD=>?_,λbE=>?_⟩)));rotate_left;refine dX.of dB (iM (tI ah) (λw' h=>.inr ⟨rfl,h⟩) ?_);rintro _ az ⟨rfl,U⟩;exact .inl ⟨_,rfl,rfl,(E8.trans ai).trans U⟩;have p:k<3:=cL;have ad:=ay.ext ai;have ae:k<cs.length:=cM;have aZ:=ad.all _ (eG ae);have qg:=ad.gI k ae;have ql:=ad.lI k ae;have qs:=ad.sI k ae;have qc:=ad.cI k ae;have a0:=E8.trans ai;generalize cs[k]=c at*;have⟨gI,lI⟩:=aZ;refine dX.iu (dX.block (dX.iu ?_));clear h7 ar;have⟨n0,bF⟩:=ju ah.heap.size;have hE:=YB n0;have ext:∀{I:cJ},Rb n0 ah I->Ext ah I:=λe=>e.ext cM;refine gQ 11 dD hE (λJ b h=>h.et n0)<| .exact (oz gs (0+k*7)) (λw _=>fH k 7 p fL)<| .exact (gV c.G c.da c.dc) (λw e=>ez (vs:=gL c.G c.da c.dc) (λj v hj=>(ext e).cell cL) fL)<| .rel (λu I=>∃J d,u=gV c.G J d/\mz n0 I (.slice J c.G.doors.length d) c.G.doors) (λu J b ⟨x,d,h1,h2⟩ e=>⟨x,d,h1,dg.et h2 e cL⟩) (λI e=>?_) ?_;refine cX (Cb ((gI.row.ext (ext e)).cells) (iI gI.len)) ?_;rintro u w2 ⟨e2,J,d,rfl,h⟩;exact⟨⟨J,d,rfl,mz.low h (iI ((ext e).size))⟩,e2⟩;refine .exact (oz ls (0+k)) (λw _=>eX k p fL)<| .exact (.slice c.la c.l.length c.lc) (λw e=>cP ((ext e).cell ql) fL)<| .rel (λu I=>zp n0 I u c.l) (λu J b h e=>dg.et h e cL) (λI e=>?_) ?_
 ·repeat intro _
  exact cX (Q7 (lI.row.ext (ext e)) (iI lI.len)) λu w2 ⟨e2,h⟩=>⟨dg.low h (iI ((ext e).size)),e2⟩
 refine .rel (λu I=>∃E,u=dj E/\n0<=E/\∃cs,fF I E cs 24/\cs.size=7) (λu J b ⟨E,h1,h2,cs,h3,h4⟩ e=>by have⟨a1,h5,h6⟩:=e.q E cs h3;grind) (λa2 aA=>?_) ?_
 ·repeat intro _
  exact eU λa3 E a4 R Q=>⟨⟨E,rfl,iI ((ext aA).size),_,Q,rfl⟩,a4⟩
 refine .yw (λvs I=>∃E r J d,vs=dj E::r/\I.heap[E]? =some (.cells (gL c.G J d).toArray 24)/\mz n0 I (.slice J c.G.doors.length d) c.G.doors) (λ_ J b ⟨E,r,x,d,h1,h2,h3⟩ e=>⟨E,r,x,d,h1,e.at_ h2,dg.ext h3 e⟩) (λa2 aA=>?_) ?_;rintro _ ⟨E,rfl,R,a1,aB,aC⟩ v2 _ _ ⟨J,d,rfl,a5⟩;exact V2 (gL c.G J d) aB aC R λa3 aD aE=>⟨⟨E,_,J,d,rfl,aE,dg.et a5 aD cL⟩,aD⟩;refine .rel (λu I=>zp n0 I u c.l) (λu J b h e=>dg.et h e cL) (λI e=>?_) ?_
 ·repeat intro _
  exact⟨cL,Ext.refl _⟩
 rintro az U a6 a7 _ ⟨E,rfl,R,_⟩ bG _ _ ⟨_,_,rfl,_⟩;rintro⟨aa,r,J,d,a8,af,aF⟩;have aG:aa=E:=by have:=(List.cons.inj a8).1;exact(dH Addr.block (dT (Value.pointer.inj this))).symm
 subst aG;have U:=ext U;have a9:zp n0 az a6 c.l:=a7;obtain⟨ka,kc,rfl,ak⟩:=a9.Yz lI.len;have al:=mz.VX aF;have bH:=a0.trans U;refine dX.jJ (l0:=Xv gs ls ss L k aa ka c.l.length kc) (by trivial) (dX.iu ?_);have be:=lI.len;have bf:=gI.len;have⟨A,B,bI⟩:=T7 c.G c.l c.c;have⟨P,hP⟩:=ju (Xu c.G c.l c.s c.c);have⟨Z,hZ⟩:=ju (dK c.G c.l c.s c.c);have aH:=T6 c.G c.l c.s c.c;rw[<-hP]at aH;have s2 {l:eY} {A:Int}:=@BM.st _ iF l A iF.ext;have s1 {l:eY}:=@Ic.st _ iF l iF.ext;refine dE dD (pU af<|gl k p<|dl (U.cell qc)<| .exact (.tuple #[i64 A,i64 B]) (λI e=>iM (Ft (dc:=d) (lc:=kc) (al.ext e) cM (ak.row.ext e) cM c.c) (λw' h=>.inr ⟨rfl,h⟩) cL) λbJ aI=>?_);have C:=U.trans aI;refine dX.jJ (l0:=(21,i64 A)::(22,i64 B)::Xv gs ls ss L k aa ka c.l.length kc) (by trivial) (dX.iu ?_);refine dE dD (jx k 7 p<|BN (C.cl qg)<|gl k p<|dl (C.cell ql)<|gl k p<|dl (C.cell qc)<| .exact (.tuple #[i64 A,i64 B]) (λI e=>cX (Iu (dc:=c.dc) (gI.row.ext (C.trans e)) cM (lI.row.ext (C.trans e)) cM lI.cap c.c) cL) λbK aJ=>?_);have W:=C.trans aJ;have K:=aI.trans aJ;refine dX.jJ (l0:=(23,i64 A)::(24,i64 B)::(21,i64 A)::(22,i64 B)::Xv gs ls ss L k aa ka c.l.length kc) (by trivial) (dX.iu ?_);refine dE dD<|pU (K.at_ af)<|gl k p<|dl (W.cell qs)<|gl k p<|dl (W.cell qc)<| .rel (BM iF P Z) s2 (λI e=>iM (yJ (dc:=d) (lc:=kc) (al.ext (K.trans e)) cM (ak.row.ext (K.trans e)) cM c.s c.c) (λw' h=>.inr ⟨rfl,h⟩) λu w2 ⟨e2,h⟩=>⟨by grind [Rw],e2⟩)<| .rel (BM iF P Z) s2 YC ?_;refine .rel (Ic iF P) s1 (by rintro _ _ _ ⟨x,y,rfl,h⟩;exact⟨⟨x,y,rfl,h⟩,Ext.refl _⟩) ?_;refine .rel (Rd Z) Rd.st (by rintro _ _ _ ⟨_,_,rfl,_⟩;exact fL) ?_;refine .rel (Ic iF P) s1 (by(repeat intro _);exact⟨cL,Ext.refl _⟩) ?_;refine .rel (Rd Z) Rd.st (by(repeat intro _);exact⟨cL,Ext.refl _⟩) ?_;rintro bL aK _ rfl _ ⟨xa,xc,rfl,ba⟩;repeat intro _
 have n:=W.trans aK;have am:=K.trans aK;refine dX.jJ (l0:=(25,.slice xa P.length xc)::(26,i64 Z)::(23,i64 A)::(24,i64 B)::(21,i64 A)::(22,i64 B)::Xv gs ls ss L k aa ka c.l.length kc) (by trivial) (dX.iu ?_);refine dE dD<|jx k 7 p<|BN (n.cl qg)<|gl k p<|dl (n.cell ql)<|gl k p<|dl (n.cell qs)<|gl k p<|dl (n.cell qc)<| .rel (BM iF P Z) s2 (λI e=>cX (Kk (dc:=c.dc) (gI.row.ext (n.trans e)) cM (lI.row.ext (n.trans e)) cM lI.cap c.s c.c) λu w2 ⟨e2,h⟩=>⟨by grind [Rw],e2⟩)<| .rel (BM iF P Z) s2 YC ?_;refine .rel (Ic iF P) s1 (by rintro _ _ _ ⟨x,y,rfl,h⟩;exact⟨⟨x,y,rfl,h⟩,Ext.refl _⟩) ?_;refine .rel (Rd Z) Rd.st (by rintro _ _ _ ⟨_,_,rfl,_⟩;exact fL) ?_;refine .rel (Ic iF P) s1 (by(repeat intro _);exact⟨cL,Ext.refl _⟩) ?_;refine .rel (Rd Z) Rd.st (by(repeat intro _);exact⟨cL,Ext.refl _⟩) ?_;rintro bM an _ rfl _ ⟨va,vc,rfl,bb⟩;repeat intro _
 have F:=n.trans an;have X:=am.trans an;refine dX.jJ (l0:=(27,.slice va P.length vc)::(28,i64 Z)::(25,.slice xa P.length xc)::(26,i64 Z)::(23,i64 A)::(24,i64 B)::(21,i64 A)::(22,i64 B)::Xv gs ls ss L k aa ka c.l.length kc) (by trivial) (dX.iu ?_);refine dE dD<|Kf (kZ rfl<|Kf<|kZ rfl<|Kf<|kZ rfl ?_);refine il _ (λw e=>Rc ((ba.ext an).ext e) (bb.ext e) aH)<|mQ<|kZ rfl<|pU (X.at_ af)<|jx k 7 p<|BN (F.cl qg)<|il _ (λw e=>Cf (al.ext (X.trans e)) (gI.row.ext (F.trans e)) cM)<|mQ<|kZ rfl<|gl k p<|dl (F.cell ql)<|il _ (λw e=>H7 (ak.row.ext (X.trans e)) (lI.row.ext (F.trans e)) cM)<|mQ ?_;intro bN bc;exact dX.of dB (kZ rfl (dX.of dB (cY ⟨cM,(),by trivial,ai.trans (F.trans bc)⟩)))
end Go.Proofs.W
namespace Go.Proofs.W
open Go.Conc Go.dA Go.RowKit
noncomputable def Wn(L:cN)(f:Nat):Bool:=f==163||okF L false (λ_=>false) f
abbrev kU:=Array (Nat×Nat)
def kU.sh(a:kU)(b:Nat):Option Nat:=(a[b]?).map (·.2)
def kU.r(a:kU)(b c:Nat):Prop:=∃n,a[b]? =some (c,n)
def kU.nG{a:kU}(b c d:Nat)(h:a.r b c)(e:a.r b d):c=d:=by have⟨n,h⟩:=h;have⟨m,e⟩:=e;grind
def kU.pY{a:kU}(b d c:Nat)(h:a.r b c)(e:a.r d c):b=d\/(a.sh b≠none/\a.sh d≠none):=by have⟨n,h⟩:=h;have⟨m,e⟩:=e;grind [kU.sh]
noncomputable def Ua(L:cN)(a:kU):dO where
 S:=λg=>L.contains g
 dim:=false
 ok:=λf=>iE V.prog (λg=>L.contains g) false false
 df:=λ_=>false
 fs:=PR.funcs
 hole:=λf=>f==163
 sh:=a.sh
 r:=a.r
 nG:=kU.nG
 pY:=kU.pY
def Fv(h:l.all (Wn l)=true)(f:Nat)(b:l.contains f=true)(d:f≠163):
 ∃a c,V.prog.funcs[f]? =some a/\a.body=some c/\iE V.prog (λg=>l.contains g) false false c=true/\(a.name== "runtime.NumGoroutine")=false:=by
 have:=nj.1 h f (fB b);unfold Wn at this;rw[show(f==163)=false by grind,Bool.false_or]at this;unfold okF at this;grind
def Ub:(V.f163.name== "runtime.NumGoroutine")=false:=eE
def Ry:(Tryz.f163.name== "runtime.NumGoroutine")=false:=eE
def Rz:∃c,Tryz.f163.body=some c:=⟨_,Ah⟩
def Oc{j:kU}(h:l.all (Wn l)=true):Go.dA.Good V.prog (Ua l j):=by
 refine⟨⟨V.zero,λf a=>?_,V.Gl,CH _,V.bad⟩,rfl,λf a k=>?_,⟨λf a=>?_⟩,λ⟨f,a⟩=>by cases a⟩;by_cases e:f=163;subst e;exact⟨V.f163,V.zt,V.func163,Ub,rfl⟩;have⟨b,c,d,g,_,i⟩:=Fv h f a e;grind;have e:f≠163:=λe=>by subst e;cases k
 have⟨b,c,d,g,m,_⟩:=Fv h f a e;exact⟨b,c,d,g,m⟩;by_cases e:f=163;subst e;have⟨c,n⟩:=Rz;exact⟨Tryz.f163,c,Tryz.func163,Ry,n,λh=>by cases h⟩;have⟨b,c,d,g,_,i⟩:=Fv h f a e;exact⟨b,c,(V.zu f e).symm.trans d,i,g,cL⟩
noncomputable def RA(L:cN)(df:Nat->Bool)(a:kU):dO where
 S:=λg=>L.contains g
 dim:=false
 ok:=λf=>iE V.prog (λg=>L.contains g) false (df f)
 df:=df
 fs:=V.prog.funcs
 hole:=λ_=>false
 sh:=a.sh
 r:=a.r
 nG:=kU.nG
 pY:=kU.pY
def RB(b:R.fs=P.funcs)(h:∀f,R.S f=true->∃a c,P.funcs[f]? =some a/\(a.name== "runtime.NumGoroutine")=false/\a.body=some c):RX P R:=⟨cL⟩
def Od{b:Nat->Bool}{i:kU}(h:l.all (okF l false b)=true):Go.dA.Good V.prog (RA l b i):=by refine⟨V.fit h,rfl,λf a _=>?_,RB (by grind [RA]) λf a=>?_,λ_ _=>rfl⟩;have⟨d,c,e,g,j,_⟩:=wi h f a;exact⟨d,c,e,g,j⟩;have⟨d,c,e,g,_,k⟩:=wi h f a;grind
def runNT_then{a b:Machine}{t c:Trace}(h:runNT P m a t=(.next b,c)):runNT P (m+k) a t=runNT P k b c:=by
 induction m generalizing a t with
 |zero=>
  simp only[runNT]at h;grind
 |succ m f=>
  rw[show m+1+k=(m+k)+1 from cM];simp only[runNT]at h⊢;cases d:stepT P a with
  |mk s e=>
   rw[d]at h;cases s with
   |next g=>grind
   |ended o w=>grind
def Uc(e:Ending)(a:cJ):Prop:=e=.returned (.bool true)\/(e=.panicked jX/\UQ a)
def RD{z:Nat->Bool}(hL:l.all (Wn l)=true)(ac:f.all (okF f false z)=true){fn:Func}{tm:Tmp}(hf:V.prog.funcs[K]? =some fn)(ad:fn.results=#[.tmp tm])(s:K≠163)(ae:l.contains K=true)(af:f.contains K=true) (ag:PR.inits.idxOf? K=none){k v:cJ}{ws:kU} (t:∀b c n:Nat,ws[b]? =some (c,n)->∃o J,v.heap[b]? =some o/\k.heap[c]? =some J/\∀p:dO,p.r=ws.r->p.sh=ws.sh->Ws p n o J)(R:∀p:dO,p.r=ws.r->p.sh=ws.sh->fX p X W) (hC:∀T:Ta,Go.dA.Below v T->Calls V.prog K X (dw v T) Uc):∃N last o q t',runNT PR (N+1) (solo (G (Frame.enter PR K W .normal) []) k) #[]=(.ended o q,t')/\runN PR N (solo (G (Frame.enter PR K W .normal) []) k)=.next last/\Go.step PR last=.ended o q/\
  Go.Conc.Good PR (λx q=>x=.bool true/\Go.RowKit.Below k.heap.size k q) last o q t':=by
 have S:Go.dA.Good jV (Ua l ws):=Oc hL;have am:ws.size<=v.lG:=Nat.le_of_not_lt λh=>by have⟨_,_,y,_⟩:=t v.lG _ _ (nh h);exact Nat.lt_irrefl _ (lt_of_heap y)
 have F:∀b,v.lG<=b->ws.sh b=none:=λb hb=>by unfold kU.sh;rw[vM cM];rfl
 have H:∀(p:dO),p.r=ws.r->p.sh=ws.sh->∀b c,ws.r b c->∃o J,v.heap[b]? =some o/\k.heap[c]? =some J/\Kx p (ws.sh b) o J:=λp y A b c ⟨n,P⟩=>by have⟨o,J,B,h4,h5⟩:=t b c n P;exact⟨o,J,B,h4,.inr ⟨n,by unfold kU.sh;rw[P];rfl,h5 p y A⟩⟩
 have U:Go.dA.Good jV (RA f z ws):=Od ac;have ev:(V.prog.jj PR.funcs)=PR:=SA;have I:Inv jV ⟨Frame.enter jV K X .normal,[floor],v⟩:=by
  have h:Inv jV ⟨Frame.enter jV K X .normal,[floor],dw v (sG v k)⟩:=
   ⟨RA f z ws,k,G (Frame.enter (V.prog.jj (RA f z ws).fs) K W .normal) [],U,λ_=>rfl,WR.sG ⟨H _ rfl rfl,F⟩,tW U af (R _ rfl rfl) .normal (.inl rfl),⟨[],[],rfl,rfl,.nil⟩,⟨rfl,rfl⟩,⟨rfl,rfl⟩,⟨rfl,rfl⟩⟩
  exact h.dw v.tape
 have C:Go.dA.Reach jV (uQ K (λx _=>x=.bool true)) ⟨Frame.enter jV K X .normal,[floor],v⟩:=by refine sR uQ.callers (λc T hi Q=>?_) I λT hT=>?_;obtain Q|⟨y,A,B,h4,h5⟩:=Q;exact .inl (Go.dA.Left.dw (λx w T h=>h) c T hi Q);exact .inr ⟨y,A,B,h4,h5.dw T⟩;have⟨e,q,fr,Y,Q,Z,hl⟩:=hC T hT [floor];obtain rfl|⟨rfl,Y⟩:=Y;have⟨n,hn⟩:=Q;exact⟨n,fr,[floor],q,hn,.inl ⟨rfl,Z,_,rfl,hl⟩⟩;have⟨n,hn⟩:=Q;exact⟨n,fr,[floor],q,hn,.inr ⟨rfl,Z,hl.1,hl.2.1,Y⟩⟩
 have hI:FQ jV PR.funcs k (Ua l ws) (λ_=>False) ⟨Frame.enter jV K X .normal,[floor],v⟩ #[G (Frame.enter (V.prog.jj PR.funcs) K W .normal) []] (G (Frame.enter (V.prog.jj PR.funcs) K W .normal) []) k #[] (λ_=>0):=by
  refine⟨I,S,rfl,rfl,⟨tW S ae (R _ rfl rfl) .normal (.inl rfl),⟨[],[],rfl,rfl,.nil⟩,⟨rfl,rfl⟩,⟨rfl,rfl⟩,⟨rfl,rfl⟩⟩,⟨H _ rfl rfl,F⟩,⟨λi g hi hg=>?_,λj _=>Go.ConcN.Deaf_absent dq⟩,?_,λb h=>h.elim,λ_ _ _ h=>h,λb c P hc=>?_,di _,λ_ _=>rfl,⟨rfl,rfl,rfl⟩,⟨λg hg=>?_,rfl,λ⟨g,hg⟩=>by cases hg⟩⟩;have:i<1:=(iS.1 hg).1;omega;have h:=past_nil;exact⟨h.clean,λi a ha hm=>by simp[touchAt,Trace.act?]at ha,h.over,h.hears,λop ah=>by simp at ah⟩;have⟨n,P⟩:=P;have⟨_,_,y,_,A⟩:=t b c n P;obtain⟨cs,fz,_,_,_,rfl,_,B,_⟩:=(A (Ua l ws) rfl rfl).out;exact⟨cs,uZ,fz,y,B⟩;have e:g=163:=by have:(g==163)=true:=hg;simpa using this
  subst e;rw[V.func163,show PR.funcs[163]? =some Tryz.f163 from Tryz.func163];intro e;have:=dH Func.ntmps (dT e);rw[Tryz.ntmps163]at this;cases this
 have⟨N,ai,q,aa,t',q',L,O,X',a',r1,D,r3,_⟩:=lead (fs:=PR.funcs) uQ.callers (Tl Nz s k) _ C _ _ _ _ _ none _ _ hI
 have aj:Go.dA.Left jV K (λx _=>x=.bool true) L.fr L.cl L.v:=by
  obtain h|⟨y,A,B,h4,h5⟩:=r3;exact h;exfalso;have E:eN jV O L.fr a'.frame:=by
   have u:=D.gor.fr;generalize E:(G L.fr L.cl).frame=fr at u;generalize al:a'.frame=an at u;cases u with
   |fr hf=>subst E;exact hf
   | @hole g hS hh X ao hx=>
    have:L.fr=Frame.enter jV g X .normal:=E;rw[this]at B;cases B
  have hm:=E.mode;rw[B]at hm;generalize a'.frame.mode=m at hm;cases hm with
  |panicking hc=>
   unfold jX at hc;cases hc with
   |cons Y _=>
    obtain h|h:=Y.ok;exact D.holes.2.2 h;exact h 3 _ _ rfl
 have ak:O.hole K=false:=by
  cases h:O.hole K with
  |false=>rfl
  |true=>
   exfalso;exact D.holes.1 K h (V.zu K s)
 have⟨M,last,o,w2,t2,s1,s2,s3,s4⟩:=D.ends (sl:=aa) aj hf ad ak (by rw[ev];exact ag) (Post:=λx q=>x=.bool true/\Go.RowKit.Below k.lG k q) λx x' d hx hv=>by subst hx;cases hv;exact⟨rfl,D.world.2.1,D.world.1,D.world.2.2,D.grown,λb hb=>D.kept b hb⟩
 rw[ev]at r1 s1 s2 s3 s4;have ab:runNT PR (N+(M+1)) (solo (G (Frame.enter PR K W .normal) []) k) #[]=(.ended o w2,t2):=(runNT_then r1).trans s1;refine⟨N+M,last,o,w2,t2,ab,?_,s3,s4⟩;have y:runNT PR (N+M) (solo (G (Frame.enter PR K W .normal) []) k) #[]=runNT PR M (crowd ai q aa) t':=runNT_then r1;have A:=runNT_fst PR (N+M) (solo (G (Frame.enter PR K W .normal) []) k) #[];rw[y,runNT_fst,s2]at A;exact A.symm
inductive VW (ws:kU):cK->cK->Prop
 |bool (b:Bool):VW ws (.bool b) (.bool b)
 |int (k:IntKind) (n:Int):VW ws (.int k n) (.int k n)
 |nil (l c:Nat):VW ws (.slice none l c) (.slice none l c)
 |slice {j b n:Nat} (l c:Nat) (h:ws[j]? =some (b,n)):VW ws (.slice (some ⟨j,0,none⟩) l c) (.slice (some ⟨b,n,none⟩) l c)
def Iw{c:Type}(a b:Array c):Prop:=∀(j:Nat) p,a[j]? =some p->b[j]? =some p
theorem Iw.refl{b:Type}(a:Array b):Iw a a:=λ_ _ h=>h
theorem Iw.trans{d:Type}{a b c:Array d}(h:Iw a b)(k:Iw b c):Iw a c:=λj p x=>k j p (h j p x)
theorem Iw.push{b:Type}(a:Array b)(x:b):Iw a (a.push x):=λj p h=>by rw[vO,cS (Nat.ne_of_lt (iS.1 h).1)];exact h
def VW.mono{e d:kU}(h:VW e x y)(k:Iw e d):VW d x y:=by
 cases h with
 |bool b=>exact .bool b
 |int a b=>exact .int a b
 |nil l c=>exact .nil l c
 |slice l c h=>exact .slice l c (k _ _ h)
def VW.vr{d:kU}(h:VW d x y){ρ:dO}(e:ρ.r=d.r)(f:ρ.sh=d.sh):VR ρ x y:=by
 cases h with
 |bool b=>exact .bool b
 |int a b=>exact .int a b
 |nil l c=>exact .gD l c
 | @slice j b n l c h=>
  refine .slice l c ?_;have:=AR.mk (ρ:=ρ) (b:=j) (c:=b) 0 none (by rw[e];exact⟨n,h⟩);rw[f,kU.sh,h,dn]at this;grind
inductive FA (ws:kU):List cK->List cK->Prop
 |nil:FA ws [] []
 |cons {x y:cK} {l m:List cK} (h:VW ws x y) (t:FA ws l m):FA ws (x::l) (y::m)
theorem FA.length{a:kU}(h:FA a M Y):M.length=Y.length:=by
 induction h with
 |nil=>rfl
 |cons _ _ b=>grind
def FA.get{a:kU}(h:FA a M Y):∀{i:Nat} {x:cK},M[i]? =some x->∃y,Y[i]? =some y/\VW a x y:=by
 induction h with
 |nil=>grind
 | @cons x y M Y h t b=>
  grind
theorem FA.mono{b a:kU}(h:FA b M Y)(k:Iw b a):FA a M Y:=by
 induction h with
 |nil=>exact .nil
 |cons h _ c=>exact .cons (h.mono k) c
def FA.vrs{a:kU}{l m:dP}(h:FA a l m)(b:R.r=a.r)(c:R.sh=a.sh):fX R l.toArray m.toArray:=by
 refine fX.mj ?_;simp only;induction h with
 |nil=>exact .nil
 |cons h _ d=>exact .cons (h.vr b c) d
theorem FA.self{a:kU}:∀{l:dP},(∀x∈l,VW a x x)->FA a l l
 |[],_=>.nil
 |x::l,h=>.cons cL (FA.self cL)
structure Seen(W:cJ)(ws:kU)(vs:Array (Array cK)):Prop where
 size:vs.size=ws.size
 at_:∀(j b n:Nat),ws[j]? =some (b,n)->∃cs tU t fz,vs[j]? =some cs/\W.heap[b]? =some (.cells tU t fz)/\∀(i:Nat) x,cs[i]? =some x->∃y,tU[i+n]? =some y/\VW ws x y
def Ix(c:Array eH)(a:dW)(d:dP):Prop:=∀(k:Nat) x,d[k]? =some x->∃j b,a=some ⟨j,0,none⟩/\c[j]? =some b/\b[k]? =some x
def Ix.mono{c b:Array eH}(h:Ix c a M)(k:Iw c b):Ix b a M:=λi x d=>by have⟨j,e,f,g,l⟩:=h i x d;exact⟨j,e,f,k _ _ g,l⟩
def Seen.none(W:cJ):Seen W #[] #[]:=⟨rfl,cL⟩
theorem Seen.add{d:kU}{s:Array eH}(h:Seen w d s)(m o:Nat)(v:FA d M Y) (K:∀r,a=some r->r.spot=.none/\(∃x,w.shape? r.block=some x)/\∀(i:Nat) y,Y[i]? =some y->w.cell? (r.add i)=some y)(L:a=.none->M=[]):∃p q z,Seen w p q/\Iw d p/\Iw s q/\VW p (.slice z m o) (.slice a m o)/\Ix q z M/\(z=.none->a=.none):=by
 cases a with
 |none=>
  obtain rfl:=L rfl;exact⟨d,s,.none,h,.refl _,.refl _,.nil _ _,λk x l=>by simp at l,cL⟩
 |some r=>
  have⟨b,f,G⟩:=r;obtain⟨rfl,⟨x,l⟩,N⟩:=K _ rfl;have⟨A,t,B,H⟩:∃A t B,w.heap[b]? =some (.cells A t B):=by simp only[World.shape?]at l;grind
  have C:=Iw.push d (b,f);have O:(d.push (b,f))[d.size]? =some (b,f):=dq;have I:(s.push M.toArray)[d.size]? =some M.toArray:=by simp[<-h.size]
  refine⟨d.push (b,f),s.push M.toArray,some ⟨d.size,0,.none⟩,⟨by simp[h.size],λj c n g=>?_⟩,C,Iw.push _ _,.slice m o O,λk x l=>⟨d.size,_,rfl,I,fB l⟩,cL⟩;rw[vO]at g;split at g;rename_i e;subst e;cases g;refine⟨M.toArray,A,t,B,I,H,λi x l=>?_⟩;have⟨y,J,D⟩:=v.get (i:=i) (x:=x) cL;have u:=N i y J;rw[iq]at u;simp only[World.cell?,H]at u;refine⟨y,?_,D.mono C⟩;grind;have⟨E,F,P,Q,J,D,u⟩:=h.at_ j c n g;refine⟨E,F,P,Q,cL,D,λi x l=>?_⟩;have⟨y,R,S⟩:=u i x l;exact⟨y,R,S.mono C⟩
def RE(b:Array eH)(w:cJ):Prop:=∀(j:Nat) a,b[j]? =some a->w.heap[j]? =some (.cells a uZ (0,a.size))
def Ix.cell{b:Array eH}(h:Ix b a M)(c:RE b w)(k:Nat)(d:M[k]? =some x):∃j,a=some ⟨j,0,.none⟩/\w.cell? ⟨j,k,.none⟩=some x:=by have⟨j,e,f,g,i⟩:=h k x d;exact⟨j,f,by simp only[World.cell?,c j e g];grind⟩
def Oe{k:Nat->Bool}(H:l.all (Wn l)=true)(m:f.all (okF f false k)=true){E:Func}{tm:Tmp}(I:V.prog.funcs[K]? =some E)(p:E.results=#[.tmp tm])(c:K≠163)(q:l.contains K=true)(s:f.contains K=true) (u:PR.inits.idxOf? K=none){ws:kU}{z:Array eH}(J:Seen w ws z){xs args:eH}(A:∀g:dO,g.r=ws.r->g.sh=ws.sh->fX g xs args)
 (L:∀B:cJ,RE z B->Calls V.prog K xs B (uF λv a=>v=.bool true/\Ext B a)):
 ∃N last o a F,runNT PR (N+1) (solo (G (Frame.enter PR K args .normal) []) w) #[]=(.ended o a,F)/\runN PR N (solo (G (Frame.enter PR K args .normal) []) w)=.next last/\Go.step PR last=.ended o a/\Go.Conc.Good PR (λx a=>x=.bool true/\Go.RowKit.Below w.heap.size w a) last o a F:=by
 refine RD (v:={w with heap:=z.map λd=>.cells d uZ (0,d.size)}) (ws:=ws) H m I p c q s u (λj b n C=>?_) A λT X=>?_;have⟨d,M,t,Y,Z,O,P⟩:=J.at_ j b n C;refine⟨.cells d uZ (0,d.size),_,cL,O,λg Q D=>⟨_,_,_,_,_,rfl,rfl,λo R=>⟨gh _,R⟩,λi x S=>?_⟩⟩;have⟨y,U,W⟩:=P i x S;exact⟨y,U,W.vr Q D⟩;refine(L _ λj d C=>?_).mono λe a h=>?_;simp[dw,C];obtain⟨v,rfl,rfl,_⟩|h:=h;exact .inl rfl;exact .inr h
end Go.Proofs.W
namespace Go.Proofs.YteeagjkaflglpaaGreat
open Go.ChangeShapes Go.WideShapes Go.ChangeAt Go.RowKit Go.Conc Go.Proofs.W Go.Deep
section
variable{H:Type}{enc:cR×cK->H}{w:cJ}{sp:Nat->Bool}{b0:Nat}
structure Given{α:Type}(w:cJ)(f:α->List cK)(a:Option Addr)(cap:Nat)(xs:List α):Prop where
 cap:xs.length<=cap
 len:xs.length<=9223372036854775807
 nil:a=none->xs=[]
 at_:∀ad,a=some ad->ad.spot=none/\(∃x,w.shape? ad.block=some x)/\∀(i:Nat) y,(xs.flatMap f)[i]? =some y->w.cell? (ad.add i)=some y
def tS{α:Type} [Inhabited α]{f:α->dP}{n:Nat}{t e:cR}(C:0<n)(q:∀x,(f x).length=n)(E:Tryz.prog.underlying t=some (.slice e))(M:Tryz.prog.cellsOf e=n) (r:∀{k:Nat} {s:dP} {x:DataW H×List MemPlace},DataW.trod enc Tryz.prog w 0 sp true k e s=some x->∃y,s=f y){v:cK}{o:Nat}{x:DataW H×List MemPlace}(u:Value.okWide Tryz.prog w .any b0 t v)(h:DataW.trod enc Tryz.prog w 0 sp true o t [v]=some x):∃a g F,v=.slice a F.length g/\Given w f a g F:=by
 obtain⟨d,_⟩|⟨a,b,g,m,k,D,W,d,_,N,O,z,_,P⟩:=open_slice E h;have d:=(List.cons.inj d).1;exact⟨none,0,[],d,⟨gh _,gh _,λ_=>rfl,λQ e=>by cases e⟩⟩;have d:=(List.cons.inj d).1;subst d;have⟨R,S⟩:=Me E u;have T:b<=m:=by rw[z];split<;>omega
 have⟨X,U⟩:=choose_lt (α:=α) (n:=b) (p:=λi y=>w.cells? 0 (a.add (i*n)) n=some (f y)) λi A=>by have⟨s,d,V⟩:=P i cM;obtain⟨y,rfl⟩:=r V;rw[M]at d;exact⟨y,d⟩
 have c:((List.range b).map X).length=b:=dq;refine⟨some a,g,(List.range b).map X,by rw[c],⟨by rw[c];exact N,by rw[c];simp only[maxLen]at O;omega,λe=>(by cases e),λQ e=>?_⟩⟩;cases e;refine⟨R,S,λi y G=>?_⟩;have A:=(nk.1 G).1;rw[Bq q,c]at A;have I:i/n<b:=(Nat.div_lt_iff_lt_mul C).2 A;have J:=Nat.mod_lt i C;have j:=Nat.div_add_mod i n;rw[Nat.mul_comm]at j;have⟨_,_,l⟩:=World.cells?_some (U (i/n) I);have K:=l (i%n) J;rw[add_add,j]at K;rw[K];have B:i%n<(f ((List.range b).map X)[i/n]).length:=by rw[q];exact J
 have L:=rW q ((List.range b).map X) (i/n) (by rw[c];exact I) (i%n) _ (ft B);rw[j,G]at L;rw[dT L];simp only[List.getElem_map,List.getElem_range];exact ft _
def BV{t:cR}{k:Nat}{a:dP}{x:DataW H×List MemPlace}(b:Tryz.prog.underlying t=some (.struct (Tryz.prog.fieldsOf t)))(h:DataW.trod enc Tryz.prog w 0 sp true k t a=some x){l:List (cR×Nat)}(e:(Tryz.prog.fieldsOf t).toList.map (λf=>(f.type,f.offset))=l)(i:Nat){u:cR}{o:Nat}(g:l[i]? =some (u,o)):
 ∃k y,DataW.trod enc Tryz.prog w 0 sp true k u ((a.drop o).take (Tryz.prog.cellsOf u))=some y:=by
 have⟨j,n,_,_,c,d,m⟩:=DataW.trod_struct b h;grind
def V7:Tryz.prog.cellsOf 4=1:=eE
def L8:Tryz.prog.cellsOf 84=3:=eE
def L9:Tryz.prog.cellsOf 81=3:=eE
def Ud:Tryz.prog.cellsOf 24=7:=eE
def Ue:Tryz.prog.cellsOf 22=1:=eE
def Ma:Tryz.prog.underlying 84=some (.struct (Tryz.prog.fieldsOf 84)):=eE
def Mb:Tryz.prog.underlying 81=some (.struct (Tryz.prog.fieldsOf 81)):=eE
def wW:Tryz.prog.underlying 24=some (.struct (Tryz.prog.fieldsOf 24)):=eE
def U2:Tryz.prog.underlying 22=some (.slice 81):=dq
def U3:Tryz.prog.underlying 25=some (.slice 84):=dq
def Km:(Tryz.prog.fieldsOf 84).toList.map (λf=>(f.type,f.offset))=[(3,0),(3,1),(4,2)]:=eE
def Ko:(Tryz.prog.fieldsOf 81).toList.map (λf=>(f.type,f.offset))=[(3,0),(3,1),(3,2)]:=eE
def vK:(Tryz.prog.fieldsOf 24).toList.map (λf=>(f.type,f.offset))=[(3,0),(3,1),(3,2),(3,3),(3,4),(3,5),(22,6)]:=eE
def pq{k i o:Nat}{t:cR}{a:dP}{x:DataW H×List MemPlace}(c:Tryz.prog.underlying t=some (.struct (Tryz.prog.fieldsOf t)))(h:DataW.trod enc Tryz.prog w 0 sp true k t a=some x){l:List (cR×Nat)}(d:(Tryz.prog.fieldsOf t).toList.map (λf=>(f.type,f.offset))=l)(e:l[i]? =some (3,o)):∃n,a[o]? =some (.int .i64 n):=by have⟨k,y,g⟩:=BV c h d i e;have⟨n,b,_⟩:=DataW.trod_int Tryz.Md g;rw[Tryz.OC]at b;refine⟨n,?_⟩;have j:=dH (λl:dP=>l[0]?) b;simpa using j
def Kp{t:cR}{k:Nat}{a:dP}{x:DataW H×List MemPlace}(b:Tryz.prog.underlying t=some (.struct (Tryz.prog.fieldsOf t)))(h:DataW.trod enc Tryz.prog w 0 sp true k t a=some x):a.length=Tryz.prog.cellsOf t:=by have⟨d,n,_,_,c,_⟩:=DataW.trod_struct b h;grind
def RF{k:Nat}{d:dP}{x:DataW H×List MemPlace}(h:DataW.trod enc Tryz.prog w 0 sp true k 84 d=some x):∃q:Tq,d=uP q:=by
 have⟨a,g⟩:=pq Ma h Km (i:=0) rfl;have⟨b,j⟩:=pq Ma h Km (i:=1) rfl;have⟨m,y,l⟩:=BV Ma h Km 2 rfl;have⟨c,e,_⟩:=DataW.trod_bool Tryz.Wr l;have f:=Kp Ma h;rw[L8]at f;rw[V7]at e;match d,f with
 |[u,v,z],_=>
  simp at g j e;exact⟨⟨a,b,c⟩,by grind [uP]⟩
def Of{k:Nat}{d:dP}{x:DataW H×List MemPlace}(h:DataW.trod enc Tryz.prog w 0 sp true k 81 d=some x):∃q:Dr,d=dL q:=by
 have⟨a,f⟩:=pq Mb h Ko (i:=0) rfl;have⟨b,g⟩:=pq Mb h Ko (i:=1) rfl;have⟨c,j⟩:=pq Mb h Ko (i:=2) rfl;have e:=Kp Mb h;rw[L9]at e;match d,e with
 |[u,v,z],_=>
  simp at f g j;exact⟨⟨a,b,c⟩,by grind [dL]⟩
instance:Inhabited Tq:=⟨⟨0,0,false⟩⟩
instance:Inhabited Dr:=⟨⟨0,0,0⟩⟩
def Kq{v:cK}{d:DataW H}{p:List MemPlace}(c:Value.okWide Tryz.prog w .any b0 27 v)(h:DataW.Trod enc Tryz.prog w 0 sp true 27 v d p):∃a b e,v=.slice a e.length b/\Given w iL a b e:=by obtain⟨a,g,b,rfl⟩:=okWide_slice Tryz.yh c;have⟨k,h⟩:=h;exact tS (f:=iL) (n:=1) cL (λ_=>rfl) Tryz.yh Tryz.OC (λh=>by have⟨n,i,_⟩:=DataW.trod_int Tryz.Md h;exact⟨n,i⟩) c h
def Og{v:cK}{d:DataW H}{p:List MemPlace}(c:Value.okWide Tryz.prog w .any b0 25 v)(h:DataW.Trod enc Tryz.prog w 0 sp true 25 v d p):∃a b e,v=.slice a e.length b/\Given w uP a b e:=by obtain⟨a,g,b,rfl⟩:=okWide_slice U3 c;have⟨k,h⟩:=h;exact tS (f:=uP) (n:=3) cL (λ_=>rfl) U3 L8 RF c h
def DK{v:cK}(a:Value.okWide Tryz.prog w .any b0 3 v):∃n,v=.int .i64 n:=okWide_int Tryz.Md a
def Uf:Tryz.prog.cellTypes Tryz.prog.depth 24=some [3,3,3,3,3,3,22]:=eE
def Fw{v:cK}{d:DataW H}{p:List MemPlace}(c:Value.okWide Tryz.prog w .any b0 24 v)(h:DataW.Trod enc Tryz.prog w 0 sp true 24 v d p):∃G a b,v=gV G a b/\Given w dL a b G.doors:=by
 simp only[Value.okWide,wW]at c;obtain⟨l,rfl,B,N,e,_,g⟩:=c;rw[Uf]at e;cases e;have⟨k,h⟩:=h;have h:DataW.trod enc Tryz.prog w 0 sp true k 24 l.toList=some (d,p):=h;have⟨C,o⟩:=pq wW h vK (i:=0) rfl;have⟨D,q⟩:=pq wW h vK (i:=1) rfl;have⟨E,r⟩:=pq wW h vK (i:=2) rfl;have⟨F,s⟩:=pq wW h vK (i:=3) rfl;have⟨I,t⟩:=pq wW h vK (i:=4) rfl;have⟨J,x⟩:=pq wW h vK (i:=5) rfl;have⟨O,y,m⟩:=BV wW h vK 6 rfl;rw[Ue]at m;have z:=Kp wW h;rw[Ud]at z;have⟨l⟩:=l;match l,z with
 |[P,Q,R,S,T,U,A],_=>
  simp at o q r s t x m;subst o q r s t x;have⟨u,K,V⟩:=g 6 A rfl;cases K;have j:Value.okWide Tryz.prog w .any b0 22 A:=by simp only[Value.okWide,U2];grind
  obtain⟨a,b,L,rfl,M⟩:=tS (f:=dL) (n:=3) cL (λ_=>rfl) U2 L9 Of j m;exact⟨⟨C,D,E,F,I,J,L⟩,a,b,rfl,M⟩
end
def Given.seen{m:Type}{f:m->dP}{W:cJ}{g:Nat}{i:List m}(h:Given W f a g i){o:kU}{p:Array eH}(q:Seen W o p)(r:∀x,∀u∈f x,(∃k n,u=.int k n)\/∃b,u=.bool b):∃c d j,Seen W c d/\Iw o c/\Iw p d/\VW c (.slice j i.length g) (.slice a i.length g)/\Ix d j (i.flatMap f)/\(j=none->i.length=0):=by have⟨c,d,j,s,t,v,w,y,z⟩:=q.add (a:=a) i.iw g (FA.self (l:=i.flatMap f) λu A=>by have⟨x,_,B⟩:=me.1 A;obtain⟨k,n,rfl⟩|⟨b,rfl⟩:=r x u B;exact .int _ _;exact .bool _) h.at_ (λe=>by rw[h.nil e];rfl);exact⟨c,d,j,s,t,v,w,y,λe=>by rw[h.nil (z e)];rfl⟩
def BW{c:Type}{f:c->dP}{n:Nat}(q:0<n)(d:∀x,(f x).length=n){g:Array eH}{w:cJ}{b:List c}(h:Ix g a (b.flatMap f))(l:RE g w):lS f n w a b:=λk m=>by have o:0<(f b[k]).length:=cL;have⟨j,e,_⟩:=h.cell l (k*n+0) (rW d b k m 0 _ (ft o));refine⟨j,0,e,λi v p=>?_⟩;have⟨r,s,t⟩:=h.cell l (k*n+i) (rW d b k m i v p);grind
def Xw{w:cJ}{l:List Dr}(h:lS dL 3 w a l):gZ w a l:=λk d=>by have⟨b,o,e,c⟩:=h k d;exact⟨b,o,e,c 0 _ rfl,c 1 _ rfl,c 2 _ rfl⟩
def Xx{w:cJ}{l:eY}(h:lS iL 1 w a l):iF w a l:=λk c=>by have⟨b,o,e,d⟩:=h k c;have:=d 0 _ rfl;grind
def Ug(x:Dr):∀u∈dL x,(∃k n,u=.int k n)\/∃b,u=.bool b:=λu a=>by simp only[dL,fi,pA,mh]at a;grind
def Uh(x:Int):∀u∈iL x,(∃k n,u=.int k n)\/∃b,u=.bool b:=λu a=>by simp only[iL,fi,pA,mh]at a;grind
def RG(x:Tq):∀u∈uP x,(∃k n,u=.int k n)\/∃b,u=.bool b:=λu a=>by simp only[uP,fi,pA,mh]at a;grind
def Xy{c:kU}{d:dW}{b:Nat}(h:VW c (.slice d N.doors.length b) (.slice a N.doors.length b)){e:Go.dA.dO}(f:e.r=c.r)(g:e.sh=c.sh):Go.dA.VR e (gV N d b) (gV N a b):=
 Go.dA.fX.agg (FA.vrs (l:=gL N d b) (m:=gL N a b) (.cons (.int _ _) (.cons (.int _ _) (.cons (.int _ _) (.cons (.int _ _) (.cons (.int _ _) (.cons (.int _ _) (.cons h .nil))))))) f g)
end Go.Proofs.YteeagjkaflglpaaGreat
namespace Go.Proofs.W
open Go.Conc Go.dA Go.RowKit
def YM(f:Nat):Bool:=f==190||f==163
end Go.Proofs.W
namespace Go.Proofs.W
def Mc:cN:=[13,25,26,27,28,29,30,31,34,35,36,37,38,40,41,42,44,48,49,53,55,58,59,62,63,64,69,71,74,75,76,81,88,93,95,96,97,98,99,100,101,102,104,105,106,107,108,109,110,113,114,115,116,117,119,120,121,122,123,125,126,127,128,129,130,131,133,134,135,137,138,139,140,141,142,143,144,145,146,148,150,151,152,153,154,155,156,157,158,159,160,161,162,163,164,165,166,167,168,169,170,171,172,173,174,175,176,177,178,179,180,181,182,183,184,185,186,195,196,197,198,199,200,201,222,231]
def Iy:cN:=[13,25,26,27,28,29,30,31,34,35,36,37,38,40,41,42,44,48,49,53,55,58,59,62,63,64,69,71,74,75,76,81,88,93,95,96,97,98,99,100,101,102,104,105,106,107,108,109,110,113,114,115,116,117,119,120,121,122,123,125,126,127,128,129,130,131,133,134,135,137,138,139,140,141,142,143,144,145,146,148,150,151,152,153,154,155,156,157,158,159,160,161,162,163,164,165,166,167,168,169,170,171,172,173,174,175,176,177,178,179,180,181,182,183,184,185,186,190,194,195,196,197,198,199,200,201,215,216,222,227,228,229,231]
def Oh:Mc.all (Wn Mc)=true:=eE
def Kr:Iy.all (okF Iy false YM)=true:=eE
end Go.Proofs.W
namespace Go.Proofs.YteeagjkaflglpaaGreat
open Go.ChangeShapes Go.WideShapes Go.ChangeAt Go.RowKit Go.Conc Go.Proofs.W
def Oi{H:Type}{a:cR×cK->H}(m:laidOutB P=true)(n:Go.RowKit.Below w.heap.size w t){c:List cR}(j:(c.all λk=>P.readableRec k&&decide (k<P.types.size))=true):∀{e:dP} {f:List (DataW H)} {g:List MemPlace},DataW.TrodAll a P w 0 (λ_=>true) true c e f g->(∀x∈g,x.block<w.heap.size)->
 DataW.TrodAll a P t 0 (λb=>decide (b<w.heap.size)) true c e f g:=by
 induction c with
 |nil=>
  intro e f g h _;obtain⟨rfl,rfl,rfl⟩:=trodAll_nil h;exact trodAll_mk0
 |cons k c o=>
  intro e f g h i;obtain⟨v,e,d,f,p,q,rfl,rfl,rfl,r,s⟩:=trodAll_cons h;simp only[List.all_cons,eW,kM]at j;exact⟨_,_,(Below.trod m j.1.1 j.1.2 r n λx l=>i x (List.mem_append_left _ l)),(o (fB j.2) s λx l=>i x (List.mem_append_right _ l)),rfl⟩
def Cm(O:Os)(e:O.Started)(H:Type)(enc:cR×cK->H):ReturnsInLeavingWide {} Tryz.checked O 13 .any (Rows.roundBeginsSpec.pre6 enc Tryz.prog Tryz.f13 Rows.roundBeginsRow.domain false) (Rows.roundBeginsSpec.post enc Tryz.prog Tryz.f13 false true false false):=by
 refine returnsInLeavingWide_of_change_sized (C:=Tryz.checked) Tryz.own e Tryz.func13 (ChangeSpec.witness6 (enc:=enc) (C:=Tryz.checked) false ⟨#[],#[.agg #[i64 0,i64 0,i64 0,i64 0,i64 0,i64 0,fo],fo,i64 0,i64 0,fo],[]⟩ 8 eE eE eE eE) ?_;intro g u args P gs z i Q _ _ _;have c:∀(j:Nat) t v,Tryz.f13.params[j]? =some t->args[j]? =some v->Value.okWide Tryz.prog g .any u t v:=i;have k:=Q;obtain⟨p,q,A,hV,rfl,_,_⟩:=Q;have R:DataW.TrodAll enc Tryz.prog g 0 (λ_=>true) true Tryz.f13.params.toList args.toList P p:=A;have y:Tryz.f13.params=#[24,25,3,3,27]:=eE;obtain⟨rfl,rfl⟩:=trodVars_none hV;simp only[List.append_nil]at k;have B:∀x∈p,x.block<g.lG:=λx hx=>fB (k.lt x hx)
 have m:∀(r:cJ),Go.RowKit.Below g.lG g r->DataW.TrodAll enc Tryz.prog r 0 (λb=>decide (b<g.lG)) true Tryz.f13.params.toList args.toList P p:=
  λr hn=>Oi Tryz.laidOut hn eE R B
 have a:=R;rw[y]at a c;obtain⟨S,l,d0,k0,p0,q,e0,rfl,_,h0,a⟩:=trodAll_cons a;obtain⟨T,l,d1,k1,p1,q,rfl,rfl,_,h1,a⟩:=trodAll_cons a;obtain⟨U,l,d2,k2,p2,q,rfl,rfl,_,h2,a⟩:=trodAll_cons a;obtain⟨W,l,d3,k3,p3,q,rfl,rfl,_,h3,a⟩:=trodAll_cons a;obtain⟨X,l,d4,k4,p4,q,rfl,rfl,_,h4,a⟩:=trodAll_cons a;obtain⟨rfl,rfl,_⟩:=trodAll_nil a;have ea:args=#[S,T,U,W,X]:=by cases args;simp_all
 subst ea;obtain⟨G,da,Y,rfl,Z⟩:=Fw (c 0 24 S rfl rfl) h0;obtain⟨la,lc,l,rfl,D⟩:=Og (c 1 25 T rfl rfl) h1;obtain⟨s,rfl⟩:=DK (c 2 3 U rfl rfl);obtain⟨E,rfl⟩:=DK (c 3 3 W rfl rfl);obtain⟨na,nc,ns,rfl,g6⟩:=Kq (c 4 27 X rfl rfl) h4;have⟨aa,ab,F,S0,_,_,W0,R0,N0⟩:=Z.seen (Seen.none g) Ug;have⟨ac,ad,I,S1,P1,Q1,W1,R1,N1⟩:=D.seen S0 RG;have⟨ae,af,J,S6,P6,Q6,W6,R6,N6⟩:=g6.seen S1 Uh;have⟨M,last,o,w',t',r1,r2,r3,r4⟩:=Oe Oh Kr (V.fn Tryz.func13 kg) (tm:=10) eE kg kg kg eE S6 (xs:=#[gV G F Y,.slice I l.iw lc,i64 s,i64 E,.slice J ns.iw nc]) (args:=#[gV G da Y,.slice la l.iw lc,i64 s,i64 E,.slice na ns.iw nc])
  (λρ K L=>Go.dA.fX.mj (.cons (Xy (W0.mono (P1.trans P6)) K L) (.cons ((W1.mono P6).vr K L) (.cons (.int _ _) (.cons (.int _ _) (.cons (W6.vr K L) .nil))))))
  (λw N=>Ck (Xw (BW (f:=dL) (n:=3) kg (λ_=>rfl) (R0.mono (Q1.trans Q6)) N)) Z.len (BW (f:=uP) (n:=3) kg (λ_=>rfl) (R1.mono Q6) N) D.len D.cap N1 s E
   (Xx (BW (f:=iL) (n:=1) kg (λ_=>rfl) R6 N)) g6.len)
 refine⟨M,last,o,w',t',r1,r2,r3,r4.mono λv hF=>?_⟩;obtain⟨rfl,d⟩:=hF;exact⟨_,_,_,[],p,[],k,trodAll_mk1 (Go.RowKit.shut_bool Tryz.Wr true),m _ d,rfl,d.frame _,λh=>by cases h⟩
def Oj:Tryz.pinned.checked.prog.funcNamed Rows.roundBeginsRow.func=some 13:=eE
def RH:Tryz.f13.isInstance Tryz.pinned.checked.prog Rows.roundBeginsRow.origin Rows.roundBeginsRow.targs:=fx eE
def RI:Tryz.f13.isWrapper Tryz.pinned.checked.prog Rows.roundBeginsRow.wrapper Rows.roundBeginsRow.mainSum:=by unfold Func.isWrapper;first|(rw[cV (by decide+kernel)];kernel_rfl)|(rw[cS (by decide+kernel)];exact⟨rfl,rfl⟩)
def roundBegins_holds:Rows.RoundBeginsSaid:=
 OpenClaim.holds_of_wide_leaving 13 Tryz.f13 rfl rfl rfl rfl rfl rfl rfl ⟨rfl,rfl,rfl,rfl,rfl⟩ rfl rfl rfl rfl rfl Oj Tryz.func13 IG RH RI (λc a H b _=>Cm c a H b)
#print axioms roundBegins_holds
end Go.Proofs.YteeagjkaflglpaaGreat
