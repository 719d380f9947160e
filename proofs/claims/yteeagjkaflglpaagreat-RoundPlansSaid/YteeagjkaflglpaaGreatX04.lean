/- Laws that the proof needs, part 4. Conditions: none. -/
import Derived.Test.YteeagjkaflglpaaGreatX03
set_option maxRecDepth 100000
set_option maxHeartbeats 8000000
set_option linter.all false
variable{m k i j o p s d:Nat}{w t e:cI}{x y z:cJ}{A B C:Nat->Prop}{R:Go.dz.dO}{l f:List Nat}{T U:cQ}{a:Option Go.Addr}{H N:Go.Proofs.W.Gd}{W X:Array cJ}{M Y:List cJ}{I J:Int}{h:Go.Addr}{D E:Bool}{F:Go.Frame}{O Q:Go.Obj}{K:dY}{Z:cP}{S:cI->Prop}{P:cU}
namespace Go.Proofs.W
open Go.RowKit
theorem G9.cells{w:cI}{a:dV}{l:cM}(h:G9 w a l):iR w a (Ik l):=by
 obtain _|⟨x,r⟩:=l;exact .inl rfl;obtain⟨b,o,rfl,_⟩:=h 0 dt;refine .inr ⟨b,o,rfl,λj u d=>?_⟩;have c:j<(x::r).iN:=by simpa[Ik]using(kX.1 d).1
 have⟨f,g,e,i⟩:=h j c;obtain⟨rfl,rfl⟩:b=f/\o=g:=cK;grind [List.getElem?_eq_getElem,Ik]
def AP{b:cM}{c:Nat}(h:G9 w a b)(i:a=none->b=[])(d:b.length<=1000000):Calls V.prog 199 #[.slice a b.length c] w (fM λv f=>Ext w f/\cZ w.heap.size 154 [.int .u8 0] f v b.length (Ik b)):=
 PK a b.iN c (Ik b) w (by simp[Ik]) (λe=>cK) h.cells (λu g=>by obtain⟨n,_,rfl⟩:=kF.1 g;rfl) d
def uR(n1:Nat)(w:cI)(a:dV)(c:cM):Prop:=∀k (h:k<c.length),∃b o,n1<=b/\a=some ⟨b,o,none⟩/\w.cell? ⟨b,o+k,none⟩=some (.int .u8 c[k])
def uR.g{n1:Nat}{c:cM}(h:uR n1 w a c):G9 w a c:=λk d=>by have⟨b,o,_,e,f⟩:=h k d;grind
def uR.low{n1 c:Nat}{d:cM}(h:uR n1 w a d)(f:c<=n1):uR c w a d:=λk e=>by have⟨b,o,g,i,j⟩:=h k e;grind
def uR.iF{n1 n0:Nat}{c:cM}(h:uR n1 w a c)(e:jH n0 w t):uR n1 t a c:=λk d=>by have⟨b,o,f,g,i⟩:=h k d;exact⟨b,o,f,g,e.cell i⟩
def xF.X7{d:Nat}{b:cM}(h:xF d w x b):∃a c,x=.slice a b.length c/\b.length<=c/\uR d w a b:=by obtain⟨rfl,rfl⟩|⟨e,c,m,f,g,i,j,n,o,p⟩:=h;exact⟨none,0,rfl,dg _,λk l=>cK⟩;exact⟨_,c,f,g,λk l=>⟨e,0,i,rfl,cN j cK⟩⟩
def cZ.low{n0 n1:Nat}{a:Nat}(h:cZ n0 T M w x a Y)(g:n1<=n0):cZ n1 T M w x a Y:=by obtain⟨d,h|⟨b,c,e,i,f⟩⟩:=h;exact⟨d,.inl h⟩;exact⟨d,.inr ⟨b,c,e,cL,f⟩⟩
def zh(n1:Nat)(o:Option cM)(v:cJ)(w:cI):Prop:=match o with
 |some b=>∃a c,v=.tuple #[.slice a b.length c,.bool true]/\uR n1 w a b
 |none=>v=.tuple #[.slice none 0 0,.bool false]
theorem zh.iF{o:Option cM}{n0 n1:Nat}(h:zh n1 o x w)(e:jH n0 w t):zh n1 o x t:=by
 cases o with
 |none=>exact h
 |some b=>
  have⟨a,c,d,f⟩:=h;exact⟨a,c,d,f.iF e⟩
structure MX(n0 n1 mk ms:Nat)(G:Gd)(A:Nat->Prop)(a b:cI):Prop where
 os:b.os=a.os
 tape:b.tape=a.tape
 output:b.output=a.output
 size:a.heap.size<=b.heap.size
 drawn:a.drawn<=b.drawn
 block:∀x o,x<n1->a.heap[x]? =some o->(x<n0\/Vp o=false)->b.heap[x]? =some o
 m:mg A mk ms G a->mg A mk ms G b
section
variable{n0 n1 mk ms:Nat}{G:Gd}{A:Nat->Prop}
def X8(n0 n1 mk ms:Nat)(G:Gd)(A:dn):gJ (MX n0 n1 mk ms G A):=
 ⟨λw=>⟨rfl,rfl,rfl,dg _,dg _,λ_ _ _ h _=>h,id⟩,λa b c h k=>⟨k.os.trans h.os,k.tape.trans h.tape,k.output.trans h.output,dw h.size k.size,dw h.drawn k.drawn,λx o e g f=>k.block x o e (h.block x o e g f) f,λd=>k.m (h.m d)⟩,λw=>⟨rfl,rfl,rfl,dg _,mN _,λ_ _ _ h _=>h,λd=>d.ext (Ext.drew w)⟩⟩
def MA.mx(h:MA n0 mk ms G A w t):MX n0 n1 mk ms G A w t:=⟨h.1.os,h.1.tape,h.1.output,h.1.size,h.1.drawn,λx o _ a b=>h.1.block x o a b,h.2⟩
def MX.iF(h:MX n0 n1 mk ms G A w t)(c:w.heap.size<=n1):jH n0 w t:=⟨h.os,h.tape,h.output,h.size,h.drawn,λx o a b=>h.block x o cK a b⟩
end
theorem xG{gp mk ms n0 most:Nat}{G:Gd}(h:qE gp mk ms G w)(hn:n0<=ms):∀(doors g:cM) (A:dn) (O:dV) (H:Nat) (gv:cJ) (E:cI),jH n0 w E->(∀b,A b->b<E.heap.size)->mg A mk ms G E->fN w O doors->doors.length<=H->(∀d∈doors,d<G.doors.length)->xF w.heap.size E gv g->(∀s∈g,ko G s)->doors.length+g.length<=100->
 Calls V.prog 175 #[di gp,.slice O doors.length H,gv,.int .i64 most] E (fM λv w'=>MA n0 mk ms G A E w'/\zh E.heap.size (fB G most doors g) v w')
 |[],g,A,O,H,gv,E,hm,hA,hp,hd,P,Z,hg,ak,al=>by obtain⟨a,c,rfl,hc,am,Q⟩:=hg.row;refine jb Tryz.func175 Tryz.ntmps175 ?_;refine dm (fc (jX rfl (cX (AP am Q cK) λv w1 hv=>?_)));have⟨e1,M⟩:=hv;obtain⟨a1,c1,rfl,_,I⟩:=(EB M).X7;exact⟨_,rfl,e1.ma _ _ _ _ _,a1,c1,rfl,I⟩
 |d::r,g,A,O,H,gv,E,hm,hA,hp,hd,P,Z,hg,ak,al=>by
  have h5:=h.vN.many;have aL:d<G.doors.length:=Z d fF;have⟨db,an,aM,B⟩:=hd 0 dt;have B:w.cell? (dq db (an+0))=some (i64 d):=B;have⟨ga,gc,ao,a4,_,_⟩:=hg.row;have a5:g.length<=100:=cL;let f:Nat->Option cM:=λi=>if l8 G (ot (g.getD i 0) d)then fB G most r (g.set i (ot (g.getD i 0) d))else none
  have ae:fB G most (d::r) g=match(List.range g.length).findSome? f with
   |some R=>some R
   |none=>if g.length<most/\l8 G (eo [d])=true then fB G most r (g++[eo [d]])else none:=rfl
  refine jb Tryz.func175 Tryz.ntmps175 ?_;rw[ao];refine dm (fc (lh cK ?_));refine dm (ft (n:=g.length) (λk=>[(0,di gp),(1,.slice O (d::r).length H),(2,.slice ga g.length gc),(3,i64 most),(19,.slice ga g.length gc),(20,i64 g.length),(21,i64 k)]) (λk w'=>MA n0 mk ms G A E w'/\xF w.heap.size w' (.slice ga g.length gc) g/\∀i,i<k->f i=none) ⟨by trivial,(zg _ _ _ _ _).refl E,ao▸hg,λi hi=>cL⟩ ?_ ?_ ?_);rintro k w' X hJ;exact dK ⟨rfl,rfl,by trivial,hJ⟩;rintro k w1 X ⟨C,af,hf⟩;have M1:=hm.trans C.1;obtain⟨Q,_⟩|⟨F,c,N,ag,ap,aa,aq,S,ar,au⟩:=af;rw[Q]at X;simp at X;injection ag with ag _ av;subst ag;subst av;have ah:=ak _ (eB X);have aw:=ah.ot aL h5;have a6:g.getD k 0=g[k]:=getD_eq X;subst aM;have ac:=M1.cell B;refine eX k X (cO (cN aq cK) (eX 0 dt (cO ac (dH (zy _ _ _ ah.1 cL) (cX (Ez (h.iF M1) (λb q=>ep (hA b q) C.1.size) (C.2 hp) hn aw.1 aw.2) ?_)))));rintro v t ⟨rfl,D⟩;have K:=D.1.at_ aq;refine eC ⟨λq=>?_,λq=>?_⟩;have q:l8 G (ot g[k] d)=false:=cK;refine cW ⟨by trivial,(zg _ _ _ _ _).trans _ _ _ C D,.inr ⟨F,gc,N,rfl,ap,aa,K,S,ar,au⟩,λi hi=>?_⟩;grind;have q:l8 G (ot g[k] d)=true:=cK;have ai:f k=fB G most r (g.set k (ot g[k] d)):=cK;have ax:=D.1.cell ac;have a3:(N.setIfInBounds k (.int .u8 (ot g[k] d:Nat))).setIfInBounds k (.int .u8 (g[k]:Nat))=N:=by apply Ob;intro j;by_cases hj:k=j;grind;grind
  refine eX 0 dt (cO ax (dH (zy _ _ _ ah.1 cL) (eX k X (jp K (by simp[Value.cells];omega) (λp k3 T=>?_) (gK rfl)))));have T:p.heap[F]? =some (.cells (N.setIfInBounds k (.int .u8 (ot g[k] d:Nat))) 154):=by rw[T];simp[ir,Value.cells]
  have aN:PU (N.setIfInBounds k (.int .u8 (ot g[k] d:Nat))):=λj v hj=>by by_cases e:k=j;grind;rw[fZ e]at hj;exact S j v hj
  have M3:jH n0 w p:=(M1.trans D.1).cS k3 aa;have aO:mg (λx=>A x\/x=F) mk ms G p:=((D.2 (C.2 hp)).sets K S).keep k3 λb q=>.inr q;have aP:=dz.lt_of_heap T;have aQ:xF w.heap.size p (fa F g.length gc) (g.set k (ot g[k] d)):=by refine .inr ⟨F,gc,_,cK,cK,aa,T,aN,cK,λj hj=>?_⟩;by_cases e:k=j;grind;grind
  have sA:∀b,(A b\/b=F)->b<p.heap.size:=λb q=>q.elim (λh=>by have:=hA b h;have:=C.1.size;have:=D.1.size;have:=k3.size;omega) λe=>e▸aP;refine La dt P (cX (xG h hn r (g.set k (ot g[k] d)) (λx=>A x\/x=F) (tailA (pt db an) H) (H-1) (fa F g.length gc) p M3 sA aO (hd.tail P) cK (λx hx=>Z x (ii _ hx)) aQ (λs hs=>?_) cK) ?_);grind;rintro v w4 ⟨m4,y⟩;have ay:=m4.1.at_ T;have back:∀{w5:cI},dA (λx=>x=F) w4 w5->w5.heap[F]? =some (.cells N 154)->MA n0 mk ms G A E w5:=λk5 J=>by refine⟨C.1.trans (jH.patch D.1 k3 m4.1 k5 λo L=>?_),λhp=>?_⟩;grind;exact((m4.2 (((D.2 (C.2 hp)).sets K S).keep k3 λb q=>.inr q)).keep k5 λb q=>.inr q).fewer λb q=>.inl q
  cases L:fB G most r (g.set k (ot g[k] d))with
  |some R=>
   rw[L]at y ai;obtain⟨oa,oc,rfl,aR⟩:=y;refine eX k X (jp ay (by simp[Value.cells];omega) (λw5 k5 J=>jX rfl ?_) (gK rfl));have J:w5.heap[F]? =some (.cells N 154):=by grind [ir,ot,Value.cells]
   refine⟨_,rfl,back k5 J,?_⟩;rw[ae,l9 X hf ai];refine⟨oa,oc,rfl,λj hj=>?_⟩;have⟨b,o,x0,x1,x2⟩:=aR j hj;have y1:=C.1.size;have y2:=D.1.size;have y3:=k3.size;exact⟨b,o,cL,x1,k5.fq x2 cK⟩
  |none=>
   rw[L]at y ai;have y:v=.tuple #[fl,.bool false]:=y;subst y;refine eX k X (jp ay (by simp[Value.cells];omega) (λw5 k5 J=>lh rfl ?_) (gK rfl));have J:w5.heap[F]? =some (.cells N 154):=by grind [ir,ot,Value.cells]
   refine cW ⟨by trivial,back k5 J,.inr ⟨F,gc,N,rfl,ap,aa,J,S,ar,au⟩,λi hi=>?_⟩;grind
  rintro w1 ⟨C,af,hf⟩;have M1:=hm.trans C.1;have az:=C.2 hp;have aA:fB G most (d::r) g=if g.length<most/\l8 G (eo [d])=true then fB G most r (g++[eo [d]])else none:=cK
  have no:∀t,MA n0 mk ms G A E t->¬(g.length<most/\l8 G (eo [d])=true)->∃v,Ending.returned (one [fl,.bool false])=.returned v/\MA n0 mk ms G A E t/\zh E.heap.size (fB G most (d::r) g) v t:=λt m aS=>⟨_,rfl,m,by rw[aA,cR aS];rfl⟩;have ad:=ko.eo (G:=G) h5 (l:=[d]) λx hx=>cK;have a7:1<=H:=cK;have I:∀{t},jH n0 w t->fN t O [d]:=λm=>(hd.iF m).cut 1;have U:∀{t},jH n0 w t->Calls V.prog 122 #[.slice O 1 H] t (fM λv w'=>v=.int .u8 (eo [d])/\w'=t):=λm=>uo [d] O H _ (I m) (λx hx=>cK) dt;refine dm (dK ⟨λaB=>?_,λa8=>lh rfl (no w1 C λhx=>?_)⟩);have aB:g.length<most:=cK;refine pM 1 cL (dH (U M1) (cX (Ez (h.iF M1) (λb q=>ep (hA b q) C.1.size) az hn ad.1 ad.2) ?_));rintro v t ⟨rfl,D⟩;refine⟨λhs=>?_,λhs=>no t ((zg _ _ _ _ _).trans _ _ _ C D) λhx=>cK⟩;have M2:=M1.trans D.1;have aT:=D.2 az;have aU:=af.iF D.1;have⟨_,_,aC,_,aD,aE⟩:=aU.row;injection aC with e1 _ e2;subst e1;subst e2;have hE:=zg n0 mk ms G A;refine gZ 9 hE (X8 n0 t.heap.size mk ms G A) (λa b h=>h.mx) ?_;have aF:∀{p},MX n0 t.heap.size mk ms G A t p->jH n0 w p:=λe=>M2.trans (e.iF (dg _));refine .exact (.slice (tailA O H) r.length (H-1)) (λp z=>La dt P ⟨rfl,hE.refl _⟩)<| .Mr (λv p=>cZ t.heap.size 154 [.int .u8 0] p v g.length (Ik g)) (λv a b M e=>M.iF e.1) (λp z=>cX (AP (aD.iF (z.iF (dg _))) aE cL) λv w4 ⟨e4,M⟩=>⟨M.low z.size,e4.ma _ _ _ _ _⟩)<| .exact (.slice O 1 H) (λp z=>pM 1 cL ⟨rfl,hE.refl _⟩)<| .exact (.int .u8 (eo [d])) (λp z _ _=>dH (U (aF z)) ⟨rfl,hE.refl _⟩)<| .Mr (λv p=>∃Y,v=fa Y 1 1/\p.heap[Y]? =some (.cells [Value.int .u8 (eo [d]:Nat)].toArray 154)) (λv a b ⟨Y,h1,h2⟩ e=>⟨Y,h1,e.1.at_ h2⟩) (λp z=>er [Value.int .u8 (eo [d]:Nat)] 154 λw4 Y e4 aG q=>⟨⟨Y,rfl,q⟩,e4.ma _ _ _ _ _⟩) ?_;refine .spec (λv p=>cZ t.heap.size 154 [.int .u8 0] p v (g.length+1) (Ik g++[.int .u8 (eo [d]:Nat)])) (λv a b M e=>M.iF e.1) (λp z aV aW aX W=>?_) ?_;obtain⟨Y,rfl,aG⟩:∃Y,aV=fa Y 1 1/\p.heap[Y]? =some (.cells [Value.int .u8 (eo [d]:Nat)].toArray 154):=aW;have W:cZ t.heap.size 154 [.int .u8 0] p aX g.length (Ik g):=W;refine gR PG W z.1.size aG cL λv' w4 g1 g2 g3=>⟨g1,g2.os,g2.tape,g2.output,g2.size,g2.drawn,λx o hx L hm=>g2.fL L λq=>?_,λaH=>?_⟩;have:=(W.blk q).1;omega;obtain⟨_,rfl⟩|⟨F,c,N,rfl,_,_,z1,z2,_⟩:=EB W;exact aH.keep g2 λb q=>by have⟨_,_,q⟩:=q;grind
  refine((aH.sets z1 z2).keep g2 λb q=>.inr ?_).fewer λb q=>.inl q;have⟨_,_,q⟩:=q;grind;refine .late rfl (λv p=>zh t.heap.size (fB G most r (g++[eo [d]])) v p) (λv a b M e=>M.iF e.1) (λp z ab aI=>?_) ?_;have aI:cZ t.heap.size 154 [.int .u8 0] p ab (g.length+1) (Ik g++[.int .u8 (eo [d]:Nat)]):=aI;have aY:(g++[eo [d]]).length=g.length+1:=dt;have aZ:xF t.heap.size p ab (g++[eo [d]]):=EB (by grind [Ik]);have sA:∀b,A b->b<p.heap.size:=λb q=>by have:=hA b q;have:=C.1.size;have:=D.1.size;have:=z.size;omega
  have aJ:xF w.heap.size p ab (g++[eo [d]]):=by obtain h|⟨F,c,N,x1,x2,x3,x4⟩:=aZ;grind;exact .inr ⟨F,c,N,x1,x2,iD M2.size,x4⟩
  refine cX (xG h hn r (g++[eo [d]]) A (tailA O H) (H-1) ab p (aF z) sA (z.m aT) (hd.tail P) cK (λx hx=>Z x (ii _ hx)) aJ (λs hs=>?_) cK) λv w4 ⟨m4,y⟩=>⟨?_,m4⟩;grind;cases L:fB G most r (g++[eo [d]])with
  |none=>rw[L]at y;exact y
  |some R=>
   rw[L]at y;have⟨a,c,x1,x2⟩:=y;exact⟨a,c,x1,x2.low z.size⟩
  let o:=fB G most r (g++[eo [d]])
  have aK:∀{v p},zh t.heap.size o v p->∃u,v=.tuple #[u,.bool o.isSome]/\zh t.heap.size o (.tuple #[u,.bool o.isSome]) p:=λ{v p} hv=>by
   cases L:o with
   |none=>rw[L]at hv;have hv:v=_:=hv;grind
   |some R=>rw[L]at hv;obtain⟨a,c,rfl,x⟩:=hv;exact⟨_,rfl,a,c,rfl,x⟩
  refine .late rfl (λu p=>zh t.heap.size o (.tuple #[u,.bool o.isSome]) p) (λv a b M e=>M.iF e.1) (λp z a0 aj=>?_) ?_;obtain⟨u,rfl,hu⟩:=aK aj;exact⟨hu,hE.refl _⟩;refine .exact (.bool o.isSome) (λp z a0 aj=>?_) ?_;obtain⟨u,rfl,hu⟩:=aK aj;exact⟨rfl,hE.refl _⟩;refine .late rfl (λu p=>zh t.heap.size o (.tuple #[u,.bool o.isSome]) p) (λv a b M e=>M.iF e.1) (λp z a9 a2=>by intro _ _ _ _ _ _ _ _;exact⟨a2,hE.refl _⟩) ?_;intro p z v8 h8 _ _ _ _ _ _ _ _ _ _;have h8:zh t.heap.size o (.tuple #[v8,.bool o.isSome]) p:=h8;refine⟨_,rfl,⟨C.1.trans (D.1.trans (z.iF (dg _))),λhp=>z.m (D.2 (C.2 hp))⟩,?_⟩;rw[aA,cT ⟨aB,hs⟩];show zh E.heap.size o (.tuple #[v8,.bool o.isSome]) p;cases L:o with
  |none=>rw[L]at h8;exact h8
  |some R=>
   rw[L]at h8;have⟨a,c,x1,x2⟩:=h8;exact⟨a,c,x1,x2.low (zp C.1.size D.1.size)⟩
  grind
def ZJ(Q:QW):QW
 | .goto _,_,_=>False
 | .normal,l,w=>Q .normal l w
 | .exit i,l,w=>Q (.exit i) l w
 | .ret,l,w=>Q .ret l w
 | .panic c,l,w=>Q (.panic c) l w
 | .outgrown,l,w=>Q .outgrown l w
def PW{N:Nat}{c:Code}{l:L}{w:cI}{Q:QW}(h:WC V.prog Fj N c (ZJ Q) l w):dP V.prog N (.scope c) l w Q:=by
 refine⟨λa f=>wp_scope_straight (lM (jo dr c _ l a w f h) ?_)⟩;rintro e j k ⟨g,b,d⟩;cases e with
 |goto i=>exact d.elim
 |_=>exact⟨g,b,d⟩
def ZK(a b c d e:Bool)(x y:dW)(w:cI):Sem.run V.prog (do eqGuard .eql 217 x y (.agg #[.bool a,.bool b,.bool c,.bool d,.bool e]) (.agg #[.bool false,.bool false,.bool false,.bool false,.bool false]);binOp .eql 217 (.agg #[.bool a,.bool b,.bool c,.bool d,.bool e]) (.agg #[.bool false,.bool false,.bool false,.bool false,.bool false])) w=.ok (.bool (!(a||b||c||d||e))) w:=by cases a<;>cases b<;>cases c<;>cases d<;>cases e<;>kernel_rfl
def dP.jj{N:Nat}{c:Code}{l l0:L}{w:cI}{Q:QW}(b:Sub l0 l)(h:dP P N c l0 w Q):dP P N c l w Q:=⟨λa d=>h.out a (d.sub b)⟩
def dP.mono{N:Nat}{c:Code}{l:L}{w:cI}{Q d:QW}(f:∀e l w,Q e l w->d e l w)(h:dP P N c l w Q):dP P N c l w d:=⟨λa g=>lM (h.out a g) (by rintro e k m ⟨i,b,j⟩;exact⟨i,b,f _ _ _ j⟩)⟩
def X9(a:L)(F:dB)(Q:QW):QW
 | .normal,l,w=>Sub a l/\F w
 | .goto i,l,w=>Q (.goto i) l w
 | .exit i,l,w=>Q (.exit i) l w
 | .ret,l,w=>Q .ret l w
 | .panic c,l,w=>Q (.panic c) l w
 | .outgrown,l,w=>Q .outgrown l w
def Vu{N:Nat}{c:Code}{l:L}{w:cI}{Q:QW}(a:L)(F:dB)(h:dP P N c l w (X9 a F Q))(b:∀l w,Sub a l->F w->Q .normal l w):dP P N c l w Q:=
 h.mono λe l w h=>by
  cases e with
  |normal=>exact b l w h.1 h.2
  |_=>exact h
def iJ.c{A:dn}{w d:cI}{a:dV}{l:cM}(h:iJ A w a l)(e:∀b o v,¬A b->w.cell? ⟨b,o,none⟩=some v->d.cell? ⟨b,o,none⟩=some v):iJ A d a l:=h.go (λ_ h=>.inl h) e
def AQ(A:dn)(e:Nat)(w:cI)(v:cJ)(b:List cM):Prop:=∃d,cZ e 27 [.slice none 0 0] w v b.length d/\d.length=b.length/\∀k (h:k<b.length),∃a c,d[k]? =some (.slice a b[k].length c)/\iJ A w a b[k]/\b[k].length<=c
theorem AQ.iF{A:dn}{b n0:Nat}{w d:cI}{f:List cM}(h:AQ A b w x f)(e:jH n0 w d):AQ A b d x f:=by have⟨g,i,j,l⟩:=h;refine⟨g,i.iF e,j,λk m=>?_⟩;have⟨a,c,n,o,p⟩:=l k m;exact⟨a,c,n,o.iF e,p⟩
theorem AQ.keep{A:dn}{d:Nat}{w e:cI}{f:List cM}{F:dn}(h:AQ A d w x f)(k:dA F w e)(g:∀b,F b->A b)(j:∀b,cV x b->¬F b):AQ A d e x f:=by have⟨l,m,n,p⟩:=h;refine⟨l,m.keep k j,n,λi q=>?_⟩;have⟨a,c,r,s,t⟩:=p i q;exact⟨a,c,r,s.c λb o x u v=>k.fq v λy=>u (g b y),t⟩
def AQ.out{A A':dn}{i:Nat}{w:cI}{d:List cM}(h:AQ A i w x d)(l:∀b,A' b->A b)(e:∀b,A' b->b<i):∃a c,x=.slice a d.length c/\mQ A' w a d/\d.length<=c:=by obtain⟨u,⟨v,⟨m,rfl⟩|⟨b,c,y,z,rfl,n,B,o,C,p,D⟩⟩,E,f⟩:=h;exact⟨none,0,by rw[m],λk j=>cL,cL⟩;refine⟨_,c,rfl,λk j=>?_,o⟩;have⟨a,q,r,s,t⟩:=f k j;exact⟨b,0,a,q,λg=>iD (e b g),rfl,cN n (by rw[dj,p k cL];exact r),s.more λb g=>.inl (l b g),t⟩
structure MF(F:Nat->Prop)(n0 mk ms:Nat)(G:Gd)(A:Nat->Prop)(a b:cI):Prop where
 os:b.os=a.os
 tape:b.tape=a.tape
 output:b.output=a.output
 size:a.heap.size<=b.heap.size
 drawn:a.drawn<=b.drawn
 block:∀x o,¬F x->a.heap[x]? =some o->(x<n0\/Vp o=false)->b.heap[x]? =some o
 m:(∀x,A x->x<a.heap.size)->mg A mk ms G a->mg A mk ms G b
section
variable{F:Nat->Prop}{n0 mk ms:Nat}{G:Gd}{A:Nat->Prop}{a b w0:cI}
def Jn(F:dn)(n0 mk ms:Nat)(G:Gd)(A:dn):gJ (MF F n0 mk ms G A):=
 ⟨λw=>⟨rfl,rfl,rfl,dg _,dg _,λ_ _ _ h _=>h,λ_ h=>h⟩,λa b c h k=>⟨k.os.trans h.os,k.tape.trans h.tape,k.output.trans h.output,dw h.size k.size,dw h.drawn k.drawn,λx o d i f=>k.block x o d (h.block x o d i f) f,λg e=>k.m (λx d=>ep (g x d) h.size) (h.m g e)⟩,λw=>⟨rfl,rfl,rfl,dg _,mN _,λ_ _ _ h _=>h,λ_ e=>e.ext (Ext.drew w)⟩⟩
def MR.mf(h:MR n0 mk ms G a b):MF F n0 mk ms G A a b:=⟨h.1.os,h.1.tape,h.1.output,h.1.size,h.1.drawn,λx o _ c d=>h.1.block x o c d,λe f=>h.2 A e f⟩
def MF.at_(h:MF F n0 mk ms G A a b){x:Nat}{c:Nat×Nat}(d:¬F x)(e:a.heap[x]? =some (.cells W T c)):b.heap[x]? =some (.cells W T c):=h.block x _ d e (.inr rfl)
def MF.cell(d:MF F n0 mk ms G A a b)(e:¬F h.block)(c:a.cell? h=some x):b.cell? h=some x:=by unfold World.cell? at c⊢;split at c;rename_i g t i f;rw[d.at_ e f];exact c;cases c
theorem MF.after(h:MF F n0 mk ms G A a b)(m:jH n0 w0 a)(e:∀x,F x->w0.heap.size<=x):jH n0 w0 b:=
 ⟨h.os.trans m.os,h.tape.trans m.tape,h.output.trans m.output,dw m.size h.size,dw m.drawn h.drawn,λx o c d=>h.block x o (λf=>zp (e x f) (dz.lt_of_heap c)) (m.block x o c d) d⟩
def MF.PX(k:dA F a b)(c:∀x,F x->A x):MF F n0 mk ms G A a b:=⟨k.os,k.tape,k.output,k.size,k.drawn,λx o d e _=>k.fL e d,λ_ f=>f.keep k c⟩
end
def WO:∀s:Nat,s<32->(!(s.testBit 0||s.testBit 1||s.testBit 2||s.testBit 3||s.testBit 4))=decide (s=0):=by decide+kernel
def ML.go2{o:Option (List cM)}(h:ML A o x D w)(a:∀D,B D->A D\/w.heap.size<=D)(b:∀D o x,¬A D->w.cell? ⟨D,o,none⟩=some x->t.cell? ⟨D,o,none⟩=some x):ML B o x D t:=h.go a b
def AS(a:s≠0):fh H s=((List.range (eh s).length).findSome? λm=>fB H (m+1) (eh s) []).map λb=>b.map (dF H):=by rw[fh,cR a]
def xH(s:Nat):(eh s).length<=5:=l7 s 5
theorem tE(c:H.doors.length<=5){most:Nat}:∀(doors b a:cM),(∀d∈doors,d<H.doors.length)->(∀s∈b,ko H s)->fB H most doors b=some a->(∀s∈a,ko H s)/\a.length<=b.length+doors.length
 |[],b,a,_,m,h=>by grind [Option.some.injEq,fB]
 |d::r,b,a,j,m,h=>by have e:=j d fF;have k:∀x∈r,x<H.doors.iN:=λx n=>j x (ii _ n);simp only[fB]at h;split at h;rename_i o p;obtain rfl:=dQ h;have⟨i,q,l⟩:=Oe p;split at l;have q:i<b.iN:=cK;have f:ko H (b.getD i 0):=cK;have:=tE c r _ _ k (λs g=>by obtain g|rfl:=sO g;grind;exact f.ot e c) l;grind;grind;split at h;have:=tE c r _ _ k (λs g=>by grind [List.mem_singleton,ko.eo]) h;grind;grind
def AT{gp mk ms n0 s:Nat}(h:qE gp mk ms H w)(hA:∀b,A b->b<w.heap.size)(hp:mg A mk ms H w)(aR:n0<=mk)(hn:n0<=ms)(hs:ko H s):
 Calls V.prog 130 #[di gp,.int .u8 s] w (fM λv y=>MA n0 mk ms H A w y/\∃u b,v=.tuple #[u,.bool b]/\ML A (fh H s) u b y):=by
 have h5:=h.vN.many;refine jb Tryz.func130 Tryz.ntmps130 ?_;refine PW<|cX (MD s w hs.1) ?_;rintro v w1 ⟨rfl,e1⟩;refine eS λw2 S e2 bn ax=>dI ax λZ k3 E=>?_;have E:Z.heap[S]? =some (.cells (rM s).toArray 217):=E.trans (dE (λa=>some (Obj.cells a 217)) (ee (pK 217).toArray (rM s) rfl));have E3:Ext w Z:=(e1.trans e2).cS k3 (iD e1.size);have aq:∀{y},y.heap[S]? =some (.cells (rM s).toArray 217)->∀{k:nB},k (qp s) y->jL V.prog (Instr.loadAt 217 (dR S)) y k:=λf k hk=>ew (vs:=rM s) (λj v hj=>by rw[dj];grind [cN]) hk;refine aq E (ez (.agg #[.bool false,.bool false,.bool false,.bool false,.bool false]) ?_);refine⟨_,Z,ZK _ _ _ _ _ _ _ Z,?_⟩;rw[WO s hs.1];refine⟨λh0=>?_,λh0=>?_⟩;have h0:s=0:=fH h0;subst h0;exact⟨_,rfl,E3.ma _ _ _ _ _,_,_,rfl,rfl,none,0,rfl,λk hk=>cK,dg _⟩;have h0:s≠0:=iP h0;have h3:=h.ext E3;have aS:=hp.ext E3;have⟨aT,al,am⟩:=KZ PT PQ (z:=.agg #[fl,.bool false]) dt aS.k hs.1;have aU:∃u b ok,aT=.tuple #[.agg #[u,.bool b],.bool ok]/\u.oneCell'=true/\((ok=true/\ML A (fh H s) u b Z)\/ok=false):=by
  obtain⟨v,rfl,u,b,rfl,hw⟩|rfl:=al;refine⟨u,b,true,rfl,?_,.inl ⟨rfl,hw⟩⟩;cases ay:fh H s with
  |none=>rw[ay]at hw;rw[hw.1];rfl
  |some ls=>rw[ay]at hw;obtain⟨_,a,c,rfl,_⟩:=hw;rfl
  exact⟨_,_,false,rfl,rfl,.inr rfl⟩
 obtain⟨u,b,ok,rfl,aV,az⟩:=aU;have aW:sD [u,.bool b]=true:=by simp only[sD,aV];rfl
 have bo:S<Z.heap.size:=dz.lt_of_heap E;refine gZ 10 dC (im (λx=>Z.heap.size<=x)) (λa b h=>h.keep _) ?_;have ah:∀{T},dA (λx=>Z.heap.size<=x) Z T->Ext Z T:=λe=>e.ext λb f g=>cL;refine .exact (.map (some mk)) (λT e4=>cO ((ah e4).cell h3.YZ) gd) (.exact (qp s) (λT e4=>aq ((ah e4).at_ E) gd) (.exact _ (λT e4=>⟨_,_,am T λo ho=>(ah e4).at_ ho,rfl,Ext.refl _⟩) ?_));refine .Mr (λv T=>∃t,v=dR t/\Z.heap.size<=t/\T.heap[t]? =some (.cells (pK 220).toArray 220)) (λv a b ⟨t,h1,h2,h3⟩ e=>⟨t,h1,h2,e.at_ h3⟩) (λT e4=>eS λw5 t e5 ai f=>⟨⟨t,rfl,dw e4.size ai,f⟩,e5⟩) ?_;refine .yo (λvs T=>∃t,vs=[dR t]/\Z.heap.size<=t/\fC T t #[u,.bool b] 220) (λvs a b ⟨t,h1,h2,h3⟩ e=>⟨t,h1,h2,e.at_ h3⟩) (λT e4 v7 h7=>?_) ?_;obtain⟨t,rfl,g1,g2⟩:=h7;exact jp g2 (qH rfl) (λw5 k5 aX=>⟨⟨t,rfl,g1,aX⟩,k5.trans (dA.refl (λ_=>False) w5) (λx _ g=>cK) λ_ _ h=>h.elim⟩) (gK aW);intro T e4 v7 _ hJ;have⟨bp,aA,g1,g2⟩:=hJ;simp only[Ce,and_true]at aA;subst aA;have U:=ah e4;refine⟨λhk=>?_,λhk=>?_⟩;refine dD dC (dl (cN g2 rfl) (dl (cN g2 rfl) λw5 e5=>?_));have hw:=az.elim (λh=>h.2) λh=>cK;exact⟨_,rfl,((E3.trans U).trans e5).ma _ _ _ _ _,u,b,rfl,hw.go2 (λ_ h=>.inl h) λb o v f D=>(U.trans e5).cell D⟩;clear az al am;refine eS λw5 q e5 bq P=>?_;have P:fC w5 q #[fl,.bool false] 220:=P;have E5:Ext w w5:=(E3.trans U).trans e5;have br:=dz.lt_of_heap P;have s3:=E3.size;have bs:=U.size;have aB:=(U.trans e5).at_ E;have aY:mg (λx=>A x\/x=q) mk ms H w5:=((hp.ext (E3.trans U)).more (A':=λx=>A x\/x=q) λx g=>g.imp id λe=>cL).ext e5;refine cX (ww s w5 hs.1) ?_;rintro lv w6 ⟨e6,aZ⟩;obtain⟨la,lc,rfl,a0,bt⟩:=aZ.row;have bu:=xH s;refine dm<|Vu [(0,di gp),(6,di S),(9,di q)] (λy=>MA n0 mk ms H A w y/\y.heap[S]? =some (.cells (rM s).toArray 217)/\∃u b,fC y q #[u,.bool b] 220/\ML A (fh H s) u b y) ?_ ?_;refine ft (n:=(eh s).length) (λk=>[(0,di gp),(1,.int .u8 s),(6,di S),(9,di q),(36,i64 (eh s).length),(37,i64 k)]) (λk y=>jH n0 w y/\mg (λx=>A x\/x=q) mk ms H y/\y.heap[S]? =some (.cells (rM s).toArray 217)/\fC y q #[fl,.bool false] 220/\∀i,i<k->fB H (i+1) (eh s) []=none) ⟨by trivial,(E5.trans e6).iF n0,aY.ext e6,e6.at_ aB,e6.at_ P,λi hi=>cL⟩ ?_ ?_ ?_;rintro k y hk hJ;exact dK ⟨rfl,rfl,by trivial,hJ⟩;rintro k w7 hk ⟨m7,aa,B,r,N⟩;refine cX (ww s w7 hs.1) ?_;rintro bv w8 ⟨I,a1⟩;obtain⟨da,dc,rfl,ar,a2⟩:=a1.row;have m8:=m7.trans (I.iF n0);have J:=aa.ext I;refine cW ?_;have aC:∀b,(A b\/b=q)->b<w8.heap.size:=λb f=>f.elim (λf=>zp (hA b f) m8.size) λe=>e▸dz.lt_of_heap (I.at_ r);have aD:=xG (most:=k+1) (h.iF m8) hn (eh s) [] (λx=>A x\/x=q) da dc fl w8 (jH.refl _ _) aC J ar a2 hs.2 (.inl ⟨rfl,rfl⟩) (λx g=>cK) cK;rw[show((k+1:Nat):Int)=(k:Int)+1 by simp]at aD;refine cX aD ?_;rintro v w9 ⟨Q,W⟩;cases ho:fB H (k+1) (eh s) []with
 |none=>
  rw[ho]at W;have W:v=.tuple #[fl,.bool false]:=W;subst W;refine eC (jX rfl (cW ⟨by trivial,m8.trans Q.1,Q.2 J,Q.1.at_ (I.at_ B),Q.1.at_ (I.at_ r),λi hi=>?_⟩));grind
 |some C=>
  rw[ho]at W;obtain⟨ga,gc,rfl,a3⟩:=W;refine eC (lh rfl (dm ?_));have⟨aE,a4⟩:=tE h5 (eh s) [] C hs.2 (λx g=>cK) ho;have a4:C.length<=5:=cK;have s5:=e6.size;have s8:=m8.size;have s9:=Q.1.size;have bl:q<w8.heap.size:=dz.lt_of_heap (I.at_ r);have bm:S<w8.heap.size:=dz.lt_of_heap (I.at_ B);have aF:S≠q:=cK;have au:∀b,¬cV fl b:=λb f=>by have⟨_,_,f⟩:=f;grind
  refine jG (n:=C.length) (λj v=>[(0,di gp),(6,di S),(9,di q),(51,.slice ga C.length gc),(52,i64 C.length),(53,i64 j)]) (λj v y=>jH n0 w y/\w9.heap.size<=y.heap.size/\mg (λx=>(A x\/x=q)\/cV v x) mk ms H y/\y.heap[S]? =some (.cells (rM s).toArray 217)/\fC y q #[v,.bool false] 220/\AQ (λx=>(A x\/x=q)\/cV v x) w9.heap.size y v ((C.take j).map (dF H))/\∀k (h:k<C.length),∃b o,(w8.heap.size<=b/\b<w9.heap.size)/\ga=some (dq b o)/\y.cell? (dq b (o+k))=some (.int .u8 C[k])) (fl) ⟨by trivial,m8.trans Q.1,dg _,(Q.2 J).more λb f=>f.elim .inl λf=>absurd f (au b),Q.1.at_ (I.at_ B),Q.1.at_ (I.at_ r),⟨[],cZ.nil _ _ _ _,rfl,λk hk=>cK⟩,λi hi=>?_⟩ ?_ ?_ ?_;have⟨b,o,x0,x1,x2⟩:=a3 i hi;exact⟨b,o,⟨x0,o8 x2⟩,x1,x2⟩;rintro j v K hj hJ;exact dK ⟨rfl,rfl,by trivial,hJ⟩;rintro j v K hj ⟨av,a5,L,O,G,F,ab⟩;have⟨gb,bw,bx,aG,a6⟩:=ab j hj;have g:=aE _ (eB hj);have an:∀b,cV v b->w9.heap.size<=b/\b<K.heap.size:=λb f=>by have⟨us,X,_⟩:=F;exact X.blk f
  have R:∀b,((A b\/b=q)\/cV v b)->b<K.heap.size:=λb f=>f.elim (λf=>cK) λf=>(an b f).2;subst aG;refine eX j hj (cO a6 ?_);refine gZ 6 (XZ n0 mk ms H) (Jn (cV v) n0 mk ms H (λx=>(A x\/x=q)\/cV v x)) (λa b h=>h.mf) ?_;have aH:¬cV v q:=λf=>cK;have a7:¬cV v S:=λf=>cK;have aI:∀{d},MF (cV v) n0 mk ms H (λx=>(A x\/x=q)\/cV v x) K d->jH n0 w d:=λe=>e.after av λx g=>cK;refine .exact v (λd p=>cO (cN (p.at_ aH G) rfl) ⟨rfl,MR.refl _⟩)<| .rel (λu d=>ShR (λx=>(A x\/x=q)\/cV v x) H C[j] u d) (λu a b hu e=>hu.go (λ_ h=>.inl h) λb o x f D=>e.cell (λhf=>f (.inr hf)) D) (λd p=>?_) ?_;have ac:∀b,((A b\/b=q)\/cV v b)->b<d.heap.size:=λb f=>ep (R b f) p.size;exact cX (yw (h.iF (aI p)) ac (p.m R L) hn g.1 g.2) λu ad ⟨a8,a9⟩=>⟨a9 _ ac (p.m R L),a8⟩;refine .rel (λx d=>∃t u,x=fa t 1 1/\K.heap.size<=t/\d.heap[t]? =some (.cells [u].toArray 27)/\ShR (λx=>(A x\/x=q)\/cV v x) H C[j] u d) (λx a b ⟨t,u,h1,h2,h3,h4⟩ e=>⟨t,u,h1,h2,e.at_ (λhf=>cK) h3,h4.go (λ_ h=>.inl h) λb o x f D=>e.cell (λhf=>f (.inr hf)) D⟩) (λd p u hu=>?_) ?_;obtain⟨a,c,rfl,X,D⟩:=hu;refine er [.slice a (dF H C[j]).length c] 27 (λad t aJ ai f=>⟨⟨t,_,rfl,dw p.size ai,f,a,c,rfl,X.c λb o x _ g=>aJ.cell g,D⟩,aJ.mr⟩) ?_;intro w;kernel_rfl;refine .spec (λv' d=>(∀x,((A x\/x=q)\/cV v' x)->x<d.heap.size)/\mg (λx=>(A x\/x=q)\/cV v' x) mk ms H d/\AQ (λx=>(A x\/x=q)\/cV v' x) w9.heap.size d v' ((C.take j).map (dF H)++[dF H C[j]])) (λv' a b ⟨h1,h2,h3⟩ e=>⟨λx g=>ep (h1 x g) e.1.size,e.2 _ h1 h2,h3.iF e.1⟩) (λd p aK ba bb bz=>?_) ?_;obtain⟨t,u,rfl,ai,aL,ua,uc,rfl,bA,bB⟩:∃t u,aK=fa t 1 1/\K.heap.size<=t/\d.heap[t]? =some (.cells [u].toArray 27)/\ShR (λx=>(A x\/x=q)\/cV v x) H C[j] u d:=ba;have⟨us,X,aM,bc⟩:=F.iF p.1;have bC:((C.take j).map (dF H)).length<=5:=pY;have ae:=p.2 _ R L;refine gR Jh X cK aL cL (λv' ad g1 g2 g3=>⟨⟨λx g=>?_,?_,us++[.slice ua (dF H C[j]).length uc],eV g1,by simp[aM],λi hi=>?_⟩,MF.PX g2 λx g=>.inr g⟩) rfl (by simp[sD,Value.oneCell']);obtain g|g:=g;have:=aC x g;have:=p.1.size;have:=g2.size;omega;exact(g1.blk g).2;exact((ae.more (A':=λx=>((A x\/x=q)\/cV v x)\/cV v' x) λx g=>g.elim .inl λg=>(g3 x g).elim (λh=>.inl (.inr h)) .inr).keep g2 λx g=>.inl (.inr g)).fewer λx g=>g.elim (λh=>.inl (.inl h)) .inr;have up:∀{a:dV} {l:cM},iJ (λx=>(A x\/x=q)\/cV v x) d a l->iJ (λx=>(A x\/x=q)\/cV v' x) ad a l:=λhn=>by have h1:iJ (λx=>((A x\/x=q)\/cV v x)\/cV v' x) ad _ _:=(hn.more (A':=λx=>((A x\/x=q)\/cV v x)\/cV v' x) λx g=>g.elim .inl λg=>(g3 x g).elim (λh=>.inl (.inr h)) .inr).c λb o x f D=>g2.fq D λhf=>f (.inl (.inr hf));exact h1.more λx g=>.inl (g.elim (λh=>.inl (.inl h)) .inr)
  obtain aN|bd:=gu i ((C.take j).map (dF H)).length;have⟨a,c,x1,x2,x3⟩:=bc i aN;rw[ml aN];exact⟨a,c,by rw[uJ cL];grind,up x2,x3⟩;obtain rfl:i=((C.take j).map (dF H)).length:=by simp at hi bd⊢;omega
  refine⟨ua,uc,by rw[uK cL];simp[aM],?_,?_⟩;simp only[sj (dg _),lK,nQ];grind;simp only[sj (dg _),lK,nQ];grind;intro d p af be aK _ bb _;have⟨ac,ae,M⟩:(∀x,((A x\/x=q)\/cV af x)->x<d.heap.size)/\mg (λx=>(A x\/x=q)\/cV af x) mk ms H d/\AQ (λx=>(A x\/x=q)\/cV af x) w9.heap.size d af ((C.take j).map (dF H)++[dF H C[j]]):=be;have aO:∃a l c,af=.slice a l c:=by have⟨us,X,_⟩:=M;obtain⟨a,c,rfl,_⟩:=X.len;grind
  obtain⟨va,vl,vc,rfl⟩:=aO;have bf:∀b,cV (.slice va vl vc) b->w9.heap.size<=b:=λb f=>by have⟨us,X,_⟩:=M;exact(X.blk f).1
  refine jp (p.at_ aH G) (qH rfl) (λad Y aP=>cW ⟨.slice va vl vc,by trivial,(aI p).cS Y cL,zp p.size Y.size,ae.keep Y (λx g=>.inl (.inr g)),Y.fL (p.at_ a7 O) aF,aP,?_,λi hi=>?_⟩) (gK rfl);have ht:(C.take (j+1)).map (dF H)=(C.take j).map (dF H)++[dF H C[j]]:=by rw[iw hj,oC];rfl
  rw[ht];exact M.keep Y (λx g=>.inl (.inr g)) λx g bg=>cK;have⟨b,o,x0,x1,x2⟩:=ab i hi;exact⟨b,o,x0,x1,Y.fq (p.cell (λhf=>cK) x2) cK⟩;rintro v K ⟨av,a5,L,O,G,F,ab⟩;rw[jN]at F;refine jp G (qH rfl) (λd aj ag=>?_) (gK rfl);have ag:fC d q #[v,.bool true] 220:=ag;have an:∀b,cV v b->w9.heap.size<=b:=λb f=>by have⟨us,X,_⟩:=F;exact(X.blk f).1
  have M:=F.keep aj (λx g=>.inl (.inr g)) λx g bg=>cK;have⟨a,c,hv,hl,D⟩:=M.out (A':=A) (λb f=>.inl (.inl f)) λb f=>cK;refine⟨by trivial,⟨av.cS aj cL,λ_=>(L.keep aj λx g=>.inl (.inr g)).fewer λb f=>.inl (.inl f)⟩,aj.fL O aF,v,true,ag,?_⟩;rw[AS h0,l9 hk N ho];exact⟨rfl,a,c,hv,hl,D⟩
 rintro w7 ⟨m7,aa,B,r,N⟩;refine⟨by trivial,⟨m7,λ_=>aa.fewer λb f=>.inl f⟩,B,_,_,r,?_⟩;rw[AS h0,qu N];exact⟨rfl,rfl⟩;rintro l w7 aQ ⟨m7,B,u7,b7,r,bh⟩;have h7:=h.iF m7.1;have aa:=m7.2 hp;refine dP.jj aQ (dD dC (dl h7.YZ (dx (qp s) (λw8 I=>aq (I.at_ B) gd) (dx (.agg #[u7,.bool b7]) (λw8 I=>ew (vs:=[u7,.bool b7]) (λj v hj=>by rw[dj];exact cN (I.at_ r) cK) gd) λw8 I=>?_))));have ao:ML A (fh H s) u7 b7 w8:=bh.go2 (λ_ h=>.inl h) λb o v f D=>I.cell D;have J:=aa.ext I;refine wC PT PQ J.k hs.1 aR (λw9 m=>⟨λs u hu=>hu.go (λ_ h=>.inl h) λb o v f D=>m.cell D,u7,b7,rfl,ao.go2 (λ_ h=>.inl h) λb o v f D=>m.cell D⟩) λw9 Q bi bj=>?_;have bk:mg A mk ms H w9:=⟨J.s.go (λs v X=>X.go (λ_ h=>.inl h) λb o v f D=>Q.cell D) λo ho=>by rw[bi ms (jc h.ne)];grind,bj,J.ak,J.asm⟩;have ap:=Q.at_ (I.at_ r);refine dD dC (dl (cN ap rfl) (dl (cN ap rfl) λK aw=>?_));exact⟨_,rfl,⟨m7.1.trans ((I.iF n0).trans (Q.trans (aw.iF n0))),λ_=>bk.ext aw⟩,u7,b7,rfl,ao.go2 (λ_ h=>.inl h) λb o v f D=>aw.cell (Q.cell D)⟩
structure Tq where
 door:Int
 shift:Int
 opened:Bool
def uS(t:Tq):dN:=[.int .i64 t.door,.int .i64 t.shift,.bool t.opened]
def kq(w:cI)(a:dV)(l:List Tq):Prop:=∀k (h:k<l.length),∃b o,a=some ⟨b,o,none⟩/\∀j v,(uS l[k])[j]? =some v->w.cell? ⟨b,o+k*3+j,none⟩=some v
def kq.ext{l:List Tq}(h:kq w a l)(e:Ext w t):kq t a l:=λk c=>by have⟨b,o,d,f⟩:=h k c;exact⟨b,o,d,λj v g=>e.cell (f j v g)⟩
def qV:Sx:=⟨0,0,0,false,false,false,false,false⟩
def pd(G:Gd):List Sx->Int->List Tq->Int×List Sx
 |b,_,[]=>(0,b)
 |b,a,t::r=>
  if l5 t.door 0 ((G.doors.length:Int)-1)&&l5 t.shift 0 (2*G.days-1)then
   if t.shift<a then(5,[])
   else if py (b.getD t.door.toNat qV) (t.shift.toNat/2)then(4,[])
   else if ij G.tries (b.getD t.door.toNat qV)then(12,[])
   else pd G (b.set t.door.toNat (ig (b.getD t.door.toNat qV) t.shift.toNat t.opened)) t.shift r
  else(3,[])
def fw(G:Gd)(l:List Tq):Int×List Sx:=pd G (List.replicate G.doors.length qV) 0 l
def vO(k:Nat)(x:Sx):Prop:=(0<=x.tries/\x.tries<=k)/\(0<=x.mornings/\x.mornings<=k)/\0<=x.evenings/\x.evenings<=k
def vO.UA{x:Sx}(h:vO k x)(s:Nat)(o:Bool):vO (k+1) (ig x s o):=by have⟨a,b,c⟩:=h;unfold ig vO;refine⟨by constructor<;>simp only<;>omega,?_,?_⟩;constructor<;>simp only<;>split<;>omega;simp only;split<;>omega
def vO.up{x:Sx}(h:vO k x):vO (k+1) x:=by have⟨a,b,c⟩:=h;refine⟨⟨a.1,cL⟩,⟨b.1,cL⟩,c.1,cL⟩
def PY(f:w.heap[m]? =some (.cells (madeCells (pK 166).toArray (k*8)) 166)):oY m (List.replicate k qV) w:=by
 refine⟨_,f,by simp[madeCells],λa g j v b=>?_⟩;have c:j<8:=(kX.1 b).1;have h:a<k:=eV g;have d:a*8+j<k*8:=by have:=rm 8 (show a+1<=k by omega);omega
 have i:(pK 166).toArray.size=8:=rfl;have l:(a*8+j)%8=j:=cL;have e:(madeCells (pK 166).toArray (k*8))[a*8+j]? =(pK 166)[j]? :=by
  unfold madeCells;rw[vP,nw (eV d)];simp only[Array.getElem_range,mn,i,l];match j,c with
  |0,_=>rfl
  |1,_=>rfl
  |2,_=>rfl
  |3,_=>rfl
  |4,_=>rfl
  |5,_=>rfl
  |6,_=>rfl
  |7,_=>rfl
 rw[e];simp only[List.getElem_replicate]at b;exact b
def WP(G:Gd)(l:List Tq)(b:Nat)(v:cJ)(w:cI):Prop:=
 ((fw G l).1≠0/\v=.tuple #[.slice none 0 0,.int .i64 (fw G l).1])\/
 ((fw G l).1=0/\(fw G l).2.length=G.doors.length/\(∀x∈(fw G l).2,vO l.length x)/\∃a,b<=a/\v=.tuple #[.slice (some ⟨a,0,none⟩) G.doors.length G.doors.length,.int .i64 0]/\oY a (fw G l).2 w)
def MP(G:Gd)(a:List Sx)(b:Int)(l:List Tq)(k:Nat)(c:k<l.length):pd G a b (l.drop k)=(if l5 l[k].door 0 ((G.doors.length:Int)-1)&&l5 l[k].shift 0 (2*G.days-1)then
 if l[k].shift<b then(5,[])
 else if py (a.getD l[k].door.toNat qV) (l[k].shift.toNat/2)then(4,[])
 else if ij G.tries (a.getD l[k].door.toNat qV)then(12,[])
 else pd G (a.set l[k].door.toNat (ig (a.getD l[k].door.toNat qV) l[k].shift.toNat l[k].opened)) l[k].shift (l.drop (k+1))
 else(3,[])):=by
 rw[pz c];rfl
def Vv{gp mk ms:Nat}(h:qE gp mk ms H w){l:List Tq}{lc:Nat}(hr:kq w a l)(aw:l.length<=100000):
 Calls V.prog 137 #[di gp,.slice a l.length lc] w (fM λv m=>Ext w m/\WP H l w.heap.size v m):=by
 have Q:=h.vN;have af:=Q.days;have h5:=Q.many;have⟨da,dc,h6,ax⟩:=h.c6;refine jb Tryz.func137 Tryz.ntmps137 ?_;refine cO h6 (dm (Ev PD (dg _) cL λw1 y e1 R S=>?_));have ag:=PY S
 refine dm (jG (n:=l.length) (λk (G:List Sx×Int)=>[(0,di gp),(6,fa y H.doors.length H.doors.length),(7,i64 G.2),(17,.slice a l.length lc),(18,i64 l.length),(19,i64 k)])
  (λk G m=>Ext w m/\oY y G.1 m/\G.1.length=H.doors.length/\(∀x∈G.1,vO k x)/\fw H l=pd H G.1 G.2 (l.drop k)) (List.replicate H.doors.length qV,0) ⟨by trivial,e1,ag,dt,λx T=>?_,rfl⟩ ?_ ?_ ?_)
 rw[List.eq_of_mem_replicate T];simp[vO,qV];rintro k G m hk U;exact dK ⟨rfl,rfl,by trivial,U⟩;rintro k ⟨g,bf⟩ w2 hk ⟨e2,p,F,A,f⟩;simp only at p F A f⊢;obtain⟨b,o,rfl,hc⟩:=(hr.ext e2) k hk;rw[MP H g bf l k hk]at f;refine fE k 3 hk (ew (vs:=uS l[k]) hc (eS λw3 tb e3 ah W=>dI W λw4 k4 q=>?_));have q:w4.heap[tb]? =some (.cells (uS l[k]).toArray 84):=q;have ay:y<w2.heap.size:=by have⟨_,X,_⟩:=p.out;exact dz.lt_of_heap X
 have e4:Ext w2 w4:=e3.cS k4 ah;have E4:=e2.trans e4;have Y:=p.ext e4;have h4:=h.ext E4;have ne:¬(tb=y):=cL;have⟨az,aA,ai,_⟩:=h4.c6;have B:∀(m:cI) (c:Int),Ext w4 m->fw H l=(c,[])->c≠0->∃v,Ending.returned (one [fl,i64 c])=.returned v/\Ext w m/\WP H l w.heap.size v m:=λm c e hc h0=>⟨_,rfl,E4.trans e,.inl ⟨by rw[hc];exact h0,by rw[hc];rfl⟩⟩;refine dD dC (dl (cN q rfl) (dl ai (Xt _ (λw e=>dm gd) (vo (iW dC _ (λw e=>fT _ _ _ w) (mY λw5 Z=>⟨λI=>jX I ?_,λI=>?_⟩))))));exact B w5 3 Z (by rw[f,cR];simp at I;simp[I]) cL;have I:l5 l[k].door 0 ((H.doors.length:Int)-1)=true:=eV I;refine dD dC (dl (cN (Z.at_ q) rfl) (iW dC _ (λw e=>last_at (h4.ext (Z.trans e))) (iW dC _ (λw e=>fT _ _ _ w) (mY λw6 e6=>⟨λt=>?_,λt=>?_⟩))));exact B w6 3 (Z.trans e6) (by rw[f,cR];simp at t;simp[t]) cL;have t:l5 l[k].shift 0 (2*H.days-1)=true:=eV t;rw[cT (by rw[I,t];rfl)]at f;simp only[l5,eU,j9]at I t;have⟨d,hd⟩:∃d:Nat,l[k].door=(d:Int):=⟨l[k].door.toNat,cL⟩;have⟨s,hs⟩:∃s:Nat,l[k].shift=(s:Int):=⟨l[k].shift.toNat,cL⟩;have C:d<g.length:=cL;have aj:s<6:=cL;have D:=Z.trans e6;have z:w6.heap[tb]? =some (.cells #[i64 d,i64 s,.bool l[k].opened] 84):=by rw[D.at_ q,uS,hd,hs]
 have J:=Y.ext D;have ak:g.getD d qV=g[d]:=getD_eq C;rw[hd,hs]at f;simp only[ny,ak]at f;refine cO (cN z rfl) (dK ⟨λal=>?_,λam=>?_⟩);exact B w6 5 D (by rw[f,cT (fH al)]) cL;rw[cR (iP am)]at f;have aa:∀{m},oY y g m->m.cell? (dq y (0+d*8+4+s/2))=some (.bool (py g[d] (s/2))):=λhS=>by have⟨cs,X,y2,y3⟩:=hS.out;refine cN X ?_;have an:s/2=0\/s/2=1\/s/2=2:=cL;rw[show 0+d*8+4+s/2=d*8+(4+s/2) by omega];refine y3 d C (4+s/2) _ ?_;obtain e|e|e:=an<;>rw[e]<;>rfl
 refine dD dC (dl (cN z rfl) (dl (cN z rfl) (dx (i64 ((s/2:Nat):Int)) (λw1 _=>li (n:=2) cL cL gd) (jq d 8 cL (dx (qI y (0+d*8+4+s/2)) (λw1 _=>zA 3 cL gd) (dl (aa J) λw7 e7=>⟨λN=>?_,λN=>?_⟩))))));exact B w7 4 (D.trans e7) (by rw[f,cT N]) cL;rw[cR (by rw[N];simp)]at f;have O:=D.trans e7;have K:=J.ext e7;have L:=e7.at_ z;have ab:∀{m},oY y g m->∀j v,(nL g[d])[j]? =some v->m.cell? (dq y (0+d*8+j))=some v:=λhS j v hj=>by have⟨cs,X,y2,y3⟩:=hS.out;exact cN X (by rw[dj];exact y3 d C j v hj)
 refine cO (cN L rfl) (fE d 8 cL (ew (vs:=nL g[d]) (ab K) (ek (zz (h4.ext O) g[d]) λw8 e8=>⟨λP=>?_,λP=>?_⟩)));exact B w8 12 (O.trans e8) (by rw[f,cT P]) cL;rw[cR (by rw[P];simp)]at f;have ao:=O.trans e8;have M:=K.ext e8;have ac:=e8.at_ L;have ad:=A _ (eB C);have ap:(0<=g[d].tries/\g[d].tries<=1000000)/\(0<=g[d].mornings/\g[d].mornings<=1000000)/\0<=g[d].evenings/\g[d].evenings<=1000000:=by have⟨z1,z2,z3⟩:=ad;omega
 refine gZ 16 dC (im (λx=>x=y)) (λaB b h=>h.keep _) ?_;have E:∀{r},dA (λx=>x=y) w8 r->r.heap[tb]? =some (.cells #[i64 d,i64 s,.bool l[k].opened] 84):=λe=>e.fL ac ne;refine .exact (i64 d) (λr i=>cO (cN (E i) rfl) gd) (.exact (i64 d) (λr i=>cO (cN (E i) rfl) gd) ?_);refine .exact _ (λr i=>fE d 8 cL gd) (.Eg rfl (.agg (nL g[d]).toArray) (λr i=>ew (vs:=nL g[d]) (ab (M.ext i)) gd) ?_);refine .exact (i64 s) (λr i=>cO (cN (E i) rfl) gd) (.exact (.bool l[k].opened) (λr i=>cO (cN (E i) rfl) gd) ?_);refine .exact (.agg (nL (ig g[d] s l[k].opened)).toArray) (λr i=>ek (CN g[d] s l[k].opened r aj ap) λaq ar=>⟨rfl,ar⟩)<| .exact (i64 s) (λr i=>cO (cN (E i) rfl) gd) (.exact _ (λr i=>fE d 8 cL gd) ?_);refine .yo (λ_ r=>oY y (g.set d (ig g[d] s l[k].opened)) r) (λ_ aB b hS e=>hS.ext e) (λr i=>?_) ?_;refine PO (M.ext i) d 0 C cL (ig g[d] s l[k].opened) (qH rfl) (λj u hj=>?_) (λaq au ae=>⟨ae,au⟩);have av:j<8:=(kX.1 hj).1;rw[cT ⟨gi _,av⟩];exact hj;intro r i U;have U:oY y (g.set d (ig g[d] s l[k].opened)) r:=U;refine cW ⟨(g.set d (ig g[d] s l[k].opened),(s:Int)),by trivial,?_,U,eV F,λx T=>?_,f⟩;exact(E4.trans ao).cS i R;obtain T|rfl:=sO T;exact(A x T).up;exact ad.UA s _;rintro⟨g,bf⟩ w2 ⟨e2,p,F,A,f⟩;have f:fw H l=(0,g):=by rw[f];simp[pd]
 refine⟨_,rfl,e2,.inr ⟨by rw[f],by rw[f];exact F,by rw[f];exact A,y,?_,rfl,by rw[f];exact p⟩⟩;exact R
def nM(G:Gd)(l:List Tq):Int:=if em G=0 then(fw G l).1 else em G
def eO(l:List Tq):Int:=match l.getLast? with
 |some t=>t.shift
 |none=>0
theorem Lb:∀{l:List Tq} {c:List Sx} {b:Int},(pd H c b l).1=0->∀t∈l,(0<=t.door/\t.door<H.doors.length)/\0<=t.shift/\t.shift<=2*H.days-1
 |t::r,c,b,h,x,a=>by simp only[pd]at h;split at h;rename_i d;simp only[l5,eU,j9]at d;split at h;simp at h;split at h;simp at h;split at h;simp at h;obtain rfl|a:=eW.1 a;omega;exact Lb h x a;simp at h
def MQ(a:H.Ok){l:List Tq}(h:(fw H l).1=0):0<=eO l/\eO l<=5:=by unfold eO;split;rename_i t b;have:=Lb h t (List.mem_of_getLast? b);have:=a.days;omega;omega
structure Ha(w:cI)(wp gp mk ms:Nat)(G:Gd)(xs:List Sx)(bf:Int)(w':cI):Prop where
 k:mK wp gp mk ms G xs bf w'
 g:zf w gp mk ms G w'
 lo:w.heap.size<=wp
theorem Ha.ext{wp gp mk ms:Nat}{a:List Sx}(h:Ha w wp gp mk ms H a I t)(b:Ext t e):Ha w wp gp mk ms H a I e:=⟨h.k.ext b,h.g.ext b,h.lo⟩
theorem Ha.low{wp gp mk ms:Nat}{a:List Sx}(h:Ha w wp gp mk ms H a I e)(b:Ext t w):Ha t wp gp mk ms H a I e:=⟨h.k,h.g.low b,dw b.size h.lo⟩
def PZ(w:cI)(G:Gd)(l:List Tq)(v:cJ)(b:cI):Prop:=
 (nM G l≠0/\v=.tuple #[.pointer none,.int .i64 (nM G l)])\/(nM G l=0/\∃a c mk d,v=.tuple #[di a,.int .i64 0]/\Ha w a c mk d G (fw G l).2 (eO l) b/\∀x∈(fw G l).2,vO l.length x)
def MS{dc:Nat}(W:gX w a H.doors)(p:H.doors.length<=100000){l:List Tq}{P:dV}(Q:kq w P l)(D:l.length<=100000):
 Calls V.prog 125 #[gV H a dc,.slice P l.length m] w (fM λv R=>Ext w R/\PZ w H l v R):=by
 refine jb Tryz.func125 Tryz.ntmps125 ?_;refine eH λw1 gb e X Y=>eI Y (cX (CO (dc:=dc) (W.ext e) p) ?_);rintro v Z ⟨q,⟨i,rfl⟩|⟨i,r,mk,S,rfl,C⟩⟩;exact gQ (jX (eV i) ⟨_,rfl,e.trans q,.inl ⟨by rw[nM,cR i];exact i,by rw[nM,cR i];rfl⟩⟩);have f:nM H l=(fw H l).1:=by rw[nM,cT i]
 refine gQ (lh dt (cX (Vv C.g (Q.ext (e.trans q)) D) ?_));rintro v w3 ⟨s,⟨t,rfl⟩|⟨t,u,E,j,aa,rfl,T⟩⟩;exact gQ (jX (eV t) ⟨_,rfl,(e.trans q).trans s,.inl ⟨by rw[f];exact t,by rw[f];rfl⟩⟩);have F:=(e.trans q).trans s;have s1:=e.size;have s2:=q.size;have s3:=s.size;refine gQ (lh dt (ez (.agg #[di r,fa j H.doors.length H.doors.length,i64 0]) (eH λU x k ab d=>?_)));have d:U.heap[x]? =some (.cells #[di r,fa j H.doors.length H.doors.length,i64 0] 141):=d;have G:=(C.ext (s.trans k)).low e;have y:=T.ext k;have I:=MQ C.g.vN t;have ac:j<w3.heap.size:=by have⟨_,y1,_⟩:=T.out;exact dz.lt_of_heap y1
 have z:∀c,Ext w c->zf w r mk S H c->oY j (fw H l).2 c->c.heap[x]? =some (.cells #[di r,fa j H.doors.length H.doors.length,i64 (eO l)] 141)->∃v,Ending.returned (one [di x,i64 0])=.returned v/\Ext w c/\PZ w H l v c:=λc J A K h=>
  ⟨_,rfl,J,.inr ⟨by rw[f];exact t,x,r,mk,S,rfl,⟨⟨A.g,u,I,_,H.doors.length,cN h rfl,by rw[u];exact cN h rfl,cN h rfl,K.row⟩,A,cL⟩,E⟩⟩
 refine dm (mP ⟨λn=>?_,λn=>?_⟩);have n:0<l.length:=eV n;have L:l.length-1<l.length:=cL;obtain⟨b,o,rfl,hc⟩:=(Q.ext (F.trans k)) (l.length-1) L;have M:eO l=l[l.length-1].shift:=by unfold eO;rw[List.getLast?_eq_getElem?,eZ L]
 refine dm (gC (fE (l.length-1) 3 L (cO (hc 1 _ rfl) (dI d λc N O=>?_)) cL));have B:¬(j=x):=cL;have J:Ext w c:=(F.trans k).cS N cL;have e5:Ext Z c:=(s.trans k).cS N cL;exact z c J ((C.ext e5).low e) (y.keep N B) (by rw[O,M];rfl);have n:l=[]:=oA (eV n);subst n;exact z U (F.trans k) G y d
structure Du where
 tries:Int
 morning:Bool
 evening:Bool
def Il(b:Bool):Int:=if b then 1 else 0
def sF(G:Gd)(x:Sx):Bool:=decide (2<=G.tries)&&decide (x.mornings=0)
def uH(G:Gd)(x:Sx):Bool:=decide (2<=G.tries)&&decide (x.evenings=0)
def EC(G:Gd)(x:Sx):Int:=max (G.tries-x.tries) 0
def iX(G:Gd)(x:Sx):Du:=⟨max (EC G x) (Il (sF G x)+Il (uH G x)),sF G x,uH G x⟩
def xI(d:Nat)(u:Du):dN:=[.int .i64 d,.int .i64 u.tries,.bool u.morning,.bool u.evening]
def lj(m e:Bool)(k:Nat):Int:=if k=0 then 0 else if k=1 then Il m else Il m+Il e
def Vw{wp gp mk ms:Nat}{c:List Sx}(h:mK wp gp mk ms H c I w)(hd:d<c.length)(ad:vO 100000 c[d]):
 Calls V.prog 133 #[di wp,.int .i64 d] w (fM λv u=>v=.agg (xI d (iX H c[d])).toArray/\Ext w u):=by
 have⟨sa,sc,h1,t,h3,h4⟩:=h.at_;have Q:=h.g.vN;have ht:=Q.tries;have ao:=Q.days;obtain⟨b,o,rfl,hc⟩:=h4 d hd;refine jb Tryz.func133 Tryz.ntmps133 ?_;refine eS λw1 E e1 R S=>cO (e1.cell t) (fE d 8 hd (ew (vs:=nL c[d]) (λj v A=>e1.cell (hc j v A)) (eS λw2 xb e2 T i=>dI i λU k3 W=>?_)));have i:U.heap[xb]? =some (.cells (nL c[d]).toArray 166):=W.trans (dE (λa=>some (Obj.cells a 166)) (ee (pK 166).toArray (nL c[d]) rfl));clear W;have E3:Ext w U:=(e1.trans e2).cS k3 (iD e1.size);have C:U.heap[E]? =some (.cells (pK 101).toArray 101):=(e2.cS k3 T).at_ S;have ae:=h.g.ext E3;have af:=E3.cell h1;have⟨y1,y2,y3⟩:=ad;refine dD dC (dl af (dl ae.c5 (dl (cN i rfl) (vo (Xt (i64 (EC H c[d])) (λX _=>rI gd) (dx (.agg #[i64 d,i64 (EC H c[d]),.bool false,.bool false]) (λX _=>ez _ gd) ?_))))));refine .rel (λv X=>∃p,v=dR p/\U.heap.size<=p/\X.heap[p]? =some (.cells (pK 101).toArray 101)) (λv a b ⟨nb,h1,t,h3⟩ e=>⟨nb,h1,t,e.at_ h3⟩) (λX e4=>eS λY nb e5 ag Z=>⟨⟨nb,rfl,dw e4.size ag,Z⟩,e5⟩) ?_;rintro X e4 v ⟨p,rfl,ah,aa⟩;refine dI aa λY k5 ab=>?_;have D:Y.heap[p]? =some (.cells #[i64 d,i64 (EC H c[d]),.bool false,.bool false] 101):=ab;clear ab;have F:Ext U Y:=e4.cS k5 ah;have E5:=E3.trans F;have ai:=h.g.ext E5;have aj:=E5.cell h1;have ak:=F.at_ i;have ac:=F.at_ C;have ap:=dz.lt_of_heap i;have aq:=dz.lt_of_heap C;have s3:=E3.size;refine cO aj (cO ai.c5 (wo ⟨λt=>?_,λt=>?_⟩));have t:2<=H.tries:=fH t;have hM:sF H c[d]=decide (c[d].mornings=0):=by simp[sF,t]
 have hE:uH H c[d]=decide (c[d].evenings=0):=by simp[uH,t]
 refine gZ 7 dC (im (λx=>x=p)) (λa b h=>h.keep _) ?_;have xc:∀{z},dA (λx=>x=p) Y z->z.heap[xb]? =some (.cells (nL c[d]).toArray 166):=λe=>e.fL ak cL;refine .exact _ (λz G=>cO (cN (xc G) rfl) gd) (.exact _ (λz _=>fc gd) (.exact _ (λz G=>cO (cN (xc G) rfl) gd) (.exact _ (λz _=>fc gd) ?_)));refine .yo (λ_ z=>z.heap[p]? =some (.cells #[i64 d,i64 (EC H c[d]),.bool (sF H c[d]),.bool false] 101)) (λ_ a b h e=>e.at_ h) (λz G=>dI (G.at_ D) λJ k7 B=>⟨by rw[B,hM];rfl,k7⟩) ?_;intro z G hJ;have hJ:z.heap[p]? =some (.cells #[i64 d,i64 (EC H c[d]),.bool (sF H c[d]),.bool false] 101):=hJ;refine dI hJ λJ k7 B=>?_;have f:J.heap[p]? =some (.cells #[i64 d,i64 (EC H c[d]),.bool (sF H c[d]),.bool (uH H c[d])] 101):=by rw[B,hE];rfl
 have kk:=G.trans k7 (λ_ _ h=>h) λ_ _ h=>h;have E6:Ext w J:=E5.cS kk cL;have K:=kk.fL ac cL;clear B hJ;refine cO (cN f rfl) (cO (cN f rfl) (er [.bool (sF H c[d]),.bool (uH H c[d])] 4 (λJ Z L al l=>dm (ft (n:=2) (λk=>[(4,di E),(6,di p),(7,i64 (lj (sF H c[d]) (uH H c[d]) k)),(52,fa Z 2 2),(53,i64 2),(54,i64 k)]) (λ_ u=>u=J) ⟨by trivial,rfl⟩ ?_ ?_ ?_))));rintro k u hk rfl;exact dK ⟨rfl,rfl,by trivial,rfl⟩;rintro k u hk rfl;have M:∀(x y:Bool) (k:Nat),0<=lj x y k/\lj x y k<=2:=λx y k=>by cases x<;>cases y<;>(unfold lj Il;split<;>(try split)<;>decide)
 have am:=M (sF H c[d]) (uH H c[d]) k;obtain rfl|rfl:k=0\/k=1:=cL;refine eX 0 cL (cO (cN l rfl) ⟨λq=>cW (cW ⟨⟨rfl,rfl,?_,rfl,rfl,rfl,trivial⟩,rfl⟩),λq=>cW ⟨⟨rfl,rfl,?_,rfl,rfl,rfl,trivial⟩,rfl⟩⟩);show some _=some _;simp[lj,Il,q];show some _=some _;simp[lj,Il,q];refine eX 1 cL (cO (cN l rfl) ⟨λq=>cW (cW ⟨⟨rfl,rfl,?_,rfl,rfl,rfl,trivial⟩,rfl⟩),λq=>cW ⟨⟨rfl,rfl,?_,rfl,rfl,rfl,trivial⟩,rfl⟩⟩);show some _=some _;simp[lj,Il,q];show some _=some _;simp[lj,Il,q];rintro u rfl;have m:=L.at_ f;have N:=L.at_ K;refine cO (cN m rfl) (rI (dI m λw8 k8 r=>?_));have r:w8.heap[p]? =some (.cells (xI d (iX H c[d])).toArray 101):=r;have an:=dz.lt_of_heap f;have O:=k8.fL N cL;refine ew (vs:=xI d (iX H c[d])) (λj v A=>by rw[dj];exact cN r (eV A)) (dI O λP k9 s=>?_);have s:P.heap[E]? =some (.cells (xI d (iX H c[d])).toArray 101):=s.trans (dE (λa=>some (Obj.cells a 101)) (ee (pK 101).toArray (xI d (iX H c[d])) rfl));have hl:Sem.run V.prog (loadVar 101 (dq E 0)) P=.ok (.agg (xI d (iX H c[d])).toArray) P:=jr (xI d (iX H c[d])) s λj v A=>by rw[dj];simpa using A
 exact⟨_,hl,_,rfl,rfl,((E6.trans L).cS k8 cL).cS k9 R⟩;have t:¬2<=H.tries:=iP t;have hM:sF H c[d]=false:=by simp[sF,t]
 have hE:uH H c[d]=false:=by simp[uH,t]
 have f:Y.heap[p]? =some (.cells #[i64 d,i64 (EC H c[d]),.bool (sF H c[d]),.bool (uH H c[d])] 101):=by rw[D,hM,hE]
 have E6:=E5;have K:=ac;refine cO (cN f rfl) (cO (cN f rfl) (er [.bool (sF H c[d]),.bool (uH H c[d])] 4 (λJ Z L al l=>dm (ft (n:=2) (λk=>[(4,di E),(6,di p),(7,i64 (lj (sF H c[d]) (uH H c[d]) k)),(52,fa Z 2 2),(53,i64 2),(54,i64 k)]) (λ_ u=>u=J) ⟨by trivial,rfl⟩ ?_ ?_ ?_))));rintro k u hk rfl;exact dK ⟨rfl,rfl,by trivial,rfl⟩;rintro k u hk rfl;have M:∀(x y:Bool) (k:Nat),0<=lj x y k/\lj x y k<=2:=λx y k=>by cases x<;>cases y<;>(unfold lj Il;split<;>(try split)<;>decide)
 have am:=M (sF H c[d]) (uH H c[d]) k;obtain rfl|rfl:k=0\/k=1:=cL;refine eX 0 cL (cO (cN l rfl) ⟨λq=>cW (cW ⟨⟨rfl,rfl,?_,rfl,rfl,rfl,trivial⟩,rfl⟩),λq=>cW ⟨⟨rfl,rfl,?_,rfl,rfl,rfl,trivial⟩,rfl⟩⟩);show some _=some _;simp[lj,Il,q];show some _=some _;simp[lj,Il,q];refine eX 1 cL (cO (cN l rfl) ⟨λq=>cW (cW ⟨⟨rfl,rfl,?_,rfl,rfl,rfl,trivial⟩,rfl⟩),λq=>cW ⟨⟨rfl,rfl,?_,rfl,rfl,rfl,trivial⟩,rfl⟩⟩);show some _=some _;simp[lj,Il,q];show some _=some _;simp[lj,Il,q];rintro u rfl;have m:=L.at_ f;have N:=L.at_ K;refine cO (cN m rfl) (rI (dI m λw8 k8 r=>?_));have r:w8.heap[p]? =some (.cells (xI d (iX H c[d])).toArray 101):=r;have an:=dz.lt_of_heap f;have O:=k8.fL N cL;refine ew (vs:=xI d (iX H c[d])) (λj v A=>by rw[dj];exact cN r (eV A)) (dI O λP k9 s=>?_);have s:P.heap[E]? =some (.cells (xI d (iX H c[d])).toArray 101):=s.trans (dE (λa=>some (Obj.cells a 101)) (ee (pK 101).toArray (xI d (iX H c[d])) rfl));have hl:Sem.run V.prog (loadVar 101 (dq E 0)) P=.ok (.agg (xI d (iX H c[d])).toArray) P:=jr (xI d (iX H c[d])) s λj v A=>by rw[dj];simpa using A
 exact⟨_,hl,_,rfl,rfl,((E6.trans L).cS k8 cL).cS k9 R⟩
def qW(x:Sx)(l:cM)(s:Nat):Bool:=py x (s/2)||(decide (0<l.length)&&decide (l.getLast?.getD 0/2=s/2))
def xJ(u:Du)(l:cM):Bool:=(l.any (λs=>decide (s%2=0))||!u.morning)&&(l.any (λs=>decide (s%2=1))||!u.evening)
def lA(L:Nat)(x:Sx)(u:Du):Nat->cM->Nat->List cM
 |0,_,_=>[]
 |f+1,l,a=>if(l.length:Int)=u.tries then(if xJ u l then [l]else [])else(List.range (L-a)).flatMap λi=>if qW x l (a+i)then []else lA L x u f (l++[a+i]) (a+i+1)
def fK(G:Gd):Nat:=(2*G.days).toNat
def ju(G:Gd)(x:Sx)(a:Nat):List cM:=lA (fK G) x (iX G x) (fK G+1) [] a
def pS(L:Nat)(x:Sx)(u:Du)(f:Nat)(l:cM)(a k:Nat):List cM:=(List.range k).flatMap λi=>if qW x l (a+i)then []else lA L x u f (l++[a+i]) (a+i+1)
theorem rR(L:Nat)(x:Sx)(u:Du)(f:Nat)(l:cM)(a k:Nat):pS L x u f l a (k+1)=pS L x u f l a k++if qW x l (a+k)then []else lA L x u f (l++[a+k]) (a+k+1):=by unfold pS;rw[mL,List.flatMap_append];simp
def GL(w:cI)(v:cJ)(l:cM):Prop:=(l=[]/\v=.slice none 0 0)\/∃b c a,v=.slice (some ⟨b,0,none⟩) l.length c/\l.length<=c/\w.heap[b]? =some (.cells a 3)/\a.size=c/\∀k (h:k<l.length),a[k]? =some (.int .i64 l[k])
def GL.row(h:GL w x l):∃a c,x=.slice a l.length c/\fN w a l/\l.length<=c:=by obtain⟨rfl,rfl⟩|⟨b,c,i,rfl,e,f,j,g⟩:=h;exact⟨none,0,rfl,λk d=>by simp at d,dg _⟩;exact⟨_,c,rfl,λk d=>⟨b,0,rfl,cN f (by rw[dj];exact g k d)⟩,e⟩
def GL.keep(h:GL w x l)(k:dA A w t)(d:∀b,cV x b->¬A b):GL t x l:=by obtain h|⟨b,c,e,a,f,g,i⟩:=h;exact .inl h;exact .inr ⟨b,c,e,a,f,k.fL g (d b ⟨_,_,a⟩),i⟩
theorem GL.blk(h:GL w x l)(a:cV x m):m<w.heap.size:=by have⟨_,_,a⟩:=a;obtain⟨_,rfl⟩|⟨d,c,e,rfl,f,b,_⟩:=h;cases a;injection a with a;have:=dE Addr.block (dQ a);simp only at this;subst this;exact dz.lt_of_heap b
structure EA(lv:cJ)(o o':Obj)(a b:cI):Prop where
 k:dA (cV lv) a b
 n:∀x ox,cV lv x->a.heap[x]? =some ox->b.heap[x]? =some ox\/(ox=o/\b.heap[x]? =some o')
def Vx(i:cJ)(o j:Obj):gJ (EA i o j):=by refine⟨λw=>⟨dA.refl _ w,λ_ _ _ h=>.inl h⟩,λa b c h k=>⟨h.k.trans k.k (λ_ _ h=>h) λ_ _ h=>h,λx e f l=>?_⟩,λw=>⟨(Ext.drew w).keep _,λx e _ h=>.inl h⟩⟩;obtain d|⟨d,m⟩:=h.n x e f l;exact k.n x e f d;obtain g|⟨g,p⟩:=k.n x _ f m;exact .inr ⟨d,g⟩;exact .inr ⟨d,p⟩
def Ext.ea(h:Ext w t)(a:cJ)(o b:Obj):EA a o b w t:=⟨h.keep _,λx d _ c=>.inl (h.at_ c)⟩
def GM(a:Nat)(d:cJ)(e:Obj)(l:cM)(v:cJ)(w:cI):Prop:=
 (∃b c,cV d b/\v=.slice (some ⟨b,0,none⟩) l.length c/\w.heap[b]? =some e/\GL w v l)\/(∃b c,a<=b/\v=.slice (some ⟨b,0,none⟩) l.length c/\GL w v l)
def zC{M:nB}{U:Array Bool}{o:Obj}{w0:cI}(W:GL w x l)(X:∀b,cV x b->w.heap[b]? =some o)(N:m<=w.heap.size)(O:l.length<=1000)(p:w.heap[k]? =some (.cells [Value.int .i64 s].toArray 3))(G:Obj)(H:∀b r,cV x b->o=.cells r 3->G=.cells (r.setIfInBounds l.length (.int .i64 s)) 3) (I:∀v n,GM m x G (l++[s]) v n->EA x o G w n->M v n):y8 V.prog (builtin .append #[27,27] T U #[x,.slice (some ⟨k,0,none⟩) 1 i]) w M:=by
 have Y:=n8;have⟨Z,Q,z,h2,h3,h4,E,h6,h7⟩:=Y;have E:Q.size=1:=E;obtain⟨rfl,rfl⟩|⟨b,g,r,rfl,aa,F,J,d⟩:=W;refine gR n8 (cZ.nil m 3 [i64 0] w) N p cL λv' n g1 g2 g3=>?_;have K:∀t,¬cV fl t:=λt a=>by have⟨_,_,a⟩:=a;cases a
 refine I v' n (.inr ?_) ⟨g2,λt ox a _=>absurd a (K t)⟩;obtain⟨h0,⟨ab,_⟩|⟨b,R,r,q1,rfl,q3,q4,q5,q6,q7,q8⟩⟩:=g1;omega;refine⟨b,R,q1,rfl,.inr ⟨b,R,r,rfl,eV q5,q3,eV q4,λj c=>?_⟩⟩;obtain rfl:j=0:=by simp at c;omega
 rw[q7 0 dt];rfl;have y:=X b ⟨_,_,rfl⟩;rw[F]at y;obtain rfl:=dQ y;have A:=H b r ⟨_,_,rfl⟩ rfl;by_cases e:l.length+1<=g;refine K3 (u:=i64 s) n8 F e cL (cN p rfl) rfl λn k' q=>I _ n (.inl ⟨b,g,⟨_,_,rfl⟩,dt,by rw[q,A],.inr ⟨b,g,_,dt,eV e,q,eV J,λj c=>?_⟩⟩) ⟨k'.trans (dA.refl (λ_=>False) n) (λt _ a=>by subst a;exact⟨_,_,rfl⟩) λ_ _ h=>h.elim,λt ox a B=>?_⟩;obtain f|C:=gu j l.length;rw[fZ cL,d j f,ml f];obtain rfl:j=l.length:=by simp at c;omega
 rw[oz cL];simp;have⟨_,_,a⟩:=a;injection a with a;have:=dE Addr.block (dQ a);simp only at this;subst this;rw[F]at B;exact .inr ⟨(dQ B).symm,by rw[q,A]⟩
 have hr:=run_append_grow (P:=V.prog) w 27 T 3 Q z Z h2 h3 (dq b 0) l.length g (gm l) (by simp[E,gm]) (λj u c=>by
  rw[Addr.add_lit];simp only[World.cell?,F,dj];have D:j<l.length:=by simpa[gm]using(kX.1 c).1
  rw[d j D];have:(gm l)[j]? =some (i64 (l[j]:Nat)):=by simp[gm,eZ D]
  rw[this]at c;simpa using c) (dq k 0) 1 i [i64 s] (by simp[E]) (λj v c=>by
  match j,c with
  |0,c=>cases c;rw[iq];exact cN p rfl) cL cL (growslice_fits cL (dw (Nat.mul_le_mul (show l.length+1<=1000000 by omega) h6) kA))
 have C:=grownCap_ge w (l.length+1) g 3;have L:z.cells.size=1:=by rw[h4];rfl
 refine⟨_,w.drew.alloc (.cells ((gm l).toArray++#[Value.int .i64 s]++Builtin.zeroCells z.cells (grownCap w (l.length+1) g 3-(l.length+1))) 3),?_,I (fa w.heap.size (l.length+1) (grownCap w (l.length+1) g 3)) _ (.inr ⟨w.heap.size,grownCap w (l.length+1) g 3,N,dt,.inr ⟨w.heap.size,grownCap w (l.length+1) g 3,_,dt,eV C,fX w.drew _,?_,λj c=>?_⟩⟩) (((Ext.drew w).trans (Ext.alloc _ _)).ea _ _ _)⟩;unfold builtin;simp only[Sem.run_bind,hr,Result.andThen_ok,Sem.run_pure];simp only[xZ,il,size_zeroCells,L,gm,lU,nR,fi,fO,pW];omega;have ac:j<l.length+1:=eV c;rw[Dy (by simp[gm];omega)];obtain f|S:=gu j l.length;simp[gm,uJ,f,eZ f];obtain rfl:j=l.length:=cL;simp[gm]
def P0(s a:Nat):Bool:=(List.range 5).all λd=>!s.testBit d||a.testBit d
def pf(G:Gd)(a s:Nat):Int:=if P0 s a then(match fh G s with
 |some b=>(b.length:Int)
 |none=> -1)else-1
def iK(G:Gd)(a k:Nat):eY:=(List.range 32).map λs=>if s<k then pf G a s else 0
def og(G:Gd)(b:List Sx)(a k:Nat):List (List cM):=((dU G.tries b).take k).map λd=>ju G (b.getD d qV) a
def dM(G:Gd)(b:List Sx)(a:Nat):eJ:=⟨dU G.tries b,(dU G.tries b).map λd=>ju G (b.getD d qV) a,iK G (eo (dU G.tries b)) (2^b.length)⟩
theorem CQ{x:Sx}{u:Du}:∀{f:Nat} {l:cM} {a:Nat} {c:cM},c∈lA m x u f l a->c.length<=l.length+f/\∀s∈c,s∈l\/s<m
 |0,l,a,c,h=>by cases h
 |f+1,l,a,c,h=>by simp only[lA]at h;split at h;split at h;rw[iv.1 h];exact⟨cL,λs d=>.inl d⟩;cases h;have⟨i,e,h⟩:=lq.1 h;have e:=fP.1 e;split at h;cases h;have⟨g,j⟩:=CQ h;simp only[lU,fi,fO]at g;refine⟨cL,λs d=>?_⟩;obtain b|b:=j s d;obtain b|b:=jy.1 b;exact .inl b;rw[iv.1 b];exact .inr cL;exact .inr b
theorem Lc:∀(n:Nat),((List.range n).map λi=>2^(n-1-i)).sum+1=2^n
 |0=>rfl
 |n+1=>by
  have b:=Lc n;rw[List.range_succ_eq_map,kY,List.sum_cons,List.map_map];have e:(List.range n).map ((λi=>2^(n+1-1-i))∘Nat.succ)=(List.range n).map λi=>2^(n-1-i):=by refine List.map_congr_left λi a=>?_;have:=fP.1 a;simp only[Function.comp];congr 1;omega
  rw[e];have:n+1-1-0=n:=cL;rw[this,Nat.pow_succ];omega
theorem P2{a:Type}{f g:a->Nat}:∀(l:List a),(∀x∈l,f x<=g x)->(l.map f).sum<=(l.map g).sum
 |[],_=>dg _
 |x::r,h=>by simp only[kY,List.sum_cons];exact Nat.add_le_add (h x fF) (P2 r λy b=>h y (ii _ b))
theorem AU{L:Nat}{x:Sx}{u:Du}:∀(f:Nat) (l:cM) (a:Nat),(lA L x u f l a).length<=2^(L-a)
 |0,l,a=>gi _
 |f+1,l,a=>by
  have c:1<=2^(L-a):=Nat.one_le_two_pow;simp only[lA];split;split;exact c;exact gi _;rw[List.length_flatMap];have d:((List.range (L-a)).map λi=>(if qW x l (a+i)then([]:List cM)else lA L x u f (l++[a+i]) (a+i+1)).length).sum<=((List.range (L-a)).map λi=>2^(L-a-1-i)).sum:=P2 _ λi b=>by have b:=fP.1 b;split;exact gi _;have:=AU (L:=L) (x:=x) (u:=u) f (l++[a+i]) (a+i+1);rwa[show L-(a+i+1)=L-a-1-i by omega]at this
  have:=Lc (L-a);omega
def AV(h:H.Ok):fK H<=6:=by have:=h.days;unfold fK;omega
def uq(h:H.Ok)(x:Sx)(a:Nat):(ju H x a).length<=64/\∀l∈ju H x a,l.length<=7/\∀s∈l,s<6:=by have g:=AV h;refine⟨?_,λl d=>?_⟩;have:=AU (L:=fK H) (x:=x) (u:=iX H x) (fK H+1) [] a;have b:2^(fK H-a)<=2^6:=Nat.pow_le_pow_right cL cL;exact dw this b;have⟨e,b⟩:=CQ d;simp only[fO]at e;refine⟨cL,λs f=>?_⟩;obtain c|c:=b s f;cases c;omega
theorem jI{a:List Sx}(h:d∈dU I a):d<a.length:=by have⟨b,_⟩:=nA.1 h;exact fP.1 b
def yx(T:Int)(a:List Sx):(dU T a).Nodup:=(List.nodup_range).filter _
def ur(T:Int)(a:List Sx):(dU T a).length<=a.length:=AK T a a.iN
theorem tF{most:Nat}:∀{doors b a:cM},fB H most doors b=some a->a.length<=b.length+doors.length
 |[],b,a,h=>by simp only[fB,iO]at h;subst h;simp
 |d::r,b,a,h=>by simp only[fB]at h;split at h;rename_i o e;obtain rfl:=dQ h;have⟨i,f,c⟩:=Oe e;split at c;have:=tF c;simp only[qG,fi]at this⊢;omega;cases c;split at h;have:=tF h;simp only[lU,fi,fO]at this⊢;omega;cases h
theorem lR{a:List cM}(h:fh H s=some a):a.length<=5:=by unfold fh at h;split at h;obtain rfl:=dQ h;simp;obtain⟨d,b,rfl⟩:=iC.1 h;have⟨m,_,c⟩:=Oe b;have:=tF c;have:=xH s;simp only[fO,nR]at*;omega
def MT(G:Gd)(a s:Nat): -1<=pf G a s/\pf G a s<=5:=by unfold pf;split;split;rename_i b h;have:=lR h;omega;omega;omega
def ED(G:Gd)(a k s:Nat)(b:s<32):(iK G a k).getD s 0=if s<k then pf G a s else 0:=by unfold iK;rw[gD,sN,List.getElem?_range b];rfl
def wE(G:Gd)(a k:Nat):(iK G a k).length=32:=by simp[iK]
def Hb{e:List Sx}(h:H.Ok)(f:e.length=H.doors.length)(a:Nat):(dM H e a).Ok:=by have n:=h.many;have g:=ur H.tries e;refine⟨by simp[dM],by simp only[dM];omega,yx _ _,λd j=>iD (jI j),λi b=>?_,λi b l f=>?_,λi b l f s k=>?_,wE _ _ _,λc m=>?_,?_⟩;obtain⟨d,_,rfl⟩:=kF.1 b;have:=(uq h (e.getD d qV) a).1;omega;obtain⟨d,_,rfl⟩:=kF.1 b;have:=((uq h (e.getD d qV) a).2 l f).1;omega;obtain⟨d,_,rfl⟩:=kF.1 b;exact((uq h (e.getD d qV) a).2 l f).2 s k;obtain⟨s,_,rfl⟩:=kF.1 m;split;exact MT _ _ _;omega;show(iK H _ _).getD 0 0=0;rw[ED _ _ _ _ cL,cT (Nat.two_pow_pos _)];rfl
def lB(A:dn)(d:Nat)(w:cI)(v:cJ)(a:List cM):Prop:=∃c:dN,cZ d 27 [.slice none 0 0] w v a.length c/\c.length=a.length/\∀k (h:k<a.length),∃u,c[k]? =some u/\eK d w u a[k]/\∀b,cV u b->¬A b
def lB.own{a:List cM}(h:lB A m w x a):fe m w x a:=by have⟨b,c,d,e⟩:=h;exact⟨b,c,d,λk f=>by have⟨u,g,i,_⟩:=e k f;exact⟨u,g,i⟩⟩
theorem lB.keep{a:List cM}(h:lB A m w x a)(k:dA B w t)(c:∀b,cV x b->¬B b)(q:∀u l b,eK m w u l->cV u b->¬A b->¬B b):lB A m t x a:=by have⟨d,e,f,g⟩:=h;refine⟨d,e.keep k c,f,λi j=>?_⟩;have⟨u,n,o,p⟩:=g i j;exact⟨u,n,cZ.keep o k cK,p⟩
def lB.ext{a:List cM}(h:lB A m w x a)(e:Ext w t):lB A m t x a:=h.keep (e.keep λ_=>False) cK cK
def lB.more{A A':dn}{a:List cM}(h:lB A m w x a)(d:∀b,A' b->A b\/w.heap.size<=b):lB A' m w x a:=by have⟨e,f,g,j⟩:=h;refine⟨e,f,g,λi k=>?_⟩;have⟨u,l,c,p⟩:=j i k;refine⟨u,l,c,λb n o=>?_⟩;obtain h|h:=d b o;grind;have:=(cZ.blk c n).2;omega
def GL.c3(h:GL w x l)(a:cV x m):∃b,w.heap[m]? =some (.cells b 3):=by have⟨_,_,a⟩:=a;obtain⟨_,rfl⟩|⟨d,c,b,rfl,e,f,_⟩:=h;grind;grind
theorem cZ.c_(h:cZ m T M w x k Y)(a:cV x i):∃b,w.heap[i]? =some (.cells b T):=by have⟨_,_,a⟩:=a;obtain⟨_,⟨_,rfl⟩|⟨d,c,b,_,rfl,e,_⟩⟩:=h;grind;grind
def lB.V4{a:List cM}(h:lB A m w x a)(b:cV x k):∃c,w.heap[k]? =some (.cells c 27):=by have⟨e,d,_⟩:=h;exact d.c_ b
def kS(h:w.heap[m]? =some (.cells W T))(a:w.heap[m]? =some (.cells X U))(b:T≠U):False:=by grind
def oh{b a l c l' c':Nat}(h:cV (.slice (some ⟨b,0,none⟩) l c) a):a=b:=by have⟨_,_,h⟩:=h;grind
structure LS(n0 m db ob wb xb gb:Nat):Prop where
 lo:n0<=ob/\n0<=m
 d:db<m/\db≠ob
 o:ob<m
 w:wb<m/\wb≠ob
 x:xb<m/\xb≠ob
 g:gb<m/\gb≠ob
def Ld(a b c d e:Nat):cJ:=.func (.func 165) #[] #[di a,di b,di c,di d,di e]
structure LC(w0:cI)(wp d:Nat)(u:Du)(db ob wb xb gb:Nat)(w:cI):Prop where
 e:Ext w0 w
 b1:w.heap[db]? =some (.cells (xI d u).toArray 101)
 b3:w.heap[wb]? =some (.cells #[di wp] 133)
 b4:w.heap[xb]? =some (.cells #[.int .i64 d] 3)
 b5:w.heap[gb]? =some (.cells #[Ld db ob wb xb gb] 209)
def LC.keep{u:Du}(h:LC w k d u i j o p s t)(S:LS w.heap.size m i j o p s)(a:dA A t e)(n:∀b,b<t.heap.size->A b->b=j\/m<=b):LC w k d u i j o p s e:=by have c:∀{b:Nat} {f:Obj},t.heap[b]? =some f->b<m->b≠j->¬A b:=cK;have q:=h.e.size;refine⟨⟨a.os.trans h.e.os,a.tape.trans h.e.tape,a.output.trans h.e.output,dw h.e.size a.size,dw h.e.drawn a.drawn,λb l=>(a.block b cL λr=>?_).trans (h.e.block b l)⟩,a.fL h.b1 (c h.b1 S.d.1 S.d.2),a.fL h.b3 (c h.b3 S.w.1 S.w.2),a.fL h.b4 (c h.b4 S.x.1 S.x.2),a.fL h.b5 (c h.b5 S.g.1 S.g.2)⟩;have:=S.lo;grind
def Vy(a:Nat)(d:cJ)(e:Obj)(l:cM)(v:cJ)(w:cI):Prop:=
 (∃b c k,d=.slice (some ⟨b,0,none⟩) k c/\v=.slice (some ⟨b,0,none⟩) l.length c/\w.heap[b]? =some e/\GL w v l)\/(∃b c,a<=b/\v=.slice (some ⟨b,0,none⟩) l.length c/\GL w v l)
def Vy.ea(h:Vy m x Q l y w)(e:EA x O Q w t)(j:∀a,cV x a->a<m):Vy m x Q l y t:=by
 obtain⟨a,c,k,rfl,rfl,d,o⟩|⟨a,c,p,rfl,d⟩:=h;have f:t.heap[a]? =some Q:=by obtain h|h:=e.n a _ ⟨_,_,rfl⟩ d;grind;grind
 refine .inl ⟨a,c,k,rfl,rfl,f,?_⟩;obtain⟨b,g⟩|⟨q,c',r,b,g,i,s,u⟩:=o;grind;refine .inr ⟨q,c',r,b,g,?_,s,u⟩;injection b with b;have:=dE Addr.block (dQ b);simp only at this;subst this;rw[d]at i;rw[f];exact i;exact .inr ⟨a,c,p,rfl,d.keep e.k λv z A=>zp (j v A) (oh (l':=0) (c':=0) z)⟩
def GL.ea(h:GL w x l)(e:EA x O Q w t)(d:∀a b,cV x a->O=.cells b 3->Q=.cells (b.setIfInBounds l.length (.int .i64 s)) 3):GL t x l:=by obtain h|⟨a,c,b,rfl,f,m,i,j⟩:=h;exact .inl h;obtain h|⟨h,g⟩:=e.n a _ ⟨_,_,rfl⟩ m;exact .inr ⟨a,c,b,rfl,f,h,i,j⟩;rw[d a b ⟨_,_,rfl⟩ h.symm]at g;refine .inr ⟨a,c,_,rfl,f,g,eV i,λk o=>?_⟩;rw[fZ cL];exact j k o
def P3{O:nB}{Q:Array Bool}{o q:Obj}(B:GL w x l)(a:∀b,cV x b->w.heap[b]? =some o\/w.heap[b]? =some q)(I:m<=w.heap.size)(j:l.length<=1000)(y:w.heap[k]? =some (.cells [Value.int .i64 s].toArray 3))(r:∀b z,cV x b->o=.cells z 3->q=.cells (z.setIfInBounds l.length (.int .i64 s)) 3) (F:∀b,cV x b->∃z,o=.cells z 3) (J:∀v c,Vy m x q (l++[s]) v c->EA x o q w c->O v c):y8 V.prog (builtin .append #[27,27] T Q #[x,.slice (some ⟨k,0,none⟩) 1 i]) w O:=by
 have conv:∀v c,GM m x q (l++[s]) v c->GL w x l->Vy m x q (l++[s]) v c:=λv c h g=>by
  obtain⟨b,i,f,rfl,C,D⟩|h:=h;obtain⟨_,rfl⟩|⟨K,c',z,rfl,g2,P,g4,g5⟩:=g;have⟨_,_,f⟩:=f;cases f;have:=oh (l':=0) (c':=0) f;subst this;have R:i=c':=by
   obtain⟨D,_⟩|⟨b2,c2,L,e,q2,A,q4,q5⟩:=D;simp at D;injection e with S e2 U;have:=dE Addr.block (dQ S);simp only at this;subst this;subst U;rw[C]at A;have⟨p,d⟩:=F b ⟨_,_,rfl⟩;have H:=r b p ⟨_,_,rfl⟩ d;have A:=dQ A;rw[H]at A;injection A with A;have W:L.size=p.size:=by rw[<-A];simp
   obtain a|a:=a b ⟨_,_,rfl⟩;rw[P,d]at a;have a:=dQ a;injection a with a;subst a;omega;rw[P,H]at a;have a:=dQ a;injection a with a;have:z.size=p.size:=by rw[a];simp
   omega
  subst R;exact .inl ⟨b,i,l.iN,rfl,rfl,C,D⟩;exact .inr h
 by_cases f:∃b,cV x b;have⟨b,f⟩:=f;have⟨p,d⟩:=F b f;obtain h|h:=a b f;refine zC (w0:=w) B (λK t=>?_) I j y q r λv c G E=>J v c (conv v c G B) E;have⟨_,_,e⟩:=f;have⟨_,_,u⟩:=t;rw[e]at u;injection u with u;have:=dE Addr.block (dQ u);simp only at this;subst this;exact h;have H:=r b p f d;refine zC (o:=q) (w0:=w) B (λK t=>?_) I j y q (λK z t e=>?_) λv c G E=>J v c (conv v c G B) ⟨E.k,λX Y Z M=>?_⟩;have⟨_,_,e⟩:=f;have⟨_,_,u⟩:=t;rw[e]at u;injection u with u;have:=dE Addr.block (dQ u);simp only at this;subst this;exact h;rw[H]at e⊢;injection e with e;subst e;simp;obtain C|⟨C,D⟩:=E.n X Y Z M;exact .inl C;exact .inl (by rw[D,C]);have N:∀b,¬cV x b:=λb h=>f ⟨b,h⟩;exact zC (o:=o) (w0:=w) B (λb h=>absurd h (N b)) I j y q r λv c G E=>J v c (conv v c G B) E
def Jo(L:Nat)(x:Sx)(u:Du)(f:Nat)(l:cM)(a:Nat)(h:¬(l.length:Int)=u.tries):lA L x u (f+1) l a=pS L x u f l a (L-a):=by simp only[lA,cR h,pS]
theorem Hc(h:0<l.length):l.getLast?.getD 0=l[l.length-1]:=by grind
theorem GL.v(h:GL w x l)(d:0<l.length):∃b c a,x=.slice (some ⟨b,0,none⟩) l.length c/\l.length<=c/\w.heap[b]? =some (.cells a 3)/\a.size=c/\∀k (h:k<l.length),a[k]? =some (.int .i64 l[k]):=by obtain⟨rfl,_⟩|h:=h;grind;grind
theorem Hd(h:cV x m)(a:cV x k):k=m:=by obtain⟨_,_,rfl⟩:=h;exact oh (l':=0) (c':=0) a
def P4(L:Nat)(x:Sx)(u:Du)(f:Nat)(l:cM)(a:Nat)(h:k<=m):(pS L x u f l a k).length<=(pS L x u f l a m).length:=by
 induction m with
 |zero=>grind
 |succ m d=>
  obtain b|c:=gu k (m+1);grind [rR,List.length_append];grind
def P5(A:dn)(m e:Nat)(f g:cJ)(l:cM)(d:List cM)(w c:cI):Prop:=
 dA (λb=>b=e\/cV g b\/cV f b) w c/\GL c f l/\∃a,c.heap[e]? =some (.cells #[a] 66)/\(∀b,cV a b->cV g b\/w.heap.size<=b)/\lB A m c a d
theorem AW{wp gp mk ms m d db ob wb xb gb:Nat}{r:List Sx}(hW:mK wp gp mk ms H r I w)(hd:d<r.length)(S:LS w.heap.size m db ob wb xb gb):∀(f:Nat) (l:cM) (j:Nat) (lv M:cJ) (Y:List cM) (A:dn) (z:cI),fK H+1<=j+f->l.length<=j->j<=fK H->(∀s∈l,s<6)->LC w wp d (iX H r[d]) db ob wb xb gb z->GL z lv l->(∀b,cV lv b->m<=b/\A b)->(∀b,A b->b<z.heap.size)->m<=z.heap.size->z.heap[ob]? =some (.cells #[M] 66)->lB A m z M Y->(∀b,cV M b->m<=b)->Y.length+(lA (fK H) r[d] (iX H r[d]) f l j).length<=100000->
  Calls V.prog 165 #[lv,.int .i64 j,di db,di ob,di wb,di xb,di gb] z (fM λv E=>P5 A m ob lv M l (Y++lA (fK H) r[d] (iX H r[d]) f l j) z E)
 |0,l,j,lv,M,Y,A,z,N,aV,aW,_,_,_,_,_,_,_,_,_,_=>cL
 |f+1,l,j,lv,M,Y,A,z,N,aV,aW,aX,hC,hL,af,hA,ay,an,ho,aY,aa=>by
  have aE:=hW.g.vN;have aZ:=aE.days;have bj:=AV aE;have a0:(fK H:Int)=2*H.days:=by grind [fK]
  have bk:l.length<=6:=cL;obtain⟨C,D,rfl,ag,a1⟩:=hL.row;have ao:∀b,(cV M b\/cV (.slice C l.length D) b)->b≠ob:=λb q e=>by subst e;have:=S.o;grind
  refine jb Tryz.func165 Tryz.ntmps165 ?_;refine dm (cO (cN hC.b1 rfl) (fc ⟨λh=>?_,λh=>?_⟩));have h:(l.length:Int)=(iX H r[d]).tries:=fH h;have hg:lA (fK H) r[d] (iX H r[d]) (f+1) l j=if xJ (iX H r[d]) l then [l]else []:=by simp only[lA,cT h]
  rw[hg]at aa⊢;have same:∀E,Ext z E->xJ (iX H r[d]) l=false->P5 A m ob (.slice C l.length D) M l (Y++(if xJ (iX H r[d]) l then [l]else [])) z E:=λE e N=>by rw[N,cR dt,List.append_nil];exact⟨e.keep _,hL.keep (e.keep λ_=>False) λ_ _ h=>h,M,e.at_ an,λb q=>.inl q,ho.ext e⟩
  refine dH (qU (p:=λs=>decide (s%2=0)) ⟨167,#[],#[],rfl,dt,λn z=>G1 n z⟩ l C D z ag cL)<|dH (qU (p:=λs=>decide (s%2=1)) ⟨168,#[],#[],rfl,dt,λn z=>G2 n z⟩ l C D z ag cL) ?_
  have take:∀{Q:QW} {l0:L},Sub [(0,.slice C l.length D),(3,di ob)] l0->xJ (iX H r[d]) l=true->(∀l' E,P5 A m ob (.slice C l.length D) M l (Y++(if xJ (iX H r[d]) l then [l]else [])) z E->Q .normal l' E)->dP V.prog 86 (gW Tryz.f165 4) l0 z Q:=λ{Q l0} hs aF hq=>by
   rw[cT aF]at hq aa;refine dP.jj hs ?_;clear hs;have aG:∀{b:Nat},cV M b->¬cV (.slice C l.length D) b:=λq ab=>by have⟨Z,g1⟩:=ho.V4 q;have⟨az,g2⟩:=hL.c3 ab;grind
   have av:¬cV M ob:=λq=>ao ob (.inl q) rfl;have aH:∀b,cV M b->b<z.heap.size:=λb q=>by have⟨Z,g1⟩:=ho.V4 q;grind
   refine gZ 4 dC (im (cV M)) (λa b h=>h.keep _)<| .exact M (λR e1=>cO (cN (e1.fL an av) rfl) gd) ?_;refine .rel (λu R=>eK z.heap.size R u l) (λu a b hu e=>cZ.keep hu e λx U a3=>by have:=(cZ.blk hu U).1;grind) (λR e1=>?_) ?_;have a4:fN R C l:=λk hk=>by obtain⟨b,o,rfl,hc⟩:=ag k hk;have⟨b2,c2,aI,J,_,_,_,_⟩:=hL.v cL;injection J with J;obtain⟨rfl,rfl⟩:b=b2/\o=0:=cK;exact⟨_,_,rfl,e1.fq hc λN=>aG N ⟨_,_,rfl⟩⟩
   exact cX (ng a4 cL) λu y ⟨J,hu⟩=>⟨hu.low e1.size,J⟩;refine .rel (λx R=>∃K u,x=fa K 1 1/\z.heap.size<=K/\R.heap[K]? =some (.cells [u].toArray 27)/\eK z.heap.size R u l) (λx a b ⟨K,u,P,O,W,h4⟩ e=>⟨K,u,P,O,e.fL W (λN=>cK),cZ.keep h4 e λx U a3=>by have:=(cZ.blk h4 U).1;grind⟩) (λR e1 u hu=>?_) ?_;refine er [u] 27 (λy K J ah q=>⟨⟨K,u,rfl,dw e1.size ah,q,cZ.ext hu J⟩,J⟩) ?_;obtain⟨a2,c2,rfl,_⟩:=eK.row hu;intro z;kernel_rfl;refine .spec (λv R=>lB A m R v (Y++[l])/\∀b,cV v b->cV M b\/z.heap.size<=b) (λv a b ⟨P,O⟩ e=>⟨P.ext e,O⟩) (λR e1 aJ a5 a6 bm=>?_) ?_;obtain⟨K,u,rfl,ah,ai,hu⟩:∃K u,aJ=fa K 1 1/\z.heap.size<=K/\R.heap[K]? =some (.cells [u].toArray 27)/\eK z.heap.size R u l:=a5;have⟨us,hr,bn,a7⟩:=ho.ext e1;have aK:u.oneCell'=true:=by obtain⟨a,c,rfl,_⟩:=eK.row hu;rfl
   refine gR Jh hr (dw ay e1.size) ai cK (λv' y g1 g2 g3=>⟨⟨⟨us++[u],cK,cK,λi hi=>?_⟩,λb q=>(g3 b q).imp id λh=>dw e1.size h⟩,g2⟩) rfl (by simp[sD,aK]);obtain ac|aL:=gu i Y.length;have⟨x,x1,x2,x3⟩:=a7 i ac;refine⟨x,cK,?_,x3⟩;rw[ml ac];exact cZ.keep x2 g2 (gU x2 hr cK);obtain rfl:i=Y.length:=cK;refine⟨u,cK,?_,λb q ha=>?_⟩;simp only[sj (dg _),lK,nQ];exact cZ.keep (eK.low hu ay) g2 (gU hu hr cK);have:=(cZ.blk hu q).1;grind;rintro R e1 bo ⟨aM,aN⟩ aJ _ a6 _;obtain⟨a9,c9,rfl,_,_⟩:=aM.own.row;refine dI (e1.fL an av) λy k2 a8=>hq _ _ ⟨e1.trans k2 (λx _ U=>.inr (.inl U)) (λx _ U=>.inl U),(hL.keep e1 λb q ab=>aG ab q).keep k2 λb q e=>ao b (.inr q) e,_,a8,aN,aM.keep k2 (λb q e=>?_) λu x b hu q _ e=>?_⟩;grind;have:=(cZ.blk hu q).1;have:=S.o;omega
  refine⟨λP=>?_,λP=>?_⟩;refine jX rfl ⟨λO=>?_,λO=>?_⟩;exact jX rfl (take (by trivial) (by grind [xJ]) λl' E h=>⟨_,rfl,h⟩);refine cO (cN hC.b1 rfl) (eC ⟨λW=>?_,λW=>?_⟩);exact take (by trivial) (by grind [xJ]) λl' E h=>⟨_,rfl,h⟩;exact⟨_,rfl,same _ (Ext.refl _) (by unfold xJ;grind)⟩;refine cO (cN hC.b1 rfl) (eC ⟨λW=>?_,λW=>?_⟩);refine⟨λO=>?_,λO=>?_⟩;exact jX rfl (take (by trivial) (by grind [xJ]) λl' E h=>⟨_,rfl,h⟩);refine cO (cN hC.b1 rfl) (eC ⟨λh4=>?_,λh4=>?_⟩);exact take (by trivial) (by grind [xJ]) λl' E h=>⟨_,rfl,h⟩;exact⟨_,rfl,same _ (Ext.refl _) (by unfold xJ;grind)⟩;exact lh rfl ⟨_,rfl,same _ (Ext.refl _) (by unfold xJ;grind)⟩;have h:¬(l.length:Int)=(iX H r[d]).tries:=iP h;rw[Jo _ _ _ _ _ _ h]at aa⊢
  refine fA (fK H-j) (λk (_:cJ)=>[(0,.slice C l.length D),(1,i64 j),(2,di db),(3,di ob),(4,di wb),(5,di xb),(6,di gb),(11,i64 (j+k:Nat))])
   (λk aA E=>LC w wp d (iX H r[d]) db ob wb xb gb E/\GL E (.slice C l.length D) l/\dA (λb=>b=ob\/cV M b\/cV (.slice C l.length D) b) z E/\fC E ob #[aA] 66/\(∀b,cV aA b->cV M b\/z.heap.size<=b)/\lB A m E aA (Y++pS (fK H) r[d] (iX H r[d]) f l j k)) M ⟨by trivial,hC,hL,dA.refl _ _,an,λb q=>.inl q,by grind [pS]⟩ ?_
  rintro k F R hk ⟨ae,ap,k1,aj,ak,aB⟩;have aO:=hW.ext ae.e;have⟨sa,sc,g1,g2,g3,g4⟩:=aO.at_;refine cO (cN ae.b3 rfl) (cO g1 (dH (last_at aO.g) (sv ⟨λaC=>?_,λaC=>?_⟩)));have ac:k<fK H-j:=by grind
  obtain⟨b,o,rfl,hc⟩:=g4 d hd;have bp:j+k<6:=cL;have ba:(j+k)/2<3:=cL;have aP:R.cell? (dq b (o+d*8+4+(j+k)/2))=some (.bool (py r[d] ((j+k)/2))):=by
   have:(nL r[d])[4+(j+k)/2]? =some (.bool (py r[d] ((j+k)/2))):=by obtain h0|h0|h0:(j+k)/2=0\/(j+k)/2=1\/(j+k)/2=2:=cL;all_goals rw[h0];rfl
   grind
  have skip:∀y,Ext R y->qW r[d] l (j+k)=true->LC w wp d (iX H r[d]) db ob wb xb gb y/\GL y (.slice C l.length D) l/\dA (λb=>b=ob\/cV M b\/cV (.slice C l.length D) b) z y/\fC y ob #[F] 66/\(∀b,cV F b->cV M b\/z.heap.size<=b)/\lB A m y F (Y++pS (fK H) r[d] (iX H r[d]) f l j (k+1)):=λy J hs=>by refine⟨ae.keep S (J.keep λ_=>False) λ_ _ h=>h.elim,ap.keep (J.keep λ_=>False) λ_ _ h=>h,k1.trans (J.keep λ_=>False) (λ_ _ h=>h) λ_ _ h=>h.elim,J.at_ aj,ak,?_⟩;rw[rR,cT hs,List.append_nil];exact aB.ext J
  refine dD dC (dl (cN ae.b3 rfl) (dl g2 (dl (cN ae.b4 rfl) (dx (i64 ((j+k)/2:Nat)) (λy _=>li (n:=2) dt cL gd) (jq d 8 hd (dx (qI b (o+d*8+4+(j+k)/2)) (λy _=>zA 3 ba gd) (dl aP ⟨λP=>?_,λP=>?_⟩)))))));exactλy J=>jX rfl (cW ⟨ac,F,by trivial,skip y J (by simp[qW,P])⟩)
  have aQ:∀{Q:QW} {l0:L} {y:cI},Sub [(0,.slice C l.length D),(1,i64 j),(2,di db),(3,di ob),(4,di wb),(5,di xb),(6,di gb),(11,i64 (j+k:Nat))] l0->Ext R y->qW r[d] l (j+k)=false->(∀al G ad E,(∃B,LC w wp d (iX H r[d]) db ob wb xb gb E/\GL E (.slice C l.length D) l/\dA (λb=>b=ob\/cV M b\/cV (.slice C l.length D) b) z E/\fC E ob #[B] 66/\(∀b,cV B b->cV M b\/z.heap.size<=b)/\lB A m E B (Y++pS (fK H) r[d] (iX H r[d]) f l j (k+1)))->Q .normal ((85,al)::(82,G)::(81,ad)::(84,i64 ((j+k:Nat)+1))::(83,i64 (j+k:Nat))::(80,i64 (j+k:Nat))::(79,.slice C l.length D)::(78,Ld db ob wb xb gb)::[(0,.slice C l.length D),(1,i64 j),(2,di db),(3,di ob),(4,di wb),(5,di xb),(6,di gb),(11,i64 (j+k:Nat))]) E)->dP V.prog 86 (gW Tryz.f165 9) l0 y Q:=λ{Q l0 y} hs J bb hq=>by
   refine dP.jj hs ?_;clear hs skip;have aD:=ae.keep S (J.keep λ_=>False) λ_ _ h=>h.elim;have aq:GL y (.slice C l.length D) l:=ap.keep (J.keep λ_=>False) λ_ _ h=>h;have k2:=k1.trans (J.keep λ_=>False) (λ_ _ h=>h) λ_ _ h=>h.elim;have aR:=J.at_ aj;have ar:=aB.ext J;have s2:z.heap.size<=y.heap.size:=k2.size;have aS:∀b,cV F b->m<=b:=λb q=>(ak b q).elim (aY b) λh=>dw ay h;have aw:∀b,cV (.slice C l.length D) b->b<y.heap.size:=λb q=>aq.blk q;have aH:∀b,cV F b->b<y.heap.size:=λb q=>by have⟨Z,h⟩:=ar.V4 q;grind
   have⟨o1,bc,bd⟩:∃o1:Obj,(∀b,cV (.slice C l.length D) b->y.heap[b]? =some o1)/\∀b,cV (.slice C l.length D) b->∃Z,o1=.cells Z 3:=by by_cases U:∃b,cV (.slice C l.length D) b;have⟨b,q⟩:=U;have⟨Z,bq⟩:=aq.c3 q;exact⟨.cells Z 3,λb' ab=>by grind [Hd],λ_ _=>⟨Z,rfl⟩⟩;exact⟨.cells #[] 3,λb q=>absurd ⟨b,q⟩ U,λb q=>absurd ⟨b,q⟩ U⟩
   have⟨o2,au⟩:∃o2:Obj,∀b Z,cV (.slice C l.length D) b->o1=.cells Z 3->o2=.cells (Z.setIfInBounds l.length (i64 (j+k:Nat))) 3:=by
    cases o1 with
    |cells Z t fz=>exact⟨.cells (Z.setIfInBounds l.length (i64 (j+k:Nat))) 3,λb az _ e=>cK⟩
    |_=>exact⟨.cells #[] 3,λb az _ e=>by cases e⟩
   have f9:∀{b},(b=ob\/cV F b\/cV (.slice C l.length D) b\/y.heap.size<=b)->b=ob\/m<=b:=λ{b} h=>by grind
   refine gZ 7 (Vx (.slice C l.length D) o1 o2) (im (λb=>b=ob\/cV F b\/cV (.slice C l.length D) b\/y.heap.size<=b)) (λa b h=>h.k.trans (dA.refl (λ_=>False) b) (λx _ U=>.inr (.inr (.inl U))) λ_ _ h=>h.elim) ?_;refine .exact (Ld db ob wb xb gb) (λX T=>cO (cN (T.fL aD.b5 λN=>by have:=S.g;grind) rfl) ⟨rfl,(Vx _ _ _).refl _⟩) ?_;refine .Mr (λv X=>∃K,v=fa K 1 1/\y.heap.size<=K/\X.heap[K]? =some (.cells [Value.int .i64 (j+k:Nat)].toArray 3)) (λv a b ⟨K,P,O,W⟩ e=>⟨K,P,O,e.k.fL W λN=>cK⟩) (λX T=>er [i64 (j+k:Nat)] 3 λw4 K e4 ah q=>⟨⟨K,rfl,dw T.size ah,q⟩,e4.ea _ _ _⟩) ?_;refine .early rfl (Vy y.heap.size (.slice C l.length D) o2 (l++[j+k])) (λv a b h e=>h.ea e aw) (λX T ad be=>?_) ?_;obtain⟨K,rfl,ah,ai⟩:∃K,ad=fa K 1 1/\y.heap.size<=K/\X.heap[K]? =some (.cells [Value.int .i64 (j+k:Nat)].toArray 3):=be;exact P3 (aq.ea T au) (λb q=>(T.n b o1 q (bc b q)).imp id (·.2)) T.k.size cL ai au bd λv w4 P O=>⟨P,O⟩;refine .exact (i64 ((j+k:Nat)+1)) (λX _=>cW (m:=(j+k:Nat)) (n:=1) ⟨rfl,(Vx _ _ _).refl _⟩) ?_
   refine .spec (λv X=>GL X (.slice C l.length D) l/\∃B,fC X ob #[B] 66/\(∀b,cV B b->cV F b\/y.heap.size<=b)/\lB A m X B ((Y++pS (fK H) r[d] (iX H r[d]) f l j k)++lA (fK H) r[d] (iX H r[d]) f (l++[j+k]) (j+k+1)))
    (λv a b ⟨P,B,O,W,h4⟩ e=>⟨P.ea e au,B,e.k.fL O λN=>ao ob (.inr N) rfl,W,h4.keep e.k (λb q ab=>by have⟨Z,q1⟩:=h4.V4 q;have⟨az,q2⟩:=P.c3 ab;grind) λu x b hu q ha N=>ha (af b N).2⟩) (λX T G am=>?_) ?_
   have am:Vy y.heap.size (.slice C l.length D) o2 (l++[j+k]) G X:=am;have ax:GL X G (l++[j+k]):=by obtain⟨_,_,_,_,_,_,h⟩|⟨_,_,_,_,h⟩:=am<;>exact h
   have aT:∀b,cV G b->cV (.slice C l.length D) b\/y.heap.size<=b:=λb q=>by obtain⟨b',c',k',q1,rfl,_⟩|⟨b',c',q1,rfl,_⟩:=am;exact .inl (by rw[q1,oh (l':=0) (c':=0) q];exact⟨_,_,rfl⟩);exact .inr (by rw[oh (l':=0) (c':=0) q];grind)
   have bf:=aD.keep S T.k λb _ N=>.inr (af b N).1;have bg:lB (λb=>A b\/cV G b) m X F (Y++pS (fK H) r[d] (iX H r[d]) f l j k):=by have P:=ar.more (A':=λb=>A b\/cV G b) λb q=>q.elim .inl λq=>(aT b q).imp (λh=>(af b h).2) id;exact P.keep T.k (λb q ab=>by have⟨Z,q1⟩:=ar.V4 q;grind) λu x b hu q ha N=>ha (.inl (af b N).2)
   have br:(l++[j+k]).length=l.length+1:=dt;have aU:(if qW r[d] l (j+k)then []else lA (fK H) r[d] (iX H r[d]) f (l++[j+k]) (j+k+1))=lA (fK H) r[d] (iX H r[d]) f (l++[j+k]) (j+k+1):=cK;have aC:=P4 (fK H) r[d] (iX H r[d]) f l j (show k+1<=fK H-j by omega);rw[rR,aU,lU]at aC;have ih:=AW hW hd S f (l++[j+k]) (j+k+1) G F (Y++pS (fK H) r[d] (iX H r[d]) f l j k) (λb=>A b\/cV G b) X cL cL cL (λs hs=>by grind) bf ax (λb q=>⟨(aT b q).elim (λh=>(af b h).1) λh=>cL,.inr q⟩) (λb q=>q.elim (λh=>zp (hA b h) T.k.size) λh=>ax.blk h) (iD T.k.size) (T.k.fL aR λN=>ao ob (.inr N) rfl) bg aS cK;refine cX ih ?_;rintro v w4 ⟨kk,bh,B,q1,q2,q3⟩;refine⟨⟨?_,B,q1,λb q=>(q2 b q).imp id λh=>dw T.k.size h,q3.more λb q=>.inl (.inl q)⟩,kk.trans (dA.refl (λ_=>False) w4) (λx _ U=>?_) λ_ _ h=>h.elim⟩;obtain⟨b',c',k',q4,rfl,q5,_⟩|⟨b',c',q4,rfl,_⟩:=am;injection q4 with q4 q6 q7;subst q4 q6 q7;have⟨b2,c2,aI,z1,z2,z3,z4,z5⟩:=bh.v dt;injection z1 with z1 _ z6;have:=dE Addr.block (dQ z1);simp only at this;subst this;subst z6;refine .inr ⟨_,_,aI,rfl,a1,z3,z4,λi hi=>?_⟩;grind;refine(aq.ea T au).keep kk λb q N=>?_;obtain h|h|h:=N;grind;have⟨Z,x1⟩:=ar.V4 h;grind;have:=aw b q;have:=oh (l':=0) (c':=0) h;omega;grind;rintro X T al ⟨P,B,O,W,h4⟩ G _ ad _;refine hq al G ad X ⟨B,aD.keep S T λb _ N=>f9 N,P,k2.trans T (λx _ U=>U) λx U N=>?_,O,λb q=>?_,?_⟩;grind;grind;rw[rR,bb,<-List.append_assoc];grind
  refine mz (AE ⟨λO=>?_,λO=>?_⟩);have O:0<l.length:=cK;have⟨bl,c,Z,e,q1,q2,q3,q4⟩:=ap.v O;injection e with e bs bi;subst e;subst bi;have bt:=q4 (l.length-1) cL;have bu:=aX _ (eB (show l.length-1<l.length by omega));refine mz (vo (gB (l.length-1) cL (dl (v:=i64 (l[l.length-1]:Nat)) (cN q2 cK) (dx (i64 (l[l.length-1]/2:Nat)) (λy _=>li (n:=2) dt cL gd) (dx (i64 ((j+k)/2:Nat)) (λy _=>li (n:=2) dt cL gd) (KV λy J=>⟨λW=>?_,λW=>?_⟩)))) cL));have W:l[l.length-1]/2=(j+k)/2:=Int.ofNat.inj (fH W);exact cW ⟨ac,F,by trivial,skip y J (by simp[qW,O,Hc O,W])⟩;have W:¬l[l.length-1]/2=(j+k)/2:=λe=>iP W cK;exact aQ (by trivial) J (by grind [Hc,qW]) λal G ad E ⟨B,hJ⟩=>cW ⟨ac,B,by trivial,hJ⟩;have O:¬0<l.length:=cK;exactλy J=>lh rfl (aQ (by trivial) J (by grind [qW]) λal G ad E ⟨B,hJ⟩=>cW ⟨ac,B,by trivial,hJ⟩);have aL:k=fK H-j:=by grind
  subst aL;exact⟨_,rfl,k1,ap,F,aj,ak,aB⟩
def Ext.tG(h:Ext w t)(k:dA A t e)(c:∀b,A b->w.heap.size<=b):Ext w e:=
 ⟨k.os.trans h.os,k.tape.trans h.tape,k.output.trans h.output,dw h.size k.size,dw h.drawn k.drawn,λx a=>(k.block x (ep a h.size) λd=>iD (c x d)).trans (h.block x a)⟩
theorem fe.low{a:List cM}(h:fe m w x a)(b:k<=m):fe k w x a:=by have⟨c,d,e,f⟩:=h;exact⟨c,d.low b,e,λg i=>by have⟨u,j,l⟩:=f g i;exact⟨u,j,l.low b⟩⟩
def He{wp gp mk ms:Nat}{o:List Sx}(h:mK wp gp mk ms H o I w)(L:d<o.length)(F:vO 100000 o[d])(U:m<=fK H):
 Calls V.prog 120 #[di wp,.int .i64 d,.int .i64 m] w (fM λv M=>Ext w M/\fe w.heap.size M v (ju H o[d] m)):=by
 have t:=h.g.vN;have W:=AV t;refine jb Tryz.func120 Tryz.ntmps120 ?_;refine eH λX A G Y e=>eH λN B u O f=>?_;have e:fC X A #[di wp] 133:=e;have f:fC N B #[i64 d] 3:=f;refine cO (cN (u.at_ e) rfl) (cO (cN f rfl) (cX (Vw (h.ext (G.trans u)) L F) ?_));rintro v w3 ⟨rfl,P⟩;refine eS λw4 C Z J x=>dI x λQ k5 j=>?_;have j:Q.heap[C]? =some (.cells (xI d (iX H o[d])).toArray 101):=j.trans (dE (λa=>some (Obj.cells a 101)) (ee (pK 101).toArray (xI d (iX H o[d])) rfl));have p:Ext N Q:=P.trans (Z.cS k5 J);have aa:=dz.lt_of_heap e;have ab:=dz.lt_of_heap f;have ac:=dz.lt_of_heap j;refine eS λR D y ad l=>eS λw7 E e7 K z=>dI z λq k8 i=>?_;have l:fC R D #[fl] 66:=l;have ae:=dz.lt_of_heap l;have i:fC q E #[Ld C D A B E] 209:=i;have af:=dz.lt_of_heap i;have r:Ext R q:=e7.cS k8 K;have s1:=G.size;have s2:=u.size;have s3:=P.size;have s5:=p.size;have s6:=y.size;have s8:=r.size;have S:LS w.heap.size q.heap.size C D A B E:=⟨cL,cL,cL,cL,cL,cL⟩;have T:Ext w q:=((G.trans u).trans p).trans (y.trans r);have hC:LC w wp d (iX H o[d]) C D A B E q:=⟨T,(y.trans r).at_ j,((u.trans p).trans (y.trans r)).at_ e,(p.trans (y.trans r)).at_ f,i⟩;have c:∀b,¬cV fl b:=λb n=>by have⟨_,_,n⟩:=n;cases n
 have n:=(uq t o[d] m).1;have hg:=AW h L S (fK H+1) [] m fl fl [] (λ_=>False) q cL (gi _) U (λs hs=>by cases hs) hC (.inl ⟨rfl,rfl⟩) (λb n=>absurd n (c b)) (λb n=>n.elim) (dg _) (r.at_ l) ⟨[],cZ.nil _ _ _ _,rfl,λk hk=>by simp at hk⟩ (λb n=>absurd n (c b)) (by show 0+(ju H o[d] m).length<=100000;omega);refine cO (cN i rfl) (cX hg ?_);rintro v w9 ⟨k9,_,ov,q1,q2,q3⟩;refine cO (cN q1 rfl) ⟨_,rfl,T.tG k9 λb n=>?_,q3.own.low cL⟩;obtain h|h|h:=n;omega;exact absurd h (c b);exact absurd h (c b)
def WQ:Ij 64 66 [.slice none 0 0]:=⟨dt,Tryz.t66,_,eE,rfl,eE,eE,by decide+kernel,cK⟩
theorem fe.keep{n0:Nat}{w w':cI}{v:cJ}{d:List cM}{F:dn}(h:fe n0 w v d)(k:dA F w w')(p:∀b a t,F b->w.heap[b]? =some (.cells a t)->t=27\/t=3->False):fe n0 w' v d:=by have⟨g,e,j,l⟩:=h;refine⟨g,e.keep k λb c m=>?_,j,λi n=>?_⟩;have⟨a,q⟩:=e.c_ c;grind;have⟨u,o,f⟩:=l i n;refine⟨u,o,cZ.keep f k λb c m=>?_⟩;have⟨a,q⟩:=cZ.c_ f c;grind
def fe.UB{n0:Nat}{w w':cI}{v:cJ}{c:List cM}{F:dn}(h:fe n0 w v c)(k:dA F w w')(d:∀b,n0<=b->¬F b):fe n0 w' v c:=by have⟨g,e,j,l⟩:=h;refine⟨g,e.keep k λb a=>d b (e.blk a).1,j,λi m=>?_⟩;have⟨u,n,f⟩:=l i m;exact⟨u,n,cZ.keep f k λb a=>d b (cZ.blk f a).1⟩
def j5(n0:Nat)(w:cI)(v:cJ)(lss:List (List cM)):Prop:=∃a:dN,cZ n0 66 [.slice none 0 0] w v lss.length a/\a.length=lss.length/\∀k (h:k<lss.length),∃u,a[k]? =some u/\fe n0 w u lss[k]
section
variable{n0:Nat}{w w':cI}{v:cJ}{lss:List (List (List Nat))}
theorem j5.ext(h:j5 n0 w v lss)(e:Ext w w'):j5 n0 w' v lss:=by have⟨a,b,c,d⟩:=h;refine⟨a,b.ext e,c,λk f=>?_⟩;have⟨u,g,i⟩:=d k f;exact⟨u,g,i.ext e⟩
theorem j5.iF{m:Nat}(h:j5 n0 w v lss)(e:jH m w w'):j5 n0 w' v lss:=by have⟨a,b,c,d⟩:=h;refine⟨a,b.iF e,c,λk f=>?_⟩;have⟨u,g,i⟩:=d k f;exact⟨u,g,i.iF e⟩
theorem j5.keep{F:dn}(h:j5 n0 w v lss)(k:dA F w w')(n:∀b a t,F b->w.heap[b]? =some (.cells a t)->t=66\/t=27\/t=3->False):j5 n0 w' v lss:=by have⟨d,c,e,f⟩:=h;refine⟨d,c.keep k λb g o=>?_,e,λi j=>?_⟩;have⟨a,q⟩:=c.c_ g;grind;have⟨u,l,m⟩:=f i j;exact⟨u,l,m.keep k cK⟩
theorem j5.v_(h:j5 n0 w v lss):∃a c,v=.slice a lss.length c:=by have⟨d,b,_⟩:=h;have⟨a,c,e,_⟩:=b.len;grind
theorem j5.nil(n0:Nat)(w:cI):j5 n0 w (.slice none 0 0) []:=⟨[],cZ.nil _ _ _ _,rfl,cK⟩
end
def P7{w:cI}{k:nB}{t:Array Bool}{n0:Nat}{v:cJ}{lss:List (List cM)}(h:j5 n0 w v lss)(m:n0<=w.heap.size){b c:Nat}{u:cJ}{o:List cM}(p:fe n0 w u o)(e:w.heap[b]? =some (.cells [u].toArray 66))(f:lss.length+1<=1000000) (y:∀g w',j5 n0 w' g (lss++[o])->dA (cV v) w w'->(∀b,cV g b->n0<=b)->k g w'):y8 V.prog (builtin .append #[64,64] T t #[v,.slice (some ⟨b,0,none⟩) 1 c]) w k:=by
 have⟨z,r,F,A⟩:=h;have j:u.oneCell'=true:=by obtain⟨a,c,rfl,_⟩:=p.row;rfl
 have d:∀b s T,cV v b->fC w b s T->T=27\/T=3->False:=λb s T e G H=>by have⟨B,q⟩:=r.c_ e;grind
 refine gR WQ r m e f (λg w' C n I=>y g w' ⟨z++[u],cK,cK,λi J=>?_⟩ n λb e=>(C.blk e).1) rfl (by simp[sD,j]);obtain l|D:=gu i lss.length;have⟨x,K,E⟩:=A i l;refine⟨x,cK,?_⟩;rw[ml l];exact E.keep n d;obtain rfl:i=lss.length:=cK;refine⟨u,cK,?_⟩;simp only[sj (dg _),lK,nQ];exact p.keep n d
def Hf(n0:Nat)(w:cI)(b:Nat):Prop:=n0<=b/\∃a t c,w.heap[b]? =some (.cells a t c)
def cZ.Rx{a:Type}{n0:Nat}{z:cJ}{w:cI}{v:cJ}{d:dN}{l:List a}{E:cI->cJ->a->Prop}(h:cZ n0 T [z] w v l.length d)(j:∀k (h:k<l.length),∃u,d[k]? =some u/\E w u l[k]):jY (Hf n0 w) E z T w v l:=by obtain⟨m,⟨n,rfl⟩|⟨b,c,e,o,rfl,f,g,p,x,q,r⟩⟩:=h;exact .inl ⟨oA n,rfl⟩;simp only[fi,fO,pW,dj]at m g;refine .inr ⟨b,c,e,(0,0),⟨o,e,T,(0,0),f⟩,rfl,f,g,p,λk i=>?_,λk i y=>?_⟩;have⟨u,s,t⟩:=j k i;exact⟨u,by rw[q k cL];exact s,t⟩;rw[r k cL cL];simp[Nat.mod_one]
theorem eK.Rx{n0:Nat}{w:cI}{v:cJ}{l:cM}(h:eK n0 w v l):xq (Hf n0 w) w v l:=cZ.Rx h λk a=>⟨i64 l[k],by simp[gm,eZ a],rfl⟩
theorem fe.Rx{n0:Nat}{w:cI}{v:cJ}{a:List cM}(h:fe n0 w v a):Al (Hf n0 w) w v a:=by have⟨g,b,i,c⟩:=h;exact cZ.Rx b λk d=>by have⟨u,e,f⟩:=c k d;exact⟨u,e,f.Rx⟩
theorem j5.Rx{n0:Nat}{w:cI}{v:cJ}{lss:List (List cM)}(h:j5 n0 w v lss):wl (Hf n0 w) w v lss:=by have⟨f,a,g,b⟩:=h;exact cZ.Rx a λk c=>by have⟨u,d,e⟩:=b k c;exact⟨u,d,e.Rx⟩
def AX(b c d:cJ)(a:eY):(dX b c d a).size=3+a.length:=by simp[dX];omega
def B6(a b c:cJ)(d:eY)(k:Nat)(v:Int):(dX a b c d).setIfInBounds (3+k) (.int .i64 v)=dX a b c (d.set k v):=by grind [List.map_set,dX]
def AY(a b d u:cJ)(c:eY):(dX a b d c).setIfInBounds 2 u=dX a b u c:=by unfold dX;simp
def B7(G:Gd)(a:Nat):iK G a 0=List.replicate 32 0:=by unfold iK;simp only[Nat.not_lt_zero,fj];rfl
def qv(G:Gd)(a k:Nat)(b:k<32):iK G a (k+1)=(iK G a k).set k (pf G a k):=by apply List.ext_getElem?;intro i;unfold iK;grind
def Hg:∀s:Nat,s<32->∀a:Nat,a<32->(decide (b8 .andNot s a=0))=P0 s a:=by decide+kernel
def SZ:∀n:Nat,n<=5->IntKind.u8.wrap (1*2^n)=((2^n:Nat):Int):=by decide+kernel
def WS:∀n:Nat,n<=5->∀s:Nat,s<2^n->s<32/\∀d∈eh s,d<n:=by decide+kernel
def EE{w:cI}{k:nB}{x y:dW}{m n:Nat}(b:m+n<256)(h:k (.int .u8 ((m+n:Nat):Int)) w):jL V.prog (do eqGuard .add T x y (.int .u8 m) (.int .u8 n);binOp .add T (.int .u8 m) (.int .u8 n)) w k:=by refine⟨_,w,?_,h⟩;go_simp;have a:IntKind.u8.signed=false:=rfl;unfold IntKind.wrap;simp[IntKind.bits,a];omega
def Lf{f:IntKind}{t b o:Nat}{w:cI}{k:nB}(a n:Nat)(m:a<n)(h:k (.pointer (some ⟨b,o+a,none⟩)) w)(g:I=(a:Nat):=by rfl)(i:ty t=some ⟨2,n,1,n⟩:=by rfl):jL V.prog (Instr.indexAt t (.pointer (some ⟨b,o,none⟩)) (.int f I)) w k:=by subst g;have⟨e,j,l⟩:=GR i rfl;refine⟨_,w,?_,h⟩;have c:(a:Int)<(n:Int):=cL;have d:(0:Int)<=(a:Int):=dt;unfold Instr.indexAt;simp only[asIntOf,Instr.sureAddr,pure_bind,Sem.run_bind,iz j,Result.andThen_ok,Sem.run_pure,d,c,and_self,ej,mX l,ny,iq,pW]
def UC{w:cI}{s:dB}{b:Nat}{e f g:cJ}{c:eY}{k:Nat}{v:Int}(i:w.heap[b]? =some (.cells (dX e f g c) 207))(m:k<c.length)(h:∀w',dA (λx=>x=b) w w'->w'.heap[b]? =some (.cells (dX e f g (c.set k v)) 207)->s w'):Ed V.prog (Instr.storeAt 3 (.pointer (some ⟨b,3+k,none⟩)) (.int .i64 v)) w s:=
 jp i (by rw[AX];show 3+k+1<=_;omega) (λw' j d=>h w' j (d.trans (dE (λa=>some (Obj.cells a 207)) (B6 _ _ _ _ _ _)))) (gK (l:=[i64 v]) rfl)
def P8(a:cJ)(w:cI):Calls V.prog 186 #[a] w (fM λv b=>v=a/\b=w):=by refine jb Tryz.func186 Tryz.ntmps186 ?_;exact⟨_,rfl,rfl,rfl⟩
def Vz:eY:=List.replicate 32 0
def AZ{wp gp mk ms n0:Nat}{f:List Sx}(h:mK wp gp mk ms H f I w)(hA:∀b,A b->b<w.heap.size)(hp:mg A mk ms H w)(ax:n0<=mk)(ay:n0<=ms)(az:∀x∈f,vO 100000 x)(P:k<=fK H):
 Calls V.prog 162 #[di wp,.int .i64 k] w (fM λv D=>MA n0 mk ms H A w D/\∃s,v=di s/\fY (Hf w.heap.size D) s (dM H f k) D):=by
 have ak:=h.g.vN;have h5:=ak.many;have al:=h.len;refine jb Tryz.func162 Tryz.ntmps162 ?_;refine dH (P8 _ _) (cX (Ep h) ?_);rintro ov w1 ⟨e1,am⟩;have aI:=ur H.tries f;obtain⟨L,Q,rfl,_,aK⟩:=am.row;refine ez (.agg (dX (di wp) (.slice L (dU H.tries f).length Q) (fl) Vz)) (eH λw2 s e2 aL E=>?_);have E:fC w2 s (dX (di wp) (.slice L (dU H.tries f).length Q) (fl) Vz) 207:=E;refine cO (cN E rfl) (dm ?_);have⟨O,hO⟩:=jQ (Value.slice L (dU H.tries f).length Q);have aJ:(dU H.tries f).length<=5:=cL;have s1:=e1.size;have E2:=e1.trans e2;refine jG (n:=(dU H.tries f).length) (λi v=>[(0,di wp),(1,i64 k),(5,di s),(21,.slice L (dU H.tries f).length Q),(22,i64 (dU H.tries f).length),(23,i64 i)]) (λi v D=>Ext w D/\eK w.heap.size D O (dU H.tries f)/\fC D s (dX (di wp) O v Vz) 207/\j5 w.heap.size D v (og H f k i)) (fl) ⟨by trivial,E2,by rw[hO];exact am.ext e2,by rw[hO];exact E,by simpa[og]using j5.nil _ _⟩ ?_ ?_ ?_;rintro i v M hk hJ;exact dK ⟨rfl,rfl,by trivial,hJ⟩;rintro i v M hk ⟨e3,B,j,C⟩;have R:fN M L (dU H.tries f):=by have⟨a,c,q1,q2,_⟩:=B.row;rw[hO]at q1;injection q1 with q1;rw[q1];exact q2
 obtain⟨b,o,rfl,hc⟩:=R i hk;have F:=jI (eB hk);have⟨d,hd⟩:=jQ ((dU H.tries f)[i]);rw[<-hd]at hc F;refine eX i hk (cO hc ?_);have S:∀b,cV v b->w.heap.size<=b/\b<M.heap.size:=λb l=>by have⟨us,hr,_⟩:=C;exact hr.blk l
 have ad:¬cV v s:=λl=>by have⟨us,hr,_⟩:=C;have⟨cs,q⟩:=hr.c_ l;exact kS q j kA
 refine gZ 10 dC (im (cV v)) (λa b h=>h.keep _)<| .exact v (λy G=>cO (cN (G.fL j ad) rfl) gd)<| .rel (λu y=>fe M.heap.size y u (ju H f[d] k)) (λu a b hu e=>hu.UB e λx T ae=>iD ((S x ae).2)) (λy G=>?_) ?_;have aA:Ext w y:=e3.tG G λx T=>(S x T).1;exact cX (He (h.ext aA) F (az _ (eB F)) P) λu w5 ⟨e5,hu⟩=>⟨hu.low G.size,e5⟩;refine .rel (λx y=>∃N u,x=fa N 1 1/\M.heap.size<=N/\y.heap[N]? =some (.cells [u].toArray 66)/\fe M.heap.size y u (ju H f[d] k)) (λx a b ⟨N,u,h1,h2,h3,h4⟩ e=>⟨N,u,h1,h2,e.fL h3 (λP=>iD ((S N P).2)),h4.UB e λx T ae=>iD ((S x ae).2)⟩) (λy G u hu=>?_) ?_;refine er [u] 66 (λw5 N e5 an l=>⟨⟨N,u,rfl,dw G.size an,l,fe.ext hu e5⟩,e5⟩) ?_;obtain⟨a2,c2,rfl,_⟩:=fe.row hu;intro w;kernel_rfl;refine .spec (λv' y=>j5 w.heap.size y v' (og H f k (i+1))) (λv a b h1 e=>h1.ext e) (λy G ao aB aC aM=>?_) ?_;obtain⟨N,u,rfl,an,ap,hu⟩:∃N u,ao=fa N 1 1/\M.heap.size<=N/\y.heap[N]? =some (.cells [u].toArray 66)/\fe M.heap.size y u (ju H f[d] k):=aB;refine P7 (C.ext G) (zp e3.size G.size) (hu.low e3.size) ap (by simp[og];omega) λv' w5 g1 g2 _=>⟨?_,g2⟩;have:og H f k (i+1)=og H f k i++[ju H f[d] k]:=by unfold og;rw[iw hk,oC,kY,uL,<-hd,getD_eq F]
 rw[this];exact g1;rintro y G aN aq ao _ aC _;obtain⟨a9,c9,rfl⟩:=j5.v_ aq;refine dI (G.fL j ad) λw5 k5 aD=>cW ⟨_,by trivial,(e3.tG G λx T=>(S x T).1).cS k5 cL,?_,aD.trans (dE (λa=>some (Obj.cells a 207)) (AY _ _ _ _ _)),aq.keep k5 λb cs t l hc ht=>?_⟩;refine cZ.keep (cZ.keep B G λb l P=>?_) k5 λb l P=>?_;have⟨us,hr,_⟩:=C;have⟨cs,q⟩:=hr.c_ P;have⟨ar,q'⟩:=cZ.c_ B l;exact kS q q' kA;subst P;have⟨ar,q'⟩:=cZ.c_ B l;exact kS j q' kA;subst l;exact kS (G.fL j ad) hc (by obtain rfl|rfl|rfl:=ht<;>decide);rintro v M ⟨e3,B,j,C⟩;subst hO;have U:j5 w.heap.size M v (dM H f k).lists:=by
  have:og H f k (dU H.tries f).length=(dM H f k).lists:=by unfold og dM;rw[jN]
  rw[<-this];exact C
 clear C;have R:fN M L (dU H.tries f):=by have⟨a,c,q1,q2,_⟩:=B.row;injection q1 with q1;rw[q1];exact q2
 have h3:=h.ext e3;have⟨sa,sc,g1,g2,g3,g4⟩:=h3.at_;have⟨da,dc,d1,d2⟩:=h3.g.c6;refine cO (cN j rfl) (dH (uo (dU H.tries f) L Q M R (λd hd=>iD (jI hd)) cL) (cO g1 (cO d1 (dm (Vn cL ?_)))));rw[SZ _ h5];have aO:2^H.doors.length<=32:=Nat.pow_le_pow_right cL h5;have⟨p,W⟩:=jQ (eo (dU H.tries f));rw[<-W];have J:p<32:=by rw[W];exact nf _ 0 cL λd hd=>iD (jI hd)
 have aP:=dz.lt_of_heap j;have s3:=e3.size;have aE:mg (λx=>A x\/x=s) mk ms H M:=(hp.more (A':=λx=>A x\/x=s) λb l=>l.imp id λh=>cL).ext e3;refine ft (n:=2^H.doors.length) (λi=>[(0,di wp),(5,di s),(8,.int .u8 p),(55,.int .u8 (2^H.doors.length:Nat)),(56,.int .u8 i)]) (λi D=>jH n0 w D/\mg (λx=>A x\/x=s) mk ms H D/\eK w.heap.size D (.slice L (dU H.tries f).length Q) (dU H.tries f)/\fC D s (dX (di wp) (.slice L (dU H.tries f).length Q) v (iK H p i)) 207/\j5 w.heap.size D v (dM H f k).lists) ⟨by trivial,e3.iF n0,aE,B,by rw[B7];exact j,U⟩ ?_ ?_ ?_;rintro i y hk hJ;exact dK ⟨rfl,rfl,by trivial,hJ⟩;rintro i y hk ⟨m4,af,ag,z,U⟩;have r:i<32:=cL;have aQ:=wE H p i;refine Lf i 32 r (UC z cL λw5 k5 X=>?_);have Y:∀{a b:cI},dA (λx=>x=s) a b->fC a s (dX (di wp) (.slice L (dU H.tries f).length Q) v (iK H p i)) 207\/fC a s (dX (di wp) (.slice L (dU H.tries f).length Q) v ((iK H p i).set i (-1))) 207->eK w.heap.size a (.slice L (dU H.tries f).length Q) (dU H.tries f)->j5 w.heap.size a v (dM H f k).lists->eK w.heap.size b (.slice L (dU H.tries f).length Q) (dU H.tries f)/\j5 w.heap.size b v (dM H f k).lists:=λkk l ha hl=>by refine⟨cZ.keep ha kk λx T P=>?_,hl.keep kk λx cs t P hc ht=>?_⟩;have⟨ar,q'⟩:=cZ.c_ ha T;subst P;obtain l|l:=l<;>exact kS l q' kA;subst P;obtain l|l:=l<;>exact kS l hc (by obtain rfl|rfl|rfl:=ht<;>decide)
 have⟨ah,ai⟩:=Y k5 (.inl z) ag U;have m5:jH n0 w w5:=m4.cS k5 cL;have aj:=af.keep k5 λx T=>.inr T;refine SO _ rfl (gQ ⟨λhn=>?_,λhn=>?_⟩);have K:P0 i p=false:=by rw[<-Hg i r p J];simpa using hn
 refine EE (m:=i) (n:=1) cL ⟨by trivial,m5,aj,ah,?_,ai⟩;rw[qv _ _ _ r,pf,K];exact X;have K:P0 i p=true:=by rw[<-Hg i r p J];simpa using hn
 have au:=h.iF m5;have⟨aR,aS,z1,z2,z3,z4⟩:=au.at_;have aF:∀b,(A b\/b=s)->b<w5.heap.size:=λb l=>l.elim (λl=>zp (hA b l) m5.size) λe=>by subst e;exact dz.lt_of_heap X
 refine cO z1 (cX (AT au.g aF aj ax ay (WS _ h5 i hk)) ?_);rintro v6 w6 ⟨m6,u,b,rfl,aa⟩;have av:=m5.trans m6.1;have aw:=m6.2 aj;have Z:=m6.1.at_ X;cases ab:fh H i with
 |none=>
  rw[ab]at aa;obtain⟨rfl,rfl⟩:=aa;refine lh rfl (EE (m:=i) (n:=1) cL ⟨by trivial,av,aw,cZ.iF ah m6.1,?_,ai.iF m6.1⟩);rw[qv _ _ _ r,pf,K,ab];exact Z
 |some ls=>
  rw[ab]at aa;obtain⟨rfl,a,c,rfl,_,_⟩:=aa;refine jX rfl (dm (Lf i 32 r (UC Z (by rw[qG];omega) λw7 k7 ac=>EE (m:=i) (n:=1) cL ?_)));have⟨aG,aH⟩:=Y k7 (.inr Z) (cZ.iF ah m6.1) (ai.iF m6.1);refine⟨by trivial,av.cS k7 cL,aw.keep k7 λx T=>.inr T,aG,?_,aH⟩;rw[qv _ _ _ r,pf,K,ab];rw[List.set_set]at ac;exact ac
 rintro y ⟨m4,af,ag,z,U⟩;refine⟨_,rfl,⟨m4,λ_=>af.fewer λb l=>.inl l⟩,s,rfl,Hb ak al k,⟨cL,_,_,_,z⟩,di wp,_,v,(0,0),.inr ⟨_,rfl⟩,?_,ag.Rx,U.Rx⟩;rw[z,W,<-al];rfl
end Go.Proofs.W
namespace Go.Proofs.W
open Go.Conc Go.dz Go.dz.Cr Go.dz.Wg Go.RowKit Go.Conc.Lib Go.ConcR.Gen
open Go.ConcN Go.ConcN.Gen
open Go.ConcR (KK wgBlock WgAt stA smA mk DC0)
abbrev LF:List Nat:=[193,194]
def Ya:LF.all (okF LF true (λ_=>false))=true:=eE
def ut{l:eY}(h:(ie l m)[i]? =some x):∃n,x=.int .i64 n:=by
 have a:x∈(l.map (Value.int .i64)++List.replicate (m-l.iN) (Value.int .i64 0)):=by have:=xY h;simpa[ie]using this
 grind
def P9(h:∀(i:Nat) v,W[i]? =some v->∃n,v=.int .i64 n):fW R W W:=
 ⟨rfl,λi v c a b=>by rw[a]at b;cases b;obtain⟨n,rfl⟩:=h i v a;exact .int _ _⟩
def Lg(h:∀(i:Nat) v,W[i]? =some v->∃n,v=.int .i64 n)(a:fW R W X):X=W:=by refine Array.ext a.size.symm λi c d=>?_;have b:W[i]? =some W[i]:=nw d;have e:X[i]? =some X[i]:=nw c;have:=a.at_ i _ _ b e;have⟨n,f⟩:=h i _ b;rw[f]at this⊢;revert this;generalize X[i]=x;intro this;cases this;rfl
def UD(w:cI)(o:dn)(b:Nat):Prop:=o b/\∃l c a,O4 a/\w.heap[b]? =some (.cells (ie l c) 3 a)
def zi(w:cI)(A:Nat)(o:dn)(b:Nat):Prop:=b=A\/UD w o b
theorem dT.slice{w:cI}{o:dn}{s:Sp}{y:SV}{a:dO}(h:dT o w s y)(e:∀b,UD w o b->a.r b b/\a.sh b=none):VR a (.slice y.sa y.sl y.sc) (.slice y.sa y.sl y.sc):=by
 cases s with
 |none=>
  have:y=⟨none,0,0,0,0,false⟩:=h;subst this;exact .gE _ _
 |some s=>
  have⟨l,m,k⟩:=s;obtain⟨_,_,_,_,⟨_,c,_⟩|⟨_,d,c,f,_,_,g,i,j⟩⟩:=h;rw[c];exact .gE _ _;rw[f];have⟨n,p⟩:=e d ⟨c,l,y.sc,g,i,j⟩;exact .slice _ _ (.of _ _ n p)
def Jp{g:List Sp}{a:List SV}(H:A m)(I:∀b,C b->A b)(J:a.length=g.length)(f:w.heap[m]? =some (.cells W 199))(t:W.size=k*4)(K:a.length=k) (u:∀j (h:j<a.length),W[4*j]? =some (.slice a[j].sa a[j].sl a[j].sc)/\W[4*j+1]? =some (.int .i64 a[j].m)/\W[4*j+2]? =some (.int .i64 a[j].k)/\W[4*j+3]? =some (.bool a[j].b))
 (x:∀j (h:j<a.length) (L:j<g.length),dT C w g[j] a[j]):xj (qP LF (λ_=>false) (zi w m C)) w w A B:=by
 refine⟨HR.of (λ_=>rfl) λb y n=>?_,λb y n=>?_⟩;obtain⟨rfl,o⟩:=n;obtain rfl|⟨p,l,c,M,z,q⟩:=o;refine⟨_,_,f,f,.cells ⟨rfl,λi v N d r=>?_⟩ cK⟩;rw[d]at r;cases r;have O:i<W.size:=cK;have s:i/4<a.length:=cL;have⟨D,E,F,G⟩:=u (i/4) s;have:i=4*(i/4)\/i=4*(i/4)+1\/i=4*(i/4)+2\/i=4*(i/4)+3:=cL;obtain e|e|e|e:=this;rw[e,D]at d;cases d;exact(x _ s cL).slice λb p=>⟨⟨rfl,.inr p⟩,rfl⟩;rw[e,E]at d;cases d;exact .int _ _;rw[e,F]at d;cases d;exact .int _ _;rw[e,G]at d;cases d;exact .bool _;exact⟨_,_,q,q,.cells (P9 λi v h=>ut h) cK⟩;obtain⟨rfl,o⟩:=n;obtain rfl|⟨p,_⟩:=o;grind;grind
def VR.S3{e:dO}(n:dO.Le R e){y:SV}(p:VR R (.slice y.sa y.sl y.sc) (.slice y.sa y.sl y.sc))(h:VR e y.val x):x=y.val:=by
 unfold SV.val at h;cases h with
 | @agg _ d o q=>
  have r:fW e #[.slice y.sa y.sl y.sc,i64 y.m,i64 y.k,.bool y.b] d:=⟨o,q⟩;have s:d.size=4:=o.symm;have f:∀i (j:i<4),VR e (#[Value.slice y.sa y.sl y.sc,i64 y.m,i64 y.k,.bool y.b][i]'(eV j)) (d[i]'cL):=λi j=>
   r.at_ i _ _ (nw (eV j)) (nw cL)
  have t:d[0]'cL=.slice y.sa y.sl y.sc:=by
   have h:=f 0 cL;simp only[List.getElem_toArray,nQ]at h;have g:=p.mono n;revert h g;generalize d[0]=z;generalize y.sa=a;intro h g;cases a with
   |none=>cases h;rfl
   |some a=>
    cases h with
    | @slice a C l c h=>
     cases g with
     |slice l c u=>
      rw[u.eq h rfl]
  have v:d[1]'cL=i64 y.m:=by have h:=f 1 cL;simp only[List.getElem_toArray,Of,nQ]at h;revert h;generalize d[1]=z;intro h;cases h;rfl
  have w:d[2]'cL=i64 y.k:=by have h:=f 2 cL;simp only[List.getElem_toArray,Of,nQ]at h;revert h;generalize d[2]=z;intro h;cases h;rfl
  have A:d[3]'cL=.bool y.b:=by have h:=f 3 cL;simp only[List.getElem_toArray,Of,nQ]at h;revert h;generalize d[3]=z;intro h;cases h;rfl
  have:d=#[.slice y.sa y.sl y.sc,i64 y.m,i64 y.k,.bool y.b]:=by refine Array.ext (by simp[s]) λi j B=>?_;have:i=0\/i=1\/i=2\/i=3:=cL;obtain rfl|rfl|rfl|rfl:=this;exact t;exact v;exact w;exact A
  rw[this];rfl
def Jq(w:cI)(A:Nat)(o:dn)(y:SV)(x:cJ)(a:cI):Prop:=x=y.val/\∀b,zi w A o b->a.heap[b]? =w.heap[b]?
def Qa{Wg A n:Nat}{own rd o:dn}{cs:eF}{z:List Sp}{a:List SV}{pl:Addr}{caller:Frame}{cl:List Frame}(hA:own A)(ho:∀b,o b->own b)(hl:a.length=z.length) (B:w.heap[A]? =some (.cells cs 199))(M:cs.size=n*4)(hn:a.length=n)(C:n<=65536) (hc:∀j (h:j<a.length),cs[4*j]? =some (.slice a[j].sa a[j].sl a[j].sc)/\cs[4*j+1]? =some (.int .i64 a[j].m)/\cs[4*j+2]? =some (.int .i64 a[j].k)/\cs[4*j+3]? =some (.bool a[j].b)) (ha:∀j (h:j<a.length) (h':j<z.length),dT o w z[j] a[j]):
 Wy PR 241 Wg true rd (λN g D=>g=G (caller.finish (dJ a).val) cl/\(∀b,own b->N b)/\dT (λb=>o b/\N b) D (qi z) (dJ a)) own
  (G (Frame.enter PR 193 #[.slice (some ⟨A,0,none⟩) n n,.func (.func 194) #[.pointer (some pl)] #[]] .normal) (caller::cl)) w:=by
 have hG:Go.dz.Good jS (qP LF (λ_=>false) (zi w A o)):=Cy Ya cK;have d:xj (qP LF (λ_=>false) (zi w A o)) w w own rd:=Jp hA ho hl B M hn hc ha;have f:=Gf a z hl ha;have E:fW (qP LF (λ_=>false) (zi w A o)) #[.tuple #[]] #[.pointer (some pl)]:=fW.one (.DD rfl pl);have F:fW (qP LF (λ_=>false) (zi w A o)) #[] #[]:=fW.nil
 have H:fW (qP LF (λ_=>false) (zi w A o)) #[fa A n n,.func (.func 194) #[.tuple #[]] #[]] #[fa A n n,.func (.func 194) #[.pointer (some pl)] #[]]:=
  fW.Ol (.slice _ _ (.mk _ _ ⟨rfl,.inl rfl⟩)) (.func rfl E.size E.at_ F.size F.at_)
 have hS:(qP LF (λ_=>false) (zi w A o)).S 193=true:=by show LF.contains 193=true;grind
 have t:Go.dz.Reach jS (Go.dz.Left jS 193 (Jq w A o (dJ a))) ⟨Frame.enter jS 193 #[fa A n n,.func (.func 194) #[.tuple #[]] #[]] .normal,[floor],w⟩:=by
  refine sX (λx D T h=>h) (tg hG (λ_=>rfl) hS H d) λT hT=>?_;have O:A<w.lH:=lt_of_heap B;subst hn;refine(Mg (.tuple #[]) A a (du w T) C O λj hj=>?_).mono ?_;have⟨c0,c1,c2,c3⟩:=hc j hj;have e:∀k v,cs[k]? =some v->(du w T).cell? (dq A k)=some v:=λk v h=>by show(match w.heap[A]? with|some (.cells cs _ _)=>_|_=>_)=_;grind
  rw[show j*4=4*j by omega];exact⟨e _ _ c0,e _ _ c1,e _ _ c2,e _ _ c3⟩;rintro e D ⟨rfl,P⟩;refine⟨_,rfl,rfl,λb L=>P.block b ?_⟩;show b<w.lH;obtain rfl|⟨_,_,_,_,_,hw⟩:=L;grind;grind
 have c:=Kt (U:=λ_=>True) cK (ty:=241) (Wg:=Wg) (main:=true) (caller:=caller) (cs:=cl) (own:=own) (rd:=rd) hG (λ_=>rfl) hS V.func193 (R:=Jq w A o (dJ a)) (λx D T h=>h) H t d;have c:Wy PR 241 Wg true rd (Out (λ_=>True) (Jq w A o (dJ a)) rd (qP LF (λ_=>false) (zi w A o)) caller cl) own (G (Frame.enter PR 193 #[fa A n n,.func (.func 194) #[.pointer (some pl)] #[]] .normal) (caller::cl)) w:=by have e:V.prog.jg (qP LF (λ_=>false) (zi w A o)).fs=PR:=Sn;rw[e]at c;exact c
 refine(Wy.Uj c).bind λN g D h=>pH λw1 hr=>?_;obtain⟨⟨ρ,x,x',v,rfl,⟨hx,p⟩,hv,u,Q,_⟩,W⟩:=h;subst hx;have X:VR (qP LF (λ_=>false) (zi w A o)) (.slice (dJ a).sa (dJ a).sl (dJ a).sc) (.slice (dJ a).sa (dJ a).sl (dJ a).sc):=f.slice λb P=>⟨⟨rfl,.inr P⟩,rfl⟩;obtain rfl:=VR.S3 u X hv;refine⟨rfl,W,?_⟩;have I:=Q.rely hr;revert f;generalize dJ a=y at p⊢;generalize qi z=s;intro f;cases s with
 |none=>exact f
 |some s=>
  have⟨l,m,k⟩:=s;obtain⟨q1,q2,q3,q4,Y|⟨Y,q,q6,q7,q8,Z,fz,q9,J⟩⟩:=f;exact⟨q1,q2,q3,q4,.inl Y⟩;have L:zi w A o q:=.inr ⟨q6,l,y.sc,fz,q9,J⟩;have⟨ob,ab,k1,k2,k3⟩:=I.heap.obj q q (u.r _ _ ⟨rfl,L⟩);replace k3:=k3.obj (by rw[<-u.g];rfl);rw[p q L,J]at k1;cases k1;cases k3 with
  | @cells _ ac _ _ aa kv kf=>
   have:=Lg (λi v h=>ut h) kv;subst this;exact⟨q1,q2,q3,q4,.inr ⟨Y,q,cK,q7,q8,Z,aa,λK h=>q9 K (kf K h),k2⟩⟩
structure KL(pc rc A pb:Nat)(o own:Nat->Prop)(ss:List Sp)(ys:List SV)(cs:Array cJ)(w:cI):Prop where
 p:w.cell? ⟨pc,0,none⟩=some (.pointer (some ⟨pb,0,none⟩))
 r:w.heap[rc]? =some (fp (dJ []))
 a:w.heap[A]? =some (.cells cs 199)
 s:∀j (h:j<ys.length) (h':j<ss.length),dT o w ss[j] ys[j]
def dT.rely{own rd o:dn}{L:dB}{s:Sp}{y:SV}(n:eP own rd L w t)(x:∀b,o b->own b)(h:dT o w s y):dT o t s y:=by
 cases s with
 |none=>exact h
 |some s=>
  have⟨l,m,k⟩:=s;obtain⟨f,g,i,j,a|⟨a,c,p,q,r,d,u,v,e⟩⟩:=h;exact⟨f,g,i,j,.inl a⟩;exact⟨f,g,i,j,.inr ⟨a,c,p,q,r,d,u,v,n.obj cK e⟩⟩
def dT.mono{s:Sp}{y:SV}(n:∀b,A b->B b)(h:dT A w s y):dT B w s y:=by
 cases s with
 |none=>exact h
 |some s=>
  have⟨l,m,k⟩:=s;obtain⟨f,g,i,j,a|⟨a,c,o,p,q,d,r,t,e⟩⟩:=h;exact⟨f,g,i,j,.inl a⟩;exact⟨f,g,i,j,.inr ⟨a,c,n _ o,p,q,d,r,t,e⟩⟩
def dT.same{s:Sp}{y:SV}(o:∀b,A b->t.heap[b]? =w.heap[b]?)(h:dT A w s y):dT A t s y:=by
 cases s with
 |none=>exact h
 |some s=>
  have⟨l,m,k⟩:=s;obtain⟨f,g,i,j,a|⟨a,c,n,p,q,d,r,u,e⟩⟩:=h;exact⟨f,g,i,j,.inl a⟩;exact⟨f,g,i,j,.inr ⟨a,c,n,p,q,d,r,u,(o _ n).trans e⟩⟩
theorem KL.rely{f g A pb:Nat}{o own rd:dn}{L:dB}{ss:List Sp}{ys:List SV}{cs:eF}(d:rd f)(e:own g)(i:own A)(k:∀b,o b->own b):pu own rd L (KL f g A pb o own ss ys cs):=λ_ _ c h=>
 ⟨c.cell (.inr d) h.p,c.obj (.inl e) h.r,c.obj (.inl i) h.a,λj d l=>(h.s j d l).rely c k⟩
def Yb(o:dn)(e:List Sp)(d:List SV)(a:Frame)(f:List Frame):iT:=λc g w=>g=G (a.finish (dJ d).val) f/\dT (λb=>o b/\c b) w (qi e) (dJ d)
def Wy.Yc{rd X:dn}{S:iT}(h:Wy P T m D (λb=>rd b\/X b) S A Z w):
 Wy P T m D rd (λo Z j=>∃p,S p Z j/\∀b,o b↔p b\/X b) (λb=>A b\/X b) Z w:=by
 obtain⟨z,h⟩:=h
 have i:∀{A:dn} {w g:cI},eP (λb=>A b\/X b) rd (Lv T m) w g->eP A (λb=>rd b\/X b) (Lv T m) w g:=λc=>
  ⟨c.tape,c.os,c.output,c.size,λb k B=>c.heap b k cK,c.live⟩
 induction h with
 | @here _ A _ _ h=>exact pH λg c=>⟨A,cK,cK⟩
 | @step _ A _ _ t u C v=>
  refine mw t λg c=>?_;obtain⟨q,j,s,f,e,d⟩:=u g (i c);refine⟨q,j,s,λb=>f b\/X b,e,⟨d.tape,d.os,d.output,d.size,λb=>?_,λb k x=>d.same b k cK,λe y=>?_⟩,v g q j s f (i c) e d⟩;constructor;rintro(h|h);exact((d.owns b).1 h).imp .inl id;grind;rintro((h|h)|h);exact .inl ((d.owns b).2 (.inl h));grind;exact .inl ((d.owns b).2 (.inr h));obtain⟨a,l,rfl,h⟩|⟨r,l,rfl,h⟩|rfl:=d.evs e y;refine .inl ⟨a,l,rfl,?_⟩;obtain h|⟨h,n|n⟩|h:=h;exact .inl (.inl h);exact .inr (.inl ⟨h,n⟩);exact .inl (.inr n);exact .inr (.inr h);exact .inr (.inl ⟨r,l,rfl,h.imp .inl id⟩);exact .inr (.inr rfl)
def MU{e:tk}{m:Mh}{R d oc Wg Ch n pb A:Nat}{rd own o:dn}{ss:List Sp}{ys:List SV}{cs:eF}{caller:Frame}{cl:List Frame}(S:e.x2=.pointer (some ⟨d,0,none⟩))(h1:rd R)(T:own d)(hA:own A)(ho:∀b,o b->own b)(ag:¬o d)(H:A≠d) (hl:ys.length=ss.length)(U:cs.size=n*4)(hn:ys.length=n)(I:n<=65536) (E:∀j (h:j<ys.length),cs[4*j]? =some (.slice ys[j].sa ys[j].sl ys[j].sc)/\cs[4*j+1]? =some (.int .i64 ys[j].m)/\cs[4*j+2]? =some (.int .i64 ys[j].k)/\cs[4*j+3]? =some (.bool ys[j].b)) (x7 V Y Z aa ab ac ad ae:cJ):WK PR 241 Wg true rd (Yb o ss ys caller cl) own (KL R d A pb o own ss ys cs) (Kx e m R oc Wg Ch n A x7 V Y Z aa ab ac ad ae (caller::cl)):=by
 have i:=KL.rely (pb:=pb) (ss:=ss) (ys:=ys) (cs:=cs) (L:=Lv 241 Wg) h1 T hA ho;simp only[Kx,mU,Cz,Ag];refine WK.val (v:=?_) i rfl rfl (by k_ne) (λw=>?_) (λw=>?_) ?_;rotate_left;go_simp;rfl;go_simp;walk_nrm;refine WK.ctl i rfl (λ_=>cY)<|WK.ctl i rfl (λ_=>dk)<|WK.ctl i rfl (λ_=>stepG_cond (t:=false) rfl) ?_;simp only[iH,fj];refine WK.ctl i rfl (λ_=>stepG_exit rfl)<|WK.ctl i rfl (λ_=>dk)<|WK.ctl i rfl (λ_=>ia) ?_;simp only[Cu,il,fi,fO,Nat.reduceAdd,dj,List.range,List.range.loop];refine WK.val (v:=?_) i rfl rfl (by k_ne) (λw=>?_) (λw=>?_) ?_;rotate_left;go_simp;rfl;go_simp;walk_nrm;refine WK.load (v:=dR pb) i rfl rfl (by k_ne) (λw q=>?_) (λw q e y=>?_) ?_;have E:=(λw q=>q.p) w q;go_simp;have E:=(λw q=>q.p) w q;simp[go_sem,E]at y;exact .inl ⟨_,_,y,.inr (.inl ⟨rfl,h1⟩)⟩;walk_nrm;refine WK.val (v:=?_) i rfl rfl (by k_ne) (λw=>?_) (λw=>?_) ?_;rotate_left;go_simp;rfl;go_simp;walk_nrm;refine WK.enter (f:=193) (fn:=Tryz.f193) i rfl rfl (by k_ne) rfl Tryz.func193 rfl rfl ?_;simp only[List.map_toArray,kY,uL];intro w q;have J:own=λb=>(own b/\b≠d)\/b=d:=cK
 have D:∀N,Wy PR 241 Wg true rd (λO g P=>∃F:dn,((g=G (N.finish (dJ ys).val) (caller::cl)/\(∀b,(own b/\b≠d)->F b)/\dT (λb=>o b/\F b) P (qi ss) (dJ ys))/\∀b,b=d->P.heap[b]? =w.heap[b]?)/\∀b,O b↔F b\/b=d) own
  (G (Frame.enter PR 193 #[fa A n n,.func (.func 194) #[dR pb] #[]] .normal) (N::caller::cl)) w:=λN=>by
  have:=Wy.Yc (X:=λb=>b=d) (rd:=rd) (Wy.keep (B:=λb=>b=d) (λb hb=>by subst hb;exact⟨.inr rfl,cK,lt_of_heap q.r⟩) (Qa (rd:=λb=>rd b\/b=d) (own:=λb=>own b/\b≠d) (Wg:=Wg) (A:=A) (n:=n) (pl:=(dq pb 0)) ⟨hA,H⟩ cK hl q.a U hn I E q.s (cl:=caller::cl) (caller:=N)));exact(λ(X:dn) (e:X=λb=>(own b/\b≠d)\/b=d)=>by rw[e];exact this:∀X:dn,(X=λb=>(own b/\b≠d)\/b=d)->Wy PR 241 Wg true rd _ X _ w) own J
 refine(D _).bind ?_;rintro O g w1 ⟨F,⟨⟨rfl,ai,C⟩,K⟩,aj⟩;rw[Frame.finish_at];have af:w1.heap[d]? =some (fp (dJ [])):=(K d rfl).trans q.r
 have u:∀s,pu O rd (Lv 241 Wg) λw=>w.heap[d]? =some (fp s)/\dT (λb=>o b/\F b) w (qi ss) (dJ ys):=λs w w1 Q h=>
  ⟨Q.obj cK h.1,h.2.rely Q cK⟩
 refine WK.write (bl:=d) (W:=λw P=>P.heap[d]? =some (fp (dJ ys))) (u (dJ [])) rfl rfl (by k_ne) cK (λw q=>?_) (λw q e y=>?_) ?_ w1 ⟨af,C⟩;have⟨c0,c1,c2,c3,f0,f1,f2,f3⟩:=eR q.1;have hp:=lX (s:=dJ ys) q.1;refine⟨jO w d (dJ ys),?_,rfl,rfl,rfl,rG _ _ _,λc E=>qO _ _ _ E,hp⟩;simp only[SV.val,jO];go_simp;have⟨c0,c1,c2,c3,f0,f1,f2,f3⟩:=eR q.1;simp only[SV.val]at y;have z:∀(w:cI) (z:Array Event) (a:Addr) (m:Mode) (x:dV) (l c:Nat),(store a (.slice x l c) m).events PR w z=storedEv PR w z a (.slice x l c) m:=λw z a m x l c=>events_store PR w z a _ m rfl;have eb:∀(w:cI) (z:Array Event) (a:Addr) (m:Mode) (x:Bool),(store a (.bool x) m).events PR w z=storedEv PR w z a (.bool x) m:=λw z a m x=>events_store PR w z a _ m rfl;simp[go_sem,z,eb,S,c0,c1,c2,c3,f0,f1,f2,f3]at y;have M:O d:=cK;obtain y|y|y|y:=y<;>exact .inl ⟨_,_,y,.inl M⟩;refine WK.mono (K':=λw=>w.heap[d]? =some (fp (dJ ys))/\dT (λb=>o b/\F b) w (qi ss) (dJ ys)) ?_ ?_;rotate_left;rintro w ⟨w2,w3,q,hW,hs,ah,Q⟩;refine u _ _ _ Q ⟨hW,q.2.same cK⟩;walk_nrm;refine WK.ctl (u _) rfl (λ_=>cY)<|O3 (u _) (λw h=>h.1) cK cK rfl ?_;refine WK.stop (u _) λw h=>⟨rfl,cK⟩
def S4(e:tk)(b c d f h n:Nat)(i:dn)(Q:dB)(j:Nat->(dn)->cI->cJ->Prop)(k:List Frame):iT:=λa g w=>∃m A,Wx e m b c d f A h n i Q j k a g w
def Jr{e:tk}{H:Nat->(dn)->cI->cJ->Prop}{I:List Frame}(R:p<=65536)(M:A k)(J:A i)(N:tl A S)(T:Ai H) (O f l n q r t u y z B C D E F:cJ):
 WK PR 241 j true A (pF PR 241 j o p A (F6 H) (S4 e k i j o s p A S H I) tn p (λ_=>false)) (λx=>dp x\/x=d) (KA k i j o d s A S (·=madeCells nK.cells (p*4)))
  (G (lP.at (Ag e k i j p O (.slice (some ⟨d,0,none⟩) p p) undef f l n q r t u y z B C D E F (.slice (some ⟨d,0,none⟩) p p) undef undef undef undef undef undef undef undef undef undef) [.code (oO.seq my)]) I):=by
 have a:pu (λx=>dp x\/x=d) A (Lv 241 j) (KA k i j o d s A S (·=madeCells nK.cells (p*4))):=KA.rely M J (.inr rfl) N;refine WK.ctl a rfl (λ_=>dk) ?_;unfold oO;refine WK.ctl a rfl (λ_=>dk)<|WK.ctl a rfl (λ_=>ia) ?_;simp only[xn,Ag,il,fi,fO,Nat.reduceAdd,dj,List.range,List.range.loop];refine WK.load (v:=.chan (some o)) a rfl rfl (by k_ne) (λw b=>?_) (λw b e P=>?_) ?_;have Q:=(λw b=>b.s.k.o) w b;go_simp;have Q:=(λw b=>b.s.k.o) w b;simp[go_sem,Q]at P;exact .inl ⟨_,_,P,.inr (.inl ⟨rfl,J⟩)⟩;walk_nrm;refine WK.ctl a rfl (λ_=>cY)<|WK.ctl a rfl (λ_=>sQ)<|WK.ctl a rfl (λ_=>stepG_loop)<|WK.mono (K':=KR k i j o d s p A S H (λx=>dp x\/x=d) (λ_=>false)) ?_ ?_
 exact hears (e:=e) (m:=⟨O,f,l,n,q,r,t,u,y,z,B,C,D,E,F,fa d p p⟩) (λU g w h=>⟨_,d,h⟩) R M J N T p (λ_=>false) _ gT gT gT gT gT gT gT gT gT gT (by
  have:tp (λ_=>false) p=0:=by
   have:∀c,tp (λ_=>false) c=0:=λc=>by
    induction c with
    |zero=>rfl
    |succ c V=>
     have:tp (λ_=>false) (c+1)=tp (λ_=>false) c+0:=rfl;rw[this,V]
   exact this p
  omega)
 rintro w ⟨W,⟨I,X,rfl⟩,K,L⟩;exact⟨W,⟨_,X,size_madeCells _ _,λY _ h=>by cases h⟩,.inr rfl,K,L⟩
def EF{e:tk}{m o c Ch n p L C O:Nat}{Q:dB}{rd:dn}{Pv:Nat->(dn)->cI->cJ->Prop}{cs:List Frame}(y:n<=65536)(t:rd m)(u:rd o)(q:¬rd c)(v:tl rd Q)(P:Ai Pv)(R:0<L) (S:∀w,Q w->OW p h L C a n O w)(B:rd p)(D:rd h.block)
 (d:∀i E w,i<n->KW m E o c Ch ⟨p,0,none⟩ i (λw=>Q w/\∀b,rd b->b<w.heap.size) w->Wy PR 241 c false (λb=>rd b\/b=E) (Sends PR 241 c Ch (F6 Pv) i) dp (born PR (call188 m E o c)) w):
 WK PR 241 c true rd (Sr c Ch n rd (F6 Pv) (S4 e m o c Ch p n rd Q Pv cs) n) dp (KS m o c Ch ⟨p,0,none⟩ rd Q) (G (lP.at (n5 e m o c n 0 undef undef undef undef undef undef) [.code gH,.inLoop gH,.inBlock 0,.code jA]) cs):=by
 have T:=Vb (e:=e) (cs:=cs) (pl:=(dq p 0)) (Q:=Q) (val:=F6 Pv) (End:=S4 e m o c Ch p n rd Q Pv cs) (Nat.lt_of_le_of_lt y kA) t u q v d (λx f g j k l=>
  F3 (z:=tn) t u q v (λx r f g j k l s=>IT y t u v R S B D x r f g j k l s λA F H I J K M N=>Jr y t u v P x r f g j k l s F H I J K M N) x f g j k l) n (dg _) gT gT gT gT gT gT
 rwa[lK]at T
def A0(a:cI)(B:dn)(w:cI):Prop:=∀b,B b->w.heap[b]? =a.heap[b]?
def Qb(h:∀b,B b->A b):tl A (A0 w B):=λ_ _ c d b a=>(c b (h b a)).trans (d b a)
def xK{w0:cI}{B rd:dn}(h:∀b,B b->rd b)(a:∀b,B b->b<w0.heap.size):yV rd (A0 w0 B):=λw f _ g d b c=>by have e:=a b c;have i:=d b c;grind
def Gc.same{f:dV}(b:B m)(c:B h.block)(d:Gc m a k i h j o f p s t)(w:cI)(e:A0 t B w):Gc m a k i h j o f p s w:=
 ⟨(iy (e m b)).trans d.f1,(iy (e m b)).trans d.ls.f2,(iy (e _ c)).trans d.ls.l0⟩
def MV(a:Nat->Sp)(j:Nat)(b:dn)(w:cI)(v:cJ):Prop:=∃y:SV,v=y.val/\dT b w (a j) y
def Qc(a:Nat->Sp):Ai (MV a):=λ_ _ _ _ _ b ⟨y,c,d⟩=>⟨y,c,d.same b⟩
def VA(b:Nat->Sp)(j:Nat)(o:dn)(w:cI)(v:cJ):Prop:=∃a:dn,(∀x,a x->o x/\x<w.heap.size)/\MV b j a w v
theorem Lh{a:Type}(P:Nat->a->Prop):∀n,(∀j,j<n->∃y,P j y)->∃l:List a,l.length=n/\∀j (h:j<l.length),P j l[j]
 |0,_=>⟨[],rfl,λj h=>by cases h⟩
 |n+1,h=>by
  have⟨l,b,d⟩:=Lh P n λj c=>h j cL;have⟨y,e⟩:=h n cL;refine⟨l++[y],by simp[b],λj c=>?_⟩;rw[List.getElem_append];split;exact d j _;have:j=n:=by simp at c;omega
  subst this;simpa[b]using e
def Js(c:cI)(B:dn)(d n:Nat)(e:Nat->Sp):Prop:=∀(a:dn) (f i:Nat),i<n->(∀b,B b->a b)->Ui a f ⟨d,0,none⟩ i (A0 c B) (VA e i)
def MW{X B:dn}{gs:Array cP}{sl:Option (Nat×Nat)}{t:Trace}{q:Nat->Nat}{pb on oc1 L C n c0:Nat}{oa a0:dV}{la:Addr}{M:Nat->Sp}{caller:Frame}{cl:List Frame} (O:∀b,B b->b<w.heap.size/\¬X b)(aA:0<on)(hL:0<L)(aa:Gc pb oa on oc1 la L C a0 n c0 w)(P:B pb)(R:B la.block)(hn:n<=65536)(W:Js w B pb n M) (f:F7 PR X gs (G (Frame.enter PR 163 #[.pointer (some ⟨pb,0,none⟩)] .normal) (caller::cl)) w t q):∃(N:Nat) (ab:Array cP) (H:cI) (aB:Option (Nat×Nat)) (t':Trace) (q':Nat->Nat) (X' o:dn) (y:SV),runNT PR N (crowd gs w sl) t=(.next (crowd ab H aB),t')/\F7 PR X' ab (G (caller.finish y.val) cl) H t' q'/\(H.tape=w.tape/\H.os=w.os/\H.output=w.output)/\w.heap.size<=H.heap.size/\(∀b,b<w.heap.size->H.heap[b]? =w.heap[b]?)/\dT o H (qi ((List.range n).map M)) y/\(∀b,o b->w.heap.size<=b/\b<H.heap.size/\¬X' b)/\∀b,X' b->X b\/w.heap.size<=b:=by
 have ac:∀(Wg:Nat) (w:cI) (d:Nat),Lv 241 Wg w->Lv 241 Wg (w.at d):=λ_ _ _ h=>h;have ad:yV B (A0 w B):=xK (λ_ h=>h) λb f=>(O b f).1;have⟨τ,h1⟩:=O2 (cs:=caller::cl) ad aA hL (λU hq=>aa.same P R U hq) P R (λb f=>(O b f).1) w ⟨(λx I=>by cases I),List.Pairwise.nil,(λx I=>by cases I),dg _,λ_ _=>rfl⟩;obtain⟨N1,aT,U,aD,t1,q1,aR,a1,r1,b1,⟨e,J,rc,oc,Wg,Ch,c,rfl,aE,F,aS⟩,u,aU⟩:=ve (ac 0) (λo g w h=>by obtain⟨_,_,_,_,_,_,_,rfl,_⟩:=h;rfl) h1 gs sl t q f λb f=>by obtain f|f:=f;exact f.elim;exact⟨(O b f).2,(O b f).1⟩
 have aW:=F.at_ (Wg,wgBlock 241 0 0) dt;have ao:=F.at_ (oc,Obj.cells #[.chan (some Ch)] 232) dt;have aC:=F.at_ (Ch,Obj.chan 0 #[] false c c false) dt;have ar:=F.at_ (rc,Obj.cells #[fl,i64 0,i64 0,.bool false] 199) dt;have ap:=F.at_ (J,Obj.cells #[dR pb] 200) dt;have lW:=F.lo (Wg,wgBlock 241 0 0) dt;have lo:=F.lo (oc,Obj.cells #[.chan (some Ch)] 232) dt;have lC:=F.lo (Ch,Obj.chan 0 #[] false c c false) dt;have lr:=F.lo (rc,Obj.cells #[fl,i64 0,i64 0,.bool false] 199) dt;have lp:=F.lo (J,Obj.cells #[dR pb] 200) dt;have V:=F.inc;simp only[kY,uL,List.pairwise_cons,eW,pB,mo,forall_eq_or_imp,forall_eq]at V;have⟨⟨i1,i2,i3,i4⟩,⟨i5,i6,i7⟩,⟨i8,i9⟩,aF,_⟩:=V;simp only at aW ao aC ar ap lW lo lC lr lp i1 i2 i3 i4 i5 i6 i7 i8 i9 aF;have r:∀b,X b->b<w.heap.size:=f.low;have ae:w.heap.size<=U.heap.size:=u.size;have aG:¬(B Wg\/Wg=J\/Wg=oc):=by rintro(h|h|h);have:=(O _ h).1;omega;omega;omega
 have aH:=EF (e:=e) (cs:=caller::cl) (Ch:=Ch) (rd:=λb=>B b\/b=J\/b=oc) (Pv:=MV M) hn (.inr (.inl rfl)) (.inr (.inr rfl)) aG (Qb λ_ h=>.inl h) (Qc M) hL (λU hq=>(aa.same P R U hq).ls) (.inl P) (.inl R)
  λi ic H hi hk=>worker (k:=i) (rd:=λb=>(B b\/b=J\/b=oc)\/b=ic) (Q:=A0 w B) (Sc:=VA M i) (val:=F6 (MV M)) (.inl (.inr (.inl rfl))) (.inr rfl) (.inl (.inr (.inr rfl)))
   (xK (λ_ h=>.inl (.inl h)) λb f=>(O b f).1) (W _ Wg i hi λ_ h=>.inl (.inl h)) (λo w a l c m n s h=>by have⟨oj,h1,h2⟩:=h;exact⟨a,l,c,m,n,s,oj,rfl,h1,h2⟩) H ⟨hk.p,hk.i,hk.o,hk.live,hk.q.1⟩
 have hS:qe PR 241 Wg Ch n (λb=>B b\/b=J\/b=oc) (F6 (MV M)) (S4 e J oc Wg Ch pb n (λb=>B b\/b=J\/b=oc) (A0 w B) (MV M) (caller::cl)) n dp
  (G (lP.at (n5 e J oc Wg n 0 undef undef undef undef undef undef) [.code gH,.inLoop gH,.inBlock 0,.code jA]) (caller::cl)) U:=by
  rw[Cv];refine aH U ⟨⟨by simp[World.cell?,ap],by simp[World.cell?,ao],λb f=>?_,F.q⟩,⟨0,0,aW⟩⟩;obtain f|rfl|rfl:=f;exact ep (O b f).1 ae;exact lt_of_heap ap;exact lt_of_heap ao
 obtain⟨N2,m2,t2,r2,af,w2,aI,a2,q2,z,rfl,aJ,⟨m,A,x7,ag,ah,ai,aj,ak,al,am,an,rfl,Y⟩,aK,aL,S,D,aq,K,au⟩:=phase (sl:=aD) cL b1.at0 b1.leavers b1.past (λb f=>by obtain f|rfl|rfl:=f;have:=(O b f).1;exact⟨cL,(O b f).2,cL,cL⟩;exact⟨lt_of_heap ap,λI=>iD (r _ I),cL,cL⟩;exact⟨lt_of_heap ao,λI=>iD (r _ I),cL,cL⟩) (by omega:Wg≠Ch) (λI=>iD (r _ I)) (λI=>iD (r _ I)) aW aC hS;have⟨cs,hA,aM,av⟩:=Y.a
 have⟨ys,aw,hP⟩:=Lh (λj (y:SV)=>(cs[4*j]? =some (.slice y.sa y.sl y.sc)/\cs[4*j+1]? =some (i64 y.m)/\cs[4*j+2]? =some (i64 y.k)/\cs[4*j+3]? =some (.bool y.b))/\
  dT (λb=>z b/\b≠A) w2 (M j) y) n λj hj=>by
  have⟨sa,sl,sc,mm,k,b,oj,g1,g2,g3,g4,g5,y,hy,hs⟩:=av j hj rfl;have⟨ya,yl,yc,ym,yk,yb⟩:=y;simp only[oP,SV.val]at hy;injection hy with hy;simp at hy;obtain⟨⟨rfl,rfl,rfl⟩,rfl,rfl,rfl⟩:=hy;exact⟨_,⟨g2,g3,g4,g5⟩,hs.mono λb f=>⟨(g1 b f).1,(g1 b f).2.1⟩⟩
 have aN:rc<U.heap.size:=lt_of_heap ar;have ax:¬z rc:=λh=>iD ((S _ h).1);have ay:=Y.oa
 have Z:=MU (e:=e) (m:=m) (pb:=pb) (Ch:=Ch) (oc:=oc) (rd:=λb=>B b\/b=J\/b=oc) (own:=λb=>z b\/b=rc) (o:=λb=>z b/\b≠A) (ss:=(List.range n).map M) (ys:=ys) (cs:=cs) (caller:=caller) (cl:=cl) (Wg:=Wg) aE (.inr (.inl rfl)) (.inr rfl) (.inl ay)
  (λb f=>.inl f.1) (λh=>ax h.1) (λe=>ax (e▸ay)) (by simp[aw]) aM aw hn (λj hj=>(hP j hj).1) x7 ag ah ai aj ak al am an w2
  ⟨Y.s.k.p,(D rc aN cL cL).trans ar,hA,λj h1 h2=>eV ((hP j h1).2)⟩
 have⟨aV,h3⟩:=Z;have b2:F7 PR (λb=>b=Wg\/b=Ch\/X b) af (Kx e m J oc Wg Ch n A x7 ag ah ai aj ak al am an (caller::cl)) w2 t2 q2:=⟨aJ,rfl,aK,aL,λb f=>by obtain rfl|rfl|f:=f;exact au;have:=lt_of_heap aC;omega;have:=r b f;omega⟩;obtain⟨N3,aO,w3,aP,t3,q3,az,a3,r3,b3,⟨rfl,T⟩,v,aQ⟩:=ve (ac Wg) (λo g w h=>by obtain⟨rfl,_⟩:=h;rfl) h3 af aI t2 q2 b2 λb f=>by obtain(f|rfl)|f|rfl|rfl:=f;have:=S b f;exact⟨by rintro(h|h|h);exact this.2.2.1 h;exact this.2.2.2 h;have:=r b h;omega,this.2.1⟩;exact⟨by rintro(h|h|h);omega;omega;have:=r _ h;omega,cL⟩;have:=O b f;exact⟨by rintro(h|h|h);omega;omega;exact this.2 h,cL⟩;have:=lt_of_heap ap;exact⟨by rintro(h|h|h);omega;omega;have:=r _ h;omega,cL⟩;have:=lt_of_heap ao;exact⟨by rintro(h|h|h);omega;omega;have:=r _ h;omega,cL⟩
 refine⟨N1+(N2+N3),aO,w3,aP,t3,q3,λb=>b=Wg\/b=Ch\/X b,λb=>(z b/\b≠A)/\az b,dJ ys,Go.dz.runNT_add r1 (Go.dz.runNT_add r2 r3),b3,⟨v.tape.trans (K.1.trans u.tape),v.os.trans (K.2.1.trans u.os),v.output.trans (K.2.2.trans u.output)⟩,
  dw ae (dw aq v.size),λb E=>?_,T,λb E=>?_,λb E=>?_⟩
 rw[v.heap b cL (by rintro(h|h);have:=(S b h).1;omega;omega),D b cL cL cL,u.heap b E (λh=>h.elim)];have h2:=S b E.1.1;have h3:=aQ b (.inl E.2);exact⟨cL,h3.2,h3.1⟩;obtain rfl|rfl|h:=E;exact .inr lW;exact .inr lC;exact .inl h
def Qd(w:cI):(Instr.build 199 #[(3,.bool true)]).run PR w=.ok (.agg #[.slice none 0 0,.int .i64 0,.int .i64 0,.bool true]) w:=eE
def MY(w:cI):(Instr.build 199 #[(3,.bool true)]).events PR w #[]=#[]:=eE
def MZ{o B m0:Nat}{Q:dB}{rd:dn}{caller:Frame}{cl:List Frame}(A:yV rd Q) (M:∀w,Q w->w.cell? ⟨o,1,none⟩=some (.slice a 0 B))(F:rd o)(H:∀b,rd b->b<m0):
 WK PR 241 0 true rd (λ_ g _=>g=G (caller.finish (SV.mk none 0 0 0 0 true).val) cl) dp (KO [] Q m0) (G (Frame.enter PR 163 #[.pointer (some ⟨o,0,none⟩)] .normal) (caller::cl)):=by
 rw[Ge];have N:∀x∈([]:List (Nat×Obj)),dp x.1:=λx p=>by cases p
 have C:=KO.rely (Q:=Q) (m0:=m0) (rd:=rd) (own:=dp) (L:=Lv 241 0) N A;simp only[vZ,So];refine WK.ctl C rfl (λ_=>dk)<|WK.ctl C rfl (λ_=>ia) ?_;simp only[Ac,il,fi,fO,Nat.reduceAdd,dj,List.range,List.range.loop];refine WK.IX (f:=λn=>dR n) (ob:=.cells #[dR o] 200) N A rfl rfl (by k_ne) (λw i=>?_) (λw i e j=>?_) λr _ _=>?_
 ·go_simp;first|done|rfl
 simp[go_sem]at j;walk_nrm;have Y:∀x∈[(r,Obj.cells #[dR o] 200)],(λx=>dp x\/x=r) x.1:=λx p=>by rw[iv.1 p];exact .inr rfl
 refine WK.IX (f:=λn=>dR n) (ob:=.cells #[fl,i64 0,i64 0,.bool false] 199) Y A rfl rfl (by k_ne) (λw i=>?_) (λw i e j=>?_) λs _ _=>?_
 ·go_simp;first|done|rfl
 simp[go_sem]at j;walk_nrm;have O:∀x∈[(s,Obj.cells #[fl,i64 0,i64 0,.bool false] 199),(r,Obj.cells #[dR o] 200)],(λx=>(dp x\/x=r)\/x=s) x.1:=λx p=>by obtain rfl|p:=eW.1 p;exact .inr rfl;rw[iv.1 p];exact .inl (.inr rfl)
 have d:=KO.rely (m0:=m0) (L:=Lv 241 0) (own:=λx=>(dp x\/x=r)\/x=s) O A;have D:∀w,KO [(s,Obj.cells #[fl,i64 0,i64 0,.bool false] 199),(r,Obj.cells #[dR o] 200)] Q m0 w->w.cell? (dq r 0)=some (dR o):=λw i=>by have:=i.at_ (r,Obj.cells #[dR o] 200) dt;simp[World.cell?,this]
 refine WK.ctl d rfl (λ_=>cY)<|WK.ctl d rfl (λ_=>dk)<|WK.ctl d rfl (λ_=>dk)<|WK.ctl d rfl (λ_=>ia) ?_;simp only[Ad,il,fi,fO,Nat.reduceAdd,dj,List.range,List.range.loop];refine WK.load (v:=dR o) d rfl rfl (by k_ne) (λw i=>?_) (λw i e j=>?_) ?_;have k:=(D) w i;go_simp;have k:=(D) w i;simp[go_sem,k]at j;exact .inl ⟨_,_,j,.inl (.inl (.inr rfl))⟩;walk_nrm;refine WK.val (v:=?_) d rfl rfl (by k_ne) (λw=>?_) (λw=>?_) ?_;rotate_left;go_simp;rfl;go_simp;walk_nrm;refine WK.val (v:=?_) d rfl rfl (by k_ne) (λw=>?_) (λw=>?_) ?_;rotate_left;go_simp;rfl;go_simp;walk_nrm;refine WK.load (v:=.slice a 0 B) d rfl rfl (by k_ne) (λw i=>?_) (λw i e j=>?_) ?_;have k:=(λw i=>M w i.q) w i;go_simp;have k:=(λw i=>M w i.q) w i;simp[go_sem,k]at j;exact .inl ⟨_,_,j,.inr (.inl ⟨rfl,F⟩)⟩;walk_nrm;refine WK.val (v:=?_) d rfl rfl (by k_ne) (λw=>?_) (λw=>?_) ?_;rotate_left;go_simp;rfl;go_simp;walk_nrm;refine WK.val (v:=.bool true) d rfl rfl (by k_ne) (λw=>?_) (λw=>?_) ?_;go_simp;simp[go_sem];walk_nrm;refine WK.ctl d rfl (λ_=>cY)<|WK.ctl d rfl (λ_=>stepG_cond (t:=true) rfl) ?_;simp only[ej];refine WK.ctl d rfl (λ_=>dk)<|WK.ctl d rfl (λ_=>ia) ?_;simp only[FY,il,fi,fO,Nat.reduceAdd,dj,List.range,List.range.loop];have I:=Qd;have J:=MY;refine WK.val (v:=.agg #[fl,i64 0,i64 0,.bool true]) d rfl rfl (by k_ne) (λw=>?_) (λw=>?_) ?_
 ·go_simp;first|done|rfl|simp only[I]
 simp[go_sem,J];walk_nrm;refine WK.O1 (pre:=[]) (ob:=fp (dJ [])) (ob':=fp (SV.mk none 0 0 0 0 true)) O A (λb E K=>?_) rfl rfl (by k_ne) (λw i=>?_) (λw i e j=>?_) ?_
 ·have:=H b K;obtain(E|E)|E:=E;exact E;all_goals omega
 have k:=i.at_ (s,fp (dJ [])) dt;have⟨P,R,S,T,U,V,W,X⟩:=eR k;refine⟨jO w s ⟨none,0,0,0,0,true⟩,?_,rfl,rfl,rfl,rG _ _ _,λc k=>qO _ _ _ k,lX k⟩;simp only[jO];go_simp;have k:=i.at_ (s,fp (dJ [])) dt;have⟨P,R,S,T,U,V,W,X⟩:=eR k;have u:∀(w:cI) (u:Array Event) (z:Addr) (m:Mode) (x:dV) (l c:Nat),(store z (.slice x l c) m).events PR w u=storedEv PR w u z (.slice x l c) m:=λw u z m x l c=>events_store PR w u z _ m rfl;have Z:∀(w:cI) (u:Array Event) (z:Addr) (m:Mode) (x:Bool),(store z (.bool x) m).events PR w u=storedEv PR w u z (.bool x) m:=λw u z m x=>events_store PR w u z _ m rfl;simp[go_sem,u,Z,P,R,S,T,U,V,W,X]at j;obtain j|j|j|j:=j<;>exact .inl ⟨_,_,j,.inl (.inr rfl)⟩;walk_nrm;have h3:∀x∈[(s,fp (SV.mk none 0 0 0 0 true)),(r,Obj.cells #[dR o] 200)],(λx=>(dp x\/x=r)\/x=s) x.1:=λx p=>by obtain rfl|p:=eW.1 p;exact .inr rfl;rw[iv.1 p];exact .inl (.inr rfl)
 have y:=KO.rely (m0:=m0) (L:=Lv 241 0) (own:=λx=>(dp x\/x=r)\/x=s) h3 A;exact WK.ctl y rfl (λ_=>cY)<|O3 y (λw h=>h.at_ (s,fp (SV.mk none 0 0 0 0 true)) dt) (.inr rfl) dt rfl<|WK.stop y λw h=>rfl
def Jt{l:Array cP}{sl:Option (Nat×Nat)}{t:Trace}{q:Nat->Nat}{caller:Frame}{cl:List Frame} (f:m<w.heap.size/\¬A m)(z:w.cell? ⟨m,1,none⟩=some (.slice a 0 k))(e:F7 PR A l (G (Frame.enter PR 163 #[.pointer (some ⟨m,0,none⟩)] .normal) (caller::cl)) w t q):∃(N:Nat) (j:Array cP) (i:cI) (n:Option (Nat×Nat)) (u:Trace) (C:Nat->Nat),runNT PR N (crowd l w sl) t=(.next (crowd j i n),u)/\F7 PR A j (G (caller.finish (SV.mk none 0 0 0 0 true).val) cl) i u C/\(i.tape=w.tape/\i.os=w.os/\i.output=w.output)/\w.heap.size<=i.heap.size/\(∀b,b<w.heap.size->i.heap[b]? =w.heap[b]?):=by
 have⟨M,D⟩:=MZ (caller:=caller) (cl:=cl) (xK (B:=λb=>b=m) (rd:=λb=>b=m) (w0:=w) (λ_ h=>h) λb e=>e▸f.1) (λv E=>(iy (E m rfl)).trans z) rfl (λb e=>e▸f.1) w ⟨(λx p=>by cases p),List.Pairwise.nil,(λx p=>by cases p),dg _,λ_ _=>rfl⟩;obtain⟨F,r,v,s,H,I,y,O,J,K,rfl,c,L⟩:=ve (λw d h=>h) (λo g w h=>by rw[h];rfl) D l sl t q e λb e=>by obtain e|rfl:=e;exact e.elim;exact⟨f.2,f.1⟩
 exact⟨F,r,v,s,H,I,J,K,⟨c.tape,c.os,c.output⟩,c.size,λb e=>c.heap b e λh=>h.elim⟩
end Go.Proofs.W
namespace Go.dz
open Go.Conc
section
variable{P:cU}{fs:Array Func}{w0:cI}
def FF.ends{Q:nB}{Post:nB}{c:rz}{s:Array cP}{w:cI}{sl:Option (Nat×Nat)}{t:Trace}{q:Nat->Nat} (h:FF P fs w0 R A c s Z w t q)(hs:Left P K Q c.fr c.cl c.v){r:Func}{j:Tmp}(k:P.funcs[K]? =some r)(u:r.results=#[.tmp j])(z:R.hole K=false)(C:(P.jg fs).inits.idxOf? K=none) (f:∀x S d,Q x c.v->VR R x S->Post S (w.at d)):∃N last o E T,runNT (P.jg fs) (N+1) (crowd s w sl) t=(.ended o E,T)/\runN (P.jg fs) N (crowd s w sl)=.next last/\Go.step (P.jg fs) last=.ended o E/\Go.Conc.Good (P.jg fs) Post last o E T:=by
 have⟨h1,F,x,h3,H,h5,h6,ab,U,l⟩:=hs;rw[F,k]at U;obtain rfl:=dQ U;have a:eN P R c.fr Z.frame:=by
  have e:=h.gor.fr;generalize a:(G c.fr c.cl).frame=fr at e;generalize V:Z.frame=b at e;cases e with
  |fr k=>subst a;exact k
  | @hole g hS hh xs ac W=>
   have:c.fr=Frame.enter P g xs .normal:=a;rw[this]at H;cases H
 have⟨b,ad,ae,af,ag⟩:=Z;have⟨I,ah,e1,J,hX⟩:=h.gor.callers;have X:=h.gor.st.2;have Y:=h.gor.dy.2;have e5:=h.gor.of.2;simp only at J X Y e5 a;have p:c.cl=I++[floor]:=e1;rw[h1]at p;have L:I=[]:=by
  cases I with
  |nil=>rfl
  |cons y ys=>simp at p
 subst L;cases hX;simp only[List.append_nil]at J;subst J X Y e5;have m2:b.mode=.returning:=by have i:=a.mode;rw[H]at i;generalize b.mode=m at i⊢;cases i;rfl
 have d2:b.defers=[]:=by have i:=a.defers;rw[h5]at i;generalize b.defers=m at i⊢;cases i;rfl
 have k2:b.kind=.normal:=a.kind▸h6;have f2:b.fn=K:=a.fn▸F;have g2:(P.jg fs).funcs[K]? =some r:=by have⟨ai,c2,j1,_,_,j4⟩:=h.good.two.fn K (F▸a.fnS.1);rw[j4 z]at k;rw[<-h.same];show R.fs[K]? =_;rw[j1,k]
 have r2:∀M,results r M=Pure.pure (M.getD j gT):=by intro M;simp[results,u]
 have W:x=c.fr.tmps.getD j gT:=by rw[r2]at l;simp only[Sem.run_pure]at l;injection l with l;exact l.symm
 have O:VR R x (b.tmps.getD j gT):=by rw[W];exact a.tmps.getD .undef j
 refine beside_ends (Shun:=pE A) (B:=w.lH) (D:=λ_ _ _=>False) (n:=0) (λ_ _ _ h=>h.elim) h.at0 h.leavers h.past ?_;rintro aa ⟨d,rfl⟩;refine⟨rfl,b.tmps.getD j gT,#[],?_,dt,f x _ d h3 O⟩;simp[stepG,unwind,doReturn,m2,d2,k2,f2,g2,r2,C,kH,seen];rfl
end
section
variable{P:cU}{Stop:Frame->List Frame->cI->Prop}
def Li(P:cU)(Stop:Frame->List Frame->dB):Prop:=∀b a v,Stop b a v->a≠[]/\∀T c d e,stepG P true (G b a) (du v T)=.go c d e->c.callers=[]
theorem A1{a:Frame}{v c:cI}{d:Array Event}(g:a.defers=[])(b:(a.mode=.returning/\a.kind=.normal/\∃e,P.funcs[a.fn]? =some e)\/∃f,a.mode=.panicking f) (h:stepG P true (G a [floor]) v=.go Z c d):Z.callers=[]:=by
 obtain⟨b,i,e,j⟩|⟨f,b⟩:=b;simp only[stepG,unwind,G,b,g,j,doReturn,i]at h;grind [results,runT,GStep.after];have k:unwind P true a [floor] none v=.go Z c d:=by grind [stepG,G]
 unfold unwind at k;grind
theorem A2{c a:Frame}{d b:List Frame}{v e:cI}(h:lone c d v=lone a b e):c=a/\d=b/\v=e:=by grind [Array.mk.injEq,List.cons.injEq,lone]
def Ju(v:cI):du v v.tape=v:=rfl
def yy(B:Li P Stop):∀(n:Nat) {c:rz} {T:Ta} {p:Frame} {m:List Frame} {w:cI},Inv P c->Below c.v T->runN P (n+1) (lone c.fr c.cl (du c.v T))=.next (lone p m w)->m≠[]->Path P Stop c ⟨p,m,w⟩/\Inv P ⟨p,m,w⟩:=by
 intro n;induction n with
 |zero=>
  intro c T p m w t u h j;obtain⟨o,C,g,e⟩|⟨x,f,g,e,s⟩|⟨a,b,f,g,e,d⟩:=(t.du T).step;exfalso;simp only[runN,oH e]at h;grind;exfalso;have⟨a,b,D,E,F⟩:=x;have⟨k,l,q,r,y⟩:=s;simp only at q k l r y;subst q k l r;simp only[runN,rA (show stepG P true (G c.fr c.cl) (du c.v T)=.go (G a []) f g from e)]at h;grind [A2];simp only[runN,rA (show stepG P true (G c.fr c.cl) (du c.v T)=.go (G a b) f g from e)]at h;injection h with h;obtain⟨rfl,rfl,rfl⟩:=A2 h;have i:stepG P true (G c.fr c.cl) (du c.v T)=.go (G a b) f g:=e;exact⟨.one (λz=>j ((B _ _ _ z).2 T _ _ _ i)) u i,d⟩
 |succ n H=>
  intro c T p m w t u h j;obtain⟨o,C,g,e⟩|⟨x,f,g,e,s⟩|⟨a,b,f,g,e,d⟩:=(t.du T).step;exfalso;have i:stepG P true (G c.fr c.cl) (du c.v T)=.ended o C g:=e;rw[runN,oH i]at h;grind;exfalso;have A:=s;have⟨a,b,D,E,F⟩:=x;have⟨k,l,q,r,y⟩:=s;simp only at q k l r y;subst q k l r;have⟨o,L,I,J⟩:=A.ended (P:=P) true f;rw[runN,rA (show stepG P true (G c.fr c.cl) (du c.v T)=.go (G a []) f g from e)]at h;dsimp only at h;rw[runN,oH (show stepG P true (G a []) f=_ from J)]at h;grind;have i:stepG P true (G c.fr c.cl) (du c.v T)=.go (G a b) f g:=e;rw[runN,rA i]at h;dsimp only at h;have K:¬Stop c.fr c.cl c.v:=λz=>d.callers ((B _ _ _ z).2 T _ _ _ i);have⟨k,l⟩:=H (c:=⟨a,b,f⟩) (T:=f.tape) d (λ_ _=>rfl) h j;exact⟨.cons K u i k,l⟩
def Path.reach{c d:rz}(h:Path P Stop c d)(f:Reach P Stop c):Reach P Stop d:=by
 induction h with
 |one a b e=>exact f.follow a b e
 |cons a b e _ g=>exact g (f.follow a b e)
def Calm(P:cU)(v:cI)(a:Frame):Prop:=(∃e,P.funcs[a.fn]? =some e)/\∀d∈a.defers,∃b,d.target=.collected b/\∀c,v.heap[b]? =some (.deferred (some c))->c=[]
def CR(v d:cI):Prop:=∀(b:Nat) (a:eF) (t:cQ) (c:Nat×Nat),v.heap[b]? =some (Obj.cells a t c)->d.heap[b]? =some (Obj.cells a t c)
structure Lj(P:cU)(v0:cI)(c:rz):Prop where
 mode:∃ch,c.fr.mode=.panicking ch
 calm:Calm P c.v c.fr
 callers:∃X,c.cl=X++[floor]/\∀x∈X,Calm P c.v x
 kept:CR v0 c.v
 back:CR c.v v0
 size:c.v.heap.size=v0.heap.size
def run_takeDeferred(b:Nat)(v:cI):(∃h w,(Instr.takeDeferred b).run P v=.halt h w)\/∃a,v.heap[b]? =some (.deferred (some a))/\(Instr.takeDeferred b).run P v=.ok a {v with heap:=v.heap.setIfInBounds b (.deferred none)}:=by
 unfold Instr.takeDeferred;simp only[Sem.run_bind];cases d:v.heap[b]? with
 |none=>simp[Sem.run,getObj,d]
 |some o=>
  cases o with
  |deferred c=>cases c with
   |none=>simp[Sem.run,getObj,d,stuck]
   |some a=>exact .inr ⟨a,rfl,by simp[Sem.run,getObj,setObj,d]⟩
  |_=>simp[Sem.run,getObj,d,stuck]
def Frame.EG(a:Frame)(b:List PanicEntry):(a.raise b).defers=a.defers/\(a.raise b).fn=a.fn/\∃c,(a.raise b).mode=.panicking c:=by unfold Frame.raise;grind
def Lj.stop(V:Li P Stop){v0:cI}:∀{c:rz},Reach P Stop c->Lj P v0 c->∃z,Stop z.fr z.cl z.v/\Lj P v0 z:=by
 intro c W;induction W with
 | @here c h=>grind
 | @next c N O Y=>
  intro f;have⟨D,es,e⟩:=N c.v.tape (λ_ _=>rfl);have E:=O _ _ _ (λ_ _=>rfl) e;have m:=Y _ _ _ (λ_ _=>rfl) e;rw[Ju]at e;have⟨F,Q⟩:=f.mode;have⟨⟨Z,H⟩,n⟩:=f.calm;have⟨X,R,l⟩:=f.callers;have p:c.fr.catches P=false:=by unfold Frame.catches;grind
  cases A:c.fr.defers with
  |nil=>
   simp only[stepG,unwind,G,Q,A,p,R,iH,fj]at e;cases X with
   |nil=>
    exfalso;simp only[oD]at e;injection e with q g I;injection q with i j;have⟨r,s,S⟩:=D;simp only at g i j;subst g i j;cases E with
    |here h=>exact(V _ _ _ h).1 rfl
    |next k1 k2=>
     have⟨c2,aa,g⟩:=k1 c.v.tape (λ_ _=>rfl);have⟨o,w',ab,I⟩:=(show zP (G (floor.raise F) [])from⟨rfl,rfl,rfl,rfl,.inr ⟨_,rfl⟩⟩).ended (P:=P) true (du c.v c.v.tape);grind
   |cons x X=>
    simp only[nP]at e;injection e with q g I;injection q with i j;have⟨r,s,S⟩:=D;simp only at g i j;subst g i j;have⟨r1,r2,r3⟩:=Frame.EG x F;refine m ⟨r3,?_,⟨X,rfl,λy hy=>l y (ii _ hy)⟩,f.kept,f.back,f.size⟩;have:=l x (fF ..);exact⟨by rw[r2];exact this.1,by rw[r1];exact this.2⟩
  |cons d ds=>
   have⟨b,T,u⟩:=n d cK;have⟨ac,U⟩:=d;simp only at T;subst T;simp only[stepG,unwind,G,Q,A,kH]at e;obtain⟨h,w,k⟩|⟨J,K,k⟩:=run_takeDeferred (P:=P) b c.v;grind [GStep.after]
   ·rw[k]at e;simp only[GStep.after]at e;injection e with q g I;injection q with i j;obtain rfl:=u J K;have⟨r,s,S⟩:=D;simp only at g i j;subst g i j;have a:∀x,Calm P c.v x->Calm P {c.v with heap:=c.v.heap.setIfInBounds b (.deferred none)} x:=λx B=>⟨B.1,λd A=>by have⟨C,N,O⟩:=B.2 d A;grind⟩;refine m ⟨⟨F,cK⟩,a _ ⟨⟨Z,H⟩,λd h=>n d cK⟩,⟨X,R,λx B=>a x (l x B)⟩,λC L t M h=>?_,λC L t M h=>f.back C L t M ?_,eV f.size⟩;rotate_left;grind;have h':=f.kept C L t M h;grind
def Qe(j:Li P Stop){fr:Frame}{v:cI}(k:Reach P Stop ⟨fr,[floor],v⟩)(l:Inv P ⟨fr,[floor],v⟩)(I:¬Stop fr [floor] v)(m:fr.defers=[]) (n:(fr.mode=.returning/\fr.kind=.normal/\∃p,P.funcs[fr.fn]? =some p)\/∃q,fr.mode=.panicking q):False:=by
 cases k with
 |here h=>grind
 |next r s=>
  have⟨a,t,e⟩:=r v.tape (λ_ _=>rfl);have g:=s _ _ _ (λ_ _=>rfl) e;have b:stepG P true (G fr [floor]) v=.go (G a.fr a.cl) a.v t:=e;have u:a.cl=[]:=A1 m n b;obtain⟨o,J,c,f⟩|⟨K,w,c,f,x⟩|⟨y,z,w,c,f,d⟩:=l.step;grind;rw[show stepG P true (G fr [floor]) v=_ from f]at b;injection b with i A B;cases g with
  |here h=>exact(j _ _ _ h).1 u
  |next C L=>
   have⟨M,D,E⟩:=C a.v.tape (λ_ _=>rfl);have⟨o,N,F,H⟩:=x.ended (P:=P) true (du a.v a.v.tape);grind
  rw[show stepG P true (G fr [floor]) v=_ from f]at b;injection b with i A B;injection i with E H;exact d.callers cK
def M0{b c a:Machine}(h:runN P m b=.next c)(d:Go.step P c=.next a):runN P (m+1) b=.next a:=by
 induction m generalizing b with
 |zero=>
  grind [runN]
 |succ m e=>
  grind [runN,Go.step]
theorem S5{v:cI}(n:Good P R)(p:¬R.Def)(q:∀b l,R.r b l->∃o i,v.heap[b]? =some o/\(∃u:cI,u.heap[l]? =some i)/\Kf R (R.sh b) o i){x m:Frame}(h:eN P R x m):Calm P v x:=by
 have⟨s,c,j,_,_⟩:=n.fit.fn _ h.fnS.1;refine⟨⟨s,j⟩,?_⟩;have f:=h.defers;revert f;generalize x.defers=t;generalize m.defers=w;intro f;induction f with
 |nil=>grind
 |cons y z _ B=>
  intro d f;obtain rfl|f:=eW.1 f;have⟨b,g⟩:=z.resolve_left p;refine⟨b,g,λt a=>?_⟩;cases y with
  |collected A=>
   injection g with g;subst g;have⟨o,i,j,_,k⟩:=q _ _ A;rw[j]at a;injection a with a;subst a;obtain⟨_,k⟩|⟨_,_,_,_,_,_,_,e,_⟩:=k;cases k;rfl;grind
  |_=>grind
  grind
def Qf{v:cI}(e:Good P R)(f:¬R.Def)(g:∀b a,R.r b a->∃o c,v.heap[b]? =some o/\(∃u:cI,u.heap[a]? =some c)/\Kf R (R.sh b) o c){X d:List Frame}(h:iY P R X d):∀x∈X,Calm P v x:=by
 induction h with
 |nil=>grind
 |cons i _ j=>
  grind [S5]
def Calm.grow{v a:cI}{x:Frame}(h:Calm P v x)(f:∀b,b<v.heap.size->a.heap[b]? =v.heap[b]?)(g:∀b c,v.heap.size<=b->a.heap[b]? =some (.deferred (some c))->False):Calm P a x:=
 ⟨h.1,λd e=>by have⟨b,i,j⟩:=h.2 d e;grind⟩
end
end Go.dz
namespace Go.Proofs.W
open Go.Conc Go.dz Go.dz.Cr Go.RowKit
def _root_.Go.dz.Kf.Jv{m:Option Nat}{a:Nat×Nat}(h:Kf R m (.cells W T a) O)(b:T≠uZ):m=none:=by obtain⟨h,_⟩|⟨_,_,_,_,_,_,_,e,_⟩:=h;grind;grind
def jY.carry{n:Type}{E p:cI->cJ->n->Prop}{l:List n} (D:HR R t w)(F:∀b c,R.r b c->B c)(G:T≠uZ) (hz:∀q,VR R z q->q=z)(hE:∀i e a,E t i a->VR R i e->p w e a) (h:jY A E z T t x l)(u:VR R x y):jY B p z T w y l:=by
 obtain⟨rfl,rfl⟩|⟨b,c,cs,fz,h1,rfl,H,I,J,K,L⟩:=h;cases u;exact .inl ⟨rfl,rfl⟩;cases u with
 |slice _ _ M=>
  cases M with
  | @mk b N o s v=>
   have⟨o,o',f,O,g⟩:=D.obj _ _ v;rw[H]at f;injection f with f;subst f;have C:=g.Jv G;replace g:=g.obj C;rw[C];cases g with
   | @cells _ j _ _ m d hf=>
    refine .inr ⟨N,c,j,m,F _ _ v,rfl,O,d.size▸I,J,λk P=>?_,λk Q S=>?_⟩;have⟨i,U,he⟩:=K k P;obtain⟨V,_⟩|⟨W,e,X,Y,Z⟩:=d.get? k;grind;grind;have U:=L k Q S;obtain⟨V,_⟩|⟨W,e,X,Y,Z⟩:=d.get? k;grind;grind
def VR.int_eq{k:IntKind}(h:VR R (.int k I) x):x=.int k I:=by cases h;rfl
def VR.yz(h:VR R (.slice none 0 0) x):x=.slice none 0 0:=by cases h;rfl
theorem CS:∀{l:eY} {a:dN},sn R (l.map (Value.int .i64)) a->a=l.map (Value.int .i64)
 |[],_,h=>by cases h;rfl
 |x::l,_,h=>by
  simp only[kY]at h;cases h with
  |cons h t=>rw[VR.int_eq h,CS t];rfl
theorem fY.carry{D:eJ}(g:HR R t w)(i:∀b c,R.r b c->B c) (h:fY A m D t)(F:R.r m k):fY B k D w:=by
 have⟨Q,S,T,U,G,H,I,J⟩:=h.at_;have⟨o,V,u,K,v⟩:=g.obj _ _ F;rw[H]at u;injection u with u;subst u;replace v:=v.obj (v.Jv kA);cases v with
 | @cells _ j _ _ y z W=>
  have l:=z.list;simp only[dX,nP,oD]at l;cases d:j.toList with
  |nil=>rw[d]at l;cases l
  |cons n X=>
   rw[d]at l;cases l with
   |cons C L=>
    cases L with
    | @cons _ p _ _ M N=>
     cases N with
     | @cons _ q _ _ O P=>
      have:=CS P;subst this;refine⟨h.ok,i _ _ F,n,p,q,y,?_,?_,?_,?_⟩;obtain rfl|⟨a,rfl⟩:=G;unfold undef at C;cases C with
      | @tuple _ s Y Z=>
       have:s=#[]:=cK;rw[this];exact .inl rfl
      |DD hd a=>exact .inr ⟨a,rfl⟩
      cases C with
      |ptr ha=>exact .inr ⟨_,rfl⟩
      rw[K];have:j=dX n p q D.counts:=RA (by rw[d];simp[dX]);grind;exact I.carry g i kA (λ_ h=>VR.int_eq h) (λx E a (e:x=_) f=>by subst e;exact VR.int_eq f) M;exact J.carry g i kA (λ_ h=>VR.yz h) (λx E a e f=>e.carry g i kA (λ_ h=>VR.yz h) (λx E a e f=>e.carry g i kA (λ_ h=>VR.int_eq h) (λx E a (e:x=_) f=>by subst e;exact VR.int_eq f) f) f) O
theorem jY.cells{f:Type}{N:dn}{E:cI->cJ->f->Prop}{z:cJ}{t:cQ}{w e:cI}{v:cJ}{l:List f}(i:∀b a t d,N b->w.heap[b]? =some (.cells a t d)->e.heap[b]? =some (.cells a t d))(j:∀u x,E w u x->E e u x)(h:jY N E z t w v l):jY N E z t e v l:=by obtain h|⟨b,c,a,d,g,m,n,o,p,q,r⟩:=h;exact .inl h;refine .inr ⟨b,c,a,d,g,m,i _ _ _ _ g n,o,p,λk s=>?_,r⟩;have⟨u,y,A⟩:=q k s;exact⟨u,y,j _ _ A⟩
theorem fY.cells{N:dn}{d:Nat}{D:eJ}{w e:cI}(a:∀b f t c,N b->w.heap[b]? =some (.cells f t c)->e.heap[b]? =some (.cells f t c))(h:fY N d D w):fY N d D e:=by have⟨g,i,j,c,k,l,m,n⟩:=h.at_;exact⟨h.ok,h.lt,g,i,j,c,k,a _ _ _ _ h.lt l,m.cells a λ_ _ h=>h,n.cells a λ_ _ h=>h.cells a λ_ _ h=>h.cells a λ_ _ h=>h⟩
def jU:List PanicEntry:=[{v:=.iface 3 (.int .i64 7),recovered:=false}]
noncomputable def iB(a:eF):Act:=(⟨a++Array.replicate (9-a.size) undef,[]⟩:Act).put (some 9) (.bool true)
noncomputable def o9(a:eF):eF:=#[(iB a).eval (.tmp 0),(iB a).eval (.tmp 1),(iB a).eval (.tmp 2),(iB a).eval (.tmp 3),(iB a).eval (.tmp 4),(iB a).eval (.tmp 5),(iB a).eval (.tmp 6),(iB a).eval (.tmp 7),(iB a).eval (.tmp 8),(iB a).eval (.tmp 9)]
def vv(v:cJ):eF:=#[v,undef,undef,undef,undef,undef,undef,undef,undef,undef]
def tH(a:eF):Obj:=.cells #[.func (.func 227) #[] a] 200
def UE(v:cI):Prop:=∃a n D N,v.heap[n]? =some (tH (vv (.pointer (some ⟨a,0,none⟩))))/\v.heap.size=n+1/\fY N a D v/\∀b,N b->b<n
theorem fY.du{D:eJ}(T:Ta)(h:fY A m D t):fY A m D (Go.dz.du t T):=fY.same (w:=t) (w':=Go.dz.du t T) (λ_ _=>rfl) h
theorem UE.du(T:Ta)(h:UE t):UE (du t T):=by have⟨a,n,D,N,b,c,d,e⟩:=h;exact⟨a,n,D,N,b,c,fY.same (w:=t) (w':=Go.dz.du t T) (λ_ _=>rfl) d,e⟩
def wF(a:eF)(i:Nat):(iB a).eval (.tmp i)=((a++Array.replicate (9-a.size) undef).setIfInBounds 9 (.bool true)).getD i undef:=rfl
def Lk(a:eF)(i:Nat):a.getD i undef=(a[i]?).getD undef:=dt
def Jw(c:x≠undef)(h:o9 W=vv x):W.size<=9/\0<W.size/\W[0]? =some x/\∀i,1<=i->i<W.size->W[i]? =some undef:=by
 have a:∀(i:Nat),i<10->(iB W).eval (.tmp i)=if i=0 then x else undef:=by intro i d;have e:(o9 W)[i]? =(vv x)[i]? :=cK;have:i=0\/i=1\/i=2\/i=3\/i=4\/i=5\/i=6\/i=7\/i=8\/i=9:=cL;obtain rfl|rfl|rfl|rfl|rfl|rfl|rfl|rfl|rfl|rfl:=this<;>(simp only[o9,vv,Fs,T5,Kc,iO]at e;rw[e];rfl)
 have l:W.size<=9:=by refine Nat.le_of_not_lt λf=>?_;have:=a 9 cL;rw[wF,Lk,oz cK]at this;simp[undef]at this
 have g:(W++Array.replicate (9-W.size) undef).size=9:=cK;have j:∀(i:Nat),i<9->(iB W).eval (.tmp i)=((W++Array.replicate (9-W.size) undef)[i]?).getD undef:=λi d=>by rw[wF,Lk,fZ cL]
 have k:∀(i:Nat),i<W.size->(iB W).eval (.tmp i)=(W[i]?).getD undef:=cK;have b:0<W.size:=by refine Nat.pos_of_ne_zero λm=>c ?_;have n:=a 0 cL;grind
 grind
def A3{a:Func}(c:P.funcs[K]? =some a)(g:9<=a.ntmps)(j:W.size<=9)(l:0<W.size)(d:W[0]? =some x)(f:∀i,1<=i->i<W.size->W[i]? =some undef)(k:CallKind):Frame.enter P K W k=Frame.enter P K #[x] k:=by
 have e:W++Array.replicate (a.ntmps-W.size) gT=#[x]++Array.replicate (a.ntmps-(#[x]:eF).size) gT:=by
  refine Ob λi=>?_;by_cases b:i<W.size;rw[Dy b];cases i with
  |zero=>rw[d,Dy dt];rfl
  |succ i=>
   rw[f _ cL b,Dz dt];rw[vQ,cT pY]
  rw[Dz cL,Dz pY,vQ,vQ];by_cases h:i-W.size<a.ntmps-W.size;rw[cT h,cT pY];rw[cR h,cR pY]
 simp only[Frame.enter,c,mn,kG];rw[e]
end Go.Proofs.W
namespace Go.Proofs.W
open Go.Conc Go.dz Go.dz.Cr Go.RowKit
open Go.ConcR (KK wgBlock WgAt stA smA mk DC0)
abbrev sx:List Nat:=[190,215,216,227,228,229,164,194,128]
def qw(f:Nat):Bool:=f==190
def S7:sx.all (okF sx true qw)=true:=eE
def CU(N:dn)(w:cI)(b:Nat):Prop:=N b/\∃a c,w.heap[b]? =some (.cells a 3 c)/\∀(i:Nat) u,a[i]? =some u->∃n,u=.int .i64 n
def CV(N:dn)(w:cI)(t:cQ)(Q:dn)(b:Nat):Prop:=N b/\∃a e,w.heap[b]? =some (.cells a t e)/\∀(i:Nat) u,a[i]? =some u->u=.slice none 0 0\/∃d l c,u=.slice (some ⟨d,0,none⟩) l c/\Q d
def pg(N:dn)(w:cI)(pb b:Nat):Prop:=CU N w b\/CV N w 27 (CU N w) b\/CV N w 66 (CV N w 27 (CU N w)) b\/b=pb
def jY.zD{e:Type}{N:dn}{E:cI->cJ->e->Prop}{w:cI}{l:List e}(h:jY N E z U w x l):x=.slice none 0 0\/∃b c a d,N b/\x=.slice (some ⟨b,0,none⟩) l.length c/\w.heap[b]? =some (.cells a U d)/\∀(i:Nat) u,a[i]? =some u->u=z\/∃f,E w u f:=by obtain⟨_,h⟩|⟨b,c,a,d,g,j,k,n,o,p,q⟩:=h;grind;refine .inr ⟨b,c,a,d,g,j,k,λi u m=>?_⟩;have r:i<a.size:=(iS.1 m).1;by_cases s:i<l.length;grind;grind
theorem A4{N:dn}{w:cI}{l:cM}(h:xq N w x l):x=.slice none 0 0\/∃b l c,x=.slice (some ⟨b,0,none⟩) l c/\CU N w b:=by obtain h|⟨b,c,a,d,e,f,g,j⟩:=h.zD;grind;refine .inr ⟨b,_,c,f,e,a,d,g,λi u k=>?_⟩;obtain rfl|⟨m,n⟩:=j i u k;grind;exact⟨m,n⟩
theorem Hh{N:dn}{w:cI}{l:List cM}(h:Al N w x l):x=.slice none 0 0\/∃b l c,x=.slice (some ⟨b,0,none⟩) l c/\CV N w 27 (CU N w) b:=by obtain h|⟨b,c,a,d,e,f,g,j⟩:=h.zD;grind;refine .inr ⟨b,_,c,f,e,a,d,g,λi u k=>?_⟩;grind [A4]
def M4{N:dn}{w:cI}{l:List (List cM)}(h:wl N w x l):x=.slice none 0 0\/∃b l c,x=.slice (some ⟨b,0,none⟩) l c/\CV N w 66 (CV N w 27 (CU N w)) b:=by obtain h|⟨b,c,a,d,e,f,g,j⟩:=h.zD;grind;refine .inr ⟨b,_,c,f,e,a,d,g,λi u k=>?_⟩;grind [Hh]
def xL(T pb b:Nat)(o:Obj):Obj:=if b=T then o else match o with
 | .cells a t c=>.cells (if b=pb then a.setIfInBounds 0 undef else a) t (0,max a.size c.2)
 |o=>o
def vS(T pb:Nat)(w:cI):cI:={w with heap:=w.heap.mapIdx (xL T pb)}
theorem Jx{T pb:Nat}{w:cI}(b:Nat):(vS T pb w).heap[b]? =(w.heap[b]?).map (xL T pb b):=by show(w.heap.mapIdx (xL T pb))[b]? =_;grind
def UF{T pb:Nat}{w:cI}:(vS T pb w).heap[T]? =w.heap[T]? :=by
 rw[Jx];cases w.heap[T]? with
 |none=>rfl
 |some o=>simp[xL]
def qX{T pb:Nat}{w:cI}{b:Nat}{a:Nat×Nat}(c:b≠T)(d:b≠pb)(h:w.heap[b]? =some (.cells W U a)):(vS T pb w).heap[b]? =some (.cells W U (0,max W.size a.2)):=by grind [Jx,xL]
def Jy{T pb:Nat}{w:cI}{a:Nat×Nat}(b:pb≠T)(h:w.heap[pb]? =some (.cells W U a)):(vS T pb w).heap[pb]? =some (.cells (W.setIfInBounds 0 undef) U (0,max W.size a.2)):=by grind [Jx,xL]
def jY.Yd{n:Type}{N o:dn}{E p:cI->cJ->n->Prop}{w w':cI}{l:List n}(H:∀u g,E w u g->p w' u g)(h:jY N E z U w x l) (t:∀b d j,N b->w.heap[b]? =some (.cells d U j)->(∀(i:Nat) u,d[i]? =some u->u=z\/∃g,E w u g)->o b/\∃f,w'.heap[b]? =some (.cells d U f)):jY o p z U w' x l:=by have q:=h.zD;obtain h|⟨b,c,d,j,v,r,s,y,A,I,B⟩:=h;exact .inl h;obtain q|⟨J,K,C,f,L,a,e,D⟩:=q;grind;rw[r]at a;injection a with a;injection a with a;injection a with a;subst a;rw[s]at e;injection e with e;injection e with e;subst e;have⟨F,m,G⟩:=t b d j v s D;refine .inr ⟨b,c,d,m,F,r,G,y,A,λk M=>?_,B⟩;grind
section
variable{N:Nat->Prop}{w:cI}{pb T:Nat}{D:eJ}
theorem A5(d:fY N pb D w){b:Nat}(h:pg N w pb b):N b/\∃a t c,w.heap[b]? =some (.cells a t c)/\(t=3\/t=27\/t=66\/t=207)/\(b=pb↔t=207):=by
 have⟨j,k,l,f,m,g,n,o⟩:=d.at_;have i:∀{b t a c},w.heap[b]? =some (.cells a t c)->t≠207->b≠pb:=by grind
 obtain⟨e,a,c,h,_⟩|⟨e,a,c,h,_⟩|⟨e,a,c,h,_⟩|rfl:=h;grind;grind;grind;exact⟨d.lt,_,_,_,g,.inr (.inr (.inr rfl)),λ_=>rfl,λ_=>rfl⟩
def Qg(q:fY N pb D w)(o:∀b,pg N w pb b->b≠T):fY (pg N w pb) pb D (vS T pb w):=by
 have⟨v,r,s,d,B,y,z,A⟩:=q.at_;have f:∀{b t g d},w.heap[b]? =some (.cells g t d)->t≠207->b≠pb:=by grind
 have GZ:∀u l,xq N w u l->xq (pg N w pb) (vS T pb w) u l:=λu l h=>jY.Yd (w:=w) (w':=vS T pb w) (λ_ _ h=>h) h λb g d k c m=>by have a:pg N w pb b:=.inl ⟨k,g,d,c,λi u a=>(m i u a).elim (λe=>⟨0,e⟩) λ⟨x,n⟩=>⟨x,n⟩⟩;exact⟨a,_,qX (o b a) (f c cK) c⟩
 have rows:∀u l,Al N w u l->Al (pg N w pb) (vS T pb w) u l:=λu l h=>jY.Yd (w:=w) (w':=vS T pb w) GZ h λb g d k c m=>by have a:pg N w pb b:=.inr (.inl ⟨k,g,d,c,λi u a=>(m i u a).elim .inl λ⟨x,n⟩=>A4 n⟩);exact⟨a,_,qX (o b a) (f c cK) c⟩
 have j:∀u l,wl N w u l->wl (pg N w pb) (vS T pb w) u l:=λu l h=>jY.Yd (w:=w) (w':=vS T pb w) rows h λb g d k c m=>by have a:pg N w pb b:=.inr (.inr (.inl ⟨k,g,d,c,λi u a=>(m i u a).elim .inl λ⟨x,n⟩=>Hh n⟩));exact⟨a,_,qX (o b a) (f c cK) c⟩
 refine⟨q.ok,.inr (.inr (.inr rfl)),undef,r,s,(0,max (dX v r s D.counts).size d.2),.inl rfl,?_,GZ _ _ z,j _ _ A⟩;have p:pb≠T:=o pb (.inr (.inr (.inr rfl)));rw[Jy p y];rfl
def M5{y rd:dn}(Q:fY N pb D w)(z:∀b,pg N w pb b->b≠T)(J:∀b,N b->rd b)(R:y T)(S:w.heap[T]? =some (.cells (kM ⟨pb,0,none⟩) 245)):
 xj (qP sx qw (λb=>pg N w pb b\/b=T)) (vS T pb w) w y rd:=by
 have⟨K,G,H,p,V,q,A,W⟩:=Q.at_;have B:pb≠T:=z pb (.inr (.inr (.inr rfl)));have g:∀u,(u=fl\/∃d l c,u=fa d l c/\pg N w pb d)->VR (qP sx qw (λb=>pg N w pb b\/b=T)) u u:=by rintro u (rfl|⟨d,l,c,rfl,f⟩);exact .gE _ _;exact .slice _ _ (.mk _ _ ⟨rfl,.inl f⟩)
 have L:∀{b t j p},w.heap[b]? =some (.cells j t p)->t≠207->b≠pb:=by grind
 have self:∀{b t j p},w.heap[b]? =some (.cells j t p)->b≠T->t≠207->(∀(i:Nat) u,j[i]? =some u->VR (qP sx qw (λb=>pg N w pb b\/b=T)) u u)->
  ∃o U,(vS T pb w).heap[b]? =some o/\w.heap[b]? =some U/\kJ (qP sx qw (λb=>pg N w pb b\/b=T)) o U:=λ{b t j p} h f X hc=>
  ⟨_,_,qX f (L h X) h,h,.cells ⟨rfl,λi v v' k r=>cK⟩ λm s=>⟨gi _,ep s.2 (Nat.le_max_right _ _)⟩⟩
 refine⟨HR.of (λ_=>rfl) λb Y M=>?_,λb Y M=>?_⟩;obtain⟨rfl,f|rfl⟩:=M;obtain⟨I,j,C,k,r⟩|⟨I,j,C,k,r⟩|⟨I,j,C,k,r⟩|rfl:=id f;exact self k (z b f) cK λi u E=>by obtain⟨n,rfl⟩:=r i u E;exact .int _ _
 exact self k (z b f) cK λi u E=>g u ((r i u E).imp id λ⟨d,l,c,q,A⟩=>⟨d,l,c,q,.inl A⟩);exact self k (z b f) cK λi u E=>g u ((r i u E).imp id λ⟨d,l,c,q,A⟩=>⟨d,l,c,q,.inr (.inl A)⟩);refine⟨_,_,Jy B q,q,.cells (fW.mq ?_) λm s=>⟨gi _,ep s.2 (Nat.le_max_right _ _)⟩⟩;have e:((dX K G H D.counts).setIfInBounds 0 gT).toList=gT::G::H::D.counts.map (Value.int .i64):=by simp[dX]
 have Z:(dX K G H D.counts).toList=K::G::H::D.counts.map (Value.int .i64):=by simp[dX]
 rw[e,Z];refine .cons ?_ (.cons (g _ ((A4 A).imp id λ⟨d,l,c,O,P⟩=>⟨d,l,c,O,.inl P⟩)) (.cons (g _ ((M4 W).imp id λ⟨d,l,c,O,P⟩=>⟨d,l,c,O,.inr (.inr (.inl P))⟩)) ?_));obtain rfl|⟨a,rfl⟩:=V;exact .undef;exact .DD rfl a;generalize D.counts=l;induction l with
 |nil=>exact .nil
 |cons x l ih=>exact .cons (.int _ _) ih
 refine⟨_,_,UF.trans S,S,.cells (fW.mq ?_) λ_ h=>h⟩;have hp:VR (qP sx qw (λx=>pg N w pb x\/x=b)) (dR pb) (dR pb):=.ptr (.mk _ _ ⟨rfl,.inl (.inr (.inr (.inr rfl)))⟩);exact .cons hp (.cons (.gE _ _) (.cons (.int _ _) (.cons (.int _ _) (.cons (.int _ _) (.cons (.int _ _) (.cons (.int _ _) (.cons (.int _ _) (.cons (.gE _ _) (.cons (.int _ _) (.cons (.int _ _) (.cons (.bool _) .nil)))))))))));obtain⟨rfl,f|rfl⟩:=M;have⟨I,j,t,p,k,_,_⟩:=A5 Q f;refine .inr ⟨J b I,?_⟩;by_cases F:b=pb;subst F;exact⟨_,_,_,Jy B k,λm s=>⟨gi _,ep cK (Nat.le_max_left _ _)⟩⟩;exact⟨_,_,_,qX (z b f) F k,λm s=>⟨gi _,ep s (Nat.le_max_left _ _)⟩⟩;grind
end
def UG(pb T:Nat)(s:Sp)(_:cJ)(a:cI):Prop:=∃b c d L y,a.heap[T]? =some (fo pb b c d L y)/\dT (λ_=>True) a s y
def M6(pb:Nat):(Obj.cells (kM ⟨pb,0,none⟩) 245)=fo pb none 0 0 L0 Sw:=rfl
def CW:∀d,tq 0 d=0:=λd=>by simp[tq]
def S8(HP:GA)(N:dn)(pb:Nat)(D:eJ)(w0:cI)(ak:fY N pb D w0)(hN:∀b,N b->b<w0.heap.size)(h0:0<D.opn.length):Js w0 N pb (ef D 0).length (Gv D):=by
 intro rd Wg i hi al own w T c cs hq Z hz;have hP:fY N pb D w:=ak.same hq;have aE:∀b,N b->b<w.heap.size:=λb hb=>by have o:=hq b hb;grind
 have hT:∀b,pg N w pb b->b≠T:=by grind [A5]
 have aF:=lt_of_heap hz;have aa:own T:=(Z T).2 rfl;have p:=M5 (rd:=rd) hP hT al aa hz;have hG:Go.dz.Good V.prog (qP sx qw (λb=>pg N w pb b\/b=T)):=Cy S7 dt
 have ab:fW (qP sx qw (λb=>pg N w pb b\/b=T)) #[dR T,i64 i] #[dR T,i64 i]:=
  fW.Ol (.ptr (.mk _ _ ⟨rfl,.inr rfl⟩)) (.int _ _)
 have hS:(qP sx qw (λb=>pg N w pb b\/b=T)).S 190=true:=by show sx.contains 190=true;grind
 have aG:(vS T pb w).heap.size=w.heap.size:=by simp[vS]
 have am:=Qg (T:=T) hP hT;have z:Go.dz.Reach V.prog (Go.dz.Left V.prog 190 (UG pb T (Gv D i))) ⟨Frame.enter V.prog 190 #[dR T,i64 i] .normal,[floor],vS T pb w⟩:=by
  refine sX (λx w' Tp ⟨pa,pl,pc,L,y,o,h2⟩=>⟨pa,pl,pc,L,y,o,h2.same λ_ _=>rfl⟩) (tg hG (λ_=>rfl) hS ab p) λTp aH=>?_;have an:jh (pg N w pb) pb T D 0 0 (du (vS T pb w) Tp) [] none 0 L0 Sw none:=by refine⟨⟨am.du _,λb hb=>⟨?_,hT b hb,dt⟩,?_,.inl ⟨rfl,rfl,rfl⟩,λs _=>by simp[L0],λs _ j _ _=>CW _,gi _,λ_=>rfl⟩,rfl,(λl m k h=>cK),gi _,gi _⟩;show b<(vS T pb w).heap.size;grind [A5];show(vS T pb w).heap[T]? =_;rw[UF,hz];rfl
  refine(HP (pg N w pb) pb T D 0 0 (du (vS T pb w) Tp) [] none 0 L0 Sw none i an h0 hi).mono ?_;rintro e w' ⟨rfl,ao,ap,L',y',hg,_,_,_⟩;exact⟨_,rfl,ao,_,ap,L',y',hg.t.at_,hg.sched.mono λ_ _=>trivial⟩
 have q:=Kt (U:=λx=>x=undef) (λts Q w x u h=>by
  have:(results Tryz.f190 ts)=Pure.pure undef:=by simp[results,Tryz.results190,undef]
  grind [Sem.run_pure]) (ty:=241) (Wg:=Wg) (main:=false) (caller:=c) (cs:=cs) (own:=own) (rd:=rd) hG (λ_=>rfl) hS V.func190 (R:=UG pb T (Gv D i)) (λx w' Tp ⟨pa,pl,pc,L,y,o,h2⟩=>⟨pa,pl,pc,L,y,o,h2.same λ_ _=>rfl⟩) ab z p
 have e:V.prog.jg (qP sx qw (λb=>pg N w pb b\/b=T)).fs=PR:=Sn;rw[e]at q;refine(Wy.Uj q).bind λo' g w' h=>pH λw1 hr=>?_;obtain⟨⟨ρ,x,x',v,rfl,⟨pa,pl,pc,L,y,hb,hs⟩,hv,ac,aq,rfl⟩,ar⟩:=h;have C:o' T:=ar T aa;have au:ρ.r T T:=ac.r _ _ ⟨rfl,.inr rfl⟩;have ad:∀O,eP o' rd (Lv 241 Wg) w' O->∃E F G H I J K M a l cc m n s fz,O.heap[T]? =some (.cells #[E,F,G,H,I,J,K,M,.slice a l cc,i64 m,i64 n,.bool s] 245 fz)/\VA (Gv D) i o' O (.agg #[.slice a l cc,i64 m,i64 n,.bool s]):=by
  intro O A;have P:=aq.rely A;have⟨ob,av,k1,k2,k3⟩:=P.heap.obj T T au;have W:∀c,ρ.sh c=none:=λc=>by rw[<-ac.g];rfl
  replace k3:=k3.obj (W _);rw[hb]at k1;injection k1 with k1;subst k1;unfold fo at k3;cases k3 with
  | @cells _ ae _ _ B kv kf=>
   have d:=kv.list;simp only at d;cases X:ae.toList with
   |nil=>rw[X]at d;cases d
   |cons E l0=>
   rw[X]at d;cases d with|cons _ d=>cases d with| @cons _ F _ _ _ d=>cases d with| @cons _ G _ _ _ d=>cases d with| @cons _ H _ _ _ d=>cases d with| @cons _ I _ _ _ d=>cases d with| @cons _ J _ _ _ d=>
   cases d with| @cons _ K _ _ _ d=>cases d with| @cons _ M _ _ _ d=>cases d with| @cons _ p8 _ _ g8 d=>cases d with| @cons _ p9 _ _ g9 d=>cases d with| @cons _ aw _ _ ax d=>cases d with| @cons _ ay _ _ az d=>cases d with
   |nil=>
   have af:ae=#[E,F,G,H,I,J,K,M,p8,p9,aw,ay]:=RA X;cases g9;cases ax;cases az;generalize Y:Gv D i=sp at hs⊢;cases sp with
   |none=>
    have:y=Sw:=hs;subst this;cases g8;exact⟨E,F,G,H,I,J,K,M,none,0,0,0,0,false,B,by rw[k2,af];rfl,λ_=>False,λx h=>h.elim,Sw,rfl,by rw[Y];rfl⟩
   |some sp=>
    have⟨ls,mm,kk⟩:=sp;obtain⟨q1,q2,q3,q4,⟨q5,q6,q7⟩|⟨q5,ag,q6,q7,q8,aA,fz,q9,ah⟩⟩:=hs;rw[q6]at g8;cases g8;exact⟨E,F,G,H,I,J,K,M,none,_,_,_,_,_,B,cK,λ_=>False,λx h=>h.elim,⟨none,y.sl,y.sc,y.m,y.k,y.b⟩,rfl,by rw[Y];exact⟨q1,q2,q3,q4,.inl ⟨q5,rfl,q7⟩⟩⟩;rw[q7]at g8;cases g8 with
    |slice _ _ ha=>
     cases ha with
     | @mk _ f _ _ ai=>
      have⟨ob,av,j1,j2,j3⟩:=P.heap.obj ag f ai;replace j3:=j3.obj (W _);rw[W ag,Option.getD_none,pC]at af;rw[ah]at j1;injection j1 with j1;subst j1;cases j3 with
      | @cells _ aI _ _ aB jv jf=>
       have:=Lg (λi v h=>ut h) jv;subst this;have aD:o' f:=by obtain h|⟨_,aJ,t3,aK,o,h2⟩:=P.zone _ _ ai;grind;exfalso;rw[ah]at o;injection o with o;injection o with o h3 h4;subst o h4;refine q9 0 (h2 0 ?_);have:0<ls.length:=List.length_pos_iff.2 q5;simp[ie];omega
       exact⟨E,F,G,H,I,J,K,M,_,_,_,_,_,_,B,cK,λx=>x=f,λx h=>cK,⟨some (dq f 0),y.sl,y.sc,y.m,y.k,y.b⟩,rfl,by rw[Y];exact⟨q1,q2,q3,q4,.inr ⟨q5,f,rfl,rfl,q8,aA,aB,λaj h=>q9 aj (jf aj h),j2⟩⟩⟩
 have⟨E,F,G,H,I,J,K,M,a,l,cc,m,n,s,fz,g1,g2⟩:=ad w1 hr;refine⟨rfl,C,E,F,G,H,I,J,K,M,a,l,cc,m,n,s,fz,g1,λO A=>?_⟩;have⟨q0,q1,q2,q3,q4,q5,q6,q7,a',l',aL,m',n',s',B,k1,k2⟩:=ad O (hr.trans A);have aC:O.heap[T]? =w1.heap[T]? :=A.heap T (lt_of_heap g1) (.inl C);grind
end Go.Proofs.W
namespace Go.Proofs.W
open Go.Conc Go.dz Go.dz.Cr Go.RowKit
def A6(D:eJ)(w:cI)(e:Ending)(a:cI):Prop:=
 ∃y:SV,e=.returned y.val/\dT (λb=>w.heap.size<=b) a (gf D) y/\yn w.drawn a (gf D) y/\(∀b,b<w.heap.size->a.heap[b]? =w.heap[b]?)/\a.tape=w.tape
structure CX:Prop where
 probe:∀xs w,w.tape w.drawn (.order 163 1)=1->Calls V.prog 163 xs w λe w'=>e=.panicked jU/\w'=w.drew.alloc (tH (o9 xs))
 goes:∀N pb D w,fY N pb D w->(∀b,N b->b<w.heap.size)->w.tape w.drawn (.order 163 1)=0->Calls V.prog 163 #[.pointer (some ⟨pb,0,none⟩)] w (A6 D w)
 pick:∀N pb D w,fY N pb D w->(∀b,N b->b<w.heap.size)->0<D.opn.length->Js w N pb (ef D 0).length (Gv D)
def uT(f:dY)(R:nB)(a:Frame)(b:List Frame)(v:cI):Prop:=
 Go.dz.Left V.prog f R a b v\/(b=[floor]/\a.fn=f/\a.mode=.panicking jU/\a.defers=[]/\UE v)
def yA(f:dY)(R:nB):Li V.prog (uT f R):=by rintro c d v (⟨rfl,_,x,_,a,b,e,g,h,_⟩|⟨rfl,_,a,b,_⟩);grind [A1];grind [A1]
def uT.callers{R:nB}(b:Frame)(a:List Frame)(v:cI)(h:uT K R b a v):a≠[]:=(yA K R b a v h).1
theorem uT.fn{R:nB}{a:List Frame}(h:uT K R F a w):F.fn=K:=by obtain h|h:=h;exact h.2.1;grind
def M9{ρ:dO}{s:Sp}{y d:SV}(h:dT A t s y)(k:dT B w s d)(M:∀l m n,s=some (l,m,n)->l≠[]->y.sc=d.sc) (N:∀b,A b->∀c,¬ρ.r b c)(O:∀c,B c->∀b,¬ρ.r b c)(f:∀b,A b->ρ.sh b=none):∃a:dO,dO.Le ρ a/\VR a y.val d.val/\∀b c,a.r b c->ρ.r b c\/(A b/\B c/\a.sh b=none/\∃x C,t.heap[b]? =some x/\w.heap[c]? =some C/\kJ a x C):=by
 cases s with
 |none=>
  have e:y=⟨none,0,0,0,0,false⟩:=h;have P:d=⟨none,0,0,0,0,false⟩:=k;subst e P;exact⟨ρ,.refl _,(fW.mq (.cons (.gE _ _) (.cons (.int _ _) (.cons (.int _ _) (.cons (.bool _) .nil))))).agg,λb c h=>.inl h⟩
 |some s=>
  have⟨l,m,n⟩:=s;have g:=M l m n rfl;have⟨ya,yl,yc,ym,yk,yb⟩:=y;have⟨Q,R,S,T,U,V⟩:=d;have⟨D,E,F,G,H⟩:=h;have⟨I,J,K,L,q⟩:=k;simp only at D E F G H I J K L q g;subst D E F G I J K L;obtain⟨rfl,rfl,rfl⟩|⟨o,b,p,rfl,h6,h7,fz,h8,W⟩:=H;obtain⟨_,rfl,rfl⟩|⟨o,_⟩:=q;exact⟨ρ,.refl _,(fW.mq (.cons (.gE _ _) (.cons (.int _ _) (.cons (.int _ _) (.cons (.bool _) .nil))))).agg,λb c h=>.inl h⟩;exact absurd rfl o;obtain⟨u,_⟩|⟨_,c,j,rfl,k6,k7,X,Y,Z⟩:=q;exact absurd u o;obtain rfl:=g o;refine⟨ρ.ext b c (N b p) (O c j),ρ.uX _ _ _ _,(fW.mq (.cons (.slice _ _ (.of _ _ (ρ.tW _ _ _ _) (f b p))) (.cons (.int _ _) (.cons (.int _ _) (.cons (.bool _) .nil))))).agg,λb' c' v=>?_⟩;obtain v|⟨rfl,rfl⟩:=v;exact .inl v;exact .inr ⟨p,j,f _ p,_,_,W,Z,.cells (P9 λi t h=>ut h) λz ho=>absurd ho (Y z)⟩
def VB{y:SV}{s:Sp}{T:Nat->Question->Nat}(h:yn m w s y)(c:w.tape=T){K:Nat}(d:∀j n x t,m<=j->T j (.appendCap n x t)=K-n)(a:eY)(b n:Int)(f:s=some (a,b,n))(g:a≠[])(k:a.length<=K)(l:K<2^63):y.sc=K:=by have⟨j,i,e⟩:=h a b n f g;rw[e,c,d j _ _ _ i];simp only[Question.cut];rw[Nat.mod_eq_of_lt cL];omega
def S9(BF:CX){f:dY}{R:nB}(hf:f≠163)(w0:cI):OB V.prog PR.funcs w0 (uT f R):=by
 intro ρ X c gs a w sl t q g xs ai k hr hS hh hx aO aB;have hg:g=163:=Kb λaP=>k.holes.1 g hh (V.zr g aP);subst hg;have hD:¬ρ.Def:=λh=>by have:=k.good.dh h 163;grind
 have A:=yA f R;have⟨X1,bi,e1,e2,hX⟩:=k.gor.callers;have aj:c.cl=X1++[floor]:=e1;have aQ:c.cl≠[]:=by rw[aj];simp
 have ev:(V.prog.jg PR.funcs)=PR:=Sn;have aR:Go.dz.Below c.v (λj q=>if j<c.v.drawn then c.v.tape j q else 1):=λj hj=>by funext q;simp[hj]
 obtain⟨e,wp,ab,⟨rfl,ak⟩,hs,aS,hl⟩:=BF.probe xs (du c.v (λj q=>if j<c.v.drawn then c.v.tape j q else 1)) (by simp[du]) c.cl;have⟨np,ad⟩:=hs;have J:ab.mode=.panicking jU:=hl.1;have⟨hp,aT⟩:Path V.prog (uT f R) c ⟨ab,c.cl,wp⟩/\Inv V.prog ⟨ab,c.cl,wp⟩:=by
  cases np with
  |zero=>
   exfalso;simp only[runN]at ad;injection ad with ad;have:=(A2 ad).1;rw[<-this]at J;cases J
  |succ np=>exact yy A np k.inv aR cK aQ
 have aU:∀b,b<c.v.heap.size->wp.heap[b]? =c.v.heap[b]? :=λb hb=>by rw[ak];exact alloc_old (World.drew _) _ hb
 have aC:wp.heap[c.v.heap.size]? =some (tH (o9 xs)):=by rw[ak];exact fX (World.drew (du c.v _)) _
 have bj:wp.heap.size=c.v.heap.size+1:=by rw[ak];exact World.size_alloc _ _
 have aV:∀x∈X1,Go.dz.Calm V.prog wp x:=λx al=>by refine(Qf k.good hD (v:=c.v) (λb E hr=>?_) hX x al).grow aU λb ds hb h=>?_;have⟨o,o',P,g2,Q⟩:=k.heap.obj b E hr;grind;have bk:=lt_of_heap h;obtain rfl:b=c.v.heap.size:=cL;rw[aC]at h;cases h
 have⟨cp,am,ae⟩:=Lj.stop A (v0:=wp) (hp.reach hr) ⟨⟨_,J⟩,⟨hl.2.2,by rw[hl.2.1];simp⟩,cK,λ_ _ _ _ h=>h,λ_ _ _ _ h=>h,rfl⟩;have⟨pb,n,D,N,aD,bl,an,hN⟩:UE cp.v:=by obtain⟨_,_,x,_,hm,_⟩|h:=am;have⟨ch,bm⟩:=ae.mode;grind;grind
 have hn:n=c.v.heap.size:=iD ae.size;subst hn;have ao:o9 xs=vv (dR pb):=by have S:=ae.kept _ _ _ _ aC;rw[aD]at S;injection S with S;injection S with S;have h2:(#[Value.func (.func 227) #[] (vv (dR pb))]:eF)[0]? =(#[Value.func (.func 227) #[] (o9 xs)]:eF)[0]? :=cK;grind
 have⟨x9,ag,x0,xu⟩:=Jw (by simp[undef]) ao;have ap:fY N pb D c.v:=(an.cells λb cs t fz hb h=>ae.back b cs t fz h).cells cK;have⟨H,aW,aq⟩:∃H,ai[0]? =some (dR H)/\ρ.r pb H:=by
  obtain⟨P,_⟩|⟨u,u',P,g2,Q⟩:=hx.get? 0;grind;rw[P]at x0;injection x0 with x0;subst x0;cases Q with
  |ptr ha=>cases ha with
   |mk o s hr=>
    have⟨_,_,_,_,_,q1,_⟩:=ap.at_;have⟨oo,bn,w1,w2,w3⟩:=k.heap.obj _ _ hr;rw[q1]at w1;injection w1 with w1;subst w1;have hs:=w3.Jv kA;grind
 have aX:∀i,1<=i->i<ai.size->ai[i]? =some undef:=λi S h2=>by
  have h3:=xu i S (by rw[hx.size];grind);obtain⟨P,_⟩|⟨u,u',P,g2,Q⟩:=hx.get? i;grind;rw[P]at h3;injection h3 with h3;subst h3;rw[g2];revert Q;generalize u'=z;intro Q;unfold undef at Q;cases Q with
  | @tuple _ aY k1 k2=>
   have:aY=#[]:=cK;rw[this];rfl
  |DD hd a=>rw[k.holes.2.1]at hd;grind
 have bg:c.fr=Frame.enter V.prog 163 #[dR pb] .normal:=aO.trans (A3 V.func163 kA x9 ag x0 xu .normal);have aE:a.frame=Frame.enter PR 163 #[dR H] .normal:=by rw[aB,ev];exact A3 Tryz.func163 dt (hx.size▸x9) (hx.size▸ag) aW aX .normal
 have aF:∀b E,ρ.r b E->b<c.v.heap.size/\E<w.heap.size:=λb E hr=>by have⟨o,o',P,g2,_⟩:=k.heap.obj b E hr;grind
 have T:fY (λE=>∃b,ρ.r b E) H D w:=ap.carry k.heap cK aq;cases hX with
 |nil=>
  exfalso;have aG:c.cl=[floor]:=aj;refine Qe A (fr:=ab) (v:=wp) (by rw[<-aG];exact hp.reach hr) cK (λaZ=>hf (aZ.fn▸aS)) hl.2.1 cK
 | @cons I p X2 U hc a1=>
 have ha:a=G a.frame (p::U):=by have⟨af,ac,bo,bp,bq⟩:=a;have k1:=k.gor.st.2;have k2:=k.gor.dy.2;have k3:=k.gor.of.2;simp only[List.append_nil]at k1 k2 k3 e2;subst k1 k2 k3 e2;rfl
 have hB:F7 PR X gs (G (Frame.enter PR 163 #[dR H] .normal) (p::U)) w t q:=⟨by rw[<-aE,<-ha];exact k.at0,rfl,ev▸k.leavers,k.past,k.low⟩;have ar:∃(M:Nat) (L:Array cP) (O:cI) (W:Option (Nat×Nat)) (t':Trace) (q':Nat->Nat) (X' o:dn) (y:SV),runNT PR M (crowd gs w sl) t=(.next (crowd L O W),t')/\
  F7 PR X' L (G (p.finish y.val) U) O t' q'/\(O.tape=w.tape/\O.os=w.os/\O.output=w.output)/\w.heap.size<=O.heap.size/\(∀b,b<w.heap.size->O.heap[b]? =w.heap[b]?)/\dT o O (gf D) y/\(∀b,o b->w.heap.size<=b/\b<O.heap.size/\¬X' b)/\∀b,X' b->X b\/w.heap.size<=b:=by
  have⟨wk,u1,u2,fz,_,aH,aI,a2⟩:=T.at_;have p1:w.cell? (dq H 1)=some u1:=by simp[World.cell?,aH,dX]
  have p2:w.cell? (dq H 2)=some u2:=by simp[World.cell?,aH,dX]
  by_cases h0:0<D.opn.length;have au:0<D.lists.length:=by rw[T.ok.len];grind
  obtain⟨oa,oc1,rfl⟩:=aI.len;obtain⟨lb,lc,lu,rfl,a3,aJ,a4⟩:=a2.at_ 0 au;obtain⟨a0,c0,rfl⟩:=a4.len;have a5:D.lists[0]=ef D 0:=by unfold ef;grind
  have Y:=T.ok.many _ (eB au);rw[a5]at aJ Y;have aK:∀b,(∃b0,ρ.r b0 b)->b<w.heap.size/\¬X b:=λb ⟨b0,hb⟩=>⟨cK,k.apart _ _ hb⟩;have aL:=MW (X:=X) (B:=λE=>∃b,ρ.r b E) (sl:=sl) aK h0 au (oa:=oa) (oc1:=oc1) (la:=(dq lb 0)) (C:=lc) (a0:=a0) (n:=(ef D 0).length) (c0:=c0) ⟨p1,⟨p2,aJ⟩⟩ ⟨_,aq⟩ a3 Y (BF.pick _ H D w T cK h0) hB;rw[<-I5 D h0]at aL;omega;have ah:D.opn=[]:=cK;obtain⟨oa,oc1,rfl⟩:=aI.len;rw[ah]at p1;have⟨M,L,O,W,t',q',r1,r2,r3,r4,r5⟩:=Jt (sl:=sl) ⟨cK,k.apart _ _ aq⟩ p1 hB;refine⟨M,L,O,W,t',q',X,λ_=>False,⟨none,0,0,0,0,true⟩,r1,r2,r3,r4,r5,?_,cK,cK⟩;have:gf D=some ([],0,0):=by unfold gf;rw[ah];simp only[fO,eG,lQ,eT,iQ,KD,L0,kY,uL,T.ok.zero];rfl
  rw[this];exact⟨rfl,rfl,rfl,rfl,.inl ⟨rfl,rfl,rfl⟩⟩
 have⟨M,L,O,W,t',q',X',o,y,r1,r2,r3,r4,r5,r6,r7,r8⟩:=ar;have a6:Go.dz.Below c.v (λj q=>if j<c.v.drawn then c.v.tape j q else match q with| .appendCap n _ _=>y.sc-n|_=>0):=λj hj=>by funext q;simp[hj]
 obtain⟨e,w2,a7,⟨yv,rfl,a8,a9,av,ba⟩,bb,bh,bc⟩:=BF.goes N pb D (du c.v (λj q=>if j<c.v.drawn then c.v.tape j q else match q with| .appendCap n _ _=>y.sc-n|_=>0)) (ap.du _) hN (by simp[du]) c.cl;have⟨n2,br⟩:=bb;have aM:c.cl=I::(X2++[floor]):=aj;have aw:Go.step V.prog (lone a7 c.cl w2)=.next (lone (I.finish yv.val) (X2++[floor]) w2):=by rw[aM];exact step_leave_returned bc
 have⟨ax,ay⟩:=yy A n2 (c:=c) k.inv a6 (M0 cK aw) dt;have aN:∀l m n,gf D=some (l,m,n)->l≠[]->yv.sc=y.sc:=λl m n hs hl=>by have h6:=r6;rw[hs]at h6;obtain⟨_,_,_,_,⟨bs,_⟩|⟨_,_,_,_,h7,h8,_⟩⟩:=h6;grind;exact VB a9 ba (K:=y.sc) (λj n x t hj=>by grind [Nat.not_lt,du]) l m n hs hl h7 h8
 have⟨bd,F,be,Z⟩:=M9 (ρ:=ρ) a8 r6 aN (λb hb E hr=>by have aK:c.v.heap.size<=b:=hb;grind) cK λb hb=>k.heap.low b hb;have az:w0.heap.size<=w.heap.size:=k.grown;refine⟨M,L,O,W,t',q',⟨I.finish yv.val,X2++[floor],w2⟩,bd,X',G (p.finish y.val) U,cK,⟨ay,k.good.mono F,F.f▸k.same,r2.at0,?_,?_,ev.symm▸r2.leavers,r2.past,r2.low,?_,?_,dw az r4,?_,?_,?_⟩,ax⟩;exact⟨.fr ((hc.mono F).finish be),⟨X2,U,rfl,by simp[G],a1.mono F⟩,⟨rfl,rfl⟩,⟨rfl,rfl⟩,⟨rfl,rfl⟩⟩;refine⟨λb E aa=>?_,λb hb=>by rw[<-F.g];exact k.heap.low b (Nat.le_of_not_lt λh=>by have S:w2.heap[b]? =c.v.heap[b]? :=av b h;grind)⟩;obtain h|⟨_,_,bf,x,x',P,g2,Q⟩:=Z b E aa;have⟨o1,o2,P,g2,Q⟩:=k.heap.obj b E h;refine⟨o1,o2,(av b (aF _ _ h).1).trans P,cK,?_⟩;rw[<-F.g];exact Q.mono F;exact⟨x,x',P,g2,.inl ⟨bf,Q⟩⟩;intro b E aa al;obtain h|⟨_,ho,_⟩:=Z b E aa;obtain S|S:=r8 E al;exact k.apart _ _ h S;grind;grind;intro b E aa aA;obtain h|⟨_,ho,_⟩:=Z b E aa;exact(k.old b E h aA).keep (av b (aF _ _ h).1);grind;intro E aA;rw[r5 E cL];exact k.kept E aA;exact⟨r3.1.trans k.world.1,r3.2.1.trans k.world.2.1,r3.2.2.trans k.world.2.2⟩;exact⟨λg hg=>k.holes.1 g (by rw[F.h];grind),F.d▸k.holes.2.1,λ⟨g,hg⟩=>k.holes.2.2 ⟨g,by rw[F.w];grind⟩⟩
end Go.Proofs.W
namespace Go.Proofs.W
open Go.RowKit
section
variable{w:cI}{kx:cJ->Prop}{kr kp kl:io->Prop}{lb ea:Bool}
def Hi(h:kr (boxed w.heap.size (pK T).toArray T))(b:XY T=true:=by rfl):xv Ext Ext w (λc d=>jL V.prog (Instr.alloc T true (.tuple #[])) c d) kx kr kp lb kl ea:=
 .rel _ (I4 _ _ _) (λ_ e=>eS (λ_ f g a i=>⟨⟨f,rfl,dw e.size a,i⟩,g⟩) b) h
end
structure Tb(pb T:Nat)(w:cI)(D:eJ)(n i:Nat)(pa:Option Addr)(pc:Nat)(l:List Nat)(d:Nat)(la:Option Addr)(ZL:Nat):Prop where
 h:∃ob no oc lb nl lc rb ni rc,w.cell? ⟨T,0,none⟩=some (.pointer (some ⟨pb,0,none⟩))/\w.cell? ⟨pb,1,none⟩=some (.slice (some ⟨ob,0,none⟩) no oc)/\w.cell? ⟨T,1,none⟩=some (.slice pa n pc)/\w.cell? ⟨ob,n,none⟩=some (.int .i64 d)/\
  w.cell? ⟨pb,2,none⟩=some (.slice (some ⟨lb,0,none⟩) nl lc)/\w.cell? ⟨lb,n,none⟩=some (.slice (some ⟨rb,0,none⟩) ni rc)/\w.cell? ⟨rb,i,none⟩=some (.slice la l.length ZL)/\n<no/\n<nl/\i<ni
 row:∀j (h:j<l.length),∃lb,la=some ⟨lb,0,none⟩/\lb≠T/\pa≠some ⟨lb,0,none⟩/\w.cell? ⟨lb,j,none⟩=some (.int .i64 l[j])
 long:l.length<=65536
 shift:∀s∈l,s<6
 door:d<5
def rS{a:Type}{l:List a}{d x:a}(h:k<l.length)(e:l.getD k d=x):l[k]=x:=by grind
def zt.data{N:dn}{D:eJ}{w:cI}{L:Nat->Nat}{y:SV}(h:zt N m k D w l a i L y)(A:l.length<D.opn.length)(B:j<(ef D l.length).length):∃q r,Tb m k w D l.length j a i ((ef D l.length).getD j []) (fI D l.length) q r:=by
 have⟨W,X,Y,Z,t4⟩:=jm h.at_;have f:=h.plan;have⟨wk,E,F,fz,_,g,s,t⟩:=f.at_;have p1:w.cell? (dq m 1)=some E:=by simp[World.cell?,g,dX]
 have p2:w.cell? (dq m 2)=some F:=by simp[World.cell?,g,dX]
 obtain⟨ob,oc,G,rfl,H,v,x⟩:=s.at_ l.length A;obtain rfl:G=i64 (D.opn[l.length]:Nat):=x;have n:l.length<D.lists.length:=by rw[f.ok.len];grind
 obtain⟨lb,lc,lu,rfl,I,J,o⟩:=t.at_ l.length n;have K:D.lists[l.length]=ef D l.length:=rS n rfl;have M:D.opn[l.length]=fI D l.length:=rS A rfl;rw[K]at o;rw[M]at v;obtain⟨rb,rc,ru,rfl,O,P,e⟩:=o.at_ j B;have Q:(ef D l.length)[j]=(ef D l.length).getD j []:=rS B rfl;rw[Q]at e;have d:ef D l.length∈D.lists:=cK;have p:(ef D l.length).getD j []∈ef D l.length:=cK;obtain⟨q,z,rfl⟩:=e.len;refine⟨q,z,cK,λR S=>?_,f.ok.long _ d _ p,f.ok.shift _ d _ p,f.ok.door _ cK⟩;have⟨b,c,u,T,C,U,V⟩:=e.at_ R S;cases T;exact⟨b,rfl,(h.sep b C).2.1,(h.sep b C).2.2,U.trans (dE some V)⟩
structure Tc(T pb:Nat)(w:cI)(ps:List Nat)(i:Nat)(pa:Option Addr)(L:Nat->Nat)(y:SV)(d:Nat)(l:List Nat)(e:Ending)(w':cI):Prop where
 out:∃bl bt bd la lc St WB,e=.returned (.func (.func 227) #[] #[.pointer (some ⟨bl,0,none⟩),.pointer (some ⟨bt,0,none⟩),.pointer (some ⟨bd,0,none⟩)])/\
  w.heap.size<=bl/\w.heap.size<=bt/\w.heap.size<=bd/\w'.heap[bl]? =some (.cells #[.slice la l.length lc] 27)/\w'.heap[bt]? =some (.cells #[.pointer (some ⟨T,0,none⟩)] 243)/\w'.heap[bd]? =some (.cells #[.int .i64 d] 3)/\
  (∀j (h:j<l.length),∃lb,la=some ⟨lb,0,none⟩/\lb≠T/\pa≠some ⟨lb,0,none⟩/\w.cell? ⟨lb,j,none⟩=some (.int .i64 l[j]))/\
  w'.heap[T]? =some (fo pb St (ps.length+1) WB (jM d l L) y)/\qQ T w' St WB (ps++[i])/\(St=pa\/∃b,w.heap.size<=b/\St=some ⟨b,0,none⟩/\b≠bl/\b≠bt/\b≠bd)
 keep:dA (λb=>b=T\/pa=some ⟨b,0,none⟩) w w'
def Ext.yB{w a:cI}{F:dn}{b:cI}(h:Ext w a)(k:dA F b w):dA F b a:=k.trans (h.keep F) cK cK
def qQ.at_{w:cI}(h:qQ m w a k l)(b:a=some ⟨i,0,none⟩):i<w.heap.size/\m<i:=by obtain⟨h,_,_⟩|⟨c,d,e,f,g,_⟩:=h;grind;grind
def CY{L:Nat->Nat}{y:SV}{w:cI}(c:s<6)(h:w.heap[j]? =some (.cells (ir #[.pointer (some ⟨m,0,none⟩),.slice a k i,.int .u8 (L 0),.int .u8 (L 1),.int .u8 (L 2),.int .u8 (L 3),.int .u8 (L 4),.int .u8 (L 5),.slice y.sa y.sl y.sc,.int .i64 y.m,.int .i64 y.k,.bool y.b] (2+s) (Value.int .u8 o).cells.toList) 245)):w.heap[j]? =some (fo m a k i (I3 L s o) y):=by rw[h];have:s=0\/s=1\/s=2\/s=3\/s=4\/s=5:=cL;obtain rfl|rfl|rfl|rfl|rfl|rfl:=this<;>simp[ir,Value.cells,fo,I3]
def Te(N:dn)(pb T:Nat)(D:eJ)(w:cI)(ps:cM)(pa:dV)(pc:Nat)(L:Nat->Nat)(y:SV)(i:Nat)(S:zt N pb T D w ps pa pc L y)(J:ps.length<D.opn.length)(hi:i<(ef D ps.length).length):Calls V.prog 215 #[.pointer (some ⟨T,0,none⟩),.int .i64 i] w (Tc T pb w ps i pa L y (fI D ps.length) ((ef D ps.length).getD i [])):=by have⟨la,z,hD⟩:=S.data J hi;have hT:=S.at_;have g:=S.own;have hL:=S.lt;have ab:=S.plan.ok.five;have av:T<w.heap.size:=dz.lt_of_heap hT;generalize fI D ps.length=d at hD⊢;generalize (ef D ps.length).getD i []=l at hD⊢;have⟨⟨ob,no,oc,lb,nl,lc,rb,ni,rc,c0,p1,t1,hd,p2,hl,hr,ac,ad,ae⟩,s,af,ag,A⟩:=hD;refine jb Tryz.func215 Tryz.ntmps215 ?_;refine eH λw1 bt M j U=>?_;have ct:w1.cell? (dq bt 0)=some (dR T):=cN U rfl;refine dD dC (dl ct (dl (M.cell c0) (dl (M.cell p1) (dl ct (dl (M.cell t1) (mz (gB ps.length ac (dl (by rw[dj];exact M.cell hd) (Hi ?_)))))))));rintro w2 x2 _ ⟨bd,rfl,ah,c⟩;refine dI c λw3 k3 ai=>?_;have W:=x2.cS k3 ah;have O:=M.trans W;refine dD dC (dl (W.cell ct) (dl (O.cell c0) (dl (O.cell p2) (dl (W.cell ct) (dl (O.cell t1) (mz (gB ps.length ad (dl (by rw[dj];exact O.cell hl) (gB i ae (dl (by rw[dj];exact O.cell hr) (Hi ?_)))))))))));rintro w4 x4 _ ⟨bl,rfl,aj,c⟩;refine dI c λw5 k5 X=>?_;have x5:=x4.cS k5 aj;have X5:=O.trans x5;have s1:=M.size;have s3:=W.size;refine cO (cN X rfl) (dm ?_);refine ft (n:=l.length) (λk=>[(1,i64 i),(2,dR bt),(5,dR bd),(6,dR bl),(40,.slice la l.length z),(41,i64 l.length),(42,i64 k)]) (λk P=>dA (λb=>b=T) w P/\P.heap[T]? =some (fo pb pa ps.length pc (jM d (l.take k) L) y)/\fC P bt #[dR T] 243/\fC P bd #[i64 d] 3/\fC P bl #[.slice la l.length z] 27) ⟨by trivial,X5.keep _,X5.at_ hT,x5.at_ (W.at_ U),x5.at_ ai,X⟩ ?_ ?_ ?_;intro k P _ hJ;exact dK ⟨rfl,rfl,by trivial,hJ⟩;rintro k m J ⟨K,C,a,p,E⟩;obtain⟨aw,rfl,ak,au,al⟩:=s k J;have f:=ag l[k] (eB J);have⟨t0,_,t2,_,_⟩:=jm C;refine eX k J (cO (K.fq (by rw[dj];omega) ak) (dD dC (dl (cN a rfl) (dl (cN a rfl) (rJ l[k] 6 f (dl (t2 _ f) (dl (cN p rfl) (iW dC _ (λw e=>Jd (Gi _ _ w (Eb A hL l[k] f) A)) (rJ l[k] 6 f λY x7=>?_)))))))));refine jp (x7.at_ C) (by simp[Value.cells];omega) (λF Q G=>cW ?_) (gK rfl);have T8:=CY f G;rw[CC A hL k J f]at T8;have am:∀{b:Nat} {o:Obj},w.heap.size<=b->m.heap[b]? =some o->F.heap[b]? =some o:=λc ho=>Q.fL (x7.at_ ho) cL;exact⟨by trivial,(x7.yB K).trans Q cK cK,T8,am j a,cK,cK⟩;rintro m ⟨K,C,a,p,E⟩;rw[uM (dg _)]at C;have⟨_,t1,_,_,_⟩:=jm C;have H:∀{b:Nat},w.heap.size<=b->¬pa=some (dq b 0):=λc e=>iD ((g.at_ e).1);have t:¬pa=some (dq T 0):=λe=>iD ((g.at_ e).2);have an:qQ T m pa pc ps:=g.ext λb c Z=>K.block b c cK;have ao:T<m.heap.size:=dz.lt_of_heap C;have u:∀b,pa=some (dq b 0)->b<m.heap.size:=cK;have aE:=Sz (T:=T) (ps:=ps) (i:=i) (pa:=pa) (pc:=pc);refine dD aE (dx _ (λw e=>cO (e.keep.fq (cN a rfl) (H j)) ⟨rfl,aE.refl _⟩) (dx _ (λw e=>cO (e.keep.fq (cN a rfl) (H j)) ⟨rfl,aE.refl _⟩) (dx _ (λw e=>cO (e.keep.fq t1 t) ⟨rfl,aE.refl _⟩) ?_)));refine .rel (picked i m) (GB u) (λY x=>er [i64 i] 3 (λF nb e8 ap c=>⟨⟨nb,rfl,dw x.keep.size ap,c⟩,Aq e8⟩))<| .rel (Ar T ps i pa m) (BZ u) (λY x v hv=>?_) ?_;obtain⟨B,rfl,ax,aq⟩:=hv;have⟨v,F,aa,R⟩:=Gr T Y ps i pa pc 27 B (x.own an) (ep ao x.keep.size) (by simp[World.cell?,aq]) cL;have⟨q,r,e1,e2,e3⟩:=R.val;refine⟨v,F,by simp[builtin,aa,Result.andThen],⟨q,r,e1,e2,e3.imp id λ⟨b,c,e⟩=>⟨b,dw x.keep.size c,e⟩⟩,R.keep,λ_=>R.old,R.stay⟩;intro Y x v hv _ _;obtain⟨q,r,rfl,hO,R⟩:Ar T ps i pa m v Y:=hv;refine dI (x.keep.fL C t) λF Q G=>?_;have K7:=x.keep;have s6:=K.size;have I:∀{b:Nat} {o:Obj},w.heap.size<=b->m.heap[b]? =some o->F.heap[b]? =some o:=λc ho=>Q.fL (K7.fL ho (H c)) cL;have ar:qQ T F q r (ps++[i]):=hO.ext λb c Z=>Q.block b c (iD ((hO.at_ Z).2));refine⟨⟨bl,bt,bd,la,z,q,r,rfl,cL,j,cL,I cL E,I j a,I cL p,s,G,ar,R.imp id λ⟨b,c,e⟩=>⟨b,cL,e,?_⟩⟩,(K.trans K7 (λ_ _ h=>.inl h) λ_ _ h=>.inr h).trans Q (λ_ _ h=>h) λ_ _ h=>.inl h⟩;have g1:=dz.lt_of_heap E;have g2:=dz.lt_of_heap a;have g3:=dz.lt_of_heap p;omega
def Na{b:Func}{c:Code}{u:FrameMode}{R:Ending->dB}(n:Nat)
 (f:P.funcs[K]? =some b)(g:b.body=some c)(j:b.ntmps=n)(h:∀a:Act,a.tmps.size=n->a.defers=[]->(∀i v,W[i]? =some v->a.eval (.tmp i)=v)->c.wp P (bodyPost P b R) a w)(d:W.size<=n):CallsD P K W u w λe k l=>k=u/\R e l:=by
 refine callsD_of_wp f g ?_;rw[j];exact h (CE W n) (vf _ _ d) rfl λi v m=>Ap _ _ _ _ m
def Qh(c T f n g d:Nat)(L:Nat->Nat)(y:SV)(l:cM)(w:cI)(e:Ending)(a:cI):Prop:=
 e=.returned undef/\dA (λb=>b=T) w a/\a.heap[T]? =some (fo c (some ⟨f,0,none⟩) n g (oQ d l L) y)
def Qi(G T H n v x z R d A:Nat)(I:dV)(L:Nat->Nat)(y:SV)(l:cM)(w:cI)(u:FrameMode)(J:w.heap[T]? =some (fo G (some ⟨H,0,none⟩) (n+1) v L y))(S:∀s,s<6->L s<32) (M:w.heap[R]? =some (.cells #[.slice I l.length A] 27))(a:w.heap[x]? =some (.cells #[.pointer (some ⟨T,0,none⟩)] 243))(c:w.heap[z]? =some (.cells #[.int .i64 d] 3)) (B:∀j (h:j<l.length),∃N,I=some ⟨N,0,none⟩/\N≠T/\w.cell? ⟨N,j,none⟩=some (.int .i64 l[j]))(O:l.length<=65536)(P:∀s∈l,s<6)(i:d<5)(hn:n+1<=v)(U:n<=65536)(Y:v<2^63):
 CallsD V.prog 227 #[.pointer (some ⟨R,0,none⟩),.pointer (some ⟨x,0,none⟩),.pointer (some ⟨z,0,none⟩)] u w λe Z m=>Z=u/\Qh G T H n v d L y l w e m:=by
 have C:x≠T:=by rintro rfl;rw[J]at a;injection a with a;injection a with _ a _;cases a
 have D:z≠T:=by rintro rfl;rw[J]at c;injection c with c;injection c with _ c _;cases c
 refine Na 39 V.func227 rfl Tryz.ntmps227 (Um 39 (dP.of dr ?_)) dt;refine cO (cN M rfl) (dm ?_);refine ft (n:=l.length) (λk=>[(1,dR x),(2,dR z),(5,.slice I l.length A),(6,i64 l.length),(7,i64 k)]) (λk m=>dA (λb=>b=T) w m/\m.heap[T]? =some (fo G (pt H 0) (n+1) v (oQ d (l.take k) L) y)/\fC m x #[dR T] 243/\fC m z #[i64 d] 3) ⟨by trivial,dA.refl _ _,J,a,c⟩ ?_ ?_ ?_;intro k m _ hJ;exact dK ⟨rfl,rfl,by trivial,hJ⟩;rintro k w6 F ⟨K,t,f,o⟩;obtain⟨aa,rfl,Q,p⟩:=B k F;have g:=P l[k] (eB F);have⟨t0,_,t2,_,_⟩:=jm t;refine eX k F (cO (K.fq (by rw[dj];exact p) Q) (dD dC (dl (cN f rfl) (dl (cN f rfl) (rJ l[k] 6 g (dl (t2 _ g) (dl (cN o rfl) (iW dC _ (λw e=>Jd (Gj _ _ w (Gx i S l[k] g) i)) (rJ l[k] 6 g λw7 q=>?_)))))))));refine jp (q.at_ t) (by simp[Value.cells];omega) (λw8 E r=>cW ?_) (gK rfl);have W:=CY g r;rw[I6 i S k F g]at W;exact⟨by trivial,(q.yB K).trans E (λ_ _ h=>h) λ_ _ h=>h,W,E.fL (q.at_ f) C,E.fL (q.at_ o) D⟩;rintro w6 ⟨K,t,f,o⟩;rw[uM (dg _)]at t;have⟨_,X,_,_,_⟩:=jm t;refine dD dC (dl (cN f rfl) (dl (cN f rfl) (dl X (dl (cN f rfl) (dl X (mz (vo (dx _ (λw1 _=>pM n cL ⟨rfl,dC.refl _⟩ cL) λw7 q=>?_))))))));exact dI (q.at_ t) λw8 E r=>⟨rfl,(q.yB K).trans E (λ_ _ h=>h) λ_ _ h=>h,r⟩
section
variable{P:cU}{ops:Array Oper}{Q:Exit->Act->cI->Prop}
def ky{o:Oper}{a:Act}{w w':cI}{K:Act->dB}(v:cJ)(b:ops[i]? =some o)(c:o.guard=none)(d:(execOp a.eval o).run P w=.ok (.value v) w')(h:K (a.put o.dst v) w'):wpOp P ops Q i K a w:=by
 have e:Region.wanted o (yielded ops a.tmps)=true:=by simp[Region.wanted,c]
 unfold wpOp;rw[b];simp only[e,ej];refine .inl ?_;unfold Oper.wp;rw[d];exact h
def Nb{o:Oper}{a:Act}{w b:cI}{K:Act->dB}(d:Deferred)(c:ops[i]? =some o)(e:o.guard=none)(f:(execOp a.eval o).run P w=.ok (.defer d) b)(h:K ({a with defers:=d::a.defers}.put o.dst undef) b):wpOp P ops Q i K a w:=by
 have g:Region.wanted o (yielded ops a.tmps)=true:=by simp[Region.wanted,e]
 unfold wpOp;rw[c];simp only[g,ej];refine .inl ?_;unfold Oper.wp;rw[f];exact h
end
def Tf:Tryz.f190.body=some ((gW Tryz.f190 0).seq (gW Tryz.f190 1)):=eE
def Tg(Q:Exit->Act->dB)(a:Act)(w:cI)(T i:Nat)(B:a.tmps.size=9)(C:a.defers=[])(z:a.eval (.tmp 0)=.pointer (some ⟨T,0,none⟩))(D:a.eval (.tmp 1)=.int .i64 i)
 (h:Calls V.prog 215 #[.pointer (some ⟨T,0,none⟩),.int .i64 i] w λe r=>∃n p q,e=.returned (.func (.func 227) #[] #[.pointer (some ⟨n,0,none⟩),.pointer (some ⟨p,0,none⟩),.pointer (some ⟨q,0,none⟩)])/\
  ∀s:Act,s.tmps.size=9->s.defers=[{target:=.fn (.func 227) #[.pointer (some ⟨n,0,none⟩),.pointer (some ⟨p,0,none⟩),.pointer (some ⟨q,0,none⟩)],args:=#[]}]->s.eval (.tmp 0)=.pointer (some ⟨T,0,none⟩)->Q .normal s r):
 Code.wp V.prog (gW Tryz.f190 0) Q a w:=by
 have e:gW Tryz.f190 0=.region 0 (opsOf (gW Tryz.f190 0)) false:=eE;rw[e];refine pX ?_;have j:(opsOf (gW Tryz.f190 0)).size=4:=eE;rw[j];show wpOps _ _ _ [0,1,2,3] _ _;rw[wpOps_cons];have⟨o,c⟩:=xt 0 j cK;have⟨k,l⟩:=Ml c (show infoAt (opsOf (gW Tryz.f190 0)) 0=some (Op.move (.tmp 0),none) by kernel_rfl);have m:o.dst=some 4:=Ao c eE;have b:∀(o:Oper) (f:dW->cJ),o.op=Op.move (.tmp 0)->f (.tmp 0)=dR T->(execOp f o).run jS w=.ok (.value (dR T)) w:=by rintro⟨d,u,t,v,x,g⟩ f rfl y;go_simp
 refine ky _ c l (b o a.eval k z) ?_;clear b;rw[m,wpOps_cons];clear c k l m o;have⟨o,c⟩:=xt 1 j cK;have⟨k,l⟩:=Ml c (show infoAt (opsOf (gW Tryz.f190 0)) 1=some (Op.move (.tmp 1),none) by kernel_rfl);have m:o.dst=some 5:=Ao c eE;have b:∀(o:Oper) (f:dW->cJ),o.op=Op.move (.tmp 1)->f (.tmp 1)=i64 i->(execOp f o).run jS w=.ok (.value (i64 i)) w:=by rintro⟨d,u,t,v,x,g⟩ f rfl y;go_simp
 refine ky _ c l (b o _ k (by grind [tt])) ?_;clear b;rw[m,wpOps_cons];clear c k l m o;have⟨o,c⟩:=xt 2 j cK;have⟨k,l⟩:=Ml c (show infoAt (opsOf (gW Tryz.f190 0)) 2=some (Op.call {callee:=.value (.func 215),args:=#[.tmp 4,.tmp 5],argTypes:=#[243,3]},none) by kernel_rfl);have m:o.dst=some 6:=Ao c eE;have b:∀(o:Oper) (f:dW->cJ),o.op=Op.call {callee:=.value (.func 215),args:=#[.tmp 4,.tmp 5],argTypes:=#[243,3]}->f (.tmp 4)=dR T->f (.tmp 5)=i64 i->f (.func 215)=.func (.func 215) #[] #[]->(execOp f o).run jS w=.ok (.enter 215 #[dR T,i64 i]) w:=by rintro⟨d,u,t,v,x,g⟩ f rfl y E F;go_simp
 refine An _ _ c l (b o _ k (by grind [tt,xr]) (by grind [xr,uG]) rfl) (h.mono ?_);clear b h;rintro e r ⟨n,p,q,rfl,A⟩;refine .inl ⟨_,rfl,?_⟩;rw[m,wpOps_cons];clear c k l m o;have⟨o,c⟩:=xt 3 j cK;have⟨k,l⟩:=Ml c (show infoAt (opsOf (gW Tryz.f190 0)) 3=some (Op.defer {callee:=.value (.tmp 6),args:=#[],argTypes:=#[]},none) by kernel_rfl);have m:o.dst=none:=Ao c eE;have b:∀(o:Oper) (f:dW->cJ),o.op=Op.defer {callee:=.value (.tmp 6),args:=#[],argTypes:=#[]}->f (.tmp 6)=(.func (.func 227) #[] #[dR n,dR p,dR q])->
  (execOp f o).run jS r=.ok (.defer {target:=.fn (.func 227) #[dR n,dR p,dR q],args:=#[]}) r:=by
  rintro⟨d,u,t,v,x,g⟩ f rfl y;go_simp
 refine Nb _ c l (b o _ k (by grind [xr,uG])) ?_;rw[m];refine A _ (by grind [uG]) (by grind [yX]) ?_;show(((a.put _ _).put _ _).put _ _).eval (.tmp 0)=_;rw[tt _ _ _ _ dt,tt _ _ _ _ dt,tt _ _ _ _ dt];grind
def Th(Q:Exit->Act->dB)(a:Act)(w:cI)(T:Nat)(x:a.tmps.size=9)(p:a.eval (.tmp 0)=.pointer (some ⟨T,0,none⟩))
 (b:Calls V.prog 216 #[.pointer (some ⟨T,0,none⟩)] w λe l=>e=.returned undef/\∀m:Act,m.defers=a.defers->Q .normal m l):
 Code.wp V.prog (gW Tryz.f190 1) Q a w:=by
 have e:gW Tryz.f190 1=.region 1 (opsOf (gW Tryz.f190 1)) false:=eE;rw[e];refine pX ?_;have h:(opsOf (gW Tryz.f190 1)).size=2:=eE;rw[h];show wpOps _ _ _ [0,1] _ _;rw[wpOps_cons];have⟨o,i⟩:=xt 0 h cK;have⟨j,k⟩:=Ml i (show infoAt (opsOf (gW Tryz.f190 1)) 0=some (Op.move (.tmp 0),none) by kernel_rfl);have n:o.dst=some 7:=Ao i eE;have c:∀(o:Oper) (f:dW->cJ),o.op=Op.move (.tmp 0)->f (.tmp 0)=dR T->(execOp f o).run jS w=.ok (.value (dR T)) w:=by rintro⟨d,q,t,r,s,g⟩ f rfl u;go_simp
 refine ky _ i k (c o a.eval j p) ?_;clear c;rw[n,wpOps_cons];clear i j k n o;have⟨o,i⟩:=xt 1 h cK;have⟨j,k⟩:=Ml i (show infoAt (opsOf (gW Tryz.f190 1)) 1=some (Op.call {callee:=.value (.func 216),args:=#[.tmp 7],argTypes:=#[243]},none) by kernel_rfl);have c:∀(o:Oper) (f:dW->cJ),o.op=Op.call {callee:=.value (.func 216),args:=#[.tmp 7],argTypes:=#[243]}->f (.tmp 7)=dR T->f (.func 216)=.func (.func 216) #[] #[]->(execOp f o).run jS w=.ok (.enter 216 #[dR T]) w:=by rintro⟨d,q,t,r,s,g⟩ f rfl u y;go_simp
 refine An _ _ i k (c o _ j (by grind [xr]) rfl) (b.mono ?_);clear c b;rintro e l ⟨rfl,v⟩;exact .inl ⟨_,rfl,v _ (by rw[yX,yX])⟩
def qQ.init{w:cI}(h:qQ m w a k (l++[i])):qQ m w a k l:=by obtain⟨_,h,_⟩|⟨b,c,d,e,f,g,n,j,o⟩:=h;simp at h;refine .inr ⟨b,c,d,e,f,g,cK,j,λp q=>?_⟩;grind
def yC{L a:Nat->Nat}(h:L s=a s):oQ d l L s=oQ d l a s:=by grind [oQ]
def Nc{D:eJ}(b:D.Ok)(c:j<D.opn.length)(d:k<D.opn.length)(a:j≠k):fI D j≠fI D k:=by have f:D.opn[j]=fI D j:=rS c rfl;have g:D.opn[k]=fI D k:=rS d rfl;rw[<-f,<-g];intro e;exact a ((List.getElem_inj b.nodup).1 e)
def Nd{D:eJ}(b:D.Ok)(a:j<D.opn.length):fI D j<5:=by have c:D.opn[j]=fI D j:=rS a rfl;rw[<-c];exact b.door _ (eB a)
def tI(n:Nat):Prop:=∀(N:dn) (b T:Nat) (D:eJ) (c d:Nat) (w:cI) (a:cM) (e:dV) (f:Nat) (L:Nat->Nat) (y:SV) (s:Sp),a.length+n=D.opn.length->jh N b T D c d w a e f L y s->Calls V.prog 216 #[.pointer (some ⟨T,0,none⟩)] w (Gz N b T D c d w a e L (eG D n a L s))
def Hj(n:Nat)(hg:tI n)(N:dn)(Z T:Nat)(D:eJ)(m0 j0:Nat)(w:cI)(p:cM)(I:dV)(pc:Nat)(L:Nat->Nat)(y:SV)(s:Sp)(i:Nat) (hn:p.length+(n+1)=D.opn.length)(q:jh N Z T D m0 j0 w p I pc L y s)(hi:i<(ef D p.length).length):Calls V.prog 190 #[.pointer (some ⟨T,0,none⟩),.int .i64 i] w (Gz N Z T D m0 j0 w p I L (eG D n (p++[i]) (jM (fI D p.length) ((ef D p.length).getD i []) L) s)):=by
 have hk:p.length<D.opn.length:=cL;have aa:=Te N Z T D w p I pc L y i q.t hk hi;have⟨aF,aG,hD⟩:=q.t.data hk hi;have K:=hD.long;have am:=hD.shift;have B:=hD.door;have C:=q.t.plan.ok;have hL:=q.t.lt;have aH:T<w.heap.size:=dz.lt_of_heap q.t.at_;have M:=q.t.free;have aC:∀j,p.length+1<=j->j<D.opn.length->fI D p.length≠fI D j:=λj v A=>Nc C hk A cL;have aI:∀j,j<D.opn.length->fI D j<5:=λj h=>Nd C h;have ab:∀s,s<6->tq (L s) (fI D p.length)=L s:=λs hs=>M s hs _ (dg _) hk;clear hD;generalize hd:fI D p.length=d at*;generalize hl:(ef D p.length).getD i []=l at*;have aD:∀b,I=some (dq b 0)->b<w.heap.size:=λb g=>by obtain⟨h,_,_⟩|⟨O,P,v,A,h3,_⟩:=q.t.own;grind;grind
 refine yZ 9 V.func190 Tf Tryz.ntmps190 (λa z da sa=>?_) dt;have s0:=sa 0 _ rfl;have s1:=sa 1 _ rfl;refine lf (Tg _ a w T i z da s0 s1 (aa.mono ?_));rintro e w1 ⟨⟨bl,bt,bd,la,lc,r,ac,rfl,an,ao,ap,aq,ar,au,ad,aJ,ae,af⟩,G⟩;refine⟨bl,bt,bd,rfl,λa1 z1 d1 av=>?_⟩;have ag:r=I\/∃b,w.heap.size<=b/\r=some (dq b 0):=af.imp id λ⟨b,v,A,_⟩=>⟨b,v,A⟩;have E:∀b,b<w.heap.size->I≠some (dq b 0)->r≠some (dq b 0):=λb g h e=>by grind
 have aw:jh N Z T D m0 j0 w1 (p++[i]) r ac (jM d l L) y s:=by refine⟨⟨q.t.plan.same λb g=>G.block b (q.t.sep b g).1 (λh=>h.elim (q.t.sep b g).2.1 (q.t.sep b g).2.2),λb g=>⟨ep (q.t.sep b g).1 G.size,(q.t.sep b g).2.1,E b (q.t.sep b g).1 (q.t.sep b g).2.2⟩,cK,ae,Eb B hL,λx u j hj ax=>?_,cK,λh=>cL⟩,?_,q.cap.tape G.tape,dw q.size G.size,dw q.drawn G.drawn⟩;have aK:p.length+1<=j:=cK;unfold jM;split;grind [Gw];grind;refine q.sched.move λb P fz g u=>⟨⟨g.1,g.2.1,E b (dz.lt_of_heap u) g.2.2⟩,(G.block b (dz.lt_of_heap u) λh=>h.elim g.2.1 g.2.2).trans u⟩
 refine Th _ a1 w1 T z1 av ((hg N Z T D m0 j0 w1 (p++[i]) r ac (jM d l L) y s cK aw).mono ?_);rintro e w2 ⟨rfl,Q,F,L2,y2,m,ah,K2,ai⟩;refine⟨rfl,λa2 d2=>?_⟩;have ay:∀b,r=some (dq b 0)->b<w1.heap.size:=λb g=>by obtain⟨h,_,_⟩|⟨O,P,v,A,h3,_⟩:=ae;grind;grind
 have R:∀{b:Nat} {o:Obj},w.heap.size<=b->(∀c,w.heap.size<=c->r=some (dq c 0)->c≠b)->w1.heap[b]? =some o->w2.heap[b]? =some o:=λg aL ho=>K2.fL ho (by grind);have S:∀b,b=bl\/b=bt\/b=bd->∀c,w.heap.size<=c->r=some (dq c 0)->c≠b:=λb g c hc h=>by obtain v|⟨c',aj,v,n1,n2,n3⟩:=af;grind;grind
 have ak:=m.t.own;have⟨O,aM,e1,e2,e3,e4,e5,e6,e7⟩:∃O P,Q=some (dq O 0)/\T<O/\fC w2 O P 3/\P.size=F/\(p++[i]).length<=F/\F<2^63/\(∀k (h:k<(p++[i]).length),P[k]? =some (i64 (p++[i])[k])):=by obtain⟨_,h,_⟩|h:=ak;simp at h;omega
 have U:=m.t.at_;rw[e1]at U;have W:∀j (h:j<l.length),∃X,la=some (dq X 0)/\X≠T/\w2.cell? (dq X j)=some (i64 l[j]):=λj hj=>by have⟨X,v,A,h3,h4⟩:=ad j hj;have az:X<w.heap.size:=vh h4;exact⟨X,v,A,K2.fq (G.fq h4 λh=>h.elim A h3) λh=>h.elim A (E X az h3)⟩
 have al:(p++[i]).length=p.length+1:=dt;rw[al]at U e5;have aA:=C.five;have Y:=Qi Z T O p.length F bt bd bl d lc la L2 y2 l w2 .returning U m.t.lt (R an (S _ (.inl rfl)) aq) (R ao (S _ (.inr (.inl rfl))) ar) (R ap (S _ (.inr (.inr rfl))) au) W K am B e5 cL e6;show Leaves V.prog _ a2.tmps _ a2.defers .returning w2;rw[d2,d1];refine leaves_cons dt (f:=227) (args:=#[dR bl,dR bt,dR bd]) (by go_simp) (Y.mono ?_);rintro e u' w3 ⟨rfl,rfl,J,aN⟩;show Leaves V.prog _ a2.tmps _ [] (settle .returning) w3;refine⟨undef,by simp[results,Tryz.results190,undef],rfl,Q,F,oQ d l L2,y2,?_,?_,?_,?_⟩;have aB:∀x,x<6->oQ d l L2 x=L x:=λx u=>(yC (ah x u)).trans (Gy B hL ab x u);have aE:∀b,b<w.heap.size->I≠some (dq b 0)->Q≠some (dq b 0):=λb g h e=>by obtain v|⟨c,hc,v⟩:=ai;grind;grind
 refine⟨⟨m.t.plan.same λb g=>J.block b (m.t.sep b g).1 (m.t.sep b g).2.1,λb g=>⟨ep (m.t.sep b g).1 J.size,(m.t.sep b g).2.1,(m.t.sep b g).2.2⟩,cK,ak.init.ext λb g u=>J.block b g (by
  grind),Gx B m.t.lt,λx u j hj ax=>by rw[aB x u];grind,cL,λh=>cL⟩,
  m.sched.move λb P fz g u=>⟨g,(J.block b (dz.lt_of_heap u) g.2.1).trans u⟩,m.cap.tape J.tape,dw m.size J.size,dw m.drawn J.drawn⟩
 exactλx u=>(yC (ah x u)).trans (Gy B hL ab x u);refine(G.trans K2 (H:=λb=>b=T\/I=some (dq b 0)) (λ_ _ h=>h) λx u h=>?_).trans J (λ_ _ h=>h) λ_ _ h=>.inl h;grind;obtain v|⟨c,hc,v⟩:=ai;obtain A|⟨c',aj,A⟩:=ag;grind;exact .inr ⟨c',aj,v.trans A⟩;exact .inr ⟨c,dw G.size hc,v⟩
def xM{D:eJ}{L a:Nat->Nat}(h:∀x,x<6->L x=a x)(b:cM):eT D L b=eT D a b:=by grind [KD,eT,iQ]
theorem tJ{D:eJ}:∀(n:Nat) {L L':Nat->Nat} (_:∀x,x<6->L x=L' x) (a:cM) (b:Sp),eG D n a L b=eG D n a L' b
 |0,L,L',h,a,b=>by simp only[eG];rw[xM h]
 |n+1,L,L',h,a,b=>by simp only[eG];congr 1;funext b i;exact tJ n (λx c=>by grind [jM]) _ b
def Hk{b:Type}(f:b->Nat->b)(a:b)(k:Nat):(List.range (k+1)).foldl f a=f ((List.range k).foldl f a) k:=by rw[mL,si];rfl
theorem jh.ext{D:eJ}{L:Nat->Nat}{y:SV}{s:Sp}(h:jh A m k D i j w l a o L y s)(c:Ext w t):jh A m k D i j t l a o L y s:=
 ⟨⟨h.t.plan.same λb d=>c.block b (h.t.sep b d).1,λb d=>⟨ep (h.t.sep b d).1 c.size,(h.t.sep b d).2⟩,c.at_ h.t.at_,h.t.own.ext λb d _=>c.block b d,h.t.lt,h.t.free,h.t.len,h.t.bare⟩,h.sched.ext c,h.cap.tape c.tape,dw h.size c.size,dw h.drawn c.drawn⟩
def A7{y:SV}(h:yW w m o y):∀j v,([.slice y.sa y.sl y.sc,.int .i64 y.m,.int .i64 y.k,.bool y.b]:dN)[j]? =some v->w.cell? ⟨m,o+j,none⟩=some v:=by have⟨a,c,d,e⟩:=h;grind
def yW.ext{y:SV}(h:yW w m o y)(e:Ext w t):yW t m o y:=⟨e.cell h.1,e.cell h.2.1,e.cell h.2.2.1,e.cell h.2.2.2⟩
def Qj{L:Nat->Nat}(h:∀s,s<6->w.cell? ⟨m,2+s,none⟩=some (.int .u8 (L s))):∀j v,([.int .u8 (L 0),.int .u8 (L 1),.int .u8 (L 2),.int .u8 (L 3),.int .u8 (L 4),.int .u8 (L 5)]:dN)[j]? =some v->w.cell? ⟨m,2+j,none⟩=some v:=by grind
def Jz(p:cJ)(x y:SV)(w:cI):Calls V.prog 194 #[p,x.val,y.val] w (fM λv a=>v=.bool (iU x y)/\Ext w a):=
 (DY p x y w).mono λ_ _ ⟨h,b,d⟩=>⟨_,h,rfl,b.os,b.tape,b.output,b.size,d,b.block⟩
def Nf:tI 0:=by
 intro N pb T D m0 F w g u G L y s hn o;have ad:g.length=D.opn.length:=cL;have H:=o.t.plan.ok.five;have⟨t0,t1,t2,t3,t4⟩:=jm o.t.at_;have⟨wk,u1,u2,fz,_,I,J,ae⟩:=o.t.plan.at_;have p1:w.cell? (dq pb 1)=some u1:=by simp[World.cell?,I,dX]
 obtain⟨oa,oc,rfl⟩:=J.len;refine jb Tryz.func216 Tryz.ntmps216 ?_;refine dD dC (dl t1 (mz (dl t0 (dl p1 (mz (KV λz l=>jX cK ?_))))));have d:=o.ext l;have K:g=[]->u=none:=λh=>o.t.bare cK;refine dD dC (dl (l.cell t0) (dl (l.cell t1) (dx (O7 L) (λA m=>ew (Qj λs M=>m.cell (l.cell (t2 s M))) ⟨rfl,dC.refl _⟩) (.rel (Ec D L g F z) GC (λA m=>?_) (Hi ?_)))));refine cX (R:=λv p=>Ec D L g F z v p/\Ext A p) ((I2 N pb T D L g u G F A (d.t.plan.same λb c=>m.block b (d.t.sep b c).1) (λb c=>ep (d.t.sep b c).1 m.size) d.t.lt (d.t.own.ext λb c _=>m.block b c).WA K cL (dw d.drawn m.drawn)).mono ?_) cK;rintro e w' ⟨y,rfl,M,hc,c,hd⟩;exact⟨_,rfl,⟨y,rfl,dT.imp (λb _ _ c _=>dw m.size c) M,hc⟩,c.os,c.tape,c.output,c.size,hd,c.block⟩;rintro A x2 _ ⟨B,rfl,O,c⟩ _ ⟨x,rfl,P,Q⟩;refine dI c λp S U=>?_;have W:p.heap[B]? =some (fp x):=U;have X:=x2.cS S O;have f:=d.ext X;have i:dT (λb=>z.heap.size<=b/\b≠B) p (eT D L g) x:=(P.imp (o':=λb=>z.heap.size<=b/\b≠B) cK).grow λb cs fz h1 q=>S.fL q h1.2;have⟨Y,_,_,Z,_⟩:=jm f.t.at_;have⟨q0,q1,q2,q3,_⟩:=eR W;have r:yW p B 0 x:=⟨q0,q1,q2,q3⟩;have aa:iU x y=nq (eT D L g) s:=i.better f.sched;have n:eG D 0 g L s=if iU x y=true then eT D L g else s:=by simp only[eG,ly,aa]
 rw[n];refine dD dC (dl Y (dx x.val (λC E=>ew (A7 (r.ext E)) ⟨rfl,dC.refl _⟩) (dx y.val (λC E=>ew (A7 (Z.ext E)) ⟨rfl,dC.refl _⟩) (ik _ (λC E=>Jz _ x y C) λC j=>⟨λht=>?_,λhf=>?_⟩))));rw[cT ht];refine ew (A7 (r.ext j)) (dI (j.at_ f.t.at_) λw5 k ab=>?_);have a:=f.ext j;have ac:=d.t.own;have s1:=l.size;refine⟨rfl,u,G,L,x,⟨⟨a.t.plan.same λb c=>k.block b (a.t.sep b c).1 (a.t.sep b c).2.1,λb c=>⟨ep (a.t.sep b c).1 k.size,(a.t.sep b c).2⟩,?_,a.t.own.ext λb c q=>k.block b c ?_,a.t.lt,a.t.free,a.t.len,a.t.bare⟩,?_,?_,dw a.size k.size,dw a.drawn k.drawn⟩,cK,?_,.inl rfl⟩;rw[ab];simp[ir,Value.cells,fo];have:=(a.t.own.at_ q).2;omega;have af:T<w.heap.size:=dz.lt_of_heap o.t.at_;exact i.move λb cs fz c q=>⟨⟨dw d.size c.1,cL,λh=>iD ((ac.at_ h).1)⟩,k.fL (j.at_ q) cL⟩;exact((Q.tape S.tape).tape j.tape).tape k.tape;exact((j.yB (X.yB (l.keep _))).trans k (λ_ _ h=>h) cK);rw[cR cK];exact⟨rfl,u,G,L,y,f.ext j,cK,j.yB (X.yB (l.keep _)),.inl rfl⟩
def Ng(n:Nat)(hg:tI n):tI (n+1):=by
 intro N q T D G H w a I pc L y s hn m;have r:a.length<D.opn.length:=cL;have J:=m.t.plan.ok.five;have⟨Z,t1,t2,t3,t4⟩:=jm m.t.at_;have⟨wk,u1,u2,fz,_,u,K,M⟩:=m.t.plan.at_;have p1:w.cell? (dq q 1)=some u1:=by simp[World.cell?,u,dX]
 have p2:w.cell? (dq q 2)=some u2:=by simp[World.cell?,u,dX]
 obtain⟨oa,oc,rfl⟩:=K.len;have j:a.length<D.lists.length:=by rw[m.t.plan.ok.len];exact r
 obtain⟨lb,lc,lu,rfl,aa,O,z⟩:=M.at_ a.length j;have e1:D.lists[a.length]=ef D a.length:=rS j rfl;rw[e1]at z;obtain⟨ra,rc,rfl⟩:=z.len;have P:(ef D a.length).length<=65536:=m.t.plan.ok.many _ (e1▸eB j);refine jb Tryz.func216 Tryz.ntmps216 ?_;refine dD dC (dl t1 (mz (dl Z (dl p1 (mz (KV λw1 o=>lh pY ?_))))));refine dD dC (dl (o.cell Z) (dl (o.cell p2) (dl (o.cell t1) (mz (gB a.length j (dl (o.cell (by rw[dj];exact O)) (mz λw2 x2=>?_)))))))
 refine ft (n:=(ef D a.length).length) (λk=>[(0,dR T),(59,i64 (ef D a.length).length),(60,i64 k)])
  (λk Q=>∃d g L' A,jh N q T D G H Q a d g L' A ((List.range k).foldl (λb i=>eG D n (a++[i]) (jM (fI D a.length) ((ef D a.length).getD i []) L) b) s)/\(∀s,s<6->L' s=L s)/\
   dA (λb=>b=T\/I=some (dq b 0)) w Q/\(d=I\/∃b,w.heap.size<=b/\d=some (dq b 0))) ⟨by trivial,I,pc,L,y,(m.ext o).ext x2,λ_ _=>rfl,x2.yB (o.keep _),.inl rfl⟩ ?_ ?_ ?_
 intro k Q _ hJ;exact dK ⟨rfl,rfl,by trivial,hJ⟩;rintro k w3 hk ⟨d,g,L',A,S,C,E,f⟩;refine cX (R:=λ_ F=>Gz N q T D G H w3 a d L' (eG D n (a++[k]) (jM (fI D a.length) ((ef D a.length).getD k []) L') ((List.range k).foldl (λb i=>eG D n (a++[i]) (jM (fI D a.length) ((ef D a.length).getD i []) L) b) s)) (.returned undef) F) ((Hj n hg N q T D G H w3 a d g L' A _ k hn S hk).mono λe F U=>⟨_,U.1,U.1▸U⟩) ?_;rintro v F ⟨_,W,X,L2,y2,g1,g2,g3,p⟩;refine cW ⟨by trivial,W,X,L2,y2,?_,λx B=>(g2 x B).trans (C x B),?_,?_⟩;rw[Hk];rw[tJ n (L:=jM (fI D a.length) ((ef D a.length).getD k []) L') (L':=jM (fI D a.length) ((ef D a.length).getD k []) L) (λx B=>by unfold jM;rw[C x B])]at g1;exact g1;refine E.trans g3 (λ_ _ h=>h) λx B l=>?_;obtain l|l:=l;exact .inl l;obtain f|⟨c,Y,f⟩:=f;exact .inr (f.symm.trans l);rw[f]at l;have:c=x:=dE Addr.block (dQ l);omega;obtain p|⟨c,Y,p⟩:=p;obtain f|⟨c,Y,f⟩:=f;exact .inl (p.trans f);exact .inr ⟨c,Y,p.trans f⟩;exact .inr ⟨c,iD E.size,p⟩;rintro F ⟨d,g,L',A,S,C,E,f⟩;exact⟨rfl,d,g,L',A,S,C,E,f⟩
theorem xN:∀n,tI n
 |0=>Nf
 |n+1=>Ng n (xN n)
def Qk:Pd:=λN c T D d e w a f g L y s b=>xN (D.opn.length-a.length) N c T D d e w a f g L y s (iD b.t.len) b
def Ql:GA:=λN b T D c d w a e f L y s i g j h=>Hj (D.opn.length-a.length-1) (xN _) N b T D c d w a e f L y s i cL g h
end Go.Proofs.W
namespace Go.Proofs.W
open Go.Conc Go.dz Go.dz.Cr Go.RowKit
noncomputable def gY:Array Oper:=#[{dst:=some 2,op:=Op.move (.const (.bool true)),type:=4,pos:= "",after:=#[],guard:=none},{dst:=some 2,op:=Op.move (.const (.bool false)),type:=4,pos:= "",after:=#[],guard:=none}]
noncomputable def nF:Code:=match V.zq with
 | .seq _ (.seq _ r)=>r
 |_=>.skip
noncomputable def jV(a:eF):Act:=(iB a).put (some 1) (.func (.func 227) #[] (o9 a))
def Nh{b:Array Oper}{Q:Exit->Act->dB}{o:Oper}{a:Act}{K:Act->dB}(v:cJ)(c:b[i]? =some o)(d:o.guard=none)(e:(execOp a.eval o).run P w=.halt (.panic v) t)(h:Q (.panic [{v,recovered:=false}]) a t):wpOp P b Q i K a w:=by
 have f:Region.wanted o (yielded b a.tmps)=true:=by simp[Region.wanted,d]
 unfold wpOp;rw[c];simp only[f,ej];refine .inl ?_;unfold Oper.wp;rw[e];exact h
def Hl{R:Ending->dB}(t:Nat)(C:w.tape w.drawn (.order 163 1)=t) (h:wpOps V.prog gY (Exit.then (nF.wp V.prog (bodyPost V.prog V.f163 R)) (bodyPost V.prog V.f163 R)) (Region.schedule (V.prog.follows .mixedOrders) gY t) (jV W) w.drew):Calls V.prog 163 W w R:=by
 intro cs;let b:Frame:={(default:Frame)with fn:=163,kind:=.normal};have m:Frame.enter jS 163 W .normal=b.at ⟨W++Array.replicate (9-W.size) gT,[]⟩ [.code V.zq]:=by simp[Frame.enter,Frame.at,V.func163,V.f163,b]
 have D:(Code.region 0 #[{dst:=some 9,op:=Op.move (.const (.bool true)),type:=4,pos:= "",after:=#[],guard:=none},{dst:=some 1,op:=Op.makeFunc (.func 227) #[] #[.tmp 0,.tmp 1,.tmp 2,.tmp 3,.tmp 4,.tmp 5,.tmp 6,.tmp 7,.tmp 8,.tmp 9],type:=0,pos:= "",after:=#[],guard:=none}] false).wp jS
  (λe a w'=>e=.normal/\a=jV W/\w'=w) ⟨W++Array.replicate (9-W.size) gT,[]⟩ w:=by
  refine pX ?_;show wpOps _ _ _ [0,1] _ _;rw[wpOps_cons];refine ky (w':=w) (o:={dst:=some 9,op:=Op.move (.const (.bool true)),type:=4,pos:= "",after:=#[],guard:=none}) (.bool true) rfl rfl (by go_simp) ?_;rw[wpOps_cons];refine ky (w':=w) (o:={dst:=some 1,op:=Op.makeFunc (.func 227) #[] #[.tmp 0,.tmp 1,.tmp 2,.tmp 3,.tmp 4,.tmp 5,.tmp 6,.tmp 7,.tmp 8,.tmp 9],type:=0,pos:= "",after:=#[],guard:=none}) (.func (.func 227) #[] (o9 W)) rfl rfl ?_ ⟨rfl,rfl,rfl⟩;have x:∀j:dW->cJ,(execOp j {dst:=some 1,op:=Op.makeFunc (.func 227) #[] #[.tmp 0,.tmp 1,.tmp 2,.tmp 3,.tmp 4,.tmp 5,.tmp 6,.tmp 7,.tmp 8,.tmp 9],type:=0,pos:= "",after:=#[],guard:=none}).run jS w=.ok (.value (.func (.func 227) #[] #[j (.tmp 0),j (.tmp 1),j (.tmp 2),j (.tmp 3),j (.tmp 4),j (.tmp 5),j (.tmp 6),j (.tmp 7),j (.tmp 8),j (.tmp 9)])) w:=by intro j;go_simp;try rfl
  exact x _
 obtain⟨O,Q,n,⟨rfl,rfl,rfl⟩,E⟩:=D b (.code (.seq (.region 1 gY true) nF)::[]) cs;have F:Steps jS (lone (Frame.enter jS 163 W .normal) cs n) (lone (b.at (jV W) [.code (.seq (.region 1 gY true) nF)]) cs n):=by rw[m];exact .head step_seq E
 have G:Steps jS (lone (Frame.enter jS 163 W .normal) cs n) (lone (b.at (jV W) [.inRegion gY (Region.schedule (V.prog.follows .mixedOrders) gY t),.code nF]) cs n.drew):=by refine F.trans (.head step_seq (.one ?_));have:=step_region_draw (P:=jS) (b:=b) (a:=jV W) (k:=[.code nF]) (cs:=cs) (w:=n) (ops:=gY) (id:=1);rw[show n.tape n.drawn (.order b.fn 1)=t from C]at this;exact this
 have f:∀(k:List Item) (e:Exit) (a:Act) (w':cI),(e=.normal->k=[])->bodyPost jS V.f163 R e a w'->Arrives jS (lone (Frame.enter jS 163 W .normal) cs n) b k cs e a w'->∃e w' y,R e w'/\Go.Comes jS (lone (Frame.enter jS 163 W .normal) cs n) (lone y cs w') e/\y.fn=163/\y.leaving jS w' e:=by
  intro k e a w' H g d;cases e with
  |normal=>
   obtain rfl:=H rfl;have⟨p,v,z,q⟩:=g;exact⟨.returned v,w',_,q,Steps.trans d (.one step_end),rfl,rfl,p,rfl,V.f163,V.func163,z⟩
  |ret=>
   have⟨p,v,z,q⟩:=g;have⟨r,A⟩:=d;exact⟨.returned v,w',_,q,A,rfl,rfl,p,rfl,V.f163,V.func163,z⟩
  |panic c=>
   have⟨p,q⟩:=g;have⟨r,A⟩:=d;exact⟨.panicked c,w',_,q,A,rfl,rfl,p,V.f163,V.func163⟩
  |exit id=>exact g.elim
  |goto l=>exact g.elim
  |outgrown=>exact⟨.outgrown,w',b,g,d.resolve_left cK,rfl,trivial⟩
 have⟨I,s,u,g,J⟩:=wp_ops _ _ _ h b [.code nF] cs;have i:=Arrives.of_steps G J;cases I with
 |normal=>
  have⟨K,L,M,B,N⟩:=g b [] cs;exact f [] K L M (λ_=>rfl) B (Arrives.of_steps i N)
 |ret=>exact f _ .ret s u (λh=>cK) g i
 |panic c=>exact f _ (.panic c) s u (λh=>cK) g i
 |exit id=>exact f _ (.exit id) s u (λh=>cK) g i
 |goto l=>exact f _ (.goto l) s u (λh=>cK) g i
 |outgrown=>exact f _ .outgrown s u (λh=>cK) g i
theorem VC:Region.schedule (V.prog.follows .mixedOrders) gY 1=[1,0]:=eE
theorem VD:Region.schedule (V.prog.follows .mixedOrders) gY 0=[0,1]:=eE
def Ll(b:eF)(w:cI)(h:Region.schedule (V.prog.follows .mixedOrders) gY (w.tape w.drawn (.order 163 1))=[1,0]):Calls V.prog 163 b w λe w'=>e=.panicked jU/\w'=w.drew.alloc (tH (o9 b)):=by
 refine Hl _ rfl ?_;rw[h];rw[wpOps_cons];refine ky (w':=w.drew) (o:={dst:=some 2,op:=Op.move (.const (.bool false)),type:=4,pos:= "",after:=#[],guard:=none}) (.bool false) rfl rfl (by go_simp) ?_;rw[wpOps_cons];refine ky (w':=w.drew) (o:={dst:=some 2,op:=Op.move (.const (.bool true)),type:=4,pos:= "",after:=#[],guard:=none}) (.bool true) rfl rfl (by go_simp) ?_;have k:10<=(jV b).tmps.size\/(jV b).tmps.size=9:=by grind [uG,jV,iB]
 have n:9<=(jV b).tmps.size:=cL;have⟨a,i⟩:=jQ (((jV b).put (some 2) (.bool false)).put (some 2) (.bool true));have l:a.eval (.tmp 2)=.bool true:=by grind [xr,uG]
 have p:a.eval (.tmp 1)=.func (.func 227) #[] (o9 b):=by rw[i,tt _ _ _ _ dt,tt _ _ _ _ dt];exact xr _ _ _ (by grind [uG,iB])
 have m:a.defers=[]:=by rw[i];rfl
 have q:9<=a.tmps.size:=by grind [uG]
 show Code.wp jS nF _ (((jV b).put (some 2) (.bool false)).put (some 2) (.bool true)) w.drew;rw[<-i];clear i;show Code.wp jS (Code.seq (Code.cond (.tmp 2) _ .skip) _) _ a w.drew;refine lf (wp_cond_true l (lf (pX ?_)));show wpOps _ _ _ [0] _ _;rw[wpOps_cons];refine ky (w':=w.drew.alloc (tH (o9 b))) (o:={dst:=some 3,op:=Op.box 200 (.tmp 1),type:=0,pos:= "",after:=#[],guard:=none}) (dR w.drew.lH) rfl rfl ?_ ?_;have f:∀(o:Oper) (c:dW->cJ),o.op=Op.box 200 (.tmp 1)->c (.tmp 1)=.func (.func 227) #[] (o9 b)->(execOp c o).run jS w.drew=.ok (.value (dR w.drew.lH)) (w.drew.alloc (tH (o9 b))):=by rintro⟨d,op,t,r,s,g⟩ c rfl j;generalize o9 b=u at j⊢;unfold tH;go_simp
 grind;refine pX ?_;show wpOps _ _ _ [0] _ _;rw[wpOps_cons];have f:∀c:dW->cJ,c (.const (.iface 3 (i64 7)))=.iface 3 (i64 7)->(execOp c {dst:=none,op:=Op.panic (.const (.iface 3 (i64 7))),type:=0,pos:= "",after:=#[],guard:=none}).run jS (w.drew.alloc (tH (o9 b)))=.halt (.panic (.iface 3 (i64 7))) (w.drew.alloc (tH (o9 b))):=by intro c j;go_simp
 exact Nh (o:={dst:=none,op:=Op.panic (.const (.iface 3 (i64 7))),type:=0,pos:= "",after:=#[],guard:=none}) _ rfl rfl (f _ rfl) ⟨by rw[yX,m],rfl,rfl⟩
def Ni(a:Nat)(w:cI):(Instr.build 245 #[(0,.pointer (some ⟨a,0,none⟩))]).run V.prog w=.ok (.agg (kM ⟨a,0,none⟩)) w:=eE
def Qm(N:dn)(d:Nat)(D:eJ)(w:cI)(M:fY N d D w)(K:∀b,N b->b<w.heap.size)(h:Region.schedule (V.prog.follows .mixedOrders) gY (w.tape w.drawn (.order 163 1))=[0,1]):Calls V.prog 163 #[.pointer (some ⟨d,0,none⟩)] w (λe w'=>A6 D w e w'/\Ext w w'):=by
 refine Hl _ rfl ?_;rw[h];rw[wpOps_cons];refine ky (w':=w.drew) (o:={dst:=some 2,op:=Op.move (.const (.bool true)),type:=4,pos:= "",after:=#[],guard:=none}) (.bool true) rfl rfl (by go_simp) ?_;rw[wpOps_cons];refine ky (w':=w.drew) (o:={dst:=some 2,op:=Op.move (.const (.bool false)),type:=4,pos:= "",after:=#[],guard:=none}) (.bool false) rfl rfl (by go_simp) ?_;have O:(iB #[dR d]).tmps.size=9:=by grind [uG,iB]
 have⟨a,J⟩:=jQ (((jV #[dR d]).put (some 2) (.bool true)).put (some 2) (.bool false));have hz:a.tmps.size=9:=by grind [uG,jV]
 have P:a.eval (.tmp 2)=.bool false:=by grind [xr,uG]
 have e0:a.eval (.tmp 0)=dR d:=by rw[J,tt _ _ _ _ dt,tt _ _ _ _ dt];unfold jV;rw[tt _ _ _ _ dt];unfold iB;rw[tt _ _ _ _ dt];rfl
 have ed:a.defers=[]:=by rw[J];rfl
 show Code.wp V.prog nF _ (((jV _).put (some 2) (.bool true)).put (some 2) (.bool false)) w.drew;rw[<-J];clear J;show Code.wp V.prog (Code.seq (Code.cond (.tmp 2) _ .skip) _) _ a w.drew;refine lf (wp_cond_false P (wp_skip ?_));refine lf (pX ?_);show wpOps _ _ _ [0] _ _;rw[wpOps_cons];refine ky (w':=w.drew) (o:={dst:=some 3,op:=Op.build 245 #[(0,.tmp 0)],type:=245,pos:= "",after:=#[],guard:=none}) (.agg (kM (dq d 0))) rfl rfl ?_ ?_;have n:=Ni d w.drew;have g:∀c:dW->cJ,c (.tmp 0)=dR d->(execOp c {dst:=some 3,op:=Op.build 245 #[(0,.tmp 0)],type:=245,pos:= "",after:=#[],guard:=none}).run V.prog w.drew=.ok (.value (.agg (kM (dq d 0)))) w.drew:=by intro c C;simp[execOp,C,n,Result.andThen]
 grind;show wpOps _ _ _ [] (a.put (some 3) _) _;have⟨v,E⟩:=jQ (a.put (some 3) (.agg (kM (dq d 0))));have z1:v.tmps.size=9:=by grind [uG]
 have d1:v.defers=[]:=by grind [yX]
 have e3:v.eval (.tmp 3)=.agg (kM (dq d 0)):=by grind [xr]
 rw[<-E];clear E;show Code.wp V.prog (Code.seq _ _) _ v w.drew;refine lf (pX ?_);show wpOps _ _ _ [0] _ _;rw[wpOps_cons];have⟨i,q⟩:=jQ (w.drew.alloc (fo d none 0 0 L0 Sw));refine ky (w':=i) (o:={dst:=some 4,op:=Op.box 245 (.tmp 3),type:=0,pos:= "",after:=#[],guard:=none}) (dR w.heap.size) rfl rfl ?_ ?_;have g:∀c:dW->cJ,c (.tmp 3)=.agg (kM (dq d 0))->(execOp c {dst:=some 4,op:=Op.box 245 (.tmp 3),type:=0,pos:= "",after:=#[],guard:=none}).run V.prog w.drew=.ok (.value (dR w.heap.size)) i:=by intro c C;rw[q,<-M6];generalize kM (dq d 0)=Q at C⊢;go_simp
 grind;show wpOps _ _ _ [] (v.put (some 4) _) _;have⟨x,F⟩:=jQ (v.put (some 4) (dR w.heap.size));have z2:x.tmps.size=9:=by grind [uG]
 have d2:x.defers=[]:=by grind [yX]
 have R:x.eval (.tmp 4)=dR w.heap.size:=by grind [xr]
 rw[<-F];clear F;have f:Ext w i:=by rw[q];exact(Ext.drew w).trans (Ext.alloc _ _)
 have S:i.heap[w.heap.size]? =some (fo d none 0 0 L0 Sw):=by rw[q];exact fX w.drew _
 have T:jh N d w.heap.size D w.heap.size w.drawn i [] none 0 L0 Sw none:=
  ⟨⟨M.same λb n=>f.block b (K b n),λb n=>⟨ep (K b n) f.size,cK,dt⟩,S,.inl ⟨rfl,rfl,rfl⟩,λs _=>by simp[L0],λs _ j _ _=>CW _,gi _,λ_=>rfl⟩,rfl,(λl m k h=>cK),f.size,f.drawn⟩
 clear q;show Code.wp V.prog (Code.seq _ _) _ x i;refine lf (pX ?_);show wpOps _ _ _ [0] _ _;rw[wpOps_cons];refine An (o:={dst:=some 5,op:=Op.call {callee:=.value (.func 216),args:=#[.tmp 4],argTypes:=#[243]},type:=0,pos:= "",after:=#[],guard:=none}) 216 #[dR w.heap.size] rfl rfl ?_ ((Qk N d w.heap.size D w.heap.size w.drawn i [] none 0 L0 Sw none T).mono ?_);have g:∀c:dW->cJ,c (.tmp 4)=dR w.heap.size->c (.func 216)=.func (.func 216) #[] #[]->(execOp c {dst:=some 5,op:=Op.call {callee:=.value (.func 216),args:=#[.tmp 4],argTypes:=#[243]},type:=0,pos:= "",after:=#[],guard:=none}).run V.prog i=.ok (.enter 216 #[dR w.heap.size]) i:=by intro c C q1;go_simp
 exact g _ R rfl;rintro e p ⟨rfl,U,W,L2,z,r,_,A,_⟩;refine .inl ⟨_,rfl,?_⟩;have B:eG D (D.opn.length-([]:cM).length) [] L0 none=gf D:=rfl;rw[B]at r;have⟨_,_,_,⟨y0,y1,X,y3⟩,_⟩:=jm r.t.at_;show wpOps _ _ _ [] (x.put (some 5) _) _;have⟨y,G⟩:=jQ (x.put (some 5) undef);have z3:y.tmps.size=9:=by grind [uG]
 have d3:y.defers=[]:=by grind [yX]
 have Y:y.eval (.tmp 4)=dR w.heap.size:=by grind [tt]
 rw[<-G];clear G;show Code.wp V.prog (Code.seq _ _) _ y p;refine lf (pX ?_);show wpOps _ _ _ [0] _ _;rw[wpOps_cons];refine ky (w':=p) (o:={dst:=some 6,op:=Op.fieldAddr 245 (.tmp 4) 3,type:=0,pos:= "",after:=#[],guard:=none}) (qI w.heap.size 8) rfl rfl ?_ ?_;have g:∀c:dW->cJ,c (.tmp 4)=dR w.heap.size->(execOp c {dst:=some 6,op:=Op.fieldAddr 245 (.tmp 4) 3,type:=0,pos:= "",after:=#[],guard:=none}).run V.prog p=.ok (.value (qI w.heap.size 8)) p:=by intro c C;go_simp
 grind;show wpOps _ _ _ [] (y.put (some 6) _) _;have⟨u,H⟩:=jQ (y.put (some 6) (qI w.heap.size 8));have z4:u.tmps.size=9:=by grind [uG]
 have Z:u.defers=[]:=by grind [yX]
 have e6:u.eval (.tmp 6)=qI w.heap.size 8:=by grind [xr]
 rw[<-H];clear H;show Code.wp V.prog (Code.seq _ Code.ret) _ u p;refine lf (pX ?_);show wpOps _ _ _ [0] _ _;rw[wpOps_cons];refine ky (w':=p) (o:={dst:=some 7,op:=Op.load 199 (.tmp 6),type:=199,pos:= "",after:=#[],guard:=none}) z.val rfl rfl ?_ ?_;have g:∀c:dW->cJ,c (.tmp 6)=qI w.heap.size 8->(execOp c {dst:=some 7,op:=Op.load 199 (.tmp 6),type:=199,pos:= "",after:=#[],guard:=none}).run V.prog p=.ok (.value z.val) p:=by intro c C;simp only[SV.val];go_simp
 grind;show wpOps _ _ _ [] (u.put (some 7) _) _;show Code.wp V.prog Code.ret _ (u.put (some 7) z.val) p;have I:∀b,b<w.heap.size->p.heap[b]? =w.heap[b]? :=by intro b n;rw[A.block b (ep n f.size) (by grind),f.block b n]
 refine wp_ret ⟨by rw[yX,Z],z.val,?_,⟨z,rfl,?_,r.cap,I,?_⟩,⟨A.os.trans f.os,A.tape.trans f.tape,A.output.trans f.output,dw f.size A.size,dw f.drawn A.drawn,I⟩⟩;have L:(u.put (some 7) z.val).eval (.tmp 7)=z.val:=xr _ _ _ cL;rw[kN]at L;simp[results,V.f163,L];exact r.sched.move λb Q fz n hx=>⟨n.1,hx⟩;rw[A.tape,f.tape]
def VE(a:eF)(w:cI)(h:w.tape w.drawn (.order 163 1)=1):Calls V.prog 163 a w λe b=>e=.panicked jU/\b=w.drew.alloc (tH (o9 a)):=Ll a w (by grind [VC])
def WU(N:dn)(a:Nat)(D:eJ)(w:cI)(c:fY N a D w)(d:∀b,N b->b<w.heap.size)(h:w.tape w.drawn (.order 163 1)=0):Calls V.prog 163 #[.pointer (some ⟨a,0,none⟩)] w (A6 D w):=(Qm N a D w c d (by grind [VD])).mono λ_ _ h=>h.1
def Nj(t:Nat):Region.schedule (V.prog.follows .mixedOrders) gY t=[0,1]\/Region.schedule (V.prog.follows .mixedOrders) gY t=[1,0]:=by
 have d:Region.departs gY=false:=eE;have e:Region.schedule (V.prog.follows .mixedOrders) gY t=Region.linearise .any gY t:=by unfold Region.schedule;grind
 rw[e]
 have b:∀(n t:Nat) (L:Array Bool) (a:cM) (c:cM),((List.range gY.size).filter λi=>!L.getD i true&&((gY[i]?).map (·.after.all λe=>!Region.binds .any e||L.getD e.on false)).getD false)=c->Region.linearise.go .any gY (n+1) t L a=match c[t%c.iN]? with
  |some i=>Region.linearise.go .any gY n (t/c.iN) (L.setIfInBounds i true) (i::a)
  |none=>a.reverse:=by
  intro n t L a c h;subst h;rfl
 show Region.linearise.go .any gY 2 t #[false,false] []=_\/Region.linearise.go .any gY 2 t #[false,false] []=_;rw[b 1 t #[false,false] [] [0,1] eE];obtain h|h:=(show t%2=0\/t%2=1 by omega);have:([0,1]:cM)[t%([0,1]:cM).iN]? =some 0:=by grind
 simp only[this];rw[b 0 _ (#[false,false].setIfInBounds 0 true) [0] [1] eE];have:([1]:cM)[t/([0,1]:cM).iN%([1]:cM).iN]? =some 1:=by grind
 simp only[this];exact .inl rfl;have:([0,1]:cM)[t%([0,1]:cM).iN]? =some 1:=by grind
 simp only[this];rw[b 0 _ (#[false,false].setIfInBounds 1 true) [1] [0] eE];have:([0]:cM)[t/([0,1]:cM).iN%([0]:cM).iN]? =some 0:=by grind
 simp only[this];exact .inr rfl
def Nk:CX:=⟨VE,WU,λN a D w b c d=>S8 Ql N a D w b c d⟩
end Go.Proofs.W
namespace Go.Proofs.W
open Go.RowKit
def vw(R:nB):Ending->dB:=λe w=>(∃v,e=.returned v/\R v w)\/(e=.panicked jU/\UE w)
theorem vw.of{R:nB}(h:Calls V.prog K W w (fM R)):Calls V.prog K W w (vw R):=h.mono λe w h=>.inl h
def iM{k:nB}{R:nB}{b:List PanicEntry->dB}(g:Calls V.prog K M.toArray w (vw R))(i:∀a,UE a->b jU a)(h:∀v a,R v a->k v a)(c:∀f w,Sem.run V.prog (callFunc K f) w=.ok (.enter K f) w:=by intro _ _;kernel_rfl):SA V.prog K M w k b:=by refine⟨c,g.mono ?_⟩;rintro e a (⟨v,rfl,d⟩|⟨rfl,d⟩);exact h v a d;exact i a d
def Qn(a:Addr):o9 #[.pointer (some a)]=vv (.pointer (some a)):=by rfl
def Hm{D:eJ}(c:fY A m D w)(a:∀b,A b->b<w.heap.size):Calls V.prog 163 #[di m] w (vw λv w'=>Ext w w'/\∃y:SV,v=y.val/\dT (λb=>w.heap.size<=b) w' (gf D) y):=by obtain h|h:=Nj (w.tape w.drawn (.order 163 1));refine(Qm A m D w c a h).mono ?_;rintro e w' ⟨⟨y,rfl,d,_⟩,f⟩;exact .inl ⟨_,rfl,f,y,rfl,d⟩;refine(Ll _ w h).mono ?_;rintro e w' ⟨rfl,rfl⟩;refine .inr ⟨rfl,m,w.lH,D,A,?_,?_,fY.same (w:=w) (w':=w.drew.alloc (tH (o9 #[di m]))) (λb g=>alloc_old w.drew _ (a b g)) c,a⟩;rw[<-Qn];exact fX w.drew _;exact World.size_alloc _ _
def UH:Sp->Int
 |none=>0
 |some (_,m,_)=>m
def kT(D:eJ):Int×Bool:=(UH (gf D),(gf D).isSome)
def Hn{s:Sp}{y:SV}(h:dT A w s y):∃a l c n,y.val=.agg #[.slice a l c,.int .i64 (UH s),.int .i64 n,.bool s.isSome]:=by
 cases s with
 |none=>
  have h:y=⟨none,0,0,0,0,false⟩:=h;subst h;exact⟨none,0,0,0,rfl⟩
 |some s=>
  have⟨l,m,n⟩:=s;have⟨f,g,i,k,j,o⟩:=y;have⟨b,d,e,p,q⟩:=h;simp only at b d e;subst b d e;exact⟨f,g,i,j,rfl⟩
def CZ{wp gp mk ms n0:Nat}{f:List Sx}(h:mK wp gp mk ms H f I w)(p:∀b,A b->b<w.heap.size)(q:mg A mk ms H w)(g:n0<=mk)(r:n0<=ms)(i:∀x∈f,vO 100000 x)(s:m<=fK H):
 Calls V.prog 116 #[di wp,.int .i64 m] w (vw λv o=>MA n0 mk ms H A w o/\v=.tuple #[.int .i64 (kT (dM H f m)).1,.bool (kT (dM H f m)).2]):=by
 refine jb Tryz.func116 Tryz.ntmps116 ?_;refine cX (AZ h p q g r i s) ?_;rintro v t ⟨u,L,rfl,z⟩;refine iM (Hm z λb j=>by have⟨_,_,_,_,j⟩:=j;exact dz.lt_of_heap j) (λo h=>.inr ⟨rfl,h⟩) ?_;rintro v M ⟨B,y,rfl,C⟩;have⟨a,l,c,n,D⟩:=Hn C;rw[D];refine eS λN O E k d=>dI d λF G e=>?_;have J:Ext t F:=B.trans (E.cS G k);refine dD dC (dl (cN e rfl) (dl (cN e rfl) λP K=>.inl ⟨_,rfl,(zg n0 mk ms H A).trans _ _ _ u ((J.trans K).ma _ _ _ _ _),rfl⟩))
def Nl{b:List Sx}(h:∀x∈b,vO k x)(d:Nat):∀x∈leave1 b d,vO k x:=λx a=>by unfold leave1 at a;split at a;rename_i y c;obtain a|rfl:=sO a;exact h x a;exact h y (pA c);exact h x a
theorem C0:∀{l:cM} {xs:List Sx},(∀x∈xs,vO k x)->∀x∈ki xs l,vO k x
 |[],xs,h=>h
 |d::r,xs,h=>C0 (l:=r) (xs:=leave1 xs d) (Nl h d)
def MA.mf{n0 mk ms:Nat}(h:MA n0 mk ms H B w t):MF A n0 mk ms H B w t:=⟨h.1.os,h.1.tape,h.1.output,h.1.size,h.1.drawn,λx o _ a b=>h.1.block x o a b,λ_ c=>h.2 c⟩
structure LB(wp gp mk ms n0:Nat)(G:Gd)(xs:List Sx)(before:Int)(from_:Nat)(canv:Int)(wb fb ob cb:Nat)(A:Nat->Prop)(w:cI):Prop where
 h:mK wp gp mk ms G xs before w
 p:mg A mk ms G w
 a:∀b,A b->b<w.heap.size
 b1:w.heap[wb]? =some (.cells #[di wp] 133)
 b2:w.heap[fb]? =some (.cells #[.int .i64 from_] 3)
 b4:w.heap[cb]? =some (.cells #[.int .i64 canv] 3)
 off:∀w',(∀b cs t fz,b≠ob->w.heap[b]? =some (.cells cs t fz)->w'.heap[b]? =some (.cells cs t fz))->w.heap.size<=w'.heap.size->mK wp gp mk ms G xs before w'
 nob:wb≠ob/\fb≠ob/\cb≠ob
 ao:A ob
def LB.mf{wp gp mk ms n0:Nat}{f:List Sx}(h:LB wp gp mk ms n0 H f I m J k i j o A w)(e:MF (λx=>x=j) n0 mk ms H A w t):LB wp gp mk ms n0 H f I m J k i j o A t:=
 ⟨h.off t (λb g l n c d=>e.at_ c d) e.size,e.m h.a h.p,λb c=>ep (h.a b c) e.size,e.at_ h.nob.1 h.b1,e.at_ h.nob.2.1 h.b2,e.at_ h.nob.2.2 h.b4,λq r s=>h.off q (λb g l n c d=>r b g l n c (e.at_ c d)) (dw e.size s),h.nob,h.ao⟩
def vx(G:Gd)(c:List Sx)(a:Nat)(b:Int)(l:cM):Bool:=(kT (dM G (ki c l) a)).2&&decide ((kT (dM G (ki c l) a)).1<=b)
def VF{wp gp mk ms n0:Nat}{r:List Sx}(h:LB wp gp mk ms n0 H r I m J k i j o A w)(C:n0<=mk)(S:n0<=ms)(D:∀q∈r,vO 100000 q)(T:m<=fK H) (U:fN w a l)(W:∀d∈l,d<r.length)(s:l.length<=100000)(E:w.heap[j]? =some (.cells #[x] 27)):
 Calls V.prog 170 #[.slice a l.length p,di k,di i,di j,di o] w (vw λv G=>MF (λq=>q=j) n0 mk ms H A w G/\v=.bool (vx H r m J l)/\G.heap[j]? =some (.cells #[.slice a l.length p] 27)):=by
 refine jb Tryz.func170 Tryz.ntmps170 ?_;have K:∀{g},MA n0 mk ms H A w g->MF (λq=>q=j) n0 mk ms H A w g:=λe=>e.mf;have⟨F,L⟩:=jQ (kT (dM H (ki r l) m));refine dD (zg n0 mk ms H A)<| .exact (di wp) (λg f=>cO (cN (f.1.at_ h.b1) rfl) ⟨rfl,(zg n0 mk ms H A).refl _⟩)<| .rel (λu g=>∃c,u=di c/\mK c gp mk ms H (ki r l) I g) (λu aa b ⟨c,M,N⟩ e=>⟨c,M,N.iF e.1⟩) (λg f=>?_) ?_;exact cX (Jm (h.h.iF f.1) (U.iF f.1) W s) λu B ⟨X,c,M,N⟩=>⟨⟨c,M,N⟩,X.ma _ _ _ _ _⟩;refine .exact (i64 m) (λg f=>cO (cN (f.1.at_ h.b2) rfl) ⟨rfl,(zg n0 mk ms H A).refl _⟩)<| .exact (.tuple #[i64 F.1,.bool F.2]) (λg f t O=>?_) ?_;obtain⟨c,rfl,Y⟩:∃c,t=di c/\mK c gp mk ms H (ki r l) I g:=O;exact iM (CZ Y (λb y=>ep (h.a b y) f.1.size) (f.2 h.p) C S (C0 D) T) (λG h=>.inr ⟨rfl,h⟩) λv B ⟨Z,hv⟩=>⟨by rw[hv,L],Z⟩;intro g f t _;have z:=f.1.at_ E;refine dI z λB Q n=>?_;have n:fC B j #[.slice a l.iN p] 27:=n;have P:=Q.fL (f.1.at_ h.b4) h.nob.2.2;have R:MF (λq=>q=j) n0 mk ms H A w B:=(Jn _ n0 mk ms H A).trans _ _ _ (K f) (MF.PX Q λq hx=>by subst hx;exact h.ao);refine⟨λy=>?_,λy=>?_⟩;refine cO (cN P rfl) (sv (.inl ⟨_,rfl,R,?_,n⟩));unfold vx;rw[<-L,y];rfl;refine .inl ⟨_,rfl,R,?_,n⟩;unfold vx;rw[<-L,y];rfl
end Go.Proofs.W
