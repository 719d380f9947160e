/- Laws that the proof needs, part 4. Conditions: none. -/
import Derived.Test.YteeagjkaflglpaaGreatX03
set_option maxRecDepth 100000
set_option maxHeartbeats 8000000
set_option linter.all false
variable{m k i j o p s d:Nat}{w t e:cJ}{x y z:cK}{A B C:Nat->Prop}{R:Go.dA.dO}{l f:List Nat}{T U:cR}{a:Option Go.Addr}{H N:Go.Proofs.W.Gd}{W X:Array cK}{M Y:List cK}{I J:Int}{h:Go.Addr}{D E:Bool}{F:Go.Frame}{O Q:Go.Obj}{K:dZ}{Z:cQ}{S:cJ->Prop}{P:cU}
namespace Go.Proofs.W
open Go.RowKit
theorem Hk.cells{w:cJ}{a:dW}{l:cN}(h:Hk w a l):iP w a (JB l):=by
 obtain _|⟨x,r⟩:=l;exact .inl rfl;obtain⟨b,o,rfl,_⟩:=h 0 dq;refine .inr ⟨b,o,rfl,λj u d=>?_⟩;have c:j<(x::r).iw:=by simpa[JB]using(nk.1 d).1
 have⟨f,g,e,i⟩:=h j c;obtain⟨rfl,rfl⟩:b=f/\o=g:=cL;grind [List.getElem?_eq_getElem,JB]
def AQ{b:cN}{c:Nat}(h:Hk w a b)(i:a=none->b=[])(d:b.length<=1000000):Calls V.prog 199 #[.slice a b.length c] w (fO λv f=>Ext w f/\dg w.heap.size 154 [.int .u8 0] f v b.length (JB b)):=
 P0 a b.iw c (JB b) w (by simp[JB]) (λe=>cL) h.cells (λu g=>by obtain⟨n,_,rfl⟩:=kJ.1 g;rfl) d
def uO(n1:Nat)(w:cJ)(a:dW)(c:cN):Prop:=∀k (h:k<c.length),∃b o,n1<=b/\a=some ⟨b,o,none⟩/\w.cell? ⟨b,o+k,none⟩=some (.int .u8 c[k])
def uO.g{n1:Nat}{c:cN}(h:uO n1 w a c):Hk w a c:=λk d=>by have⟨b,o,_,e,f⟩:=h k d;grind
def uO.low{n1 c:Nat}{d:cN}(h:uO n1 w a d)(f:c<=n1):uO c w a d:=λk e=>by have⟨b,o,g,i,j⟩:=h k e;grind
def uO.iC{n1 n0:Nat}{c:cN}(h:uO n1 w a c)(e:jL n0 w t):uO n1 t a c:=λk d=>by have⟨b,o,f,g,i⟩:=h k d;exact⟨b,o,f,g,e.cell i⟩
def xD.Ym{d:Nat}{b:cN}(h:xD d w x b):∃a c,x=.slice a b.length c/\b.length<=c/\uO d w a b:=by obtain⟨rfl,rfl⟩|⟨e,c,m,f,g,i,j,n,o,p⟩:=h;exact⟨none,0,rfl,di _,λk l=>cL⟩;exact⟨_,c,f,g,λk l=>⟨e,0,i,rfl,cO j cL⟩⟩
def dg.low{n0 n1:Nat}{a:Nat}(h:dg n0 T M w x a Y)(g:n1<=n0):dg n1 T M w x a Y:=by obtain⟨d,h|⟨b,c,e,i,f⟩⟩:=h;exact⟨d,.inl h⟩;exact⟨d,.inr ⟨b,c,e,cM,f⟩⟩
def zk(n1:Nat)(o:Option cN)(v:cK)(w:cJ):Prop:=match o with
 |some b=>∃a c,v=.tuple #[.slice a b.length c,.bool true]/\uO n1 w a b
 |none=>v=.tuple #[.slice none 0 0,.bool false]
theorem zk.iC{o:Option cN}{n0 n1:Nat}(h:zk n1 o x w)(e:jL n0 w t):zk n1 o x t:=by
 cases o with
 |none=>exact h
 |some b=>
  have⟨a,c,d,f⟩:=h;exact⟨a,c,d,f.iC e⟩
structure MX(n0 n1 mk ms:Nat)(G:Gd)(A:Nat->Prop)(a b:cJ):Prop where
 os:b.os=a.os
 tape:b.tape=a.tape
 output:b.output=a.output
 size:a.heap.size<=b.heap.size
 drawn:a.drawn<=b.drawn
 block:∀x o,x<n1->a.heap[x]? =some o->(x<n0\/VB o=false)->b.heap[x]? =some o
 m:mc A mk ms G a->mc A mk ms G b
section
variable{n0 n1 mk ms:Nat}{G:Gd}{A:Nat->Prop}
def Yn(n0 n1 mk ms:Nat)(G:Gd)(A:dp):gH (MX n0 n1 mk ms G A):=
 ⟨λw=>⟨rfl,rfl,rfl,di _,di _,λ_ _ _ h _=>h,id⟩,λa b c h k=>⟨k.os.trans h.os,k.tape.trans h.tape,k.output.trans h.output,du h.size k.size,du h.drawn k.drawn,λx o e g f=>k.block x o e (h.block x o e g f) f,λd=>k.m (h.m d)⟩,λw=>⟨rfl,rfl,rfl,di _,mG _,λ_ _ _ h _=>h,λd=>d.ext (Ext.drew w)⟩⟩
def MA.mx(h:MA n0 mk ms G A w t):MX n0 n1 mk ms G A w t:=⟨h.1.os,h.1.tape,h.1.output,h.1.size,h.1.drawn,λx o _ a b=>h.1.block x o a b,h.2⟩
def MX.iC(h:MX n0 n1 mk ms G A w t)(c:w.heap.size<=n1):jL n0 w t:=⟨h.os,h.tape,h.output,h.size,h.drawn,λx o a b=>h.block x o cL a b⟩
end
theorem xE{gp mk ms n0 most:Nat}{G:Gd}(h:qE gp mk ms G w)(hn:n0<=ms):∀(doors g:cN) (A:dp) (O:dW) (H:Nat) (gv:cK) (E:cJ),jL n0 w E->(∀b,A b->b<E.heap.size)->mc A mk ms G E->fJ w O doors->doors.length<=H->(∀d∈doors,d<G.doors.length)->xD w.heap.size E gv g->(∀s∈g,ky G s)->doors.length+g.length<=100->
 Calls V.prog 175 #[dj gp,.slice O doors.length H,gv,.int .i64 most] E (fO λv w'=>MA n0 mk ms G A E w'/\zk E.heap.size (fE G most doors g) v w')
 |[],g,A,O,H,gv,E,hm,hA,hp,hd,P,Z,hg,ak,al=>by obtain⟨a,c,rfl,hc,am,Q⟩:=hg.row;refine jd Tryz.func175 Tryz.ntmps175 ?_;refine dm (eZ (ko rfl (cX (AQ am Q cL) λv w1 hv=>?_)));have⟨e1,M⟩:=hv;obtain⟨a1,c1,rfl,_,I⟩:=(EL M).Ym;exact⟨_,rfl,e1.ma _ _ _ _ _,a1,c1,rfl,I⟩
 |d::r,g,A,O,H,gv,E,hm,hA,hp,hd,P,Z,hg,ak,al=>by
  have h5:=h.vL.many;have aL:d<G.doors.length:=Z d fW;have⟨db,an,aM,B⟩:=hd 0 dq;have B:w.cell? (dt db (an+0))=some (i64 d):=B;have⟨ga,gc,ao,a4,_,_⟩:=hg.row;have a5:g.length<=100:=cM;let f:Nat->Option cN:=λi=>if l5 G (oi (g.getD i 0) d)then fE G most r (g.set i (oi (g.getD i 0) d))else none
  have ae:fE G most (d::r) g=match(List.range g.length).findSome? f with
   |some R=>some R
   |none=>if g.length<most/\l5 G (eB [d])=true then fE G most r (g++[eB [d]])else none:=rfl
  refine jd Tryz.func175 Tryz.ntmps175 ?_;rw[ao];refine dm (eZ (kZ cL ?_));refine dm (fu (n:=g.length) (λk=>[(0,dj gp),(1,.slice O (d::r).length H),(2,.slice ga g.length gc),(3,i64 most),(19,.slice ga g.length gc),(20,i64 g.length),(21,i64 k)]) (λk w'=>MA n0 mk ms G A E w'/\xD w.heap.size w' (.slice ga g.length gc) g/\∀i,i<k->f i=none) ⟨by trivial,(wD _ _ _ _ _).refl E,ao▸hg,λi hi=>cM⟩ ?_ ?_ ?_);rintro k w' X hJ;exact dN ⟨rfl,rfl,by trivial,hJ⟩;rintro k w1 X ⟨C,af,hf⟩;have M1:=hm.trans C.1;obtain⟨Q,_⟩|⟨F,c,N,ag,ap,aa,aq,S,ar,au⟩:=af;rw[Q]at X;simp at X;injection ag with ag _ av;subst ag;subst av;have ah:=ak _ (eG X);have aw:=ah.oi aL h5;have a6:g.getD k 0=g[k]:=getD_eq X;subst aM;have ac:=M1.cell B;refine eX k X (cP (cO aq cL) (eX 0 dq (cP ac (dF (zA _ _ _ ah.1 cM) (cX (EK (h.iC M1) (λb q=>ew (hA b q) C.1.size) (C.2 hp) hn aw.1 aw.2) ?_)))));rintro v t ⟨rfl,D⟩;have K:=D.1.at_ aq;refine eK ⟨λq=>?_,λq=>?_⟩;have q:l5 G (oi g[k] d)=false:=cL;refine cY ⟨by trivial,(wD _ _ _ _ _).trans _ _ _ C D,.inr ⟨F,gc,N,rfl,ap,aa,K,S,ar,au⟩,λi hi=>?_⟩;grind;have q:l5 G (oi g[k] d)=true:=cL;have ai:f k=fE G most r (g.set k (oi g[k] d)):=cL;have ax:=D.1.cell ac;have a3:(N.setIfInBounds k (.int .u8 (oi g[k] d:Nat))).setIfInBounds k (.int .u8 (g[k]:Nat))=N:=by apply Ot;intro j;by_cases hj:k=j;grind;grind
  refine eX 0 dq (cP ax (dF (zA _ _ _ ah.1 cM) (eX k X (jw K (by simp[Value.cells];omega) (λp k3 T=>?_) (gJ rfl)))));have T:p.heap[F]? =some (.cells (N.setIfInBounds k (.int .u8 (oi g[k] d:Nat))) 154):=by rw[T];simp[ir,Value.cells]
  have aN:Qb (N.setIfInBounds k (.int .u8 (oi g[k] d:Nat))):=λj v hj=>by by_cases e:k=j;grind;rw[gd e]at hj;exact S j v hj
  have M3:jL n0 w p:=(M1.trans D.1).cT k3 aa;have aO:mc (λx=>A x\/x=F) mk ms G p:=((D.2 (C.2 hp)).sets K S).keep k3 λb q=>.inr q;have aP:=dA.lt_of_heap T;have aQ:xD w.heap.size p (eT F g.length gc) (g.set k (oi g[k] d)):=by refine .inr ⟨F,gc,_,cL,cL,aa,T,aN,cL,λj hj=>?_⟩;by_cases e:k=j;grind;grind
  have sA:∀b,(A b\/b=F)->b<p.heap.size:=λb q=>q.elim (λh=>by have:=hA b h;have:=C.1.size;have:=D.1.size;have:=k3.size;omega) λe=>e▸aP;refine Ls dq P (cX (xE h hn r (g.set k (oi g[k] d)) (λx=>A x\/x=F) (tailA (pr db an) H) (H-1) (eT F g.length gc) p M3 sA aO (hd.tail P) cL (λx hx=>Z x (jD _ hx)) aQ (λs hs=>?_) cL) ?_);grind;rintro v w4 ⟨m4,y⟩;have ay:=m4.1.at_ T;have back:∀{w5:cJ},dz (λx=>x=F) w4 w5->w5.heap[F]? =some (.cells N 154)->MA n0 mk ms G A E w5:=λk5 J=>by refine⟨C.1.trans (jL.patch D.1 k3 m4.1 k5 λo L=>?_),λhp=>?_⟩;grind;exact((m4.2 (((D.2 (C.2 hp)).sets K S).keep k3 λb q=>.inr q)).keep k5 λb q=>.inr q).fewer λb q=>.inl q
  cases L:fE G most r (g.set k (oi g[k] d))with
  |some R=>
   rw[L]at y ai;obtain⟨oa,oc,rfl,aR⟩:=y;refine eX k X (jw ay (by simp[Value.cells];omega) (λw5 k5 J=>ko rfl ?_) (gJ rfl));have J:w5.heap[F]? =some (.cells N 154):=by grind [ir,oi,Value.cells]
   refine⟨_,rfl,back k5 J,?_⟩;rw[ae,l8 X hf ai];refine⟨oa,oc,rfl,λj hj=>?_⟩;have⟨b,o,x0,x1,x2⟩:=aR j hj;have y1:=C.1.size;have y2:=D.1.size;have y3:=k3.size;exact⟨b,o,cM,x1,k5.fe x2 cL⟩
  |none=>
   rw[L]at y ai;have y:v=.tuple #[fo,.bool false]:=y;subst y;refine eX k X (jw ay (by simp[Value.cells];omega) (λw5 k5 J=>kZ rfl ?_) (gJ rfl));have J:w5.heap[F]? =some (.cells N 154):=by grind [ir,oi,Value.cells]
   refine cY ⟨by trivial,back k5 J,.inr ⟨F,gc,N,rfl,ap,aa,J,S,ar,au⟩,λi hi=>?_⟩;grind
  rintro w1 ⟨C,af,hf⟩;have M1:=hm.trans C.1;have az:=C.2 hp;have aA:fE G most (d::r) g=if g.length<most/\l5 G (eB [d])=true then fE G most r (g++[eB [d]])else none:=cL
  have no:∀t,MA n0 mk ms G A E t->¬(g.length<most/\l5 G (eB [d])=true)->∃v,Ending.returned (one [fo,.bool false])=.returned v/\MA n0 mk ms G A E t/\zk E.heap.size (fE G most (d::r) g) v t:=λt m aS=>⟨_,rfl,m,by rw[aA,cS aS];rfl⟩;have ad:=ky.eB (G:=G) h5 (l:=[d]) λx hx=>cL;have a7:1<=H:=cL;have I:∀{t},jL n0 w t->fJ t O [d]:=λm=>(hd.iC m).cut 1;have U:∀{t},jL n0 w t->Calls V.prog 122 #[.slice O 1 H] t (fO λv w'=>v=.int .u8 (eB [d])/\w'=t):=λm=>uk [d] O H _ (I m) (λx hx=>cL) dq;refine dm (dN ⟨λaB=>?_,λa8=>kZ rfl (no w1 C λhx=>?_)⟩);have aB:g.length<most:=cL;refine pK 1 cM (dF (U M1) (cX (EK (h.iC M1) (λb q=>ew (hA b q) C.1.size) az hn ad.1 ad.2) ?_));rintro v t ⟨rfl,D⟩;refine⟨λhs=>?_,λhs=>no t ((wD _ _ _ _ _).trans _ _ _ C D) λhx=>cL⟩;have M2:=M1.trans D.1;have aT:=D.2 az;have aU:=af.iC D.1;have⟨_,_,aC,_,aD,aE⟩:=aU.row;injection aC with e1 _ e2;subst e1;subst e2;have hE:=wD n0 mk ms G A;refine gQ 9 hE (Yn n0 t.heap.size mk ms G A) (λa b h=>h.mx) ?_;have aF:∀{p},MX n0 t.heap.size mk ms G A t p->jL n0 w p:=λe=>M2.trans (e.iC (di _));refine .exact (.slice (tailA O H) r.length (H-1)) (λp z=>Ls dq P ⟨rfl,hE.refl _⟩)<| .MI (λv p=>dg t.heap.size 154 [.int .u8 0] p v g.length (JB g)) (λv a b M e=>M.iC e.1) (λp z=>cX (AQ (aD.iC (z.iC (di _))) aE cM) λv w4 ⟨e4,M⟩=>⟨M.low z.size,e4.ma _ _ _ _ _⟩)<| .exact (.slice O 1 H) (λp z=>pK 1 cM ⟨rfl,hE.refl _⟩)<| .exact (.int .u8 (eB [d])) (λp z _ _=>dF (U (aF z)) ⟨rfl,hE.refl _⟩)<| .MI (λv p=>∃Y,v=eT Y 1 1/\p.heap[Y]? =some (.cells [Value.int .u8 (eB [d]:Nat)].toArray 154)) (λv a b ⟨Y,h1,h2⟩ e=>⟨Y,h1,e.1.at_ h2⟩) (λp z=>er [Value.int .u8 (eB [d]:Nat)] 154 λw4 Y e4 aG q=>⟨⟨Y,rfl,q⟩,e4.ma _ _ _ _ _⟩) ?_;refine .spec (λv p=>dg t.heap.size 154 [.int .u8 0] p v (g.length+1) (JB g++[.int .u8 (eB [d]:Nat)])) (λv a b M e=>M.iC e.1) (λp z aV aW aX W=>?_) ?_;obtain⟨Y,rfl,aG⟩:∃Y,aV=eT Y 1 1/\p.heap[Y]? =some (.cells [Value.int .u8 (eB [d]:Nat)].toArray 154):=aW;have W:dg t.heap.size 154 [.int .u8 0] p aX g.length (JB g):=W;refine hH PX W z.1.size aG cM λv' w4 g1 g2 g3=>⟨g1,g2.os,g2.tape,g2.output,g2.size,g2.drawn,λx o hx L hm=>g2.fN L λq=>?_,λaH=>?_⟩;have:=(W.blk q).1;omega;obtain⟨_,rfl⟩|⟨F,c,N,rfl,_,_,z1,z2,_⟩:=EL W;exact aH.keep g2 λb q=>by have⟨_,_,q⟩:=q;grind
  refine((aH.sets z1 z2).keep g2 λb q=>.inr ?_).fewer λb q=>.inl q;have⟨_,_,q⟩:=q;grind;refine .late rfl (λv p=>zk t.heap.size (fE G most r (g++[eB [d]])) v p) (λv a b M e=>M.iC e.1) (λp z ab aI=>?_) ?_;have aI:dg t.heap.size 154 [.int .u8 0] p ab (g.length+1) (JB g++[.int .u8 (eB [d]:Nat)]):=aI;have aY:(g++[eB [d]]).length=g.length+1:=dq;have aZ:xD t.heap.size p ab (g++[eB [d]]):=EL (by grind [JB]);have sA:∀b,A b->b<p.heap.size:=λb q=>by have:=hA b q;have:=C.1.size;have:=D.1.size;have:=z.size;omega
  have aJ:xD w.heap.size p ab (g++[eB [d]]):=by obtain h|⟨F,c,N,x1,x2,x3,x4⟩:=aZ;grind;exact .inr ⟨F,c,N,x1,x2,iI M2.size,x4⟩
  refine cX (xE h hn r (g++[eB [d]]) A (tailA O H) (H-1) ab p (aF z) sA (z.m aT) (hd.tail P) cL (λx hx=>Z x (jD _ hx)) aJ (λs hs=>?_) cL) λv w4 ⟨m4,y⟩=>⟨?_,m4⟩;grind;cases L:fE G most r (g++[eB [d]])with
  |none=>rw[L]at y;exact y
  |some R=>
   rw[L]at y;have⟨a,c,x1,x2⟩:=y;exact⟨a,c,x1,x2.low z.size⟩
  let o:=fE G most r (g++[eB [d]])
  have aK:∀{v p},zk t.heap.size o v p->∃u,v=.tuple #[u,.bool o.isSome]/\zk t.heap.size o (.tuple #[u,.bool o.isSome]) p:=λ{v p} hv=>by
   cases L:o with
   |none=>rw[L]at hv;have hv:v=_:=hv;grind
   |some R=>rw[L]at hv;obtain⟨a,c,rfl,x⟩:=hv;exact⟨_,rfl,a,c,rfl,x⟩
  refine .late rfl (λu p=>zk t.heap.size o (.tuple #[u,.bool o.isSome]) p) (λv a b M e=>M.iC e.1) (λp z a0 aj=>?_) ?_;obtain⟨u,rfl,hu⟩:=aK aj;exact⟨hu,hE.refl _⟩;refine .exact (.bool o.isSome) (λp z a0 aj=>?_) ?_;obtain⟨u,rfl,hu⟩:=aK aj;exact⟨rfl,hE.refl _⟩;refine .late rfl (λu p=>zk t.heap.size o (.tuple #[u,.bool o.isSome]) p) (λv a b M e=>M.iC e.1) (λp z a9 a2=>by intro _ _ _ _ _ _ _ _;exact⟨a2,hE.refl _⟩) ?_;intro p z v8 h8 _ _ _ _ _ _ _ _ _ _;have h8:zk t.heap.size o (.tuple #[v8,.bool o.isSome]) p:=h8;refine⟨_,rfl,⟨C.1.trans (D.1.trans (z.iC (di _))),λhp=>z.m (D.2 (C.2 hp))⟩,?_⟩;rw[aA,cV ⟨aB,hs⟩];show zk E.heap.size o (.tuple #[v8,.bool o.isSome]) p;cases L:o with
  |none=>rw[L]at h8;exact h8
  |some R=>
   rw[L]at h8;have⟨a,c,x1,x2⟩:=h8;exact⟨a,c,x1,x2.low (Cq C.1.size D.1.size)⟩
  grind
def ZY(Q:QW):QW
 | .goto _,_,_=>False
 | .normal,l,w=>Q .normal l w
 | .exit i,l,w=>Q (.exit i) l w
 | .ret,l,w=>Q .ret l w
 | .panic c,l,w=>Q (.panic c) l w
 | .outgrown,l,w=>Q .outgrown l w
def Qd{N:Nat}{c:Code}{l:L}{w:cJ}{Q:QW}(h:WC V.prog Fz N c (ZY Q) l w):dX V.prog N (.scope c) l w Q:=by
 refine⟨λa f=>wp_scope_straight (lL (jr dB c _ l a w f h) ?_)⟩;rintro e j k ⟨g,b,d⟩;cases e with
 |goto i=>exact d.elim
 |_=>exact⟨g,b,d⟩
def ZZ(a b c d e:Bool)(x y:dU)(w:cJ):Sem.run V.prog (do eqGuard .eql 217 x y (.agg #[.bool a,.bool b,.bool c,.bool d,.bool e]) (.agg #[.bool false,.bool false,.bool false,.bool false,.bool false]);binOp .eql 217 (.agg #[.bool a,.bool b,.bool c,.bool d,.bool e]) (.agg #[.bool false,.bool false,.bool false,.bool false,.bool false])) w=.ok (.bool (!(a||b||c||d||e))) w:=by cases a<;>cases b<;>cases c<;>cases d<;>cases e<;>kernel_rfl
def dX.jJ{N:Nat}{c:Code}{l l0:L}{w:cJ}{Q:QW}(b:Sub l0 l)(h:dX P N c l0 w Q):dX P N c l w Q:=⟨λa d=>h.out a (d.sub b)⟩
def dX.mono{N:Nat}{c:Code}{l:L}{w:cJ}{Q d:QW}(f:∀e l w,Q e l w->d e l w)(h:dX P N c l w Q):dX P N c l w d:=⟨λa g=>lL (h.out a g) (by rintro e k m ⟨i,b,j⟩;exact⟨i,b,f _ _ _ j⟩)⟩
def Yo(a:L)(F:dC)(Q:QW):QW
 | .normal,l,w=>Sub a l/\F w
 | .goto i,l,w=>Q (.goto i) l w
 | .exit i,l,w=>Q (.exit i) l w
 | .ret,l,w=>Q .ret l w
 | .panic c,l,w=>Q (.panic c) l w
 | .outgrown,l,w=>Q .outgrown l w
def VF{N:Nat}{c:Code}{l:L}{w:cJ}{Q:QW}(a:L)(F:dC)(h:dX P N c l w (Yo a F Q))(b:∀l w,Sub a l->F w->Q .normal l w):dX P N c l w Q:=
 h.mono λe l w h=>by
  cases e with
  |normal=>exact b l w h.1 h.2
  |_=>exact h
def iJ.c{A:dp}{w d:cJ}{a:dW}{l:cN}(h:iJ A w a l)(e:∀b o v,¬A b->w.cell? ⟨b,o,none⟩=some v->d.cell? ⟨b,o,none⟩=some v):iJ A d a l:=h.go cL e
def AS(A:dp)(e:Nat)(w:cJ)(v:cK)(b:List cN):Prop:=∃d,dg e 27 [.slice none 0 0] w v b.length d/\d.length=b.length/\∀k (h:k<b.length),∃a c,d[k]? =some (.slice a b[k].length c)/\iJ A w a b[k]/\b[k].length<=c
theorem AS.iC{A:dp}{b n0:Nat}{w d:cJ}{f:List cN}(h:AS A b w x f)(e:jL n0 w d):AS A b d x f:=by have⟨g,i,j,l⟩:=h;refine⟨g,i.iC e,j,λk m=>?_⟩;have⟨a,c,n,o,p⟩:=l k m;exact⟨a,c,n,o.iC e,p⟩
theorem AS.keep{A:dp}{d:Nat}{w e:cJ}{f:List cN}{F:dp}(h:AS A d w x f)(k:dz F w e)(u:∀b,F b->A b)(g:∀b,cW x b->¬F b):AS A d e x f:=by have⟨j,l,m,n⟩:=h;refine⟨j,l.keep k g,m,λi p=>?_⟩;have⟨a,c,q,r,s⟩:=n i p;exact⟨a,c,q,r.c λb o x v t=>k.fe t cL,s⟩
def AS.out{A A':dp}{f:Nat}{w:cJ}{d:List cN}(h:AS A f w x d)(p:∀b,A' b->A b)(i:∀b,A' b->b<f):∃a c,x=.slice a d.length c/\l7 A' w a d/\d.length<=c:=by obtain⟨q,⟨r,⟨s,rfl⟩|⟨b,c,t,u,rfl,j,v,l,y,z,B⟩⟩,C,e⟩:=h;exact⟨none,0,cL,λk g=>cM,cM⟩;refine⟨_,c,rfl,λk g=>?_,l⟩;have⟨a,m,D,n,o⟩:=e k g;exact⟨b,0,a,m,cL,rfl,cO j cL,n.more cL,o⟩
structure MF(F:Nat->Prop)(n0 mk ms:Nat)(G:Gd)(A:Nat->Prop)(a b:cJ):Prop where
 os:b.os=a.os
 tape:b.tape=a.tape
 output:b.output=a.output
 size:a.heap.size<=b.heap.size
 drawn:a.drawn<=b.drawn
 block:∀x o,¬F x->a.heap[x]? =some o->(x<n0\/VB o=false)->b.heap[x]? =some o
 m:(∀x,A x->x<a.heap.size)->mc A mk ms G a->mc A mk ms G b
section
variable{F:Nat->Prop}{n0 mk ms:Nat}{G:Gd}{A:Nat->Prop}{a b w0:cJ}
def JC(F:dp)(n0 mk ms:Nat)(G:Gd)(A:dp):gH (MF F n0 mk ms G A):=
 ⟨λw=>⟨rfl,rfl,rfl,di _,di _,cL,cL⟩,λa b c h k=>⟨k.os.trans h.os,k.tape.trans h.tape,k.output.trans h.output,du h.size k.size,du h.drawn k.drawn,λx o d i f=>k.block x o d (h.block x o d i f) f,λg e=>k.m (λx d=>ew (g x d) h.size) (h.m g e)⟩,λw=>⟨rfl,rfl,rfl,di _,mG _,λ_ _ _ h _=>h,λ_ e=>e.ext (Ext.drew w)⟩⟩
def MR.mf(h:MR n0 mk ms G a b):MF F n0 mk ms G A a b:=⟨h.1.os,h.1.tape,h.1.output,h.1.size,h.1.drawn,λx o _ c d=>h.1.block x o c d,λe f=>h.2 A e f⟩
def MF.at_(h:MF F n0 mk ms G A a b){x:Nat}{c:Nat×Nat}(d:¬F x)(e:a.heap[x]? =some (.cells W T c)):b.heap[x]? =some (.cells W T c):=h.block x _ d e (.inr rfl)
def MF.cell(d:MF F n0 mk ms G A a b)(e:¬F h.block)(c:a.cell? h=some x):b.cell? h=some x:=by unfold World.cell? at c⊢;split at c;rename_i g t i f;rw[d.at_ e f];grind;grind
theorem MF.after(h:MF F n0 mk ms G A a b)(m:jL n0 w0 a)(e:∀x,F x->w0.heap.size<=x):jL n0 w0 b:=
 ⟨h.os.trans m.os,h.tape.trans m.tape,h.output.trans m.output,du m.size h.size,du m.drawn h.drawn,λx o d c=>h.block x o cL (m.block x o d c) c⟩
def MF.Qe(k:dz F a b)(c:∀x,F x->A x):MF F n0 mk ms G A a b:=⟨k.os,k.tape,k.output,k.size,k.drawn,λx o d e _=>k.fN e d,λ_ f=>f.keep k c⟩
end
def W9:∀s:Nat,s<32->(!(s.testBit 0||s.testBit 1||s.testBit 2||s.testBit 3||s.testBit 4))=decide (s=0):=cL
def M5.go2{o:Option (List cN)}(h:M5 A o x D w)(a:∀D,B D->A D\/w.heap.size<=D)(b:∀D o x,¬A D->w.cell? ⟨D,o,none⟩=some x->t.cell? ⟨D,o,none⟩=some x):M5 B o x D t:=h.go a b
def AT(a:s≠0):fT H s=((List.range (eh s).length).findSome? λm=>fE H (m+1) (eh s) []).map λb=>b.map (dG H):=by rw[fT,cS a]
def xF(s:Nat):(eh s).length<=5:=lZ s 5
theorem tA(c:H.doors.length<=5){most:Nat}:∀(doors b a:cN),(∀d∈doors,d<H.doors.length)->(∀s∈b,ky H s)->fE H most doors b=some a->(∀s∈a,ky H s)/\a.length<=b.length+doors.length
 |[],b,a,_,m,h=>by grind [Option.some.injEq,fE]
 |d::r,b,a,j,m,h=>by have e:=j d fW;have k:∀x∈r,x<H.doors.iw:=λx n=>j x (jD _ n);simp only[fE]at h;split at h;rename_i o p;obtain rfl:=dT h;have⟨i,q,l⟩:=Ow p;split at l;have q:i<b.iw:=cL;have f:ky H (b.getD i 0):=cL;have:=tA c r _ _ k (λs g=>by obtain g|rfl:=vR g;grind;exact f.oi e c) l;grind;grind;split at h;have:=tA c r _ _ k (λs g=>by grind [List.mem_singleton,ky.eB]) h;grind;grind
def AU{gp mk ms n0 s:Nat}(h:qE gp mk ms H w)(hA:∀b,A b->b<w.heap.size)(hp:mc A mk ms H w)(aR:n0<=mk)(hn:n0<=ms)(hs:ky H s):
 Calls V.prog 130 #[dj gp,.int .u8 s] w (fO λv y=>MA n0 mk ms H A w y/\∃u b,v=.tuple #[u,.bool b]/\M5 A (fT H s) u b y):=by
 have h5:=h.vL.many;refine jd Tryz.func130 Tryz.ntmps130 ?_;refine Qd<|cX (MT s w hs.1) ?_;rintro v w1 ⟨rfl,e1⟩;refine eU λw2 S e2 bn ax=>dI ax λZ k3 E=>?_;have E:Z.heap[S]? =some (.cells (rM s).toArray 217):=E.trans (dH (λa=>some (Obj.cells a 217)) (ef (pJ 217).toArray (rM s) rfl));have E3:Ext w Z:=(e1.trans e2).cT k3 (iI e1.size);have aq:∀{y},y.heap[S]? =some (.cells (rM s).toArray 217)->∀{k:nu},k (qq s) y->jO V.prog (Instr.loadAt 217 (dQ S)) y k:=λf k hk=>ez (vs:=rM s) (λj v hj=>by rw[dn];grind [cO]) hk;refine aq E (eC (.agg #[.bool false,.bool false,.bool false,.bool false,.bool false]) ?_);refine⟨_,Z,ZZ _ _ _ _ _ _ _ Z,?_⟩;rw[W9 s hs.1];refine⟨λh0=>?_,λh0=>?_⟩;have h0:s=0:=fx h0;subst h0;exact⟨_,rfl,E3.ma _ _ _ _ _,_,_,rfl,rfl,none,0,rfl,λk hk=>cL,di _⟩;have h0:s≠0:=ie h0;have h3:=h.ext E3;have aS:=hp.ext E3;have⟨aT,al,am⟩:=Lm Qa P8 (z:=.agg #[fo,.bool false]) dq aS.k hs.1;have aU:∃u b ok,aT=.tuple #[.agg #[u,.bool b],.bool ok]/\u.oneCell'=true/\((ok=true/\M5 A (fT H s) u b Z)\/ok=false):=by
  obtain⟨v,rfl,u,b,rfl,hw⟩|rfl:=al;refine⟨u,b,true,rfl,?_,.inl ⟨rfl,hw⟩⟩;cases ay:fT H s with
  |none=>rw[ay]at hw;rw[hw.1];rfl
  |some ls=>rw[ay]at hw;obtain⟨_,a,c,rfl,_⟩:=hw;rfl
  exact⟨_,_,false,rfl,rfl,.inr rfl⟩
 obtain⟨u,b,ok,rfl,aV,az⟩:=aU;have aW:sB [u,.bool b]=true:=by simp only[sB,aV];rfl
 have bo:S<Z.heap.size:=dA.lt_of_heap E;refine gQ 10 dD (ij (λx=>Z.heap.size<=x)) (λa b h=>h.keep _) ?_;have ah:∀{T},dz (λx=>Z.heap.size<=x) Z T->Ext Z T:=λe=>e.ext λb f g=>cM;refine .exact (.map (some mk)) (λT e4=>cP ((ah e4).cell h3.Ze) fL) (.exact (qq s) (λT e4=>aq ((ah e4).at_ E) fL) (.exact _ (λT e4=>⟨_,_,am T λo ho=>(ah e4).at_ ho,rfl,Ext.refl _⟩) ?_));refine .MI (λv T=>∃t,v=dQ t/\Z.heap.size<=t/\T.heap[t]? =some (.cells (pJ 220).toArray 220)) (λv a b ⟨t,h1,h2,h3⟩ e=>⟨t,h1,h2,e.at_ h3⟩) (λT e4=>eU λw5 t e5 ai f=>⟨⟨t,rfl,du e4.size ai,f⟩,e5⟩) ?_;refine .yw (λvs T=>∃t,vs=[dQ t]/\Z.heap.size<=t/\fF T t #[u,.bool b] 220) (λvs a b ⟨t,h1,h2,h3⟩ e=>⟨t,h1,h2,e.at_ h3⟩) (λT e4 v7 h7=>?_) ?_;obtain⟨t,rfl,g1,g2⟩:=h7;exact jw g2 (qJ rfl) (λw5 k5 aX=>⟨⟨t,rfl,g1,aX⟩,k5.trans (dz.refl (λ_=>False) w5) (λx _ g=>cL) λ_ _ h=>h.elim⟩) (gJ aW);intro T e4 v7 _ hJ;have⟨bp,aA,g1,g2⟩:=hJ;simp only[Cn,and_true]at aA;subst aA;have U:=ah e4;refine⟨λhk=>?_,λhk=>?_⟩;refine dE dD (dl (cO g2 rfl) (dl (cO g2 rfl) λw5 e5=>?_));have hw:=az.elim (λh=>h.2) λh=>cL;exact⟨_,rfl,((E3.trans U).trans e5).ma _ _ _ _ _,u,b,rfl,hw.go2 (λ_ h=>.inl h) λb o v f D=>(U.trans e5).cell D⟩;clear az al am;refine eU λw5 q e5 bq P=>?_;have P:fF w5 q #[fo,.bool false] 220:=P;have E5:Ext w w5:=(E3.trans U).trans e5;have br:=dA.lt_of_heap P;have s3:=E3.size;have bs:=U.size;have aB:=(U.trans e5).at_ E;have aY:mc (λx=>A x\/x=q) mk ms H w5:=((hp.ext (E3.trans U)).more (A':=λx=>A x\/x=q) λx g=>g.imp id λe=>cM).ext e5;refine cX (ww s w5 hs.1) ?_;rintro lv w6 ⟨e6,aZ⟩;obtain⟨la,lc,rfl,a0,bt⟩:=aZ.row;have bu:=xF s;refine dm<|VF [(0,dj gp),(6,dj S),(9,dj q)] (λy=>MA n0 mk ms H A w y/\y.heap[S]? =some (.cells (rM s).toArray 217)/\∃u b,fF y q #[u,.bool b] 220/\M5 A (fT H s) u b y) ?_ ?_;refine fu (n:=(eh s).length) (λk=>[(0,dj gp),(1,.int .u8 s),(6,dj S),(9,dj q),(36,i64 (eh s).length),(37,i64 k)]) (λk y=>jL n0 w y/\mc (λx=>A x\/x=q) mk ms H y/\y.heap[S]? =some (.cells (rM s).toArray 217)/\fF y q #[fo,.bool false] 220/\∀i,i<k->fE H (i+1) (eh s) []=none) ⟨by trivial,(E5.trans e6).iC n0,aY.ext e6,e6.at_ aB,e6.at_ P,λi hi=>cM⟩ ?_ ?_ ?_;rintro k y hk hJ;exact dN ⟨rfl,rfl,by trivial,hJ⟩;rintro k w7 hk ⟨m7,aa,B,r,N⟩;refine cX (ww s w7 hs.1) ?_;rintro bv w8 ⟨I,a1⟩;obtain⟨da,dc,rfl,ar,a2⟩:=a1.row;have m8:=m7.trans (I.iC n0);have J:=aa.ext I;refine cY ?_;have aC:∀b,(A b\/b=q)->b<w8.heap.size:=λb f=>f.elim (λf=>Cq (hA b f) m8.size) λe=>e▸dA.lt_of_heap (I.at_ r);have aD:=xE (most:=k+1) (h.iC m8) hn (eh s) [] (λx=>A x\/x=q) da dc fo w8 (jL.refl _ _) aC J ar a2 hs.2 (.inl ⟨rfl,rfl⟩) (λx g=>cL) cL;rw[show((k+1:Nat):Int)=(k:Int)+1 by simp]at aD;refine cX aD ?_;rintro v w9 ⟨Q,W⟩;cases ho:fE H (k+1) (eh s) []with
 |none=>
  rw[ho]at W;have W:v=.tuple #[fo,.bool false]:=W;subst W;refine eK (ko rfl (cY ⟨by trivial,m8.trans Q.1,Q.2 J,Q.1.at_ (I.at_ B),Q.1.at_ (I.at_ r),λi hi=>?_⟩));grind
 |some C=>
  rw[ho]at W;obtain⟨ga,gc,rfl,a3⟩:=W;refine eK (kZ rfl (dm ?_));have⟨aE,a4⟩:=tA h5 (eh s) [] C hs.2 (λx g=>cL) ho;have a4:C.length<=5:=cL;have s5:=e6.size;have s8:=m8.size;have s9:=Q.1.size;have bl:q<w8.heap.size:=dA.lt_of_heap (I.at_ r);have bm:S<w8.heap.size:=dA.lt_of_heap (I.at_ B);have aF:S≠q:=cL;have au:∀b,¬cW fo b:=λb f=>by have⟨_,_,f⟩:=f;grind
  refine jK (n:=C.length) (λj v=>[(0,dj gp),(6,dj S),(9,dj q),(51,.slice ga C.length gc),(52,i64 C.length),(53,i64 j)]) (λj v y=>jL n0 w y/\w9.heap.size<=y.heap.size/\mc (λx=>(A x\/x=q)\/cW v x) mk ms H y/\y.heap[S]? =some (.cells (rM s).toArray 217)/\fF y q #[v,.bool false] 220/\AS (λx=>(A x\/x=q)\/cW v x) w9.heap.size y v ((C.take j).map (dG H))/\∀k (h:k<C.length),∃b o,(w8.heap.size<=b/\b<w9.heap.size)/\ga=some (dt b o)/\y.cell? (dt b (o+k))=some (.int .u8 C[k])) (fo) ⟨by trivial,m8.trans Q.1,di _,(Q.2 J).more λb f=>f.elim .inl λf=>absurd f (au b),Q.1.at_ (I.at_ B),Q.1.at_ (I.at_ r),⟨[],dg.nil _ _ _ _,rfl,λk hk=>cL⟩,λi hi=>?_⟩ ?_ ?_ ?_;have⟨b,o,x0,x1,x2⟩:=a3 i hi;exact⟨b,o,⟨x0,oX x2⟩,x1,x2⟩;rintro j v K hj hJ;exact dN ⟨rfl,rfl,by trivial,hJ⟩;rintro j v K hj ⟨av,a5,L,O,G,F,ab⟩;have⟨gb,bw,bx,aG,a6⟩:=ab j hj;have g:=aE _ (eG hj);have an:∀b,cW v b->w9.heap.size<=b/\b<K.heap.size:=λb f=>by have⟨us,X,_⟩:=F;exact X.blk f
  have R:∀b,((A b\/b=q)\/cW v b)->b<K.heap.size:=λb f=>f.elim (λf=>cL) λf=>(an b f).2;subst aG;refine eX j hj (cP a6 ?_);refine gQ 6 (Yh n0 mk ms H) (JC (cW v) n0 mk ms H (λx=>(A x\/x=q)\/cW v x)) (λa b h=>h.mf) ?_;have aH:¬cW v q:=λf=>cL;have a7:¬cW v S:=λf=>cL;have aI:∀{d},MF (cW v) n0 mk ms H (λx=>(A x\/x=q)\/cW v x) K d->jL n0 w d:=λe=>e.after av λx g=>cL;refine .exact v (λd p=>cP (cO (p.at_ aH G) rfl) ⟨rfl,MR.refl _⟩)<| .rel (λu d=>ShR (λx=>(A x\/x=q)\/cW v x) H C[j] u d) (λu a b hu e=>hu.go (λ_ h=>.inl h) λb o x f D=>e.cell (λhf=>f (.inr hf)) D) (λd p=>?_) ?_;have ac:∀b,((A b\/b=q)\/cW v b)->b<d.heap.size:=λb f=>ew (R b f) p.size;exact cX (yB (h.iC (aI p)) ac (p.m R L) hn g.1 g.2) λu ad ⟨a8,a9⟩=>⟨a9 _ ac (p.m R L),a8⟩;refine .rel (λx d=>∃t u,x=eT t 1 1/\K.heap.size<=t/\d.heap[t]? =some (.cells [u].toArray 27)/\ShR (λx=>(A x\/x=q)\/cW v x) H C[j] u d) (λx a b ⟨t,u,h1,h2,h3,h4⟩ e=>⟨t,u,h1,h2,e.at_ (λhf=>cL) h3,h4.go (λ_ h=>.inl h) λb o x f D=>e.cell (λhf=>f (.inr hf)) D⟩) (λd p u hu=>?_) ?_;obtain⟨a,c,rfl,X,D⟩:=hu;refine er [.slice a (dG H C[j]).length c] 27 (λad t aJ ai f=>⟨⟨t,_,rfl,du p.size ai,f,a,c,rfl,X.c λb o x _ g=>aJ.cell g,D⟩,aJ.mr⟩) ?_;intro w;kernel_rfl;refine .spec (λv' d=>(∀x,((A x\/x=q)\/cW v' x)->x<d.heap.size)/\mc (λx=>(A x\/x=q)\/cW v' x) mk ms H d/\AS (λx=>(A x\/x=q)\/cW v' x) w9.heap.size d v' ((C.take j).map (dG H)++[dG H C[j]])) (λv' a b ⟨h1,h2,h3⟩ e=>⟨λx g=>ew (h1 x g) e.1.size,e.2 _ h1 h2,h3.iC e.1⟩) (λd p aK ba bb bz=>?_) ?_;obtain⟨t,u,rfl,ai,aL,ua,uc,rfl,bA,bB⟩:∃t u,aK=eT t 1 1/\K.heap.size<=t/\d.heap[t]? =some (.cells [u].toArray 27)/\ShR (λx=>(A x\/x=q)\/cW v x) H C[j] u d:=ba;have⟨us,X,aM,bc⟩:=F.iC p.1;have bC:((C.take j).map (dG H)).length<=5:=rp;have ae:=p.2 _ R L;refine hH Jw X cL aL cM (λv' ad g1 g2 g3=>⟨⟨λx g=>?_,?_,us++[.slice ua (dG H C[j]).length uc],fB g1,by simp[aM],λi hi=>?_⟩,MF.Qe g2 λx g=>.inr g⟩) rfl (by simp[sB,Value.oneCell']);obtain g|g:=g;have:=aC x g;have:=p.1.size;have:=g2.size;omega;exact(g1.blk g).2;exact((ae.more (A':=λx=>((A x\/x=q)\/cW v x)\/cW v' x) λx g=>g.elim .inl λg=>(g3 x g).elim (λh=>.inl (.inr h)) .inr).keep g2 λx g=>.inl (.inr g)).fewer λx g=>g.elim (λh=>.inl (.inl h)) .inr;have up:∀{a:dW} {l:cN},iJ (λx=>(A x\/x=q)\/cW v x) d a l->iJ (λx=>(A x\/x=q)\/cW v' x) ad a l:=λhn=>by have h1:iJ (λx=>((A x\/x=q)\/cW v x)\/cW v' x) ad _ _:=(hn.more (A':=λx=>((A x\/x=q)\/cW v x)\/cW v' x) λx g=>g.elim .inl λg=>(g3 x g).elim (λh=>.inl (.inr h)) .inr).c λb o x f D=>g2.fe D λhf=>f (.inl (.inr hf));exact h1.more λx g=>.inl (g.elim (λh=>.inl (.inl h)) .inr)
  obtain aN|bd:=gC i ((C.take j).map (dG H)).length;have⟨a,c,x1,x2,x3⟩:=bc i aN;rw[nm aN];exact⟨a,c,by rw[yd cM];grind,up x2,x3⟩;obtain rfl:i=((C.take j).map (dG H)).length:=by simp at hi bd⊢;omega
  refine⟨ua,uc,by rw[ye cM];simp[aM],?_,?_⟩;simp only[se (di _),lJ,nO];grind;simp only[se (di _),lJ,nO];grind;intro d p af be aK _ bb _;have⟨ac,ae,M⟩:(∀x,((A x\/x=q)\/cW af x)->x<d.heap.size)/\mc (λx=>(A x\/x=q)\/cW af x) mk ms H d/\AS (λx=>(A x\/x=q)\/cW af x) w9.heap.size d af ((C.take j).map (dG H)++[dG H C[j]]):=be;have aO:∃a l c,af=.slice a l c:=by have⟨us,X,_⟩:=M;obtain⟨a,c,rfl,_⟩:=X.len;grind
  obtain⟨va,vl,vc,rfl⟩:=aO;have bf:∀b,cW (.slice va vl vc) b->w9.heap.size<=b:=λb f=>by have⟨us,X,_⟩:=M;exact(X.blk f).1
  refine jw (p.at_ aH G) (qJ rfl) (λad Y aP=>cY ⟨.slice va vl vc,by trivial,(aI p).cT Y cM,Cq p.size Y.size,ae.keep Y (λx g=>.inl (.inr g)),Y.fN (p.at_ a7 O) aF,aP,?_,λi hi=>?_⟩) (gJ rfl);have ht:(C.take (j+1)).map (dG H)=(C.take j).map (dG H)++[dG H C[j]]:=by rw[iT hj,qH];rfl
  rw[ht];exact M.keep Y (λx g=>.inl (.inr g)) λx g bg=>cL;have⟨b,o,x0,x1,x2⟩:=ab i hi;exact⟨b,o,x0,x1,Y.fe (p.cell (λhf=>cL) x2) cL⟩;rintro v K ⟨av,a5,L,O,G,F,ab⟩;rw[j5]at F;refine jw G (qJ rfl) (λd aj ag=>?_) (gJ rfl);have ag:fF d q #[v,.bool true] 220:=ag;have an:∀b,cW v b->w9.heap.size<=b:=λb f=>by have⟨us,X,_⟩:=F;exact(X.blk f).1
  have M:=F.keep aj (λx g=>.inl (.inr g)) λx g bg=>cL;have⟨a,c,hv,hl,D⟩:=M.out (A':=A) (λb f=>.inl (.inl f)) λb f=>cL;refine⟨by trivial,⟨av.cT aj cM,λ_=>(L.keep aj λx g=>.inl (.inr g)).fewer λb f=>.inl (.inl f)⟩,aj.fN O aF,v,true,ag,?_⟩;rw[AT h0,l8 hk N ho];exact⟨rfl,a,c,hv,hl,D⟩
 rintro w7 ⟨m7,aa,B,r,N⟩;refine⟨by trivial,⟨m7,λ_=>aa.fewer λb f=>.inl f⟩,B,_,_,r,?_⟩;rw[AT h0,qv N];exact⟨rfl,rfl⟩;rintro l w7 aQ ⟨m7,B,u7,b7,r,bh⟩;have h7:=h.iC m7.1;have aa:=m7.2 hp;refine dX.jJ aQ (dE dD (dl h7.Ze (dx (qq s) (λw8 I=>aq (I.at_ B) fL) (dx (.agg #[u7,.bool b7]) (λw8 I=>ez (vs:=[u7,.bool b7]) (λj v hj=>by rw[dn];exact cO (I.at_ r) cL) fL) λw8 I=>?_))));have ao:M5 A (fT H s) u7 b7 w8:=bh.go2 (λ_ h=>.inl h) λb o v f D=>I.cell D;have J:=aa.ext I;refine wB Qa P8 J.k hs.1 aR (λw9 m=>⟨λs u hu=>hu.go (λ_ h=>.inl h) λb o v f D=>m.cell D,u7,b7,rfl,ao.go2 (λ_ h=>.inl h) λb o v f D=>m.cell D⟩) λw9 Q bi bj=>?_;have bk:mc A mk ms H w9:=⟨J.s.go (λs v X=>X.go (λ_ h=>.inl h) λb o v f D=>Q.cell D) λo ho=>by rw[bi ms (jg h.ne)];grind,bj,J.ak,J.asm⟩;have ap:=Q.at_ (I.at_ r);refine dE dD (dl (cO ap rfl) (dl (cO ap rfl) λK aw=>?_));exact⟨_,rfl,⟨m7.1.trans ((I.iC n0).trans (Q.trans (aw.iC n0))),λ_=>bk.ext aw⟩,u7,b7,rfl,ao.go2 (λ_ h=>.inl h) λb o v f D=>aw.cell (Q.cell D)⟩
structure Tq where
 door:Int
 shift:Int
 opened:Bool
def uP(t:Tq):dP:=[.int .i64 t.door,.int .i64 t.shift,.bool t.opened]
def kz(w:cJ)(a:dW)(l:List Tq):Prop:=∀k (h:k<l.length),∃b o,a=some ⟨b,o,none⟩/\∀j v,(uP l[k])[j]? =some v->w.cell? ⟨b,o+k*3+j,none⟩=some v
def kz.ext{l:List Tq}(h:kz w a l)(e:Ext w t):kz t a l:=λk c=>by have⟨b,o,d,f⟩:=h k c;exact⟨b,o,d,λj v g=>e.cell (f j v g)⟩
def qw:Sx:=⟨0,0,0,false,false,false,false,false⟩
def oZ(G:Gd):List Sx->Int->List Tq->Int×List Sx
 |b,_,[]=>(0,b)
 |b,a,t::r=>
  if kT t.door 0 ((G.doors.length:Int)-1)&&kT t.shift 0 (2*G.days-1)then
   if t.shift<a then(5,[])
   else if px (b.getD t.door.toNat qw) (t.shift.toNat/2)then(4,[])
   else if gY G.tries (b.getD t.door.toNat qw)then(12,[])
   else oZ G (b.set t.door.toNat (ik (b.getD t.door.toNat qw) t.shift.toNat t.opened)) t.shift r
  else(3,[])
def fA(G:Gd)(l:List Tq):Int×List Sx:=oZ G (List.replicate G.doors.length qw) 0 l
def vw(k:Nat)(x:Sx):Prop:=(0<=x.tries/\x.tries<=k)/\(0<=x.mornings/\x.mornings<=k)/\0<=x.evenings/\x.evenings<=k
def vw.UM{x:Sx}(h:vw k x)(s:Nat)(o:Bool):vw (k+1) (ik x s o):=by have⟨a,b,c⟩:=h;unfold ik vw;refine⟨by constructor<;>simp only<;>omega,?_,?_⟩;constructor<;>simp only<;>split<;>omega;simp only;split<;>omega
def vw.up{x:Sx}(h:vw k x):vw (k+1) x:=by have⟨a,b,c⟩:=h;refine⟨⟨a.1,cM⟩,⟨b.1,cM⟩,c.1,cM⟩
def Qf(f:w.heap[m]? =some (.cells (madeCells (pJ 166).toArray (k*8)) 166)):oV m (List.replicate k qw) w:=by
 refine⟨_,f,by simp[madeCells],λa g j v b=>?_⟩;have c:j<8:=(nk.1 b).1;have h:a<k:=fB g;have d:a*8+j<k*8:=by have:=sK 8 (show a+1<=k by omega);omega
 have i:(pJ 166).toArray.size=8:=rfl;have l:(a*8+j)%8=j:=cM;have e:(madeCells (pJ 166).toArray (k*8))[a*8+j]? =(pJ 166)[j]? :=by
  unfold madeCells;rw[vN,nh (fB d)];simp only[Array.getElem_range,mg,i,l];match j,c with
  |0,_=>rfl
  |1,_=>rfl
  |2,_=>rfl
  |3,_=>rfl
  |4,_=>rfl
  |5,_=>rfl
  |6,_=>rfl
  |7,_=>rfl
 rw[e];simp only[List.getElem_replicate]at b;exact b
def Xa(G:Gd)(l:List Tq)(b:Nat)(v:cK)(w:cJ):Prop:=
 ((fA G l).1≠0/\v=.tuple #[.slice none 0 0,.int .i64 (fA G l).1])\/
 ((fA G l).1=0/\(fA G l).2.length=G.doors.length/\(∀x∈(fA G l).2,vw l.length x)/\∃a,b<=a/\v=.tuple #[.slice (some ⟨a,0,none⟩) G.doors.length G.doors.length,.int .i64 0]/\oV a (fA G l).2 w)
def Nb(G:Gd)(a:List Sx)(b:Int)(l:List Tq)(k:Nat)(c:k<l.length):oZ G a b (l.drop k)=(if kT l[k].door 0 ((G.doors.length:Int)-1)&&kT l[k].shift 0 (2*G.days-1)then
 if l[k].shift<b then(5,[])
 else if px (a.getD l[k].door.toNat qw) (l[k].shift.toNat/2)then(4,[])
 else if gY G.tries (a.getD l[k].door.toNat qw)then(12,[])
 else oZ G (a.set l[k].door.toNat (ik (a.getD l[k].door.toNat qw) l[k].shift.toNat l[k].opened)) l[k].shift (l.drop (k+1))
 else(3,[])):=by
 rw[nN c];rfl
def VG{gp mk ms:Nat}(h:qE gp mk ms H w){l:List Tq}{lc:Nat}(hr:kz w a l)(aq:l.length<=100000):
 Calls V.prog 137 #[dj gp,.slice a l.length lc] w (fO λv m=>Ext w m/\Xa H l w.heap.size v m):=by
 have N:=h.vL;have ab:=N.days;have h5:=N.many;have⟨da,dc,h6,ar⟩:=h.c6;refine jd Tryz.func137 Tryz.ntmps137 ?_;refine cP h6 (dm (EG PV (di _) cM λw1 r e1 ac O=>?_));have ad:=Qf O
 refine dm (jK (n:=l.length) (λk (E:List Sx×Int)=>[(0,dj gp),(6,eT r H.doors.length H.doors.length),(7,i64 E.2),(17,.slice a l.length lc),(18,i64 l.length),(19,i64 k)])
  (λk E m=>Ext w m/\oV r E.1 m/\E.1.length=H.doors.length/\(∀x∈E.1,vw k x)/\fA H l=oZ H E.1 E.2 (l.drop k)) (List.replicate H.doors.length qw,0) ⟨by trivial,e1,ad,dq,λx P=>?_,rfl⟩ ?_ ?_ ?_)
 rw[List.eq_of_mem_replicate P];simp[vw,qw];rintro k E m hk Q;exact dN ⟨rfl,rfl,by trivial,Q⟩;rintro k ⟨g,bf⟩ w2 hk ⟨e2,t,R,C,f⟩;simp only at t R C f⊢;obtain⟨b,o,rfl,hc⟩:=(hr.ext e2) k hk;rw[Nb H g bf l k hk]at f;refine fH k 3 hk (ez (vs:=uP l[k]) hc (eU λw3 tb e3 ae S=>dI S λw4 k4 p=>?_));have p:w4.heap[tb]? =some (.cells (uP l[k]).toArray 84):=p;have au:r<w2.heap.size:=by have⟨_,y1,_⟩:=t.out;grind
 have e4:Ext w2 w4:=e3.cT k4 ae;have E4:=e2.trans e4;have T:=t.ext e4;have h4:=h.ext E4;have ne:¬(tb=r):=cM;have⟨av,aw,af,_⟩:=h4.c6;have z:∀(m:cJ) (c:Int),Ext w4 m->fA H l=(c,[])->c≠0->∃v,Ending.returned (one [fo,i64 c])=.returned v/\Ext w m/\Xa H l w.heap.size v m:=λm c e hc h0=>⟨_,rfl,E4.trans e,.inl ⟨cL,by rw[hc];rfl⟩⟩;refine dE dD (dl (cO p rfl) (dl af (XJ _ (λw e=>dm fL) (vo (iY dD _ (λw e=>fw _ _ _ w) (mQ λw5 U=>⟨λM=>ko M ?_,λM=>?_⟩))))));exact z w5 3 U (by rw[f,cS];simp at M;simp[M]) cM;have M:kT l[k].door 0 ((H.doors.length:Int)-1)=true:=cL;refine dE dD (dl (cO (U.at_ p) rfl) (iY dD _ (λw e=>last_at (h4.ext (U.trans e))) (iY dD _ (λw e=>fw _ _ _ w) (mQ λw6 e6=>⟨λK=>?_,λK=>?_⟩))));exact z w6 3 (U.trans e6) cL dq;have K:kT l[k].shift 0 (2*H.days-1)=true:=cL;rw[cV cL]at f;simp only[kT,eW,kM]at M K;have⟨d,hd⟩:∃d:Nat,l[k].door=(d:Int):=⟨l[k].door.toNat,cM⟩;have⟨s,hs⟩:∃s:Nat,l[k].shift=(s:Int):=⟨l[k].shift.toNat,cM⟩;have D:d<g.length:=cM;have ag:s<6:=cM;have A:=U.trans e6;have y:w6.heap[tb]? =some (.cells #[i64 d,i64 s,.bool l[k].opened] 84):=by rw[A.at_ p,uP,hd,hs]
 have F:=T.ext A;have ah:g.getD d qw=g[d]:=getD_eq D;rw[hd,hs]at f;simp only[ow,ah]at f;refine cP (cO y rfl) (dN ⟨λai=>?_,λaj=>?_⟩);exact z w6 5 A (by rw[f,cV (fx ai)]) cM;rw[cS (ie aj)]at f;have W:∀{m},oV r g m->m.cell? (dt r (0+d*8+4+s/2))=some (.bool (px g[d] (s/2))):=λX=>by have⟨cs,y1,y2,y3⟩:=X.out;refine cO y1 ?_;have ak:s/2=0\/s/2=1\/s/2=2:=cM;rw[show 0+d*8+4+s/2=d*8+(4+s/2) by omega];refine y3 d D (4+s/2) _ ?_;obtain e|e|e:=ak<;>rw[e]<;>rfl
 refine dE dD (dl (cO y rfl) (dl (cO y rfl) (dx (i64 ((s/2:Nat):Int)) (λw1 _=>lQ (n:=2) dq cM fL) (jx d 8 cM (dx (oz r (0+d*8+4+s/2)) (λw1 _=>zC 3 cM fL) (dl (W F) λw7 e7=>⟨λal=>?_,λal=>?_⟩))))));exact z w7 4 (A.trans e7) cL dq;rw[cS cL]at f;have L:=A.trans e7;have G:=F.ext e7;have I:=e7.at_ y;have Y:∀{m},oV r g m->∀j v,(nI g[d])[j]? =some v->m.cell? (dt r (0+d*8+j))=some v:=λX j v hj=>by have⟨cs,y1,y2,y3⟩:=X.out;exact cO y1 cL
 refine cP (cO I rfl) (fH d 8 cM (ez (vs:=nI g[d]) (Y G) (ep (zB (h4.ext L) g[d]) λw8 e8=>⟨λam=>?_,λam=>?_⟩)));exact z w8 12 (L.trans e8) cL dq;rw[cS cL]at f;have an:=L.trans e8;have J:=G.ext e8;have Z:=e8.at_ I;have aa:=C _ (eG D);have ao:(0<=g[d].tries/\g[d].tries<=1000000)/\(0<=g[d].mornings/\g[d].mornings<=1000000)/\0<=g[d].evenings/\g[d].evenings<=1000000:=by have⟨z1,z2,z3⟩:=aa;omega
 refine gQ 16 dD (ij (λx=>x=r)) (λax b h=>h.keep _) ?_;have B:∀{q},dz (λx=>x=r) w8 q->q.heap[tb]? =some (.cells #[i64 d,i64 s,.bool l[k].opened] 84):=λe=>e.fN Z ne;refine .exact (i64 d) (λq i=>cP (cO (B i) rfl) fL) (.exact (i64 d) (λq i=>cP (cO (B i) rfl) fL) ?_);refine .exact _ (λq i=>fH d 8 cM fL) (.Et rfl (.agg (nI g[d]).toArray) (λq i=>ez (vs:=nI g[d]) (Y (J.ext i)) fL) ?_);refine .exact (i64 s) (λq i=>cP (cO (B i) rfl) fL) (.exact (.bool l[k].opened) (λq i=>cP (cO (B i) rfl) fL) ?_);refine .exact (.agg (nI (ik g[d] s l[k].opened)).toArray) (λq i=>ep (CW g[d] s l[k].opened q ag ao) cL)<| .exact (i64 s) (λq i=>cP (cO (B i) rfl) fL) (.exact _ (λq i=>fH d 8 cM fL) ?_);refine .yw (λ_ q=>oV r (g.set d (ik g[d] s l[k].opened)) q) (λ_ ax b X e=>X.ext e) (λq i=>?_) ?_;refine P5 (J.ext i) d 0 D dq (ik g[d] s l[k].opened) (qJ rfl) (λj u hj=>?_) cL;have ap:j<8:=(nk.1 hj).1;rw[cV ⟨gh _,ap⟩];exact hj;intro q i Q;have Q:oV r (g.set d (ik g[d] s l[k].opened)) q:=Q;refine cY ⟨(g.set d (ik g[d] s l[k].opened),(s:Int)),by trivial,?_,Q,cL,λx P=>?_,f⟩;exact(E4.trans an).cT i ac;obtain P|rfl:=vR P;exact(C x P).up;exact aa.UM s _;rintro⟨g,bf⟩ w2 ⟨e2,t,R,C,f⟩;have f:fA H l=(0,g):=by grind [oZ]
 refine⟨_,rfl,e2,.inr ⟨cL,cL,cL,r,?_,rfl,cL⟩⟩;grind
def kH(G:Gd)(l:List Tq):Int:=if eo G=0 then(fA G l).1 else eo G
def dV(l:List Tq):Int:=match l.getLast? with
 |some t=>t.shift
 |none=>0
theorem Lu:∀{l:List Tq} {c:List Sx} {b:Int},(oZ H c b l).1=0->∀t∈l,(0<=t.door/\t.door<H.doors.length)/\0<=t.shift/\t.shift<=2*H.days-1
 |t::r,c,b,h,x,a=>by simp only[oZ]at h;split at h;rename_i d;simp only[kT,eW,kM]at d;split at h;simp at h;split at h;simp at h;split at h;simp at h;obtain rfl|a:=fi.1 a;omega;exact Lu h x a;simp at h
def Nc(a:H.Ok){l:List Tq}(h:(fA H l).1=0):0<=dV l/\dV l<=5:=by unfold dV;split;rename_i t b;have:=Lu h t (List.mem_of_getLast? b);have:=a.days;omega;omega
structure Hl(w:cJ)(wp gp mk ms:Nat)(G:Gd)(xs:List Sx)(bf:Int)(w':cJ):Prop where
 k:mE wp gp mk ms G xs bf w'
 g:zj w gp mk ms G w'
 lo:w.heap.size<=wp
theorem Hl.ext{wp gp mk ms:Nat}{a:List Sx}(h:Hl w wp gp mk ms H a I t)(b:Ext t e):Hl w wp gp mk ms H a I e:=⟨h.k.ext b,h.g.ext b,h.lo⟩
theorem Hl.low{wp gp mk ms:Nat}{a:List Sx}(h:Hl w wp gp mk ms H a I e)(b:Ext t w):Hl t wp gp mk ms H a I e:=⟨h.k,h.g.low b,du b.size h.lo⟩
def Qg(w:cJ)(G:Gd)(l:List Tq)(v:cK)(b:cJ):Prop:=
 (kH G l≠0/\v=.tuple #[.pointer none,.int .i64 (kH G l)])\/(kH G l=0/\∃a c mk d,v=.tuple #[dj a,.int .i64 0]/\Hl w a c mk d G (fA G l).2 (dV l) b/\∀x∈(fA G l).2,vw l.length x)
def um{dc:Nat}(W:gZ w a H.doors)(p:H.doors.length<=100000){l:List Tq}{P:dW}(Q:kz w P l)(D:l.length<=100000):
 Calls V.prog 125 #[gV H a dc,.slice P l.length m] w (fO λv R=>Ext w R/\Qg w H l v R):=by
 refine jd Tryz.func125 Tryz.ntmps125 ?_;refine eJ λw1 gb e X Y=>eF Y (cX (CX (dc:=dc) (W.ext e) p) ?_);rintro v Z ⟨q,⟨i,rfl⟩|⟨i,r,mk,S,rfl,C⟩⟩;exact gP (ko (fB i) ⟨_,rfl,e.trans q,.inl ⟨by rw[kH,cS i];exact i,by rw[kH,cS i];rfl⟩⟩);have f:kH H l=(fA H l).1:=by rw[kH,cV i]
 refine gP (kZ dq (cX (VG C.g (Q.ext (e.trans q)) D) ?_));rintro v w3 ⟨s,⟨t,rfl⟩|⟨t,u,E,j,aa,rfl,T⟩⟩;exact gP (ko (fB t) ⟨_,rfl,(e.trans q).trans s,.inl ⟨by rw[f];exact t,by rw[f];rfl⟩⟩);have F:=(e.trans q).trans s;have s1:=e.size;have s2:=q.size;have s3:=s.size;refine gP (kZ dq (eC (.agg #[dj r,eT j H.doors.length H.doors.length,i64 0]) (eJ λU x k ab d=>?_)));have d:U.heap[x]? =some (.cells #[dj r,eT j H.doors.length H.doors.length,i64 0] 141):=d;have G:=(C.ext (s.trans k)).low e;have y:=T.ext k;have I:=Nc C.g.vL t;have ac:j<w3.heap.size:=by have⟨_,y1,_⟩:=T.out;exact dA.lt_of_heap y1
 have z:∀c,Ext w c->zj w r mk S H c->oV j (fA H l).2 c->c.heap[x]? =some (.cells #[dj r,eT j H.doors.length H.doors.length,i64 (dV l)] 141)->∃v,Ending.returned (one [dj x,i64 0])=.returned v/\Ext w c/\Qg w H l v c:=λc J A K h=>
  ⟨_,rfl,J,.inr ⟨by rw[f];exact t,x,r,mk,S,rfl,⟨⟨A.g,u,I,_,H.doors.length,cO h rfl,by rw[u];exact cO h rfl,cO h rfl,K.row⟩,A,cM⟩,E⟩⟩
 refine dm (mI ⟨λn=>?_,λn=>?_⟩);have n:0<l.length:=fB n;have L:l.length-1<l.length:=cM;obtain⟨b,o,rfl,hc⟩:=(Q.ext (F.trans k)) (l.length-1) L;have M:dV l=l[l.length-1].shift:=by unfold dV;rw[List.getLast?_eq_getElem?,ft L]
 refine dm (fI (fH (l.length-1) 3 L (cP (hc 1 _ rfl) (dI d λc N O=>?_)) cM));have B:¬(j=x):=cM;have J:Ext w c:=(F.trans k).cT N cM;have e5:Ext Z c:=(s.trans k).cT N cM;exact z c J ((C.ext e5).low e) (y.keep N B) (by rw[O,M];rfl);have n:l=[]:=oy (fB n);subst n;exact z U (F.trans k) G y d
structure Du where
 tries:Int
 morning:Bool
 evening:Bool
def IB(b:Bool):Int:=if b then 1 else 0
def sD(G:Gd)(x:Sx):Bool:=decide (2<=G.tries)&&decide (x.mornings=0)
def uE(G:Gd)(x:Sx):Bool:=decide (2<=G.tries)&&decide (x.evenings=0)
def EM(G:Gd)(x:Sx):Int:=max (G.tries-x.tries) 0
def ja(G:Gd)(x:Sx):Du:=⟨max (EM G x) (IB (sD G x)+IB (uE G x)),sD G x,uE G x⟩
def xG(d:Nat)(u:Du):dP:=[.int .i64 d,.int .i64 u.tries,.bool u.morning,.bool u.evening]
def lq(m e:Bool)(k:Nat):Int:=if k=0 then 0 else if k=1 then IB m else IB m+IB e
def VH{wp gp mk ms:Nat}{c:List Sx}(h:mE wp gp mk ms H c I w)(hd:d<c.length)(ad:vw 100000 c[d]):
 Calls V.prog 133 #[dj wp,.int .i64 d] w (fO λv u=>v=.agg (xG d (ja H c[d])).toArray/\Ext w u):=by
 have⟨sa,sc,h1,t,h3,h4⟩:=h.at_;have Q:=h.g.vL;have ht:=Q.tries;have ao:=Q.days;obtain⟨b,o,rfl,hc⟩:=h4 d hd;refine jd Tryz.func133 Tryz.ntmps133 ?_;refine eU λw1 E e1 R S=>cP (e1.cell t) (fH d 8 hd (ez (vs:=nI c[d]) (λj v A=>e1.cell (hc j v A)) (eU λw2 xb e2 T i=>dI i λU k3 W=>?_)));have i:U.heap[xb]? =some (.cells (nI c[d]).toArray 166):=W.trans (dH (λa=>some (Obj.cells a 166)) (ef (pJ 166).toArray (nI c[d]) rfl));clear W;have E3:Ext w U:=(e1.trans e2).cT k3 (iI e1.size);have C:U.heap[E]? =some (.cells (pJ 101).toArray 101):=(e2.cT k3 T).at_ S;have ae:=h.g.ext E3;have af:=E3.cell h1;have⟨y1,y2,y3⟩:=ad;refine dE dD (dl af (dl ae.c5 (dl (cO i rfl) (vo (XJ (i64 (EM H c[d])) (λX _=>rJ fL) (dx (.agg #[i64 d,i64 (EM H c[d]),.bool false,.bool false]) (λX _=>eC _ fL) ?_))))));refine .rel (λv X=>∃p,v=dQ p/\U.heap.size<=p/\X.heap[p]? =some (.cells (pJ 101).toArray 101)) (λv a b ⟨nb,h1,t,h3⟩ e=>⟨nb,h1,t,e.at_ h3⟩) (λX e4=>eU λY nb e5 ag Z=>⟨⟨nb,rfl,du e4.size ag,Z⟩,e5⟩) ?_;rintro X e4 v ⟨p,rfl,ah,aa⟩;refine dI aa λY k5 ab=>?_;have D:Y.heap[p]? =some (.cells #[i64 d,i64 (EM H c[d]),.bool false,.bool false] 101):=ab;clear ab;have F:Ext U Y:=e4.cT k5 ah;have E5:=E3.trans F;have ai:=h.g.ext E5;have aj:=E5.cell h1;have ak:=F.at_ i;have ac:=F.at_ C;have ap:=dA.lt_of_heap i;have aq:=dA.lt_of_heap C;have s3:=E3.size;refine cP aj (cP ai.c5 (uN ⟨λt=>?_,λt=>?_⟩));have t:2<=H.tries:=fx t;have hM:sD H c[d]=decide (c[d].mornings=0):=by simp[sD,t]
 have hE:uE H c[d]=decide (c[d].evenings=0):=by simp[uE,t]
 refine gQ 7 dD (ij (λx=>x=p)) (λa b h=>h.keep _) ?_;have xc:∀{z},dz (λx=>x=p) Y z->z.heap[xb]? =some (.cells (nI c[d]).toArray 166):=λe=>e.fN ak cM;refine .exact _ (λz G=>cP (cO (xc G) rfl) fL) (.exact _ (λz _=>eZ fL) (.exact _ (λz G=>cP (cO (xc G) rfl) fL) (.exact _ (λz _=>eZ fL) ?_)));refine .yw (λ_ z=>z.heap[p]? =some (.cells #[i64 d,i64 (EM H c[d]),.bool (sD H c[d]),.bool false] 101)) (λ_ a b h e=>e.at_ h) (λz G=>dI (G.at_ D) λJ k7 B=>⟨by rw[B,hM];rfl,k7⟩) ?_;intro z G hJ;have hJ:z.heap[p]? =some (.cells #[i64 d,i64 (EM H c[d]),.bool (sD H c[d]),.bool false] 101):=hJ;refine dI hJ λJ k7 B=>?_;have f:J.heap[p]? =some (.cells #[i64 d,i64 (EM H c[d]),.bool (sD H c[d]),.bool (uE H c[d])] 101):=by rw[B,hE];rfl
 have kk:=G.trans k7 (λ_ _ h=>h) λ_ _ h=>h;have E6:Ext w J:=E5.cT kk cM;have K:=kk.fN ac cM;clear B hJ;refine cP (cO f rfl) (cP (cO f rfl) (er [.bool (sD H c[d]),.bool (uE H c[d])] 4 (λJ Z L al l=>dm (fu (n:=2) (λk=>[(4,dj E),(6,dj p),(7,i64 (lq (sD H c[d]) (uE H c[d]) k)),(52,eT Z 2 2),(53,i64 2),(54,i64 k)]) (λ_ u=>u=J) ⟨by trivial,rfl⟩ ?_ ?_ ?_))));rintro k u hk rfl;exact dN ⟨rfl,rfl,by trivial,rfl⟩;rintro k u hk rfl;have M:∀(x y:Bool) (k:Nat),0<=lq x y k/\lq x y k<=2:=λx y k=>by cases x<;>cases y<;>(unfold lq IB;split<;>(try split)<;>decide)
 have am:=M (sD H c[d]) (uE H c[d]) k;obtain rfl|rfl:k=0\/k=1:=cM;refine eX 0 cM (cP (cO l rfl) ⟨λq=>cY (cY ⟨⟨rfl,rfl,?_,rfl,rfl,rfl,trivial⟩,rfl⟩),λq=>cY ⟨⟨rfl,rfl,?_,rfl,rfl,rfl,trivial⟩,rfl⟩⟩);show some _=some _;simp[lq,IB,q];show some _=some _;simp[lq,IB,q];refine eX 1 cM (cP (cO l rfl) ⟨λq=>cY (cY ⟨⟨rfl,rfl,?_,rfl,rfl,rfl,trivial⟩,rfl⟩),λq=>cY ⟨⟨rfl,rfl,?_,rfl,rfl,rfl,trivial⟩,rfl⟩⟩);show some _=some _;simp[lq,IB,q];show some _=some _;simp[lq,IB,q];rintro u rfl;have m:=L.at_ f;have N:=L.at_ K;refine cP (cO m rfl) (rJ (dI m λw8 k8 r=>?_));have r:w8.heap[p]? =some (.cells (xG d (ja H c[d])).toArray 101):=r;have an:=dA.lt_of_heap f;have O:=k8.fN N cM;refine ez (vs:=xG d (ja H c[d])) (λj v A=>by rw[dn];exact cO r (fB A)) (dI O λP k9 s=>?_);have s:P.heap[E]? =some (.cells (xG d (ja H c[d])).toArray 101):=s.trans (dH (λa=>some (Obj.cells a 101)) (ef (pJ 101).toArray (xG d (ja H c[d])) rfl));have hl:Sem.run V.prog (loadVar 101 (dt E 0)) P=.ok (.agg (xG d (ja H c[d])).toArray) P:=jy (xG d (ja H c[d])) s λj v A=>by rw[dn];simpa using A
 exact⟨_,hl,_,rfl,rfl,((E6.trans L).cT k8 cM).cT k9 R⟩;have t:¬2<=H.tries:=ie t;have hM:sD H c[d]=false:=by simp[sD,t]
 have hE:uE H c[d]=false:=by simp[uE,t]
 have f:Y.heap[p]? =some (.cells #[i64 d,i64 (EM H c[d]),.bool (sD H c[d]),.bool (uE H c[d])] 101):=by rw[D,hM,hE]
 have E6:=E5;have K:=ac;refine cP (cO f rfl) (cP (cO f rfl) (er [.bool (sD H c[d]),.bool (uE H c[d])] 4 (λJ Z L al l=>dm (fu (n:=2) (λk=>[(4,dj E),(6,dj p),(7,i64 (lq (sD H c[d]) (uE H c[d]) k)),(52,eT Z 2 2),(53,i64 2),(54,i64 k)]) (λ_ u=>u=J) ⟨by trivial,rfl⟩ ?_ ?_ ?_))));rintro k u hk rfl;exact dN ⟨rfl,rfl,by trivial,rfl⟩;rintro k u hk rfl;have M:∀(x y:Bool) (k:Nat),0<=lq x y k/\lq x y k<=2:=λx y k=>by cases x<;>cases y<;>(unfold lq IB;split<;>(try split)<;>decide)
 have am:=M (sD H c[d]) (uE H c[d]) k;obtain rfl|rfl:k=0\/k=1:=cM;refine eX 0 cM (cP (cO l rfl) ⟨λq=>cY (cY ⟨⟨rfl,rfl,?_,rfl,rfl,rfl,trivial⟩,rfl⟩),λq=>cY ⟨⟨rfl,rfl,?_,rfl,rfl,rfl,trivial⟩,rfl⟩⟩);show some _=some _;simp[lq,IB,q];show some _=some _;simp[lq,IB,q];refine eX 1 cM (cP (cO l rfl) ⟨λq=>cY (cY ⟨⟨rfl,rfl,?_,rfl,rfl,rfl,trivial⟩,rfl⟩),λq=>cY ⟨⟨rfl,rfl,?_,rfl,rfl,rfl,trivial⟩,rfl⟩⟩);show some _=some _;simp[lq,IB,q];show some _=some _;simp[lq,IB,q];rintro u rfl;have m:=L.at_ f;have N:=L.at_ K;refine cP (cO m rfl) (rJ (dI m λw8 k8 r=>?_));have r:w8.heap[p]? =some (.cells (xG d (ja H c[d])).toArray 101):=r;have an:=dA.lt_of_heap f;have O:=k8.fN N cM;refine ez (vs:=xG d (ja H c[d])) (λj v A=>by rw[dn];exact cO r (fB A)) (dI O λP k9 s=>?_);have s:P.heap[E]? =some (.cells (xG d (ja H c[d])).toArray 101):=s.trans (dH (λa=>some (Obj.cells a 101)) (ef (pJ 101).toArray (xG d (ja H c[d])) rfl));have hl:Sem.run V.prog (loadVar 101 (dt E 0)) P=.ok (.agg (xG d (ja H c[d])).toArray) P:=jy (xG d (ja H c[d])) s λj v A=>by rw[dn];simpa using A
 exact⟨_,hl,_,rfl,rfl,((E6.trans L).cT k8 cM).cT k9 R⟩
def qW(x:Sx)(l:cN)(s:Nat):Bool:=px x (s/2)||(decide (0<l.length)&&decide (l.getLast?.getD 0/2=s/2))
def xH(u:Du)(l:cN):Bool:=(l.any (λs=>decide (s%2=0))||!u.morning)&&(l.any (λs=>decide (s%2=1))||!u.evening)
def lB(L:Nat)(x:Sx)(u:Du):Nat->cN->Nat->List cN
 |0,_,_=>[]
 |f+1,l,a=>if(l.length:Int)=u.tries then(if xH u l then [l]else [])else(List.range (L-a)).flatMap λi=>if qW x l (a+i)then []else lB L x u f (l++[a+i]) (a+i+1)
def fl(G:Gd):Nat:=(2*G.days).toNat
def jz(G:Gd)(x:Sx)(a:Nat):List cN:=lB (fl G) x (ja G x) (fl G+1) [] a
def pQ(L:Nat)(x:Sx)(u:Du)(f:Nat)(l:cN)(a k:Nat):List cN:=(List.range k).flatMap λi=>if qW x l (a+i)then []else lB L x u f (l++[a+i]) (a+i+1)
theorem rQ(L:Nat)(x:Sx)(u:Du)(f:Nat)(l:cN)(a k:Nat):pQ L x u f l a (k+1)=pQ L x u f l a k++if qW x l (a+k)then []else lB L x u f (l++[a+k]) (a+k+1):=by unfold pQ;rw[nq,List.flatMap_append];simp
def GL(w:cJ)(v:cK)(l:cN):Prop:=(l=[]/\v=.slice none 0 0)\/∃b c a,v=.slice (some ⟨b,0,none⟩) l.length c/\l.length<=c/\w.heap[b]? =some (.cells a 3)/\a.size=c/\∀k (h:k<l.length),a[k]? =some (.int .i64 l[k])
def GL.row(h:GL w x l):∃a c,x=.slice a l.length c/\fJ w a l/\l.length<=c:=by obtain⟨rfl,rfl⟩|⟨b,c,g,rfl,e,f,i,j⟩:=h;exact⟨none,0,rfl,λk d=>by simp at d,di _⟩;exact⟨_,c,rfl,λk d=>⟨b,0,rfl,cO f cL⟩,e⟩
def GL.keep(h:GL w x l)(k:dz A w t)(d:∀b,cW x b->¬A b):GL t x l:=by obtain h|⟨b,c,e,a,f,g,i⟩:=h;exact .inl h;exact .inr ⟨b,c,e,a,f,k.fN g (d b ⟨_,_,a⟩),i⟩
theorem GL.blk(h:GL w x l)(a:cW x m):m<w.heap.size:=by have⟨_,_,a⟩:=a;obtain⟨_,rfl⟩|⟨b,c,d,rfl,e,f,_⟩:=h;grind;grind
structure EA(lv:cK)(o o':Obj)(a b:cJ):Prop where
 k:dz (cW lv) a b
 n:∀x ox,cW lv x->a.heap[x]? =some ox->b.heap[x]? =some ox\/(ox=o/\b.heap[x]? =some o')
def VI(g:cK)(o i:Obj):gH (EA g o i):=by refine⟨λw=>⟨dz.refl _ w,cL⟩,λa b c h k=>⟨h.k.trans k.k cL cL,λx d e j=>?_⟩,λw=>⟨(Ext.drew w).keep _,λx d _ h=>.inl h⟩⟩;obtain f|⟨f,l⟩:=h.n x d e j;exact k.n x d e f;obtain m|⟨m,p⟩:=k.n x _ e l;grind;grind
def Ext.ea(h:Ext w t)(a:cK)(o b:Obj):EA a o b w t:=⟨h.keep _,λx d _ c=>.inl (h.at_ c)⟩
def GM(a:Nat)(d:cK)(e:Obj)(l:cN)(v:cK)(w:cJ):Prop:=
 (∃b c,cW d b/\v=.slice (some ⟨b,0,none⟩) l.length c/\w.heap[b]? =some e/\GL w v l)\/(∃b c,a<=b/\v=.slice (some ⟨b,0,none⟩) l.length c/\GL w v l)
def zE{M:nu}{U:Array Bool}{o:Obj}{w0:cJ}(W:GL w x l)(X:∀b,cW x b->w.heap[b]? =some o)(N:m<=w.heap.size)(O:l.length<=1000)(p:w.heap[k]? =some (.cells [Value.int .i64 s].toArray 3))(G:Obj)(H:∀b r,cW x b->o=.cells r 3->G=.cells (r.setIfInBounds l.length (.int .i64 s)) 3) (I:∀v n,GM m x G (l++[s]) v n->EA x o G w n->M v n):zd V.prog (builtin .append #[27,27] T U #[x,.slice (some ⟨k,0,none⟩) 1 i]) w M:=by
 have Y:=oR;have⟨Z,Q,z,h2,h3,h4,E,h6,h7⟩:=Y;have E:Q.size=1:=E;obtain⟨rfl,rfl⟩|⟨b,g,r,rfl,aa,F,J,d⟩:=W;refine hH oR (dg.nil m 3 [i64 0] w) N p cM λv' n g1 g2 g3=>?_;have K:∀t,¬cW fo t:=λt a=>by have⟨_,_,a⟩:=a;cases a
 refine I v' n (.inr ?_) ⟨g2,λt ox a _=>absurd a (K t)⟩;obtain⟨h0,⟨ab,_⟩|⟨b,R,r,q1,rfl,q3,q4,q5,q6,q7,q8⟩⟩:=g1;omega;refine⟨b,R,q1,rfl,.inr ⟨b,R,r,rfl,fB q5,q3,fB q4,λj c=>?_⟩⟩;obtain rfl:j=0:=by simp at c;omega
 rw[q7 0 dq];rfl;have y:=X b ⟨_,_,rfl⟩;rw[F]at y;obtain rfl:=dT y;have A:=H b r ⟨_,_,rfl⟩ rfl;by_cases e:l.length+1<=g;refine Ln (u:=i64 s) oR F e cM (cO p rfl) rfl λn k' q=>I _ n (.inl ⟨b,g,⟨_,_,rfl⟩,dq,by rw[q,A],.inr ⟨b,g,_,dq,fB e,q,fB J,λj c=>?_⟩⟩) ⟨k'.trans (dz.refl (λ_=>False) n) (λt _ a=>by subst a;exact⟨_,_,rfl⟩) λ_ _ h=>h.elim,λt ox a B=>?_⟩;obtain f|C:=gC j l.length;rw[gd cM,d j f,nm f];obtain rfl:j=l.length:=by simp at c;omega
 rw[ou cM];simp;have⟨_,_,a⟩:=a;injection a with a;have:=dH Addr.block (dT a);simp only at this;subst this;rw[F]at B;exact .inr ⟨(dT B).symm,by rw[q,A]⟩
 have hr:=run_append_grow (P:=V.prog) w 27 T 3 Q z Z h2 h3 (dt b 0) l.length g (gA l) (by simp[E,gA]) (λj u c=>by
  rw[Addr.add_lit];simp only[World.cell?,F,dn];have D:j<l.length:=by simpa[gA]using(nk.1 c).1
  rw[d j D];have:(gA l)[j]? =some (i64 (l[j]:Nat)):=by simp[gA,ft D]
  rw[this]at c;simpa using c) (dt k 0) 1 i [i64 s] (by simp[E]) (λj v c=>by
  match j,c with
  |0,c=>cases c;rw[iq];exact cO p rfl) cM cM (growslice_fits cM (du (Nat.mul_le_mul (show l.length+1<=1000000 by omega) h6) kg))
 have C:=grownCap_ge w (l.length+1) g 3;have L:z.cells.size=1:=by rw[h4];rfl
 refine⟨_,w.drew.alloc (.cells ((gA l).toArray++#[Value.int .i64 s]++Builtin.zeroCells z.cells (grownCap w (l.length+1) g 3-(l.length+1))) 3),?_,I (eT w.heap.size (l.length+1) (grownCap w (l.length+1) g 3)) _ (.inr ⟨w.heap.size,grownCap w (l.length+1) g 3,N,dq,.inr ⟨w.heap.size,grownCap w (l.length+1) g 3,_,dq,fB C,fY w.drew _,?_,λj c=>?_⟩⟩) (((Ext.drew w).trans (Ext.alloc _ _)).ea _ _ _)⟩;unfold builtin;simp only[Sem.run_bind,hr,Result.andThen_ok,Sem.run_pure];simp only[x6,im,size_zeroCells,L,gA,lx,nP,fa,fP,rm];omega;have ac:j<l.length+1:=fB c;rw[DL (by simp[gA];omega)];obtain f|S:=gC j l.length;simp[gA,yd,f,ft f];obtain rfl:j=l.length:=cM;simp[gA]
def Qh(s a:Nat):Bool:=(List.range 5).all λd=>!s.testBit d||a.testBit d
def o8(G:Gd)(a s:Nat):Int:=if Qh s a then(match fT G s with
 |some b=>(b.length:Int)
 |none=> -1)else-1
def iK(G:Gd)(a k:Nat):eY:=(List.range 32).map λs=>if s<k then o8 G a s else 0
def n7(G:Gd)(b:List Sx)(a k:Nat):List (List cN):=((dJ G.tries b).take k).map λd=>jz G (b.getD d qw) a
def ei(G:Gd)(b:List Sx)(a:Nat):eR:=⟨dJ G.tries b,(dJ G.tries b).map λd=>jz G (b.getD d qw) a,iK G (eB (dJ G.tries b)) (2^b.length)⟩
theorem CZ{x:Sx}{u:Du}:∀{f:Nat} {l:cN} {a:Nat} {c:cN},c∈lB m x u f l a->c.length<=l.length+f/\∀s∈c,s∈l\/s<m
 |0,l,a,c,h=>by cases h
 |f+1,l,a,c,h=>by simp only[lB]at h;split at h;split at h;rw[jE.1 h];exact⟨cM,λs d=>.inl d⟩;cases h;have⟨i,e,h⟩:=me.1 h;have e:=gf.1 e;split at h;cases h;have⟨g,j⟩:=CZ h;simp only[lx,fa,fP]at g;refine⟨cM,λs d=>?_⟩;obtain b|b:=j s d;obtain b|b:=jQ.1 b;exact .inl b;rw[jE.1 b];exact .inr cM;exact .inr b
theorem Lw:∀(n:Nat),((List.range n).map λi=>2^(n-1-i)).sum+1=2^n
 |0=>rfl
 |n+1=>by
  have b:=Lw n;rw[List.range_succ_eq_map,kI,List.sum_cons,List.map_map];have e:(List.range n).map ((λi=>2^(n+1-1-i))∘Nat.succ)=(List.range n).map λi=>2^(n-1-i):=by refine List.map_congr_left λi a=>?_;have:=gf.1 a;simp only[Function.comp];congr 1;omega
  rw[e];have:n+1-1-0=n:=cM;rw[this,Nat.pow_succ];omega
theorem Qi{a:Type}{f g:a->Nat}:∀(l:List a),(∀x∈l,f x<=g x)->(l.map f).sum<=(l.map g).sum
 |[],_=>di _
 |x::r,h=>by simp only[kI,List.sum_cons];exact Nat.add_le_add (h x fW) (Qi r λy b=>h y (jD _ b))
theorem AV{L:Nat}{x:Sx}{u:Du}:∀(f:Nat) (l:cN) (a:Nat),(lB L x u f l a).length<=2^(L-a)
 |0,l,a=>gh _
 |f+1,l,a=>by
  have c:1<=2^(L-a):=Nat.one_le_two_pow;simp only[lB];split;split;exact c;exact gh _;rw[List.length_flatMap];have d:((List.range (L-a)).map λi=>(if qW x l (a+i)then([]:List cN)else lB L x u f (l++[a+i]) (a+i+1)).length).sum<=((List.range (L-a)).map λi=>2^(L-a-1-i)).sum:=Qi _ λi b=>by have b:=gf.1 b;split;exact gh _;have:=AV (L:=L) (x:=x) (u:=u) f (l++[a+i]) (a+i+1);rwa[show L-(a+i+1)=L-a-1-i by omega]at this
  have:=Lw (L-a);omega
def AW(h:H.Ok):fl H<=6:=by have:=h.days;unfold fl;omega
def un(h:H.Ok)(x:Sx)(a:Nat):(jz H x a).length<=64/\∀l∈jz H x a,l.length<=7/\∀s∈l,s<6:=by have g:=AW h;refine⟨?_,λl d=>?_⟩;have:=AV (L:=fl H) (x:=x) (u:=ja H x) (fl H+1) [] a;have b:2^(fl H-a)<=2^6:=Nat.pow_le_pow_right cM cM;exact du this b;have⟨e,b⟩:=CZ d;simp only[fP]at e;refine⟨cM,λs f=>?_⟩;obtain c|c:=b s f;cases c;omega
theorem jm{a:List Sx}(h:d∈dJ I a):d<a.length:=by have⟨b,_⟩:=py.1 h;exact gf.1 b
def tB(T:Int)(a:List Sx):(dJ T a).Nodup:=(List.nodup_range).filter _
def uo(T:Int)(a:List Sx):(dJ T a).length<=a.length:=vt T a a.iw
theorem tC{most:Nat}:∀{doors b a:cN},fE H most doors b=some a->a.length<=b.length+doors.length
 |[],b,a,h=>by simp only[fE,iN]at h;subst h;simp
 |d::r,b,a,h=>by simp only[fE]at h;split at h;rename_i o e;obtain rfl:=dT h;have⟨i,f,c⟩:=Ow e;split at c;have:=tC c;simp only[sJ,fa]at this⊢;omega;cases c;split at h;have:=tC h;simp only[lx,fa,fP]at this⊢;omega;cases h
theorem o9{a:List cN}(h:fT H s=some a):a.length<=5:=by unfold fT at h;split at h;obtain rfl:=dT h;simp;obtain⟨d,b,rfl⟩:=iU.1 h;have⟨m,_,c⟩:=Ow b;have:=tC c;have:=xF s;simp only[fP,nP]at*;omega
def Nd(G:Gd)(a s:Nat): -1<=o8 G a s/\o8 G a s<=5:=by unfold o8;split;split;rename_i b h;have:=o9 h;omega;omega;omega
def EN(G:Gd)(a k s:Nat)(b:s<32):(iK G a k).getD s 0=if s<k then o8 G a s else 0:=by unfold iK;rw[gW,yf,List.getElem?_range b];rfl
def wE(G:Gd)(a k:Nat):(iK G a k).length=32:=by simp[iK]
def Hm{e:List Sx}(h:H.Ok)(f:e.length=H.doors.length)(a:Nat):(ei H e a).Ok:=by have n:=h.many;have g:=uo H.tries e;refine⟨by simp[ei],by simp only[ei];omega,tB _ _,λd j=>iI (jm j),λi b=>?_,λi b l f=>?_,λi b l f s k=>?_,wE _ _ _,λc m=>?_,?_⟩;obtain⟨d,_,rfl⟩:=kJ.1 b;have:=(un h (e.getD d qw) a).1;omega;obtain⟨d,_,rfl⟩:=kJ.1 b;have:=((un h (e.getD d qw) a).2 l f).1;omega;obtain⟨d,_,rfl⟩:=kJ.1 b;exact((un h (e.getD d qw) a).2 l f).2 s k;obtain⟨s,_,rfl⟩:=kJ.1 m;split;exact Nd _ _ _;omega;show(iK H _ _).getD 0 0=0;rw[EN _ _ _ _ cM,cV (Nat.two_pow_pos _)];rfl
def lE(A:dp)(d:Nat)(w:cJ)(v:cK)(a:List cN):Prop:=∃c:dP,dg d 27 [.slice none 0 0] w v a.length c/\c.length=a.length/\∀k (h:k<a.length),∃u,c[k]? =some u/\eO d w u a[k]/\∀b,cW u b->¬A b
def lE.own{a:List cN}(h:lE A m w x a):fh m w x a:=by have⟨b,c,d,e⟩:=h;exact⟨b,c,d,λk f=>by have⟨u,g,i,_⟩:=e k f;exact⟨u,g,i⟩⟩
theorem lE.keep{a:List cN}(h:lE A m w x a)(k:dz B w t)(c:∀b,cW x b->¬B b)(q:∀u l b,eO m w u l->cW u b->¬A b->¬B b):lE A m t x a:=by have⟨d,e,f,g⟩:=h;refine⟨d,e.keep k c,f,λi j=>?_⟩;have⟨u,n,o,p⟩:=g i j;exact⟨u,n,dg.keep o k cL,p⟩
def lE.ext{a:List cN}(h:lE A m w x a)(e:Ext w t):lE A m t x a:=h.keep (e.keep λ_=>False) cL cL
def lE.more{A A':dp}{a:List cN}(h:lE A m w x a)(d:∀b,A' b->A b\/w.heap.size<=b):lE A' m w x a:=by have⟨e,f,g,j⟩:=h;refine⟨e,f,g,λi k=>?_⟩;have⟨u,l,c,p⟩:=j i k;refine⟨u,l,c,λb n o=>?_⟩;obtain h|h:=d b o;grind;have:=(dg.blk c n).2;omega
def GL.c3(h:GL w x l)(a:cW x m):∃b,w.heap[m]? =some (.cells b 3):=by have⟨_,_,a⟩:=a;obtain⟨_,rfl⟩|⟨d,c,b,rfl,e,f,_⟩:=h;grind;grind
theorem dg.c_(h:dg m T M w x k Y)(a:cW x i):∃b,w.heap[i]? =some (.cells b T):=by have⟨_,_,a⟩:=a;obtain⟨_,⟨_,rfl⟩|⟨d,c,b,_,rfl,e,_⟩⟩:=h;grind;grind
def lE.Wi{a:List cN}(h:lE A m w x a)(b:cW x k):∃c,w.heap[k]? =some (.cells c 27):=by have⟨e,d,_⟩:=h;exact d.c_ b
def lf(h:w.heap[m]? =some (.cells W T))(a:w.heap[m]? =some (.cells X U))(b:T≠U):False:=by grind
def n8{b a l c l' c':Nat}(h:cW (.slice (some ⟨b,0,none⟩) l c) a):a=b:=by have⟨_,_,h⟩:=h;grind
structure LS(n0 m db ob wb xb gb:Nat):Prop where
 lo:n0<=ob/\n0<=m
 d:db<m/\db≠ob
 o:ob<m
 w:wb<m/\wb≠ob
 x:xb<m/\xb≠ob
 g:gb<m/\gb≠ob
def Lx(a b c d e:Nat):cK:=.func (.func 165) #[] #[dj a,dj b,dj c,dj d,dj e]
structure LC(w0:cJ)(wp d:Nat)(u:Du)(db ob wb xb gb:Nat)(w:cJ):Prop where
 e:Ext w0 w
 b1:w.heap[db]? =some (.cells (xG d u).toArray 101)
 b3:w.heap[wb]? =some (.cells #[dj wp] 133)
 b4:w.heap[xb]? =some (.cells #[.int .i64 d] 3)
 b5:w.heap[gb]? =some (.cells #[Lx db ob wb xb gb] 209)
def LC.keep{u:Du}(h:LC w k d u i j o p s t)(S:LS w.heap.size m i j o p s)(a:dz A t e)(n:∀b,b<t.heap.size->A b->b=j\/m<=b):LC w k d u i j o p s e:=by have c:∀{b:Nat} {f:Obj},t.heap[b]? =some f->b<m->b≠j->¬A b:=cL;have q:=h.e.size;refine⟨⟨a.os.trans h.e.os,a.tape.trans h.e.tape,a.output.trans h.e.output,du h.e.size a.size,du h.e.drawn a.drawn,λb l=>(a.block b cM λr=>?_).trans (h.e.block b l)⟩,a.fN h.b1 (c h.b1 S.d.1 S.d.2),a.fN h.b3 (c h.b3 S.w.1 S.w.2),a.fN h.b4 (c h.b4 S.x.1 S.x.2),a.fN h.b5 (c h.b5 S.g.1 S.g.2)⟩;have:=S.lo;grind
def VJ(a:Nat)(d:cK)(e:Obj)(l:cN)(v:cK)(w:cJ):Prop:=
 (∃b c k,d=.slice (some ⟨b,0,none⟩) k c/\v=.slice (some ⟨b,0,none⟩) l.length c/\w.heap[b]? =some e/\GL w v l)\/(∃b c,a<=b/\v=.slice (some ⟨b,0,none⟩) l.length c/\GL w v l)
def VJ.ea(h:VJ m x Q l y w)(e:EA x O Q w t)(j:∀a,cW x a->a<m):VJ m x Q l y t:=by
 obtain⟨a,c,k,rfl,rfl,d,o⟩|⟨a,c,p,rfl,d⟩:=h;have f:t.heap[a]? =some Q:=by obtain h|h:=e.n a _ ⟨_,_,rfl⟩ d;grind;grind
 refine .inl ⟨a,c,k,rfl,rfl,f,?_⟩;obtain⟨b,g⟩|⟨q,c',r,b,g,i,s,u⟩:=o;grind;refine .inr ⟨q,c',r,b,g,?_,s,u⟩;injection b with b;have:=dH Addr.block (dT b);simp only at this;subst this;rw[d]at i;rw[f];exact i;exact .inr ⟨a,c,p,rfl,d.keep e.k λv z A=>Cq (j v A) (n8 (l':=0) (c':=0) z)⟩
def GL.ea(h:GL w x l)(e:EA x O Q w t)(d:∀a b,cW x a->O=.cells b 3->Q=.cells (b.setIfInBounds l.length (.int .i64 s)) 3):GL t x l:=by obtain h|⟨a,c,b,rfl,f,m,i,j⟩:=h;exact .inl h;obtain h|⟨h,g⟩:=e.n a _ ⟨_,_,rfl⟩ m;exact .inr ⟨a,c,b,rfl,f,h,i,j⟩;rw[d a b ⟨_,_,rfl⟩ h.symm]at g;refine .inr ⟨a,c,_,rfl,f,g,fB i,λk o=>?_⟩;rw[gd cM];exact j k o
def Qj{O:nu}{Q:Array Bool}{o q:Obj}(B:GL w x l)(a:∀b,cW x b->w.heap[b]? =some o\/w.heap[b]? =some q)(I:m<=w.heap.size)(j:l.length<=1000)(y:w.heap[k]? =some (.cells [Value.int .i64 s].toArray 3))(r:∀b z,cW x b->o=.cells z 3->q=.cells (z.setIfInBounds l.length (.int .i64 s)) 3) (F:∀b,cW x b->∃z,o=.cells z 3) (J:∀v c,VJ m x q (l++[s]) v c->EA x o q w c->O v c):zd V.prog (builtin .append #[27,27] T Q #[x,.slice (some ⟨k,0,none⟩) 1 i]) w O:=by
 have conv:∀v c,GM m x q (l++[s]) v c->GL w x l->VJ m x q (l++[s]) v c:=λv c h g=>by
  obtain⟨b,i,f,rfl,C,D⟩|h:=h;obtain⟨_,rfl⟩|⟨K,c',z,rfl,g2,P,g4,g5⟩:=g;have⟨_,_,f⟩:=f;cases f;have:=n8 (l':=0) (c':=0) f;subst this;have R:i=c':=by
   obtain⟨D,_⟩|⟨b2,c2,L,e,q2,A,q4,q5⟩:=D;simp at D;injection e with S e2 U;have:=dH Addr.block (dT S);simp only at this;subst this;subst U;rw[C]at A;have⟨p,d⟩:=F b ⟨_,_,rfl⟩;have H:=r b p ⟨_,_,rfl⟩ d;have A:=dT A;rw[H]at A;injection A with A;have W:L.size=p.size:=by rw[<-A];simp
   obtain a|a:=a b ⟨_,_,rfl⟩;rw[P,d]at a;have a:=dT a;injection a with a;subst a;omega;rw[P,H]at a;have a:=dT a;injection a with a;have:z.size=p.size:=by rw[a];simp
   omega
  subst R;exact .inl ⟨b,i,l.iw,rfl,rfl,C,D⟩;exact .inr h
 by_cases f:∃b,cW x b;have⟨b,f⟩:=f;have⟨p,d⟩:=F b f;obtain h|h:=a b f;refine zE (w0:=w) B (λK t=>?_) I j y q r λv c G E=>J v c (conv v c G B) E;have⟨_,_,e⟩:=f;have⟨_,_,u⟩:=t;rw[e]at u;injection u with u;have:=dH Addr.block (dT u);simp only at this;subst this;exact h;have H:=r b p f d;refine zE (o:=q) (w0:=w) B (λK t=>?_) I j y q (λK z t e=>?_) λv c G E=>J v c (conv v c G B) ⟨E.k,λX Y Z M=>?_⟩;have⟨_,_,e⟩:=f;have⟨_,_,u⟩:=t;rw[e]at u;injection u with u;have:=dH Addr.block (dT u);simp only at this;subst this;exact h;rw[H]at e⊢;injection e with e;subst e;simp;obtain C|⟨C,D⟩:=E.n X Y Z M;exact .inl C;exact .inl (by rw[D,C]);have N:∀b,¬cW x b:=λb h=>f ⟨b,h⟩;exact zE (o:=o) (w0:=w) B (λb h=>absurd h (N b)) I j y q r λv c G E=>J v c (conv v c G B) E
def JD(L:Nat)(x:Sx)(u:Du)(f:Nat)(l:cN)(a:Nat)(h:¬(l.length:Int)=u.tries):lB L x u (f+1) l a=pQ L x u f l a (L-a):=by simp only[lB,cS h,pQ]
theorem Hn(h:0<l.length):l.getLast?.getD 0=l[l.length-1]:=by grind
theorem GL.v(h:GL w x l)(d:0<l.length):∃b c a,x=.slice (some ⟨b,0,none⟩) l.length c/\l.length<=c/\w.heap[b]? =some (.cells a 3)/\a.size=c/\∀k (h:k<l.length),a[k]? =some (.int .i64 l[k]):=by obtain⟨rfl,_⟩|h:=h;grind;grind
theorem Ho(h:cW x m)(a:cW x k):k=m:=by obtain⟨_,_,rfl⟩:=h;exact n8 (l':=0) (c':=0) a
def Qk(L:Nat)(x:Sx)(u:Du)(f:Nat)(l:cN)(a:Nat)(h:k<=m):(pQ L x u f l a k).length<=(pQ L x u f l a m).length:=by
 induction m with
 |zero=>grind
 |succ m d=>
  obtain b|c:=gC k (m+1);grind [rQ,List.length_append];grind
def Ql(A:dp)(m e:Nat)(f g:cK)(l:cN)(d:List cN)(w c:cJ):Prop:=
 dz (λb=>b=e\/cW g b\/cW f b) w c/\GL c f l/\∃a,c.heap[e]? =some (.cells #[a] 66)/\(∀b,cW a b->cW g b\/w.heap.size<=b)/\lE A m c a d
theorem AX{wp gp mk ms m d db ob wb xb gb:Nat}{r:List Sx}(hW:mE wp gp mk ms H r I w)(hd:d<r.length)(S:LS w.heap.size m db ob wb xb gb):∀(f:Nat) (l:cN) (j:Nat) (lv M:cK) (Y:List cN) (A:dp) (z:cJ),fl H+1<=j+f->l.length<=j->j<=fl H->(∀s∈l,s<6)->LC w wp d (ja H r[d]) db ob wb xb gb z->GL z lv l->(∀b,cW lv b->m<=b/\A b)->(∀b,A b->b<z.heap.size)->m<=z.heap.size->z.heap[ob]? =some (.cells #[M] 66)->lE A m z M Y->(∀b,cW M b->m<=b)->Y.length+(lB (fl H) r[d] (ja H r[d]) f l j).length<=100000->
  Calls V.prog 165 #[lv,.int .i64 j,dj db,dj ob,dj wb,dj xb,dj gb] z (fO λv E=>Ql A m ob lv M l (Y++lB (fl H) r[d] (ja H r[d]) f l j) z E)
 |0,l,j,lv,M,Y,A,z,N,aV,aW,_,_,_,_,_,_,_,_,_,_=>cM
 |f+1,l,j,lv,M,Y,A,z,N,aV,aW,aX,hC,hL,af,hA,ay,an,ho,aY,aa=>by
  have aE:=hW.g.vL;have aZ:=aE.days;have bj:=AW aE;have a0:(fl H:Int)=2*H.days:=by grind [fl]
  have bk:l.length<=6:=cM;obtain⟨C,D,rfl,ag,a1⟩:=hL.row;have ao:∀b,(cW M b\/cW (.slice C l.length D) b)->b≠ob:=λb q e=>by subst e;have:=S.o;grind
  refine jd Tryz.func165 Tryz.ntmps165 ?_;refine dm (cP (cO hC.b1 rfl) (eZ ⟨λh=>?_,λh=>?_⟩));have h:(l.length:Int)=(ja H r[d]).tries:=fx h;have hg:lB (fl H) r[d] (ja H r[d]) (f+1) l j=if xH (ja H r[d]) l then [l]else []:=by simp only[lB,cV h]
  rw[hg]at aa⊢;have same:∀E,Ext z E->xH (ja H r[d]) l=false->Ql A m ob (.slice C l.length D) M l (Y++(if xH (ja H r[d]) l then [l]else [])) z E:=λE e N=>by rw[N,cS dq,List.append_nil];exact⟨e.keep _,hL.keep (e.keep λ_=>False) λ_ _ h=>h,M,e.at_ an,λb q=>.inl q,ho.ext e⟩
  refine dF (qV (p:=λs=>decide (s%2=0)) ⟨167,#[],#[],rfl,dq,λn z=>Hc n z⟩ l C D z ag cM)<|dF (qV (p:=λs=>decide (s%2=1)) ⟨168,#[],#[],rfl,dq,λn z=>Hd n z⟩ l C D z ag cM) ?_
  have take:∀{Q:QW} {l0:L},Sub [(0,.slice C l.length D),(3,dj ob)] l0->xH (ja H r[d]) l=true->(∀l' E,Ql A m ob (.slice C l.length D) M l (Y++(if xH (ja H r[d]) l then [l]else [])) z E->Q .normal l' E)->dX V.prog 86 (gX Tryz.f165 4) l0 z Q:=λ{Q l0} hs aF hq=>by
   rw[cV aF]at hq aa;refine dX.jJ hs ?_;clear hs;have aG:∀{b:Nat},cW M b->¬cW (.slice C l.length D) b:=λq ab=>by have⟨Z,g1⟩:=ho.Wi q;have⟨az,g2⟩:=hL.c3 ab;grind
   have av:¬cW M ob:=λq=>ao ob (.inl q) rfl;have aH:∀b,cW M b->b<z.heap.size:=λb q=>by have⟨Z,g1⟩:=ho.Wi q;grind
   refine gQ 4 dD (ij (cW M)) (λa b h=>h.keep _)<| .exact M (λR e1=>cP (cO (e1.fN an av) rfl) fL) ?_;refine .rel (λu R=>eO z.heap.size R u l) (λu a b hu e=>dg.keep hu e λx U a3=>by have:=(dg.blk hu U).1;grind) (λR e1=>?_) ?_;have a4:fJ R C l:=λk hk=>by obtain⟨b,o,rfl,hc⟩:=ag k hk;have⟨b2,c2,aI,J,_,_,_,_⟩:=hL.v cM;injection J with J;obtain⟨rfl,rfl⟩:b=b2/\o=0:=cL;exact⟨_,_,rfl,e1.fe hc λN=>aG N ⟨_,_,rfl⟩⟩
   exact cX (mV a4 cM) λu y ⟨J,hu⟩=>⟨hu.low e1.size,J⟩;refine .rel (λx R=>∃K u,x=eT K 1 1/\z.heap.size<=K/\R.heap[K]? =some (.cells [u].toArray 27)/\eO z.heap.size R u l) (λx a b ⟨K,u,P,O,W,h4⟩ e=>⟨K,u,P,O,e.fN W (λN=>cL),dg.keep h4 e λx U a3=>by have:=(dg.blk h4 U).1;grind⟩) (λR e1 u hu=>?_) ?_;refine er [u] 27 (λy K J ah q=>⟨⟨K,u,rfl,du e1.size ah,q,dg.ext hu J⟩,J⟩) ?_;obtain⟨a2,c2,rfl,_⟩:=eO.row hu;intro z;kernel_rfl;refine .spec (λv R=>lE A m R v (Y++[l])/\∀b,cW v b->cW M b\/z.heap.size<=b) (λv a b ⟨P,O⟩ e=>⟨P.ext e,O⟩) (λR e1 aJ a5 a6 bm=>?_) ?_;obtain⟨K,u,rfl,ah,ai,hu⟩:∃K u,aJ=eT K 1 1/\z.heap.size<=K/\R.heap[K]? =some (.cells [u].toArray 27)/\eO z.heap.size R u l:=a5;have⟨us,hr,bn,a7⟩:=ho.ext e1;have aK:u.oneCell'=true:=by obtain⟨a,c,rfl,_⟩:=eO.row hu;rfl
   refine hH Jw hr (du ay e1.size) ai cL (λv' y g1 g2 g3=>⟨⟨⟨us++[u],cL,cL,λi hi=>?_⟩,λb q=>(g3 b q).imp id λh=>du e1.size h⟩,g2⟩) rfl (by simp[sB,aK]);obtain ac|aL:=gC i Y.length;have⟨x,x1,x2,x3⟩:=a7 i ac;refine⟨x,cL,?_,x3⟩;rw[nm ac];exact dg.keep x2 g2 (iB x2 hr cL);obtain rfl:i=Y.length:=cL;refine⟨u,cL,?_,λb q ha=>?_⟩;simp only[se (di _),lJ,nO];exact dg.keep (eO.low hu ay) g2 (iB hu hr cL);have:=(dg.blk hu q).1;grind;rintro R e1 bo ⟨aM,aN⟩ aJ _ a6 _;obtain⟨a9,c9,rfl,_,_⟩:=aM.own.row;refine dI (e1.fN an av) λy k2 a8=>hq _ _ ⟨e1.trans k2 (λx _ U=>.inr (.inl U)) (λx _ U=>.inl U),(hL.keep e1 λb q ab=>aG ab q).keep k2 λb q e=>ao b (.inr q) e,_,a8,aN,aM.keep k2 (λb q e=>?_) λu x b hu q _ e=>?_⟩;grind;have:=(dg.blk hu q).1;have:=S.o;omega
  refine⟨λP=>?_,λP=>?_⟩;refine ko rfl ⟨λO=>?_,λO=>?_⟩;exact ko rfl (take (by trivial) (by grind [xH]) λl' E h=>⟨_,rfl,h⟩);refine cP (cO hC.b1 rfl) (eK ⟨λW=>?_,λW=>?_⟩);exact take (by trivial) (by grind [xH]) λl' E h=>⟨_,rfl,h⟩;exact⟨_,rfl,same _ (Ext.refl _) (by unfold xH;grind)⟩;refine cP (cO hC.b1 rfl) (eK ⟨λW=>?_,λW=>?_⟩);refine⟨λO=>?_,λO=>?_⟩;exact ko rfl (take (by trivial) (by grind [xH]) λl' E h=>⟨_,rfl,h⟩);refine cP (cO hC.b1 rfl) (eK ⟨λh4=>?_,λh4=>?_⟩);exact take (by trivial) (by grind [xH]) λl' E h=>⟨_,rfl,h⟩;exact⟨_,rfl,same _ (Ext.refl _) (by unfold xH;grind)⟩;exact kZ rfl ⟨_,rfl,same _ (Ext.refl _) (by unfold xH;grind)⟩;have h:¬(l.length:Int)=(ja H r[d]).tries:=ie h;rw[JD _ _ _ _ _ _ h]at aa⊢
  refine fc (fl H-j) (λk (_:cK)=>[(0,.slice C l.length D),(1,i64 j),(2,dj db),(3,dj ob),(4,dj wb),(5,dj xb),(6,dj gb),(11,i64 (j+k:Nat))])
   (λk aA E=>LC w wp d (ja H r[d]) db ob wb xb gb E/\GL E (.slice C l.length D) l/\dz (λb=>b=ob\/cW M b\/cW (.slice C l.length D) b) z E/\fF E ob #[aA] 66/\(∀b,cW aA b->cW M b\/z.heap.size<=b)/\lE A m E aA (Y++pQ (fl H) r[d] (ja H r[d]) f l j k)) M ⟨by trivial,hC,hL,dz.refl _ _,an,λb q=>.inl q,by grind [pQ]⟩ ?_
  rintro k F R hk ⟨ae,ap,k1,aj,ak,aB⟩;have aO:=hW.ext ae.e;have⟨sa,sc,g1,g2,g3,g4⟩:=aO.at_;refine cP (cO ae.b3 rfl) (cP g1 (dF (last_at aO.g) (oP ⟨λaC=>?_,λaC=>?_⟩)));have ac:k<fl H-j:=by grind
  obtain⟨b,o,rfl,hc⟩:=g4 d hd;have bp:j+k<6:=cM;have ba:(j+k)/2<3:=cM;have aP:R.cell? (dt b (o+d*8+4+(j+k)/2))=some (.bool (px r[d] ((j+k)/2))):=by
   have:(nI r[d])[4+(j+k)/2]? =some (.bool (px r[d] ((j+k)/2))):=by obtain h0|h0|h0:(j+k)/2=0\/(j+k)/2=1\/(j+k)/2=2:=cM;all_goals rw[h0];rfl
   grind
  have skip:∀y,Ext R y->qW r[d] l (j+k)=true->LC w wp d (ja H r[d]) db ob wb xb gb y/\GL y (.slice C l.length D) l/\dz (λb=>b=ob\/cW M b\/cW (.slice C l.length D) b) z y/\fF y ob #[F] 66/\(∀b,cW F b->cW M b\/z.heap.size<=b)/\lE A m y F (Y++pQ (fl H) r[d] (ja H r[d]) f l j (k+1)):=λy J hs=>by refine⟨ae.keep S (J.keep λ_=>False) λ_ _ h=>h.elim,ap.keep (J.keep λ_=>False) λ_ _ h=>h,k1.trans (J.keep λ_=>False) (λ_ _ h=>h) λ_ _ h=>h.elim,J.at_ aj,ak,?_⟩;rw[rQ,cV hs,List.append_nil];exact aB.ext J
  refine dE dD (dl (cO ae.b3 rfl) (dl g2 (dl (cO ae.b4 rfl) (dx (i64 ((j+k)/2:Nat)) (λy _=>lQ (n:=2) dq cM fL) (jx d 8 hd (dx (oz b (o+d*8+4+(j+k)/2)) (λy _=>zC 3 ba fL) (dl aP ⟨λP=>?_,λP=>?_⟩)))))));exactλy J=>ko rfl (cY ⟨ac,F,by trivial,skip y J (by simp[qW,P])⟩)
  have aQ:∀{Q:QW} {l0:L} {y:cJ},Sub [(0,.slice C l.length D),(1,i64 j),(2,dj db),(3,dj ob),(4,dj wb),(5,dj xb),(6,dj gb),(11,i64 (j+k:Nat))] l0->Ext R y->qW r[d] l (j+k)=false->(∀al G ad E,(∃B,LC w wp d (ja H r[d]) db ob wb xb gb E/\GL E (.slice C l.length D) l/\dz (λb=>b=ob\/cW M b\/cW (.slice C l.length D) b) z E/\fF E ob #[B] 66/\(∀b,cW B b->cW M b\/z.heap.size<=b)/\lE A m E B (Y++pQ (fl H) r[d] (ja H r[d]) f l j (k+1)))->Q .normal ((85,al)::(82,G)::(81,ad)::(84,i64 ((j+k:Nat)+1))::(83,i64 (j+k:Nat))::(80,i64 (j+k:Nat))::(79,.slice C l.length D)::(78,Lx db ob wb xb gb)::[(0,.slice C l.length D),(1,i64 j),(2,dj db),(3,dj ob),(4,dj wb),(5,dj xb),(6,dj gb),(11,i64 (j+k:Nat))]) E)->dX V.prog 86 (gX Tryz.f165 9) l0 y Q:=λ{Q l0 y} hs J bb hq=>by
   refine dX.jJ hs ?_;clear hs skip;have aD:=ae.keep S (J.keep λ_=>False) λ_ _ h=>h.elim;have aq:GL y (.slice C l.length D) l:=ap.keep (J.keep λ_=>False) λ_ _ h=>h;have k2:=k1.trans (J.keep λ_=>False) (λ_ _ h=>h) λ_ _ h=>h.elim;have aR:=J.at_ aj;have ar:=aB.ext J;have s2:z.heap.size<=y.heap.size:=k2.size;have aS:∀b,cW F b->m<=b:=λb q=>(ak b q).elim (aY b) λh=>du ay h;have aw:∀b,cW (.slice C l.length D) b->b<y.heap.size:=λb q=>aq.blk q;have aH:∀b,cW F b->b<y.heap.size:=λb q=>by have⟨Z,h⟩:=ar.Wi q;grind
   have⟨o1,bc,bd⟩:∃o1:Obj,(∀b,cW (.slice C l.length D) b->y.heap[b]? =some o1)/\∀b,cW (.slice C l.length D) b->∃Z,o1=.cells Z 3:=by by_cases U:∃b,cW (.slice C l.length D) b;have⟨b,q⟩:=U;have⟨Z,bq⟩:=aq.c3 q;exact⟨.cells Z 3,λb' ab=>by grind [Ho],λ_ _=>⟨Z,rfl⟩⟩;exact⟨.cells #[] 3,λb q=>absurd ⟨b,q⟩ U,λb q=>absurd ⟨b,q⟩ U⟩
   have⟨o2,au⟩:∃o2:Obj,∀b Z,cW (.slice C l.length D) b->o1=.cells Z 3->o2=.cells (Z.setIfInBounds l.length (i64 (j+k:Nat))) 3:=by
    cases o1 with
    |cells Z t fz=>exact⟨.cells (Z.setIfInBounds l.length (i64 (j+k:Nat))) 3,λb az _ e=>cL⟩
    |_=>exact⟨.cells #[] 3,λb az _ e=>by cases e⟩
   have f9:∀{b},(b=ob\/cW F b\/cW (.slice C l.length D) b\/y.heap.size<=b)->b=ob\/m<=b:=λ{b} h=>by grind
   refine gQ 7 (VI (.slice C l.length D) o1 o2) (ij (λb=>b=ob\/cW F b\/cW (.slice C l.length D) b\/y.heap.size<=b)) (λa b h=>h.k.trans (dz.refl (λ_=>False) b) (λx _ U=>.inr (.inr (.inl U))) λ_ _ h=>h.elim) ?_;refine .exact (Lx db ob wb xb gb) (λX T=>cP (cO (T.fN aD.b5 λN=>by have:=S.g;grind) rfl) ⟨rfl,(VI _ _ _).refl _⟩) ?_;refine .MI (λv X=>∃K,v=eT K 1 1/\y.heap.size<=K/\X.heap[K]? =some (.cells [Value.int .i64 (j+k:Nat)].toArray 3)) (λv a b ⟨K,P,O,W⟩ e=>⟨K,P,O,e.k.fN W λN=>cL⟩) (λX T=>er [i64 (j+k:Nat)] 3 λw4 K e4 ah q=>⟨⟨K,rfl,du T.size ah,q⟩,e4.ea _ _ _⟩) ?_;refine .early rfl (VJ y.heap.size (.slice C l.length D) o2 (l++[j+k])) (λv a b h e=>h.ea e aw) (λX T ad be=>?_) ?_;obtain⟨K,rfl,ah,ai⟩:∃K,ad=eT K 1 1/\y.heap.size<=K/\X.heap[K]? =some (.cells [Value.int .i64 (j+k:Nat)].toArray 3):=be;exact Qj (aq.ea T au) (λb q=>(T.n b o1 q (bc b q)).imp id (·.2)) T.k.size cM ai au bd λv w4 P O=>⟨P,O⟩;refine .exact (i64 ((j+k:Nat)+1)) (λX _=>cY (m:=(j+k:Nat)) (n:=1) ⟨rfl,(VI _ _ _).refl _⟩) ?_
   refine .spec (λv X=>GL X (.slice C l.length D) l/\∃B,fF X ob #[B] 66/\(∀b,cW B b->cW F b\/y.heap.size<=b)/\lE A m X B ((Y++pQ (fl H) r[d] (ja H r[d]) f l j k)++lB (fl H) r[d] (ja H r[d]) f (l++[j+k]) (j+k+1)))
    (λv a b ⟨P,B,O,W,h4⟩ e=>⟨P.ea e au,B,e.k.fN O λN=>ao ob (.inr N) rfl,W,h4.keep e.k (λb q ab=>by have⟨Z,q1⟩:=h4.Wi q;have⟨az,q2⟩:=P.c3 ab;grind) λu x b hu q ha N=>ha (af b N).2⟩) (λX T G am=>?_) ?_
   have am:VJ y.heap.size (.slice C l.length D) o2 (l++[j+k]) G X:=am;have ax:GL X G (l++[j+k]):=by obtain⟨_,_,_,_,_,_,h⟩|⟨_,_,_,_,h⟩:=am<;>exact h
   have aT:∀b,cW G b->cW (.slice C l.length D) b\/y.heap.size<=b:=λb q=>by obtain⟨b',c',k',q1,rfl,_⟩|⟨b',c',q1,rfl,_⟩:=am;exact .inl (by rw[q1,n8 (l':=0) (c':=0) q];exact⟨_,_,rfl⟩);exact .inr (by rw[n8 (l':=0) (c':=0) q];grind)
   have bf:=aD.keep S T.k λb _ N=>.inr (af b N).1;have bg:lE (λb=>A b\/cW G b) m X F (Y++pQ (fl H) r[d] (ja H r[d]) f l j k):=by have P:=ar.more (A':=λb=>A b\/cW G b) λb q=>q.elim .inl λq=>(aT b q).imp (λh=>(af b h).2) id;exact P.keep T.k (λb q ab=>by have⟨Z,q1⟩:=ar.Wi q;grind) λu x b hu q ha N=>ha (.inl (af b N).2)
   have br:(l++[j+k]).length=l.length+1:=dq;have aU:(if qW r[d] l (j+k)then []else lB (fl H) r[d] (ja H r[d]) f (l++[j+k]) (j+k+1))=lB (fl H) r[d] (ja H r[d]) f (l++[j+k]) (j+k+1):=cL;have aC:=Qk (fl H) r[d] (ja H r[d]) f l j (show k+1<=fl H-j by omega);rw[rQ,aU,lx]at aC;have ih:=AX hW hd S f (l++[j+k]) (j+k+1) G F (Y++pQ (fl H) r[d] (ja H r[d]) f l j k) (λb=>A b\/cW G b) X cM cM cM (λs hs=>by grind) bf ax (λb q=>⟨(aT b q).elim (λh=>(af b h).1) λh=>cM,.inr q⟩) (λb q=>q.elim (λh=>Cq (hA b h) T.k.size) λh=>ax.blk h) (iI T.k.size) (T.k.fN aR λN=>ao ob (.inr N) rfl) bg aS cL;refine cX ih ?_;rintro v w4 ⟨kk,bh,B,q1,q2,q3⟩;refine⟨⟨?_,B,q1,λb q=>(q2 b q).imp id λh=>du T.k.size h,q3.more λb q=>.inl (.inl q)⟩,kk.trans (dz.refl (λ_=>False) w4) (λx _ U=>?_) λ_ _ h=>h.elim⟩;obtain⟨b',c',k',q4,rfl,q5,_⟩|⟨b',c',q4,rfl,_⟩:=am;injection q4 with q4 q6 q7;subst q4 q6 q7;have⟨b2,c2,aI,z1,z2,z3,z4,z5⟩:=bh.v dq;injection z1 with z1 _ z6;have:=dH Addr.block (dT z1);simp only at this;subst this;subst z6;refine .inr ⟨_,_,aI,rfl,a1,z3,z4,λi hi=>?_⟩;grind;refine(aq.ea T au).keep kk λb q N=>?_;obtain h|h|h:=N;grind;have⟨Z,x1⟩:=ar.Wi h;grind;have:=aw b q;have:=n8 (l':=0) (c':=0) h;omega;grind;rintro X T al ⟨P,B,O,W,h4⟩ G _ ad _;refine hq al G ad X ⟨B,aD.keep S T λb _ N=>f9 N,P,k2.trans T (λx _ U=>U) λx U N=>?_,O,λb q=>?_,?_⟩;grind;grind;rw[rQ,bb,<-List.append_assoc];grind
  refine mu (AG ⟨λO=>?_,λO=>?_⟩);have O:0<l.length:=cL;have⟨bl,c,Z,e,q1,q2,q3,q4⟩:=ap.v O;injection e with e bs bi;subst e;subst bi;have bt:=q4 (l.length-1) cM;have bu:=aX _ (eG (show l.length-1<l.length by omega));refine mu (vo (gl (l.length-1) cM (dl (v:=i64 (l[l.length-1]:Nat)) (cO q2 cL) (dx (i64 (l[l.length-1]/2:Nat)) (λy _=>lQ (n:=2) dq cM fL) (dx (i64 ((j+k)/2:Nat)) (λy _=>lQ (n:=2) dq cM fL) (Lj λy J=>⟨λW=>?_,λW=>?_⟩)))) cM));have W:l[l.length-1]/2=(j+k)/2:=Int.ofNat.inj (fx W);exact cY ⟨ac,F,by trivial,skip y J (by simp[qW,O,Hn O,W])⟩;have W:¬l[l.length-1]/2=(j+k)/2:=λe=>ie W cL;exact aQ (by trivial) J (by grind [Hn,qW]) λal G ad E ⟨B,hJ⟩=>cY ⟨ac,B,by trivial,hJ⟩;have O:¬0<l.length:=cL;exactλy J=>kZ rfl (aQ (by trivial) J (by grind [qW]) λal G ad E ⟨B,hJ⟩=>cY ⟨ac,B,by trivial,hJ⟩);have aL:k=fl H-j:=by grind
  subst aL;exact⟨_,rfl,k1,ap,F,aj,ak,aB⟩
def Ext.sn(h:Ext w t)(k:dz A t e)(c:∀b,A b->w.heap.size<=b):Ext w e:=
 ⟨k.os.trans h.os,k.tape.trans h.tape,k.output.trans h.output,du h.size k.size,du h.drawn k.drawn,λx a=>(k.block x (ew a h.size) λd=>iI (c x d)).trans (h.block x a)⟩
theorem fh.low{a:List cN}(h:fh m w x a)(b:k<=m):fh k w x a:=by have⟨c,d,e,f⟩:=h;exact⟨c,d.low b,e,λg i=>by have⟨u,j,l⟩:=f g i;exact⟨u,j,l.low b⟩⟩
def Hp{wp gp mk ms:Nat}{o:List Sx}(h:mE wp gp mk ms H o I w)(L:d<o.length)(F:vw 100000 o[d])(U:m<=fl H):
 Calls V.prog 120 #[dj wp,.int .i64 d,.int .i64 m] w (fO λv M=>Ext w M/\fh w.heap.size M v (jz H o[d] m)):=by
 have t:=h.g.vL;have W:=AW t;refine jd Tryz.func120 Tryz.ntmps120 ?_;refine eJ λX A G Y e=>eJ λN B u O f=>?_;have e:fF X A #[dj wp] 133:=e;have f:fF N B #[i64 d] 3:=f;refine cP (cO (u.at_ e) rfl) (cP (cO f rfl) (cX (VH (h.ext (G.trans u)) L F) ?_));rintro v w3 ⟨rfl,P⟩;refine eU λw4 C Z J x=>dI x λQ k5 j=>?_;have j:Q.heap[C]? =some (.cells (xG d (ja H o[d])).toArray 101):=j.trans (dH (λa=>some (Obj.cells a 101)) (ef (pJ 101).toArray (xG d (ja H o[d])) rfl));have p:Ext N Q:=P.trans (Z.cT k5 J);have aa:=dA.lt_of_heap e;have ab:=dA.lt_of_heap f;have ac:=dA.lt_of_heap j;refine eU λR D y ad l=>eU λw7 E e7 K z=>dI z λq k8 i=>?_;have l:fF R D #[fo] 66:=l;have ae:=dA.lt_of_heap l;have i:fF q E #[Lx C D A B E] 209:=i;have af:=dA.lt_of_heap i;have r:Ext R q:=e7.cT k8 K;have s1:=G.size;have s2:=u.size;have s3:=P.size;have s5:=p.size;have s6:=y.size;have s8:=r.size;have S:LS w.heap.size q.heap.size C D A B E:=⟨cM,cM,cM,cM,cM,cM⟩;have T:Ext w q:=((G.trans u).trans p).trans (y.trans r);have hC:LC w wp d (ja H o[d]) C D A B E q:=⟨T,(y.trans r).at_ j,((u.trans p).trans (y.trans r)).at_ e,(p.trans (y.trans r)).at_ f,i⟩;have c:∀b,¬cW fo b:=λb n=>by have⟨_,_,n⟩:=n;cases n
 have n:=(un t o[d] m).1;have hg:=AX h L S (fl H+1) [] m fo fo [] (λ_=>False) q cM (gh _) U (λs hs=>by cases hs) hC (.inl ⟨rfl,rfl⟩) (λb n=>absurd n (c b)) (λb n=>n.elim) (di _) (r.at_ l) ⟨[],dg.nil _ _ _ _,rfl,λk hk=>by simp at hk⟩ (λb n=>absurd n (c b)) (by show 0+(jz H o[d] m).length<=100000;omega);refine cP (cO i rfl) (cX hg ?_);rintro v w9 ⟨k9,_,ov,q1,q2,q3⟩;refine cP (cO q1 rfl) ⟨_,rfl,T.sn k9 λb n=>?_,q3.own.low cM⟩;obtain h|h|h:=n;omega;exact absurd h (c b);exact absurd h (c b)
def Xb:IA 64 66 [.slice none 0 0]:=⟨dq,Tryz.t66,_,eE,rfl,eE,eE,by decide+kernel,cL⟩
theorem fh.keep{n0:Nat}{w w':cJ}{v:cK}{d:List cN}{F:dp}(h:fh n0 w v d)(k:dz F w w')(p:∀b a t,F b->w.heap[b]? =some (.cells a t)->t=27\/t=3->False):fh n0 w' v d:=by have⟨g,e,j,l⟩:=h;refine⟨g,e.keep k λb c m=>?_,j,λi n=>?_⟩;have⟨a,q⟩:=e.c_ c;grind;have⟨u,o,f⟩:=l i n;refine⟨u,o,dg.keep f k λb c m=>?_⟩;have⟨a,q⟩:=dg.c_ f c;grind
def fh.UN{n0:Nat}{w w':cJ}{v:cK}{c:List cN}{F:dp}(h:fh n0 w v c)(k:dz F w w')(d:∀b,n0<=b->¬F b):fh n0 w' v c:=by have⟨g,e,j,l⟩:=h;refine⟨g,e.keep k λb a=>d b (e.blk a).1,j,λi m=>?_⟩;have⟨u,n,f⟩:=l i m;exact⟨u,n,dg.keep f k λb a=>d b (dg.blk f a).1⟩
def j9(n0:Nat)(w:cJ)(v:cK)(lss:List (List cN)):Prop:=∃a:dP,dg n0 66 [.slice none 0 0] w v lss.length a/\a.length=lss.length/\∀k (h:k<lss.length),∃u,a[k]? =some u/\fh n0 w u lss[k]
section
variable{n0:Nat}{w w':cJ}{v:cK}{lss:List (List (List Nat))}
theorem j9.ext(h:j9 n0 w v lss)(e:Ext w w'):j9 n0 w' v lss:=by have⟨a,b,c,d⟩:=h;refine⟨a,b.ext e,c,λk f=>?_⟩;have⟨u,g,i⟩:=d k f;exact⟨u,g,i.ext e⟩
theorem j9.iC{m:Nat}(h:j9 n0 w v lss)(e:jL m w w'):j9 n0 w' v lss:=by have⟨a,b,c,d⟩:=h;refine⟨a,b.iC e,c,λk f=>?_⟩;have⟨u,g,i⟩:=d k f;exact⟨u,g,i.iC e⟩
theorem j9.keep{F:dp}(h:j9 n0 w v lss)(k:dz F w w')(n:∀b a t,F b->w.heap[b]? =some (.cells a t)->t=66\/t=27\/t=3->False):j9 n0 w' v lss:=by have⟨d,c,e,f⟩:=h;refine⟨d,c.keep k λb g o=>?_,e,λi j=>?_⟩;have⟨a,q⟩:=c.c_ g;grind;have⟨u,l,m⟩:=f i j;exact⟨u,l,m.keep k cL⟩
theorem j9.v_(h:j9 n0 w v lss):∃a c,v=.slice a lss.length c:=by have⟨d,b,_⟩:=h;have⟨a,c,e,_⟩:=b.len;grind
theorem j9.nil(n0:Nat)(w:cJ):j9 n0 w (.slice none 0 0) []:=⟨[],dg.nil _ _ _ _,rfl,cL⟩
end
def Qm{w:cJ}{k:nu}{t:Array Bool}{n0:Nat}{v:cK}{lss:List (List cN)}(h:j9 n0 w v lss)(m:n0<=w.heap.size){b c:Nat}{u:cK}{o:List cN}(p:fh n0 w u o)(e:w.heap[b]? =some (.cells [u].toArray 66))(f:lss.length+1<=1000000) (y:∀g w',j9 n0 w' g (lss++[o])->dz (cW v) w w'->(∀b,cW g b->n0<=b)->k g w'):zd V.prog (builtin .append #[64,64] T t #[v,.slice (some ⟨b,0,none⟩) 1 c]) w k:=by
 have⟨z,r,F,A⟩:=h;have j:u.oneCell'=true:=by obtain⟨a,c,rfl,_⟩:=p.row;rfl
 have d:∀b s T,cW v b->fF w b s T->T=27\/T=3->False:=λb s T e G H=>by have⟨B,q⟩:=r.c_ e;grind
 refine hH Xb r m e f (λg w' C n I=>y g w' ⟨z++[u],cL,cL,λi J=>?_⟩ n λb e=>(C.blk e).1) rfl (by simp[sB,j]);obtain l|D:=gC i lss.length;have⟨x,K,E⟩:=A i l;refine⟨x,cL,?_⟩;rw[nm l];exact E.keep n d;obtain rfl:i=lss.length:=cL;refine⟨u,cL,?_⟩;simp only[se (di _),lJ,nO];exact p.keep n d
def Hq(n0:Nat)(w:cJ)(b:Nat):Prop:=n0<=b/\∃a t c,w.heap[b]? =some (.cells a t c)
def dg.RL{a:Type}{n0:Nat}{z:cK}{w:cJ}{v:cK}{d:dP}{l:List a}{E:cJ->cK->a->Prop}(h:dg n0 T [z] w v l.length d)(j:∀k (h:k<l.length),∃u,d[k]? =some u/\E w u l[k]):j6 (Hq n0 w) E z T w v l:=by obtain⟨m,⟨n,rfl⟩|⟨b,c,e,o,rfl,f,g,p,x,q,r⟩⟩:=h;exact .inl ⟨oy n,rfl⟩;simp only[fa,fP,rm,dn]at m g;refine .inr ⟨b,c,e,(0,0),⟨o,e,T,(0,0),f⟩,rfl,f,g,p,λk i=>?_,λk i y=>?_⟩;have⟨u,s,t⟩:=j k i;exact⟨u,by rw[q k cM];exact s,t⟩;rw[r k cM cM];simp[Nat.mod_one]
theorem eO.RL{n0:Nat}{w:cJ}{v:cK}{l:cN}(h:eO n0 w v l):xn (Hq n0 w) w v l:=dg.RL h λk a=>⟨i64 l[k],by simp[gA,ft a],rfl⟩
theorem fh.RL{n0:Nat}{w:cJ}{v:cK}{a:List cN}(h:fh n0 w v a):An (Hq n0 w) w v a:=by have⟨g,b,i,c⟩:=h;exact dg.RL b λk d=>by have⟨u,e,f⟩:=c k d;exact⟨u,e,f.RL⟩
theorem j9.RL{n0:Nat}{w:cJ}{v:cK}{lss:List (List cN)}(h:j9 n0 w v lss):wm (Hq n0 w) w v lss:=by have⟨f,a,g,b⟩:=h;exact dg.RL a λk c=>by have⟨u,d,e⟩:=b k c;exact⟨u,d,e.RL⟩
def AY(b c d:cK)(a:eY):(dY b c d a).size=3+a.length:=by simp[dY];omega
def B9(a b c:cK)(d:eY)(k:Nat)(v:Int):(dY a b c d).setIfInBounds (3+k) (.int .i64 v)=dY a b c (d.set k v):=by grind [List.map_set,dY]
def AZ(a b d u:cK)(c:eY):(dY a b d c).setIfInBounds 2 u=dY a b u c:=by unfold dY;simp
def Ca(G:Gd)(a:Nat):iK G a 0=List.replicate 32 0:=by unfold iK;simp only[Nat.not_lt_zero,fq];rfl
def qx(G:Gd)(a k:Nat)(b:k<32):iK G a (k+1)=(iK G a k).set k (o8 G a k):=by apply List.ext_getElem?;intro i;unfold iK;grind
def Hr:∀s:Nat,s<32->∀a:Nat,a<32->(decide (b8 .andNot s a=0))=Qh s a:=by decide+kernel
def Tf:∀n:Nat,n<=5->IntKind.u8.wrap (1*2^n)=((2^n:Nat):Int):=by decide+kernel
def Xc:∀n:Nat,n<=5->∀s:Nat,s<2^n->s<32/\∀d∈eh s,d<n:=by decide+kernel
def EO{w:cJ}{k:nu}{x y:dU}{m n:Nat}(b:m+n<256)(h:k (.int .u8 ((m+n:Nat):Int)) w):jO V.prog (do eqGuard .add T x y (.int .u8 m) (.int .u8 n);binOp .add T (.int .u8 m) (.int .u8 n)) w k:=by refine⟨_,w,?_,h⟩;go_simp;have a:IntKind.u8.signed=false:=rfl;unfold IntKind.wrap;simp[IntKind.bits,a];omega
def Ly{f:IntKind}{t b o:Nat}{w:cJ}{k:nu}(a n:Nat)(m:a<n)(h:k (.pointer (some ⟨b,o+a,none⟩)) w)(g:I=(a:Nat):=by rfl)(i:ty t=some ⟨2,n,1,n⟩:=by rfl):jO V.prog (Instr.indexAt t (.pointer (some ⟨b,o,none⟩)) (.int f I)) w k:=by subst g;have⟨e,j,l⟩:=G2 i rfl;refine⟨_,w,?_,h⟩;have c:(a:Int)<(n:Int):=cM;have d:(0:Int)<=(a:Int):=dq;unfold Instr.indexAt;simp only[asIntOf,Instr.sureAddr,pure_bind,Sem.run_bind,iz j,Result.andThen_ok,Sem.run_pure,d,c,and_self,em,mP l,ow,iq,rm]
def UO{w:cJ}{s:dC}{b:Nat}{e f g:cK}{c:eY}{k:Nat}{v:Int}(i:w.heap[b]? =some (.cells (dY e f g c) 207))(m:k<c.length)(h:∀w',dz (λx=>x=b) w w'->w'.heap[b]? =some (.cells (dY e f g (c.set k v)) 207)->s w'):Eo V.prog (Instr.storeAt 3 (.pointer (some ⟨b,3+k,none⟩)) (.int .i64 v)) w s:=
 jw i (by rw[AY];show 3+k+1<=_;omega) (λw' j d=>h w' j (d.trans (dH (λa=>some (Obj.cells a 207)) (B9 _ _ _ _ _ _)))) (gJ (l:=[i64 v]) rfl)
def Qn(a:cK)(w:cJ):Calls V.prog 186 #[a] w (fO λv b=>v=a/\b=w):=by refine jd Tryz.func186 Tryz.ntmps186 ?_;exact⟨_,rfl,rfl,rfl⟩
def VK:eY:=List.replicate 32 0
def A0{wp gp mk ms n0:Nat}{f:List Sx}(h:mE wp gp mk ms H f I w)(hA:∀b,A b->b<w.heap.size)(hp:mc A mk ms H w)(ax:n0<=mk)(ay:n0<=ms)(az:∀x∈f,vw 100000 x)(P:k<=fl H):
 Calls V.prog 162 #[dj wp,.int .i64 k] w (fO λv D=>MA n0 mk ms H A w D/\∃s,v=dj s/\fZ (Hq w.heap.size D) s (ei H f k) D):=by
 have ak:=h.g.vL;have h5:=ak.many;have al:=h.len;refine jd Tryz.func162 Tryz.ntmps162 ?_;refine dF (Qn _ _) (cX (EC h) ?_);rintro ov w1 ⟨e1,am⟩;have aI:=uo H.tries f;obtain⟨L,Q,rfl,_,aK⟩:=am.row;refine eC (.agg (dY (dj wp) (.slice L (dJ H.tries f).length Q) (fo) VK)) (eJ λw2 s e2 aL E=>?_);have E:fF w2 s (dY (dj wp) (.slice L (dJ H.tries f).length Q) (fo) VK) 207:=E;refine cP (cO E rfl) (dm ?_);have⟨O,hO⟩:=ju (Value.slice L (dJ H.tries f).length Q);have aJ:(dJ H.tries f).length<=5:=cM;have s1:=e1.size;have E2:=e1.trans e2;refine jK (n:=(dJ H.tries f).length) (λi v=>[(0,dj wp),(1,i64 k),(5,dj s),(21,.slice L (dJ H.tries f).length Q),(22,i64 (dJ H.tries f).length),(23,i64 i)]) (λi v D=>Ext w D/\eO w.heap.size D O (dJ H.tries f)/\fF D s (dY (dj wp) O v VK) 207/\j9 w.heap.size D v (n7 H f k i)) (fo) ⟨by trivial,E2,by rw[hO];exact am.ext e2,by rw[hO];exact E,by simpa[n7]using j9.nil _ _⟩ ?_ ?_ ?_;rintro i v M hk hJ;exact dN ⟨rfl,rfl,by trivial,hJ⟩;rintro i v M hk ⟨e3,B,j,C⟩;have R:fJ M L (dJ H.tries f):=by have⟨a,c,q1,q2,_⟩:=B.row;rw[hO]at q1;injection q1 with q1;rw[q1];exact q2
 obtain⟨b,o,rfl,hc⟩:=R i hk;have F:=jm (eG hk);have⟨d,hd⟩:=ju ((dJ H.tries f)[i]);rw[<-hd]at hc F;refine eX i hk (cP hc ?_);have S:∀b,cW v b->w.heap.size<=b/\b<M.heap.size:=λb l=>by have⟨us,hr,_⟩:=C;exact hr.blk l
 have ad:¬cW v s:=λl=>by have⟨us,hr,_⟩:=C;have⟨cs,q⟩:=hr.c_ l;exact lf q j kg
 refine gQ 10 dD (ij (cW v)) (λa b h=>h.keep _)<| .exact v (λy G=>cP (cO (G.fN j ad) rfl) fL)<| .rel (λu y=>fh M.heap.size y u (jz H f[d] k)) (λu a b hu e=>hu.UN e λx T ae=>iI ((S x ae).2)) (λy G=>?_) ?_;have aA:Ext w y:=e3.sn G λx T=>(S x T).1;exact cX (Hp (h.ext aA) F (az _ (eG F)) P) λu w5 ⟨e5,hu⟩=>⟨hu.low G.size,e5⟩;refine .rel (λx y=>∃N u,x=eT N 1 1/\M.heap.size<=N/\y.heap[N]? =some (.cells [u].toArray 66)/\fh M.heap.size y u (jz H f[d] k)) (λx a b ⟨N,u,h1,h2,h3,h4⟩ e=>⟨N,u,h1,h2,e.fN h3 (λP=>iI ((S N P).2)),h4.UN e λx T ae=>iI ((S x ae).2)⟩) (λy G u hu=>?_) ?_;refine er [u] 66 (λw5 N e5 an l=>⟨⟨N,u,rfl,du G.size an,l,fh.ext hu e5⟩,e5⟩) ?_;obtain⟨a2,c2,rfl,_⟩:=fh.row hu;intro w;kernel_rfl;refine .spec (λv' y=>j9 w.heap.size y v' (n7 H f k (i+1))) (λv a b h1 e=>h1.ext e) (λy G ao aB aC aM=>?_) ?_;obtain⟨N,u,rfl,an,ap,hu⟩:∃N u,ao=eT N 1 1/\M.heap.size<=N/\y.heap[N]? =some (.cells [u].toArray 66)/\fh M.heap.size y u (jz H f[d] k):=aB;refine Qm (C.ext G) (Cq e3.size G.size) (hu.low e3.size) ap (by simp[n7];omega) λv' w5 g1 g2 _=>⟨?_,g2⟩;have:n7 H f k (i+1)=n7 H f k i++[jz H f[d] k]:=by unfold n7;rw[iT hk,qH,kI,uI,<-hd,getD_eq F]
 rw[this];exact g1;rintro y G aN aq ao _ aC _;obtain⟨a9,c9,rfl⟩:=j9.v_ aq;refine dI (G.fN j ad) λw5 k5 aD=>cY ⟨_,by trivial,(e3.sn G λx T=>(S x T).1).cT k5 cM,?_,aD.trans (dH (λa=>some (Obj.cells a 207)) (AZ _ _ _ _ _)),aq.keep k5 λb cs t l hc ht=>?_⟩;refine dg.keep (dg.keep B G λb l P=>?_) k5 λb l P=>?_;have⟨us,hr,_⟩:=C;have⟨cs,q⟩:=hr.c_ P;have⟨ar,q'⟩:=dg.c_ B l;exact lf q q' kg;subst P;have⟨ar,q'⟩:=dg.c_ B l;exact lf j q' kg;subst l;exact lf (G.fN j ad) hc (by obtain rfl|rfl|rfl:=ht<;>decide);rintro v M ⟨e3,B,j,C⟩;subst hO;have U:j9 w.heap.size M v (ei H f k).lists:=by
  have:n7 H f k (dJ H.tries f).length=(ei H f k).lists:=by unfold n7 ei;rw[j5]
  rw[<-this];exact C
 clear C;have R:fJ M L (dJ H.tries f):=by have⟨a,c,q1,q2,_⟩:=B.row;injection q1 with q1;rw[q1];exact q2
 have h3:=h.ext e3;have⟨sa,sc,g1,g2,g3,g4⟩:=h3.at_;have⟨da,dc,d1,d2⟩:=h3.g.c6;refine cP (cO j rfl) (dF (uk (dJ H.tries f) L Q M R (λd hd=>iI (jm hd)) cM) (cP g1 (cP d1 (dm (Vz cM ?_)))));rw[Tf _ h5];have aO:2^H.doors.length<=32:=Nat.pow_le_pow_right cM h5;have⟨p,W⟩:=ju (eB (dJ H.tries f));rw[<-W];have J:p<32:=by rw[W];exact mU _ 0 cM λd hd=>iI (jm hd)
 have aP:=dA.lt_of_heap j;have s3:=e3.size;have aE:mc (λx=>A x\/x=s) mk ms H M:=(hp.more (A':=λx=>A x\/x=s) λb l=>l.imp id λh=>cM).ext e3;refine fu (n:=2^H.doors.length) (λi=>[(0,dj wp),(5,dj s),(8,.int .u8 p),(55,.int .u8 (2^H.doors.length:Nat)),(56,.int .u8 i)]) (λi D=>jL n0 w D/\mc (λx=>A x\/x=s) mk ms H D/\eO w.heap.size D (.slice L (dJ H.tries f).length Q) (dJ H.tries f)/\fF D s (dY (dj wp) (.slice L (dJ H.tries f).length Q) v (iK H p i)) 207/\j9 w.heap.size D v (ei H f k).lists) ⟨by trivial,e3.iC n0,aE,B,by rw[Ca];exact j,U⟩ ?_ ?_ ?_;rintro i y hk hJ;exact dN ⟨rfl,rfl,by trivial,hJ⟩;rintro i y hk ⟨m4,af,ag,z,U⟩;have r:i<32:=cM;have aQ:=wE H p i;refine Ly i 32 r (UO z cM λw5 k5 X=>?_);have Y:∀{a b:cJ},dz (λx=>x=s) a b->fF a s (dY (dj wp) (.slice L (dJ H.tries f).length Q) v (iK H p i)) 207\/fF a s (dY (dj wp) (.slice L (dJ H.tries f).length Q) v ((iK H p i).set i (-1))) 207->eO w.heap.size a (.slice L (dJ H.tries f).length Q) (dJ H.tries f)->j9 w.heap.size a v (ei H f k).lists->eO w.heap.size b (.slice L (dJ H.tries f).length Q) (dJ H.tries f)/\j9 w.heap.size b v (ei H f k).lists:=λkk l ha hl=>by refine⟨dg.keep ha kk λx T P=>?_,hl.keep kk λx cs t P hc ht=>?_⟩;have⟨ar,q'⟩:=dg.c_ ha T;subst P;obtain l|l:=l<;>exact lf l q' kg;subst P;obtain l|l:=l<;>exact lf l hc (by obtain rfl|rfl|rfl:=ht<;>decide)
 have⟨ah,ai⟩:=Y k5 (.inl z) ag U;have m5:jL n0 w w5:=m4.cT k5 cM;have aj:=af.keep k5 λx T=>.inr T;refine S5 _ rfl (gP ⟨λhn=>?_,λhn=>?_⟩);have K:Qh i p=false:=by rw[<-Hr i r p J];simpa using hn
 refine EO (m:=i) (n:=1) cM ⟨by trivial,m5,aj,ah,?_,ai⟩;rw[qx _ _ _ r,o8,K];exact X;have K:Qh i p=true:=by rw[<-Hr i r p J];simpa using hn
 have au:=h.iC m5;have⟨aR,aS,z1,z2,z3,z4⟩:=au.at_;have aF:∀b,(A b\/b=s)->b<w5.heap.size:=λb l=>l.elim (λl=>Cq (hA b l) m5.size) λe=>by subst e;exact dA.lt_of_heap X
 refine cP z1 (cX (AU au.g aF aj ax ay (Xc _ h5 i hk)) ?_);rintro v6 w6 ⟨m6,u,b,rfl,aa⟩;have av:=m5.trans m6.1;have aw:=m6.2 aj;have Z:=m6.1.at_ X;cases ab:fT H i with
 |none=>
  rw[ab]at aa;obtain⟨rfl,rfl⟩:=aa;refine kZ rfl (EO (m:=i) (n:=1) cM ⟨by trivial,av,aw,dg.iC ah m6.1,?_,ai.iC m6.1⟩);rw[qx _ _ _ r,o8,K,ab];exact Z
 |some ls=>
  rw[ab]at aa;obtain⟨rfl,a,c,rfl,_,_⟩:=aa;refine ko rfl (dm (Ly i 32 r (UO Z (by rw[sJ];omega) λw7 k7 ac=>EO (m:=i) (n:=1) cM ?_)));have⟨aG,aH⟩:=Y k7 (.inr Z) (dg.iC ah m6.1) (ai.iC m6.1);refine⟨by trivial,av.cT k7 cM,aw.keep k7 λx T=>.inr T,aG,?_,aH⟩;rw[qx _ _ _ r,o8,K,ab];rw[List.set_set]at ac;exact ac
 rintro y ⟨m4,af,ag,z,U⟩;refine⟨_,rfl,⟨m4,λ_=>af.fewer λb l=>.inl l⟩,s,rfl,Hm ak al k,⟨cM,_,_,_,z⟩,dj wp,_,v,(0,0),.inr ⟨_,rfl⟩,?_,ag.RL,U.RL⟩;rw[z,W,<-al];rfl
end Go.Proofs.W
namespace Go.Proofs.W
open Go.Conc Go.dA Go.dA.Cr Go.dA.Wg Go.RowKit Go.Conc.Lib Go.ConcR.Gen
open Go.ConcN Go.ConcN.Gen
open Go.ConcR (KK wgBlock WgAt stA smA mk DC0)
abbrev LF:List Nat:=[193,194]
def Yp:LF.all (okF LF true (λ_=>false))=true:=eE
def uq{l:eY}(h:(ii l m)[i]? =some x):∃n,x=.int .i64 n:=by
 have a:x∈(l.map (Value.int .i64)++List.replicate (m-l.iw) (Value.int .i64 0)):=by have:=xZ h;simpa[ii]using this
 grind
def Qo(h:∀(i:Nat) v,W[i]? =some v->∃n,v=.int .i64 n):fX R W W:=
 ⟨rfl,λi v c a b=>by rw[a]at b;cases b;obtain⟨n,rfl⟩:=h i v a;exact .int _ _⟩
def Lz(h:∀(i:Nat) v,W[i]? =some v->∃n,v=.int .i64 n)(a:fX R W X):X=W:=by refine Array.ext a.size.symm λi c d=>?_;have b:W[i]? =some W[i]:=nh d;have e:X[i]? =some X[i]:=nh c;have:=a.at_ i _ _ b e;have⟨n,f⟩:=h i _ b;rw[f]at this⊢;revert this;generalize X[i]=x;intro this;cases this;rfl
def UP(w:cJ)(o:dp)(b:Nat):Prop:=o b/\∃l c a,Pj a/\w.heap[b]? =some (.cells (ii l c) 3 a)
def zl(w:cJ)(A:Nat)(o:dp)(b:Nat):Prop:=b=A\/UP w o b
theorem dS.slice{w:cJ}{o:dp}{s:Sp}{y:SV}{a:dO}(h:dS o w s y)(e:∀b,UP w o b->a.r b b/\a.sh b=none):VR a (.slice y.sa y.sl y.sc) (.slice y.sa y.sl y.sc):=by
 cases s with
 |none=>
  have:y=⟨none,0,0,0,0,false⟩:=h;subst this;exact .gD _ _
 |some s=>
  have⟨l,m,k⟩:=s;obtain⟨_,_,_,_,⟨_,c,_⟩|⟨_,d,c,f,_,_,g,i,j⟩⟩:=h;rw[c];exact .gD _ _;rw[f];have⟨n,p⟩:=e d ⟨c,l,y.sc,g,i,j⟩;exact .slice _ _ (.of _ _ n p)
def JE{g:List Sp}{a:List SV}(H:A m)(I:∀b,C b->A b)(J:a.length=g.length)(f:w.heap[m]? =some (.cells W 199))(t:W.size=k*4)(K:a.length=k) (u:∀j (h:j<a.length),W[4*j]? =some (.slice a[j].sa a[j].sl a[j].sc)/\W[4*j+1]? =some (.int .i64 a[j].m)/\W[4*j+2]? =some (.int .i64 a[j].k)/\W[4*j+3]? =some (.bool a[j].b))
 (x:∀j (h:j<a.length) (L:j<g.length),dS C w g[j] a[j]):xg (qQ LF (λ_=>false) (zl w m C)) w w A B:=by
 refine⟨HR.of (λ_=>rfl) λb y n=>?_,λb y n=>?_⟩;obtain⟨rfl,o⟩:=n;obtain rfl|⟨p,l,c,M,z,q⟩:=o;refine⟨_,_,f,f,.cells ⟨rfl,λi v N d r=>?_⟩ cL⟩;rw[d]at r;cases r;have O:i<W.size:=cL;have s:i/4<a.length:=cM;have⟨D,E,F,G⟩:=u (i/4) s;have:i=4*(i/4)\/i=4*(i/4)+1\/i=4*(i/4)+2\/i=4*(i/4)+3:=cM;obtain e|e|e|e:=this;rw[e,D]at d;cases d;exact(x _ s cM).slice λb p=>⟨⟨rfl,.inr p⟩,rfl⟩;rw[e,E]at d;cases d;exact .int _ _;rw[e,F]at d;cases d;exact .int _ _;rw[e,G]at d;cases d;exact .bool _;exact⟨_,_,q,q,.cells (Qo λi v h=>uq h) cL⟩;obtain⟨rfl,o⟩:=n;obtain rfl|⟨p,_⟩:=o;grind;grind
def VR.Tg{e:dO}(n:dO.Le R e){y:SV}(p:VR R (.slice y.sa y.sl y.sc) (.slice y.sa y.sl y.sc))(h:VR e y.val x):x=y.val:=by
 unfold SV.val at h;cases h with
 | @agg _ d o q=>
  have r:fX e #[.slice y.sa y.sl y.sc,i64 y.m,i64 y.k,.bool y.b] d:=⟨o,q⟩;have s:d.size=4:=o.symm;have f:∀i (j:i<4),VR e (#[Value.slice y.sa y.sl y.sc,i64 y.m,i64 y.k,.bool y.b][i]'(fB j)) (d[i]'cM):=λi j=>
   r.at_ i _ _ (nh (fB j)) (nh cM)
  have t:d[0]'cM=.slice y.sa y.sl y.sc:=by
   have h:=f 0 cM;simp only[List.getElem_toArray,nO]at h;have g:=p.mono n;revert h g;generalize d[0]=z;generalize y.sa=a;intro h g;cases a with
   |none=>cases h;rfl
   |some a=>
    cases h with
    | @slice a C l c h=>
     cases g with
     |slice l c u=>
      rw[u.eq h rfl]
  have v:d[1]'cM=i64 y.m:=by have h:=f 1 cM;simp only[List.getElem_toArray,Ox,nO]at h;revert h;generalize d[1]=z;intro h;cases h;rfl
  have w:d[2]'cM=i64 y.k:=by have h:=f 2 cM;simp only[List.getElem_toArray,Ox,nO]at h;revert h;generalize d[2]=z;intro h;cases h;rfl
  have A:d[3]'cM=.bool y.b:=by have h:=f 3 cM;simp only[List.getElem_toArray,Ox,nO]at h;revert h;generalize d[3]=z;intro h;cases h;rfl
  have:d=#[.slice y.sa y.sl y.sc,i64 y.m,i64 y.k,.bool y.b]:=by refine Array.ext (by simp[s]) λi j B=>?_;have:i=0\/i=1\/i=2\/i=3:=cM;obtain rfl|rfl|rfl|rfl:=this;exact t;exact v;exact w;exact A
  rw[this];rfl
def JF(w:cJ)(A:Nat)(o:dp)(y:SV)(x:cK)(a:cJ):Prop:=x=y.val/\∀b,zl w A o b->a.heap[b]? =w.heap[b]?
def Qp{Wg A n:Nat}{own rd o:dp}{cs:eH}{z:List Sp}{a:List SV}{pl:Addr}{caller:Frame}{cl:List Frame}(hA:own A)(ho:∀b,o b->own b)(hl:a.length=z.length) (B:w.heap[A]? =some (.cells cs 199))(M:cs.size=n*4)(hn:a.length=n)(C:n<=65536) (hc:∀j (h:j<a.length),cs[4*j]? =some (.slice a[j].sa a[j].sl a[j].sc)/\cs[4*j+1]? =some (.int .i64 a[j].m)/\cs[4*j+2]? =some (.int .i64 a[j].k)/\cs[4*j+3]? =some (.bool a[j].b)) (ha:∀j (h:j<a.length) (h':j<z.length),dS o w z[j] a[j]):
 Wy PR 241 Wg true rd (λN g D=>g=G (caller.finish (dM a).val) cl/\(∀b,own b->N b)/\dS (λb=>o b/\N b) D (qi z) (dM a)) own
  (G (Frame.enter PR 193 #[.slice (some ⟨A,0,none⟩) n n,.func (.func 194) #[.pointer (some pl)] #[]] .normal) (caller::cl)) w:=by
 have hG:Go.dA.Good jV (qQ LF (λ_=>false) (zl w A o)):=CI Yp cL;have d:xg (qQ LF (λ_=>false) (zl w A o)) w w own rd:=JE hA ho hl B M hn hc ha;have f:=Gs a z hl ha;have E:fX (qQ LF (λ_=>false) (zl w A o)) #[.tuple #[]] #[.pointer (some pl)]:=fX.one (.DO rfl pl);have F:fX (qQ LF (λ_=>false) (zl w A o)) #[] #[]:=fX.nil
 have H:fX (qQ LF (λ_=>false) (zl w A o)) #[eT A n n,.func (.func 194) #[.tuple #[]] #[]] #[eT A n n,.func (.func 194) #[.pointer (some pl)] #[]]:=
  fX.OD (.slice _ _ (.mk _ _ ⟨rfl,.inl rfl⟩)) (.func rfl E.size E.at_ F.size F.at_)
 have hS:(qQ LF (λ_=>false) (zl w A o)).S 193=true:=by show LF.contains 193=true;grind
 have t:Go.dA.Reach jV (Go.dA.Left jV 193 (JF w A o (dM a))) ⟨Frame.enter jV 193 #[eT A n n,.func (.func 194) #[.tuple #[]] #[]] .normal,[floor],w⟩:=by
  refine sS (λx D T h=>h) (sY hG (λ_=>rfl) hS H d) λT hT=>?_;have O:A<w.lG:=lt_of_heap B;subst hn;refine(Mv (.tuple #[]) A a (dw w T) C O λj hj=>?_).mono ?_;have⟨c0,c1,c2,c3⟩:=hc j hj;have e:∀k v,cs[k]? =some v->(dw w T).cell? (dt A k)=some v:=λk v h=>by show(match w.heap[A]? with|some (.cells cs _ _)=>_|_=>_)=_;grind
  rw[show j*4=4*j by omega];exact⟨e _ _ c0,e _ _ c1,e _ _ c2,e _ _ c3⟩;rintro e D ⟨rfl,P⟩;refine⟨_,rfl,rfl,λb L=>P.block b ?_⟩;show b<w.lG;obtain rfl|⟨_,_,_,_,_,hw⟩:=L;grind;grind
 have c:=KT (U:=λ_=>True) cL (ty:=241) (Wg:=Wg) (main:=true) (caller:=caller) (cs:=cl) (own:=own) (rd:=rd) hG (λ_=>rfl) hS V.func193 (R:=JF w A o (dM a)) (λx D T h=>h) H t d;have c:Wy PR 241 Wg true rd (Out (λ_=>True) (JF w A o (dM a)) rd (qQ LF (λ_=>false) (zl w A o)) caller cl) own (G (Frame.enter PR 193 #[eT A n n,.func (.func 194) #[.pointer (some pl)] #[]] .normal) (caller::cl)) w:=by have e:V.prog.jj (qQ LF (λ_=>false) (zl w A o)).fs=PR:=SA;rw[e]at c;exact c
 refine(Wy.Uv c).bind λN g D h=>pG λw1 hr=>?_;obtain⟨⟨ρ,x,x',v,rfl,⟨hx,p⟩,hv,u,Q,_⟩,W⟩:=h;subst hx;have X:VR (qQ LF (λ_=>false) (zl w A o)) (.slice (dM a).sa (dM a).sl (dM a).sc) (.slice (dM a).sa (dM a).sl (dM a).sc):=f.slice λb P=>⟨⟨rfl,.inr P⟩,rfl⟩;obtain rfl:=VR.Tg u X hv;refine⟨rfl,W,?_⟩;have I:=Q.rely hr;revert f;generalize dM a=y at p⊢;generalize qi z=s;intro f;cases s with
 |none=>exact f
 |some s=>
  have⟨l,m,k⟩:=s;obtain⟨q1,q2,q3,q4,Y|⟨Y,q,q6,q7,q8,Z,fz,q9,J⟩⟩:=f;exact⟨q1,q2,q3,q4,.inl Y⟩;have L:zl w A o q:=.inr ⟨q6,l,y.sc,fz,q9,J⟩;have⟨ob,ab,k1,k2,k3⟩:=I.heap.obj q q (u.r _ _ ⟨rfl,L⟩);replace k3:=k3.obj (by rw[<-u.g];rfl);rw[p q L,J]at k1;cases k1;cases k3 with
  | @cells _ ac _ _ aa kv kf=>
   have:=Lz (λi v h=>uq h) kv;subst this;exact⟨q1,q2,q3,q4,.inr ⟨Y,q,cL,q7,q8,Z,aa,λK h=>q9 K (kf K h),k2⟩⟩
structure KL(pc rc A pb:Nat)(o own:Nat->Prop)(ss:List Sp)(ys:List SV)(cs:Array cK)(w:cJ):Prop where
 p:w.cell? ⟨pc,0,none⟩=some (.pointer (some ⟨pb,0,none⟩))
 r:w.heap[rc]? =some (fp (dM []))
 a:w.heap[A]? =some (.cells cs 199)
 s:∀j (h:j<ys.length) (h':j<ss.length),dS o w ss[j] ys[j]
def dS.rely{own rd o:dp}{L:dC}{s:Sp}{y:SV}(n:eP own rd L w t)(x:∀b,o b->own b)(h:dS o w s y):dS o t s y:=by
 cases s with
 |none=>exact h
 |some s=>
  have⟨l,m,k⟩:=s;obtain⟨f,g,i,j,a|⟨a,c,p,q,r,d,u,v,e⟩⟩:=h;exact⟨f,g,i,j,.inl a⟩;exact⟨f,g,i,j,.inr ⟨a,c,p,q,r,d,u,v,n.obj cL e⟩⟩
def dS.mono{s:Sp}{y:SV}(n:∀b,A b->B b)(h:dS A w s y):dS B w s y:=by
 cases s with
 |none=>exact h
 |some s=>
  have⟨l,m,k⟩:=s;obtain⟨f,g,i,j,a|⟨a,c,o,p,q,d,r,t,e⟩⟩:=h;exact⟨f,g,i,j,.inl a⟩;exact⟨f,g,i,j,.inr ⟨a,c,n _ o,p,q,d,r,t,e⟩⟩
def dS.same{s:Sp}{y:SV}(o:∀b,A b->t.heap[b]? =w.heap[b]?)(h:dS A w s y):dS A t s y:=by
 cases s with
 |none=>exact h
 |some s=>
  have⟨l,m,k⟩:=s;obtain⟨f,g,i,j,a|⟨a,c,n,p,q,d,r,u,e⟩⟩:=h;exact⟨f,g,i,j,.inl a⟩;exact⟨f,g,i,j,.inr ⟨a,c,n,p,q,d,r,u,(o _ n).trans e⟩⟩
theorem KL.rely{f g A pb:Nat}{o own rd:dp}{L:dC}{ss:List Sp}{ys:List SV}{cs:eH}(d:rd f)(e:own g)(i:own A)(k:∀b,o b->own b):pt own rd L (KL f g A pb o own ss ys cs):=λ_ _ c h=>
 ⟨c.cell (.inr d) h.p,c.obj (.inl e) h.r,c.obj (.inl i) h.a,λj d l=>(h.s j d l).rely c k⟩
def Yq(o:dp)(e:List Sp)(d:List SV)(a:Frame)(f:List Frame):iV:=λc g w=>g=G (a.finish (dM d).val) f/\dS (λb=>o b/\c b) w (qi e) (dM d)
def Wy.Yr{rd X:dp}{S:iV}(h:Wy P T m D (λb=>rd b\/X b) S A Z w):
 Wy P T m D rd (λo Z j=>∃p,S p Z j/\∀b,o b↔p b\/X b) (λb=>A b\/X b) Z w:=by
 obtain⟨z,h⟩:=h
 have i:∀{A:dp} {w g:cJ},eP (λb=>A b\/X b) rd (Lv T m) w g->eP A (λb=>rd b\/X b) (Lv T m) w g:=λc=>
  ⟨c.tape,c.os,c.output,c.size,λb k B=>c.heap b k cL,c.live⟩
 induction h with
 | @here _ A _ _ h=>exact pG λg c=>⟨A,cL,cL⟩
 | @step _ A _ _ t u C v=>
  refine mo t λg c=>?_;obtain⟨q,j,s,f,e,d⟩:=u g (i c);refine⟨q,j,s,λb=>f b\/X b,e,⟨d.tape,d.os,d.output,d.size,λb=>?_,λb k x=>d.same b k cL,λe y=>?_⟩,v g q j s f (i c) e d⟩;constructor;rintro(h|h);exact((d.owns b).1 h).imp .inl id;grind;rintro((h|h)|h);exact .inl ((d.owns b).2 (.inl h));grind;exact .inl ((d.owns b).2 (.inr h));obtain⟨a,l,rfl,h⟩|⟨r,l,rfl,h⟩|rfl:=d.evs e y;refine .inl ⟨a,l,rfl,?_⟩;obtain h|⟨h,n|n⟩|h:=h;exact .inl (.inl h);exact .inr (.inl ⟨h,n⟩);exact .inl (.inr n);exact .inr (.inr h);exact .inr (.inl ⟨r,l,rfl,h.imp .inl id⟩);exact .inr (.inr rfl)
def Nf{e:tg}{m:Mw}{R d oc Wg Ch n pb A:Nat}{rd own o:dp}{ss:List Sp}{ys:List SV}{cs:eH}{caller:Frame}{cl:List Frame}(S:e.x2=.pointer (some ⟨d,0,none⟩))(h1:rd R)(T:own d)(hA:own A)(ho:∀b,o b->own b)(ag:¬o d)(H:A≠d) (hl:ys.length=ss.length)(U:cs.size=n*4)(hn:ys.length=n)(I:n<=65536) (E:∀j (h:j<ys.length),cs[4*j]? =some (.slice ys[j].sa ys[j].sl ys[j].sc)/\cs[4*j+1]? =some (.int .i64 ys[j].m)/\cs[4*j+2]? =some (.int .i64 ys[j].k)/\cs[4*j+3]? =some (.bool ys[j].b)) (x7 V Y Z aa ab ac ad ae:cK):WK PR 241 Wg true rd (Yq o ss ys caller cl) own (KL R d A pb o own ss ys cs) (KY e m R oc Wg Ch n A x7 V Y Z aa ab ac ad ae (caller::cl)):=by
 have i:=KL.rely (pb:=pb) (ss:=ss) (ys:=ys) (cs:=cs) (L:=Lv 241 Wg) h1 T hA ho;simp only[KY,mM,CJ,Ai];refine WK.val (v:=?_) i rfl rfl (by k_ne) (λw=>?_) (λw=>?_) ?_;rotate_left;go_simp;rfl;go_simp;walk_nrm;refine WK.ctl i rfl (λ_=>cZ)<|WK.ctl i rfl (λ_=>dk)<|WK.ctl i rfl (λ_=>stepG_cond (t:=false) rfl) ?_;simp only[iR,fq];refine WK.ctl i rfl (λ_=>stepG_exit rfl)<|WK.ctl i rfl (λ_=>dk)<|WK.ctl i rfl (λ_=>ig) ?_;simp only[CE,im,fa,fP,Nat.reduceAdd,dn,List.range,List.range.loop];refine WK.val (v:=?_) i rfl rfl (by k_ne) (λw=>?_) (λw=>?_) ?_;rotate_left;go_simp;rfl;go_simp;walk_nrm;refine WK.load (v:=dQ pb) i rfl rfl (by k_ne) (λw q=>?_) (λw q e y=>?_) ?_;have E:=(λw q=>q.p) w q;go_simp;have E:=(λw q=>q.p) w q;simp[go_sem,E]at y;exact .inl ⟨_,_,y,.inr (.inl ⟨rfl,h1⟩)⟩;walk_nrm;refine WK.val (v:=?_) i rfl rfl (by k_ne) (λw=>?_) (λw=>?_) ?_;rotate_left;go_simp;rfl;go_simp;walk_nrm;refine WK.enter (f:=193) (fn:=Tryz.f193) i rfl rfl (by k_ne) rfl Tryz.func193 rfl rfl ?_;simp only[List.map_toArray,kI,uI];intro w q;have J:own=λb=>(own b/\b≠d)\/b=d:=cL
 have D:∀N,Wy PR 241 Wg true rd (λO g P=>∃F:dp,((g=G (N.finish (dM ys).val) (caller::cl)/\(∀b,(own b/\b≠d)->F b)/\dS (λb=>o b/\F b) P (qi ss) (dM ys))/\∀b,b=d->P.heap[b]? =w.heap[b]?)/\∀b,O b↔F b\/b=d) own
  (G (Frame.enter PR 193 #[eT A n n,.func (.func 194) #[dQ pb] #[]] .normal) (N::caller::cl)) w:=λN=>by
  have:=Wy.Yr (X:=λb=>b=d) (rd:=rd) (Wy.keep (B:=λb=>b=d) (λb hb=>by subst hb;exact⟨.inr rfl,cL,lt_of_heap q.r⟩) (Qp (rd:=λb=>rd b\/b=d) (own:=λb=>own b/\b≠d) (Wg:=Wg) (A:=A) (n:=n) (pl:=(dt pb 0)) ⟨hA,H⟩ cL hl q.a U hn I E q.s (cl:=caller::cl) (caller:=N)));exact(λ(X:dp) (e:X=λb=>(own b/\b≠d)\/b=d)=>by rw[e];exact this:∀X:dp,(X=λb=>(own b/\b≠d)\/b=d)->Wy PR 241 Wg true rd _ X _ w) own J
 refine(D _).bind ?_;rintro O g w1 ⟨F,⟨⟨rfl,ai,C⟩,K⟩,aj⟩;rw[Frame.finish_at];have af:w1.heap[d]? =some (fp (dM [])):=(K d rfl).trans q.r
 have u:∀s,pt O rd (Lv 241 Wg) λw=>w.heap[d]? =some (fp s)/\dS (λb=>o b/\F b) w (qi ss) (dM ys):=λs w w1 Q h=>
  ⟨Q.obj cL h.1,h.2.rely Q cL⟩
 refine WK.write (bl:=d) (W:=λw P=>P.heap[d]? =some (fp (dM ys))) (u (dM [])) rfl rfl (by k_ne) cL (λw q=>?_) (λw q e y=>?_) ?_ w1 ⟨af,C⟩;have⟨c0,c1,c2,c3,f0,f1,f2,f3⟩:=eS q.1;have hp:=lV (s:=dM ys) q.1;refine⟨jR w d (dM ys),?_,rfl,rfl,rfl,rH _ _ _,λc E=>qP _ _ _ E,hp⟩;simp only[SV.val,jR];go_simp;have⟨c0,c1,c2,c3,f0,f1,f2,f3⟩:=eS q.1;simp only[SV.val]at y;have z:∀(w:cJ) (z:Array Event) (a:Addr) (m:Mode) (x:dW) (l c:Nat),(store a (.slice x l c) m).events PR w z=storedEv PR w z a (.slice x l c) m:=λw z a m x l c=>events_store PR w z a _ m rfl;have eb:∀(w:cJ) (z:Array Event) (a:Addr) (m:Mode) (x:Bool),(store a (.bool x) m).events PR w z=storedEv PR w z a (.bool x) m:=λw z a m x=>events_store PR w z a _ m rfl;simp[go_sem,z,eb,S,c0,c1,c2,c3,f0,f1,f2,f3]at y;have M:O d:=cL;obtain y|y|y|y:=y<;>exact .inl ⟨_,_,y,.inl M⟩;refine WK.mono (K':=λw=>w.heap[d]? =some (fp (dM ys))/\dS (λb=>o b/\F b) w (qi ss) (dM ys)) ?_ ?_;rotate_left;rintro w ⟨w2,w3,q,hW,hs,ah,Q⟩;refine u _ _ _ Q ⟨hW,q.2.same cL⟩;walk_nrm;refine WK.ctl (u _) rfl (λ_=>cZ)<|Pi (u _) (λw h=>h.1) cL cL rfl ?_;refine WK.stop (u _) λw h=>⟨rfl,cL⟩
def Th(e:tg)(b c d f h n:Nat)(i:dp)(Q:dC)(j:Nat->(dp)->cJ->cK->Prop)(k:List Frame):iV:=λa g w=>∃m A,WP e m b c d f A h n i Q j k a g w
def JG{e:tg}{H:Nat->(dp)->cJ->cK->Prop}{I:List Frame}(R:p<=65536)(M:A k)(J:A i)(N:th A S)(T:Ak H) (O f l n q r t u y z B C D E F:cK):
 WK PR 241 j true A (pE PR 241 j o p A (Gj H) (Th e k i j o s p A S H I) ti p (λ_=>false)) (λx=>dr x\/x=d) (KA k i j o d s A S (·=madeCells nH.cells (p*4)))
  (G (lO.at (Ai e k i j p O (.slice (some ⟨d,0,none⟩) p p) undef f l n q r t u y z B C D E F (.slice (some ⟨d,0,none⟩) p p) undef undef undef undef undef undef undef undef undef undef) [.code (oK.seq mq)]) I):=by
 have a:pt (λx=>dr x\/x=d) A (Lv 241 j) (KA k i j o d s A S (·=madeCells nH.cells (p*4))):=KA.rely M J (.inr rfl) N;refine WK.ctl a rfl (λ_=>dk) ?_;unfold oK;refine WK.ctl a rfl (λ_=>dk)<|WK.ctl a rfl (λ_=>ig) ?_;simp only[xk,Ai,im,fa,fP,Nat.reduceAdd,dn,List.range,List.range.loop];refine WK.load (v:=.chan (some o)) a rfl rfl (by k_ne) (λw b=>?_) (λw b e P=>?_) ?_;have Q:=(λw b=>b.s.k.o) w b;go_simp;have Q:=(λw b=>b.s.k.o) w b;simp[go_sem,Q]at P;exact .inl ⟨_,_,P,.inr (.inl ⟨rfl,J⟩)⟩;walk_nrm;refine WK.ctl a rfl (λ_=>cZ)<|WK.ctl a rfl (λ_=>sM)<|WK.ctl a rfl (λ_=>stepG_loop)<|WK.mono (K':=KR k i j o d s p A S H (λx=>dr x\/x=d) (λ_=>false)) ?_ ?_
 exact hears (e:=e) (m:=⟨O,f,l,n,q,r,t,u,y,z,B,C,D,E,F,eT d p p⟩) (λU g w h=>⟨_,d,h⟩) R M J N T p (λ_=>false) _ gU gU gU gU gU gU gU gU gU gU (by
  have:tj (λ_=>false) p=0:=by
   have:∀c,tj (λ_=>false) c=0:=λc=>by
    induction c with
    |zero=>rfl
    |succ c V=>
     have:tj (λ_=>false) (c+1)=tj (λ_=>false) c+0:=rfl;rw[this,V]
   exact this p
  omega)
 rintro w ⟨W,⟨I,X,rfl⟩,K,L⟩;exact⟨W,⟨_,X,size_madeCells _ _,λY _ h=>by cases h⟩,.inr rfl,K,L⟩
def EP{e:tg}{m o c Ch n p L C O:Nat}{Q:dC}{rd:dp}{Pv:Nat->(dp)->cJ->cK->Prop}{cs:List Frame}(y:n<=65536)(t:rd m)(u:rd o)(q:¬rd c)(v:th rd Q)(P:Ak Pv)(R:0<L) (S:∀w,Q w->Pb p h L C a n O w)(B:rd p)(D:rd h.block)
 (d:∀i E w,i<n->KW m E o c Ch ⟨p,0,none⟩ i (λw=>Q w/\∀b,rd b->b<w.heap.size) w->Wy PR 241 c false (λb=>rd b\/b=E) (Sends PR 241 c Ch (Gj Pv) i) dr (born PR (call188 m E o c)) w):
 WK PR 241 c true rd (Sr c Ch n rd (Gj Pv) (Th e m o c Ch p n rd Q Pv cs) n) dr (KS m o c Ch ⟨p,0,none⟩ rd Q) (G (lO.at (nX e m o c n 0 undef undef undef undef undef undef) [.code gG,.inLoop gG,.inBlock 0,.code jF]) cs):=by
 have T:=Vo (e:=e) (cs:=cs) (pl:=(dt p 0)) (Q:=Q) (val:=Gj Pv) (End:=Th e m o c Ch p n rd Q Pv cs) (Nat.lt_of_le_of_lt y kg) t u q v d (λx f g j k l=>
  Gf (z:=ti) t u q v (λx r f g j k l s=>I8 y t u v R S B D x r f g j k l s λA F H I J K M N=>JG y t u v P x r f g j k l s F H I J K M N) x f g j k l) n (di _) gU gU gU gU gU gU
 rwa[lJ]at T
def A1(a:cJ)(B:dp)(w:cJ):Prop:=∀b,B b->w.heap[b]? =a.heap[b]?
def Qq(h:∀b,B b->A b):th A (A1 w B):=λ_ _ c d b a=>(c b (h b a)).trans (d b a)
def xI{w0:cJ}{B rd:dp}(h:∀b,B b->rd b)(a:∀b,B b->b<w0.heap.size):yZ rd (A1 w0 B):=λw f _ g d b c=>by have e:=a b c;have i:=d b c;grind
def Gq.same{f:dW}(b:B m)(c:B h.block)(d:Gq m a k i h j o f p s t)(w:cJ)(e:A1 t B w):Gq m a k i h j o f p s w:=
 ⟨(iy (e m b)).trans d.f1,(iy (e m b)).trans d.ls.f2,(iy (e _ c)).trans d.ls.l0⟩
def Ng(a:Nat->Sp)(j:Nat)(b:dp)(w:cJ)(v:cK):Prop:=∃y:SV,v=y.val/\dS b w (a j) y
def Qr(a:Nat->Sp):Ak (Ng a):=λ_ _ _ _ _ b ⟨y,c,d⟩=>⟨y,c,d.same b⟩
def VL(b:Nat->Sp)(j:Nat)(o:dp)(w:cJ)(v:cK):Prop:=∃a:dp,(∀x,a x->o x/\x<w.heap.size)/\Ng b j a w v
theorem LA{a:Type}(P:Nat->a->Prop):∀n,(∀j,j<n->∃y,P j y)->∃l:List a,l.length=n/\∀j (h:j<l.length),P j l[j]
 |0,_=>⟨[],rfl,λj h=>by cases h⟩
 |n+1,h=>by
  have⟨l,b,d⟩:=LA P n λj c=>h j cM;have⟨y,e⟩:=h n cM;refine⟨l++[y],by simp[b],λj c=>?_⟩;rw[List.getElem_append];split;exact d j _;have:j=n:=by simp at c;omega
  subst this;simpa[b]using e
def JH(c:cJ)(B:dp)(d n:Nat)(e:Nat->Sp):Prop:=∀(a:dp) (f i:Nat),i<n->(∀b,B b->a b)->Uu a f ⟨d,0,none⟩ i (A1 c B) (VL e i)
def Nh{X B:dp}{gs:Array cQ}{sl:Option (Nat×Nat)}{t:Trace}{q:Nat->Nat}{pb on oc1 L C n c0:Nat}{oa a0:dW}{la:Addr}{M:Nat->Sp}{caller:Frame}{cl:List Frame} (O:∀b,B b->b<w.heap.size/\¬X b)(aA:0<on)(hL:0<L)(aa:Gq pb oa on oc1 la L C a0 n c0 w)(P:B pb)(R:B la.block)(hn:n<=65536)(W:JH w B pb n M) (f:Gk PR X gs (G (Frame.enter PR 163 #[.pointer (some ⟨pb,0,none⟩)] .normal) (caller::cl)) w t q):∃(N:Nat) (ab:Array cQ) (H:cJ) (aB:Option (Nat×Nat)) (t':Trace) (q':Nat->Nat) (X' o:dp) (y:SV),runNT PR N (crowd gs w sl) t=(.next (crowd ab H aB),t')/\Gk PR X' ab (G (caller.finish y.val) cl) H t' q'/\(H.tape=w.tape/\H.os=w.os/\H.output=w.output)/\w.heap.size<=H.heap.size/\(∀b,b<w.heap.size->H.heap[b]? =w.heap[b]?)/\dS o H (qi ((List.range n).map M)) y/\(∀b,o b->w.heap.size<=b/\b<H.heap.size/\¬X' b)/\∀b,X' b->X b\/w.heap.size<=b:=by
 have ac:∀(Wg:Nat) (w:cJ) (d:Nat),Lv 241 Wg w->Lv 241 Wg (w.at d):=λ_ _ _ h=>h;have ad:yZ B (A1 w B):=xI (λ_ h=>h) λb f=>(O b f).1;have⟨τ,h1⟩:=Ph (cs:=caller::cl) ad aA hL (λU hq=>aa.same P R U hq) P R (λb f=>(O b f).1) w ⟨(λx I=>by cases I),List.Pairwise.nil,(λx I=>by cases I),di _,λ_ _=>rfl⟩;obtain⟨N1,aT,U,aD,t1,q1,aR,a1,r1,b1,⟨e,J,rc,oc,Wg,Ch,c,rfl,aE,F,aS⟩,u,aU⟩:=ve (ac 0) (λo g w h=>by obtain⟨_,_,_,_,_,_,_,rfl,_⟩:=h;rfl) h1 gs sl t q f λb f=>by obtain f|f:=f;exact f.elim;exact⟨(O b f).2,(O b f).1⟩
 have aW:=F.at_ (Wg,wgBlock 241 0 0) dq;have ao:=F.at_ (oc,Obj.cells #[.chan (some Ch)] 232) dq;have aC:=F.at_ (Ch,Obj.chan 0 #[] false c c false) dq;have ar:=F.at_ (rc,Obj.cells #[fo,i64 0,i64 0,.bool false] 199) dq;have ap:=F.at_ (J,Obj.cells #[dQ pb] 200) dq;have lW:=F.lo (Wg,wgBlock 241 0 0) dq;have lo:=F.lo (oc,Obj.cells #[.chan (some Ch)] 232) dq;have lC:=F.lo (Ch,Obj.chan 0 #[] false c c false) dq;have lr:=F.lo (rc,Obj.cells #[fo,i64 0,i64 0,.bool false] 199) dq;have lp:=F.lo (J,Obj.cells #[dQ pb] 200) dq;have V:=F.inc;simp only[kI,uI,List.pairwise_cons,fi,pA,mh,forall_eq_or_imp,forall_eq]at V;have⟨⟨i1,i2,i3,i4⟩,⟨i5,i6,i7⟩,⟨i8,i9⟩,aF,_⟩:=V;simp only at aW ao aC ar ap lW lo lC lr lp i1 i2 i3 i4 i5 i6 i7 i8 i9 aF;have r:∀b,X b->b<w.heap.size:=f.low;have ae:w.heap.size<=U.heap.size:=u.size;have aG:¬(B Wg\/Wg=J\/Wg=oc):=by rintro(h|h|h);have:=(O _ h).1;omega;omega;omega
 have aH:=EP (e:=e) (cs:=caller::cl) (Ch:=Ch) (rd:=λb=>B b\/b=J\/b=oc) (Pv:=Ng M) hn (.inr (.inl rfl)) (.inr (.inr rfl)) aG (Qq λ_ h=>.inl h) (Qr M) hL (λU hq=>(aa.same P R U hq).ls) (.inl P) (.inl R)
  λi ic H hi hk=>worker (k:=i) (rd:=λb=>(B b\/b=J\/b=oc)\/b=ic) (Q:=A1 w B) (Sc:=VL M i) (val:=Gj (Ng M)) (.inl (.inr (.inl rfl))) (.inr rfl) (.inl (.inr (.inr rfl)))
   (xI (λ_ h=>.inl (.inl h)) λb f=>(O b f).1) (W _ Wg i hi λ_ h=>.inl (.inl h)) (λo w a l c m n s h=>by have⟨oj,h1,h2⟩:=h;exact⟨a,l,c,m,n,s,oj,rfl,h1,h2⟩) H ⟨hk.p,hk.i,hk.o,hk.live,hk.q.1⟩
 have hS:qd PR 241 Wg Ch n (λb=>B b\/b=J\/b=oc) (Gj (Ng M)) (Th e J oc Wg Ch pb n (λb=>B b\/b=J\/b=oc) (A1 w B) (Ng M) (caller::cl)) n dr
  (G (lO.at (nX e J oc Wg n 0 undef undef undef undef undef undef) [.code gG,.inLoop gG,.inBlock 0,.code jF]) (caller::cl)) U:=by
  rw[CF];refine aH U ⟨⟨by simp[World.cell?,ap],by simp[World.cell?,ao],λb f=>?_,F.q⟩,⟨0,0,aW⟩⟩;obtain f|rfl|rfl:=f;exact ew (O b f).1 ae;exact lt_of_heap ap;exact lt_of_heap ao
 obtain⟨N2,m2,t2,r2,af,w2,aI,a2,q2,z,rfl,aJ,⟨m,A,x7,ag,ah,ai,aj,ak,al,am,an,rfl,Y⟩,aK,aL,S,D,aq,K,au⟩:=phase (sl:=aD) cM b1.at0 b1.leavers b1.past (λb f=>by obtain f|rfl|rfl:=f;have:=(O b f).1;exact⟨cM,(O b f).2,cM,cM⟩;exact⟨lt_of_heap ap,λI=>iI (r _ I),cM,cM⟩;exact⟨lt_of_heap ao,λI=>iI (r _ I),cM,cM⟩) (by omega:Wg≠Ch) (λI=>iI (r _ I)) (λI=>iI (r _ I)) aW aC hS;have⟨cs,hA,aM,av⟩:=Y.a
 have⟨ys,aw,hP⟩:=LA (λj (y:SV)=>(cs[4*j]? =some (.slice y.sa y.sl y.sc)/\cs[4*j+1]? =some (i64 y.m)/\cs[4*j+2]? =some (i64 y.k)/\cs[4*j+3]? =some (.bool y.b))/\
  dS (λb=>z b/\b≠A) w2 (M j) y) n λj hj=>by
  have⟨sa,sl,sc,mm,k,b,oj,g1,g2,g3,g4,g5,y,hy,hs⟩:=av j hj rfl;have⟨ya,yl,yc,ym,yk,yb⟩:=y;simp only[oL,SV.val]at hy;injection hy with hy;simp at hy;obtain⟨⟨rfl,rfl,rfl⟩,rfl,rfl,rfl⟩:=hy;exact⟨_,⟨g2,g3,g4,g5⟩,hs.mono λb f=>⟨(g1 b f).1,(g1 b f).2.1⟩⟩
 have aN:rc<U.heap.size:=lt_of_heap ar;have ax:¬z rc:=λh=>iI ((S _ h).1);have ay:=Y.oa
 have Z:=Nf (e:=e) (m:=m) (pb:=pb) (Ch:=Ch) (oc:=oc) (rd:=λb=>B b\/b=J\/b=oc) (own:=λb=>z b\/b=rc) (o:=λb=>z b/\b≠A) (ss:=(List.range n).map M) (ys:=ys) (cs:=cs) (caller:=caller) (cl:=cl) (Wg:=Wg) aE (.inr (.inl rfl)) (.inr rfl) (.inl ay)
  (λb f=>.inl f.1) (λh=>ax h.1) (λe=>ax (e▸ay)) (by simp[aw]) aM aw hn (λj hj=>(hP j hj).1) x7 ag ah ai aj ak al am an w2
  ⟨Y.s.k.p,(D rc aN cM cM).trans ar,hA,λj h1 h2=>fB ((hP j h1).2)⟩
 have⟨aV,h3⟩:=Z;have b2:Gk PR (λb=>b=Wg\/b=Ch\/X b) af (KY e m J oc Wg Ch n A x7 ag ah ai aj ak al am an (caller::cl)) w2 t2 q2:=⟨aJ,rfl,aK,aL,λb f=>by obtain rfl|rfl|f:=f;exact au;have:=lt_of_heap aC;omega;have:=r b f;omega⟩;obtain⟨N3,aO,w3,aP,t3,q3,az,a3,r3,b3,⟨rfl,T⟩,v,aQ⟩:=ve (ac Wg) (λo g w h=>by obtain⟨rfl,_⟩:=h;rfl) h3 af aI t2 q2 b2 λb f=>by obtain(f|rfl)|f|rfl|rfl:=f;have:=S b f;exact⟨by rintro(h|h|h);exact this.2.2.1 h;exact this.2.2.2 h;have:=r b h;omega,this.2.1⟩;exact⟨by rintro(h|h|h);omega;omega;have:=r _ h;omega,cM⟩;have:=O b f;exact⟨by rintro(h|h|h);omega;omega;exact this.2 h,cM⟩;have:=lt_of_heap ap;exact⟨by rintro(h|h|h);omega;omega;have:=r _ h;omega,cM⟩;have:=lt_of_heap ao;exact⟨by rintro(h|h|h);omega;omega;have:=r _ h;omega,cM⟩
 refine⟨N1+(N2+N3),aO,w3,aP,t3,q3,λb=>b=Wg\/b=Ch\/X b,λb=>(z b/\b≠A)/\az b,dM ys,Go.dA.runNT_add r1 (Go.dA.runNT_add r2 r3),b3,⟨v.tape.trans (K.1.trans u.tape),v.os.trans (K.2.1.trans u.os),v.output.trans (K.2.2.trans u.output)⟩,
  du ae (du aq v.size),λb E=>?_,T,λb E=>?_,λb E=>?_⟩
 rw[v.heap b cM (by rintro(h|h);have:=(S b h).1;omega;omega),D b cM cM cM,u.heap b E (λh=>h.elim)];have h2:=S b E.1.1;have h3:=aQ b (.inl E.2);exact⟨cM,h3.2,h3.1⟩;obtain rfl|rfl|h:=E;exact .inr lW;exact .inr lC;exact .inl h
def Qs(w:cJ):(Instr.build 199 #[(3,.bool true)]).run PR w=.ok (.agg #[.slice none 0 0,.int .i64 0,.int .i64 0,.bool true]) w:=eE
def Ni(w:cJ):(Instr.build 199 #[(3,.bool true)]).events PR w #[]=#[]:=eE
def Nj{o B m0:Nat}{Q:dC}{rd:dp}{caller:Frame}{cl:List Frame}(A:yZ rd Q) (M:∀w,Q w->w.cell? ⟨o,1,none⟩=some (.slice a 0 B))(F:rd o)(H:∀b,rd b->b<m0):
 WK PR 241 0 true rd (λ_ g _=>g=G (caller.finish (SV.mk none 0 0 0 0 true).val) cl) dr (KO [] Q m0) (G (Frame.enter PR 163 #[.pointer (some ⟨o,0,none⟩)] .normal) (caller::cl)):=by
 rw[Gr];have N:∀x∈([]:List (Nat×Obj)),dr x.1:=λx p=>by cases p
 have C:=KO.rely (Q:=Q) (m0:=m0) (rd:=rd) (own:=dr) (L:=Lv 241 0) N A;simp only[we,SB];refine WK.ctl C rfl (λ_=>dk)<|WK.ctl C rfl (λ_=>ig) ?_;simp only[Ae,im,fa,fP,Nat.reduceAdd,dn,List.range,List.range.loop];refine WK.Jc (f:=λn=>dQ n) (ob:=.cells #[dQ o] 200) N A rfl rfl (by k_ne) (λw i=>?_) (λw i e j=>?_) λr _ _=>?_
 ·go_simp;first|done|rfl
 simp[go_sem]at j;walk_nrm;have Y:∀x∈[(r,Obj.cells #[dQ o] 200)],(λx=>dr x\/x=r) x.1:=λx p=>by rw[jE.1 p];exact .inr rfl
 refine WK.Jc (f:=λn=>dQ n) (ob:=.cells #[fo,i64 0,i64 0,.bool false] 199) Y A rfl rfl (by k_ne) (λw i=>?_) (λw i e j=>?_) λs _ _=>?_
 ·go_simp;first|done|rfl
 simp[go_sem]at j;walk_nrm;have O:∀x∈[(s,Obj.cells #[fo,i64 0,i64 0,.bool false] 199),(r,Obj.cells #[dQ o] 200)],(λx=>(dr x\/x=r)\/x=s) x.1:=λx p=>by obtain rfl|p:=fi.1 p;exact .inr rfl;rw[jE.1 p];exact .inl (.inr rfl)
 have d:=KO.rely (m0:=m0) (L:=Lv 241 0) (own:=λx=>(dr x\/x=r)\/x=s) O A;have D:∀w,KO [(s,Obj.cells #[fo,i64 0,i64 0,.bool false] 199),(r,Obj.cells #[dQ o] 200)] Q m0 w->w.cell? (dt r 0)=some (dQ o):=λw i=>by have:=i.at_ (r,Obj.cells #[dQ o] 200) dq;simp[World.cell?,this]
 refine WK.ctl d rfl (λ_=>cZ)<|WK.ctl d rfl (λ_=>dk)<|WK.ctl d rfl (λ_=>dk)<|WK.ctl d rfl (λ_=>ig) ?_;simp only[Af,im,fa,fP,Nat.reduceAdd,dn,List.range,List.range.loop];refine WK.load (v:=dQ o) d rfl rfl (by k_ne) (λw i=>?_) (λw i e j=>?_) ?_;have k:=(D) w i;go_simp;have k:=(D) w i;simp[go_sem,k]at j;exact .inl ⟨_,_,j,.inl (.inl (.inr rfl))⟩;walk_nrm;refine WK.val (v:=?_) d rfl rfl (by k_ne) (λw=>?_) (λw=>?_) ?_;rotate_left;go_simp;rfl;go_simp;walk_nrm;refine WK.val (v:=?_) d rfl rfl (by k_ne) (λw=>?_) (λw=>?_) ?_;rotate_left;go_simp;rfl;go_simp;walk_nrm;refine WK.load (v:=.slice a 0 B) d rfl rfl (by k_ne) (λw i=>?_) (λw i e j=>?_) ?_;have k:=(λw i=>M w i.q) w i;go_simp;have k:=(λw i=>M w i.q) w i;simp[go_sem,k]at j;exact .inl ⟨_,_,j,.inr (.inl ⟨rfl,F⟩)⟩;walk_nrm;refine WK.val (v:=?_) d rfl rfl (by k_ne) (λw=>?_) (λw=>?_) ?_;rotate_left;go_simp;rfl;go_simp;walk_nrm;refine WK.val (v:=.bool true) d rfl rfl (by k_ne) (λw=>?_) (λw=>?_) ?_;go_simp;simp[go_sem];walk_nrm;refine WK.ctl d rfl (λ_=>cZ)<|WK.ctl d rfl (λ_=>stepG_cond (t:=true) rfl) ?_;simp only[em];refine WK.ctl d rfl (λ_=>dk)<|WK.ctl d rfl (λ_=>ig) ?_;simp only[F9,im,fa,fP,Nat.reduceAdd,dn,List.range,List.range.loop];have I:=Qs;have J:=Ni;refine WK.val (v:=.agg #[fo,i64 0,i64 0,.bool true]) d rfl rfl (by k_ne) (λw=>?_) (λw=>?_) ?_
 ·go_simp;first|done|rfl|simp only[I]
 simp[go_sem,J];walk_nrm;refine WK.Pg (pre:=[]) (ob:=fp (dM [])) (ob':=fp (SV.mk none 0 0 0 0 true)) O A (λb E K=>?_) rfl rfl (by k_ne) (λw i=>?_) (λw i e j=>?_) ?_
 ·have:=H b K;obtain(E|E)|E:=E;exact E;all_goals omega
 have k:=i.at_ (s,fp (dM [])) dq;have⟨P,R,S,T,U,V,W,X⟩:=eS k;refine⟨jR w s ⟨none,0,0,0,0,true⟩,?_,rfl,rfl,rfl,rH _ _ _,λc k=>qP _ _ _ k,lV k⟩;simp only[jR];go_simp;have k:=i.at_ (s,fp (dM [])) dq;have⟨P,R,S,T,U,V,W,X⟩:=eS k;have u:∀(w:cJ) (u:Array Event) (z:Addr) (m:Mode) (x:dW) (l c:Nat),(store z (.slice x l c) m).events PR w u=storedEv PR w u z (.slice x l c) m:=λw u z m x l c=>events_store PR w u z _ m rfl;have Z:∀(w:cJ) (u:Array Event) (z:Addr) (m:Mode) (x:Bool),(store z (.bool x) m).events PR w u=storedEv PR w u z (.bool x) m:=λw u z m x=>events_store PR w u z _ m rfl;simp[go_sem,u,Z,P,R,S,T,U,V,W,X]at j;obtain j|j|j|j:=j<;>exact .inl ⟨_,_,j,.inl (.inr rfl)⟩;walk_nrm;have h3:∀x∈[(s,fp (SV.mk none 0 0 0 0 true)),(r,Obj.cells #[dQ o] 200)],(λx=>(dr x\/x=r)\/x=s) x.1:=λx p=>by obtain rfl|p:=fi.1 p;exact .inr rfl;rw[jE.1 p];exact .inl (.inr rfl)
 have y:=KO.rely (m0:=m0) (L:=Lv 241 0) (own:=λx=>(dr x\/x=r)\/x=s) h3 A;exact WK.ctl y rfl (λ_=>cZ)<|Pi y (λw h=>h.at_ (s,fp (SV.mk none 0 0 0 0 true)) dq) (.inr rfl) dq rfl<|WK.stop y λw h=>rfl
def JI{i:Array cQ}{sl:Option (Nat×Nat)}{t:Trace}{q:Nat->Nat}{caller:Frame}{cl:List Frame} (v:m<w.heap.size/\¬A m)(x:w.cell? ⟨m,1,none⟩=some (.slice a 0 k))(j:Gk PR A i (G (Frame.enter PR 163 #[.pointer (some ⟨m,0,none⟩)] .normal) (caller::cl)) w t q):∃(N:Nat) (f:Array cQ) (e:cJ) (l:Option (Nat×Nat)) (r:Trace) (y:Nat->Nat),runNT PR N (crowd i w sl) t=(.next (crowd f e l),r)/\Gk PR A f (G (caller.finish (SV.mk none 0 0 0 0 true).val) cl) e r y/\(e.tape=w.tape/\e.os=w.os/\e.output=w.output)/\w.heap.size<=e.heap.size/\(∀b,b<w.heap.size->e.heap[b]? =w.heap[b]?):=by have⟨K,z⟩:=Nj (caller:=caller) (cl:=cl) (xI (B:=λb=>b=m) (rd:=λb=>b=m) (w0:=w) cL cL) (λs C=>(iy (C m rfl)).trans x) rfl cL w ⟨cL,List.Pairwise.nil,cL,di _,λ_ _=>rfl⟩;obtain⟨D,n,s,p,E,F,u,L,H,I,rfl,c,J⟩:=ve (λw d h=>h) (λo g w h=>by rw[h];rfl) z i sl t q j cL;exact⟨D,n,s,p,E,F,H,I,⟨c.tape,c.os,c.output⟩,c.size,λb j=>c.heap b j cL⟩
end Go.Proofs.W
namespace Go.dA
open Go.Conc
section
variable{P:cU}{fs:Array Func}{w0:cJ}
def FQ.ends{Q:nu}{Post:nu}{c:rA}{s:Array cQ}{w:cJ}{sl:Option (Nat×Nat)}{t:Trace}{q:Nat->Nat} (h:FQ P fs w0 R A c s Z w t q)(hs:Left P K Q c.fr c.cl c.v){r:Func}{j:Tmp}(k:P.funcs[K]? =some r)(u:r.results=#[.tmp j])(z:R.hole K=false)(C:(P.jj fs).inits.idxOf? K=none) (f:∀x S d,Q x c.v->VR R x S->Post S (w.at d)):∃N last o E T,runNT (P.jj fs) (N+1) (crowd s w sl) t=(.ended o E,T)/\runN (P.jj fs) N (crowd s w sl)=.next last/\Go.step (P.jj fs) last=.ended o E/\Go.Conc.Good (P.jj fs) Post last o E T:=by
 have⟨h1,F,x,h3,H,h5,h6,ab,U,l⟩:=hs;rw[F,k]at U;obtain rfl:=dT U;have a:eN P R c.fr Z.frame:=by
  have e:=h.gor.fr;generalize a:(G c.fr c.cl).frame=fr at e;generalize V:Z.frame=b at e;cases e with
  |fr k=>subst a;exact k
  | @hole g hS hh xs ac W=>
   have:c.fr=Frame.enter P g xs .normal:=a;rw[this]at H;cases H
 have⟨b,ad,ae,af,ag⟩:=Z;have⟨I,ah,e1,J,hX⟩:=h.gor.callers;have X:=h.gor.st.2;have Y:=h.gor.dy.2;have e5:=h.gor.of.2;simp only at J X Y e5 a;have p:c.cl=I++[floor]:=e1;rw[h1]at p;have L:I=[]:=by
  cases I with
  |nil=>rfl
  |cons y ys=>simp at p
 subst L;cases hX;simp only[List.append_nil]at J;subst J X Y e5;have m2:b.mode=.returning:=by have i:=a.mode;rw[H]at i;generalize b.mode=m at i⊢;cases i;rfl
 have d2:b.defers=[]:=by have i:=a.defers;rw[h5]at i;generalize b.defers=m at i⊢;cases i;rfl
 have k2:b.kind=.normal:=a.kind▸h6;have f2:b.fn=K:=a.fn▸F;have g2:(P.jj fs).funcs[K]? =some r:=by have⟨ai,c2,j1,_,_,j4⟩:=h.good.two.fn K (F▸a.fnS.1);rw[j4 z]at k;rw[<-h.same];show R.fs[K]? =_;rw[j1,k]
 have r2:∀M,results r M=Pure.pure (M.getD j gU):=by intro M;simp[results,u]
 have W:x=c.fr.tmps.getD j gU:=by rw[r2]at l;simp only[Sem.run_pure]at l;injection l with l;exact l.symm
 have O:VR R x (b.tmps.getD j gU):=by rw[W];exact a.tmps.getD .undef j
 refine beside_ends (Shun:=pD A) (B:=w.lG) (D:=λ_ _ _=>False) (n:=0) (λ_ _ _ h=>h.elim) h.at0 h.leavers h.past ?_;rintro aa ⟨d,rfl⟩;refine⟨rfl,b.tmps.getD j gU,#[],?_,dq,f x _ d h3 O⟩;simp[stepG,unwind,doReturn,m2,d2,k2,f2,g2,r2,C,kL,seen];rfl
end
section
variable{P:cU}{Stop:Frame->List Frame->cJ->Prop}
def LD(P:cU)(Stop:Frame->List Frame->dC):Prop:=∀b a v,Stop b a v->a≠[]/\∀T c d e,stepG P true (G b a) (dw v T)=.go c d e->c.callers=[]
theorem A2{a:Frame}{v c:cJ}{d:Array Event}(g:a.defers=[])(b:(a.mode=.returning/\a.kind=.normal/\∃e,P.funcs[a.fn]? =some e)\/∃f,a.mode=.panicking f) (h:stepG P true (G a [floor]) v=.go Z c d):Z.callers=[]:=by
 obtain⟨b,i,e,j⟩|⟨f,b⟩:=b;simp only[stepG,unwind,G,b,g,j,doReturn,i]at h;grind [results,runT,GStep.after];have k:unwind P true a [floor] none v=.go Z c d:=by grind [stepG,G]
 unfold unwind at k;grind
theorem A3{c a:Frame}{d b:List Frame}{v e:cJ}(h:lone c d v=lone a b e):c=a/\d=b/\v=e:=by grind [Array.mk.injEq,List.cons.injEq,lone]
def JJ(v:cJ):dw v v.tape=v:=rfl
def yC(B:LD P Stop):∀(n:Nat) {c:rA} {T:Ta} {p:Frame} {m:List Frame} {w:cJ},Inv P c->Below c.v T->runN P (n+1) (lone c.fr c.cl (dw c.v T))=.next (lone p m w)->m≠[]->Path P Stop c ⟨p,m,w⟩/\Inv P ⟨p,m,w⟩:=by
 intro n;induction n with
 |zero=>
  intro c T p m w t u h j;obtain⟨o,C,g,e⟩|⟨x,f,g,e,s⟩|⟨a,b,f,g,e,d⟩:=(t.dw T).step;exfalso;simp only[runN,oD e]at h;grind;exfalso;have⟨a,b,D,E,F⟩:=x;have⟨k,l,q,r,y⟩:=s;simp only at q k l r y;subst q k l r;simp only[runN,rB (show stepG P true (G c.fr c.cl) (dw c.v T)=.go (G a []) f g from e)]at h;grind [A3];simp only[runN,rB (show stepG P true (G c.fr c.cl) (dw c.v T)=.go (G a b) f g from e)]at h;injection h with h;obtain⟨rfl,rfl,rfl⟩:=A3 h;have i:stepG P true (G c.fr c.cl) (dw c.v T)=.go (G a b) f g:=e;exact⟨.one (λz=>j ((B _ _ _ z).2 T _ _ _ i)) u i,d⟩
 |succ n H=>
  intro c T p m w t u h j;obtain⟨o,C,g,e⟩|⟨x,f,g,e,s⟩|⟨a,b,f,g,e,d⟩:=(t.dw T).step;exfalso;have i:stepG P true (G c.fr c.cl) (dw c.v T)=.ended o C g:=e;rw[runN,oD i]at h;grind;exfalso;have A:=s;have⟨a,b,D,E,F⟩:=x;have⟨k,l,q,r,y⟩:=s;simp only at q k l r y;subst q k l r;have⟨o,L,I,J⟩:=A.ended (P:=P) true f;rw[runN,rB (show stepG P true (G c.fr c.cl) (dw c.v T)=.go (G a []) f g from e)]at h;dsimp only at h;rw[runN,oD (show stepG P true (G a []) f=_ from J)]at h;grind;have i:stepG P true (G c.fr c.cl) (dw c.v T)=.go (G a b) f g:=e;rw[runN,rB i]at h;dsimp only at h;have K:¬Stop c.fr c.cl c.v:=λz=>d.callers ((B _ _ _ z).2 T _ _ _ i);have⟨k,l⟩:=H (c:=⟨a,b,f⟩) (T:=f.tape) d (λ_ _=>rfl) h j;exact⟨.cons K u i k,l⟩
def Path.reach{c d:rA}(h:Path P Stop c d)(f:Reach P Stop c):Reach P Stop d:=by
 induction h with
 |one a b e=>exact f.follow a b e
 |cons a b e _ g=>exact g (f.follow a b e)
def Calm(P:cU)(v:cJ)(a:Frame):Prop:=(∃e,P.funcs[a.fn]? =some e)/\∀d∈a.defers,∃b,d.target=.collected b/\∀c,v.heap[b]? =some (.deferred (some c))->c=[]
def C0(v d:cJ):Prop:=∀(b:Nat) (a:eH) (t:cR) (c:Nat×Nat),v.heap[b]? =some (Obj.cells a t c)->d.heap[b]? =some (Obj.cells a t c)
structure LG(P:cU)(v0:cJ)(c:rA):Prop where
 mode:∃ch,c.fr.mode=.panicking ch
 calm:Calm P c.v c.fr
 callers:∃X,c.cl=X++[floor]/\∀x∈X,Calm P c.v x
 kept:C0 v0 c.v
 back:C0 c.v v0
 size:c.v.heap.size=v0.heap.size
def run_takeDeferred(b:Nat)(v:cJ):(∃h w,(Instr.takeDeferred b).run P v=.halt h w)\/∃a,v.heap[b]? =some (.deferred (some a))/\(Instr.takeDeferred b).run P v=.ok a {v with heap:=v.heap.setIfInBounds b (.deferred none)}:=by
 unfold Instr.takeDeferred;simp only[Sem.run_bind];cases d:v.heap[b]? with
 |none=>simp[Sem.run,getObj,d]
 |some o=>
  cases o with
  |deferred c=>cases c with
   |none=>simp[Sem.run,getObj,d,stuck]
   |some a=>exact .inr ⟨a,rfl,by simp[Sem.run,getObj,setObj,d]⟩
  |_=>simp[Sem.run,getObj,d,stuck]
def Frame.EQ(a:Frame)(b:List PanicEntry):(a.raise b).defers=a.defers/\(a.raise b).fn=a.fn/\∃c,(a.raise b).mode=.panicking c:=by unfold Frame.raise;grind
def LG.stop(V:LD P Stop){v0:cJ}:∀{c:rA},Reach P Stop c->LG P v0 c->∃z,Stop z.fr z.cl z.v/\LG P v0 z:=by
 intro c W;induction W with
 | @here c h=>grind
 | @next c N O Y=>
  intro f;have⟨D,es,e⟩:=N c.v.tape (λ_ _=>rfl);have E:=O _ _ _ (λ_ _=>rfl) e;have m:=Y _ _ _ (λ_ _=>rfl) e;rw[JJ]at e;have⟨F,Q⟩:=f.mode;have⟨⟨Z,H⟩,n⟩:=f.calm;have⟨X,R,l⟩:=f.callers;have p:c.fr.catches P=false:=by unfold Frame.catches;grind
  cases A:c.fr.defers with
  |nil=>
   simp only[stepG,unwind,G,Q,A,p,R,iR,fq]at e;cases X with
   |nil=>
    exfalso;simp only[qI]at e;injection e with q g I;injection q with i j;have⟨r,s,S⟩:=D;simp only at g i j;subst g i j;cases E with
    |here h=>exact(V _ _ _ h).1 rfl
    |next k1 k2=>
     have⟨c2,aa,g⟩:=k1 c.v.tape (λ_ _=>rfl);have⟨o,w',ab,I⟩:=(show zR (G (floor.raise F) [])from⟨rfl,rfl,rfl,rfl,.inr ⟨_,rfl⟩⟩).ended (P:=P) true (dw c.v c.v.tape);grind
   |cons x X=>
    simp only[nM]at e;injection e with q g I;injection q with i j;have⟨r,s,S⟩:=D;simp only at g i j;subst g i j;have⟨r1,r2,r3⟩:=Frame.EQ x F;refine m ⟨r3,?_,⟨X,rfl,λy hy=>l y (jD _ hy)⟩,f.kept,f.back,f.size⟩;have:=l x (fW ..);exact⟨by rw[r2];exact this.1,by rw[r1];exact this.2⟩
  |cons d ds=>
   have⟨b,T,u⟩:=n d cL;have⟨ac,U⟩:=d;simp only at T;subst T;simp only[stepG,unwind,G,Q,A,kL]at e;obtain⟨h,w,k⟩|⟨J,K,k⟩:=run_takeDeferred (P:=P) b c.v;grind [GStep.after]
   ·rw[k]at e;simp only[GStep.after]at e;injection e with q g I;injection q with i j;obtain rfl:=u J K;have⟨r,s,S⟩:=D;simp only at g i j;subst g i j;have a:∀x,Calm P c.v x->Calm P {c.v with heap:=c.v.heap.setIfInBounds b (.deferred none)} x:=λx B=>⟨B.1,λd A=>by have⟨C,N,O⟩:=B.2 d A;grind⟩;refine m ⟨⟨F,cL⟩,a _ ⟨⟨Z,H⟩,λd h=>n d cL⟩,⟨X,R,λx B=>a x (l x B)⟩,λC L t M h=>?_,λC L t M h=>f.back C L t M ?_,fB f.size⟩;rotate_left;grind;have h':=f.kept C L t M h;grind
def Qt(j:LD P Stop){fr:Frame}{v:cJ}(k:Reach P Stop ⟨fr,[floor],v⟩)(l:Inv P ⟨fr,[floor],v⟩)(I:¬Stop fr [floor] v)(m:fr.defers=[]) (n:(fr.mode=.returning/\fr.kind=.normal/\∃p,P.funcs[fr.fn]? =some p)\/∃q,fr.mode=.panicking q):False:=by
 cases k with
 |here h=>grind
 |next r s=>
  have⟨a,t,e⟩:=r v.tape (λ_ _=>rfl);have g:=s _ _ _ (λ_ _=>rfl) e;have b:stepG P true (G fr [floor]) v=.go (G a.fr a.cl) a.v t:=e;have u:a.cl=[]:=A2 m n b;obtain⟨o,J,c,f⟩|⟨K,w,c,f,x⟩|⟨y,z,w,c,f,d⟩:=l.step;grind;rw[show stepG P true (G fr [floor]) v=_ from f]at b;injection b with i A B;cases g with
  |here h=>exact(j _ _ _ h).1 u
  |next C L=>
   have⟨M,D,E⟩:=C a.v.tape (λ_ _=>rfl);have⟨o,N,F,H⟩:=x.ended (P:=P) true (dw a.v a.v.tape);grind
  rw[show stepG P true (G fr [floor]) v=_ from f]at b;injection b with i A B;injection i with E H;exact d.callers cL
def Nk{b c a:Machine}(h:runN P m b=.next c)(d:Go.step P c=.next a):runN P (m+1) b=.next a:=by
 induction m generalizing b with
 |zero=>
  grind [runN]
 |succ m e=>
  grind [runN,Go.step]
theorem Ti{v:cJ}(n:Good P R)(p:¬R.Def)(q:∀b l,R.r b l->∃o i,v.heap[b]? =some o/\(∃u:cJ,u.heap[l]? =some i)/\Kx R (R.sh b) o i){x m:Frame}(h:eN P R x m):Calm P v x:=by
 have⟨s,c,j,_,_⟩:=n.fit.fn _ h.fnS.1;refine⟨⟨s,j⟩,?_⟩;have f:=h.defers;revert f;generalize x.defers=t;generalize m.defers=w;intro f;induction f with
 |nil=>grind
 |cons y z _ B=>
  intro d f;obtain rfl|f:=fi.1 f;have⟨b,g⟩:=z.resolve_left p;refine⟨b,g,λt a=>?_⟩;cases y with
  |collected A=>
   injection g with g;subst g;have⟨o,i,j,_,k⟩:=q _ _ A;rw[j]at a;injection a with a;subst a;obtain⟨_,k⟩|⟨_,_,_,_,_,_,_,e,_⟩:=k;cases k;rfl;grind
  |_=>grind
  grind
def Qu{v:cJ}(e:Good P R)(f:¬R.Def)(g:∀b a,R.r b a->∃o c,v.heap[b]? =some o/\(∃u:cJ,u.heap[a]? =some c)/\Kx R (R.sh b) o c){X d:List Frame}(h:jc P R X d):∀x∈X,Calm P v x:=by
 induction h with
 |nil=>grind
 |cons i _ j=>
  grind [Ti]
def Calm.grow{v a:cJ}{x:Frame}(h:Calm P v x)(f:∀b,b<v.heap.size->a.heap[b]? =v.heap[b]?)(g:∀b c,v.heap.size<=b->a.heap[b]? =some (.deferred (some c))->False):Calm P a x:=
 ⟨h.1,λd e=>by have⟨b,i,j⟩:=h.2 d e;grind⟩
end
end Go.dA
namespace Go.Proofs.W
open Go.Conc Go.dA Go.dA.Cr Go.RowKit
def _root_.Go.dA.Kx.JK{m:Option Nat}{a:Nat×Nat}(h:Kx R m (.cells W T a) O)(b:T≠uZ):m=none:=by obtain⟨h,_⟩|⟨_,_,_,_,_,_,_,e,_⟩:=h;grind;grind
def j6.carry{n:Type}{E p:cJ->cK->n->Prop}{l:List n} (D:HR R t w)(F:∀b c,R.r b c->B c)(G:T≠uZ) (hz:∀q,VR R z q->q=z)(hE:∀i e a,E t i a->VR R i e->p w e a) (h:j6 A E z T t x l)(u:VR R x y):j6 B p z T w y l:=by
 obtain⟨rfl,rfl⟩|⟨b,c,cs,fz,h1,rfl,H,I,J,K,L⟩:=h;cases u;exact .inl ⟨rfl,rfl⟩;cases u with
 |slice _ _ M=>
  cases M with
  | @mk b N o s v=>
   have⟨o,o',f,O,g⟩:=D.obj _ _ v;rw[H]at f;injection f with f;subst f;have C:=g.JK G;replace g:=g.obj C;rw[C];cases g with
   | @cells _ j _ _ m d hf=>
    refine .inr ⟨N,c,j,m,F _ _ v,rfl,O,d.size▸I,J,λk P=>?_,λk Q S=>?_⟩;have⟨i,U,he⟩:=K k P;obtain⟨V,_⟩|⟨W,e,X,Y,Z⟩:=d.get? k;grind;grind;have U:=L k Q S;obtain⟨V,_⟩|⟨W,e,X,Y,Z⟩:=d.get? k;grind;grind
def VR.int_eq{k:IntKind}(h:VR R (.int k I) x):x=.int k I:=by cases h;rfl
def VR.yD(h:VR R (.slice none 0 0) x):x=.slice none 0 0:=by cases h;rfl
theorem C1:∀{l:eY} {a:dP},sf R (l.map (Value.int .i64)) a->a=l.map (Value.int .i64)
 |[],_,h=>by cases h;rfl
 |x::l,_,h=>by
  simp only[kI]at h;cases h with
  |cons h t=>rw[VR.int_eq h,C1 t];rfl
theorem fZ.carry{D:eR}(g:HR R t w)(i:∀b c,R.r b c->B c) (h:fZ A m D t)(F:R.r m k):fZ B k D w:=by
 have⟨Q,S,T,U,G,H,I,J⟩:=h.at_;have⟨o,V,u,K,v⟩:=g.obj _ _ F;rw[H]at u;injection u with u;subst u;replace v:=v.obj (v.JK kg);cases v with
 | @cells _ j _ _ y z W=>
  have l:=z.list;simp only[dY,nM,qI]at l;cases d:j.toList with
  |nil=>rw[d]at l;cases l
  |cons n X=>
   rw[d]at l;cases l with
   |cons C L=>
    cases L with
    | @cons _ p _ _ M N=>
     cases N with
     | @cons _ q _ _ O P=>
      have:=C1 P;subst this;refine⟨h.ok,i _ _ F,n,p,q,y,?_,?_,?_,?_⟩;obtain rfl|⟨a,rfl⟩:=G;unfold undef at C;cases C with
      | @tuple _ s Y Z=>
       have:s=#[]:=cL;rw[this];exact .inl rfl
      |DO hd a=>exact .inr ⟨a,rfl⟩
      cases C with
      |ptr ha=>exact .inr ⟨_,rfl⟩
      rw[K];have:j=dY n p q D.counts:=RM (by rw[d];simp[dY]);grind;exact I.carry g i kg (λ_ h=>VR.int_eq h) (λx E a (e:x=_) f=>by subst e;exact VR.int_eq f) M;exact J.carry g i kg (λ_ h=>VR.yD h) (λx E a e f=>e.carry g i kg (λ_ h=>VR.yD h) (λx E a e f=>e.carry g i kg (λ_ h=>VR.int_eq h) (λx E a (e:x=_) f=>by subst e;exact VR.int_eq f) f) f) O
theorem j6.cells{f:Type}{N:dp}{E:cJ->cK->f->Prop}{z:cK}{t:cR}{w e:cJ}{v:cK}{l:List f}(i:∀b a t d,N b->w.heap[b]? =some (.cells a t d)->e.heap[b]? =some (.cells a t d))(j:∀u x,E w u x->E e u x)(h:j6 N E z t w v l):j6 N E z t e v l:=by obtain h|⟨b,c,a,d,g,m,n,o,p,q,r⟩:=h;exact .inl h;refine .inr ⟨b,c,a,d,g,m,i _ _ _ _ g n,o,p,λk s=>?_,r⟩;have⟨u,y,A⟩:=q k s;exact⟨u,y,j _ _ A⟩
theorem fZ.cells{N:dp}{d:Nat}{D:eR}{w e:cJ}(a:∀b f t c,N b->w.heap[b]? =some (.cells f t c)->e.heap[b]? =some (.cells f t c))(h:fZ N d D w):fZ N d D e:=by have⟨g,i,j,c,k,l,m,n⟩:=h.at_;exact⟨h.ok,h.lt,g,i,j,c,k,a _ _ _ _ h.lt l,m.cells a λ_ _ h=>h,n.cells a λ_ _ h=>h.cells a λ_ _ h=>h.cells a λ_ _ h=>h⟩
def jX:List PanicEntry:=[{v:=.iface 3 (.int .i64 7),recovered:=false}]
noncomputable def iD(a:eH):Act:=(⟨a++Array.replicate (9-a.size) undef,[]⟩:Act).put (some 9) (.bool true)
noncomputable def oY(a:eH):eH:=#[(iD a).eval (.tmp 0),(iD a).eval (.tmp 1),(iD a).eval (.tmp 2),(iD a).eval (.tmp 3),(iD a).eval (.tmp 4),(iD a).eval (.tmp 5),(iD a).eval (.tmp 6),(iD a).eval (.tmp 7),(iD a).eval (.tmp 8),(iD a).eval (.tmp 9)]
def vx(v:cK):eH:=#[v,undef,undef,undef,undef,undef,undef,undef,undef,undef]
def tD(a:eH):Obj:=.cells #[.func (.func 227) #[] a] 200
def UQ(v:cJ):Prop:=∃a n D N,v.heap[n]? =some (tD (vx (.pointer (some ⟨a,0,none⟩))))/\v.heap.size=n+1/\fZ N a D v/\∀b,N b->b<n
theorem fZ.dw{D:eR}(T:Ta)(h:fZ A m D t):fZ A m D (Go.dA.dw t T):=fZ.same (w:=t) (w':=Go.dA.dw t T) (λ_ _=>rfl) h
theorem UQ.dw(T:Ta)(h:UQ t):UQ (dw t T):=by have⟨a,n,D,N,b,c,d,e⟩:=h;exact⟨a,n,D,N,b,c,fZ.same (w:=t) (w':=Go.dA.dw t T) (λ_ _=>rfl) d,e⟩
def wF(a:eH)(i:Nat):(iD a).eval (.tmp i)=((a++Array.replicate (9-a.size) undef).setIfInBounds 9 (.bool true)).getD i undef:=rfl
def LH(a:eH)(i:Nat):a.getD i undef=(a[i]?).getD undef:=dq
def JL(c:x≠undef)(h:oY W=vx x):W.size<=9/\0<W.size/\W[0]? =some x/\∀i,1<=i->i<W.size->W[i]? =some undef:=by
 have a:∀(i:Nat),i<10->(iD W).eval (.tmp i)=if i=0 then x else undef:=by intro i d;have e:(oY W)[i]? =(vx x)[i]? :=cL;have:i=0\/i=1\/i=2\/i=3\/i=4\/i=5\/i=6\/i=7\/i=8\/i=9:=cM;obtain rfl|rfl|rfl|rfl|rfl|rfl|rfl|rfl|rfl|rfl:=this<;>(simp only[oY,vx,FD,Ui,Kv,iN]at e;rw[e];rfl)
 have l:W.size<=9:=by refine Nat.le_of_not_lt λf=>?_;have:=a 9 cM;rw[wF,LH,ou cL]at this;simp[undef]at this
 have g:(W++Array.replicate (9-W.size) undef).size=9:=cL;have j:∀(i:Nat),i<9->(iD W).eval (.tmp i)=((W++Array.replicate (9-W.size) undef)[i]?).getD undef:=λi d=>by rw[wF,LH,gd cM]
 have k:∀(i:Nat),i<W.size->(iD W).eval (.tmp i)=(W[i]?).getD undef:=cL;have b:0<W.size:=by refine Nat.pos_of_ne_zero λm=>c ?_;have n:=a 0 cM;grind
 grind
def A4{a:Func}(c:P.funcs[K]? =some a)(g:9<=a.ntmps)(j:W.size<=9)(l:0<W.size)(d:W[0]? =some x)(f:∀i,1<=i->i<W.size->W[i]? =some undef)(k:CallKind):Frame.enter P K W k=Frame.enter P K #[x] k:=by
 have e:W++Array.replicate (a.ntmps-W.size) gU=#[x]++Array.replicate (a.ntmps-(#[x]:eH).size) gU:=by
  refine Ot λi=>?_;by_cases b:i<W.size;rw[DL b];cases i with
  |zero=>rw[d,DL dq];rfl
  |succ i=>
   rw[f _ cM b,DM dq];rw[vP,cV rp]
  rw[DM cM,DM rp,vP,vP];by_cases h:i-W.size<a.ntmps-W.size;rw[cV h,cV rp];rw[cS h,cS rp]
 simp only[Frame.enter,c,mg,kK];rw[e]
end Go.Proofs.W
namespace Go.Proofs.W
open Go.Conc Go.dA Go.dA.Cr Go.RowKit
open Go.ConcR (KK wgBlock WgAt stA smA mk DC0)
abbrev so:List Nat:=[190,215,216,227,228,229,164,194,128]
def qy(f:Nat):Bool:=f==190
def Tj:so.all (okF so true qy)=true:=eE
def C2(N:dp)(w:cJ)(b:Nat):Prop:=N b/\∃a c,w.heap[b]? =some (.cells a 3 c)/\∀(i:Nat) u,a[i]? =some u->∃n,u=.int .i64 n
def C3(N:dp)(w:cJ)(t:cR)(Q:dp)(b:Nat):Prop:=N b/\∃a e,w.heap[b]? =some (.cells a t e)/\∀(i:Nat) u,a[i]? =some u->u=.slice none 0 0\/∃d l c,u=.slice (some ⟨d,0,none⟩) l c/\Q d
def pd(N:dp)(w:cJ)(pb b:Nat):Prop:=C2 N w b\/C3 N w 27 (C2 N w) b\/C3 N w 66 (C3 N w 27 (C2 N w)) b\/b=pb
def j6.zF{e:Type}{N:dp}{E:cJ->cK->e->Prop}{w:cJ}{l:List e}(h:j6 N E z U w x l):x=.slice none 0 0\/∃b c a d,N b/\x=.slice (some ⟨b,0,none⟩) l.length c/\w.heap[b]? =some (.cells a U d)/\∀(i:Nat) u,a[i]? =some u->u=z\/∃f,E w u f:=by obtain⟨_,h⟩|⟨b,c,a,d,g,j,k,n,o,p,q⟩:=h;grind;refine .inr ⟨b,c,a,d,g,j,k,λi u m=>?_⟩;have r:i<a.size:=(iS.1 m).1;by_cases s:i<l.length;grind;grind
theorem A5{N:dp}{w:cJ}{l:cN}(h:xn N w x l):x=.slice none 0 0\/∃b l c,x=.slice (some ⟨b,0,none⟩) l c/\C2 N w b:=by obtain h|⟨b,c,a,d,e,f,g,j⟩:=h.zF;grind;refine .inr ⟨b,_,c,f,e,a,d,g,λi u k=>?_⟩;obtain rfl|⟨m,n⟩:=j i u k;grind;exact⟨m,n⟩
theorem Hs{N:dp}{w:cJ}{l:List cN}(h:An N w x l):x=.slice none 0 0\/∃b l c,x=.slice (some ⟨b,0,none⟩) l c/\C3 N w 27 (C2 N w) b:=by obtain h|⟨b,c,a,d,e,f,g,j⟩:=h.zF;grind;refine .inr ⟨b,_,c,f,e,a,d,g,λi u k=>?_⟩;grind [A5]
def Nl{N:dp}{w:cJ}{l:List (List cN)}(h:wm N w x l):x=.slice none 0 0\/∃b l c,x=.slice (some ⟨b,0,none⟩) l c/\C3 N w 66 (C3 N w 27 (C2 N w)) b:=by obtain h|⟨b,c,a,d,e,f,g,j⟩:=h.zF;grind;refine .inr ⟨b,_,c,f,e,a,d,g,λi u k=>?_⟩;grind [Hs]
def xJ(T pb b:Nat)(o:Obj):Obj:=if b=T then o else match o with
 | .cells a t c=>.cells (if b=pb then a.setIfInBounds 0 undef else a) t (0,max a.size c.2)
 |o=>o
def vT(T pb:Nat)(w:cJ):cJ:={w with heap:=w.heap.mapIdx (xJ T pb)}
theorem JM{T pb:Nat}{w:cJ}(b:Nat):(vT T pb w).heap[b]? =(w.heap[b]?).map (xJ T pb b):=by show(w.heap.mapIdx (xJ T pb))[b]? =_;grind
def UR{T pb:Nat}{w:cJ}:(vT T pb w).heap[T]? =w.heap[T]? :=by
 rw[JM];cases w.heap[T]? with
 |none=>rfl
 |some o=>simp[xJ]
def qX{T pb:Nat}{w:cJ}{b:Nat}{a:Nat×Nat}(c:b≠T)(d:b≠pb)(h:w.heap[b]? =some (.cells W U a)):(vT T pb w).heap[b]? =some (.cells W U (0,max W.size a.2)):=by grind [JM,xJ]
def JN{T pb:Nat}{w:cJ}{a:Nat×Nat}(b:pb≠T)(h:w.heap[pb]? =some (.cells W U a)):(vT T pb w).heap[pb]? =some (.cells (W.setIfInBounds 0 undef) U (0,max W.size a.2)):=by grind [JM,xJ]
def j6.Ys{n:Type}{N o:dp}{E p:cJ->cK->n->Prop}{w w':cJ}{l:List n}(H:∀u g,E w u g->p w' u g)(h:j6 N E z U w x l) (t:∀b d j,N b->w.heap[b]? =some (.cells d U j)->(∀(i:Nat) u,d[i]? =some u->u=z\/∃g,E w u g)->o b/\∃f,w'.heap[b]? =some (.cells d U f)):j6 o p z U w' x l:=by have q:=h.zF;obtain h|⟨b,c,d,j,v,r,s,y,A,I,B⟩:=h;exact .inl h;obtain q|⟨J,K,C,f,L,a,e,D⟩:=q;grind;rw[r]at a;injection a with a;injection a with a;injection a with a;subst a;rw[s]at e;injection e with e;injection e with e;subst e;have⟨F,m,G⟩:=t b d j v s D;refine .inr ⟨b,c,d,m,F,r,G,y,A,λk M=>?_,B⟩;grind
section
variable{N:Nat->Prop}{w:cJ}{pb T:Nat}{D:eR}
theorem A6(d:fZ N pb D w){b:Nat}(h:pd N w pb b):N b/\∃a t c,w.heap[b]? =some (.cells a t c)/\(t=3\/t=27\/t=66\/t=207)/\(b=pb↔t=207):=by
 have⟨j,k,l,f,m,g,n,o⟩:=d.at_;have i:∀{b t a c},w.heap[b]? =some (.cells a t c)->t≠207->b≠pb:=by grind
 obtain⟨e,a,c,h,_⟩|⟨e,a,c,h,_⟩|⟨e,a,c,h,_⟩|rfl:=h;grind;grind;grind;exact⟨d.lt,_,_,_,g,.inr (.inr (.inr rfl)),λ_=>rfl,λ_=>rfl⟩
def Qv(q:fZ N pb D w)(o:∀b,pd N w pb b->b≠T):fZ (pd N w pb) pb D (vT T pb w):=by
 have⟨v,r,s,d,B,y,z,A⟩:=q.at_;have f:∀{b t g d},w.heap[b]? =some (.cells g t d)->t≠207->b≠pb:=by grind
 have Ha:∀u l,xn N w u l->xn (pd N w pb) (vT T pb w) u l:=λu l h=>j6.Ys (w:=w) (w':=vT T pb w) (λ_ _ h=>h) h λb g d k c m=>by have a:pd N w pb b:=.inl ⟨k,g,d,c,λi u a=>(m i u a).elim (λe=>⟨0,e⟩) λ⟨x,n⟩=>⟨x,n⟩⟩;exact⟨a,_,qX (o b a) (f c cL) c⟩
 have rows:∀u l,An N w u l->An (pd N w pb) (vT T pb w) u l:=λu l h=>j6.Ys (w:=w) (w':=vT T pb w) Ha h λb g d k c m=>by have a:pd N w pb b:=.inr (.inl ⟨k,g,d,c,λi u a=>(m i u a).elim .inl λ⟨x,n⟩=>A5 n⟩);exact⟨a,_,qX (o b a) (f c cL) c⟩
 have j:∀u l,wm N w u l->wm (pd N w pb) (vT T pb w) u l:=λu l h=>j6.Ys (w:=w) (w':=vT T pb w) rows h λb g d k c m=>by have a:pd N w pb b:=.inr (.inr (.inl ⟨k,g,d,c,λi u a=>(m i u a).elim .inl λ⟨x,n⟩=>Hs n⟩));exact⟨a,_,qX (o b a) (f c cL) c⟩
 refine⟨q.ok,.inr (.inr (.inr rfl)),undef,r,s,(0,max (dY v r s D.counts).size d.2),.inl rfl,?_,Ha _ _ z,j _ _ A⟩;have p:pb≠T:=o pb (.inr (.inr (.inr rfl)));rw[JN p y];rfl
def Nm{y rd:dp}(Q:fZ N pb D w)(z:∀b,pd N w pb b->b≠T)(J:∀b,N b->rd b)(R:y T)(S:w.heap[T]? =some (.cells (kR ⟨pb,0,none⟩) 245)):
 xg (qQ so qy (λb=>pd N w pb b\/b=T)) (vT T pb w) w y rd:=by
 have⟨K,G,H,p,V,q,A,W⟩:=Q.at_;have B:pb≠T:=z pb (.inr (.inr (.inr rfl)));have g:∀u,(u=fo\/∃d l c,u=eT d l c/\pd N w pb d)->VR (qQ so qy (λb=>pd N w pb b\/b=T)) u u:=by rintro u (rfl|⟨d,l,c,rfl,f⟩);exact .gD _ _;exact .slice _ _ (.mk _ _ ⟨rfl,.inl f⟩)
 have L:∀{b t j p},w.heap[b]? =some (.cells j t p)->t≠207->b≠pb:=by grind
 have self:∀{b t j p},w.heap[b]? =some (.cells j t p)->b≠T->t≠207->(∀(i:Nat) u,j[i]? =some u->VR (qQ so qy (λb=>pd N w pb b\/b=T)) u u)->
  ∃o U,(vT T pb w).heap[b]? =some o/\w.heap[b]? =some U/\kO (qQ so qy (λb=>pd N w pb b\/b=T)) o U:=λ{b t j p} h f X hc=>
  ⟨_,_,qX f (L h X) h,h,.cells ⟨rfl,λi v v' k r=>cL⟩ λm s=>⟨gh _,ew s.2 (Nat.le_max_right _ _)⟩⟩
 refine⟨HR.of (λ_=>rfl) λb Y M=>?_,λb Y M=>?_⟩;obtain⟨rfl,f|rfl⟩:=M;obtain⟨I,j,C,k,r⟩|⟨I,j,C,k,r⟩|⟨I,j,C,k,r⟩|rfl:=id f;exact self k (z b f) cL λi u E=>by obtain⟨n,rfl⟩:=r i u E;exact .int _ _
 exact self k (z b f) cL λi u E=>g u ((r i u E).imp id λ⟨d,l,c,q,A⟩=>⟨d,l,c,q,.inl A⟩);exact self k (z b f) cL λi u E=>g u ((r i u E).imp id λ⟨d,l,c,q,A⟩=>⟨d,l,c,q,.inr (.inl A)⟩);refine⟨_,_,JN B q,q,.cells (fX.mj ?_) λm s=>⟨gh _,ew s.2 (Nat.le_max_right _ _)⟩⟩;have e:((dY K G H D.counts).setIfInBounds 0 gU).toList=gU::G::H::D.counts.map (Value.int .i64):=by simp[dY]
 have Z:(dY K G H D.counts).toList=K::G::H::D.counts.map (Value.int .i64):=by simp[dY]
 rw[e,Z];refine .cons ?_ (.cons (g _ ((A5 A).imp id λ⟨d,l,c,O,P⟩=>⟨d,l,c,O,.inl P⟩)) (.cons (g _ ((Nl W).imp id λ⟨d,l,c,O,P⟩=>⟨d,l,c,O,.inr (.inr (.inl P))⟩)) ?_));obtain rfl|⟨a,rfl⟩:=V;exact .undef;exact .DO rfl a;generalize D.counts=l;induction l with
 |nil=>exact .nil
 |cons x l ih=>exact .cons (.int _ _) ih
 refine⟨_,_,UR.trans S,S,.cells (fX.mj ?_) λ_ h=>h⟩;have hp:VR (qQ so qy (λx=>pd N w pb x\/x=b)) (dQ pb) (dQ pb):=.ptr (.mk _ _ ⟨rfl,.inl (.inr (.inr (.inr rfl)))⟩);exact .cons hp (.cons (.gD _ _) (.cons (.int _ _) (.cons (.int _ _) (.cons (.int _ _) (.cons (.int _ _) (.cons (.int _ _) (.cons (.int _ _) (.cons (.gD _ _) (.cons (.int _ _) (.cons (.int _ _) (.cons (.bool _) .nil)))))))))));obtain⟨rfl,f|rfl⟩:=M;have⟨I,j,t,p,k,_,_⟩:=A6 Q f;refine .inr ⟨J b I,?_⟩;by_cases F:b=pb;subst F;exact⟨_,_,_,JN B k,λm s=>⟨gh _,ew cL (Nat.le_max_left _ _)⟩⟩;exact⟨_,_,_,qX (z b f) F k,λm s=>⟨gh _,ew s (Nat.le_max_left _ _)⟩⟩;grind
end
def US(pb T:Nat)(s:Sp)(_:cK)(a:cJ):Prop:=∃b c d L y,a.heap[T]? =some (fj pb b c d L y)/\dS (λ_=>True) a s y
def Nn(pb:Nat):(Obj.cells (kR ⟨pb,0,none⟩) 245)=fj pb none 0 0 L0 SI:=rfl
def C4:∀d,tk 0 d=0:=λd=>by simp[tk]
def Tk(HP:GP)(N:dp)(pb:Nat)(D:eR)(w0:cJ)(ak:fZ N pb D w0)(hN:∀b,N b->b<w0.heap.size)(h0:0<D.opn.length):JH w0 N pb (ek D 0).length (GH D):=by
 intro rd Wg i hi al own w T c cs hq Z hz;have hP:fZ N pb D w:=ak.same hq;have aE:∀b,N b->b<w.heap.size:=λb hb=>by have o:=hq b hb;grind
 have hT:∀b,pd N w pb b->b≠T:=by grind [A6]
 have aF:=lt_of_heap hz;have aa:own T:=(Z T).2 rfl;have p:=Nm (rd:=rd) hP hT al aa hz;have hG:Go.dA.Good V.prog (qQ so qy (λb=>pd N w pb b\/b=T)):=CI Tj dq
 have ab:fX (qQ so qy (λb=>pd N w pb b\/b=T)) #[dQ T,i64 i] #[dQ T,i64 i]:=
  fX.OD (.ptr (.mk _ _ ⟨rfl,.inr rfl⟩)) (.int _ _)
 have hS:(qQ so qy (λb=>pd N w pb b\/b=T)).S 190=true:=by show so.contains 190=true;grind
 have aG:(vT T pb w).heap.size=w.heap.size:=by simp[vT]
 have am:=Qv (T:=T) hP hT;have z:Go.dA.Reach V.prog (Go.dA.Left V.prog 190 (US pb T (GH D i))) ⟨Frame.enter V.prog 190 #[dQ T,i64 i] .normal,[floor],vT T pb w⟩:=by
  refine sS (λx w' Tp ⟨pa,pl,pc,L,y,o,h2⟩=>⟨pa,pl,pc,L,y,o,h2.same λ_ _=>rfl⟩) (sY hG (λ_=>rfl) hS ab p) λTp aH=>?_;have an:jk (pd N w pb) pb T D 0 0 (dw (vT T pb w) Tp) [] none 0 L0 SI none:=by refine⟨⟨am.dw _,λb hb=>⟨?_,hT b hb,dq⟩,?_,.inl ⟨rfl,rfl,rfl⟩,λs _=>by simp[L0],λs _ j _ _=>C4 _,gh _,λ_=>rfl⟩,rfl,(λl m k h=>cL),gh _,gh _⟩;show b<(vT T pb w).heap.size;grind [A6];show(vT T pb w).heap[T]? =_;rw[UR,hz];rfl
  refine(HP (pd N w pb) pb T D 0 0 (dw (vT T pb w) Tp) [] none 0 L0 SI none i an h0 hi).mono ?_;rintro e w' ⟨rfl,ao,ap,L',y',hg,_,_,_⟩;exact⟨_,rfl,ao,_,ap,L',y',hg.t.at_,hg.sched.mono λ_ _=>trivial⟩
 have q:=KT (U:=λx=>x=undef) (λts Q w x u h=>by
  have:(results Tryz.f190 ts)=Pure.pure undef:=by simp[results,Tryz.results190,undef]
  grind [Sem.run_pure]) (ty:=241) (Wg:=Wg) (main:=false) (caller:=c) (cs:=cs) (own:=own) (rd:=rd) hG (λ_=>rfl) hS V.func190 (R:=US pb T (GH D i)) (λx w' Tp ⟨pa,pl,pc,L,y,o,h2⟩=>⟨pa,pl,pc,L,y,o,h2.same λ_ _=>rfl⟩) ab z p
 have e:V.prog.jj (qQ so qy (λb=>pd N w pb b\/b=T)).fs=PR:=SA;rw[e]at q;refine(Wy.Uv q).bind λo' g w' h=>pG λw1 hr=>?_;obtain⟨⟨ρ,x,x',v,rfl,⟨pa,pl,pc,L,y,hb,hs⟩,hv,ac,aq,rfl⟩,ar⟩:=h;have C:o' T:=ar T aa;have au:ρ.r T T:=ac.r _ _ ⟨rfl,.inr rfl⟩;have ad:∀O,eP o' rd (Lv 241 Wg) w' O->∃E F G H I J K M a l cc m n s fz,O.heap[T]? =some (.cells #[E,F,G,H,I,J,K,M,.slice a l cc,i64 m,i64 n,.bool s] 245 fz)/\VL (GH D) i o' O (.agg #[.slice a l cc,i64 m,i64 n,.bool s]):=by
  intro O A;have P:=aq.rely A;have⟨ob,av,k1,k2,k3⟩:=P.heap.obj T T au;have W:∀c,ρ.sh c=none:=λc=>by rw[<-ac.g];rfl
  replace k3:=k3.obj (W _);rw[hb]at k1;injection k1 with k1;subst k1;unfold fj at k3;cases k3 with
  | @cells _ ae _ _ B kv kf=>
   have d:=kv.list;simp only at d;cases X:ae.toList with
   |nil=>rw[X]at d;cases d
   |cons E l0=>
   rw[X]at d;cases d with|cons _ d=>cases d with| @cons _ F _ _ _ d=>cases d with| @cons _ G _ _ _ d=>cases d with| @cons _ H _ _ _ d=>cases d with| @cons _ I _ _ _ d=>cases d with| @cons _ J _ _ _ d=>
   cases d with| @cons _ K _ _ _ d=>cases d with| @cons _ M _ _ _ d=>cases d with| @cons _ p8 _ _ g8 d=>cases d with| @cons _ p9 _ _ g9 d=>cases d with| @cons _ aw _ _ ax d=>cases d with| @cons _ ay _ _ az d=>cases d with
   |nil=>
   have af:ae=#[E,F,G,H,I,J,K,M,p8,p9,aw,ay]:=RM X;cases g9;cases ax;cases az;generalize Y:GH D i=sp at hs⊢;cases sp with
   |none=>
    have:y=SI:=hs;subst this;cases g8;exact⟨E,F,G,H,I,J,K,M,none,0,0,0,0,false,B,by rw[k2,af];rfl,λ_=>False,λx h=>h.elim,SI,rfl,by rw[Y];rfl⟩
   |some sp=>
    have⟨ls,mm,kk⟩:=sp;obtain⟨q1,q2,q3,q4,⟨q5,q6,q7⟩|⟨q5,ag,q6,q7,q8,aA,fz,q9,ah⟩⟩:=hs;rw[q6]at g8;cases g8;exact⟨E,F,G,H,I,J,K,M,none,_,_,_,_,_,B,cL,λ_=>False,λx h=>h.elim,⟨none,y.sl,y.sc,y.m,y.k,y.b⟩,rfl,by rw[Y];exact⟨q1,q2,q3,q4,.inl ⟨q5,rfl,q7⟩⟩⟩;rw[q7]at g8;cases g8 with
    |slice _ _ ha=>
     cases ha with
     | @mk _ f _ _ ai=>
      have⟨ob,av,j1,j2,j3⟩:=P.heap.obj ag f ai;replace j3:=j3.obj (W _);rw[W ag,Option.getD_none,pB]at af;rw[ah]at j1;injection j1 with j1;subst j1;cases j3 with
      | @cells _ aI _ _ aB jv jf=>
       have:=Lz (λi v h=>uq h) jv;subst this;have aD:o' f:=by obtain h|⟨_,aJ,t3,aK,o,h2⟩:=P.zone _ _ ai;grind;exfalso;rw[ah]at o;injection o with o;injection o with o h3 h4;subst o h4;refine q9 0 (h2 0 ?_);have:0<ls.length:=List.length_pos_iff.2 q5;simp[ii];omega
       exact⟨E,F,G,H,I,J,K,M,_,_,_,_,_,_,B,cL,λx=>x=f,λx h=>cL,⟨some (dt f 0),y.sl,y.sc,y.m,y.k,y.b⟩,rfl,by rw[Y];exact⟨q1,q2,q3,q4,.inr ⟨q5,f,rfl,rfl,q8,aA,aB,λaj h=>q9 aj (jf aj h),j2⟩⟩⟩
 have⟨E,F,G,H,I,J,K,M,a,l,cc,m,n,s,fz,g1,g2⟩:=ad w1 hr;refine⟨rfl,C,E,F,G,H,I,J,K,M,a,l,cc,m,n,s,fz,g1,λO A=>?_⟩;have⟨q0,q1,q2,q3,q4,q5,q6,q7,a',l',aL,m',n',s',B,k1,k2⟩:=ad O (hr.trans A);have aC:O.heap[T]? =w1.heap[T]? :=A.heap T (lt_of_heap g1) (.inl C);grind
end Go.Proofs.W
namespace Go.Proofs.W
open Go.Conc Go.dA Go.dA.Cr Go.RowKit
def A7(D:eR)(w:cJ)(e:Ending)(a:cJ):Prop:=
 ∃y:SV,e=.returned y.val/\dS (λb=>w.heap.size<=b) a (gO D) y/\yu w.drawn a (gO D) y/\(∀b,b<w.heap.size->a.heap[b]? =w.heap[b]?)/\a.tape=w.tape
structure C5:Prop where
 probe:∀xs w,w.tape w.drawn (.order 163 1)=1->Calls V.prog 163 xs w λe w'=>e=.panicked jX/\w'=w.drew.alloc (tD (oY xs))
 goes:∀N pb D w,fZ N pb D w->(∀b,N b->b<w.heap.size)->w.tape w.drawn (.order 163 1)=0->Calls V.prog 163 #[.pointer (some ⟨pb,0,none⟩)] w (A7 D w)
 pick:∀N pb D w,fZ N pb D w->(∀b,N b->b<w.heap.size)->0<D.opn.length->JH w N pb (ek D 0).length (GH D)
def uQ(f:dZ)(R:nu)(a:Frame)(b:List Frame)(v:cJ):Prop:=
 Go.dA.Left V.prog f R a b v\/(b=[floor]/\a.fn=f/\a.mode=.panicking jX/\a.defers=[]/\UQ v)
def yE(f:dZ)(R:nu):LD V.prog (uQ f R):=by rintro c d v (⟨rfl,_,x,_,a,b,e,g,h,_⟩|⟨rfl,_,a,b,_⟩);grind [A2];grind [A2]
def uQ.callers{R:nu}(b:Frame)(a:List Frame)(v:cJ)(h:uQ K R b a v):a≠[]:=(yE K R b a v h).1
theorem uQ.fn{R:nu}{a:List Frame}(h:uQ K R F a w):F.fn=K:=by obtain h|h:=h;exact h.2.1;grind
def No{ρ:dO}{s:Sp}{y d:SV}(h:dS A t s y)(k:dS B w s d)(M:∀l m n,s=some (l,m,n)->l≠[]->y.sc=d.sc) (N:∀b,A b->∀c,¬ρ.r b c)(O:∀c,B c->∀b,¬ρ.r b c)(f:∀b,A b->ρ.sh b=none):∃a:dO,dO.Le ρ a/\VR a y.val d.val/\∀b c,a.r b c->ρ.r b c\/(A b/\B c/\a.sh b=none/\∃x C,t.heap[b]? =some x/\w.heap[c]? =some C/\kO a x C):=by
 cases s with
 |none=>
  have e:y=⟨none,0,0,0,0,false⟩:=h;have P:d=⟨none,0,0,0,0,false⟩:=k;subst e P;exact⟨ρ,.refl _,(fX.mj (.cons (.gD _ _) (.cons (.int _ _) (.cons (.int _ _) (.cons (.bool _) .nil))))).agg,λb c h=>.inl h⟩
 |some s=>
  have⟨l,m,n⟩:=s;have g:=M l m n rfl;have⟨ya,yl,yc,ym,yk,yb⟩:=y;have⟨Q,R,S,T,U,V⟩:=d;have⟨D,E,F,G,H⟩:=h;have⟨I,J,K,L,q⟩:=k;simp only at D E F G H I J K L q g;subst D E F G I J K L;obtain⟨rfl,rfl,rfl⟩|⟨o,b,p,rfl,h6,h7,fz,h8,W⟩:=H;obtain⟨_,rfl,rfl⟩|⟨o,_⟩:=q;exact⟨ρ,.refl _,(fX.mj (.cons (.gD _ _) (.cons (.int _ _) (.cons (.int _ _) (.cons (.bool _) .nil))))).agg,λb c h=>.inl h⟩;exact absurd rfl o;obtain⟨u,_⟩|⟨_,c,j,rfl,k6,k7,X,Y,Z⟩:=q;exact absurd u o;obtain rfl:=g o;refine⟨ρ.ext b c (N b p) (O c j),ρ.uX _ _ _ _,(fX.mj (.cons (.slice _ _ (.of _ _ (ρ.tT _ _ _ _) (f b p))) (.cons (.int _ _) (.cons (.int _ _) (.cons (.bool _) .nil))))).agg,λb' c' v=>?_⟩;obtain v|⟨rfl,rfl⟩:=v;exact .inl v;exact .inr ⟨p,j,f _ p,_,_,W,Z,.cells (Qo λi t h=>uq h) λz ho=>absurd ho (Y z)⟩
def VM{y:SV}{s:Sp}{T:Nat->Question->Nat}(h:yu m w s y)(c:w.tape=T){K:Nat}(d:∀j n x t,m<=j->T j (.appendCap n x t)=K-n)(a:eY)(b n:Int)(f:s=some (a,b,n))(g:a≠[])(k:a.length<=K)(l:K<2^63):y.sc=K:=by have⟨j,i,e⟩:=h a b n f g;rw[e,c,d j _ _ _ i];simp only[Question.cut];rw[Nat.mod_eq_of_lt cM];omega
def Tl(BF:C5){f:dZ}{R:nu}(hf:f≠163)(w0:cJ):OQ V.prog PR.funcs w0 (uQ f R):=by
 intro ρ X c gs a w sl t q g xs ai k hr hS hh hx aO aB;have hg:g=163:=Ku λaP=>k.holes.1 g hh (V.zu g aP);subst hg;have hD:¬ρ.Def:=λh=>by have:=k.good.dh h 163;grind
 have A:=yE f R;have⟨X1,bi,e1,e2,hX⟩:=k.gor.callers;have aj:c.cl=X1++[floor]:=e1;have aQ:c.cl≠[]:=by rw[aj];simp
 have ev:(V.prog.jj PR.funcs)=PR:=SA;have aR:Go.dA.Below c.v (λj q=>if j<c.v.drawn then c.v.tape j q else 1):=λj hj=>by funext q;simp[hj]
 obtain⟨e,wp,ab,⟨rfl,ak⟩,hs,aS,hl⟩:=BF.probe xs (dw c.v (λj q=>if j<c.v.drawn then c.v.tape j q else 1)) (by simp[dw]) c.cl;have⟨np,ad⟩:=hs;have J:ab.mode=.panicking jX:=hl.1;have⟨hp,aT⟩:Path V.prog (uQ f R) c ⟨ab,c.cl,wp⟩/\Inv V.prog ⟨ab,c.cl,wp⟩:=by
  cases np with
  |zero=>
   exfalso;simp only[runN]at ad;injection ad with ad;have:=(A3 ad).1;rw[<-this]at J;cases J
  |succ np=>exact yC A np k.inv aR cL aQ
 have aU:∀b,b<c.v.heap.size->wp.heap[b]? =c.v.heap[b]? :=λb hb=>by rw[ak];exact alloc_old (World.drew _) _ hb
 have aC:wp.heap[c.v.heap.size]? =some (tD (oY xs)):=by rw[ak];exact fY (World.drew (dw c.v _)) _
 have bj:wp.heap.size=c.v.heap.size+1:=by rw[ak];exact World.size_alloc _ _
 have aV:∀x∈X1,Go.dA.Calm V.prog wp x:=λx al=>by refine(Qu k.good hD (v:=c.v) (λb E hr=>?_) hX x al).grow aU λb ds hb h=>?_;have⟨o,o',P,g2,Q⟩:=k.heap.obj b E hr;grind;have bk:=lt_of_heap h;obtain rfl:b=c.v.heap.size:=cM;rw[aC]at h;cases h
 have⟨cp,am,ae⟩:=LG.stop A (v0:=wp) (hp.reach hr) ⟨⟨_,J⟩,⟨hl.2.2,by rw[hl.2.1];simp⟩,cL,λ_ _ _ _ h=>h,λ_ _ _ _ h=>h,rfl⟩;have⟨pb,n,D,N,aD,bl,an,hN⟩:UQ cp.v:=by obtain⟨_,_,x,_,hm,_⟩|h:=am;have⟨ch,bm⟩:=ae.mode;grind;grind
 have hn:n=c.v.heap.size:=iI ae.size;subst hn;have ao:oY xs=vx (dQ pb):=by have S:=ae.kept _ _ _ _ aC;rw[aD]at S;injection S with S;injection S with S;have h2:(#[Value.func (.func 227) #[] (vx (dQ pb))]:eH)[0]? =(#[Value.func (.func 227) #[] (oY xs)]:eH)[0]? :=cL;grind
 have⟨x9,ag,x0,xu⟩:=JL (by simp[undef]) ao;have ap:fZ N pb D c.v:=(an.cells λb cs t fz hb h=>ae.back b cs t fz h).cells cL;have⟨H,aW,aq⟩:∃H,ai[0]? =some (dQ H)/\ρ.r pb H:=by
  obtain⟨P,_⟩|⟨u,u',P,g2,Q⟩:=hx.get? 0;grind;rw[P]at x0;injection x0 with x0;subst x0;cases Q with
  |ptr ha=>cases ha with
   |mk o s hr=>
    have⟨_,_,_,_,_,q1,_⟩:=ap.at_;have⟨oo,bn,w1,w2,w3⟩:=k.heap.obj _ _ hr;rw[q1]at w1;injection w1 with w1;subst w1;have hs:=w3.JK kg;grind
 have aX:∀i,1<=i->i<ai.size->ai[i]? =some undef:=λi S h2=>by
  have h3:=xu i S (by rw[hx.size];grind);obtain⟨P,_⟩|⟨u,u',P,g2,Q⟩:=hx.get? i;grind;rw[P]at h3;injection h3 with h3;subst h3;rw[g2];revert Q;generalize u'=z;intro Q;unfold undef at Q;cases Q with
  | @tuple _ aY k1 k2=>
   have:aY=#[]:=cL;rw[this];rfl
  |DO hd a=>rw[k.holes.2.1]at hd;grind
 have bg:c.fr=Frame.enter V.prog 163 #[dQ pb] .normal:=aO.trans (A4 V.func163 kg x9 ag x0 xu .normal);have aE:a.frame=Frame.enter PR 163 #[dQ H] .normal:=by rw[aB,ev];exact A4 Tryz.func163 dq (hx.size▸x9) (hx.size▸ag) aW aX .normal
 have aF:∀b E,ρ.r b E->b<c.v.heap.size/\E<w.heap.size:=λb E hr=>by have⟨o,o',P,g2,_⟩:=k.heap.obj b E hr;grind
 have T:fZ (λE=>∃b,ρ.r b E) H D w:=ap.carry k.heap cL aq;cases hX with
 |nil=>
  exfalso;have aG:c.cl=[floor]:=aj;refine Qt A (fr:=ab) (v:=wp) (by rw[<-aG];exact hp.reach hr) cL (λaZ=>hf (aZ.fn▸aS)) hl.2.1 cL
 | @cons I p X2 U hc a1=>
 have ha:a=G a.frame (p::U):=by have⟨af,ac,bo,bp,bq⟩:=a;have k1:=k.gor.st.2;have k2:=k.gor.dy.2;have k3:=k.gor.of.2;simp only[List.append_nil]at k1 k2 k3 e2;subst k1 k2 k3 e2;rfl
 have hB:Gk PR X gs (G (Frame.enter PR 163 #[dQ H] .normal) (p::U)) w t q:=⟨by rw[<-aE,<-ha];exact k.at0,rfl,ev▸k.leavers,k.past,k.low⟩;have ar:∃(M:Nat) (L:Array cQ) (O:cJ) (W:Option (Nat×Nat)) (t':Trace) (q':Nat->Nat) (X' o:dp) (y:SV),runNT PR M (crowd gs w sl) t=(.next (crowd L O W),t')/\
  Gk PR X' L (G (p.finish y.val) U) O t' q'/\(O.tape=w.tape/\O.os=w.os/\O.output=w.output)/\w.heap.size<=O.heap.size/\(∀b,b<w.heap.size->O.heap[b]? =w.heap[b]?)/\dS o O (gO D) y/\(∀b,o b->w.heap.size<=b/\b<O.heap.size/\¬X' b)/\∀b,X' b->X b\/w.heap.size<=b:=by
  have⟨wk,u1,u2,fz,_,aH,aI,a2⟩:=T.at_;have p1:w.cell? (dt H 1)=some u1:=by simp[World.cell?,aH,dY]
  have p2:w.cell? (dt H 2)=some u2:=by simp[World.cell?,aH,dY]
  by_cases h0:0<D.opn.length;have au:0<D.lists.length:=by rw[T.ok.len];grind
  obtain⟨oa,oc1,rfl⟩:=aI.len;obtain⟨lb,lc,lu,rfl,a3,aJ,a4⟩:=a2.at_ 0 au;obtain⟨a0,c0,rfl⟩:=a4.len;have a5:D.lists[0]=ek D 0:=by unfold ek;grind
  have Y:=T.ok.many _ (eG au);rw[a5]at aJ Y;have aK:∀b,(∃b0,ρ.r b0 b)->b<w.heap.size/\¬X b:=λb ⟨b0,hb⟩=>⟨cL,k.apart _ _ hb⟩;have aL:=Nh (X:=X) (B:=λE=>∃b,ρ.r b E) (sl:=sl) aK h0 au (oa:=oa) (oc1:=oc1) (la:=(dt lb 0)) (C:=lc) (a0:=a0) (n:=(ek D 0).length) (c0:=c0) ⟨p1,⟨p2,aJ⟩⟩ ⟨_,aq⟩ a3 Y (BF.pick _ H D w T cL h0) hB;rw[<-Jk D h0]at aL;omega;have ah:D.opn=[]:=cL;obtain⟨oa,oc1,rfl⟩:=aI.len;rw[ah]at p1;have⟨M,L,O,W,t',q',r1,r2,r3,r4,r5⟩:=JI (sl:=sl) ⟨cL,k.apart _ _ aq⟩ p1 hB;refine⟨M,L,O,W,t',q',X,λ_=>False,⟨none,0,0,0,0,true⟩,r1,r2,r3,r4,r5,?_,cL,cL⟩;have:gO D=some ([],0,0):=by unfold gO;rw[ah];simp only[fP,eI,lP,eV,iO,K4,L0,kI,uI,T.ok.zero];rfl
  rw[this];exact⟨rfl,rfl,rfl,rfl,.inl ⟨rfl,rfl,rfl⟩⟩
 have⟨M,L,O,W,t',q',X',o,y,r1,r2,r3,r4,r5,r6,r7,r8⟩:=ar;have a6:Go.dA.Below c.v (λj q=>if j<c.v.drawn then c.v.tape j q else match q with| .appendCap n _ _=>y.sc-n|_=>0):=λj hj=>by funext q;simp[hj]
 obtain⟨e,w2,a7,⟨yv,rfl,a8,a9,av,ba⟩,bb,bh,bc⟩:=BF.goes N pb D (dw c.v (λj q=>if j<c.v.drawn then c.v.tape j q else match q with| .appendCap n _ _=>y.sc-n|_=>0)) (ap.dw _) hN (by simp[dw]) c.cl;have⟨n2,br⟩:=bb;have aM:c.cl=I::(X2++[floor]):=aj;have aw:Go.step V.prog (lone a7 c.cl w2)=.next (lone (I.finish yv.val) (X2++[floor]) w2):=by rw[aM];exact step_leave_returned bc
 have⟨ax,ay⟩:=yC A n2 (c:=c) k.inv a6 (Nk cL aw) dq;have aN:∀l m n,gO D=some (l,m,n)->l≠[]->yv.sc=y.sc:=λl m n hs hl=>by have h6:=r6;rw[hs]at h6;obtain⟨_,_,_,_,⟨bs,_⟩|⟨_,_,_,_,h7,h8,_⟩⟩:=h6;grind;exact VM a9 ba (K:=y.sc) (λj n x t hj=>by grind [Nat.not_lt,dw]) l m n hs hl h7 h8
 have⟨bd,F,be,Z⟩:=No (ρ:=ρ) a8 r6 aN (λb hb E hr=>by have aK:c.v.heap.size<=b:=hb;grind) cL λb hb=>k.heap.low b hb;have az:w0.heap.size<=w.heap.size:=k.grown;refine⟨M,L,O,W,t',q',⟨I.finish yv.val,X2++[floor],w2⟩,bd,X',G (p.finish y.val) U,cL,⟨ay,k.good.mono F,F.f▸k.same,r2.at0,?_,?_,ev.symm▸r2.leavers,r2.past,r2.low,?_,?_,du az r4,?_,?_,?_⟩,ax⟩;exact⟨.fr ((hc.mono F).finish be),⟨X2,U,rfl,by simp[G],a1.mono F⟩,⟨rfl,rfl⟩,⟨rfl,rfl⟩,⟨rfl,rfl⟩⟩;refine⟨λb E aa=>?_,λb hb=>by rw[<-F.g];exact k.heap.low b (Nat.le_of_not_lt λh=>by have S:w2.heap[b]? =c.v.heap[b]? :=av b h;grind)⟩;obtain h|⟨_,_,bf,x,x',P,g2,Q⟩:=Z b E aa;have⟨o1,o2,P,g2,Q⟩:=k.heap.obj b E h;refine⟨o1,o2,(av b (aF _ _ h).1).trans P,cL,?_⟩;rw[<-F.g];exact Q.mono F;exact⟨x,x',P,g2,.inl ⟨bf,Q⟩⟩;intro b E aa al;obtain h|⟨_,ho,_⟩:=Z b E aa;obtain S|S:=r8 E al;exact k.apart _ _ h S;grind;grind;intro b E aa aA;obtain h|⟨_,ho,_⟩:=Z b E aa;exact(k.old b E h aA).keep (av b (aF _ _ h).1);grind;intro E aA;rw[r5 E cM];exact k.kept E aA;exact⟨r3.1.trans k.world.1,r3.2.1.trans k.world.2.1,r3.2.2.trans k.world.2.2⟩;exact⟨λg hg=>k.holes.1 g (by rw[F.h];grind),F.d▸k.holes.2.1,λ⟨g,hg⟩=>k.holes.2.2 ⟨g,by rw[F.w];grind⟩⟩
end Go.Proofs.W
namespace Go.Proofs.W
open Go.RowKit
section
variable{w:cJ}{kx:cK->Prop}{kr kp kl:io->Prop}{lb ea:Bool}
def Ht(h:kr (boxed w.heap.size (pJ T).toArray T))(b:Yg T=true:=by rfl):xq Ext Ext w (λc d=>jO V.prog (Instr.alloc T true (.tuple #[])) c d) kx kr kp lb kl ea:=
 .rel _ (Jj _ _ _) (λ_ e=>eU (λ_ f g a i=>⟨⟨f,rfl,du e.size a,i⟩,g⟩) b) h
end
structure Tm(pb T:Nat)(w:cJ)(D:eR)(n i:Nat)(pa:Option Addr)(pc:Nat)(l:List Nat)(d:Nat)(la:Option Addr)(Z0:Nat):Prop where
 h:∃ob no oc lb nl lc rb ni rc,w.cell? ⟨T,0,none⟩=some (.pointer (some ⟨pb,0,none⟩))/\w.cell? ⟨pb,1,none⟩=some (.slice (some ⟨ob,0,none⟩) no oc)/\w.cell? ⟨T,1,none⟩=some (.slice pa n pc)/\w.cell? ⟨ob,n,none⟩=some (.int .i64 d)/\
  w.cell? ⟨pb,2,none⟩=some (.slice (some ⟨lb,0,none⟩) nl lc)/\w.cell? ⟨lb,n,none⟩=some (.slice (some ⟨rb,0,none⟩) ni rc)/\w.cell? ⟨rb,i,none⟩=some (.slice la l.length Z0)/\n<no/\n<nl/\i<ni
 row:∀j (h:j<l.length),∃lb,la=some ⟨lb,0,none⟩/\lb≠T/\pa≠some ⟨lb,0,none⟩/\w.cell? ⟨lb,j,none⟩=some (.int .i64 l[j])
 long:l.length<=65536
 shift:∀s∈l,s<6
 door:d<5
def rR{a:Type}{l:List a}{d x:a}(h:k<l.length)(e:l.getD k d=x):l[k]=x:=by grind
def zv.data{N:dp}{D:eR}{w:cJ}{L:Nat->Nat}{y:SV}(h:zv N m k D w l a i L y)(A:l.length<D.opn.length)(B:j<(ek D l.length).length):∃q r,Tm m k w D l.length j a i ((ek D l.length).getD j []) (gi D l.length) q r:=by
 have⟨W,X,Y,Z,t4⟩:=jq h.at_;have f:=h.plan;have⟨wk,E,F,fz,_,g,s,t⟩:=f.at_;have p1:w.cell? (dt m 1)=some E:=by simp[World.cell?,g,dY]
 have p2:w.cell? (dt m 2)=some F:=by simp[World.cell?,g,dY]
 obtain⟨ob,oc,G,rfl,H,v,x⟩:=s.at_ l.length A;obtain rfl:G=i64 (D.opn[l.length]:Nat):=x;have n:l.length<D.lists.length:=by rw[f.ok.len];grind
 obtain⟨lb,lc,lu,rfl,I,J,o⟩:=t.at_ l.length n;have K:D.lists[l.length]=ek D l.length:=rR n rfl;have M:D.opn[l.length]=gi D l.length:=rR A rfl;rw[K]at o;rw[M]at v;obtain⟨rb,rc,ru,rfl,O,P,e⟩:=o.at_ j B;have Q:(ek D l.length)[j]=(ek D l.length).getD j []:=rR B rfl;rw[Q]at e;have d:ek D l.length∈D.lists:=cL;have p:(ek D l.length).getD j []∈ek D l.length:=cL;obtain⟨q,z,rfl⟩:=e.len;refine⟨q,z,cL,λR S=>?_,f.ok.long _ d _ p,f.ok.shift _ d _ p,f.ok.door _ cL⟩;have⟨b,c,u,T,C,U,V⟩:=e.at_ R S;cases T;exact⟨b,rfl,(h.sep b C).2.1,(h.sep b C).2.2,U.trans (dH some V)⟩
structure Tn(T pb:Nat)(w:cJ)(ps:List Nat)(i:Nat)(pa:Option Addr)(L:Nat->Nat)(y:SV)(d:Nat)(l:List Nat)(e:Ending)(w':cJ):Prop where
 out:∃bl bt bd la lc SF WU,e=.returned (.func (.func 227) #[] #[.pointer (some ⟨bl,0,none⟩),.pointer (some ⟨bt,0,none⟩),.pointer (some ⟨bd,0,none⟩)])/\
  w.heap.size<=bl/\w.heap.size<=bt/\w.heap.size<=bd/\w'.heap[bl]? =some (.cells #[.slice la l.length lc] 27)/\w'.heap[bt]? =some (.cells #[.pointer (some ⟨T,0,none⟩)] 243)/\w'.heap[bd]? =some (.cells #[.int .i64 d] 3)/\
  (∀j (h:j<l.length),∃lb,la=some ⟨lb,0,none⟩/\lb≠T/\pa≠some ⟨lb,0,none⟩/\w.cell? ⟨lb,j,none⟩=some (.int .i64 l[j]))/\
  w'.heap[T]? =some (fj pb SF (ps.length+1) WU (j7 d l L) y)/\qR T w' SF WU (ps++[i])/\(SF=pa\/∃b,w.heap.size<=b/\SF=some ⟨b,0,none⟩/\b≠bl/\b≠bt/\b≠bd)
 keep:dz (λb=>b=T\/pa=some ⟨b,0,none⟩) w w'
def Ext.yF{w a:cJ}{F:dp}{b:cJ}(h:Ext w a)(k:dz F b w):dz F b a:=k.trans (h.keep F) cL cL
def qR.at_{w:cJ}(h:qR m w a k l)(b:a=some ⟨i,0,none⟩):i<w.heap.size/\m<i:=by obtain⟨h,_,_⟩|⟨c,d,e,f,g,_⟩:=h;grind;grind
def C6{L:Nat->Nat}{y:SV}{w:cJ}(c:s<6)(h:w.heap[j]? =some (.cells (ir #[.pointer (some ⟨m,0,none⟩),.slice a k i,.int .u8 (L 0),.int .u8 (L 1),.int .u8 (L 2),.int .u8 (L 3),.int .u8 (L 4),.int .u8 (L 5),.slice y.sa y.sl y.sc,.int .i64 y.m,.int .i64 y.k,.bool y.b] (2+s) (Value.int .u8 o).cells.toList) 245)):w.heap[j]? =some (fj m a k i (Ji L s o) y):=by rw[h];have:s=0\/s=1\/s=2\/s=3\/s=4\/s=5:=cM;obtain rfl|rfl|rfl|rfl|rfl|rfl:=this<;>simp[ir,Value.cells,fj,Ji]
def To(N:dp)(pb T:Nat)(D:eR)(w:cJ)(ps:cN)(pa:dW)(pc:Nat)(L:Nat->Nat)(y:SV)(i:Nat)(S:zv N pb T D w ps pa pc L y)(J:ps.length<D.opn.length)(hi:i<(ek D ps.length).length):Calls V.prog 215 #[.pointer (some ⟨T,0,none⟩),.int .i64 i] w (Tn T pb w ps i pa L y (gi D ps.length) ((ek D ps.length).getD i [])):=by have⟨la,z,hD⟩:=S.data J hi;have hT:=S.at_;have g:=S.own;have hL:=S.lt;have ab:=S.plan.ok.five;have av:T<w.heap.size:=dA.lt_of_heap hT;generalize gi D ps.length=d at hD⊢;generalize (ek D ps.length).getD i []=l at hD⊢;have⟨⟨ob,no,oc,lb,nl,lc,rb,ni,rc,c0,p1,t1,hd,p2,hl,hr,ac,ad,ae⟩,s,af,ag,A⟩:=hD;refine jd Tryz.func215 Tryz.ntmps215 ?_;refine eJ λw1 bt M j U=>?_;have ct:w1.cell? (dt bt 0)=some (dQ T):=cO U rfl;refine dE dD (dl ct (dl (M.cell c0) (dl (M.cell p1) (dl ct (dl (M.cell t1) (mu (gl ps.length ac (dl (by rw[dn];exact M.cell hd) (Ht ?_)))))))));rintro w2 x2 _ ⟨bd,rfl,ah,c⟩;refine dI c λw3 k3 ai=>?_;have W:=x2.cT k3 ah;have O:=M.trans W;refine dE dD (dl (W.cell ct) (dl (O.cell c0) (dl (O.cell p2) (dl (W.cell ct) (dl (O.cell t1) (mu (gl ps.length ad (dl (by rw[dn];exact O.cell hl) (gl i ae (dl (by rw[dn];exact O.cell hr) (Ht ?_)))))))))));rintro w4 x4 _ ⟨bl,rfl,aj,c⟩;refine dI c λw5 k5 X=>?_;have x5:=x4.cT k5 aj;have X5:=O.trans x5;have s1:=M.size;have s3:=W.size;refine cP (cO X rfl) (dm ?_);refine fu (n:=l.length) (λk=>[(1,i64 i),(2,dQ bt),(5,dQ bd),(6,dQ bl),(40,.slice la l.length z),(41,i64 l.length),(42,i64 k)]) (λk P=>dz (λb=>b=T) w P/\P.heap[T]? =some (fj pb pa ps.length pc (j7 d (l.take k) L) y)/\fF P bt #[dQ T] 243/\fF P bd #[i64 d] 3/\fF P bl #[.slice la l.length z] 27) ⟨by trivial,X5.keep _,X5.at_ hT,x5.at_ (W.at_ U),x5.at_ ai,X⟩ ?_ ?_ ?_;intro k P _ hJ;exact dN ⟨rfl,rfl,by trivial,hJ⟩;rintro k m J ⟨K,C,a,p,E⟩;obtain⟨aw,rfl,ak,au,al⟩:=s k J;have f:=ag l[k] (eG J);have⟨t0,_,t2,_,_⟩:=jq C;refine eX k J (cP (K.fe (by rw[dn];omega) ak) (dE dD (dl (cO a rfl) (dl (cO a rfl) (rK l[k] 6 f (dl (t2 _ f) (dl (cO p rfl) (iY dD _ (λw e=>Js (Gu _ _ w (Em A hL l[k] f) A)) (rK l[k] 6 f λY x7=>?_)))))))));refine jw (x7.at_ C) (by simp[Value.cells];omega) (λF Q G=>cY ?_) (gJ rfl);have T8:=C6 f G;rw[CL A hL k J f]at T8;have am:∀{b:Nat} {o:Obj},w.heap.size<=b->m.heap[b]? =some o->F.heap[b]? =some o:=λc ho=>Q.fN (x7.at_ ho) cM;exact⟨by trivial,(x7.yF K).trans Q cL cL,T8,am j a,cL,cL⟩;rintro m ⟨K,C,a,p,E⟩;rw[yg (di _)]at C;have⟨_,t1,_,_,_⟩:=jq C;have H:∀{b:Nat},w.heap.size<=b->¬pa=some (dt b 0):=λc e=>iI ((g.at_ e).1);have t:¬pa=some (dt T 0):=λe=>iI ((g.at_ e).2);have an:qR T m pa pc ps:=g.ext λb c Z=>K.block b c cL;have ao:T<m.heap.size:=dA.lt_of_heap C;have u:∀b,pa=some (dt b 0)->b<m.heap.size:=cL;have aE:=SK (T:=T) (ps:=ps) (i:=i) (pa:=pa) (pc:=pc);refine dE aE (dx _ (λw e=>cP (e.keep.fe (cO a rfl) (H j)) ⟨rfl,aE.refl _⟩) (dx _ (λw e=>cP (e.keep.fe (cO a rfl) (H j)) ⟨rfl,aE.refl _⟩) (dx _ (λw e=>cP (e.keep.fe t1 t) ⟨rfl,aE.refl _⟩) ?_)));refine .rel (picked i m) (GQ u) (λY x=>er [i64 i] 3 (λF nb e8 ap c=>⟨⟨nb,rfl,du x.keep.size ap,c⟩,As e8⟩))<| .rel (Au T ps i pa m) (B3 u) (λY x v hv=>?_) ?_;obtain⟨B,rfl,ax,aq⟩:=hv;have⟨v,F,aa,R⟩:=GC T Y ps i pa pc 27 B (x.own an) (ew ao x.keep.size) (by simp[World.cell?,aq]) cM;have⟨q,r,e1,e2,e3⟩:=R.val;refine⟨v,F,by simp[builtin,aa,Result.andThen],⟨q,r,e1,e2,e3.imp id λ⟨b,c,e⟩=>⟨b,du x.keep.size c,e⟩⟩,R.keep,λ_=>R.old,R.stay⟩;intro Y x v hv _ _;obtain⟨q,r,rfl,hO,R⟩:Au T ps i pa m v Y:=hv;refine dI (x.keep.fN C t) λF Q G=>?_;have K7:=x.keep;have s6:=K.size;have I:∀{b:Nat} {o:Obj},w.heap.size<=b->m.heap[b]? =some o->F.heap[b]? =some o:=λc ho=>Q.fN (K7.fN ho (H c)) cM;have ar:qR T F q r (ps++[i]):=hO.ext λb c Z=>Q.block b c (iI ((hO.at_ Z).2));refine⟨⟨bl,bt,bd,la,z,q,r,rfl,cM,j,cM,I cM E,I j a,I cM p,s,G,ar,R.imp id λ⟨b,c,e⟩=>⟨b,cM,e,?_⟩⟩,(K.trans K7 (λ_ _ h=>.inl h) λ_ _ h=>.inr h).trans Q (λ_ _ h=>h) λ_ _ h=>.inl h⟩;have g1:=dA.lt_of_heap E;have g2:=dA.lt_of_heap a;have g3:=dA.lt_of_heap p;omega
def Np{b:Func}{c:Code}{u:FrameMode}{R:Ending->dC}(n:Nat)
 (f:P.funcs[K]? =some b)(g:b.body=some c)(j:b.ntmps=n)(h:∀a:Act,a.tmps.size=n->a.defers=[]->(∀i v,W[i]? =some v->a.eval (.tmp i)=v)->c.wp P (bodyPost P b R) a w)(d:W.size<=n):CallsD P K W u w λe k l=>k=u/\R e l:=by
 refine callsD_of_wp f g ?_;rw[j];exact h (CM W n) (vf _ _ d) rfl λi v m=>Ar _ _ _ _ m
def Qw(c T f n g d:Nat)(L:Nat->Nat)(y:SV)(l:cN)(w:cJ)(e:Ending)(a:cJ):Prop:=
 e=.returned undef/\dz (λb=>b=T) w a/\a.heap[T]? =some (fj c (some ⟨f,0,none⟩) n g (oM d l L) y)
def Qx(G T H n v x z R d A:Nat)(I:dW)(L:Nat->Nat)(y:SV)(l:cN)(w:cJ)(u:FrameMode)(J:w.heap[T]? =some (fj G (some ⟨H,0,none⟩) (n+1) v L y))(S:∀s,s<6->L s<32) (M:w.heap[R]? =some (.cells #[.slice I l.length A] 27))(a:w.heap[x]? =some (.cells #[.pointer (some ⟨T,0,none⟩)] 243))(c:w.heap[z]? =some (.cells #[.int .i64 d] 3)) (B:∀j (h:j<l.length),∃N,I=some ⟨N,0,none⟩/\N≠T/\w.cell? ⟨N,j,none⟩=some (.int .i64 l[j]))(O:l.length<=65536)(P:∀s∈l,s<6)(i:d<5)(hn:n+1<=v)(U:n<=65536)(Y:v<2^63):
 CallsD V.prog 227 #[.pointer (some ⟨R,0,none⟩),.pointer (some ⟨x,0,none⟩),.pointer (some ⟨z,0,none⟩)] u w λe Z m=>Z=u/\Qw G T H n v d L y l w e m:=by
 have C:x≠T:=by rintro rfl;rw[J]at a;injection a with a;injection a with _ a _;cases a
 have D:z≠T:=by rintro rfl;rw[J]at c;injection c with c;injection c with _ c _;cases c
 refine Np 39 V.func227 rfl Tryz.ntmps227 (Uy 39 (dX.of dB ?_)) dq;refine cP (cO M rfl) (dm ?_);refine fu (n:=l.length) (λk=>[(1,dQ x),(2,dQ z),(5,.slice I l.length A),(6,i64 l.length),(7,i64 k)]) (λk m=>dz (λb=>b=T) w m/\m.heap[T]? =some (fj G (pr H 0) (n+1) v (oM d (l.take k) L) y)/\fF m x #[dQ T] 243/\fF m z #[i64 d] 3) ⟨by trivial,dz.refl _ _,J,a,c⟩ ?_ ?_ ?_;intro k m _ hJ;exact dN ⟨rfl,rfl,by trivial,hJ⟩;rintro k w6 F ⟨K,t,f,o⟩;obtain⟨aa,rfl,Q,p⟩:=B k F;have g:=P l[k] (eG F);have⟨t0,_,t2,_,_⟩:=jq t;refine eX k F (cP (K.fe (by rw[dn];exact p) Q) (dE dD (dl (cO f rfl) (dl (cO f rfl) (rK l[k] 6 g (dl (t2 _ g) (dl (cO o rfl) (iY dD _ (λw e=>Js (Gv _ _ w (GJ i S l[k] g) i)) (rK l[k] 6 g λw7 q=>?_)))))))));refine jw (q.at_ t) (by simp[Value.cells];omega) (λw8 E r=>cY ?_) (gJ rfl);have W:=C6 g r;rw[Jl i S k F g]at W;exact⟨by trivial,(q.yF K).trans E (λ_ _ h=>h) λ_ _ h=>h,W,E.fN (q.at_ f) C,E.fN (q.at_ o) D⟩;rintro w6 ⟨K,t,f,o⟩;rw[yg (di _)]at t;have⟨_,X,_,_,_⟩:=jq t;refine dE dD (dl (cO f rfl) (dl (cO f rfl) (dl X (dl (cO f rfl) (dl X (mu (vo (dx _ (λw1 _=>pK n cM ⟨rfl,dD.refl _⟩ cM) λw7 q=>?_))))))));exact dI (q.at_ t) λw8 E r=>⟨rfl,(q.yF K).trans E (λ_ _ h=>h) λ_ _ h=>h,r⟩
section
variable{P:cU}{ops:Array Oper}{Q:Exit->Act->cJ->Prop}
def kD{o:Oper}{a:Act}{w w':cJ}{K:Act->dC}(v:cK)(b:ops[i]? =some o)(c:o.guard=none)(d:(execOp a.eval o).run P w=.ok (.value v) w')(h:K (a.put o.dst v) w'):wpOp P ops Q i K a w:=by
 have e:Region.wanted o (yielded ops a.tmps)=true:=by simp[Region.wanted,c]
 unfold wpOp;rw[b];simp only[e,em];refine .inl ?_;unfold Oper.wp;rw[d];exact h
def Nq{o:Oper}{a:Act}{w b:cJ}{K:Act->dC}(d:Deferred)(c:ops[i]? =some o)(e:o.guard=none)(f:(execOp a.eval o).run P w=.ok (.defer d) b)(h:K ({a with defers:=d::a.defers}.put o.dst undef) b):wpOp P ops Q i K a w:=by
 have g:Region.wanted o (yielded ops a.tmps)=true:=by simp[Region.wanted,e]
 unfold wpOp;rw[c];simp only[g,em];refine .inl ?_;unfold Oper.wp;rw[f];exact h
end
def Tr:Tryz.f190.body=some ((gX Tryz.f190 0).seq (gX Tryz.f190 1)):=eE
def Ts(Q:Exit->Act->dC)(a:Act)(w:cJ)(T i:Nat)(B:a.tmps.size=9)(C:a.defers=[])(z:a.eval (.tmp 0)=.pointer (some ⟨T,0,none⟩))(D:a.eval (.tmp 1)=.int .i64 i)
 (h:Calls V.prog 215 #[.pointer (some ⟨T,0,none⟩),.int .i64 i] w λe r=>∃n p q,e=.returned (.func (.func 227) #[] #[.pointer (some ⟨n,0,none⟩),.pointer (some ⟨p,0,none⟩),.pointer (some ⟨q,0,none⟩)])/\
  ∀s:Act,s.tmps.size=9->s.defers=[{target:=.fn (.func 227) #[.pointer (some ⟨n,0,none⟩),.pointer (some ⟨p,0,none⟩),.pointer (some ⟨q,0,none⟩)],args:=#[]}]->s.eval (.tmp 0)=.pointer (some ⟨T,0,none⟩)->Q .normal s r):
 Code.wp V.prog (gX Tryz.f190 0) Q a w:=by
 have e:gX Tryz.f190 0=.region 0 (opsOf (gX Tryz.f190 0)) false:=eE;rw[e];refine pX ?_;have j:(opsOf (gX Tryz.f190 0)).size=4:=eE;rw[j];show wpOps _ _ _ [0,1,2,3] _ _;rw[wpOps_cons];have⟨o,c⟩:=xp 0 j cL;have⟨k,l⟩:=MB c (show infoAt (opsOf (gX Tryz.f190 0)) 0=some (Op.move (.tmp 0),none) by kernel_rfl);have m:o.dst=some 4:=Aq c eE;have b:∀(o:Oper) (f:dU->cK),o.op=Op.move (.tmp 0)->f (.tmp 0)=dQ T->(execOp f o).run jV w=.ok (.value (dQ T)) w:=by rintro⟨d,u,t,v,x,g⟩ f rfl y;go_simp
 refine kD _ c l (b o a.eval k z) ?_;clear b;rw[m,wpOps_cons];clear c k l m o;have⟨o,c⟩:=xp 1 j cL;have⟨k,l⟩:=MB c (show infoAt (opsOf (gX Tryz.f190 0)) 1=some (Op.move (.tmp 1),none) by kernel_rfl);have m:o.dst=some 5:=Aq c eE;have b:∀(o:Oper) (f:dU->cK),o.op=Op.move (.tmp 1)->f (.tmp 1)=i64 i->(execOp f o).run jV w=.ok (.value (i64 i)) w:=by rintro⟨d,u,t,v,x,g⟩ f rfl y;go_simp
 refine kD _ c l (b o _ k (by grind [tl])) ?_;clear b;rw[m,wpOps_cons];clear c k l m o;have⟨o,c⟩:=xp 2 j cL;have⟨k,l⟩:=MB c (show infoAt (opsOf (gX Tryz.f190 0)) 2=some (Op.call {callee:=.value (.func 215),args:=#[.tmp 4,.tmp 5],argTypes:=#[243,3]},none) by kernel_rfl);have m:o.dst=some 6:=Aq c eE;have b:∀(o:Oper) (f:dU->cK),o.op=Op.call {callee:=.value (.func 215),args:=#[.tmp 4,.tmp 5],argTypes:=#[243,3]}->f (.tmp 4)=dQ T->f (.tmp 5)=i64 i->f (.func 215)=.func (.func 215) #[] #[]->(execOp f o).run jV w=.ok (.enter 215 #[dQ T,i64 i]) w:=by rintro⟨d,u,t,v,x,g⟩ f rfl y E F;go_simp
 refine Ap _ _ c l (b o _ k (by grind [tl,xo]) (by grind [xo,uD]) rfl) (h.mono ?_);clear b h;rintro e r ⟨n,p,q,rfl,A⟩;refine .inl ⟨_,rfl,?_⟩;rw[m,wpOps_cons];clear c k l m o;have⟨o,c⟩:=xp 3 j cL;have⟨k,l⟩:=MB c (show infoAt (opsOf (gX Tryz.f190 0)) 3=some (Op.defer {callee:=.value (.tmp 6),args:=#[],argTypes:=#[]},none) by kernel_rfl);have m:o.dst=none:=Aq c eE;have b:∀(o:Oper) (f:dU->cK),o.op=Op.defer {callee:=.value (.tmp 6),args:=#[],argTypes:=#[]}->f (.tmp 6)=(.func (.func 227) #[] #[dQ n,dQ p,dQ q])->
  (execOp f o).run jV r=.ok (.defer {target:=.fn (.func 227) #[dQ n,dQ p,dQ q],args:=#[]}) r:=by
  rintro⟨d,u,t,v,x,g⟩ f rfl y;go_simp
 refine Nq _ c l (b o _ k (by grind [xo,uD])) ?_;rw[m];refine A _ (by grind [uD]) (by grind [y9]) ?_;show(((a.put _ _).put _ _).put _ _).eval (.tmp 0)=_;rw[tl _ _ _ _ dq,tl _ _ _ _ dq,tl _ _ _ _ dq];grind
def Tt(Q:Exit->Act->dC)(a:Act)(w:cJ)(T:Nat)(x:a.tmps.size=9)(p:a.eval (.tmp 0)=.pointer (some ⟨T,0,none⟩))
 (b:Calls V.prog 216 #[.pointer (some ⟨T,0,none⟩)] w λe l=>e=.returned undef/\∀m:Act,m.defers=a.defers->Q .normal m l):
 Code.wp V.prog (gX Tryz.f190 1) Q a w:=by
 have e:gX Tryz.f190 1=.region 1 (opsOf (gX Tryz.f190 1)) false:=eE;rw[e];refine pX ?_;have h:(opsOf (gX Tryz.f190 1)).size=2:=eE;rw[h];show wpOps _ _ _ [0,1] _ _;rw[wpOps_cons];have⟨o,i⟩:=xp 0 h cL;have⟨j,k⟩:=MB i (show infoAt (opsOf (gX Tryz.f190 1)) 0=some (Op.move (.tmp 0),none) by kernel_rfl);have n:o.dst=some 7:=Aq i eE;have c:∀(o:Oper) (f:dU->cK),o.op=Op.move (.tmp 0)->f (.tmp 0)=dQ T->(execOp f o).run jV w=.ok (.value (dQ T)) w:=by rintro⟨d,q,t,r,s,g⟩ f rfl u;go_simp
 refine kD _ i k (c o a.eval j p) ?_;clear c;rw[n,wpOps_cons];clear i j k n o;have⟨o,i⟩:=xp 1 h cL;have⟨j,k⟩:=MB i (show infoAt (opsOf (gX Tryz.f190 1)) 1=some (Op.call {callee:=.value (.func 216),args:=#[.tmp 7],argTypes:=#[243]},none) by kernel_rfl);have c:∀(o:Oper) (f:dU->cK),o.op=Op.call {callee:=.value (.func 216),args:=#[.tmp 7],argTypes:=#[243]}->f (.tmp 7)=dQ T->f (.func 216)=.func (.func 216) #[] #[]->(execOp f o).run jV w=.ok (.enter 216 #[dQ T]) w:=by rintro⟨d,q,t,r,s,g⟩ f rfl u y;go_simp
 refine Ap _ _ i k (c o _ j (by grind [xo]) rfl) (b.mono ?_);clear c b;rintro e l ⟨rfl,v⟩;exact .inl ⟨_,rfl,v _ (by rw[y9,y9])⟩
def qR.init{w:cJ}(h:qR m w a k (l++[i])):qR m w a k l:=by obtain⟨_,h,_⟩|⟨b,c,d,e,f,g,n,j,o⟩:=h;simp at h;refine .inr ⟨b,c,d,e,f,g,cL,j,λp q=>?_⟩;grind
def yG{L a:Nat->Nat}(h:L s=a s):oM d l L s=oM d l a s:=by grind [oM]
def Nr{D:eR}(b:D.Ok)(c:j<D.opn.length)(d:k<D.opn.length)(a:j≠k):gi D j≠gi D k:=by have f:D.opn[j]=gi D j:=rR c rfl;have g:D.opn[k]=gi D k:=rR d rfl;rw[<-f,<-g];intro e;exact a ((List.getElem_inj b.nodup).1 e)
def Ns{D:eR}(b:D.Ok)(a:j<D.opn.length):gi D j<5:=by have c:D.opn[j]=gi D j:=rR a rfl;rw[<-c];exact b.door _ (eG a)
def tE(n:Nat):Prop:=∀(N:dp) (b T:Nat) (D:eR) (c d:Nat) (w:cJ) (a:cN) (e:dW) (f:Nat) (L:Nat->Nat) (y:SV) (s:Sp),a.length+n=D.opn.length->jk N b T D c d w a e f L y s->Calls V.prog 216 #[.pointer (some ⟨T,0,none⟩)] w (GO N b T D c d w a e L (eI D n a L s))
def Hu(n:Nat)(hg:tE n)(N:dp)(Z T:Nat)(D:eR)(m0 j0:Nat)(w:cJ)(p:cN)(I:dW)(pc:Nat)(L:Nat->Nat)(y:SV)(s:Sp)(i:Nat) (hn:p.length+(n+1)=D.opn.length)(q:jk N Z T D m0 j0 w p I pc L y s)(hi:i<(ek D p.length).length):Calls V.prog 190 #[.pointer (some ⟨T,0,none⟩),.int .i64 i] w (GO N Z T D m0 j0 w p I L (eI D n (p++[i]) (j7 (gi D p.length) ((ek D p.length).getD i []) L) s)):=by
 have hk:p.length<D.opn.length:=cM;have aa:=To N Z T D w p I pc L y i q.t hk hi;have⟨aF,aG,hD⟩:=q.t.data hk hi;have K:=hD.long;have am:=hD.shift;have B:=hD.door;have C:=q.t.plan.ok;have hL:=q.t.lt;have aH:T<w.heap.size:=dA.lt_of_heap q.t.at_;have M:=q.t.free;have aC:∀j,p.length+1<=j->j<D.opn.length->gi D p.length≠gi D j:=λj v A=>Nr C hk A cM;have aI:∀j,j<D.opn.length->gi D j<5:=λj h=>Ns C h;have ab:∀s,s<6->tk (L s) (gi D p.length)=L s:=λs hs=>M s hs _ (di _) hk;clear hD;generalize hd:gi D p.length=d at*;generalize hl:(ek D p.length).getD i []=l at*;have aD:∀b,I=some (dt b 0)->b<w.heap.size:=λb g=>by obtain⟨h,_,_⟩|⟨O,P,v,A,h3,_⟩:=q.t.own;grind;grind
 refine zb 9 V.func190 Tr Tryz.ntmps190 (λa z da sa=>?_) dq;have s0:=sa 0 _ rfl;have s1:=sa 1 _ rfl;refine ll (Ts _ a w T i z da s0 s1 (aa.mono ?_));rintro e w1 ⟨⟨bl,bt,bd,la,lc,r,ac,rfl,an,ao,ap,aq,ar,au,ad,aJ,ae,af⟩,G⟩;refine⟨bl,bt,bd,rfl,λa1 z1 d1 av=>?_⟩;have ag:r=I\/∃b,w.heap.size<=b/\r=some (dt b 0):=af.imp id λ⟨b,v,A,_⟩=>⟨b,v,A⟩;have E:∀b,b<w.heap.size->I≠some (dt b 0)->r≠some (dt b 0):=λb g h e=>by grind
 have aw:jk N Z T D m0 j0 w1 (p++[i]) r ac (j7 d l L) y s:=by refine⟨⟨q.t.plan.same λb g=>G.block b (q.t.sep b g).1 (λh=>h.elim (q.t.sep b g).2.1 (q.t.sep b g).2.2),λb g=>⟨ew (q.t.sep b g).1 G.size,(q.t.sep b g).2.1,E b (q.t.sep b g).1 (q.t.sep b g).2.2⟩,cL,ae,Em B hL,λx u j hj ax=>?_,cL,λh=>cM⟩,?_,q.cap.tape G.tape,du q.size G.size,du q.drawn G.drawn⟩;have aK:p.length+1<=j:=cL;unfold j7;split;grind [GI];grind;refine q.sched.move λb P fz g u=>⟨⟨g.1,g.2.1,E b (dA.lt_of_heap u) g.2.2⟩,(G.block b (dA.lt_of_heap u) λh=>h.elim g.2.1 g.2.2).trans u⟩
 refine Tt _ a1 w1 T z1 av ((hg N Z T D m0 j0 w1 (p++[i]) r ac (j7 d l L) y s cL aw).mono ?_);rintro e w2 ⟨rfl,Q,F,L2,y2,m,ah,K2,ai⟩;refine⟨rfl,λa2 d2=>?_⟩;have ay:∀b,r=some (dt b 0)->b<w1.heap.size:=λb g=>by obtain⟨h,_,_⟩|⟨O,P,v,A,h3,_⟩:=ae;grind;grind
 have R:∀{b:Nat} {o:Obj},w.heap.size<=b->(∀c,w.heap.size<=c->r=some (dt c 0)->c≠b)->w1.heap[b]? =some o->w2.heap[b]? =some o:=λg aL ho=>K2.fN ho (by grind);have S:∀b,b=bl\/b=bt\/b=bd->∀c,w.heap.size<=c->r=some (dt c 0)->c≠b:=λb g c hc h=>by obtain v|⟨c',aj,v,n1,n2,n3⟩:=af;grind;grind
 have ak:=m.t.own;have⟨O,aM,e1,e2,e3,e4,e5,e6,e7⟩:∃O P,Q=some (dt O 0)/\T<O/\fF w2 O P 3/\P.size=F/\(p++[i]).length<=F/\F<2^63/\(∀k (h:k<(p++[i]).length),P[k]? =some (i64 (p++[i])[k])):=by obtain⟨_,h,_⟩|h:=ak;simp at h;omega
 have U:=m.t.at_;rw[e1]at U;have W:∀j (h:j<l.length),∃X,la=some (dt X 0)/\X≠T/\w2.cell? (dt X j)=some (i64 l[j]):=λj hj=>by have⟨X,v,A,h3,h4⟩:=ad j hj;have az:X<w.heap.size:=vh h4;exact⟨X,v,A,K2.fe (G.fe h4 λh=>h.elim A h3) λh=>h.elim A (E X az h3)⟩
 have al:(p++[i]).length=p.length+1:=dq;rw[al]at U e5;have aA:=C.five;have Y:=Qx Z T O p.length F bt bd bl d lc la L2 y2 l w2 .returning U m.t.lt (R an (S _ (.inl rfl)) aq) (R ao (S _ (.inr (.inl rfl))) ar) (R ap (S _ (.inr (.inr rfl))) au) W K am B e5 cM e6;show Leaves V.prog _ a2.tmps _ a2.defers .returning w2;rw[d2,d1];refine leaves_cons dq (f:=227) (args:=#[dQ bl,dQ bt,dQ bd]) (by go_simp) (Y.mono ?_);rintro e u' w3 ⟨rfl,rfl,J,aN⟩;show Leaves V.prog _ a2.tmps _ [] (settle .returning) w3;refine⟨undef,by simp[results,Tryz.results190,undef],rfl,Q,F,oM d l L2,y2,?_,?_,?_,?_⟩;have aB:∀x,x<6->oM d l L2 x=L x:=λx u=>(yG (ah x u)).trans (GK B hL ab x u);have aE:∀b,b<w.heap.size->I≠some (dt b 0)->Q≠some (dt b 0):=λb g h e=>by obtain v|⟨c,hc,v⟩:=ai;grind;grind
 refine⟨⟨m.t.plan.same λb g=>J.block b (m.t.sep b g).1 (m.t.sep b g).2.1,λb g=>⟨ew (m.t.sep b g).1 J.size,(m.t.sep b g).2.1,(m.t.sep b g).2.2⟩,cL,ak.init.ext λb g u=>J.block b g (by
  grind),GJ B m.t.lt,λx u j hj ax=>by rw[aB x u];grind,cM,λh=>cM⟩,
  m.sched.move λb P fz g u=>⟨g,(J.block b (dA.lt_of_heap u) g.2.1).trans u⟩,m.cap.tape J.tape,du m.size J.size,du m.drawn J.drawn⟩
 exactλx u=>(yG (ah x u)).trans (GK B hL ab x u);refine(G.trans K2 (H:=λb=>b=T\/I=some (dt b 0)) (λ_ _ h=>h) λx u h=>?_).trans J (λ_ _ h=>h) λ_ _ h=>.inl h;grind;obtain v|⟨c,hc,v⟩:=ai;obtain A|⟨c',aj,A⟩:=ag;grind;exact .inr ⟨c',aj,v.trans A⟩;exact .inr ⟨c,du G.size hc,v⟩
def xK{D:eR}{L a:Nat->Nat}(h:∀x,x<6->L x=a x)(b:cN):eV D L b=eV D a b:=by grind [K4,eV,iO]
theorem tF{D:eR}:∀(n:Nat) {L L':Nat->Nat} (_:∀x,x<6->L x=L' x) (a:cN) (b:Sp),eI D n a L b=eI D n a L' b
 |0,L,L',h,a,b=>by simp only[eI];rw[xK h]
 |n+1,L,L',h,a,b=>by simp only[eI];congr 1;funext b i;exact tF n (λx c=>by grind [j7]) _ b
def Hv{b:Type}(f:b->Nat->b)(a:b)(k:Nat):(List.range (k+1)).foldl f a=f ((List.range k).foldl f a) k:=by rw[nq,qG];rfl
theorem jk.ext{D:eR}{L:Nat->Nat}{y:SV}{s:Sp}(h:jk A m k D i j w l a o L y s)(c:Ext w t):jk A m k D i j t l a o L y s:=
 ⟨⟨h.t.plan.same λb d=>c.block b (h.t.sep b d).1,λb d=>⟨ew (h.t.sep b d).1 c.size,(h.t.sep b d).2⟩,c.at_ h.t.at_,h.t.own.ext λb d _=>c.block b d,h.t.lt,h.t.free,h.t.len,h.t.bare⟩,h.sched.ext c,h.cap.tape c.tape,du h.size c.size,du h.drawn c.drawn⟩
def A8{y:SV}(h:y8 w m o y):∀j v,([.slice y.sa y.sl y.sc,.int .i64 y.m,.int .i64 y.k,.bool y.b]:dP)[j]? =some v->w.cell? ⟨m,o+j,none⟩=some v:=by have⟨a,c,d,e⟩:=h;grind
def y8.ext{y:SV}(h:y8 w m o y)(e:Ext w t):y8 t m o y:=⟨e.cell h.1,e.cell h.2.1,e.cell h.2.2.1,e.cell h.2.2.2⟩
def Qy{L:Nat->Nat}(h:∀s,s<6->w.cell? ⟨m,2+s,none⟩=some (.int .u8 (L s))):∀j v,([.int .u8 (L 0),.int .u8 (L 1),.int .u8 (L 2),.int .u8 (L 3),.int .u8 (L 4),.int .u8 (L 5)]:dP)[j]? =some v->w.cell? ⟨m,2+j,none⟩=some v:=by grind
def JO(p:cK)(x y:SV)(w:cJ):Calls V.prog 194 #[p,x.val,y.val] w (fO λv a=>v=.bool (iW x y)/\Ext w a):=
 (Ef p x y w).mono λ_ _ ⟨h,b,d⟩=>⟨_,h,rfl,b.os,b.tape,b.output,b.size,d,b.block⟩
def Nt:tE 0:=by
 intro N pb T D m0 F w g u G L y s hn o;have ad:g.length=D.opn.length:=cM;have H:=o.t.plan.ok.five;have⟨t0,t1,t2,t3,t4⟩:=jq o.t.at_;have⟨wk,u1,u2,fz,_,I,J,ae⟩:=o.t.plan.at_;have p1:w.cell? (dt pb 1)=some u1:=by simp[World.cell?,I,dY]
 obtain⟨oa,oc,rfl⟩:=J.len;refine jd Tryz.func216 Tryz.ntmps216 ?_;refine dE dD (dl t1 (mu (dl t0 (dl p1 (mu (Lj λz l=>ko cL ?_))))));have d:=o.ext l;have K:g=[]->u=none:=λh=>o.t.bare cL;refine dE dD (dl (l.cell t0) (dl (l.cell t1) (dx (Pn L) (λA m=>ez (Qy λs M=>m.cell (l.cell (t2 s M))) ⟨rfl,dD.refl _⟩) (.rel (En D L g F z) GR (λA m=>?_) (Ht ?_)))));refine cX (R:=λv p=>En D L g F z v p/\Ext A p) ((Jh N pb T D L g u G F A (d.t.plan.same λb c=>m.block b (d.t.sep b c).1) (λb c=>ew (d.t.sep b c).1 m.size) d.t.lt (d.t.own.ext λb c _=>m.block b c).WS K cM (du d.drawn m.drawn)).mono ?_) cL;rintro e w' ⟨y,rfl,M,hc,c,hd⟩;exact⟨_,rfl,⟨y,rfl,dS.imp (λb _ _ c _=>du m.size c) M,hc⟩,c.os,c.tape,c.output,c.size,hd,c.block⟩;rintro A x2 _ ⟨B,rfl,O,c⟩ _ ⟨x,rfl,P,Q⟩;refine dI c λp S U=>?_;have W:p.heap[B]? =some (fp x):=U;have X:=x2.cT S O;have f:=d.ext X;have i:dS (λb=>z.heap.size<=b/\b≠B) p (eV D L g) x:=(P.imp (o':=λb=>z.heap.size<=b/\b≠B) cL).grow λb cs fz h1 q=>S.fN q h1.2;have⟨Y,_,_,Z,_⟩:=jq f.t.at_;have⟨q0,q1,q2,q3,_⟩:=eS W;have r:y8 p B 0 x:=⟨q0,q1,q2,q3⟩;have aa:iW x y=nd (eV D L g) s:=i.better f.sched;have n:eI D 0 g L s=if iW x y=true then eV D L g else s:=by simp only[eI,lz,aa]
 rw[n];refine dE dD (dl Y (dx x.val (λC E=>ez (A8 (r.ext E)) ⟨rfl,dD.refl _⟩) (dx y.val (λC E=>ez (A8 (Z.ext E)) ⟨rfl,dD.refl _⟩) (il _ (λC E=>JO _ x y C) λC j=>⟨λht=>?_,λhf=>?_⟩))));rw[cV ht];refine ez (A8 (r.ext j)) (dI (j.at_ f.t.at_) λw5 k ab=>?_);have a:=f.ext j;have ac:=d.t.own;have s1:=l.size;refine⟨rfl,u,G,L,x,⟨⟨a.t.plan.same λb c=>k.block b (a.t.sep b c).1 (a.t.sep b c).2.1,λb c=>⟨ew (a.t.sep b c).1 k.size,(a.t.sep b c).2⟩,?_,a.t.own.ext λb c q=>k.block b c ?_,a.t.lt,a.t.free,a.t.len,a.t.bare⟩,?_,?_,du a.size k.size,du a.drawn k.drawn⟩,cL,?_,.inl rfl⟩;rw[ab];simp[ir,Value.cells,fj];have:=(a.t.own.at_ q).2;omega;have af:T<w.heap.size:=dA.lt_of_heap o.t.at_;exact i.move λb cs fz c q=>⟨⟨du d.size c.1,cM,λh=>iI ((ac.at_ h).1)⟩,k.fN (j.at_ q) cM⟩;exact((Q.tape S.tape).tape j.tape).tape k.tape;exact((j.yF (X.yF (l.keep _))).trans k (λ_ _ h=>h) cL);rw[cS cL];exact⟨rfl,u,G,L,y,f.ext j,cL,j.yF (X.yF (l.keep _)),.inl rfl⟩
def Nu(n:Nat)(hg:tE n):tE (n+1):=by
 intro N q T D G H w a I pc L y s hn m;have r:a.length<D.opn.length:=cM;have J:=m.t.plan.ok.five;have⟨Z,t1,t2,t3,t4⟩:=jq m.t.at_;have⟨wk,u1,u2,fz,_,u,K,M⟩:=m.t.plan.at_;have p1:w.cell? (dt q 1)=some u1:=by simp[World.cell?,u,dY]
 have p2:w.cell? (dt q 2)=some u2:=by simp[World.cell?,u,dY]
 obtain⟨oa,oc,rfl⟩:=K.len;have j:a.length<D.lists.length:=by rw[m.t.plan.ok.len];exact r
 obtain⟨lb,lc,lu,rfl,aa,O,z⟩:=M.at_ a.length j;have e1:D.lists[a.length]=ek D a.length:=rR j rfl;rw[e1]at z;obtain⟨ra,rc,rfl⟩:=z.len;have P:(ek D a.length).length<=65536:=m.t.plan.ok.many _ (e1▸eG j);refine jd Tryz.func216 Tryz.ntmps216 ?_;refine dE dD (dl t1 (mu (dl Z (dl p1 (mu (Lj λw1 o=>kZ rp ?_))))));refine dE dD (dl (o.cell Z) (dl (o.cell p2) (dl (o.cell t1) (mu (gl a.length j (dl (o.cell (by rw[dn];exact O)) (mu λw2 x2=>?_)))))))
 refine fu (n:=(ek D a.length).length) (λk=>[(0,dQ T),(59,i64 (ek D a.length).length),(60,i64 k)])
  (λk Q=>∃d g L' A,jk N q T D G H Q a d g L' A ((List.range k).foldl (λb i=>eI D n (a++[i]) (j7 (gi D a.length) ((ek D a.length).getD i []) L) b) s)/\(∀s,s<6->L' s=L s)/\
   dz (λb=>b=T\/I=some (dt b 0)) w Q/\(d=I\/∃b,w.heap.size<=b/\d=some (dt b 0))) ⟨by trivial,I,pc,L,y,(m.ext o).ext x2,λ_ _=>rfl,x2.yF (o.keep _),.inl rfl⟩ ?_ ?_ ?_
 intro k Q _ hJ;exact dN ⟨rfl,rfl,by trivial,hJ⟩;rintro k w3 hk ⟨d,g,L',A,S,C,E,f⟩;refine cX (R:=λ_ F=>GO N q T D G H w3 a d L' (eI D n (a++[k]) (j7 (gi D a.length) ((ek D a.length).getD k []) L') ((List.range k).foldl (λb i=>eI D n (a++[i]) (j7 (gi D a.length) ((ek D a.length).getD i []) L) b) s)) (.returned undef) F) ((Hu n hg N q T D G H w3 a d g L' A _ k hn S hk).mono λe F U=>⟨_,U.1,U.1▸U⟩) ?_;rintro v F ⟨_,W,X,L2,y2,g1,g2,g3,p⟩;refine cY ⟨by trivial,W,X,L2,y2,?_,λx B=>(g2 x B).trans (C x B),?_,?_⟩;rw[Hv];rw[tF n (L:=j7 (gi D a.length) ((ek D a.length).getD k []) L') (L':=j7 (gi D a.length) ((ek D a.length).getD k []) L) (λx B=>by unfold j7;rw[C x B])]at g1;exact g1;refine E.trans g3 (λ_ _ h=>h) λx B l=>?_;obtain l|l:=l;exact .inl l;obtain f|⟨c,Y,f⟩:=f;exact .inr (f.symm.trans l);rw[f]at l;have:c=x:=dH Addr.block (dT l);omega;obtain p|⟨c,Y,p⟩:=p;obtain f|⟨c,Y,f⟩:=f;exact .inl (p.trans f);exact .inr ⟨c,Y,p.trans f⟩;exact .inr ⟨c,iI E.size,p⟩;rintro F ⟨d,g,L',A,S,C,E,f⟩;exact⟨rfl,d,g,L',A,S,C,E,f⟩
theorem xL:∀n,tE n
 |0=>Nt
 |n+1=>Nu n (xL n)
def Qz:Pt:=λN c T D d e w a f g L y s b=>xL (D.opn.length-a.length) N c T D d e w a f g L y s (iI b.t.len) b
def QA:GP:=λN b T D c d w a e f L y s i g j h=>Hu (D.opn.length-a.length-1) (xL _) N b T D c d w a e f L y s i cM g h
end Go.Proofs.W
namespace Go.Proofs.W
open Go.Conc Go.dA Go.dA.Cr Go.RowKit
noncomputable def ia:Array Oper:=#[{dst:=some 2,op:=Op.move (.const (.bool true)),type:=4,pos:= "",after:=#[],guard:=none},{dst:=some 2,op:=Op.move (.const (.bool false)),type:=4,pos:= "",after:=#[],guard:=none}]
noncomputable def nA:Code:=match V.zt with
 | .seq _ (.seq _ r)=>r
 |_=>.skip
noncomputable def jY(a:eH):Act:=(iD a).put (some 1) (.func (.func 227) #[] (oY a))
def Nv{b:Array Oper}{Q:Exit->Act->dC}{o:Oper}{a:Act}{K:Act->dC}(v:cK)(c:b[i]? =some o)(d:o.guard=none)(e:(execOp a.eval o).run P w=.halt (.panic v) t)(h:Q (.panic [{v,recovered:=false}]) a t):wpOp P b Q i K a w:=by
 have f:Region.wanted o (yielded b a.tmps)=true:=by simp[Region.wanted,d]
 unfold wpOp;rw[c];simp only[f,em];refine .inl ?_;unfold Oper.wp;rw[e];exact h
def Hw{R:Ending->dC}(t:Nat)(C:w.tape w.drawn (.order 163 1)=t) (h:wpOps V.prog ia (Exit.then (nA.wp V.prog (bodyPost V.prog V.f163 R)) (bodyPost V.prog V.f163 R)) (Region.schedule (V.prog.follows .mixedOrders) ia t) (jY W) w.drew):Calls V.prog 163 W w R:=by
 intro cs;let b:Frame:={(default:Frame)with fn:=163,kind:=.normal};have m:Frame.enter jV 163 W .normal=b.at ⟨W++Array.replicate (9-W.size) gU,[]⟩ [.code V.zt]:=by simp[Frame.enter,Frame.at,V.func163,V.f163,b]
 have D:(Code.region 0 #[{dst:=some 9,op:=Op.move (.const (.bool true)),type:=4,pos:= "",after:=#[],guard:=none},{dst:=some 1,op:=Op.makeFunc (.func 227) #[] #[.tmp 0,.tmp 1,.tmp 2,.tmp 3,.tmp 4,.tmp 5,.tmp 6,.tmp 7,.tmp 8,.tmp 9],type:=0,pos:= "",after:=#[],guard:=none}] false).wp jV
  (λe a w'=>e=.normal/\a=jY W/\w'=w) ⟨W++Array.replicate (9-W.size) gU,[]⟩ w:=by
  refine pX ?_;show wpOps _ _ _ [0,1] _ _;rw[wpOps_cons];refine kD (w':=w) (o:={dst:=some 9,op:=Op.move (.const (.bool true)),type:=4,pos:= "",after:=#[],guard:=none}) (.bool true) rfl rfl (by go_simp) ?_;rw[wpOps_cons];refine kD (w':=w) (o:={dst:=some 1,op:=Op.makeFunc (.func 227) #[] #[.tmp 0,.tmp 1,.tmp 2,.tmp 3,.tmp 4,.tmp 5,.tmp 6,.tmp 7,.tmp 8,.tmp 9],type:=0,pos:= "",after:=#[],guard:=none}) (.func (.func 227) #[] (oY W)) rfl rfl ?_ ⟨rfl,rfl,rfl⟩;have x:∀j:dU->cK,(execOp j {dst:=some 1,op:=Op.makeFunc (.func 227) #[] #[.tmp 0,.tmp 1,.tmp 2,.tmp 3,.tmp 4,.tmp 5,.tmp 6,.tmp 7,.tmp 8,.tmp 9],type:=0,pos:= "",after:=#[],guard:=none}).run jV w=.ok (.value (.func (.func 227) #[] #[j (.tmp 0),j (.tmp 1),j (.tmp 2),j (.tmp 3),j (.tmp 4),j (.tmp 5),j (.tmp 6),j (.tmp 7),j (.tmp 8),j (.tmp 9)])) w:=by intro j;go_simp;try rfl
  exact x _
 obtain⟨O,Q,n,⟨rfl,rfl,rfl⟩,E⟩:=D b (.code (.seq (.region 1 ia true) nA)::[]) cs;have F:Steps jV (lone (Frame.enter jV 163 W .normal) cs n) (lone (b.at (jY W) [.code (.seq (.region 1 ia true) nA)]) cs n):=by rw[m];exact .head step_seq E
 have G:Steps jV (lone (Frame.enter jV 163 W .normal) cs n) (lone (b.at (jY W) [.inRegion ia (Region.schedule (V.prog.follows .mixedOrders) ia t),.code nA]) cs n.drew):=by refine F.trans (.head step_seq (.one ?_));have:=step_region_draw (P:=jV) (b:=b) (a:=jY W) (k:=[.code nA]) (cs:=cs) (w:=n) (ops:=ia) (id:=1);rw[show n.tape n.drawn (.order b.fn 1)=t from C]at this;exact this
 have f:∀(k:List Item) (e:Exit) (a:Act) (w':cJ),(e=.normal->k=[])->bodyPost jV V.f163 R e a w'->Arrives jV (lone (Frame.enter jV 163 W .normal) cs n) b k cs e a w'->∃e w' y,R e w'/\Go.Comes jV (lone (Frame.enter jV 163 W .normal) cs n) (lone y cs w') e/\y.fn=163/\y.leaving jV w' e:=by
  intro k e a w' H g d;cases e with
  |normal=>
   obtain rfl:=H rfl;have⟨p,v,z,q⟩:=g;exact⟨.returned v,w',_,q,Steps.trans d (.one step_end),rfl,rfl,p,rfl,V.f163,V.func163,z⟩
  |ret=>
   have⟨p,v,z,q⟩:=g;have⟨r,A⟩:=d;exact⟨.returned v,w',_,q,A,rfl,rfl,p,rfl,V.f163,V.func163,z⟩
  |panic c=>
   have⟨p,q⟩:=g;have⟨r,A⟩:=d;exact⟨.panicked c,w',_,q,A,rfl,rfl,p,V.f163,V.func163⟩
  |exit id=>exact g.elim
  |goto l=>exact g.elim
  |outgrown=>exact⟨.outgrown,w',b,g,d.resolve_left cL,rfl,trivial⟩
 have⟨I,s,u,g,J⟩:=wp_ops _ _ _ h b [.code nA] cs;have i:=Arrives.of_steps G J;cases I with
 |normal=>
  have⟨K,L,M,B,N⟩:=g b [] cs;exact f [] K L M (λ_=>rfl) B (Arrives.of_steps i N)
 |ret=>exact f _ .ret s u (λh=>cL) g i
 |panic c=>exact f _ (.panic c) s u (λh=>cL) g i
 |exit id=>exact f _ (.exit id) s u (λh=>cL) g i
 |goto l=>exact f _ (.goto l) s u (λh=>cL) g i
 |outgrown=>exact f _ .outgrown s u (λh=>cL) g i
theorem VN:Region.schedule (V.prog.follows .mixedOrders) ia 1=[1,0]:=eE
theorem VO:Region.schedule (V.prog.follows .mixedOrders) ia 0=[0,1]:=eE
def LI(b:eH)(w:cJ)(h:Region.schedule (V.prog.follows .mixedOrders) ia (w.tape w.drawn (.order 163 1))=[1,0]):Calls V.prog 163 b w λe w'=>e=.panicked jX/\w'=w.drew.alloc (tD (oY b)):=by
 refine Hw _ rfl ?_;rw[h];rw[wpOps_cons];refine kD (w':=w.drew) (o:={dst:=some 2,op:=Op.move (.const (.bool false)),type:=4,pos:= "",after:=#[],guard:=none}) (.bool false) rfl rfl (by go_simp) ?_;rw[wpOps_cons];refine kD (w':=w.drew) (o:={dst:=some 2,op:=Op.move (.const (.bool true)),type:=4,pos:= "",after:=#[],guard:=none}) (.bool true) rfl rfl (by go_simp) ?_;have k:10<=(jY b).tmps.size\/(jY b).tmps.size=9:=by grind [uD,jY,iD]
 have n:9<=(jY b).tmps.size:=cM;have⟨a,i⟩:=ju (((jY b).put (some 2) (.bool false)).put (some 2) (.bool true));have l:a.eval (.tmp 2)=.bool true:=by grind [xo,uD]
 have p:a.eval (.tmp 1)=.func (.func 227) #[] (oY b):=by rw[i,tl _ _ _ _ dq,tl _ _ _ _ dq];exact xo _ _ _ (by grind [uD,iD])
 have m:a.defers=[]:=by rw[i];rfl
 have q:9<=a.tmps.size:=by grind [uD]
 show Code.wp jV nA _ (((jY b).put (some 2) (.bool false)).put (some 2) (.bool true)) w.drew;rw[<-i];clear i;show Code.wp jV (Code.seq (Code.cond (.tmp 2) _ .skip) _) _ a w.drew;refine ll (wp_cond_true l (ll (pX ?_)));show wpOps _ _ _ [0] _ _;rw[wpOps_cons];refine kD (w':=w.drew.alloc (tD (oY b))) (o:={dst:=some 3,op:=Op.box 200 (.tmp 1),type:=0,pos:= "",after:=#[],guard:=none}) (dQ w.drew.lG) rfl rfl ?_ ?_;have f:∀(o:Oper) (c:dU->cK),o.op=Op.box 200 (.tmp 1)->c (.tmp 1)=.func (.func 227) #[] (oY b)->(execOp c o).run jV w.drew=.ok (.value (dQ w.drew.lG)) (w.drew.alloc (tD (oY b))):=by rintro⟨d,op,t,r,s,g⟩ c rfl j;generalize oY b=u at j⊢;unfold tD;go_simp
 grind;refine pX ?_;show wpOps _ _ _ [0] _ _;rw[wpOps_cons];have f:∀c:dU->cK,c (.const (.iface 3 (i64 7)))=.iface 3 (i64 7)->(execOp c {dst:=none,op:=Op.panic (.const (.iface 3 (i64 7))),type:=0,pos:= "",after:=#[],guard:=none}).run jV (w.drew.alloc (tD (oY b)))=.halt (.panic (.iface 3 (i64 7))) (w.drew.alloc (tD (oY b))):=by intro c j;go_simp
 exact Nv (o:={dst:=none,op:=Op.panic (.const (.iface 3 (i64 7))),type:=0,pos:= "",after:=#[],guard:=none}) _ rfl rfl (f _ rfl) ⟨by rw[y9,m],rfl,rfl⟩
def Nw(a:Nat)(w:cJ):(Instr.build 245 #[(0,.pointer (some ⟨a,0,none⟩))]).run V.prog w=.ok (.agg (kR ⟨a,0,none⟩)) w:=eE
def QB(N:dp)(d:Nat)(D:eR)(w:cJ)(M:fZ N d D w)(K:∀b,N b->b<w.heap.size)(h:Region.schedule (V.prog.follows .mixedOrders) ia (w.tape w.drawn (.order 163 1))=[0,1]):Calls V.prog 163 #[.pointer (some ⟨d,0,none⟩)] w (λe w'=>A7 D w e w'/\Ext w w'):=by
 refine Hw _ rfl ?_;rw[h];rw[wpOps_cons];refine kD (w':=w.drew) (o:={dst:=some 2,op:=Op.move (.const (.bool true)),type:=4,pos:= "",after:=#[],guard:=none}) (.bool true) rfl rfl (by go_simp) ?_;rw[wpOps_cons];refine kD (w':=w.drew) (o:={dst:=some 2,op:=Op.move (.const (.bool false)),type:=4,pos:= "",after:=#[],guard:=none}) (.bool false) rfl rfl (by go_simp) ?_;have O:(iD #[dQ d]).tmps.size=9:=by grind [uD,iD]
 have⟨a,J⟩:=ju (((jY #[dQ d]).put (some 2) (.bool true)).put (some 2) (.bool false));have hz:a.tmps.size=9:=by grind [uD,jY]
 have P:a.eval (.tmp 2)=.bool false:=by grind [xo,uD]
 have e0:a.eval (.tmp 0)=dQ d:=by rw[J,tl _ _ _ _ dq,tl _ _ _ _ dq];unfold jY;rw[tl _ _ _ _ dq];unfold iD;rw[tl _ _ _ _ dq];rfl
 have ed:a.defers=[]:=by rw[J];rfl
 show Code.wp V.prog nA _ (((jY _).put (some 2) (.bool true)).put (some 2) (.bool false)) w.drew;rw[<-J];clear J;show Code.wp V.prog (Code.seq (Code.cond (.tmp 2) _ .skip) _) _ a w.drew;refine ll (wp_cond_false P (wp_skip ?_));refine ll (pX ?_);show wpOps _ _ _ [0] _ _;rw[wpOps_cons];refine kD (w':=w.drew) (o:={dst:=some 3,op:=Op.build 245 #[(0,.tmp 0)],type:=245,pos:= "",after:=#[],guard:=none}) (.agg (kR (dt d 0))) rfl rfl ?_ ?_;have n:=Nw d w.drew;have g:∀c:dU->cK,c (.tmp 0)=dQ d->(execOp c {dst:=some 3,op:=Op.build 245 #[(0,.tmp 0)],type:=245,pos:= "",after:=#[],guard:=none}).run V.prog w.drew=.ok (.value (.agg (kR (dt d 0)))) w.drew:=by intro c C;simp[execOp,C,n,Result.andThen]
 grind;show wpOps _ _ _ [] (a.put (some 3) _) _;have⟨v,E⟩:=ju (a.put (some 3) (.agg (kR (dt d 0))));have z1:v.tmps.size=9:=by grind [uD]
 have d1:v.defers=[]:=by grind [y9]
 have e3:v.eval (.tmp 3)=.agg (kR (dt d 0)):=by grind [xo]
 rw[<-E];clear E;show Code.wp V.prog (Code.seq _ _) _ v w.drew;refine ll (pX ?_);show wpOps _ _ _ [0] _ _;rw[wpOps_cons];have⟨i,q⟩:=ju (w.drew.alloc (fj d none 0 0 L0 SI));refine kD (w':=i) (o:={dst:=some 4,op:=Op.box 245 (.tmp 3),type:=0,pos:= "",after:=#[],guard:=none}) (dQ w.heap.size) rfl rfl ?_ ?_;have g:∀c:dU->cK,c (.tmp 3)=.agg (kR (dt d 0))->(execOp c {dst:=some 4,op:=Op.box 245 (.tmp 3),type:=0,pos:= "",after:=#[],guard:=none}).run V.prog w.drew=.ok (.value (dQ w.heap.size)) i:=by intro c C;rw[q,<-Nn];generalize kR (dt d 0)=Q at C⊢;go_simp
 grind;show wpOps _ _ _ [] (v.put (some 4) _) _;have⟨x,F⟩:=ju (v.put (some 4) (dQ w.heap.size));have z2:x.tmps.size=9:=by grind [uD]
 have d2:x.defers=[]:=by grind [y9]
 have R:x.eval (.tmp 4)=dQ w.heap.size:=by grind [xo]
 rw[<-F];clear F;have f:Ext w i:=by rw[q];exact(Ext.drew w).trans (Ext.alloc _ _)
 have S:i.heap[w.heap.size]? =some (fj d none 0 0 L0 SI):=by rw[q];exact fY w.drew _
 have T:jk N d w.heap.size D w.heap.size w.drawn i [] none 0 L0 SI none:=
  ⟨⟨M.same λb n=>f.block b (K b n),λb n=>⟨ew (K b n) f.size,cL,dq⟩,S,.inl ⟨rfl,rfl,rfl⟩,λs _=>by simp[L0],λs _ j _ _=>C4 _,gh _,λ_=>rfl⟩,rfl,(λl m k h=>cL),f.size,f.drawn⟩
 clear q;show Code.wp V.prog (Code.seq _ _) _ x i;refine ll (pX ?_);show wpOps _ _ _ [0] _ _;rw[wpOps_cons];refine Ap (o:={dst:=some 5,op:=Op.call {callee:=.value (.func 216),args:=#[.tmp 4],argTypes:=#[243]},type:=0,pos:= "",after:=#[],guard:=none}) 216 #[dQ w.heap.size] rfl rfl ?_ ((Qz N d w.heap.size D w.heap.size w.drawn i [] none 0 L0 SI none T).mono ?_);have g:∀c:dU->cK,c (.tmp 4)=dQ w.heap.size->c (.func 216)=.func (.func 216) #[] #[]->(execOp c {dst:=some 5,op:=Op.call {callee:=.value (.func 216),args:=#[.tmp 4],argTypes:=#[243]},type:=0,pos:= "",after:=#[],guard:=none}).run V.prog i=.ok (.enter 216 #[dQ w.heap.size]) i:=by intro c C q1;go_simp
 exact g _ R rfl;rintro e p ⟨rfl,U,W,L2,z,r,_,A,_⟩;refine .inl ⟨_,rfl,?_⟩;have B:eI D (D.opn.length-([]:cN).length) [] L0 none=gO D:=rfl;rw[B]at r;have⟨_,_,_,⟨y0,y1,X,y3⟩,_⟩:=jq r.t.at_;show wpOps _ _ _ [] (x.put (some 5) _) _;have⟨y,G⟩:=ju (x.put (some 5) undef);have z3:y.tmps.size=9:=by grind [uD]
 have d3:y.defers=[]:=by grind [y9]
 have Y:y.eval (.tmp 4)=dQ w.heap.size:=by grind [tl]
 rw[<-G];clear G;show Code.wp V.prog (Code.seq _ _) _ y p;refine ll (pX ?_);show wpOps _ _ _ [0] _ _;rw[wpOps_cons];refine kD (w':=p) (o:={dst:=some 6,op:=Op.fieldAddr 245 (.tmp 4) 3,type:=0,pos:= "",after:=#[],guard:=none}) (oz w.heap.size 8) rfl rfl ?_ ?_;have g:∀c:dU->cK,c (.tmp 4)=dQ w.heap.size->(execOp c {dst:=some 6,op:=Op.fieldAddr 245 (.tmp 4) 3,type:=0,pos:= "",after:=#[],guard:=none}).run V.prog p=.ok (.value (oz w.heap.size 8)) p:=by intro c C;go_simp
 grind;show wpOps _ _ _ [] (y.put (some 6) _) _;have⟨u,H⟩:=ju (y.put (some 6) (oz w.heap.size 8));have z4:u.tmps.size=9:=by grind [uD]
 have Z:u.defers=[]:=by grind [y9]
 have e6:u.eval (.tmp 6)=oz w.heap.size 8:=by grind [xo]
 rw[<-H];clear H;show Code.wp V.prog (Code.seq _ Code.ret) _ u p;refine ll (pX ?_);show wpOps _ _ _ [0] _ _;rw[wpOps_cons];refine kD (w':=p) (o:={dst:=some 7,op:=Op.load 199 (.tmp 6),type:=199,pos:= "",after:=#[],guard:=none}) z.val rfl rfl ?_ ?_;have g:∀c:dU->cK,c (.tmp 6)=oz w.heap.size 8->(execOp c {dst:=some 7,op:=Op.load 199 (.tmp 6),type:=199,pos:= "",after:=#[],guard:=none}).run V.prog p=.ok (.value z.val) p:=by intro c C;simp only[SV.val];go_simp
 grind;show wpOps _ _ _ [] (u.put (some 7) _) _;show Code.wp V.prog Code.ret _ (u.put (some 7) z.val) p;have I:∀b,b<w.heap.size->p.heap[b]? =w.heap[b]? :=by intro b n;rw[A.block b (ew n f.size) (by grind),f.block b n]
 refine wp_ret ⟨by rw[y9,Z],z.val,?_,⟨z,rfl,?_,r.cap,I,?_⟩,⟨A.os.trans f.os,A.tape.trans f.tape,A.output.trans f.output,du f.size A.size,du f.drawn A.drawn,I⟩⟩;have L:(u.put (some 7) z.val).eval (.tmp 7)=z.val:=xo _ _ _ cM;rw[kS]at L;simp[results,V.f163,L];exact r.sched.move λb Q fz n hx=>⟨n.1,hx⟩;rw[A.tape,f.tape]
def VP(a:eH)(w:cJ)(h:w.tape w.drawn (.order 163 1)=1):Calls V.prog 163 a w λe b=>e=.panicked jX/\b=w.drew.alloc (tD (oY a)):=LI a w (by grind [VN])
def Xd(N:dp)(a:Nat)(D:eR)(w:cJ)(c:fZ N a D w)(d:∀b,N b->b<w.heap.size)(h:w.tape w.drawn (.order 163 1)=0):Calls V.prog 163 #[.pointer (some ⟨a,0,none⟩)] w (A7 D w):=(QB N a D w c d (by grind [VO])).mono λ_ _ h=>h.1
def Ny(t:Nat):Region.schedule (V.prog.follows .mixedOrders) ia t=[0,1]\/Region.schedule (V.prog.follows .mixedOrders) ia t=[1,0]:=by
 have d:Region.departs ia=false:=eE;have e:Region.schedule (V.prog.follows .mixedOrders) ia t=Region.linearise .any ia t:=by unfold Region.schedule;grind
 rw[e]
 have b:∀(n t:Nat) (L:Array Bool) (a:cN) (c:cN),((List.range ia.size).filter λi=>!L.getD i true&&((ia[i]?).map (·.after.all λe=>!Region.binds .any e||L.getD e.on false)).getD false)=c->Region.linearise.go .any ia (n+1) t L a=match c[t%c.iw]? with
  |some i=>Region.linearise.go .any ia n (t/c.iw) (L.setIfInBounds i true) (i::a)
  |none=>a.reverse:=by
  intro n t L a c h;subst h;rfl
 show Region.linearise.go .any ia 2 t #[false,false] []=_\/Region.linearise.go .any ia 2 t #[false,false] []=_;rw[b 1 t #[false,false] [] [0,1] eE];obtain h|h:=(show t%2=0\/t%2=1 by omega);have:([0,1]:cN)[t%([0,1]:cN).iw]? =some 0:=by grind
 simp only[this];rw[b 0 _ (#[false,false].setIfInBounds 0 true) [0] [1] eE];have:([1]:cN)[t/([0,1]:cN).iw%([1]:cN).iw]? =some 1:=by grind
 simp only[this];exact .inl rfl;have:([0,1]:cN)[t%([0,1]:cN).iw]? =some 1:=by grind
 simp only[this];rw[b 0 _ (#[false,false].setIfInBounds 1 true) [1] [0] eE];have:([0]:cN)[t/([0,1]:cN).iw%([0]:cN).iw]? =some 0:=by grind
 simp only[this];exact .inr rfl
def Nz:C5:=⟨VP,Xd,λN a D w b c d=>Tk QA N a D w b c d⟩
end Go.Proofs.W
namespace Go.Proofs.W
open Go.RowKit
def uF(R:nu):Ending->dC:=λe w=>(∃v,e=.returned v/\R v w)\/(e=.panicked jX/\UQ w)
theorem uF.of{R:nu}(h:Calls V.prog K W w (fO R)):Calls V.prog K W w (uF R):=h.mono λe w h=>.inl h
def iM{k:nu}{R:nu}{b:List PanicEntry->dC}(g:Calls V.prog K M.toArray w (uF R))(i:∀a,UQ a->b jX a)(h:∀v a,R v a->k v a)(c:∀f w,Sem.run V.prog (callFunc K f) w=.ok (.enter K f) w:=by intro _ _;kernel_rfl):SL V.prog K M w k b:=by refine⟨c,g.mono ?_⟩;rintro e a (⟨v,rfl,d⟩|⟨rfl,d⟩);exact h v a d;exact i a d
def QC(a:Addr):oY #[.pointer (some a)]=vx (.pointer (some a)):=by rfl
def Hx{D:eR}(c:fZ A m D w)(a:∀b,A b->b<w.heap.size):Calls V.prog 163 #[dj m] w (uF λv w'=>Ext w w'/\∃y:SV,v=y.val/\dS (λb=>w.heap.size<=b) w' (gO D) y):=by obtain h|h:=Ny (w.tape w.drawn (.order 163 1));refine(QB A m D w c a h).mono ?_;rintro e w' ⟨⟨y,rfl,d,_⟩,f⟩;exact .inl ⟨_,rfl,f,y,rfl,d⟩;refine(LI _ w h).mono ?_;rintro e w' ⟨rfl,rfl⟩;refine .inr ⟨rfl,m,w.lG,D,A,?_,?_,fZ.same (w:=w) (w':=w.drew.alloc (tD (oY #[dj m]))) (λb g=>alloc_old w.drew _ (a b g)) c,a⟩;rw[<-QC];exact fY w.drew _;exact World.size_alloc _ _
def UT:Sp->Int
 |none=>0
 |some (_,m,_)=>m
def pR(D:eR):Int×Bool:=(UT (gO D),(gO D).isSome)
def Hy{s:Sp}{y:SV}(h:dS A w s y):∃a l c n,y.val=.agg #[.slice a l c,.int .i64 (UT s),.int .i64 n,.bool s.isSome]:=by
 cases s with
 |none=>
  have h:y=⟨none,0,0,0,0,false⟩:=h;subst h;exact⟨none,0,0,0,rfl⟩
 |some s=>
  have⟨l,m,n⟩:=s;have⟨f,g,i,k,j,o⟩:=y;have⟨b,d,e,p,q⟩:=h;simp only at b d e;subst b d e;exact⟨f,g,i,j,rfl⟩
def C7{wp gp mk ms n0:Nat}{f:List Sx}(h:mE wp gp mk ms H f I w)(p:∀b,A b->b<w.heap.size)(q:mc A mk ms H w)(g:n0<=mk)(r:n0<=ms)(i:∀x∈f,vw 100000 x)(s:m<=fl H):
 Calls V.prog 116 #[dj wp,.int .i64 m] w (uF λv o=>MA n0 mk ms H A w o/\v=.tuple #[.int .i64 (pR (ei H f m)).1,.bool (pR (ei H f m)).2]):=by
 refine jd Tryz.func116 Tryz.ntmps116 ?_;refine cX (A0 h p q g r i s) ?_;rintro v t ⟨u,L,rfl,z⟩;refine iM (Hx z λb j=>by have⟨_,_,_,_,j⟩:=j;exact dA.lt_of_heap j) (λo h=>.inr ⟨rfl,h⟩) ?_;rintro v M ⟨B,y,rfl,C⟩;have⟨a,l,c,n,D⟩:=Hy C;rw[D];refine eU λN O E k d=>dI d λF G e=>?_;have J:Ext t F:=B.trans (E.cT G k);refine dE dD (dl (cO e rfl) (dl (cO e rfl) λP K=>.inl ⟨_,rfl,(wD n0 mk ms H A).trans _ _ _ u ((J.trans K).ma _ _ _ _ _),rfl⟩))
def NA{b:List Sx}(h:∀x∈b,vw k x)(d:Nat):∀x∈leave1 b d,vw k x:=λx a=>by unfold leave1 at a;split at a;rename_i y c;obtain a|rfl:=vR a;exact h x a;exact h y (pz c);exact h x a
theorem C8:∀{l:cN} {xs:List Sx},(∀x∈xs,vw k x)->∀x∈iG xs l,vw k x
 |[],xs,h=>h
 |d::r,xs,h=>C8 (l:=r) (xs:=leave1 xs d) (NA h d)
def MA.mf{n0 mk ms:Nat}(h:MA n0 mk ms H B w t):MF A n0 mk ms H B w t:=⟨h.1.os,h.1.tape,h.1.output,h.1.size,h.1.drawn,λx o _ a b=>h.1.block x o a b,λ_ c=>h.2 c⟩
structure LB(wp gp mk ms n0:Nat)(G:Gd)(xs:List Sx)(before:Int)(from_:Nat)(canv:Int)(wb fb ob cb:Nat)(A:Nat->Prop)(w:cJ):Prop where
 h:mE wp gp mk ms G xs before w
 p:mc A mk ms G w
 a:∀b,A b->b<w.heap.size
 b1:w.heap[wb]? =some (.cells #[dj wp] 133)
 b2:w.heap[fb]? =some (.cells #[.int .i64 from_] 3)
 b4:w.heap[cb]? =some (.cells #[.int .i64 canv] 3)
 off:∀w',(∀b cs t fz,b≠ob->w.heap[b]? =some (.cells cs t fz)->w'.heap[b]? =some (.cells cs t fz))->w.heap.size<=w'.heap.size->mE wp gp mk ms G xs before w'
 nob:wb≠ob/\fb≠ob/\cb≠ob
 ao:A ob
def LB.mf{wp gp mk ms n0:Nat}{f:List Sx}(h:LB wp gp mk ms n0 H f I m J k i j o A w)(e:MF (λx=>x=j) n0 mk ms H A w t):LB wp gp mk ms n0 H f I m J k i j o A t:=
 ⟨h.off t (λb g l n c d=>e.at_ c d) e.size,e.m h.a h.p,λb c=>ew (h.a b c) e.size,e.at_ h.nob.1 h.b1,e.at_ h.nob.2.1 h.b2,e.at_ h.nob.2.2 h.b4,λq r s=>h.off q (λb g l n c d=>r b g l n c (e.at_ c d)) (du e.size s),h.nob,h.ao⟩
def mF(G:Gd)(c:List Sx)(a:Nat)(b:Int)(l:cN):Bool:=(pR (ei G (iG c l) a)).2&&decide ((pR (ei G (iG c l) a)).1<=b)
def VQ{wp gp mk ms n0:Nat}{r:List Sx}(h:LB wp gp mk ms n0 H r I m J k i j o A w)(C:n0<=mk)(S:n0<=ms)(D:∀q∈r,vw 100000 q)(T:m<=fl H) (U:fJ w a l)(W:∀d∈l,d<r.length)(s:l.length<=100000)(E:w.heap[j]? =some (.cells #[x] 27)):
 Calls V.prog 170 #[.slice a l.length p,dj k,dj i,dj j,dj o] w (uF λv G=>MF (λq=>q=j) n0 mk ms H A w G/\v=.bool (mF H r m J l)/\G.heap[j]? =some (.cells #[.slice a l.length p] 27)):=by
 refine jd Tryz.func170 Tryz.ntmps170 ?_;have K:∀{g},MA n0 mk ms H A w g->MF (λq=>q=j) n0 mk ms H A w g:=λe=>e.mf;have⟨F,L⟩:=ju (pR (ei H (iG r l) m));refine dE (wD n0 mk ms H A)<| .exact (dj wp) (λg f=>cP (cO (f.1.at_ h.b1) rfl) ⟨rfl,(wD n0 mk ms H A).refl _⟩)<| .rel (λu g=>∃c,u=dj c/\mE c gp mk ms H (iG r l) I g) (λu aa b ⟨c,M,N⟩ e=>⟨c,M,N.iC e.1⟩) (λg f=>?_) ?_;exact cX (JA (h.h.iC f.1) (U.iC f.1) W s) λu B ⟨X,c,M,N⟩=>⟨⟨c,M,N⟩,X.ma _ _ _ _ _⟩;refine .exact (i64 m) (λg f=>cP (cO (f.1.at_ h.b2) rfl) ⟨rfl,(wD n0 mk ms H A).refl _⟩)<| .exact (.tuple #[i64 F.1,.bool F.2]) (λg f t O=>?_) ?_;obtain⟨c,rfl,Y⟩:∃c,t=dj c/\mE c gp mk ms H (iG r l) I g:=O;exact iM (C7 Y (λb y=>ew (h.a b y) f.1.size) (f.2 h.p) C S (C8 D) T) (λG h=>.inr ⟨rfl,h⟩) λv B ⟨Z,hv⟩=>⟨by rw[hv,L],Z⟩;intro g f t _;have z:=f.1.at_ E;refine dI z λB Q n=>?_;have n:fF B j #[.slice a l.iw p] 27:=n;have P:=Q.fN (f.1.at_ h.b4) h.nob.2.2;have R:MF (λq=>q=j) n0 mk ms H A w B:=(JC _ n0 mk ms H A).trans _ _ _ (K f) (MF.Qe Q λq hx=>by subst hx;exact h.ao);refine⟨λy=>?_,λy=>?_⟩;refine cP (cO P rfl) (oP (.inl ⟨_,rfl,R,?_,n⟩));unfold mF;rw[<-L,y];rfl;refine .inl ⟨_,rfl,R,?_,n⟩;unfold mF;rw[<-L,y];rfl
section
variable{w:cJ}{k:cK->cJ->Prop}
def uR(a:dW)(i c:Nat):dW:=if c=i then a else a.map (·.add i)
def wG(b:Nat)(n:b<=m)(o:m<=i)(h:k (.slice (uR a b i) (m-b) (i-b)) w)(f:I=(b:Nat):=by rfl)(g:ty T=some ⟨3,1,1,0⟩:=by rfl):jO V.prog (Instr.sliceAt T (.slice a m i) (some (.int .i64 I)) none none) w k:=by subst f;have⟨e,j,l⟩:=tv g rfl;refine⟨_,w,?_,h⟩;have c:(b:Int)<=(m:Int):=cM;have d:(0:Int)<=(b:Int):=dq;unfold Instr.sliceAt Instr.slice;simp only[Sem.run_bind,iz j,Result.andThen_ok,Instr.sliceBounds,Instr.sliceBound,asIntOf,pure_bind,d,c,and_self,em,Sem.run_pure,mP l,wZ,iR,fq];simp only[ow,rm,uR]
end
theorem fJ.drop{w:cJ}(h:fJ w a l)(i:Nat)(f:l.length<=m):fJ w (uR a i m) (l.drop i):=λk g=>by have c:i+k<l.length:=cL;have⟨b,o,e,j⟩:=h (i+k) c;have d:¬m=i:=cM;refine⟨b,o+i,?_,?_⟩;unfold uR;rw[cS d,e];simp[iq];grind
structure PE(w2:cJ)(k d:Nat)(a b:cJ):Prop where
 e:dz (λx=>w2.heap.size<=x) a b
 r:∀x cs,w2.heap.size<=x->a.heap[x]? =some (.cells cs 3)->∃tU,b.heap[x]? =some (.cells tU 3)/\tU.size=cs.size/\∀j,tU[j]? =cs[j]? \/(j=k/\tU[j]? =some (.int .i64 d))
 o:Ext a b\/(∀x,x<w2.heap.size->a.heap[x]? =w2.heap[x]?)\/a.heap.size<w2.heap.size
def Ext.pe{a b:cJ}(h:Ext a b)(c:cJ)(k d:Nat):PE c k d a b:=⟨h.keep _,λx e _ f=>⟨e,h.at_ f,rfl,cL⟩,.inl h⟩
def Yt(m:cJ)(k d:Nat):gH (PE m k d):=by refine⟨λw=>(Ext.refl w).pe _ _ _,λa b c h g=>⟨h.e.trans g.e cL cL,λx n j p=>?_,?_⟩,λw=>(Ext.drew w).pe _ _ _⟩;have⟨l,f,t,u⟩:=h.r x n j p;have⟨q,v,y,z⟩:=g.r x l j f;grind;obtain i|i|i:=h.o;obtain f|f|f:=g.o;exact .inl (i.trans f);obtain s|s:=gC a.heap.size m.heap.size;grind;refine .inr (.inl λx j=>?_);rw[<-f x j];exact(i.block x cM).symm;exact .inr (.inr (Nat.lt_of_le_of_lt i.size f));grind;grind
def mc.same{A:dp}{mk ms n:Nat}{w w':cJ}(h:mc A mk ms H w)(g:w.heap.size<=n)(d:∀x,x<n->x<w.heap.size->w'.heap[x]? =w.heap[x]?):mc A mk ms H w':=by
 have e:∀b o,w.heap[b]? =some o->w'.heap[b]? =some o:=λb o c=>by have a:=dA.lt_of_heap c;rw[d b cM a];exact c
 refine h.go cL (λb o v _ f=>?_) cL;unfold World.cell? at f⊢;grind
def PE.mf{g:cJ}{k d n0 mk ms ob:Nat}{A:dp}{a b:cJ}(h:PE g k d a b)(m:mc A mk ms H g):MF (λx=>x=ob\/g.heap.size<=x) n0 mk ms H A a b:=by refine⟨h.e.os,h.e.tape,h.e.output,h.e.size,h.e.drawn,λx o i n _=>h.e.fN n cM,λp c=>?_⟩;obtain f|f|f:=h.o;exact c.ext f;refine m.same (di _) λx i _=>?_;rw[<-f x i];obtain l|l:=gC x a.lG;exact h.e.block x l cM;grind;exact c.same (di _) λx i j=>h.e.block x j cM
def MF.narrow{F c:dp}{n0 mk ms:Nat}{A:dp}{a b:cJ}(h:MF c n0 mk ms H A a b)(f:∀x,x<a.heap.size->c x->F x):MF F n0 mk ms H A a b:=
 ⟨h.os,h.tape,h.output,h.size,h.drawn,λx o g d e=>h.block x o cL d e,h.m⟩
def MF.wide{F c:dp}{n0 mk ms:Nat}{A:dp}{a b:cJ}(h:MF F n0 mk ms H A a b)(f:∀x,F x->c x):MF c n0 mk ms H A a b:=
 ⟨h.os,h.tape,h.output,h.size,h.drawn,λx o g d e=>h.block x o cL d e,h.m⟩
def GN(n:Nat)(w:cJ)(v:cK)(l:cN):Prop:=GL w v l/\∀b,cW v b->n<=b
def GN.pe{f a b:cJ}{v:cK}{k:Nat}(h:GN f.heap.size a v l)(e:PE f k d a b)(m:∀h:k<l.length,l[k]=d):GN f.heap.size b v l:=by refine⟨?_,h.2⟩;obtain n|⟨x,c,o,rfl,p,s,t,u⟩:=h.1;exact .inl n;have⟨g,w,y,z⟩:=e.r x o (h.2 x ⟨_,_,rfl⟩) s;refine .inr ⟨x,c,g,rfl,p,w,y.trans t,λj i=>?_⟩;obtain q|⟨rfl,q⟩:=z j;rw[q];exact u j i;rw[q,m i]
def eO.gn{w:cJ}{v:cK}(h:eO m w v l):GN m w v l:=by refine⟨?_,λb d=>(dg.blk h d).1⟩;obtain⟨j,⟨e,rfl⟩|⟨b,c,f,n,rfl,g,a,i,o,p,q⟩⟩:=h;exact .inl ⟨oy e,rfl⟩;simp only[fa,fP,rm,dn]at a;refine .inr ⟨b,c,f,rfl,i,g,a,λk r=>?_⟩;grind [List.getElem?_eq_getElem,gA]
def gR(p:cN->Bool):Nat->cN->cN->Bool×Option cN
 |0,_,a=>(p a,some a)
 |m+1,l,a=>(List.range l.length).foldl (λb i=>if b.1 then b else((gR p m (l.drop (i+1)) (a++[l.getD i 0])).1,(gR p m (l.drop (i+1)) (a++[l.getD i 0])).2.or b.2)) (false,none)
def gm(p:cN->Bool)(m:Nat)(l a:cN)(k:Nat):Bool×Option cN:=(List.range k).foldl (λb i=>if b.1 then b else((gR p m (l.drop (i+1)) (a++[l.getD i 0])).1,(gR p m (l.drop (i+1)) (a++[l.getD i 0])).2.or b.2)) (false,none)
def ER(p:cN->Bool)(m:Nat)(l a:cN)(k:Nat)(h:(gm p m l a k).1=false):gm p m l a (k+1)=((gR p m (l.drop (k+1)) (a++[l.getD k 0])).1,(gR p m (l.drop (k+1)) (a++[l.getD k 0])).2.or (gm p m l a k).2):=by
 have:gm p m l a (k+1)=if(gm p m l a k).1 then gm p m l a k else((gR p m (l.drop (k+1)) (a++[l.getD k 0])).1,(gR p m (l.drop (k+1)) (a++[l.getD k 0])).2.or (gm p m l a k).2):=by unfold gm;rw[nq,qG];rfl
 grind
def ES(p:cN->Bool)(b:Nat)(l a:cN){k:Nat}(g:k<=m)(h:(gm p b l a k).1=true):gm p b l a m=gm p b l a k:=by
 induction m with
 |zero=>grind
 |succ m c=>
  obtain d|f:=gC k (m+1);have e:=c cM;have:gm p b l a (m+1)=if(gm p b l a m).1 then gm p b l a m else((gR p b (l.drop (m+1)) (a++[l.getD m 0])).1,(gR p b (l.drop (m+1)) (a++[l.getD m 0])).2.or (gm p b l a m).2):=by unfold gm;rw[nq,qG];rfl
  grind;grind
end Go.Proofs.W
