/- RoundLogs: true for every input. Conditions: none. -/
import Derived.Conc.CrowdTrace
import Derived.Below
import Derived.Deep.Slices
import Derived.Conc.LeavingOf
import Derived.Carry
import Derived.ChangeSlices
import Derived.WideShapes
import Derived.Test.YteeagjkaflglpaaGreatX05
set_option maxRecDepth 100000
set_option maxHeartbeats 8000000
set_option linter.all false
variable{m k i j o p s d:Nat}{w t e:cn}{x y z:cq}{a:Option Go.Addr}{I J:Int}
namespace Go.Proofs.W
open Go.RowKit
def l8(b:Nat)(w:cn)(v:cq)(a:List Dr):Prop:=cR b 81 [.int .i64 0,.int .i64 0,.int .i64 0] w v a.length (a.flatMap dL)
theorem vz:∀a:List Dr,(a.flatMap dL).length=a.length*3
 |[]=>rfl
 |d::r=>by have:=vz r;simp[dL,this];omega
def l8.row{d:List Dr}(h:l8 m w x d):∃a c,x=.slice a d.length c/\fZ w a d/\d.length<=c:=by obtain⟨p,⟨g,rfl⟩|⟨b,c,q,r,rfl,e,s,j,t,f,u⟩⟩:=h;exact⟨none,0,by rw[g],λk i=>by omega,by omega⟩;refine⟨_,c,rfl,λk i=>?_,j⟩;obtain⟨l,n,o⟩:=ug d k i;have g:=vz d;refine⟨b,0,rfl,cr e ?_,cr e ?_,cr e ?_⟩;rw[cG,f _ (by omega)];exact l;rw[cG,f _ (by omega)];exact n;rw[cG,f _ (by omega)];exact o
def l8.Sh{b:List Dr}(h:l8 m w (.slice a b.length k) b):fZ w a b:=by obtain⟨c,d,e,h,_⟩:=h.row;injection e with e;rw[e];exact h
structure A3(n:Int)(d:Dr):Prop where
 st:0<=d.st/\d.st<=n-1
 at_:0<=d.at_/\d.at_<=20
 talk:1<=d.talk/\d.talk<=9
theorem wq:∀{f:List Dr},(∀d∈f,A3 I d)->lK I f=0
 |[],_=>rfl
 |d::r,h=>by
  have e:=h d iP;have:nC I d=0:=by have a:=e.st;have b:=e.at_;have c:=e.talk;simp[nC,kP,a,b,c]
  simp only[lK,this,dF];exact wq λx g=>h x (iw _ g)
def GE(c:Nat)(v:cq)(a b:cn):Prop:=cW (λx=>x=c\/cH v x) a b/\(iq c a->iq c b)
def DE.ge(h:DE m w t):GE m x w t:=⟨h.1.trans (cW.refl (λ_=>False) _) (λ_ _ h=>.inl h) λ_ _ h=>h.elim,h.2⟩
def Vx(d:Nat)(v:cq):fJ (GE d v):=⟨λw=>((Ext.refl w).de d).ge,λa b c h k=>⟨h.1.trans k.1 (λ_ _ h=>h) λ_ _ h=>h,λx=>k.2 (h.2 x)⟩,λw=>((Ext.drew w).de d).ge⟩
structure XN(n0 gb:Nat)(st co kn mi da tr:Int)(ds:List Dr)(v:cq)(w:cn):Prop where
 g:w.heap[gb]? =some (.cells #[.int .i64 st,.int .i64 co,.int .i64 kn,.int .i64 mi,.int .i64 da,.int .i64 tr,v] 24)
 r:l8 n0 w v ds
 ok:∀d∈ds,A3 st d
def J8(p:Int->Prop)(v:cq):Prop:=∃z:Int,v=.int .i64 z/\p z
def l8.low{a:List Dr}(h:l8 m w x a)(g:k<=m):l8 k w x a:=by obtain⟨d,h|⟨b,c,e,i,f⟩⟩:=h;exact⟨d,.inl h⟩;exact⟨d,.inr ⟨b,c,e,by omega,f⟩⟩
def Cb(h:iq m w)(n:Nat)(hn:n<=5):Calls V.prog 28 #[cM m,.int .i64 n] w (fi λv Z=>DE m w Z/\∃G a c,v=gV G a c/\l8 w.heap.size Z (.slice a G.doors.length c) G.doors/\fZ Z a G.doors/\dK G=0/\G.doors.length<=n):=by
 have aE:=h.lt;refine gd Tryz.func28 Tryz.ntmps28 ?_;refine eD λw1 rb e1 aF hr=>?_;have f:=h.ext e1;have aD:=cP.lt_of_heap hr;have ar:=e1.size;refine cD (lf f 1 3 (by omega) (by omega) (by omega)) ?_;rintro _ w2 ⟨⟨F,rfl,s1,s2⟩,O⟩;refine cD (lf (O.2 f) 1 5 (by omega) (by omega) (by omega)) ?_;rintro _ t ⟨⟨co,rfl,c1,c2⟩,d3⟩;replace d3:=O.trans d3;refine cD (lf (d3.2 f) 1 3 (by omega) (by omega) (by omega)) ?_;rintro _ B ⟨⟨kn,rfl,k1,k2⟩,d4⟩;replace d4:=d3.trans d4;refine cD (lf (d4.2 f) 20 45 (by omega) (by omega) (by omega)) ?_;rintro _ w5 ⟨⟨a1,rfl,a2,a3⟩,d5⟩;replace d5:=d4.trans d5;refine cD (lf (d5.2 f) 30 60 (by omega) (by omega) (by omega)) ?_;rintro _ w6 ⟨⟨b1,rfl,b2,b3⟩,d6⟩;replace d6:=d5.trans d6;refine cD (lf (d6.2 f) 1 90 (by omega) (by omega) (by omega)) ?_;rintro _ w7 ⟨⟨x1,rfl,x2,x3⟩,d7⟩;replace d7:=d6.trans d7;refine eg [i64 a1,i64 b1,i64 x1] 3 λw8 mb e8 aG D=>?_;have d8:=d7.trans (e8.de m);have s7:=d7.1.size;refine cD (Ca (l:=[a1,b1,x1]) (d8.2 f) (lP D) (by simp) (by simp) (λb o e=>by injection e with e;injection e with e;omega)) ?_;rintro _ w9 ⟨⟨S,ad,rfl⟩,d9⟩;replace d9:=d8.trans d9;have ad:1<=S/\S<=90:=by simp only[eO,mu,jW]at ad;omega
 refine eg [i64 1,i64 2,i64 2,i64 3,i64 3] 3 λaH yb au aI hy=>?_;have aa:=d9.trans (au.de m);have s9:=d9.1.size;refine cD (Ca (l:=[1,2,2,3,3]) (aa.2 f) (lP hy) (by simp) (by simp) (λb o e=>by injection e with e;injection e with e;omega)) ?_;rintro _ aJ ⟨⟨P,ae,rfl⟩,J⟩;replace J:=aa.trans J;have ae:1<=P/\P<=3:=by simp only[eO,mu,jW]at ae;omega
 refine dS (.agg #[i64 F,i64 co,i64 kn,i64 S,i64 P,i64 0,.slice none 0 0]) (eD λaK Q av aw hg=>dq hg λaf ax H=>?_);replace H:af.heap[Q]? =some (.cells #[i64 F,i64 co,i64 kn,i64 S,i64 P,i64 0,.slice none 0 0] 24):=H;have aL:=J.1.size;have T:DE m w1 af:=J.trans ((Ext.cC av ax aw).de m);refine cu (cr H rfl) (cD (lf (T.2 f) 1 P (by omega) (by omega) (by omega)) ?_);rintro _ aM ⟨⟨tr,rfl,t1,t2⟩,U⟩;have ag:=U.1.fe H (show¬Q=m by omega);refine dq ag λah ai K=>?_;replace K:ah.heap[Q]? =some (.cells #[i64 F,i64 co,i64 kn,i64 S,i64 P,i64 tr,.slice none 0 0] 24):=K;have aj:DE m w1 ah:=⟨(T.trans U).1.trans ai (λ_ _ h=>h) (λx A e=>by omega),λx=>((T.trans U).2 x).keep ai λb e=>by omega⟩;refine cD (oJ (aj.2 f) n (by omega)) ?_;rintro _ aN ⟨⟨z,rfl,z1,z2⟩,L⟩;have ak:=L.1.fe K (show¬Q=m by omega);replace L:=aj.trans L;have al:=L.1.fe hr (show¬rb=m by omega);clear U T J aa d9 d8 d7 d6 d5 d4 d3 O;refine fW z.toNat (λ_ (s:(List Dr×cq)×Int)=>[(0,cM m),(4,cM rb),(5,cM Q),(6,i64 s.2)]) (λk s Z=>DE m w1 Z/\XN w1.heap.size Q F co kn S P tr s.1.1 s.1.2 Z/\Z.heap[rb]? =some (.cells (pm 24).toArray 24)/\s.1.1.length=k/\s.2=z-k) (([],.slice none 0 0),z) ⟨by trivial,L,⟨ak,cR.nil _ _ _ _,λd M=>by cases M⟩,al,rfl,by simp⟩ ?_;rintro k ⟨⟨R,v⟩,i⟩ w2 hk ⟨O,D,X,am,hi⟩;simp only at D am hi;refine lZ ⟨λan=>?_,λab=>?_⟩;have an:0<i:=by simpa using an
 have W:∀b,cH v b->w1.heap.size<=b/\b<w2.heap.size:=λb E=>cR.blk D.r E;have ay:¬(Q=m\/cH v Q):=by rintro(e|E);omega;obtain⟨cs,q⟩:=cR.c_ D.r E;exact fS q D.g (by decide)
 have hg:∀t,GE m v w2 t->t.heap[Q]? =some (.cells #[i64 F,i64 co,i64 kn,i64 S,i64 P,i64 tr,v] 24):=λt p=>p.1.fe D.g ay;have hD:=O.2 f;have s2:=O.1.size;have fresh:∀{a b:cn} {x:Nat} {o:Obj},a.heap[x]? =some o->GE m v a b->w2.heap.size<=x->b.heap[x]? =some o:=λA e ab=>e.1.fe A (by rintro(e|E);omega;have:=(W _ E).2;omega);refine hH 20 (zv m) (Vx m v) (λa b h=>h.ge) ?_;refine .exact v (λt p=>cu (cr (hg t p) rfl) ⟨rfl,(zv m).refl _⟩) ?_;refine .exact (i64 F) (λt p=>cu (cr (hg t p) rfl) ⟨rfl,(zv m).refl _⟩) ?_;refine .exact (i64 (F-1)) (λt p=>fx ⟨rfl,(zv m).refl _⟩) ?_;refine .rel (λu _=>J8 (λx=>0<=x/\x<=F-1) u) (λ_ _ _ h _=>h) (λt p=>cD (oJ (p.2 hD) _ (by omega)) λu B ⟨⟨x,e,f,I⟩,d⟩=>⟨⟨x,e,by omega⟩,d⟩) ?_;refine .rel (λu _=>J8 (λx=>0<=x/\x<=20) u) (λ_ _ _ h _=>h) (λt p _ _=>cD (oJ (p.2 hD) 9 (by omega)) λu B ⟨⟨x,e,f,I⟩,d⟩=>⟨⟨x,e,by omega⟩,d⟩) ?_;refine .rel (λu _=>J8 (λx=>0<=x/\x<=20) u) (λ_ _ _ h _=>h) (λt p _ _=>cD (oJ (p.2 hD) 9 (by omega)) λu B ⟨⟨x,e,f,I⟩,d⟩=>⟨⟨x,e,by omega⟩,d⟩) ?_;refine .rel (λu _=>J8 (λx=>0<=x/\x<=20) u) (λ_ _ _ h _=>h) (λt p _ _=>cD (oJ (p.2 hD) 20 (by omega)) λu B ⟨⟨x,e,f,I⟩,d⟩=>⟨⟨x,e,by omega⟩,d⟩) ?_;refine .rel (λu B=>∃b x y z:Int,∃C:Nat,u=.slice (some ⟨C,0,none⟩) 3 3/\w2.heap.size<=C/\B.heap[C]? =some (.cells ([x,y,z].map (Value.int .i64)).toArray 3)/\∀j∈[x,y,z],0<=j/\j<=20) (λu a b ⟨_,x,y,z,C,f,I,Y,h4⟩ e=>⟨0,x,y,z,C,f,I,fresh Y e I,h4⟩) (λt p u1 f u2 I u3 Y=>?_) ?_;obtain⟨x,rfl,A⟩:=f;obtain⟨y,rfl,hy⟩:=I;obtain⟨z,rfl,hz⟩:=Y;have:=p.1.size;refine eg [i64 z,i64 y,i64 x] 3 λB C N ao E=>⟨⟨0,z,y,x,C,rfl,by omega,E,?_⟩,N.de m⟩;intro j hj;simp only[eO,mu,jW]at hj;omega;refine .rel (λu _=>J8 (λx=>0<=x/\x<=20) u) (λ_ _ _ h _=>h) (λt p u1 f _ _=>?_) ?_;obtain⟨_,x,y,z,C,rfl,g1,g2,g3⟩:=f;refine cD (Ca (l:=[x,y,z]) (p.2 hD) (lP g2) (by simp) (by simp) (λb o e=>by injection e with e;injection e with e;omega)) λu B ⟨⟨j,hj,e⟩,d⟩=>⟨⟨j,e,g3 j hj⟩,d⟩;refine .rel (λu _=>J8 (λx=>1<=x/\x<=9) u) (λ_ _ _ h _=>h) (λt p _ _=>cD (lf (p.2 hD) 1 6 (by omega) (by omega) (by omega)) λu B ⟨⟨x,e,f,I⟩,d⟩=>⟨⟨x,e,by omega⟩,d⟩) ?_;refine .rel (λu _=>∃d,A3 F d/\u=.agg (dL d).toArray) (λ_ _ _ h _=>h) (λt p u1 f u2 I u3 Y=>?_) ?_;obtain⟨x,rfl,A⟩:=f;obtain⟨y,rfl,hy⟩:=I;obtain⟨z,rfl,hz⟩:=Y;exact dS (.agg (dL ⟨z,y,x⟩).toArray) ⟨⟨⟨z,y,x⟩,⟨hz,hy,A⟩,rfl⟩,(zv m).refl _⟩;refine .rel (λu B=>∃(d:Dr) (C:Nat),A3 F d/\u=.slice (some ⟨C,0,none⟩) 1 1/\w2.heap.size<=C/\B.heap[C]? =some (.cells (dL d).toArray 81)) (λu a b ⟨d,C,f,I,Y,h4⟩ e=>⟨d,C,f,I,Y,fresh h4 e Y⟩) (λt p u1 f=>?_) ?_;obtain⟨d,M,rfl⟩:=f;have:=p.1.size;exact eg (dL d) 81 λB C N ao E=>⟨⟨d,C,M,rfl,by omega,E⟩,N.de m⟩;refine .spec (λu B=>∃d,A3 F d/\l8 w1.heap.size B u (R++[d])) (λu a b ⟨d,M,hu⟩ e=>⟨d,M,cR.keep hu e.1 λx A e=>by have:=(cR.blk hu A).1;have:=f.lt;omega⟩) (λB N u1 f _ _=>?_) ?_;obtain⟨d,C,M,rfl,ao,E⟩:=f;have az:l8 w1.heap.size B v R:=cR.keep D.r N.1 λx A e=>by have:=(cR.blk D.r A).1;have:=h.lt;omega
 have:=N.1.size;refine gq Ph az (by omega) E (by omega) λv' w5 g1 g2 g3=>⟨⟨d,M,by simpa[l8]using g1⟩,g2.trans (cW.refl (λ_=>False) _) (λ_ _ h=>.inr h) (λ_ _ h=>h.elim),λx=>x.keep g2 λb E=>?_⟩;have:=(W b E).1;omega;rintro B N u1 ⟨d,M,hu⟩ _ _ _ _ _ _ _ _ _ _ _ _ _ _ _ _ _ _;obtain⟨a9,c9,rfl,_⟩:=l8.row hu;have q4:=hg B N;refine dq q4 λw5 k5 aA=>fx ⟨by omega,((R++[d],.slice a9 (R++[d]).length c9),i-1),by trivial,⟨(O.1.trans N.1 (λ_ _ h=>h) λx A e=>?_).trans k5 (λ_ _ h=>h) λx A e=>by omega,λx=>(N.2 (O.2 x)).keep k5 λb e=>by omega⟩,⟨aA,cR.keep hu k5 λx A e=>?_,λx A=>?_⟩,?_,by simp;omega,by simp only;omega⟩;rcases e with e|e;exact e;have:=(W x e).1;omega;subst e;obtain⟨cs,q⟩:=cR.c_ hu A;exact fS q q4 (by decide);rcases jH.1 A with A|A;exact D.ok x A;rcases iJ.1 A with rfl;exact M;refine k5.fe (N.1.fe X ?_) (by omega);rintro(e|E);omega;have:=(W _ E).1;omega;have ab:i<=0:=by simpa using ab
 obtain⟨a,c,rfl,aO,hc⟩:=l8.row D.r;obtain⟨G,hG⟩:∃G:Gd,G=⟨F,co,kn,S,P,tr,R⟩:=⟨_,rfl⟩;have ac:R=G.doors:=by rw[hG]
 have hg:w2.heap[Q]? =some (.cells (gL G a c).toArray 24):=by rw[hG];exact D.g
 refine dA hg (dq X λt k3 ap=>?_);have aB:t.heap[rb]? =some (.cells (gL G a c).toArray 24):=ap.trans (cT (λa=>some (Obj.cells a 24)) (dC (pm 24).toArray (gL G a c) rfl));have hl:Sem.run V.prog (loadVar 24 ⟨rb,0,none⟩) t=.ok (gV G a c) t:=kH (gL G a c) aB λj v hj=>by rw[cG];simpa using hj
 clear ap;have aq:∀x,cH (.slice a R.length c) x->¬x=rb:=λx A e=>by have:=(cR.blk D.r A).1;omega
 refine⟨gV G a c,hl,_,rfl,⟨((e1.keep _).trans O.1 (λ_ _ h=>h) λ_ _ h=>h).trans k3 (λ_ _ h=>h) λx A e=>by omega,λx=>(O.2 (x.ext e1)).keep k3 λb e=>by omega⟩,G,a,c,rfl,?_,?_,?_,by rw[<-ac];omega⟩;rw[<-ac];exact l8.low (cR.keep D.r k3 aq) ar;rw[<-ac];exact l8.Sh (cR.keep D.r k3 aq);have aC:∀d∈R,A3 F d:=D.ok;rw[hG];have M:=wq aC;have hh:jV ⟨F,co,kn,S,P,tr,R⟩=true:=by simp only[jV,kP,dW,iQ];omega
 have h5:¬(5:Int)<R.length:=by omega
 simp only[dK,hh,dF,h5,eF];exact M
def Ff(h:iq m w)(n:Int)(c: -1000000<=n/\n<=1000000):Calls V.prog 93 #[cM m,.int .i64 n] w (fi λv a=>(∃b,v=.bool b)/\DE m w a):=by refine gd Tryz.func93 Tryz.ntmps93 ?_;refine fx (cD (oJ h (n-1) (by omega)) ?_);rintro _ e ⟨⟨z,rfl,_⟩,d⟩;exact ff ⟨_,rfl,⟨_,rfl⟩,d⟩
section
variable{G:Gd}{xs:List Sx}
end
section
variable{H G:Gd}
end
def SH(t:Ty):Tq:=⟨t.door,t.shift,t.opened⟩
def zw(w:cn)(a:ek)(l:List Ty):Prop:=∀k (h:k<l.length),∃b o,a=some ⟨b,o,none⟩/\∀j v,(tL l[k])[j]? =some v->w.cell? ⟨b,o+k*3+j,none⟩=some v
def zw.ext{l:List Ty}(h:zw w a l)(e:Ext w t):zw t a l:=λk c=>by obtain⟨b,o,d,f⟩:=h k c;exact⟨b,o,d,λj v g=>e.cell (f j v g)⟩
def zw.q{l:List Ty}(h:zw w a l):ja w a (l.map SH):=λk c=>by obtain⟨b,o,d,e⟩:=h k (by simpa using c);exact⟨b,o,d,λj v f=>e j v (by simpa[nQ,SH,tL]using f)⟩
def l9(l:List Ty)(d h:Nat):Nat:=(l.filter λt=>decide (t.door=d/\t.shift%2=h)).length
def zx(l:List Ty)(d:Nat):Bool:=l.any λt=>decide (t.door=d)&&t.opened
def J9(l:List Ty)(d a:Nat):Bool:=l.any λt=>decide (t.door=d)&&decide (t.shift/2=a)
def tx(l:List Ty)(t:Ty)(d h:Nat):l9 (l++[t]) d h=l9 l d h+if t.door=d/\t.shift%2=h then 1 else 0:=by simp only[l9,List.filter_append,jA];congr 1;by_cases c:t.door=d/\t.shift%2=h<;>simp[List.filter,c]
def tz(l:List Ty)(t:Ty)(d:Nat):zx (l++[t]) d=(zx l d||(decide (t.door=d)&&t.opened)):=by simp[zx]
def zy(l:List Ty)(t:Ty)(d a:Nat):J9 (l++[t]) d a=(J9 l d a||(decide (t.door=d)&&decide (t.shift/2=a))):=by simp[J9]
def zz(l:List Ty)(d h:Nat):l9 l d h<=l.length:=List.length_filter_le ..
def IC{m n:Nat}(a:0<n)(w:cn):Calls V.prog 34 #[.int .i64 m,.int .i64 n] w (fi λv b=>v=.int .i64 ((m%n:Nat):Int)/\b=w):=by refine gd Tryz.func34 Tryz.ntmps34 ?_;exact rl a (du (lx (by simp;omega) ⟨_,rfl,rfl,rfl⟩))
def Fg{l:List Ty}{lc:Nat}(x:zw w a l)(u:l.length<=100000)(d h:Nat):Calls V.prog 74 #[.slice a l.length lc,.int .i64 d,.int .i64 h] w (fi λv p=>v=.tuple #[.int .i64 (l9 l d h),.bool (zx l d)]/\p=w):=by
 refine gd Tryz.func74 Tryz.ntmps74 ?_;refine fW l.length (λk (_:Unit)=>[(0,.slice a l.length lc),(1,i64 d),(2,i64 h),(8,i64 (l9 (l.take k) d h)),(9,.bool (zx (l.take k) d)),(10,i64 k)]) (λ_ _ p=>p=w) () ⟨by trivial,rfl⟩ ?_;rintro k _ z A rfl;refine cS (du ⟨λr=>?_,λs=>?_⟩);have c:k<l.length:=by simpa using r
 obtain⟨b,o,rfl,m⟩:=x k c;have y:=zz (l.take k) d h;rw[KT]at y;have g:=tx (l.take k) l[k] d h;have i:=tz (l.take k) l[k] d;rw[<-jc c]at g i;refine eN k 3 c (cu (m 0 _ rfl) (ff ⟨λj=>?_,λj=>?_⟩));have j:l[k].door=d:=Int.ofNat.inj (dO j);rw[decide_eq_true j,Bool.true_and]at i;refine⟨λt=>?_,λt=>?_⟩;rw[t,Bool.true_or]at i;refine eN k 3 c (cu (m 1 _ rfl) (dg (IC (n:=2) (by omega) _) (ff ⟨λf=>?_,λf=>?_⟩)));have f:l[k].shift%2=h:=Int.ofNat.inj (dO f);rw[cB ⟨j,f⟩]at g;refine cF (cF ⟨c,(),⟨rfl,rfl,rfl,?_,?_,rfl,trivial⟩,rfl⟩);show some _=some _;rw[g];rfl;show some _=some _;rw[i];have f:¬l[k].shift%2=h:=λe=>ee f (cT Int.ofNat e);rw[cy (λq=>f q.2),mX (l9 (l.take k) d h)]at g;refine cF ⟨c,(),⟨rfl,rfl,rfl,?_,?_,rfl,trivial⟩,rfl⟩;show some _=some _;rw[g];show some _=some _;rw[i];rw[t,Bool.false_or]at i;refine eN k 3 c (cu (m 2 _ rfl) (eN k 3 c (cu (m 1 _ rfl) (dg (IC (n:=2) (by omega) _) (ff ⟨λf=>?_,λf=>?_⟩)))));have f:l[k].shift%2=h:=Int.ofNat.inj (dO f);rw[cB ⟨j,f⟩]at g;refine cF (cF ⟨c,(),⟨rfl,rfl,rfl,?_,?_,rfl,trivial⟩,rfl⟩);show some _=some _;rw[g];rfl;show some _=some _;rw[i];have f:¬l[k].shift%2=h:=λe=>ee f (cT Int.ofNat e);rw[cy (λq=>f q.2),mX (l9 (l.take k) d h)]at g;refine cF ⟨c,(),⟨rfl,rfl,rfl,?_,?_,rfl,trivial⟩,rfl⟩;show some _=some _;rw[g];show some _=some _;rw[i];have j:¬l[k].door=d:=λe=>ee j (cT Int.ofNat e);rw[cy (λq=>j q.1),mX (l9 (l.take k) d h)]at g;rw[kR j,Bool.false_and,Bool.or_false]at i;refine cF ⟨c,(),⟨rfl,rfl,rfl,?_,?_,rfl,trivial⟩,rfl⟩;show some _=some _;rw[g];show some _=some _;rw[i];obtain rfl:k=l.length:=by simp at s;omega
 rw[mW];exact⟨_,rfl,rfl,rfl⟩
def zA(G:Gd)(a b:Nat):Bool:=decide (G.tries<=(a:Int)+b)&&(decide (G.tries<2)||(decide (0<(a:Int))&&decide (0<(b:Int))))
def NA{G:Gd}{h:Option Addr}{i:Nat}{w:cn}(a b:Nat)(m:a<=1000000)(j:b<=1000000):Calls V.prog 75 #[gV G h i,.int .i64 a,.int .i64 b] w (fi λv k=>v=.bool (zA G a b)/\Ext w k):=by refine gd Tryz.func75 Tryz.ntmps75 ?_;refine ej λn o e l g=>cF (cu (cr g rfl) (yz ⟨λd=>?_,λd=>?_⟩));refine cu (cr g rfl) (du ⟨λf=>?_,λf=>?_⟩);exact⟨_,rfl,by simp[zA,d,f],e⟩;refine lZ ⟨λc=>?_,λc=>?_⟩;have c:0<(a:Int):=dO c;exact lZ ⟨_,rfl,by rw[zA,d,f,decide_eq_true c];rfl,e⟩;have c:¬0<(a:Int):=ee c;exact⟨_,rfl,by rw[zA,d,f,kR c];rfl,e⟩;exact⟨_,rfl,by simp[zA,d],e⟩
def Ha(G:Gd)(l:List Ty)(d:Nat):Bool:=zx l d||zA G (l9 l d 0) (l9 l d 1)
def Cc{G:Gd}{g:Option Addr}{dc:Nat}{l:List Ty}{e:Option Addr}{lc:Nat}{w:cn}(f:zw w e l)(a:l.length<=100000)(d:Nat):Calls V.prog 49 #[gV G g dc,.slice e l.length lc,.int .i64 d] w (fi λv h=>v=.bool (Ha G l d)/\Ext w h):=by refine gd Tryz.func49 Tryz.ntmps49 ?_;refine ej λm n b i j=>?_;have o:=zz l d 0;have p:=zz l d 1;refine dg (Fg (f.ext b) a d 0) (dg (Fg (f.ext b) a d 1) ⟨λc=>?_,λc=>?_⟩);exact⟨_,rfl,by simp[Ha,c],b⟩;refine dA j (dG (NA (l9 l d 0) (l9 l d 1) (by omega) (by omega)) λq k=>⟨_,rfl,by simp[Ha,c],b.trans k⟩)
def Fh{l:List Ty}(y:zw w a l)(u:l.length<=100000)(z:∀t∈l,t.shift<=1000000)(d c:Nat):Calls V.prog 98 #[.slice a l.length m,.int .i64 d,.int .i64 c] w (fi λv j=>v=.bool (J9 l d c)/\j=w):=by
 refine gd Tryz.func98 Tryz.ntmps98 ?_;refine fW l.length (λk (_:Unit)=>[(0,.slice a l.length m),(1,i64 d),(2,i64 c),(7,i64 k)]) (λk _ j=>j=w/\J9 (l.take k) d c=false) () ⟨by trivial,rfl,by simp[J9]⟩ ?_;rintro k _ B C ⟨rfl,i⟩;refine cS (du ⟨λp=>?_,λq=>?_⟩);have f:k<l.length:=by simpa using p
 obtain⟨b,o,rfl,x⟩:=y k f;have r:=zy (l.take k) l[k] d c;rw[<-jc f,i,Bool.false_or]at r;have A:=z _ (ef f);have s:l[k].door=d->l[k].shift/2=c->J9 l d c=true:=λg h=>List.any_eq_true.2 ⟨_,ef f,by simp[g,h]⟩;refine eN k 3 f (cu (x 0 _ rfl) (ff ⟨λg=>?_,λg=>?_⟩));have g:l[k].door=d:=Int.ofNat.inj (dO g);refine eN k 3 f (cu (x 1 _ rfl) (kG (n:=2) (by omega) (by omega) (ff ⟨λh=>?_,λh=>?_⟩)));have h:l[k].shift/2=c:=Int.ofNat.inj (dO h);exact⟨_,rfl,by rw[s g h];rfl,rfl⟩;have h:¬l[k].shift/2=c:=λe=>ee h (cT Int.ofNat e);exact cF ⟨f,(),by trivial,rfl,by rw[r,kR h,Bool.and_false]⟩;have g:¬l[k].door=d:=λe=>ee g (cT Int.ofNat e);exact lx rfl (cF ⟨f,(),by trivial,rfl,by rw[r,kR g,Bool.false_and]⟩);obtain rfl:k=l.length:=by simp at q;omega
 rw[mW]at i;exact⟨_,rfl,by rw[i];rfl,rfl⟩
end Go.Proofs.W
variable{H N:Go.Proofs.W.Gd}
namespace Go.Proofs.W
open Go.RowKit
def uF(l:List Ty)(d:Nat):Sx:=⟨((l9 l d 0+l9 l d 1:Nat):Int),(l9 l d 0:Nat),(l9 l d 1:Nat),zx l d,J9 l d 0,J9 l d 1,J9 l d 2,false⟩
def Ka(G:Gd)(l:List Ty)(d:Nat):eZ G.tries (uF l d)=Ha G l d:=by simp only[eZ,uF,Ha,zA,Bool.false_or,Int.natCast_add];rfl
def NB(l:List Ty)(d k:Nat)(a:k<3):nO (uF l d) k=J9 l d k:=by
 obtain rfl|rfl|rfl:k=0\/k=1\/k=2:=by omega
 all_goals rfl
def Hb(l:List Ty)(d s:Nat)(o:Bool)(c:s<6):gm (uF l d) s o=uF (l++[⟨d,s,o⟩]) d:=by
 have b:s%2=0\/s%2=1:=by omega
 have a:s/2=0\/s/2=1\/s/2=2:=by omega
 simp only[gm,uF,tx,tz,zy,true_and,decide_true,Bool.true_and];rcases b with b|b<;>rcases a with a|a|a<;>simp[b,a]<;>omega
def Hc(l:List Ty)(t:Ty)(d:Nat)(h:t.door≠d):uF (l++[t]) d=uF l d:=by simp only[uF,tx,tz,zy,h,false_and,eF,mX,decide_false,Bool.false_and,Bool.or_false]
def lastT(b:Int)(l:List Tq):Int:=match l.getLast? with
 |some t=>t.shift
 |none=>b
theorem A4(G:Gd)(t:Tq):∀(l:List Tq) (c a:List Sx) (b:Int),nH G c b l=(0,a)->nH G c b (l++[t])=nH G a (lastT b l) [t]
 |[],c,a,b,h=>by simp only[nH,Prod.mk.injEq,true_and]at h;subst h;rfl
 |x::r,c,a,b,h=>by
  have e:lastT b (x::r)=lastT x.shift r:=by unfold lastT;rw[List.getLast?_cons];cases r.getLast?<;>rfl
  rw[e,qx];simp only[nH]at h;conv=>lhs;unfold nH
  split at h;rename_i d;rw[cB d];split at h;simp at h;rename_i f;rw[cy f];split at h;simp at h;rename_i g;rw[cy g];split at h;simp at h;rename_i i;rw[cy i];exact A4 G t r _ a _ h;simp at h
structure Made(G:Gd)(l:List Ty)(s:Nat):Prop where
 log:fQ G (l.map SH)=(0,(List.range G.doors.length).map (uF l))
 last:∀t∈l,t.shift<=s
def Made.nil(G:Gd):Made G [] 0:=⟨by simp only[fQ,vC,nH];congr 1;refine List.ext_getElem (by simp) λi a b=>?_;simp only[List.getElem_replicate,List.getElem_map];rfl,λt h=>by cases h⟩
def Made.up{l:List Ty}(h:Made H l s)(a:s<=m):Made H l m:=⟨h.log,λt b=>cZ (h.last t b) a⟩
def Made.more{l:List Ty}{o:Bool}(h:Made H l s)(c:d<H.doors.length)(p:(s:Int)<2*H.days)(q:H.days<=3)(f:J9 l d (s/2)=false)(g:Ha H l d=false):Made H (l++[⟨d,s,o⟩]) s:=by
 refine⟨?_,λt a=>?_⟩;have j:((List.range H.doors.length).map (uF l)).getD d lM=uF l d:=by rw[jG,so,List.getElem?_range c];rfl
 have r:lastT 0 (l.map SH)<=s:=by
  unfold lastT;rw[List.getLast?_map];cases k:l.getLast? with
  |none=>exact Int.natCast_nonneg s
  |some t=>exact Int.ofNat_le.2 (h.last t (List.mem_of_getLast? k))
 have e:=A4 H ⟨(d:Int),(s:Int),o⟩ _ _ _ 0 h.log;have m:(kP (d:Int) 0 ((H.doors.length:Int)-1)&&kP (s:Int) 0 (2*H.days-1))=true:=by simp[kP];omega
 rw[fQ,vB,lq,vC];refine e.trans ?_;have b:((List.range H.doors.length).map (uF l)).getD ((d:Int)).toNat lM=uF l d:=j;simp only[nH,m,dF];rw[cy (by omega),b,NB l d _ (by omega),Ka];simp only[mT];rw[f,g];simp only[ik,eF,nH];congr 1;rw[Hb l d s o (by omega)];refine List.ext_getElem (by simp) λi u n=>?_;have v:i<H.doors.length:=by simpa using n
 rw[List.getElem_set];simp only[List.getElem_map,List.getElem_range];split;rename_i e;rw[e];rename_i e;exact(Hc l ⟨d,s,o⟩ i e).symm;rcases jH.1 a with a|a;exact h.last t a;rw[iJ.1 a];exact cJ _
def NC:Ef 25 84 [.int .i64 0,.int .i64 0,.bool false]:=⟨by kernel_rfl,Tryz.t84,_,by kernel_rfl,rfl,by kernel_rfl,by kernel_rfl,by decide+kernel,by decide⟩
def qq(a:Nat)(w:cn)(v:cq)(l:List Ty):Prop:=cR a 84 [.int .i64 0,.int .i64 0,.bool false] w v l.length (l.flatMap tL)
theorem zB{a:Type}{f:a->dr}{n:Nat}(b:∀x,(f x).length=n):∀l:List a,(l.flatMap f).length=l.length*n
 |[]=>by simp
 |t::r=>by rw[mV,jA,b,zB b r,eI,Nat.add_mul,Nat.one_mul,Nat.add_comm]
theorem pX{b:Type}{f:b->dr}{n:Nat}(a:∀x,(f x).length=n):∀(l:List b) (k:Nat) (c:k<l.length) (j:Nat) (v:cq),(f l[k])[j]? =some v->(l.flatMap f)[k*n+j]? =some v
 |x::r,0,_,j,v,h=>by have d:j<(f x).kq:=(iI.1 h).1;rw[mV,Nat.zero_mul,cG,nT d];exact h
 |x::r,k+1,c,j,v,h=>by have e:=pX a r k (by simpa using c) j v (by simpa using h);rw[mV,oM (by rw[a,Nat.add_mul];omega),a,show(k+1)*n+j-n=k*n+j by rw[Nat.add_mul];omega];exact e
def Kb(l:List Ty):(l.flatMap tL).length=l.length*3:=zB (f:=tL) (n:=3) (λ_=>rfl) l
def Kc(l:List Ty)(k:Nat)(a:k<l.length)(j:Nat)(v:cq)(h:(tL l[k])[j]? =some v):(l.flatMap tL)[k*3+j]? =some v:=pX (f:=tL) (n:=3) (λ_=>rfl) l k a j v h
def qq.row{l:List Ty}(h:qq m w x l):∃a c,x=.slice a l.length c/\zw w a l/\l.length<=c:=by obtain⟨q,⟨d,rfl⟩|⟨b,c,r,s,rfl,g,t,i,u,n,v⟩⟩:=h;exact⟨none,0,by rw[d],λk e=>by omega,by omega⟩;refine⟨_,c,rfl,λk e=>⟨b,0,rfl,λj x f=>cr g ?_⟩,i⟩;have o:j<(tL l[k]).kq:=(iI.1 f).1;have p:(tL l[k]).kq=3:=rfl;have d:=Kb l;rw[cG,n _ (by omega)];exact Kc l k e j x f
def qq.low{l:List Ty}(h:qq m w x l)(f:k<=m):qq k w x l:=by obtain⟨a,h|⟨b,c,d,g,e⟩⟩:=h;exact⟨a,.inl h⟩;exact⟨a,.inr ⟨b,c,d,by omega,e⟩⟩
def Kd(h:iq m w){dc:Nat}(hG:dK N=0):Calls V.prog 29 #[cM m,gV N a dc] w (fi λv g=>DE m w g/\∃l s,qq w.heap.size g v l/\Made N l s/\(s:Int)<2*N.days/\l.length<=30):=by
 have ok:=eQ hG;have hm:=ok.many;have U:=ok.days;refine gd Tryz.func29 Tryz.ntmps29 ?_;refine ej λj u y af B=>?_;have ag:=h.lt;have ah:=cP.lt_of_heap B;refine cu (cr B rfl) (pE (fx (cD (oJ (h.ext y) (2*N.days-1) (by omega)) ?_)));rintro _ w2 ⟨⟨z,rfl,ai,hz⟩,d2⟩;have W:=d2.1.fe B (show¬u=m by omega);have aj:z<=2*N.days-1:=by omega
 refine fW z.toNat (λs (x:cq×List Ty)=>[(0,cM m),(3,cM u),(5,x.1),(6,i64 z),(7,i64 s)]) (λs x g=>DE m j g/\g.heap[u]? =some (.cells (gV N a dc).cells 24)/\qq j.heap.size g x.1 x.2/\Made N x.2 s/\x.2.length<=5*s) (.slice none 0 0,[]) ⟨by trivial,d2,W,cR.nil _ _ _ _,Made.nil N,cJ _⟩ ?_;rintro s ⟨v,l⟩ w3 hs ⟨d3,X,A,k,o⟩;simp only at A k o;refine du ⟨λC=>?_,λD=>?_⟩;have Y:(s:Int)<z:=dO C;refine fW N.doors.length (λi (x:cq×List Ty)=>[(0,cM m),(3,cM u),(5,x.1),(6,i64 z),(7,i64 s),(8,i64 i)]) (λi x g=>DE m j g/\g.heap[u]? =some (.cells (gV N a dc).cells 24)/\qq j.heap.size g x.1 x.2/\Made N x.2 s/\x.2.length<=5*s+i) (v,l) ⟨by trivial,d3,X,A,k,o⟩ ?_;rintro i ⟨v,l⟩ w4 hi ⟨Z,E,A,k,o⟩;simp only at A k o;refine cu (cr E rfl) (cS (du ⟨λC=>?_,λD=>?_⟩));have d:i<N.doors.length:=by simpa using C
 refine cD (Ff (Z.2 (h.ext y)) 3 (by omega)) ?_;rintro _ Q ⟨⟨b,rfl⟩,d5⟩;have F:=d5.1.fe E (show¬u=m by omega);have G:=Z.trans d5;have p:qq j.heap.size Q v l:=cR.keep A d5.1 λb B e=>by have:=(cR.blk A B).1;have:=y.size;omega
 obtain⟨L,c,rfl,M,hc⟩:=p.row;have f:∀I,Ext Q I->DE m j I/\I.heap[u]? =some (.cells (gV N a dc).cells 24)/\qq j.heap.size I (.slice L l.length c) l/\Made N l s/\l.length<=5*s+(i+1):=λI q=>⟨G.trans (q.de m),q.at_ F,cR.ext p q,k,by omega⟩;refine⟨λaa=>?_,λaa=>?_⟩;refine kG (n:=2) (by omega) (by omega) (dg (Fh M (by omega) (λt ht=>by have:=k.last t ht;omega) i (s/2)) (ei ⟨λR=>?_,λR=>?_⟩));have R:J9 l i (s/2)=false:=by simpa using R
 refine dA F (dG (Cc M (by omega) i) λI q=>ei ⟨λS=>?_,λS=>?_⟩);have S:Ha N l i=false:=by simpa using S
 have ab:=q.at_ F;refine cD (Ff ((q.de m).2 (G.2 (h.ext y))) 4 (by omega)) ?_;rintro _ w7 ⟨⟨T,rfl⟩,d7⟩;have ac:=d7.1.fe ab (show¬u=m by omega);have r:qq j.heap.size w7 (.slice L l.length c) l:=cR.keep (cR.ext p q) d7.1 λb B e=>by have:=(cR.blk p B).1;have:=y.size;omega
 have O:=(G.trans (q.de m)).trans d7;refine dS (.agg (tL ⟨i,s,T⟩).toArray) (eg (tL ⟨i,s,T⟩) 84 λw8 nb J ak ad=>gq NC (cR.ext r J) (by have:=O.1.size;have:=J.size;omega) ad (by omega) λv' w9 ae k9 _=>cF ⟨d,(v',l++[⟨i,s,T⟩]),by trivial,?_,?_,?_,k.more d (by omega) (by omega) R S,by simp;omega⟩);have P:=O.trans (J.de m);refine⟨(P.1.trans k9 (H:=λx=>x=m\/j.heap.size<=x) (λ_ _ h=>.inl h) λx _ K=>.inr (cR.blk (cR.ext r J) K).1).trans (cW.refl (λ_=>False) _) (λx K h=>h.elim id λh=>by omega) λ_ _ h=>h.elim,λhD=>(P.2 hD).keep k9 λx K=>?_⟩;have:=(cR.blk (cR.ext r J) K).1;have:=y.size;omega;refine k9.fe (J.at_ ac) λK=>?_;have:=(cR.blk (cR.ext r J) K).1;omega;unfold qq;rw[jA,List.flatMap_append];have h9:cR j.heap.size 84 [i64 0,i64 0,.bool false] w9 v' (l.length+1) (l.flatMap tL++tL ⟨i,s,T⟩):=ae;simpa using h9;exact cF ⟨d,(.slice L l.length c,l),by trivial,f I q⟩;exact lx rfl (cF ⟨d,(.slice L l.length c,l),by trivial,f Q (Ext.refl _)⟩);exact lx rfl (lx rfl (cF ⟨d,(.slice L l.length c,l),by trivial,f Q (Ext.refl _)⟩));obtain rfl:i=N.doors.length:=by simp at D;omega
 exact cF ⟨by omega,(v,l),by trivial,Z,E,A,k.up (by omega),by simp only;omega⟩;have Y:¬(s:Int)<z:=ee D;exact⟨_,rfl,(y.de m).trans d3,l,s,A.low y.size,k,by omega,by omega⟩
def TU:Ef 95 101 [.int .i64 0,.int .i64 0,.bool false,.bool false]:=⟨by kernel_rfl,Tryz.t101,_,by kernel_rfl,rfl,by kernel_rfl,by kernel_rfl,by decide+kernel,by decide⟩
def zC(G:Gd)(a:List Sx)(b:cz):dr:=b.flatMap λd=>nR d (fT G (a.getD d lM))
theorem A5(G:Gd)(a:List Sx):∀b,(zC G a b).length=b.length*4
 |[]=>rfl
 |d::r=>by have:=A5 G a r;simp only[zC,mV,jA,eI]at this⊢;rw[this];show 4+_=_;omega
def sL(b:Nat)(w:cn)(v:cq)(G:Gd)(c:List Sx)(a:cz):Prop:=cR b 101 [.int .i64 0,.int .i64 0,.bool false,.bool false] w v a.length (zC G c a)
def ND{dc:Nat}(M:fZ w a H.doors)(B:dK H=0){l:List Tq}{C:Option Addr}{lc:Nat}(N:ja w C l)(O:l.length<=1000)(P:(fQ H l).1=0):
 Calls V.prog 72 #[gV H a dc,.slice C l.length lc] w (fi λv g=>Ext w g/\∃u,v=.tuple #[u,.int .i64 0]/\sL w.heap.size g u H (fQ H l).2 (dn H.tries (fQ H l).2)):=by
 have D:=eQ B;have hm:=D.many;have hs:=D.streets;refine gd Tryz.func72 Tryz.ntmps72 ?_;refine ej λw1 gb p Q R=>dA R (cD (mP (dc:=dc) (M.ext p) (by omega) (N.ext p) (by omega)) ?_);rintro v w2 ⟨S,⟨E,rfl⟩|⟨E,T,gp,mk,ms,rfl,U,F⟩⟩;exact absurd (by rw[jQ,cB B];exact P) E;obtain⟨c,q⟩:∃c,c=(fQ H l).2:=⟨_,rfl⟩;have i:=U.k;rw[<-q]at i F⊢;have W:=i.len;have G:=lN H.tries c;refine fD (lx (by simp) (cD (xh i) ?_));rintro ov r ⟨I,s⟩;obtain⟨X,Y,rfl,t,Z⟩:=s.row;have J:=(p.trans S).trans I;refine cS (gT (n:=(dn H.tries c).length) (λk v=>[(6,cM T),(8,v),(21,.slice X (dn H.tries c).length Y),(22,i64 (dn H.tries c).length),(23,i64 k)]) (λk v g=>Ext r g/\sL r.heap.size g v H c ((dn H.tries c).take k)) (.slice none 0 0) ⟨by trivial,Ext.refl _,cR.nil _ _ _ _⟩ ?_ ?_ ?_);rintro k v K aa hJ;exact du ⟨rfl,rfl,by trivial,hJ⟩;rintro k v K d ⟨f,h⟩;obtain⟨b,o,rfl,hc⟩:=(t.ext f) k d;have e:(dn H.tries c)[k]<c.length:=kO (ef d);have x:c.getD (dn H.tries c)[k] lM=c[(dn H.tries c)[k]]:=by rw[jG,eV e];rfl
 have y:=F _ (ef e);refine fw k d (cu hc (dG (MS (i.ext (I.trans f)) e (by obtain⟨q1,q2,q3⟩:=y;exact⟨⟨by omega,by omega⟩,⟨by omega,by omega⟩,by omega,by omega⟩)) λw5 j=>?_));refine eg (nR (dn H.tries c)[k] (fT H c[(dn H.tries c)[k]])) 101 λw6 nb m ab z=>gq TU (cR.ext (cR.ext h j) m) (by have:=f.size;have:=j.size;have:=m.size;omega) z (by simp;omega) λL w7 A k7 _=>cF ⟨L,by trivial,((f.trans j).trans m).ia k7 (cR.ext (cR.ext h j) m) (cJ _),?_⟩;unfold sL;have h9:cR r.heap.size 101 [i64 0,i64 0,.bool false,.bool false] w7 L (((dn H.tries c).take k).length+1) (zC H c ((dn H.tries c).take k)++nR (dn H.tries c)[k] (fT H c[(dn H.tries c)[k]])):=A;rw[jc d,jA];simpa only[zC,List.flatMap_append,mV,List.flatMap_nil,List.append_nil,x,eI,fB,cG]using h9;rintro v K ⟨f,h⟩;rw[mW]at h;exact⟨_,rfl,J.trans f,v,rfl,cR.low h J.size⟩
def lh(T:Int)(a:List Sx)(k:Nat):cz:=(List.range k).filter λd=>eZ T (a.getD d lM)
def wu(T:Int)(a:List Sx)(k:Nat)(b:k<a.length):lh T a (k+1)=if eZ T a[k]then lh T a k++[k]else lh T a k:=by
 have e:a.getD k lM=a[k]:=by rw[jG,eV b];rfl
 simp only[lh,oO,List.filter_append,List.filter_cons,List.filter_nil,e];cases h:eZ T a[k]<;>simp
def tA(T:Int)(a:List Sx)(k:Nat):(lh T a k).length<=k:=cZ (List.length_filter_le ..) (by simp)
def Ke{dc:Nat}(p:fZ w a H.doors)(t:dK H=0){l:List Tq}{G:Option Addr}{lc:Nat}(P:ja w G l)(Q:l.length<=1000)(R:(fQ H l).1=0):
 Calls V.prog 73 #[gV H a dc,.slice G l.length lc] w (fi λv d=>Ext w d/\∃u,v=.tuple #[u,.int .i64 0]/\fE w.heap.size d u (lh H.tries (fQ H l).2 (fQ H l).2.length)):=by
 have I:=eQ t;have hm:=I.many;have hs:=I.streets;refine gd Tryz.func73 Tryz.ntmps73 ?_;refine ej λS gb q T z=>dA z (cD (mP (dc:=dc) (p.ext q) (by omega) (P.ext q) (by omega)) ?_);rintro v J ⟨f,⟨x,rfl⟩|⟨x,U,gp,mk,ms,rfl,W,X⟩⟩;exact absurd (by rw[jQ,cB t];exact R) x;obtain⟨c,A⟩:∃c,c=(fQ H l).2:=⟨_,rfl⟩;have r:=W.k;rw[<-A]at r X⊢;have Y:=r.len;have K:=q.trans f;obtain⟨Z,sc,x,h2,h3,h4⟩:=r.at_;refine fD (lx (by simp) (cu h2 (cS (gT (n:=c.length) (λk v=>[(6,cM U),(8,v),(23,.slice Z c.length sc),(24,i64 c.length),(25,i64 k)]) (λk v d=>Ext J d/\fE J.heap.size d v (lh H.tries c k)) (.slice none 0 0) ⟨by trivial,Ext.refl _,cR.nil _ _ _ _⟩ ?_ ?_ ?_))));rintro k v d r ⟨e,m⟩;exact du ⟨rfl,rfl,by trivial,e,m⟩;rintro k v d h ⟨e,m⟩;obtain⟨b,o,rfl,hc⟩:=(h4.ext e) k h;have L:=tA H.tries c k;refine eN k 8 h (dJ (vs:=ly c[k]) hc (eD λS nb q B z=>dq z λC k2 s=>?_));have f:Ext d C:=q.cC k2 B;have D:C.heap[nb]? =some (.cells (ly c[k]).toArray 166):=s.trans (cT (λaa=>some (Obj.cells aa 166)) (dC (pm 166).toArray (ly c[k]) rfl));have t:=(r.g.ext e).ext f;clear s;refine cX cV (cK (f.cell (e.cell x)) (dx (.agg (ly c[k]).toArray) (λM i=>dJ (vs:=ly c[k]) (λj v hj=>by rw[cG];exact cr (i.at_ D) (by simpa using hj)) ⟨rfl,Ext.refl _⟩) (fh (.bool (eZ H.tries c[k])) (λM i=>um (t.ext i) c[k]) λM i=>⟨λp=>?_,λp=>?_⟩)));have N:=(e.trans f).trans i;refine eg [Value.int .i64 k] 3 λC ab y O E=>gq sg (((m.ext f).ext i).ext y) (cZ N.size y.size) E (by omega) λv' w6 F k6 _=>cF ⟨v',by trivial,(N.trans y).ia k6 (((m.ext f).ext i).ext y) (cJ _),?_⟩;rw[wu _ _ _ h,p];simpa[fE,jy]using F;refine cF ⟨v,by trivial,(e.trans f).trans i,?_⟩;rw[wu _ _ _ h,p];exact(m.ext f).ext i;rintro v d ⟨e,m⟩;exact⟨_,rfl,K.trans e,v,rfl,m.low K.size⟩
def TV(G:Gd)(c:d<5):nG G (io [d])=decide (MK G [d]=1):=by
 have a:fl (io [d])=[d]:=by
  obtain rfl|rfl|rfl|rfl|rfl:d=0\/d=1\/d=2\/d=3\/d=4:=by omega
  all_goals rfl
 have b:dX G (io [d])=[d]:=by unfold dX;rw[a];show(jl G [[d]]).1=[d];simp[jl,ju]
 unfold nG MK;rw[b];by_cases h:iU G [d]<=G.minutes;simp[h];simp only[h,eF];split<;>simp
end Go.Proofs.W
variable{l f:List Nat}{T U:cw}
namespace Go.Proofs.W
open Go.RowKit
def Fi{r:nd}{u:Array Bool}{b:List cz}(h:gU m w x b)(j:m<=w.heap.size)(n:fE m w y l)(v:w.heap[k]? =some (.cells [y].toArray 27))(c:b.length+1<=1000000) (z:∀d e,gU m e d (b++[l])->cW (cH x) w e->(∀k,cH d k->cH x k\/w.heap.size<=k)->r d e):zV V.prog (builtin .append #[66,66] T u #[x,.slice (some ⟨k,0,none⟩) 1 i]) w r:=by
 obtain⟨A,o,s,B⟩:=h;have f:y.oneCell'=true:=by obtain⟨a,i,rfl,_⟩:=n.row;rfl
 refine gq Pi o j v c (λd e C p D=>z d e ⟨A++[y],by simpa using C,by simp[s],λq E=>?_⟩ p D) rfl (by simp[ri,f]);rcases fj q b.length with g|F;obtain⟨G,H,t⟩:=B q g;refine⟨G,by rw[nT (by omega)];exact H,?_⟩;rw[nU g];exact t.keep p (kN t o (by decide));obtain rfl:q=b.length:=by simp at E;omega
 refine⟨y,by rw[oM (by omega)];simp[s],?_⟩;simp only[vA (cJ _),mZ,oN];exact n.keep p (kN n o (by decide))
theorem gU.blk{a:List cz}(h:gU m w x a)(b:cH x k):m<=k/\k<w.heap.size:=by obtain⟨d,c,_⟩:=h;exact c.blk b
def wv(l:List Ty):Nat:=match l.getLast? with
 |some t=>t.shift
 |none=>0
def Hd{l:List Ty}(f:zw w a l)(d:l.length<=100000):Calls V.prog 31 #[.slice a l.length m] w (fi λv g=>v=.int .i64 (wv l)/\g=w):=by
 refine gd Tryz.func31 Tryz.ntmps31 ?_;refine cS (ff ⟨λh=>?_,λh=>?_⟩);have h:l.length=0:=Int.ofNat.inj (dO h);obtain rfl:l=[]:=oL h;exact⟨_,rfl,rfl,rfl⟩;have h:¬l.length=0:=λe=>ee h (cT Int.ofNat e);have c:l.length-1<l.length:=by omega
 obtain⟨b,o,rfl,i⟩:=f _ c;have j:wv l=l[l.length-1].shift:=by unfold wv;rw[List.getLast?_eq_getElem?,eV c]
 rw[j];refine cS (fx ?_);rw[show((l.length:Int)-1)=((l.length-1:Nat):Int) by omega];exact eN (l.length-1) 3 c (cu (i 1 _ rfl) ⟨_,rfl,rfl,rfl⟩)
def NE(a:Ext w t)(d:DE m t e)(h:w.heap.size<=m):Ext w e:=⟨d.1.os.trans a.os,d.1.tape.trans a.tape,d.1.output.trans a.output,cZ a.size d.1.size,cZ a.drawn d.1.drawn,λx b=>(d.1.block x (dE b a.size) (by omega)).trans (a.block x b)⟩
def Kf(G:Gd)(b:List Sx)(a:cz)(k:Nat)(c:k<a.length)(j:Nat)(v:cq)(h:(nR a[k] (fT G (b.getD a[k] lM)))[j]? =some v):(zC G b a)[k*4+j]? =some v:=pX (f:=λd=>nR d (fT G (b.getD d lM))) (n:=4) (λ_=>rfl) a k c j v h
def sL.row{d:List Sx}(h:sL m w x H d l):∃a c,x=.slice a l.length c/\∀k (e:k<l.length),∃b o,a=some ⟨b,o,none⟩/\∀j x,(nR l[k] (fT H (d.getD l[k] lM)))[j]? =some x->w.cell? ⟨b,o+k*4+j,none⟩=some x:=by obtain⟨r,⟨f,rfl⟩|⟨b,c,s,t,rfl,i,u,v,y,n,z⟩⟩:=h;exact⟨none,0,by rw[f],λk e=>by omega⟩;refine⟨_,c,rfl,λk e=>⟨b,0,rfl,λj x g=>cr i ?_⟩⟩;have p:j<(nR l[k] (fT H (d.getD l[k] lM))).kq:=(iI.1 g).1;have q:(nR l[k] (fT H (d.getD l[k] lM))).kq=4:=rfl;have f:=A5 H d l;rw[cG,n _ (by omega)];exact Kf H d l k e j x g
def qq.rowOf{l:List Ty}(h:qq m w (.slice a k i) l):zw w a l:=by obtain⟨d,f,e,b,g⟩:=h.row;injection e with c;rw[c];exact b
def NF{l:List Ty}(h:Made H l s):wv l<=s:=by
 unfold wv;cases a:l.getLast? with
 |none=>exact fV _
 |some t=>exact h.last t (List.mem_of_getLast? a)
def Kg(b:List Dr):∀u∈b.flatMap dL,u.oneCell'=true:=λu c=>by obtain⟨d,_,a⟩:=sq.1 c;simp only[dL,eO,mu,jW]at a;rcases a with rfl|rfl|rfl<;>rfl
def z8(R:ii w a (H.doors.flatMap dL))(K:H.doors.length<=100000):Calls V.prog 36 #[gV H a m] w (fi λv L=>Ext w L/\∃b c,v=gV H b c/\l8 w.heap.size L (.slice b H.doors.length c) H.doors):=by
 refine gd Tryz.func36 Tryz.ntmps36 ?_;refine ej λw1 s M u y=>eD λN z p S i=>eg [] 81 λw3 nb r A B=>?_;have d:=M.trans p;have s1:=M.size;have s2:=p.size;have s3:=r.size;refine cu (cr ((p.trans r).at_ y) rfl) (pL (n0:=N.heap.size) Ph B A (vz H.doors) ((R.ext d).ext r) (Kg _) (by omega) λv4 O C T=>?_);have f:=T N r (cJ _);have U:=d.trans f;obtain⟨b,c,rfl,W,hc⟩:=l8.row C;have k:O.heap[s]? =some (.cells (gV H a m).cells 24):=f.at_ (p.at_ y);have l:=f.at_ i;refine dq k λX D g=>?_;replace g:X.heap[s]? =some (.cells (gL H b c).toArray 24):=g;have E:z≠s:=by have:=cP.lt_of_heap y;omega
 have F:=D.fe l E;refine dA g (dq F λG P I=>?_);have J:G.heap[z]? =some (.cells (gL H b c).toArray 24):=I.trans (cT (λb=>some (Obj.cells b 24)) (dC (pm 24).toArray (gL H b c) rfl));have Y:Sem.run V.prog (loadVar 24 ⟨z,0,none⟩) G=.ok (gV H b c) G:=kH (gL H b c) J λj v Z=>by rw[cG];simpa using Z
 refine⟨gV H b c,Y,_,rfl,(U.cC D u).cC P (by omega),b,c,rfl,?_⟩;have n:∀x,cH (.slice b H.doors.length c) x->∀Q t,O.heap[x]? =some (.cells Q t)->t=81:=λx o Q t h=>by obtain⟨aa,q⟩:=cR.c_ C o;rw[q]at h;injection h with h;injection h with _ h;exact h.symm
 exact l8.low (cR.keep (cR.keep C D λx o e=>by subst e;exact absurd (n _ o _ _ k) (by decide)) P (λx o e=>by subst e;exact absurd (n _ o _ _ l) (by decide))) d.size
end Go.Proofs.W
variable{M Y:List cq}
namespace Go.Proofs.W
open Go.RowKit
def ir{c:Type}(f:c->dr)(n:Nat)(w:cn)(a:ek)(l:List c):Prop:=∀k (h:k<l.length),∃b o,a=some ⟨b,o,none⟩/\∀j v,(f l[k])[j]? =some v->w.cell? ⟨b,o+k*n+j,none⟩=some v
def ir.cells{k:Type}{f:k->dr}{n:Nat}{w:cn}{a:ek}{l:List k}(h:ir f n w a l)(m:0<n)(d:∀x,(f x).length=n):ii w a (l.flatMap f):=by
 rcases mY l.length with g|g;exact .inl (by rw[oL g];rfl);obtain⟨b,o,e,_⟩:=h 0 g;refine .inr ⟨b,o,e,λj u p=>?_⟩;have c:=(iI.1 p).1;rw[zB d]at c;have i:=Nat.div_add_mod j n;have v:=Nat.mod_lt j m;have q:j/n<l.length:=(Nat.div_lt_iff_lt_mul m).2 c;rw[Nat.mul_comm]at i;have r:j%n<(f l[j/n]).length:=by rw[d];exact v
 have s:=pX d l (j/n) q (j%n) _ (eV r);rw[i,p]at s;obtain⟨z,A,t,y⟩:=h (j/n) q;rw[e]at t;cases t;have:=y (j%n) _ (eV r);rw[vF,i]at this;rw[this,cO s]
def ir.own{d:Type}{f:d->dr}{n m:Nat}{w:cn}{l:List d}(h:cR m T M w z l.length (l.flatMap f))(u:M.length=n)(o:∀x,(f x).length=n):∃a c,z=.slice a l.length c/\ir f n w a l/\l.length<=c:=by obtain⟨v,⟨p,rfl⟩|⟨b,c,y,A,rfl,q,B,r,C,s,D⟩⟩:=h;exact⟨none,0,by rw[p],λk e=>by omega,by omega⟩;refine⟨_,c,rfl,λk e=>⟨b,0,rfl,λj z g=>cr q ?_⟩,r⟩;have t:j<(f l[k]).kq:=(iI.1 g).1;have i:=pX o l k e j z g;rw[cG,s _ (iI.1 i).1];exact i
theorem ja.cells{w:cn}{a:ek}{l:List Tq}(h:ja w a l):ii w a (l.flatMap nQ):=ir.cells (f:=nQ) (n:=3) h (by decide) λ_=>rfl
theorem fZ.cells{w:cn}{a:ek}{l:List Dr}(h:fZ w a l):ii w a (l.flatMap dL):=ir.cells (f:=dL) (n:=3) (λk d=>by
 obtain⟨b,o,e,g,i,m⟩:=h k d;refine⟨b,o,e,λj v c=>?_⟩;match j,c with
 |0,c=>cases c;exact g
 |1,c=>cases c;exact i
 |2,c=>cases c;exact m) (by decide) λ_=>rfl
def iL(n:Int):dr:=[.int .i64 n]
theorem gF.cells{w:cn}{a:ek}{l:gC}(h:gF w a l):ii w a (l.flatMap iL):=ir.cells (f:=iL) (n:=1) (λk d=>by
 obtain⟨b,o,e,g⟩:=h k d;refine⟨b,o,e,λj v c=>?_⟩;match j,c with
 |0,c=>cases c;rw[oi];exact g) (by decide) λ_=>rfl
def pY(a:Nat)(w:cn)(v:cq)(l:List Tq):Prop:=cR a 84 [.int .i64 0,.int .i64 0,.bool false] w v l.length (l.flatMap nQ)
def pY.row{w:cn}{l:List Tq}(h:pY m w z l):∃a c,z=.slice a l.length c/\ja w a l/\l.length<=c:=ir.own h rfl λ_=>rfl
def Si{a:Type}{f:a->dr}(b:∀x,∀u∈f x,u.oneCell'=true)(l:List a):∀u∈l.flatMap f,u.oneCell'=true:=λu c=>by obtain⟨d,_,e⟩:=sq.1 c;exact b d u e
def Sj(x:Tq):∀u∈nQ x,u.oneCell'=true:=λu a=>by simp only[nQ,eO,mu,jW]at a;rcases a with rfl|rfl|rfl<;>rfl
def Fj{l:List Tq}{w:cn}(h:ja w a l)(c:l.length<=100000):Calls V.prog 37 #[.slice a l.length m] w (fi λv d=>Ext w d/\pY w.heap.size d v l):=by refine gd Tryz.func37 Tryz.ntmps37 ?_;exact eg [] 84 λk o e b g=>pL (n0:=w.heap.size) NC g b (zB (f:=nQ) (n:=3) (λ_=>rfl) l) (h.ext e).cells (Si Sj l) (by omega) λv p i j=>⟨_,rfl,j w e (cJ _),i⟩
section
variable{x y:dw}{w:cn}
def TW(q:Tq):Sem.run V.prog (do eqGuard .neq 84 x y (.agg (nQ q).toArray) (.agg (nQ q).toArray);binOp .neq 84 (.agg (nQ q).toArray) (.agg (nQ q).toArray)) w=.ok (.bool false) w:=by obtain⟨a,b,c⟩:=q;show Sem.run jD (do eqGuard .neq 84 x y (.agg #[i64 a,i64 b,.bool c]) (.agg #[i64 a,i64 b,.bool c]);binOp .neq 84 (.agg #[i64 a,i64 b,.bool c]) (.agg #[i64 a,i64 b,.bool c])) w=.ok (.bool false) w;go_simp
def TX(q:Dr):Sem.run V.prog (do eqGuard .neq 81 x y (.agg (dL q).toArray) (.agg (dL q).toArray);binOp .neq 81 (.agg (dL q).toArray) (.agg (dL q).toArray)) w=.ok (.bool false) w:=by obtain⟨a,b,c⟩:=q;show Sem.run jD (do eqGuard .neq 81 x y (.agg #[i64 a,i64 b,i64 c]) (.agg #[i64 a,i64 b,i64 c]);binOp .neq 81 (.agg #[i64 a,i64 b,i64 c]) (.agg #[i64 a,i64 b,i64 c])) w=.ok (.bool false) w;go_simp
end
def Fl{l:List Tq}{f:Option Addr}{w:cn}(s:ja w a l)(h:ja w f l)(r:l.length<=100000):
 Calls V.prog 41 #[.slice a l.length m,.slice f l.length k] w (fi λv g=>v=.bool true/\Ext w g):=by
 refine gd Tryz.func41 Tryz.ntmps41 ?_;refine cS (cS (fD (lx (by simp) ?_)));refine fW l.length (λd (_:Unit)=>[(0,.slice a l.length m),(1,.slice f l.length k),(5,i64 d)]) (λd _ g=>Ext w g) () ⟨by trivial,Ext.refl _⟩ ?_;rintro d _ g y e;refine cS (du ⟨λc=>?_,λt=>⟨_,rfl,rfl,e⟩⟩);have c:d<l.length:=by simpa using c
 obtain⟨b,o,rfl,u⟩:=s d c;obtain⟨z,A,rfl,i⟩:=h d c;exact cX cV (gE d 3 c (dx (.agg (nQ l[d]).toArray) (λn p=>dJ (vs:=nQ l[d]) (λj v q=>(e.trans p).cell (u j v q)) ⟨rfl,Ext.refl _⟩) (gE d 3 c (dx (.agg (nQ l[d]).toArray) (λn p=>dJ (vs:=nQ l[d]) (λj v q=>(e.trans p).cell (i j v q)) ⟨rfl,Ext.refl _⟩) (dx (.bool false) (λn _=>⟨_,n,TW _,rfl,Ext.refl _⟩) λB x=>lx rfl (cF ⟨c,(),by trivial,e.trans x⟩))))))
def z9{q:ek}{w:cn}(J:fZ w a H.doors)(x:fZ w q H.doors)(E:H.doors.length<=100000):Calls V.prog 40 #[gV H a m,gV H q k] w (fi λv g=>v=.bool true/\Ext w g):=by
 refine Fc Tryz.func40 Tryz.ntmps40 (dM.seq dj ?_);refine ej λu F r K n=>ej λL s G M y=>?_;have N:=r.trans G;have n:=G.at_ n;refine dM.ij (dM.of dj (cu (cr n rfl) (cS (cu (cr y rfl) (cS (fD (lx (by simp) ?_)))))));refine dM.ij (dM.of dj ?_);refine fW H.doors.length (λc (_:Unit)=>[(2,cM F),(3,cM s),(5,i64 c)]) (λc _ g=>Ext L g) () ⟨by trivial,Ext.refl _⟩ ?_;rintro c _ I W e;have l:=N.trans e;refine cu (cr (e.at_ n) rfl) (cS (du ⟨λd=>?_,λO=>?_⟩));have d:c<H.doors.length:=by simpa using d
 obtain⟨b,o,z,P,Q,i⟩:=J c d;obtain⟨R,S,t,A,B,C⟩:=x c d;subst z t
 have T:∀{g} (h:Ext I g),∀j v,(dL H.doors[c])[j]? =some v->g.cell? (cY b (o+c*3+j))=some v:=λh j v f=>by
  match j,f with
  |0,f=>cases f;exact(l.trans h).cell P
  |1,f=>cases f;exact(l.trans h).cell Q
  |2,f=>cases f;exact(l.trans h).cell i
 have D:∀{g} (h:Ext I g),∀j v,(dL H.doors[c])[j]? =some v->g.cell? (cY R (S+c*3+j))=some v:=λh j v f=>by
  match j,f with
  |0,f=>cases f;exact(l.trans h).cell A
  |1,f=>cases f;exact(l.trans h).cell B
  |2,f=>cases f;exact(l.trans h).cell C
 exact cX cV (cK (cr (e.at_ n) rfl) (gE c 3 d (dx (.agg (dL H.doors[c]).toArray) (λu r=>dJ (vs:=dL H.doors[c]) (T r) qm) (cK (cr (e.at_ y) rfl) (gE c 3 d (dx (.agg (dL H.doors[c]).toArray) (λu r=>dJ (vs:=dL H.doors[c]) (D r) qm) (dx (.bool false) (λu _=>⟨_,u,TX _,rfl,Ext.refl _⟩) λX U=>lx rfl (cF ⟨d,(),by trivial,e.trans U⟩))))))));refine dM.jN (l0:=[(2,cM F),(3,cM s)]) (by trivial) (dM.ij (rF.start (rF.Nv 41 dj ?_)));have p:=e.at_ n;have i:=e.at_ y;refine cu (cr p rfl) (cu (cr i rfl) (ff (jZ (decide_eq_true rfl) ?_)));refine cu (cr p rfl) (cu (cr i rfl) (ff (jZ (decide_eq_true rfl) ?_)));refine cu (cr p rfl) (cu (cr i rfl) (ff (jZ (decide_eq_true rfl) ?_)));refine cu (cr p rfl) (cu (cr i rfl) (ff (jZ (decide_eq_true rfl) ?_)));refine cu (cr p rfl) (cu (cr i rfl) (ff (jZ (decide_eq_true rfl) ?_)));exact cu (cr p rfl) (cu (cr i rfl) (ff (rF.fin (dM.of dj ⟨_,rfl,cT Value.bool (decide_eq_true rfl),l⟩))))
section
variable{G:Gd}{da:Option Addr}{dc:Nat}{w:cn}
def Kh{l:List Tq}{d:Option Addr}{g:Nat}(h:fZ w da G.doors)(a:G.doors.length<=100000)(i:ja w d l)(c:l.length<=100000):Calls V.prog 80 #[gV G da dc,.slice d l.length g] w (fi λv j=>v=.int .i64 (jQ G l)/\Ext w j):=by refine gd Tryz.func80 Tryz.ntmps80 ?_;refine ej λn o b k m=>dA m (cD (mP (dc:=dc) (h.ext b) a (i.ext b) c) ?_);rintro _ p ⟨e,⟨f,rfl⟩|⟨f,q,r,mk,s,rfl,_⟩⟩;exact⟨_,rfl,rfl,b.trans e⟩;exact⟨_,rfl,by rw[f];rfl,b.trans e⟩
end
section
variable{G H:Gd}{σ τ:Nat->Nat}
end
section
variable{G H:Gd}{σ τ:Nat->Nat}{xs ys:List Sx}
end
section
variable{G H:Gd}{σ τ:Nat->Nat}
end
def cR.st{o b a c:Nat}{t:cw}{p i k:dr}{w q:cn}{l d:dU}(h:cR o t p w (.slice (some ⟨b,0,none⟩) a c) a i)(r:w.heap[b]? =some (.cells l t))(m:q.heap[b]? =some (.cells d t))(s:d.size=l.size)(u:k.length=i.length)(n:∀j,j<i.length->d[j]? =k[j]?)(g:∀j,i.length<=j->d[j]? =l[j]?)(I:0<a):cR o t p q (.slice (some ⟨b,0,none⟩) a c) a k:=by obtain⟨v,⟨x,_⟩|⟨y,J,z,A,e,f,B,C,D,K,E⟩⟩:=h;omega;injection e with e _ F;obtain rfl:b=y:=cT Addr.block (cO e);rw[r]at f;injection f with f;injection f with f;subst f;subst F;refine⟨by rw[u];exact v,.inr ⟨b,c,d,A,rfl,m,by rw[s];exact B,C,D,λj G=>n j (by omega),λj G H=>?_⟩⟩;rw[g j (by omega)];exact E j (by omega) (by omega)
variable{G:Gd}{da:Option Addr}{dc:Nat}{w:cn}
def Ki{l:List Tq}{a:Option Addr}{c:Nat}(d:ja w a l)(e:l.length<=100000):Calls V.prog 126 #[.slice a l.length c] w (fi λv f=>v=.int .i64 (dZ l)/\f=w):=by
 refine gd Tryz.func126 Tryz.ntmps126 ?_;refine cS (ff ⟨λh=>?_,λh=>?_⟩);have h:l.length=0:=by have:=dO h;omega
 exact⟨_,rfl,by rw[oL h];rfl,rfl⟩;have h:¬l.length=0:=by have:=ee h;omega
 obtain⟨b,o,rfl,g⟩:=d (l.length-1) (by omega);refine cS (fx (eN (l.length-1) 3 (by omega) (cu (g 1 _ rfl) ⟨_,rfl,?_,rfl⟩) (by omega)));show Value.int .i64 _=_;unfold dZ;rw[List.getLast?_eq_getElem?,eV (by omega)]
def Fo(q:fZ w da G.doors)(b:G.doors.length<=100000){l:List Tq}{k:Option Addr}{m:Nat}(n:ja w k l)(c:l.length<=100000)(e:l.length<=m)(s:Int):
 Calls V.prog 99 #[gV G da dc,.slice k l.length m,.int .i64 s] w (fi λv r=>v=.int .i64 (dP G l s 0)/\Ext w r):=by
 refine gd Tryz.func99 Tryz.ntmps99 ?_;refine ej λx y f t o=>dA o (dG (uE (dc:=dc) (q.ext f) b (n.ext f) c e) λz p=>?_);rw[xm];have d:=f.trans p;unfold dP;refine fD ⟨λh=>?_,λh=>?_⟩;have h:¬jQ G l=0:=dO h;exact⟨_,rfl,by rw[cy h];rfl,d⟩;have h:jQ G l=0:=by simpa using ee h
 have u:dK G=0:=by unfold jQ at h;by_cases g:dK G=0;exact g;rw[cy g]at h;exact absurd h g
 have i:=(eQ u).days;rw[cB h];unfold rm;refine cu (cr (p.at_ o) rfl) (pE (fx (dg (gJ _ _ _ _) (ei ⟨λa=>?_,λa=>?_⟩))));have a:kP s 0 (2*G.days-1)=false:=by simpa using a
 exact⟨_,rfl,by rw[a];rfl,d⟩;have a:kP s 0 (2*G.days-1)=true:=by simpa using a
 refine dg (Ki (n.ext d) c) (du ⟨λj=>?_,λj=>?_⟩);exact⟨_,rfl,by rw[a,cB (dO j)];rfl,d⟩;exact⟨_,rfl,by rw[a,cy (ee j)];rfl,d⟩
end Go.Proofs.W
variable{P:cA}
namespace Go.Proofs.W
open Go.Conc
def Q7(a:Array Oper):Bool:=(List.range a.size).all λi=>match a[i]? with
 |some o=>o.guard.isNone&&(o.after.all λe=>decide (e.on<i)||!Region.binds .any e)
 |none=>true
def Fp(i:Nat)(D:Nat->Bool):Nat->Bool:=λj=>Nat.beq j i||D j
def Aa{b:Array Oper}{Q:Exit->Act->cU}{M:Act}(hm:P.follows .mixedOrders=true)(hB:Q7 b=true)(I:(Nat->Bool)->Act->cU)(N:I (λ_=>false) M w.drew)
 (hs:∀i o,b[i]? =some o->∀D a g,I D a g->D i=false->(∀j,waits b i j=true->D j=true)->o.wp P a g (λY Z=>I (Fp i D) Y Z) Q)(h1:∀D a g,I D a g->(∀i,i<b.size->D i=true)->Q .normal a g):(Code.region m b true).wp P Q M w:=by
 refine wp_region_any hm ?_;have B:∀(i:Nat) (o:Oper),b[i]? =some o->o.guard=none/\∀e∈o.after,Region.binds .any e=true->e.on<i:=λi o n=>by have k:i<b.size:=(eU.1 n).1;have t:=mU.1 hB i (gR.2 k);rw[n]at t;simp only[dW]at t;refine⟨by simpa using t.1,λe C hb=>?_⟩;have:=uM.1 t.2 e C;simpa[hb]using this
 have q:∀L:Array Bool,L.size=b.size->Region.ready .any b L=[]->∀i,i<b.size->L.getD i false=true:=by
  intro L H O i;induction i using Nat.strongRecOn with
  |_ i R=>
   intro k;refine Hq λS=>?_;have n:b[i]? =some b[i]:=iY k;have c:i∈Region.ready .any b L:=by
    unfold Region.ready;refine xq.2 ⟨gR.2 k,?_⟩;simp only[dW,tE];refine⟨?_,?_⟩;have:L.getD i false=false:=by simpa using S
    have r:i<L.size:=by omega
    simp[r]at this⊢;exact this;rw[n];simp only[jJ,jI];refine uM.2 λe C=>?_;cases T:Region.binds .any e with
    |false=>simp
    |true=>
     have E:=(B i _ n).2 e C T;rw[R e.on E (by omega)];simp
   rw[O]at c;cases c
 have U:∀(d:Nat) (L:Array Bool) (a:Act) (g:cn),L.size=b.size->I (λj=>L.getD j false) a g->((List.range b.size).countP λi=>!L.getD i false)<=d->wpAny P .any b Q d L a g:=by
  intro d;induction d with
  |zero=>
   intro L a g H J hc
   have v:∀i,i<b.size->L.getD i false=true:=λi k=>by
    have N:(List.range b.size).countP (λi=>!L.getD i false)=0:=by omega
    have:=List.countP_eq_zero.1 N i (gR.2 k);simpa using this
   refine⟨?_,h1 _ a g J v⟩;unfold Region.ready;refine KQ.2 λi k=>?_;have h:=v i (gR.1 k);have r:i<L.size:=by have:=gR.1 k;omega
   simp[r]at h⊢;intro V;rw[h]at V;cases V
  |succ d R=>
   intro L a g H J hc;refine⟨λO=>h1 _ a g J (q L H O),λi k=>?_⟩;unfold Region.ready at k;obtain⟨u,s⟩:=xq.1 k;have u:=gR.1 u;simp only[dW,tE]at s;have n:b[i]? =some b[i]:=iY u;rw[n]at s;simp only[jJ,jI]at s;have f:L.getD i false=false:=by
    have h:=s.1;have r:i<L.size:=by omega
    simp[r]at h⊢;exact h
   have y:∀j,waits b i j=true->L.getD j false=true:=λj z=>by unfold waits at z;rw[n]at z;obtain⟨e,C,z⟩:=qv.1 z;simp only[dW,ol]at z;have h:=uM.1 s.2 e C;rw[z.2]at h;rw[<-z.1];simpa using h
   have F:∀j,(L.setIfInBounds i true).getD j false=Fp i (λj=>L.getD j false) j:=λj=>by
    rw[gZ _ _ _ (by omega)];unfold Fp;by_cases e:i=j;subst e;simp;rw[cy e];have:Nat.beq j i=false:=by
     cases h:Nat.beq j i with
     |false=>rfl
     |true=>exact absurd (gM h).symm e
    rw[this,Bool.false_or]
   have G:(List.range b.size).countP (λj=>!(L.setIfInBounds i true).getD j false)<=d:=by
    have E:(List.range b.size).countP (λj=>!(L.setIfInBounds i true).getD j false)<(List.range b.size).countP (λj=>!L.getD j false):=by
     have c:=gR.2 u;generalize List.range b.size=l at c;have A:∀l:cz,l.countP (λj=>!(L.setIfInBounds i true).getD j false)<=l.countP (λj=>!L.getD j false):=λl=>List.countP_mono_left λx _ K=>by rw[gZ _ _ _ (by omega)]at K;split at K;cases K;exact K
     induction l with
     |nil=>cases c
     |cons x l W=>
      rcases eO.1 c with rfl|X;rw[List.countP_cons_of_neg (by rw[gZ _ _ _ (by omega)];simp),List.countP_cons_of_pos (by rw[f];rfl)];exact Nat.lt_succ_of_le (A l);have V:=W X;rw[List.countP_cons,List.countP_cons];have h3:(if(!(L.setIfInBounds i true).getD x false)=true then 1 else 0)<=(if(!L.getD x false)=true then 1 else 0):=by rw[gZ _ _ _ (by omega)];split;simp;exact cJ _
      omega
    omega
   have hw:=hs i b[i] n _ a g J f y;unfold wpOp;rw[n];simp only;rw[cB (by unfold Region.wanted;rw[(B i _ n).1])];refine .inl (Oper.wp_mono (λY Z h=>?_) hw);refine R _ _ _ (by simp[H]) ?_ G;rw[show(λj=>(L.setIfInBounds i true).getD j false)=Fp i (λj=>L.getD j false)from funext F];exact h
 refine U b.size _ M _ (by simp) ?_ (by have:=List.countP_le_length (p:=λi=>!(Array.replicate b.size false).getD i false) (l:=List.range b.size);simpa using this);have:(λj=>(Array.replicate b.size false).getD j false)=λ_=>false:=funext λj=>by simp[wx,sj];split<;>rfl
 rw[this];exact N
def Kj(D:Nat->Bool):List Edge->Prop
 |[]=>True
 |e::r=>match Region.binds .any e with
  |true=>D e.on=true/\Kj D r
  |false=>Kj D r
theorem Cd{D:Nat->Bool}:∀{l:List Edge},(∀e∈l,Region.binds .any e=true->D e.on=true)->Kj D l
 |[],_=>trivial
 |e::r,h=>by unfold Kj;split;rename_i b;exact⟨h e (by simp) b,Cd λx a=>h x (by simp[a])⟩;exact Cd λx a=>h x (by simp[a])
def He(N:Nat)(J:(Nat->Bool)->L->cU):Nat->List Oper->Prop
 |_,[]=>True
 |i,o::r=>SB N o.dst ((∀D l w,J D l w->D i=false->Kj D o.after.toList->∃b,Sub b l/\Cm V.prog Co [] b w o (λv a=>J (Fp i D) (ins N o.dst v l) a) (λa=>J (Fp i D) (ins N o.dst undef l) a) λ_ _=>False)/\He N J (i+1) r)
theorem A6{J:(Nat->Bool)->L->cU}:∀{a:List Oper} {n i:Nat} {o:Oper},He m J n a->a[i]? =some o->(∀t,o.dst=some t->t<m)/\∀D l w,J D l w->D (n+i)=false->Kj D o.after.toList->∃c,Sub c l/\Cm V.prog Co [] c w o (λv b=>J (Fp (n+i) D) (ins m o.dst v l) b) (λb=>J (Fp (n+i) D) (ins m o.dst undef l) b) λ_ _=>False
 |[],n,i,o,_,h=>by simp at h
 |x::r,n,i,o,d,h=>by
  obtain⟨⟨e,f⟩,g⟩:=wX d;cases i with
  |zero=>
   simp at h;subst h;exact⟨g,e⟩
  |succ i=>
   have:=A6 f (by simpa using h);rwa[show n+1+i=n+(i+1) by omega]at this
def Sk{c:Array Oper}{l:L}{Q:QW}(J:(Nat->Bool)->L->cU)(s:J (λ_=>false) l w.drew)(t:He m J 0 c.toList)(u:∀D l w,J D l w->(∀i,i<c.size->D i=true)->Q .normal l w)(x:Q7 c=true:=by kernel_rfl):dM V.prog m (.region k c true) l w Q:=
 ⟨λa d=>by refine Aa (by kernel_rfl) x (λD a w=>∃l,Fr m l a/\J D l w) ⟨l,d,s⟩ ?_ λD a w ⟨l,d,j⟩ f=>⟨l,d,u D l w j f⟩;rintro i o q D a w ⟨l,d,j⟩ y z;obtain⟨r,g⟩:=A6 (i:=i) t (by simpa using q);rw[cG]at g;obtain⟨E,n,p⟩:=g D l w j y (Cd λe A B=>z e.on (by unfold waits;rw[q];exact qv.2 ⟨e,by simpa using A,by simp[B]⟩));exact iv dj (d.sub n).b p (λv C h=>⟨_,d.put _ _ r,h⟩) (λC h=>⟨_,d.put _ _ r,h⟩) λ_ _ h=>h.elim⟩
end Go.Proofs.W
namespace Go.Proofs.W
open Go.RowKit
section
variable{G:Gd}{da:Option Addr}{dc:Nat}{w:cn}
def ID(r:fZ w da G.doors){i:Nat}{x:Dr}(e:(dV G)[i]? =some x):Calls V.prog 181 #[gV G da dc,.int .i64 ((i:Int)-1)] w (fi λv s=>v=.agg (dL x).toArray/\Ext w s):=by
 refine gd Tryz.func181 Tryz.ntmps181 ?_;refine ej λC D g t u=>eD λF q l y f=>du ⟨λh=>?_,λh=>?_⟩;have h:(i:Int)-1<0:=dO h;obtain rfl:i=0:=by omega
 obtain rfl:x=⟨0,0,0⟩:=(cO e).symm;exact dS (.agg (dL ⟨0,0,0⟩).toArray) (dq f λm n c=>by have c:m.heap[q]? =some (.cells (dL ⟨0,0,0⟩).toArray 81):=c.trans (cT (λa=>some (Obj.cells a 81)) (dC (pm 81).toArray _ rfl));exact⟨.agg (dL ⟨0,0,0⟩).toArray,kH _ c λj v d=>by rw[cG];simpa using d,_,rfl,rfl,(g.trans l).cC n (by have:=g.size;omega)⟩);have h:¬(i:Int)-1<0:=ee h;obtain⟨k,rfl⟩:∃k,i=k+1:=⟨i-1,by omega⟩;rw[show((k+1:Nat):Int)-1=(k:Int) by omega];have e:G.doors[k]? =some x:=by simpa[dV]using e
 have p:k<G.doors.length:=(iI.1 e).1;obtain⟨b,o,rfl,z,A,B⟩:=r k p;rw[eV p]at e;obtain rfl:=cO e;have E:=g.trans l;refine cu (cr (l.at_ u) rfl) (eN k 3 p (dJ (vs:=dL G.doors[k]) (λj v d=>?_) (dq f λm n c=>?_)));match j with
 |0=>exact(cO d)▸E.cell z
 |1=>exact(cO d)▸E.cell A
 |2=>exact(cO d)▸E.cell B
 |j+3=>simp[dL]at d
 have c:m.heap[q]? =some (.cells (dL G.doors[k]).toArray 81):=c.trans (cT (λa=>some (Obj.cells a 81)) (dC (pm 81).toArray _ rfl));exact⟨.agg (dL G.doors[k]).toArray,kH _ c λj v d=>by rw[cG];simpa using d,_,rfl,rfl,E.cC n (by have:=g.size;omega)⟩
structure NG(G:Gd)(da:Option Addr)(dc gb n0:Nat)(a b:Int)(x y:Dr)(w0:cn)(D:Nat->Bool)(l:L)(w:cn):Prop where
 g:lk l 3=some (cM gb)
 s1:lk l 1=some (.int .i64 a)
 s2:lk l 2=some (.int .i64 b)
 e:Ext w0 w
 v9:D 0=true->lk l 9=some (gV G da dc)
 v10:D 1=true->lk l 10=some (.int .i64 a)
 v11:D 2=true->lk l 11=some (.agg (dL x).toArray)
 v12:D 3=true->lk l 12=some (gV G da dc)
 v13:D 4=true->lk l 13=some (.int .i64 b)
 v14:D 5=true->lk l 14=some (.agg (dL y).toArray)
 p7:D 6=true->∃p cs,lk l 7=some (cM p)/\n0<=p/\w.heap[p]? =some (.cells cs 81)/\cs.size=3/\(D 8=true->cs=(dL x).toArray)
 p8:D 7=true->∃p cs,lk l 8=some (cM p)/\n0<=p/\w.heap[p]? =some (.cells cs 81)/\cs.size=3/\(D 9=true->cs=(dL y).toArray)
 ne:D 6=true->D 7=true->∀p q,lk l 7=some (cM p)->lk l 8=some (cM q)->p≠q
 c8:D 8=true->D 6=true/\D 7=true
 c9:D 9=true->D 6=true/\D 7=true
theorem NG.ext{k m:Nat}{a b:Int}{x y:Dr}{n w o:World}{D:Nat->Bool}{l:L}(h:NG G da dc k m a b x y n D l w)(e:Ext w o):NG G da dc k m a b x y n D l o:=
 {h with
  e:=h.e.trans e
  p7:=λc=>by
   obtain⟨p,d,f,g,i,j⟩:=h.p7 c
   exact⟨p,d,f,g,e.at_ i,j⟩
  p8:=λc=>by
   obtain⟨p,d,f,g,i,j⟩:=h.p8 c
   exact⟨p,d,f,g,e.at_ i,j⟩}
def xn{p q:Nat}(h:cM p=cM q):p=q:=cT Addr.block (cO (Value.pointer.inj h))
theorem Fq(hG:dK G=0)(J:fZ w da G.doors){i j:Nat}(hi:i<=G.doors.length)(hj:j<=G.doors.length):Calls V.prog 145 #[gV G da dc,.int .i64 ((i:Int)-1),.int .i64 ((j:Int)-1)] w (fi λv R=>v=.int .i64 (lj G i j)/\Ext w R):=by
 have ab:(dV G).length=G.doors.length+1:=by simp[dV]
 obtain⟨x,Z⟩:∃x,(dV G)[i]? =some x:=⟨_,List.getElem?_eq_getElem (by omega)⟩
 obtain⟨y,hy⟩:∃y,(dV G)[j]? =some y:=⟨_,List.getElem?_eq_getElem (by omega)⟩
 have ok:=eQ hG
 have m:∀d∈dV G,(0<=d.st/\d.st<=2)/\(0<=d.at_/\d.at_<=20):=λd J=>by
  rcases List.mem_cons.1 J with rfl|J
  ·simp
  ·exact⟨(ok.door d J).1,(ok.door d J).2.1⟩
 have ac:=m x (List.mem_of_getElem? Z)
 have ad:=m y (List.mem_of_getElem? hy)
 have hW:lj G i j=BJ G.corner x y:=by unfold lj;rw[Z,hy]
 clear m
 obtain⟨a,ha⟩:∃a:Int,a=(i:Int)-1:=⟨_,rfl⟩
 obtain⟨b,S⟩:∃b:Int,b=(j:Int)-1:=⟨_,rfl⟩
 have hA:∀n,Ext w n->Calls V.prog 181 #[gV G da dc,.int .i64 a] n (fi λv R=>v=.agg (dL x).toArray/\Ext n R):=λn e=>by rw[ha];exact ID (J.ext e) Z
 have hB:∀n,Ext w n->Calls V.prog 181 #[gV G da dc,.int .i64 b] n (fi λv R=>v=.agg (dL y).toArray/\Ext n R):=λn e=>by rw[S];exact ID (J.ext e) hy
 rw[<-ha,<-S]
 refine Fc Tryz.func145 Tryz.ntmps145 (dM.seq dj ?_)
 refine ej λn T e1 ae hb=>?_
 refine dM.ij ?_
 refine Sk (NG G da dc T n.heap.size a b x y n) ⟨rfl,rfl,rfl,Ext.drew _,λh=>(by cases h),λh=>(by cases h),λh=>(by cases h),λh=>(by cases h),λh=>(by cases h),λh=>(by cases h),λh=>(by cases h),λh=>(by cases h),λh=>(by cases h),λh=>(by cases h),λh=>(by cases h)⟩ ?_ ?_
 ·have sz:∀{D l o},NG G da dc T n.heap.size a b x y n D l o->n.heap.size<=o.heap.size:=λh=>h.e.size
  refine⟨λD l o h r _=>⟨[(3,cM T)],⟨h.g,trivial⟩,dA (h.e.at_ hb) {h with v9:=λ_=>rfl}⟩,?_⟩
  refine⟨λD l o h r _=>⟨[(1,.int .i64 a)],⟨h.s1,trivial⟩,{h with v10:=λ_=>rfl}⟩,?_⟩
  refine⟨λD l o h r s=>⟨[(9,gV G da dc),(10,.int .i64 a)],⟨h.v9 s.1,h.v10 s.2.1,trivial⟩,dG (hA o (e1.trans h.e)) λK L=>{h.ext L with v11:=λ_=>rfl}⟩,?_⟩
  refine⟨λD l o h r _=>⟨[(3,cM T)],⟨h.g,trivial⟩,dA (h.e.at_ hb) {h with v12:=λ_=>rfl}⟩,?_⟩
  refine⟨λD l o h r _=>⟨[(2,.int .i64 b)],⟨h.s2,trivial⟩,{h with v13:=λ_=>rfl}⟩,?_⟩
  refine⟨λD l o h r s=>⟨[(12,gV G da dc),(13,.int .i64 b)],⟨h.v12 s.1,h.v13 s.2.1,trivial⟩,dG (hB o (e1.trans h.e)) λK L=>{h.ext L with v14:=λ_=>rfl}⟩,?_⟩
  refine⟨λD l o h r s=>⟨[],trivial,eD λK U L M c=>{h.ext L with
   p7:=λ_=>⟨U,_,rfl,Nat.le_trans (sz h) M,c,rfl,λz=>absurd (h.c8 z).1 (by simpa using r)⟩
   ne:=λ_ H p q m u=>by
    obtain⟨q',W,A,_,X,_⟩:=h.p8 H
    have e:q=q':=(xn (Option.some.inj (A.symm.trans u))).symm
    have e2:U=p:=xn (Option.some.inj m)
    have:=cP.lt_of_heap X
    omega
   c8:=λz=>absurd (h.c8 z).1 (by simpa using r)
   c9:=λz=>absurd (h.c9 z).1 (by simpa using r)}⟩,?_⟩
  refine⟨λD l o h r s=>⟨[],trivial,eD λK U L M c=>{h.ext L with
   p8:=λ_=>⟨U,_,rfl,Nat.le_trans (sz h) M,c,rfl,λz=>absurd (h.c9 z).2 (by simpa using r)⟩
   ne:=λI _ p q m u=>by
    obtain⟨q',W,A,_,X,_⟩:=h.p7 I
    have e:p=q':=(xn (Option.some.inj (A.symm.trans m))).symm
    have e2:U=q:=xn (Option.some.inj u)
    have:=cP.lt_of_heap X
    omega
   c8:=λz=>absurd (h.c8 z).2 (by simpa using r)
   c9:=λz=>absurd (h.c9 z).2 (by simpa using r)}⟩,?_⟩
  refine⟨λD l o h r s=>?_,?_⟩
  ·have I:D 6=true:=s.1
   have H:D 7=true:=s.2.2.2.2.2.2.2.1
   have X:D 2=true:=s.2.1
   obtain⟨p,W,m,B,f,C,_⟩:=h.p7 I
   obtain⟨q,N,u,E,k,F,O⟩:=h.p8 H
   have P:=h.ne I H p q m u
   refine⟨[(7,cM p),(11,.agg (dL x).toArray)],⟨m,h.v11 X,trivial⟩,iT (v:=.agg (dL x).toArray) f (by rw[C];exact Nat.le_refl _) (λK Y c=>?_) (fK rfl)⟩
   have c:K.heap[p]? =some (.cells (dL x).toArray 81):=c.trans (congrArg (λa=>some (Obj.cells a 81)) (dC W _ C))
   exact{h with
    e:=h.e.cC Y B
    p7:=λ_=>⟨p,_,m,B,c,rfl,λ_=>rfl⟩
    p8:=λ_=>⟨q,_,u,E,Y.fe k (Ne.symm P),F,O⟩
    c8:=λ_=>⟨I,H⟩}
  refine⟨λD l o h r s=>?_,trivial⟩
  have I:D 6=true:=s.2.2.2.2.2.2.2.2.2.1
  have H:D 7=true:=s.1
  have h5:D 5=true:=s.2.1
  obtain⟨p,W,m,B,f,C,Q⟩:=h.p7 I
  obtain⟨q,N,u,E,k,F,_⟩:=h.p8 H
  have P:=h.ne I H p q m u
  refine⟨[(8,cM q),(14,.agg (dL y).toArray)],⟨u,h.v14 h5,trivial⟩,iT (v:=.agg (dL y).toArray) k (by rw[F];exact Nat.le_refl _) (λK Y c=>?_) (fK rfl)⟩
  have c:K.heap[q]? =some (.cells (dL y).toArray 81):=c.trans (congrArg (λa=>some (Obj.cells a 81)) (dC N _ F))
  exact{h with
   e:=h.e.cC Y E
   p8:=λ_=>⟨q,_,u,E,c,rfl,λ_=>rfl⟩
   p7:=λ_=>⟨p,_,m,B,Y.fe f P,C,Q⟩
   c9:=λ_=>⟨I,H⟩}
 ·intro D l o h t
  obtain⟨p,W,m,B,f,C,Q⟩:=h.p7 (t 6 (by decide))
  obtain⟨q,N,u,E,k,F,O⟩:=h.p8 (t 7 (by decide))
  obtain rfl:=Q (t 8 (by decide))
  obtain rfl:=O (t 9 (by decide))
  have E2:=e1.trans h.e
  have aa:=h.e.at_ hb
  refine dM.jN (l0:=[(3,cM T),(7,cM p),(8,cM q)]) ⟨h.g,m,u,trivial⟩ ?_
  have hf:0<=tk x.st y.st/\tk x.st y.st<=2:=by unfold tk;omega
  have hc:=ok.corner
  have m1:=Int.mul_le_mul hc.2 hf.2 hf.1 (by omega)
  have m2:=Int.mul_nonneg (show 0<=G.corner by omega) hf.1
  refine dM.of dj (cu (cr f rfl) (cu (cr k rfl) (ff ⟨λA=>?_,λA=>?_⟩)))
  ·have A:x.st=y.st:=of_decide_eq_true A
   refine cu (cr f rfl) (cu (cr k rfl) (fx (cu (cr k rfl) (cu (cr f rfl) (fx (rj ⟨_,rfl,?_,E2⟩))))))
   rw[hW,BJ,if_pos A]
   rfl
  ·have A:¬x.st=y.st:=of_decide_eq_false A
   refine cu (cr f rfl) (cu (cr k rfl) (cF (cu (cr aa rfl) (cu (cr f rfl) (cu (cr k rfl) (fx (cu (cr k rfl) (cu (cr f rfl) (fx (rj (pE (cF ⟨_,rfl,?_,E2⟩ ?_) ?_)))))))))))
   ·rw[hW,BJ,if_neg A]
    rfl
   ·have e:max (x.st-y.st) (y.st-x.st)=tk x.st y.st:=rfl
    rw[e];omega
   ·have e:max (x.st-y.st) (y.st-x.st)=tk x.st y.st:=rfl
    rw[e];omega
end
section
variable{G:Gd}{da:Option Addr}{dc:Nat}{w:cn}
theorem Kk(hG:dK G=0)(hd:fZ w da G.doors){l:List Nat}{la:Option Addr}{lc:Nat}(hr:fN w la l)(hl:∀d∈l,d<G.doors.length)(hlen:l.length<=1000):
 Calls V.prog 177 #[gV G da dc,.slice la l.length lc] w (fi λv w'=>v=.int .i64 (GG G l)/\Ext w w'):=by
 have ok:=eQ hG;have hW:=uf ok
 have WA:∀k,k<=l.length->xd l k<=G.doors.length:=λk hk=>by
  unfold xd;split
  ·omega
  ·have:k-1<l.length:=by omega
   have h2:=hl _ (List.getElem_mem this);rw[getD_eq this];omega
 refine gd Tryz.func177 Tryz.ntmps177 ?_;refine ej λw1 gb e1 Yf hb=>?_;refine fW l.length (λk (_:Unit)=>[(1,.slice la l.length lc),(2,cM gb),(5,.int .i64 (wK (lj G) l k)),(6,.int .i64 ((xd l k:Nat)-1)),(7,.int .i64 k)]) (λk _ w'=>Ext w1 w') () ⟨⟨rfl,rfl,rfl,rfl,rfl,trivial⟩,Ext.refl _⟩ ?_;rintro k _ w2 hk e2;have WB:=hd.ext (e1.trans e2);have De:=e2.at_ hb;have Uf:=xe hW l k;refine cS (du ⟨λHJ=>?_,λVk=>?_⟩)
 ·have P6:k<l.length:=by simpa using HJ
  obtain⟨bb,oo,rfl,hc⟩:=(hr.ext (e1.trans e2)) k P6;have Yg:=hl _ (List.getElem_mem P6);have hw:=hW (xd l k) (l[k]+1);have sC:∀w3,Ext w2 w3->Calls V.prog 145 #[gV G da dc,.int .i64 ((xd l k:Nat)-1),.int .i64 l[k]] w3 (fi λv w'=>v=.int .i64 (lj G (xd l k) (l[k]+1))/\Ext w3 w'):=λw3 e3=>by have:=Fq (dc:=dc) hG (WB.ext e3) (WA k (by omega)) (show l[k]+1<=G.doors.length by omega);rwa[show((l[k]+1:Nat):Int)-1=(l[k]:Int) by omega]at this
  have s1:wK (lj G) l (k+1)=wK (lj G) l k+lj G (xd l k) (l[k]+1):=by simp only[wK,getD_eq P6]
  have s2:((xd l (k+1):Nat):Int)-1=l[k]:=by simp[xd,List.getElem?_eq_getElem P6]
  refine cX cV (dx (gV G da dc) (λw3 e3=>dA (e3.at_ De) ⟨rfl,Ext.refl _⟩) (iK k P6 (cK hc (fh _ (λw3 e3=>sC w3 e3) (vf (iK k P6 (cK hc λw3 e3=>cF ⟨P6,(),⟨rfl,rfl,?_,?_,rfl,trivial⟩,e2.trans e3⟩)))))))
  ·show some _=some _;rw[s1]
  ·show some _=some _;rw[s2]
 ·have P6:k=l.length:=by
   have:¬k<l.length:=by simpa using Vk
   omega
  subst P6;have hw:=hW (xd l l.length) 0;have sC:Calls V.prog 145 #[gV G da dc,.int .i64 ((xd l l.length:Nat)-1),.int .i64 (-1)] w2 (fi λv w'=>v=.int .i64 (lj G (xd l l.length) 0)/\Ext w2 w'):=Fq (j:=0) hG WB (WA _ (Nat.le_refl _)) (Nat.zero_le _);exact dA De (dG sC λw3 e3=>cF ⟨_,rfl,rfl,(e1.trans e2).trans e3⟩)
def Fs(a b:Int):dr:=[.int .i64 a,.int .i64 b]
def Hf(z:dK G=0)(A:fZ w da G.doors){l:List Nat}{la:Option Addr}{lc:Nat}(B:fN w la l)(C:∀d∈l,d<G.doors.length)(m:l.length<=1000):
 Calls V.prog 143 #[gV G da dc,.slice la l.length lc] w (fi λv q=>v=.agg (Fs (iG G l) (iU G l)).toArray/\Ext w q):=by
 have n:=eQ z;have J:=AF n l (by omega);have K:=tj (uf n) l;have L:=n.knock;have M:0<=G.knock*(l.length:Int)/\G.knock*(l.length:Int)<=5000:=⟨Cu (by omega) (by omega),Int.le_trans (Int.mul_le_mul L.2 (show(l.length:Int)<=1000 by omega) (by omega) (by omega)) (by decide)⟩;have r:GG G l+G.knock*(l.length:Int)=iG G l:=by unfold iG BH GG;rw[Int.mul_comm]
 have N:GG G l=pH (lj G) l:=rfl;refine gd Tryz.func143 Tryz.ntmps143 ?_;refine ej λw1 O D P Q=>eD λR E F S s=>?_;have p:=D.trans F;have f:=F.at_ Q;refine cX cV (dx (gV G da dc) (λH h=>dA (h.at_ f) ⟨rfl,Ext.refl _⟩) (fh _ (λH h=>Kk (dc:=dc) (lc:=lc) z (A.ext (p.trans h)) (B.ext (p.trans h)) C m) (cK (cr f rfl) (kX (GA (vf (λH h=>?_)))))));rw[r];refine fW l.length (λk (_:Unit)=>[(1,.slice la l.length lc),(2,cM O),(4,cM E),(5,i64 (iG G l)),(6,i64 (n6 G (l.take k))),(7,i64 k)]) (λk _ q=>Ext R q) () ⟨⟨rfl,rfl,rfl,rfl,by show some _=some _;simp[n6],rfl,trivial⟩,h⟩ ?_;rintro k _ w4 T i;have t1:=yE n (l.take k);have U:(l.take k).length<=1000:=by simp;omega
 refine cS (du ⟨λt=>?_,λu=>?_⟩);have c:k<l.length:=by simpa using t
 obtain⟨b,o,rfl,W⟩:=(B.ext (p.trans i)) k c;have e:=C _ (ef c);obtain⟨b2,o2,x,_,_,X⟩:=(A.ext (p.trans i)) _ e;have t2:=n.door _ (ef e);subst x;refine cX cV (cK (cr (i.at_ f) rfl) (iK k c (cK W (gE l[k] 3 e (cK X (vf λI Y=>cF ⟨c,(),⟨rfl,rfl,rfl,rfl,?_,rfl,trivial⟩,i.trans Y⟩))))));show some _=some _;rw[yD G l k c e];have y:k=l.length:=by
  have:¬k<l.length:=by simpa using u
  omega
 subst y;rw[mW]at*;refine cF (dS (.agg (Fs (iG G l) (iU G l)).toArray) (dq (i.at_ s) λI Z g=>?_));have g:I.heap[E]? =some (.cells (Fs (iG G l) (iU G l)).toArray 56):=g.trans (cT (λa=>some (Obj.cells a 56)) (dC (pm 56).toArray _ rfl));exact⟨.agg (Fs (iG G l) (iU G l)).toArray,kH _ g λj v hj=>by rw[cG];simpa using hj,_,rfl,rfl,(p.trans i).cC Z (by have:=D.size;omega)⟩
end
def pi(T:Int)(t:Td):Du:=
 ⟨if(decide (1<T)&&decide (t.mornings=0))&&(decide (1<T)&&decide (t.evenings=0))then max 2 (max 1 (T-t.times))else max 1 (T-t.times),decide (1<T)&&decide (t.mornings=0),decide (1<T)&&decide (t.evenings=0)⟩
section
variable{G:Gd}{da:Option Addr}{dc:Nat}{w:cn}
def Ft{l:List Tq}{la:ek}{lc:Nat}(hT:0<=G.tries/\G.tries<=1000)(hr:ja w la l)(z:l.length<=100000)(hs:∀q∈l,0<=q.shift/\q.shift<=1000)(d:Nat):
 Calls V.prog 141 #[gV G da dc,.slice la l.length lc,.int .i64 d] w (fi λv m=>v=.agg (nR d (pi G.tries (qp d qo l))).toArray/\Ext w m):=by
 have L:=zq d l;refine Fc Tryz.func141 Tryz.ntmps141 (dM.seq dj ?_);refine ej λw1 gb e1 aa hb=>eD λw2 o N ab A=>?_;have E2:=e1.trans N;refine dM.seq dj (dG (lQ (hr.ext E2) z hs d) λw3 F=>eD λw4 H O ac P=>dq P λI R g=>?_);generalize qp d qo l=t at*;obtain⟨b1,b2,b3⟩:=L;have g:I.heap[H]? =some (.cells (FF t).toArray 173):=g.trans (cT (λa=>some (Obj.cells a 173)) (dC (pm 173).toArray _ rfl));have s1:=e1.size;have s2:=N.size;have s3:=F.size;have ad:=cP.lt_of_heap hb;have ae:=cP.lt_of_heap A;have k:=R.fe (O.at_ (F.at_ (N.at_ hb))) (show¬gb=H by omega);have B:=R.fe (O.at_ (F.at_ A)) (show¬o=H by omega);have S:Ext w I:=((E2.trans F).trans O).cC R (by omega);refine dM.ij (dM.mono (Q:=λe C m=>e=.normal/\∃c,Sub [(3,cM gb),(6,cM o),(7,cM H),(8,cM c)] C/\Ext I m/\I.heap.size<=c/\m.heap[c]? =some (.cells (nR d ⟨0,decide (1<G.tries)&&decide (t.mornings=0),decide (1<G.tries)&&decide (t.evenings=0)⟩).toArray 101)) ?_ ?_);rintro e C w6 ⟨rfl,c,T,n,f,i⟩;generalize hM:(decide (1<G.tries)&&decide (t.mornings=0))=M at*;generalize hE:(decide (1<G.tries)&&decide (t.evenings=0))=E at*;have U:=n.at_ k;have W:=n.at_ g;have X:=n.at_ B;have D:¬o=c:=by have:=cP.lt_of_heap B;omega
 refine dM.jN T (dM.seq dj ?_);refine cu (cr U rfl) (cu (cr W rfl) (fx (rj (dq i λJ y b=>?_))));have b:J.heap[c]? =some (.cells (nR d ⟨max 1 (G.tries-t.times),M,E⟩).toArray 101):=b;have p:=y.fe X D;have Y:Ext w J:=(S.trans n).cC y (by have:=S.size;omega);have hq:pi G.tries t=⟨if M&&E then max 2 (max 1 (G.tries-t.times))else max 1 (G.tries-t.times),M,E⟩:=by unfold pi;rw[hM,hE]
 refine dM.jN (l0:=[(6,cM o),(8,cM c)]) (by trivial) (dM.ij (dM.mono (Q:=λe C m=>e=.normal/\Sub [(6,cM o),(8,cM c)] C/\Ext w m/\m.heap[o]? =some (.cells (pm 101).toArray 101)/\m.heap[c]? =some (.cells (nR d (pi G.tries t)).toArray 101)) ?_ ?_));rintro e C w8 ⟨rfl,T,E8,Z,r⟩;generalize pi G.tries t=u at*;refine dM.jN T (dM.of dj ?_);refine dJ (vs:=nR d u) (λj v hj=>by rw[cG];exact cr r (by simpa using hj)) (dq Z λw9 k9 s=>?_);have s:w9.heap[o]? =some (.cells (nR d u).toArray 101):=s.trans (cT (λa=>some (Obj.cells a 101)) (dC (pm 101).toArray _ rfl));exact⟨.agg (nR d u).toArray,kH _ s λj v hj=>by rw[cG];simpa using hj,_,rfl,rfl,E8.cC k9 (by omega)⟩;rw[hq];refine dM.of dj (cu (cr b rfl) ⟨λK=>cu (cr b rfl) ⟨λh2=>?_,λh2=>?_⟩,λK=>?_⟩);subst K h2;refine cu (cr b rfl) (rj (dq b λw8 k8 r=>⟨rfl,by trivial,Y.cC k8 (by have:=S.size;omega),k8.fe p D,r⟩));subst K h2;exact⟨rfl,by trivial,Y,p,b⟩;subst K;exact lx rfl ⟨rfl,by trivial,Y,p,b⟩;refine dM.of dj (cu (cr k rfl) (lZ ⟨λh=>cu (cr g rfl) (ff (cu (cr k rfl) (lZ ⟨λx=>cu (cr g rfl) (ff ?_),λx=>?_⟩))),λh=>cu (cr k rfl) (lZ ⟨λx=>?_,λx=>?_⟩)⟩));rw[h];exact dS (.agg (nR d ⟨0,decide (t.mornings=0),decide (t.evenings=0)⟩).toArray) (eD λw6 c n f i=>dq i λJ y b=>⟨rfl,c,by trivial,n.cC y f,f,b⟩);rw[h]at x;cases x;rw[h]at x;cases x;rw[h];exact dS (.agg (nR d ⟨0,false,false⟩).toArray) (eD λw6 c n f i=>dq i λJ y b=>⟨rfl,c,by trivial,n.cC y f,f,b⟩)
end
def zD(t:Td)(k:Nat)(p:cz)(s:Nat):Bool:=(decide (0<k)&&decide (s/2<=p.getD (k-1) 0/2))||decide (((s/2:Nat):Int)=t.day)
def lA(t:Td)(f n k:Nat)(p:cz):List cz:=((List.range n).filter λj=>!zD t k p (f+j)).map λj=>p++[f+j]
def jb(t:Td)(f n:Nat):Nat->List cz
 |0=>[[]]
 |k+1=>(jb t f n k).flatMap (lA t f n k)
def uG(M E:Bool)(p:cz):Bool:=(p.any (λs=>decide (s%2=0))||!M)&&(p.any (λs=>decide (s%2=1))||!E)
def Kl(G:Gd)(t:Td)(f:Nat):List cz:=(jb t f ((2*G.days).toNat-f) (pi G.tries t).tries.toNat).filter (uG (pi G.tries t).morning (pi G.tries t).evening)
def r9(t:Td)(f n k:Nat)(p:cz):(lA t f n k p).length<=n:=by unfold lA;rw[tF];exact cZ (List.length_filter_le _ _) (by simp)
theorem zE{t:Td}:∀{c:Nat} {p:cz},p∈jb t m k c->p.length=c/\∀s∈p,m<=s/\s<m+k
 |0,p,h=>by
  obtain rfl:p=[]:=by simpa[jb]using h
  exact⟨rfl,λs a=>by cases a⟩
 |c+1,p,h=>by
  simp only[jb,sq]at h;obtain⟨q,b,h⟩:=h;have b:=zE b;simp only[lA,mq,xq,gR]at h;obtain⟨j,⟨d,_⟩,rfl⟩:=h;refine⟨by simp[b.1],λs a=>?_⟩;rcases jH.1 a with a|a;exact b.2 s a;obtain rfl:s=m+j:=by simpa using a
  omega
theorem mc{a c:Type}{g:a->List c}(b:∀x,(g x).length<=m):∀l:List a,(l.flatMap g).length<=l.length*m
 |[]=>by simp
 |x::r=>by have:=mc b r;have:=b x;simp only[mV,jA,eI,Nat.succ_mul];omega
def Fu{t:Td}{f n:Nat}(a:n<=6):∀{k:Nat},k<=3->(jb t f n k).length<=216:=by
 have b:(jb t f n 1).length<=6:=by have:=mc (λp=>r9 t f n 0 p) (jb t f n 0);simp only[jb,eI,fB]at this⊢;omega
 have c:(jb t f n 2).length<=36:=by have:=mc (λp=>r9 t f n 1 p) (jb t f n 1);have e:(jb t f n 2)=(jb t f n 1).flatMap (lA t f n 1):=rfl;rw[e];exact cZ this (Nat.mul_le_mul b a)
 have d:(jb t f n 3).length<=216:=by have:=mc (λp=>r9 t f n 2 p) (jb t f n 2);have e:(jb t f n 3)=(jb t f n 2).flatMap (lA t f n 2):=rfl;rw[e];exact cZ this (Nat.mul_le_mul c a)
 intro k g;obtain rfl|rfl|rfl|rfl:k=0\/k=1\/k=2\/k=3:=by omega
 simp[jb];omega;omega;exact d
def IE{T:Int}{t:Td}(a:0<=T/\T<=3)(b:0<=t.times):1<=(pi T t).tries/\(pi T t).tries<=3:=by unfold pi;simp only;split<;>omega
def gU.at{d:List cz}(h:gU m w x d)(i:k<d.length):∃b c a e,x=.slice (some ⟨b,0,none⟩) d.length c/\w.cell? ⟨b,k,none⟩=some (.slice a d[k].length e)/\fE m w (.slice a d[k].length e) d[k]/\fN w a d[k]/\d[k].length<=e:=by obtain⟨r,⟨s,⟨t,rfl⟩|⟨b,c,v,y,rfl,j,z,A,B,l,C⟩⟩,D,f⟩:=h;omega;obtain⟨u,n,g⟩:=f k i;obtain⟨o,e,rfl,p,q⟩:=g.row;exact⟨b,c,o,e,rfl,cr j (by rw[l k (by omega)];exact n),g,p,q⟩
section
variable{G:Gd}{da:Option Addr}{dc:Nat}{w:cn}
def Ce(ok:G.Ok){l:List Tq}{S:ek}{lc:Nat}(hr:ja w S l)(al:l.length<=100000)(hs:∀q∈l,0<=q.shift/\q.shift<=1000)(d f:Nat)(hf:f<=1000):
 Calls V.prog 142 #[gV G da dc,.slice S l.length lc,.int .i64 d,.int .i64 f] w (fi λv y=>Ext w y/\gU w.heap.size y v (Kl G (qp d qo l) f)):=by
 obtain⟨t,ht⟩:∃t,t=qp d qo l:=⟨_,rfl⟩;have aT:P2 l.length t:=by rw[ht];exact zq d l
 obtain⟨b1,b2,b3⟩:=aT;have bl:=ok.days;have bm:=ok.tries;obtain⟨D2,aU⟩:∃D2,D2=(2*G.days).toNat:=⟨_,rfl⟩;have hD:(D2:Int)=2*G.days:=by omega
 obtain⟨n,hn⟩:∃n,n=D2-f:=⟨_,rfl⟩;have aq:n<=6:=by omega
 have bn:=IE (T:=G.tries) (t:=t) (by omega) b1.1;have aE:∀{w1:cn},Ext w w1->Calls V.prog 141 #[gV G da dc,.slice S l.length lc,i64 d] w1 (fi λv y=>v=.agg (nR d (pi G.tries t)).toArray/\Ext w1 y):=λe=>by rw[ht];exact Ft (by omega) (hr.ext e) al hs d
 have aF:Kl G (qp d qo l) f=(jb t f n (pi G.tries t).tries.toNat).filter (uG (pi G.tries t).morning (pi G.tries t).evening):=by rw[Kl,<-ht,hn,aU]
 rw[aF];have aG:∀{w1:cn},Ext w w1->Calls V.prog 140 #[.slice S l.length lc,i64 d] w1 (fi λv y=>v=.agg (FF t).toArray/\Ext w1 y):=λe=>by rw[ht];exact lQ (hr.ext e) al hs d
 generalize pi G.tries t=u at*;obtain⟨K,hK⟩:∃K:Nat,u.tries=K:=⟨u.tries.toNat,by omega⟩;have aV:u.tries.toNat=K:=by omega
 rw[aV];have aW:K<=3:=by omega
 clear aF ht;refine Fc Tryz.func142 Tryz.ntmps142 (dM.seq dj ?_);refine ej λw1 gb e1 bo hb=>dM.seq dj<|dM.seq dj (dA hb (dG (aE e1) λw2 e2=>eD λw3 ub e3 bi aX=>dq aX λw4 k4 ar=>?_));have ar:w4.heap[ub]? =some (.cells (nR d u).toArray 101):=ar.trans (cT (λa=>some (Obj.cells a 101)) (dC (pm 101).toArray _ rfl));have s1:=e1.size;have s2:=e2.size;have aY:=k4.fe (e3.at_ (e2.at_ hb)) (show¬gb=ub by have:=cP.lt_of_heap hb;omega);have E4:Ext w w4:=((e1.trans e2).trans e3).cC k4 (by omega);refine dM.seq dj (eg [jK] 27 λw5 ab e5 bp aH=>?_);have E5:=E4.trans e5;have s4:=E4.size;have s5:=E5.size
 have aZ:gU w.heap.size w5 (j7 ab 1 1) (jb t f n 0):=⟨[jK],⟨rfl,.inr ⟨ab,1,_,by omega,rfl,aH,rfl,cJ _,by decide,λj _=>by simp,λj hj a0=>by simp at hj a0;omega⟩⟩,rfl,λk hk=>by
  obtain rfl:k=0:=by simpa[jb]using hk
  exact⟨_,rfl,cR.nil _ _ _ _⟩⟩
 refine dM.ij (dM.ij (dM.of dj ?_));refine rX K (λk (v:cq)=>[(1,.slice S l.length lc),(2,i64 d),(3,i64 f),(4,cM gb),(9,jK),(10,cM ub),(11,v),(12,i64 k)]) (λk v y=>Ext w5 y/\gU w.heap.size y v (jb t f n k)) (j7 ab 1 1) ⟨by trivial,Ext.refl _,aZ⟩ ?_;rintro k v6 w6 hk ⟨e6,U⟩;have aI:=(e5.trans e6).at_ ar;have a1:=(e5.trans e6).at_ aY;refine dM.ij (dM.of dj (cu (cr aI rfl) (du ⟨λa2=>?_,λa3=>?_⟩)));have a4:k<K:=by have:=dO a2;omega
 obtain⟨a6,c6,rfl,_,_⟩:=U.row;have am:=Fu (t:=t) (f:=f) aq (show k<=3 by omega);have E6:=E5.trans e6;refine dM.ij (dM.block (dM.seq dj (dM.ij (dM.ij (dM.of dj ?_)))));refine rX (jb t f n k).length (λi v=>[(1,.slice S l.length lc),(2,i64 d),(3,i64 f),(4,cM gb),(9,jK),(10,cM ub),(11,.slice a6 (jb t f n k).length c6),(12,i64 k),(13,v),(14,i64 i)]) (λi v y=>Ext w6 y/\gU w6.heap.size y v (((jb t f n k).take i).flatMap (lA t f n k))) (jK) ⟨by trivial,Ext.refl _,[],cR.nil _ _ _ _,rfl,λk hk=>by simp at hk⟩ ?_;rintro i v7 w7 hi ⟨M,J⟩;refine dM.ij (dM.of dj (cS (du ⟨λW=>?_,λaa=>?_⟩)));have c:i<(jb t f n k).length:=by simpa using W
 obtain⟨p,hp⟩:∃p,p=(jb t f n k)[i]:=⟨_,rfl⟩;have ai:=zE (ef c);rw[<-hp]at ai;have bq:((jb t f n k).take i).flatMap (lA t f n k)=((jb t f n k).take i).flatMap (lA t f n k):=rfl;have a5:(((jb t f n k).take i).flatMap (lA t f n k)).length<=216*6:=by
  have E:=mc (λp=>r9 t f n k p) ((jb t f n k).take i);have o:((jb t f n k).take i).length<=216:=by simp;omega
  exact cZ E (Nat.mul_le_mul o aq)
 have g:((jb t f n k).take (i+1)).flatMap (lA t f n k)=((jb t f n k).take i).flatMap (lA t f n k)++lA t f n k p:=by rw[jc c,List.flatMap_append,<-hp];simp
 generalize hP:((jb t f n k).take i).flatMap (lA t f n k)=P at*;refine dM.ij (dM.block (dM.ij (dM.of dj ?_)));refine rX n (λj v=>[(1,.slice S l.length lc),(2,i64 d),(3,i64 f),(4,cM gb),(9,jK),(10,cM ub),(11,.slice a6 (jb t f n k).length c6),(12,i64 k),(13,v),(14,i64 i),(15,i64 ((f+j:Nat):Int))]) (λj v y=>Ext w6 y/\gU w6.heap.size y v (P++((List.range j).filter λj=>!zD t k p (f+j)).map λj=>p++[f+j])) v7 ⟨by trivial,M,by simpa using J⟩ ?_;rintro j v8 w8 hj ⟨z,N⟩;have a8:=z.at_ a1;refine dM.ij (dM.of dj (cu (cr a8 rfl) (pE (du ⟨λac=>?_,λad=>?_⟩))));have aJ:j<n:=by have:=dO ac;omega
 have br:(((List.range j).filter λj=>!zD t k p (f+j)).map λj=>p++[f+j]).length<=j:=by rw[tF];exact cZ (List.length_filter_le _ _) (by simp)
 have B:((List.range (j+1)).filter λj=>!zD t k p (f+j)).map (λj=>p++[f+j])=(((List.range j).filter λj=>!zD t k p (f+j)).map λj=>p++[f+j])++if zD t k p (f+j)then []else [p++[f+j]]:=by rw[oO,List.filter_append,vB,List.filter_cons];cases zD t k p (f+j)<;>simp
 generalize ((List.range j).filter λj=>!zD t k p (f+j)).map (λj=>p++[f+j])=Q at*;have ae:((f+j:Nat):Int)+1=((f+(j+1):Nat):Int):=by omega
 obtain⟨s,a9⟩:∃s,s=f+j:=⟨_,rfl⟩;rw[<-a9]at B ae⊢;have bs:s<=2000:=by omega
 obtain⟨b6,au,a7,c7,av,x,L,F,aw⟩:=U.at c;rw[<-hp]at x L F aw;obtain⟨rfl,rfl⟩:a6=some (cY b6 0)/\c6=au:=by injection av with E o h3;exact⟨E,h3⟩
 have r:=z.cell x;refine dM.ij (dM.block (dM.ij (dM.ij (dM.mono (Q:=λe l' y=>e=.normal/\Sub [(1,.slice S l.length lc),(2,i64 d),(3,i64 f),(4,cM gb),(9,jK),(10,cM ub),(11,j7 b6 (jb t f n k).length c6),(12,i64 k),(13,v8),(14,i64 i),(15,i64 (s:Int)),(69,.bool (zD t k p s))] l'/\Ext w8 y) ?_ ?_))));rintro e l' R ⟨rfl,hS,I⟩;refine dM.jN hS (dM.of dj ⟨λax=>?_,λax=>?_⟩);rw[ax,cB rfl,List.append_nil]at B;refine dM.of dj (cF ⟨aJ,v8,⟨rfl,rfl,rfl,rfl,rfl,rfl,rfl,rfl,rfl,rfl,cT (λn=>some (Value.int .i64 n)) ae,trivial⟩,z.trans I,?_⟩);rw[B];exact N.ext I;rw[ax,cy Bool.false_ne_true]at B;have aj:=z.trans I;have s6:=e6.size;have ba:=aj.size;refine dM.of dj (eg [] 3 λbb nb H aK af=>fw i c (cu (by rw[cG];exact(I.trans H).cell r) (pL (n0:=R.heap.size) sg af aK (by simp[jy]) (F.ext (aj.trans H)).cells (Ek p) (by omega) λq aL hq hE=>?_)));have an:Ext R aL:=hE R H (cJ _);refine eg [i64 (s:Int)] 3 λbt bu ak bj aM=>gq sg (cR.ext hq ak) (an.trans ak).size aM (by omega) λq' aN g1 g2 g3=>?_;have aO:Ext R aN:=(an.trans ak).ia g2 (cR.ext hq ak) (cJ _);have ao:fE R.heap.size aN q' (p++[s]):=by unfold fE;rw[jA];simpa[jy]using g1
 obtain⟨bc,bd,rfl,_,_⟩:=ao.row;refine eg [.slice bc (p++[s]).length bd] 27 λbv bw aP bk aQ=>?_;have ag:=aO.trans aP;have ap:=(N.ext I).ext ag;refine Fi ap (aj.trans ag).size (fE.low (cR.ext ao aP) ba) aQ (by simp;omega) λv' bx g4 g5 _=>dM.of dj (cF ⟨aJ,v',⟨rfl,rfl,rfl,rfl,rfl,rfl,rfl,rfl,rfl,rfl,cT (λn=>some (Value.int .i64 n)) ae,trivial⟩,(aj.trans ag).yR g5 λb hb=>(ap.blk hb).1,?_⟩);rw[B,<-List.append_assoc];exact g4;have aR:Ext w w8:=E6.trans z;refine dM.of dj (lZ ⟨λh0=>?_,λh0=>?_⟩);have ay:0<k:=by have:=dO h0;omega
 have az:k-1<p.length:=by omega
 obtain⟨b7,o7,rfl,aA⟩:=F (k-1) az;have bz:=ai.2 _ (ef az);have aS:p.getD (k-1) 0=p[k-1]:=getD_eq az;refine kG (n:=2) (by decide) (by omega) (fw i c (cu (by rw[cG];exact r) (fx (fw (k-1) (by omega) (cu (z.cell aA) (kG (n:=2) (by decide) (by omega) (ue ⟨λo=>?_,λo=>?_⟩))) (by omega)))));have o:s/2<=p[k-1]/2:=by have:=dO o;omega
 exact⟨rfl,⟨rfl,rfl,rfl,rfl,rfl,rfl,rfl,rfl,rfl,rfl,rfl,cT (λb=>some (Value.bool b)) (show true=zD t k p s by unfold zD;rw[aS];simp[ay,o]),trivial⟩,Ext.refl _⟩;have o:¬s/2<=p[k-1]/2:=by have:=ee o;omega
 refine kG (n:=2) (by decide) (by omega) (dG (aG aR) λR I=>dS (i64 t.day) (ff ?_));exact⟨rfl,⟨rfl,rfl,rfl,rfl,rfl,rfl,rfl,rfl,rfl,rfl,rfl,cT (λb=>some (Value.bool b)) (show _=zD t k p s by unfold zD;rw[aS];simp[o]),trivial⟩,I⟩;have ay:¬0<k:=by have:=ee h0;omega
 refine lx rfl (kG (n:=2) (by decide) (by omega) (dG (aG aR) λR I=>dS (i64 t.day) (ff ?_)));exact⟨rfl,⟨rfl,rfl,rfl,rfl,rfl,rfl,rfl,rfl,rfl,rfl,rfl,cT (λb=>some (Value.bool b)) (show _=zD t k p s by simp[zD,ay]),trivial⟩,I⟩;obtain rfl:j=n:=by have:=ee ad;omega
 refine dM.of dj (cF ⟨c,v8,by trivial,z,?_⟩);rw[g];exact N;obtain rfl:i=(jb t f n k).length:=by simp at aa;omega
 rw[mW]at J;refine dM.of dj (dM.of dj (cF ⟨a4,v7,by trivial,e6.trans M,J.low (by have:=E6.size;omega)⟩));obtain rfl:k=K:=by have:=ee a3;omega
 obtain⟨a6,c6,rfl,_,_⟩:=U.row;have am:=Fu (t:=t) (f:=f) aq aW;have E6:=E5.trans e6;refine dM.ij (dM.ij (dM.of dj ?_));obtain⟨A,hA⟩:∃A,A=jb t f n k:=⟨_,rfl⟩;have be:∀p∈A,p.length<=3/\∀s∈p,s<=2000:=λp hp=>by rw[hA]at hp;have:=zE hp;refine⟨by omega,λs hs=>by have:=this.2 s hs;omega⟩
 rw[<-hA]at U am⊢;refine rX A.length (λi v=>[(1,.slice S l.length lc),(2,i64 d),(3,i64 f),(4,cM gb),(9,v),(10,cM ub),(11,.slice a6 A.length c6),(16,i64 i)]) (λi v y=>Ext w6 y/\gU w.heap.size y v ((A.take i).filter (uG u.morning u.evening))/\∀b,cH v b->w6.heap.size<=b) (jK) ⟨by trivial,Ext.refl _,⟨[],cR.nil _ _ _ _,rfl,λk hk=>by simp at hk⟩,λb hb=>by obtain⟨_,_,e⟩:=hb;cases e⟩ ?_;rintro i v7 w7 hi ⟨M,J,aB⟩;refine dM.ij (dM.of dj (cS (du ⟨λW=>?_,λaa=>?_⟩)));have c:i<A.length:=by simpa using W
 obtain⟨p,hp⟩:∃p,p=A[i]:=⟨_,rfl⟩;have ai:=be _ (ef c);have g:(A.take (i+1)).filter (uG u.morning u.evening)=(A.take i).filter (uG u.morning u.evening)++if uG u.morning u.evening p then [p]else []:=by rw[jc c,List.filter_append,<-hp,List.filter_cons];simp
 obtain⟨b6,au,a7,c7,av,x,L,F,aw⟩:=U.at c;rw[<-hp]at x L F aw ai;obtain⟨rfl,rfl⟩:a6=some (cY b6 0)/\c6=au:=by injection av with E o h3;exact⟨E,h3⟩
 refine dM.ij (dM.block (dM.seq dj (dM.ij (dM.ij (dM.of dj ?_)))));refine rX p.length (λj (_:Unit)=>[(1,.slice S l.length lc),(2,i64 d),(3,i64 f),(4,cM gb),(9,v7),(10,cM ub),(11,j7 b6 A.length c6),(16,i64 i),(17,.bool ((p.take j).any λs=>decide (s%2=0))),(18,.bool ((p.take j).any λs=>decide (s%2=1))),(19,i64 j)]) (λj _ y=>Ext w7 y) () ⟨by trivial,Ext.refl _⟩ ?_;rintro j _ w8 hj z;have r:=(M.trans z).cell x;refine dM.ij (dM.of dj (fw i c (cu (by rw[cG];exact r) (cS (du ⟨λac=>?_,λad=>?_⟩)))));have C:j<p.length:=by simpa using ac
 obtain⟨b7,o7,rfl,aA⟩:=F j C;have ah:=(M.trans z).cell aA;have bf:(p.take (j+1)).any (λs=>decide (s%2=0))=((p.take j).any (λs=>decide (s%2=0))||decide (p[j]%2=0)):=by rw[jc C,List.any_append];simp
 have bg:(p.take (j+1)).any (λs=>decide (s%2=1))=((p.take j).any (λs=>decide (s%2=1))||decide (p[j]%2=1)):=by rw[jc C,List.any_append];simp
 generalize (p.take j).any (λs=>decide (s%2=0))=X at*;generalize (p.take j).any (λs=>decide (s%2=1))=Y at*;have d1:decide (((p[j]%2:Nat):Int)=0)=decide (p[j]%2=0):=by congr 1;exact propext (by omega)
 have d2:decide (((p[j]%2:Nat):Int)=1)=decide (p[j]%2=1):=by congr 1;exact propext (by omega)
 have D:∀{a b:Bool},a=(X||decide (p[j]%2=0))->b=(Y||decide (p[j]%2=1))->some (Value.bool a)=some (.bool ((p.take (j+1)).any λs=>decide (s%2=0)))/\some (Value.bool b)=some (.bool ((p.take (j+1)).any λs=>decide (s%2=1))):=λE o=>by rw[bf,bg,E,o];exact⟨rfl,rfl⟩
 have aC:w8.cell? (cY b6 (0+i))=some (Uz b7 o7 p.length c7):=by rw[cG];exact r
 refine dM.ij (dM.block (cX cV ?_));refine⟨λE=>⟨λo=>?_,λo=>?_⟩,λE=>?_⟩;obtain⟨f1,f2⟩:=D (a:=true) (b:=true) (by rw[E];rfl) (by rw[o];rfl);exactλR I=>dM.of dj (cF ⟨C,(),⟨rfl,rfl,rfl,rfl,rfl,rfl,rfl,rfl,f1,f2,rfl,trivial⟩,z.trans I⟩);obtain⟨f1,f2⟩:=D (a:=true) (b:=decide (((p[j]%2:Nat):Int)=1)) (by rw[E];rfl) (by rw[o,d2];rfl);exact iK i c (cK aC (iK j C (cK ah (.exact _ (λw _=>rl (m:=p[j]) (n:=2) (by decide) qm) (.exact _ (λw _=>ff qm) λR I=>dM.of dj (cF ⟨C,(),⟨rfl,rfl,rfl,rfl,rfl,rfl,rfl,rfl,f1,f2,rfl,trivial⟩,z.trans I⟩))))));refine iK i c (cK aC (iK j C (cK ah (.exact _ (λw _=>rl (m:=p[j]) (n:=2) (by decide) qm) (.exact _ (λw _=>ff qm) ⟨λo=>?_,λo=>?_⟩)))));obtain⟨f1,f2⟩:=D (a:=decide (((p[j]%2:Nat):Int)=0)) (b:=true) (by rw[E,d1];rfl) (by rw[o];rfl);exactλR I=>dM.of dj (cF ⟨C,(),⟨rfl,rfl,rfl,rfl,rfl,rfl,rfl,rfl,f1,f2,rfl,trivial⟩,z.trans I⟩);obtain⟨f1,f2⟩:=D (a:=decide (((p[j]%2:Nat):Int)=0)) (b:=decide (((p[j]%2:Nat):Int)=1)) (by rw[E,d1];rfl) (by rw[o,d2];rfl);exact iK i c (cK aC (iK j C (cK ah (.exact _ (λw _=>rl (m:=p[j]) (n:=2) (by decide) qm) (.exact _ (λw _=>ff qm) λR I=>dM.of dj (cF ⟨C,(),⟨rfl,rfl,rfl,rfl,rfl,rfl,rfl,rfl,f1,f2,rfl,trivial⟩,z.trans I⟩))))));obtain rfl:j=p.length:=by simp at ad;omega
 rw[mW];obtain⟨X,hX⟩:∃X,X=p.any λs=>decide (s%2=0):=⟨_,rfl⟩;obtain⟨Y,hY⟩:∃Y,Y=p.any λs=>decide (s%2=1):=⟨_,rfl⟩;have O:uG u.morning u.evening p=((X||!u.morning)&&(Y||!u.evening)):=by rw[uG,<-hX,<-hY]
 rw[<-hX,<-hY];have aD:=(M.trans z).at_ aI;obtain⟨Z,hZ⟩:∃Z,Z=uG u.morning u.evening p:=⟨_,rfl⟩;rw[<-hZ]at O g;refine dM.ij (dM.mono (Q:=λe l' y=>e=.normal/\Sub [(1,.slice S l.length lc),(2,i64 d),(3,i64 f),(4,cM gb),(9,v7),(10,cM ub),(11,j7 b6 A.length c6),(16,i64 i),(135,.bool Z)] l'/\y=w8) ?_ ?_);rintro e l' R ⟨rfl,hS,rfl⟩;have bA:=z;have E8:=E6.trans (M.trans z);have N:=J.ext z;have bh:((A.take i).filter (uG u.morning u.evening)).length<=216:=cZ (List.length_filter_le _ _) (by simp;omega);refine dM.jN hS (dM.of dj ⟨λhz=>?_,λhz=>?_⟩);rw[hz,cB rfl]at g;refine fw i c (cu (by rw[cG];exact(M.trans z).cell x) (eg [.slice a7 p.length c7] 27 λbb nb H aK af=>Fi (N.ext H) (E8.trans H).size ((cR.ext L ((M.trans z).trans H))) af (by omega) λv' aL g1 g2 g3=>?_));refine dM.of dj (cF ⟨c,v',by trivial,((M.trans z).trans H).yR g2 aB,by rw[g];exact g1,λb hb=>?_⟩);rcases g3 b hb with h|h;exact aB b h;exact cZ ((M.trans z).trans H).size h;rw[hz,cy Bool.false_ne_true,List.append_nil]at g;exact dM.of dj (cF ⟨c,v7,by trivial,M.trans z,by rw[g];exact N,aB⟩);refine rF.start (rF.Nv 14 dj ?_);have D:∀{b:Bool},b=Z->some (Value.bool b)=some (.bool Z):=λh=>by rw[h]
 refine⟨λE=>⟨λo=>?_,λo=>cu (cr aD rfl) (ei ?_)⟩,λE=>cu (cr aD rfl) (ei ⟨λh3=>⟨λo=>?_,λo=>cu (cr aD rfl) (ei ?_)⟩,λh3=>?_⟩)⟩;exact rF.fin ⟨rfl,⟨rfl,rfl,rfl,rfl,rfl,rfl,rfl,rfl,D (by rw[O,E,o];rfl),trivial⟩,rfl⟩;exact rF.fin ⟨rfl,⟨rfl,rfl,rfl,rfl,rfl,rfl,rfl,rfl,D (by rw[O,E,o];simp),trivial⟩,rfl⟩;exact rF.fin ⟨rfl,⟨rfl,rfl,rfl,rfl,rfl,rfl,rfl,rfl,D (by rw[O,E,o,h3];rfl),trivial⟩,rfl⟩;exact rF.fin ⟨rfl,⟨rfl,rfl,rfl,rfl,rfl,rfl,rfl,rfl,D (by rw[O,E,o,h3];simp),trivial⟩,rfl⟩;exact rF.fin ⟨rfl,⟨rfl,rfl,rfl,rfl,rfl,rfl,rfl,rfl,D (by rw[O,E,h3];rfl),trivial⟩,rfl⟩;obtain rfl:i=A.length:=by simp at aa;omega
 rw[mW]at J;exact dM.of dj ⟨_,rfl,E6.trans M,J⟩
end
def Fv{x:Sx}{t:Td}(h:oI I x t)(k:0<=t.mornings/\0<=t.evenings)(a:eZ H.tries x=false):pi H.tries t=fT H x:=by
 have b:=h.tries;have c:=h.mornings;have d:=h.evenings;have e:qn H x=(decide (1<H.tries)&&decide (t.mornings=0)):=by unfold qn;rw[c];congr 1;
 have f:si H x=(decide (1<H.tries)&&decide (t.evenings=0)):=by unfold si;rw[d];congr 1;
 have l:H.tries<=t.times->1<H.tries/\(t.mornings=0\/t.evenings=0):=λm=>by unfold eZ at a;rw[b,c,d]at a;simp only[Bool.or_eq_false_iff,Bool.and_eq_false_iff,decide_eq_false_iff_not]at a;omega
 unfold pi fT BV;rw[e,f,b];congr 1;generalize g:decide (1<H.tries)=B;generalize i:decide (t.mornings=0)=M;generalize j:decide (t.evenings=0)=E;have:B=true↔1<H.tries:=by rw[<-g];simp
 have:M=true↔t.mornings=0:=by rw[<-i];simp
 have:E=true↔t.evenings=0:=by rw[<-j];simp
 cases B<;>cases M<;>cases E<;>simp_all[FE]<;>omega
def IF(t:Td)(f n:Nat):Nat->Nat->List cz->List cz
 |0,_,a=>a
 |c+1,k,a=>IF t f n c (k+1) (a.flatMap (lA t f n k))
theorem zF(t:Td)(f n:Nat):∀(c k:Nat) (a:List cz),IF t f n c k a=a.flatMap λp=>IF t f n c k [p]
 |0,k,a=>by simp[IF]
 |c+1,k,a=>by simp only[IF];rw[zF t f n c (k+1) (a.flatMap _),List.flatMap_assoc];congr 1;funext p;rw[zF t f n c (k+1) ([p].flatMap _)];simp
theorem Fw(t:Td)(f n:Nat):∀(c k:Nat) (a:List cz),IF t f n (c+1) k a=(IF t f n c k a).flatMap (lA t f n (k+c))
 |0,k,a=>rfl
 |c+1,k,a=>by have:=Fw t f n c (k+1) (a.flatMap (lA t f n k));rw[show k+1+c=k+(c+1) by omega]at this;exact this
theorem IG(t:Td)(f n:Nat):∀k,jb t f n k=IF t f n k 0 [[]]
 |0=>rfl
 |k+1=>by rw[Fw,<-IG t f n k,cG];rfl
def Hg{e:Type}{L f sh:Nat}(g:Nat->List e)(n:f<=sh)(h:∀s,f<=s->s<sh->s<L->g s=[]):(List.range (L-f)).flatMap (λj=>g (f+j))=(List.range (L-sh)).flatMap λi=>g (sh+i):=by
 have b:∀(a m:Nat),(List.range m).flatMap (λj=>g (a+j))=(List.range' a m).flatMap g:=λa m=>by rw[List.range'_eq_map_range,List.flatMap_map]
 rw[b,b];have nil:∀(a m:Nat),(∀s,a<=s->s<a+m->g s=[])->(List.range' a m).flatMap g=[]:=λa m h=>by rw[List.flatMap_eq_nil_iff];intro s c;rw[List.mem_range'_1]at c;exact h s c.1 c.2
 rcases Nat.le_total sh L with k|k;rw[show L-f=(sh-f)+(L-sh) by omega,<-List.range'_append_1,List.flatMap_append,show f+(sh-f)=sh by omega,nil f (sh-f) λs d l=>h s d (by omega) (by omega),sr];rw[show L-sh=0 by omega,nil f (L-f) λs d l=>h s d (by omega) (by omega)];rfl
theorem uH{x:Sx}{t:Td}(A:oI I x t)(q:eS H<=6)(D:I<=m)(u:Du)(E:u.tries=k):∀(c a:Nat),a+c=k->∀(b:Nat) (p:cz) (sh:Nat),c<b->p.length=a->m<=sh->(a=0->sh=m)->(0<a->p.getD (a-1) 0+1=sh)->kh (eS H) x u b p sh=(IF t m (eS H-m) c a [p]).filter (uG u.morning u.evening)
 |0,a,v,b+1,p,sh,_,f,g,B,w=>by rw[kh,cB (by omega)];simp only[IF,List.filter_cons,List.filter_nil];rfl
 |c+1,a,v,b+1,p,sh,F,f,g,B,w=>by
  rw[kh,cy (by omega)];have G:=uH A q D u E c (a+1) (by omega)
  have d:(IF t m (eS H-m) (c+1) a [p]).filter (uG u.morning u.evening)=(List.range (eS H-m)).flatMap λj=>(λs=>if zD t a p s then []else(IF t m (eS H-m) c (a+1) [p++[s]]).filter (uG u.morning u.evening)) (m+j):=by
   simp only[IF];rw[zF];simp only[mV,List.flatMap_nil,List.append_nil,lA];rw[List.flatMap_map,List.filter_flatMap];generalize List.range (eS H-m)=l;induction l with
   |nil=>rfl
   |cons j r n=>
    rw[List.filter_cons,mV];cases y:zD t a p (m+j)with
    |true=>simpa[y]using n
    |false=>simp[y,n]
  rw[d];refine Eq.trans ?_ (Hg (sh:=sh) (λs=>if zD t a p s then []else(IF t m (eS H-m) c (a+1) [p++[s]]).filter (uG u.morning u.evening)) g λs K L M=>?_).symm;rw[List.flatMap_def,List.flatMap_def];refine cT List.flatten (List.map_congr_left λi C=>?_);have C:=gR.1 C;have z:o9 x p (sh+i)=zD t a p (sh+i):=by
   have J:nO x ((sh+i)/2)=decide ((((sh+i)/2:Nat):Int)=t.day):=by have:=A.day (sh+i) (by omega) (by omega);rw[Bool.eq_iff_iff,this,iQ];exact eq_comm
   unfold o9 zD;rw[J,f,Bool.or_comm];congr 1;by_cases o:0<a;have e:p.getLast?.getD 0=p.getD (a-1) 0:=by rw[List.getLast?_eq_getElem?,jG,f]
   rw[e];have:=w o;congr 1;rw[decide_eq_decide];omega;simp[o]
  rw[z];cases y:zD t a p (sh+i)with
  |true=>rfl
  |false=>
   simp only[ik,eF];exact G b (p++[sh+i]) (sh+i+1) (by omega) (by simp[f]) (by omega) (λh=>by omega) λ_=>by simp[<-f,jG]
  have o:0<a:=by rcases mY a with h|h;have:=B h;omega;exact h
  have:=w o;have:zD t a p s=true:=by
   unfold zD;have:s/2<=p.getD (a-1) 0/2:=by omega
   rw[decide_eq_true o,decide_eq_true this];rfl
  simp only[this,dF]
def Hh(c:H.Ok){x:Sx}{t:Td}(d:oI I x t)(g:0<=t.mornings/\0<=t.evenings)(i:0<=t.times)(j:eZ H.tries x=false)(k:I<=m):Kl H t m=fX H x m:=by
 have l:=c.days;have n:=c.tries;have e:=Fv d g j;have a:=IE (T:=H.tries) (t:=t) (by omega) i;have b:(pi H.tries t).tries<=max 1 H.tries:=by unfold pi;simp only;split;rename_i h;simp at h;omega;omega
 rw[e]at a b;unfold Kl fX;rw[e];obtain⟨K,f⟩:∃K:Nat,(fT H x).tries=K:=⟨(fT H x).tries.toNat,by omega⟩;rw[f,mT];rw[uH d (by unfold eS;omega) k (fT H x) f K 0 (by omega) _ [] m (by unfold eS;omega) rfl (cJ _) (λ_=>rfl) (λh=>by omega),IG];rfl
structure TY(G:Gd)(l:List Tq):Prop where
 g:dK G=0
 sh:∀q∈l,0<=q.shift/\q.shift<=1000
 len:(fQ G l).2.length=G.doors.length
 both:∀d:Nat,d<G.doors.length->oI (dZ l) ((fQ G l).2.getD d lM) (qp d qo l)
theorem Fx{G:Gd}(x:G.days<=3):∀(l a:List Tq) (b:List Sx),b.length=G.doors.length->(∀d:Nat,d<G.doors.length->oI (dZ a) (b.getD d lM) (qp d qo a))->(nH G b (dZ a) l).1=0->(∀q∈l,0<=q.shift/\q.shift<=1000)/\(nH G b (dZ a) l).2.length=G.doors.length/\∀d:Nat,d<G.doors.length->oI (dZ (a++l)) ((nH G b (dZ a) l).2.getD d lM) (qp d qo (a++l))
 |[],a,b,g,f,_=>⟨λq y=>by simp at y,g,by rw[List.append_nil];exact f⟩
 |q::r,a,b,g,f,h=>by
  simp only[nH]at h⊢;by_cases i:(kP q.door 0 ((G.doors.kq:Int)-1)&&kP q.shift 0 (2*G.days-1))=true;rw[cB i]at h⊢;simp only[kP,dW,iQ]at i;obtain⟨d,j⟩:∃d:Nat,q.door=(d:Int):=⟨q.door.toNat,by omega⟩;obtain⟨s,p⟩:∃s:Nat,q.shift=(s:Int):=⟨q.shift.toNat,by omega⟩;have k:d<G.doors.kq:=by omega
  have m:s<6:=by omega
  have z:=f d k;by_cases t:q.shift<dZ a;rw[cB t]at h;cases h;rw[cy t]at h⊢;have A:q.shift.toNat=s:=by omega
  have n:q.door.toNat=d:=by omega
  rw[A,n]at h⊢;by_cases u:nO (b.getD d lM) (s/2)=true;rw[cB u]at h;cases h;rw[cy u]at h⊢;by_cases v:eZ G.tries (b.getD d lM)=true;rw[cB v]at h;cases h;rw[cy v]at h⊢;have e:q.shift=dZ (a++[q]):=(mK a q).symm;rw[e]at h⊢;have:=Fx x r (a++[q]) _ (by simpa using g) (λw o=>?_) h;rw[List.append_assoc]at this;refine⟨λB c=>?_,this.2⟩;rcases eO.1 c with rfl|c;omega;exact this.1 B c;rw[mK,uB,p];by_cases C:w=d;subst C;rw[cB j,jG,List.getElem?_set_self (by omega)];exact z.step q s p m (by omega);rw[cy (by omega),jG,List.getElem?_set_ne (by omega),<-jG];exact(f w o).mono (by omega);rw[cy i]at h;cases h
def pj{G:Gd}{l:List Tq}(h:jQ G l=0):TY G l:=by
 have a:dK G=0:=by unfold jQ at h;by_cases b:dK G=0;exact b;rw[cy b]at h;exact absurd h b
 have c:(fQ G l).1=0:=by unfold jQ at h;rwa[cB a]at h
 have:=Fx (eQ a).days.2 l [] _ (by simp) (λd e=>by rw[jG,List.getElem?_replicate,cB e];exact oI.zero) c;exact⟨a,this.1,this.2.1,this.2.2⟩
def A7(b:Nat)(a:Int)(l:cz)(v:cq)(w:cn):Prop:=(a≠0/\v=.tuple #[.slice none 0 0,.int .i64 a])\/(a=0/\∃u,v=.tuple #[u,.int .i64 0]/\fE b w u l)
section
variable{G:Gd}{da:Option Addr}{dc:Nat}{w:cn}{l:List Tq}{la:Option Addr}{lc:Nat}
def Km(e:fZ w da G.doors)(f:G.doors.length<=100000)(C:ja w la l)(i:l.length<=100000)(r:l.length<=lc):
 Calls V.prog 79 #[gV G da dc,.slice la l.length lc] w (fi λv j=>Ext w j/\A7 w.heap.size (jQ G l) (lh G.tries (fQ G l).2 G.doors.length) v j):=by
 refine gd Tryz.func79 Tryz.ntmps79 ?_;refine ej λT K s M D=>dA D (dG (uE (dc:=dc) (e.ext s) f (C.ext s) i r) λE F=>?_);rw[xm];have t:=s.trans F;refine fD ⟨λh=>⟨_,rfl,t,.inl ⟨dO h,rfl⟩⟩,λh=>?_⟩;have H:jQ G l=0:=by simpa using ee h
 have L:=pj H;have N:=eQ L.g;have U:=N.many;have u:=F.at_ D;obtain⟨c,x⟩:∃c,c=(fQ G l).2:=⟨_,rfl⟩;have I:=L.both;rw[<-x]at I⊢;refine fW G.doors.length (λk v=>[(1,.slice la l.length lc),(2,cM K),(7,v),(8,i64 k)]) (λk v j=>Ext E j/\fE E.heap.size j v (lh G.tries c k)) (.slice none 0 0) ⟨by trivial,Ext.refl _,cR.nil _ _ _ _⟩ ?_;rintro k v W X ⟨m,p⟩;have n:=m.at_ u;have J:=t.trans m;refine cu (cr n rfl) (cS (du ⟨λy=>?_,λz=>?_⟩));have d:k<G.doors.length:=by simpa using y
 have O:=tA G.tries c k;have o:B9 G.tries (qp k qo l)=eZ G.tries (c.getD k lM):=((I k d).met G.tries).symm;have b:lh G.tries c (k+1)=lh G.tries c k++if eZ G.tries (c.getD k lM)then [k]else []:=by simp only[lh,oO,List.filter_append,List.filter_cons,List.filter_nil]
 refine cX cV (dx (gV G da dc) (λA a=>dA (a.at_ n) ⟨rfl,Ext.refl _⟩) (fh _ (λA a=>lQ (C.ext (J.trans a)) i L.sh k) (fh _ (λA a=>uC (qp k qo l)) λA a=>?_)));rw[o];refine⟨λe=>?_,λe=>?_⟩;rw[e,cB rfl]at b;refine eg [i64 k] 3 λY Z q P B=>gq sg (cR.ext p (a.trans q)) ((m.trans a).trans q).size B (by omega) λQ w6 R S _=>cF ⟨d,Q,by trivial,((m.trans a).trans q).ia S (cR.ext p (a.trans q)) (cJ _),?_⟩;rw[b];unfold fE;rw[jA];simpa[jy]using R;rw[e,cy Bool.false_ne_true,List.append_nil]at b;exact cF ⟨d,v,by trivial,m.trans a,by rw[b];exact p.ext a⟩;obtain rfl:k=G.doors.length:=by simp at z;omega
 exact⟨_,rfl,J,.inr ⟨H,v,rfl,fE.low p t.size⟩⟩
end
def P7(c:Nat)(a:Int)(G:Gd)(b:List Sx)(v:cq)(w:cn):Prop:=(a≠0/\v=.tuple #[.slice none 0 0,.int .i64 a])\/(a=0/\∃u,v=.tuple #[u,.int .i64 0]/\sL c w u G b (dn G.tries b))
section
variable{G:Gd}{da:Option Addr}{dc:Nat}{w:cn}{l:List Tq}{la:Option Addr}{lc:Nat}
def Ko(T:fZ w da G.doors)(m:G.doors.length<=100000)(z:ja w la l)(f:l.length<=100000)(A:l.length<=lc):
 Calls V.prog 82 #[gV G da dc,.slice la l.length lc] w (fi λv n=>Ext w n/\P7 w.heap.size (jQ G l) G (fQ G l).2 v n):=by
 refine gd Tryz.func82 Tryz.ntmps82 ?_;refine ej λw1 U B W N=>dA N (dG (uE (dc:=dc) (T.ext B) m (z.ext B) f A) λO P=>?_);rw[xm];have C:=B.trans P;refine fD ⟨λh=>⟨_,rfl,C,.inl ⟨dO h,rfl⟩⟩,λh=>?_⟩;have Q:jQ G l=0:=by simpa using ee h
 have L:=pj Q;have D:=eQ L.g;have hm:=D.many;have X:=D.tries;have Y:=D.days;have E:=P.at_ N;obtain⟨b,F⟩:∃b,b=(fQ G l).2:=⟨_,rfl⟩;have R:=L.both;have S:=L.len;rw[<-F]at R S⊢;refine fW G.doors.length (λk v=>[(1,.slice la l.length lc),(2,cM U),(7,v),(8,i64 k)]) (λk v n=>Ext O n/\sL O.heap.size n v G b (gQ G.tries b k)) (.slice none 0 0) ⟨by trivial,Ext.refl _,cR.nil _ _ _ _⟩ ?_;rintro k v w3 hk ⟨o,p⟩;have i:=o.at_ E;have H:=C.trans o;refine cu (cr i rfl) (cS (du ⟨λI=>?_,λJ=>?_⟩));have j:k<G.doors.length:=by simpa using I
 have Z:=pJ G.tries b k;have q:k<b.length:=by omega
 have r:b.getD k lM=b[k]:=getD_eq q;have K:=R k j;rw[r]at K;have s:B9 G.tries (qp k qo l)=eZ G.tries b[k]:=(K.met G.tries).symm;have d:=n9 G.tries b k q;have t:=zq k l;refine cX cV (dx (gV G da dc) (λx c=>dA (c.at_ i) ⟨rfl,Ext.refl _⟩) (fh _ (λx c=>lQ (z.ext (H.trans c)) f L.sh k) (fh _ (λx c=>uC (qp k qo l)) (kF λx c=>?_))));rw[s];refine⟨λa=>?_,λa=>?_⟩;have a:eZ G.tries b[k]=false:=by simpa using a
 rw[a,cy Bool.false_ne_true]at d;have u:=Fv K ⟨t.2.1.1,t.2.2.1⟩ a;refine dA (c.at_ i) (dG (Ft (dc:=dc) (w:=x) (G:=G) (by omega) (z.ext (H.trans c)) f L.sh k) λw5 e5=>?_);rw[u];have e:=c.trans e5;refine eg (nR k (fT G b[k])) 101 λw6 nb y aa M=>gq TU (cR.ext p (e.trans y)) ((o.trans e).trans y).size M (by omega) λv' w7 g1 g2 _=>cF ⟨j,v',by trivial,((o.trans e).trans y).ia g2 (cR.ext p (e.trans y)) (cJ _),?_⟩;rw[d];unfold sL;rw[jA];simpa only[zC,List.flatMap_append,mV,List.flatMap_nil,List.append_nil,r,eI,fB,cG]using g1;have a:eZ G.tries b[k]=true:=by simpa using a
 rw[a,cB rfl]at d;exact cF ⟨j,v,by trivial,o.trans c,by rw[d];exact cR.ext p c⟩;obtain rfl:k=G.doors.length:=by simp at J;omega
 rw[show gQ G.tries b G.doors.length=dn G.tries b by rw[dn,S]]at p;exact⟨_,rfl,H,.inr ⟨Q,v,rfl,cR.low p C.size⟩⟩
end
variable{G:Gd}{da:Option Addr}{dc:Nat}{w:cn}
def qk{l:List Tq}(h:dP G l I J=0):dK G=0/\jQ G l=0:=by
 have a:jQ G l=0:=by unfold dP at h;by_cases a:jQ G l=0;exact a;rw[cy a]at h;exact absurd h a
 refine⟨?_,a⟩;unfold jQ at a;by_cases b:dK G=0;exact b;rw[cy b]at a;exact absurd a b
def Kp(G:Gd){d:Nat}(a:d<5):nG G (io [d])=decide (iU G [d]<=G.minutes):=by rw[TV G a];unfold MK;by_cases h:iU G [d]<=G.minutes;simp[h];simp only[h,eF];split<;>simp
section
variable{G:Gd}{da:Option Addr}{dc:Nat}{w:cn}{l:List Tq}{la:Option Addr}{lc:Nat}
def Kq(Y:fZ w da G.doors)(P:G.doors.length<=100000)(hr:ja w la l)(H:l.length<=100000)(aa:l.length<=lc)(n:Int):
 Calls V.prog 83 #[gV G da dc,.slice la l.length lc,.int .i64 n] w (fi λv Q=>Ext w Q/\A7 w.heap.size (dP G l n 0) (A1 G (fQ G l).2 n.toNat) v Q):=by
 refine gd Tryz.func83 Tryz.ntmps83 ?_;refine ej λD gb z aj hb=>dA hb (dG (Fo (dc:=dc) (Y.ext z) P (hr.ext z) H aa n) λZ e2=>?_);have E2:=z.trans e2;refine fD ⟨λh=>⟨_,rfl,E2,.inl ⟨dO h,rfl⟩⟩,λh=>?_⟩;have y:dP G l n 0=0:=by simpa using ee h
 have hE:=(qk y).2;have L:=pj hE;have M:=eQ L.g;have hm:=M.many;have ak:=M.tries;have al:=M.days;have ab:=e2.at_ hb;obtain⟨f,rfl,ac,am⟩:=ko M y;rw[mT];have ad:f<=1000:=by unfold eS at ac;omega
 obtain⟨i,ae⟩:∃i,i=(fQ G l).2:=⟨_,rfl⟩;have Lb:=L.both;have Ll:=L.len;rw[<-ae]at Lb Ll⊢;have af:dZ l<=f:=by unfold dP rm at y;rw[cB hE]at y;by_cases A:kP (f:Int) 0 (2*G.days-1)=true;rw[cB A]at y;by_cases I:(f:Int)<dZ l;rw[cB I]at y;cases y;omega;rw[cy A]at y;cases y
 refine fW G.doors.length (λk v=>[(1,.slice la l.length lc),(2,i64 f),(3,cM gb),(9,v),(10,i64 k)]) (λk v Q=>Ext Z Q/\fE Z.heap.size Q v ((gQ G.tries i k).filter (gP G i f))) (.slice none 0 0) ⟨by trivial,Ext.refl _,cR.nil _ _ _ _⟩ ?_;rintro k v w3 hk ⟨E,F⟩;have r:=E.at_ ab;have E3:=E2.trans E;refine cu (cr r rfl) (cS (du ⟨λag=>?_,λah=>?_⟩));have s:k<G.doors.length:=by simpa using ag
 have an:((gQ G.tries i k).filter (gP G i f)).length<=k:=cZ (List.length_filter_le _ _) (pJ G.tries i k);have R:k<i.length:=by omega
 have S:i.getD k lM=i[k]:=getD_eq R;have hB:=Lb k s;rw[S]at hB;have T:B9 G.tries (qp k qo l)=eZ G.tries i[k]:=(hB.met G.tries).symm;have q:=n9 G.tries i k R;have J:=zq k l;have U:∀{B},Ext w3 B->(gQ G.tries i (k+1)).filter (gP G i f)=(gQ G.tries i k).filter (gP G i f)++[k]->∀{N w6},cR Z.heap.size 3 [i64 0] w6 N (((gQ G.tries i k).filter (gP G i f)).length+1) (jy ((gQ G.tries i k).filter (gP G i f))++[i64 k])->fE Z.heap.size w6 N ((gQ G.tries i (k+1)).filter (gP G i f)):=λm h _ _ W=>by rw[h];unfold fE;rw[jA];simpa[jy]using W
 refine cX cV (dx (gV G da dc) (λB m=>dA (m.at_ r) ⟨rfl,Ext.refl _⟩) (fh _ (λB m=>lQ (hr.ext (E3.trans m)) H L.sh k) (fh _ (λB m=>uC (qp k qo l)) (kF ?_))));rw[T];refine⟨λo=>?_,λo=>?_⟩;have o:eZ G.tries i[k]=false:=by simpa using o
 rw[o,cy Bool.false_ne_true]at q;have ai:Kl G (qp k qo l) f=fX G i[k] f:=Hh M hB ⟨J.2.1.1,J.2.2.1⟩ J.1.1 o af;have K:gP G i f k=(decide ((fX G i[k] f).length=0)||decide (G.minutes<iU G [k])):=by unfold gP;rw[S,Kp G (by omega)];congr 1;cases fX G i[k] f<;>simp;by_cases h:iU G [k]<=G.minutes;simp[h];simp[h];omega
 refine .exact (gV G da dc) (λB m=>dA (m.at_ r) ⟨rfl,Ext.refl _⟩) ?_;refine .rel (λu D=>∃a c,u=.slice a (fX G i[k] f).length c) (λu a b h _=>h) (λD z=>?_) ?_;refine cD (Ce (dc:=dc) M (hr.ext (E3.trans z)) H L.sh k f ad) ?_;rintro u w5 ⟨p,O⟩;rw[ai]at O;obtain⟨a,c,rfl,_⟩:=O.row;exact⟨⟨a,c,rfl⟩,p⟩;refine .exact (i64 (fX G i[k] f).length) (λD z u O=>?_) ?_;obtain⟨a,c,rfl⟩:=O;exact cS ⟨rfl,Ext.refl _⟩;have d0:decide (((fX G i[k] f).length:Int)=0)=decide ((fX G i[k] f).length=0):=by congr 1;exact propext (by omega)
 refine Ed ⟨λA=>?_,λA=>?_⟩;rintro B m _ _;have X:(gQ G.tries i (k+1)).filter (gP G i f)=(gQ G.tries i k).filter (gP G i f)++[k]:=by rw[q,List.filter_append,List.filter_cons,List.filter_nil,K,<-d0,A];rfl
 exact jZ rfl (eg [i64 k] 3 λw5 t p C x=>gq sg (cR.ext F (m.trans p)) ((E.trans m).trans p).size x (by omega) λN w6 W g2 _=>cF ⟨s,N,by trivial,((E.trans m).trans p).ia g2 (cR.ext F (m.trans p)) (cJ _),U m X W⟩)
 ·refine .exact (gV G da dc) (λB m=>dA (m.at_ r) ⟨rfl,Ext.refl _⟩) ?_;refine .rel (λu D=>∃t,u=.slice (some ⟨t,0,none⟩) 1 1/\D.heap[t]? =some (.cells [Value.int .i64 k].toArray 3)) (λu a b ⟨t,A,I⟩ e=>⟨t,A,e.at_ I⟩) (λD z=>eg [i64 k] 3 λw5 t p C x=>⟨⟨t,rfl,x⟩,p⟩) ?_;refine .exact (.agg (Fs (iG G [k]) (iU G [k])).toArray) (λD z u O=>?_) ?_;obtain⟨t,rfl,C⟩:=O;refine cD (Hf (dc:=dc) (l:=[k]) (la:=some ⟨t,0,none⟩) (lc:=1) L.g (Y.ext (E3.trans z)) (λj hj=>?_) (λd Y=>by simp at Y;omega) (by simp)) ?_;obtain rfl:j=0:=by simpa using hj
  exact⟨t,0,rfl,cr C rfl⟩;rintro u w5 ⟨rfl,p⟩;exact⟨rfl,p⟩;refine .exact (i64 (iU G [k])) (λD _=>dS _ ⟨rfl,Ext.refl _⟩) (cK (cr r rfl) (yA ?_));rintro B m;repeat intro _
  refine⟨λI=>?_,λI=>?_⟩;have X:(gQ G.tries i (k+1)).filter (gP G i f)=(gQ G.tries i k).filter (gP G i f)++[k]:=by rw[q,List.filter_append,List.filter_cons,List.filter_nil,K,<-d0,A,I];rfl
  exact eg [i64 k] 3 λw5 t p C x=>gq sg (cR.ext F (m.trans p)) ((E.trans m).trans p).size x (by omega) λN w6 W g2 _=>cF ⟨s,N,by trivial,((E.trans m).trans p).ia g2 (cR.ext F (m.trans p)) (cJ _),U m X W⟩;have X:(gQ G.tries i (k+1)).filter (gP G i f)=(gQ G.tries i k).filter (gP G i f):=by rw[q,List.filter_append,List.filter_cons,List.filter_nil,K,<-d0,A,I];simp
  exact cF ⟨s,v,by trivial,E.trans m,by rw[X];exact F.ext m⟩
 have o:eZ G.tries i[k]=true:=by simpa using o
 rw[o,cB rfl]at q;intro B m;exact lx rfl (cF ⟨s,v,by trivial,E.trans m,by rw[q];exact F.ext m⟩);obtain rfl:k=G.doors.length:=by simp at ah;omega
 rw[show gQ G.tries i G.doors.length=dn G.tries i by rw[dn,Ll]]at F;exact⟨_,rfl,E3,.inr ⟨y,v,rfl,fE.low F E2.size⟩⟩
end
section
variable{G:Gd}{da:Option Addr}{dc:Nat}{w:cn}{l:List Tq}{la:Option Addr}{lc:Nat}
def Kr(j:fZ w da G.doors)(b:G.doors.length<=100000)(k:ja w la l)(d:l.length<=1000):
 Calls V.prog 73 #[gV G da dc,.slice la l.length lc] w (fi λv f=>Ext w f/\A7 w.heap.size (jQ G l) (lh G.tries (fQ G l).2 G.doors.length) v f):=by
 by_cases c:jQ G l=0;have L:=pj c;have n:(fQ G l).1=0:=by unfold jQ at c;rwa[cB L.g]at c
 refine(Ke (dc:=dc) (lc:=lc) j L.g k d n).mono λe f h=>?_;obtain⟨v,rfl,a,u,rfl,m⟩:=h;rw[L.len]at m;exact⟨_,rfl,a,.inr ⟨c,u,rfl,m⟩⟩;refine gd Tryz.func73 Tryz.ntmps73 ?_;refine ej λr s i o p=>dA p (cD (mP (dc:=dc) (j.ext i) b (k.ext i) (by omega)) ?_);rintro v t ⟨q,⟨a,rfl⟩|⟨a,_⟩⟩;exact fD (jZ (by simpa using a) ⟨_,rfl,i.trans q,.inl ⟨a,rfl⟩⟩);exact absurd a c
def Ks(j:fZ w da G.doors)(b:G.doors.length<=100000)(k:ja w la l)(d:l.length<=1000):
 Calls V.prog 72 #[gV G da dc,.slice la l.length lc] w (fi λv f=>Ext w f/\P7 w.heap.size (jQ G l) G (fQ G l).2 v f):=by
 by_cases c:jQ G l=0;have L:=pj c;have m:(fQ G l).1=0:=by unfold jQ at c;rwa[cB L.g]at c
 refine(ND (dc:=dc) (lc:=lc) j L.g k d m).mono λe f h=>?_;obtain⟨v,rfl,a,u,rfl,n⟩:=h;exact⟨_,rfl,a,.inr ⟨c,u,rfl,n⟩⟩;refine gd Tryz.func72 Tryz.ntmps72 ?_;refine ej λr s i o p=>dA p (cD (mP (dc:=dc) (j.ext i) b (k.ext i) (by omega)) ?_);rintro v t ⟨q,⟨a,rfl⟩|⟨a,_⟩⟩;exact fD (jZ (by simpa using a) ⟨_,rfl,i.trans q,.inl ⟨a,rfl⟩⟩);exact absurd a c
end
section
variable{x y:dw}{w:cn}
def Sm(d:Nat)(q:Du):Sem.run V.prog (do eqGuard .neq 101 x y (.agg (nR d q).toArray) (.agg (nR d q).toArray);binOp .neq 101 (.agg (nR d q).toArray) (.agg (nR d q).toArray)) w=.ok (.bool false) w:=by obtain⟨a,b,c⟩:=q;show Sem.run jD (do eqGuard .neq 101 x y (.agg #[i64 d,i64 a,.bool b,.bool c]) (.agg #[i64 d,i64 a,.bool b,.bool c]);binOp .neq 101 (.agg #[i64 d,i64 a,.bool b,.bool c]) (.agg #[i64 d,i64 a,.bool b,.bool c])) w=.ok (.bool false) w;go_simp
end
abbrev ww(G:Gd)(a:List Sx):cn->Option Addr->List Nat->Prop:=ir (λd=>nR d (fT G (a.getD d lM))) 4
def sL.gen{G:Gd}{d:List Sx}{e:Nat}{w:cn}{b:cz}(h:sL e w z G d b):∃a c,z=.slice a b.length c/\ww G d w a b/\b.length<=c:=ir.own h rfl λ_=>rfl
def Hi{G:Gd}{h:List Sx}{l:List Nat}{la c:Option Addr}{lc d:Nat}{w:cn}(t:ww G h w la l)(i:ww G h w c l)(r:l.length<=100000):
 Calls V.prog 84 #[.slice la l.length lc,.slice c l.length d] w (fi λv g=>v=.bool true/\Ext w g):=by
 refine gd Tryz.func84 Tryz.ntmps84 ?_;refine cS (cS (fD (lx (by simp) ?_)));refine fW l.length (λk (_:Unit)=>[(0,.slice la l.length lc),(1,.slice c l.length d),(5,i64 k)]) (λk _ g=>Ext w g) () ⟨by trivial,Ext.refl _⟩ ?_;rintro k _ g y e;refine cS (du ⟨λa=>?_,λu=>⟨_,rfl,rfl,e⟩⟩);have a:k<l.length:=by simpa using a
 obtain⟨b,o,rfl,s⟩:=t k a;obtain⟨z,A,rfl,f⟩:=i k a;simp only at s f;generalize fT G (h.getD l[k] lM)=q at*;exact cX cV (gE k 4 a (dx (.agg (nR l[k] q).toArray) (λm n=>dJ (vs:=nR l[k] q) (λj v p=>(e.trans n).cell (s j v p)) ⟨rfl,Ext.refl _⟩) (gE k 4 a (dx (.agg (nR l[k] q).toArray) (λm n=>dJ (vs:=nR l[k] q) (λj v p=>(e.trans n).cell (f j v p)) ⟨rfl,Ext.refl _⟩) (dx (.bool false) (λm _=>⟨_,m,Sm _ _,rfl,Ext.refl _⟩) λB x=>lx rfl (cF ⟨a,(),by trivial,e.trans x⟩))))))
def ir.ext{c:Type}{f:c->dr}{l:List c}(h:ir f m w a l)(e:Ext w t):ir f m t a l:=λk d=>by obtain⟨b,o,g,i⟩:=h k d;exact⟨b,o,g,λj v n=>e.cell (i j v n)⟩
def Hj{a:Type}(f:a->dr)(n b:Nat)(w:cn)(l:List a):Prop:=∀k (h:k<l.length),∀j v,(f l[k])[j]? =some v->w.cell? ⟨b,0+k*n+j,none⟩=some v
def Hj.of{a:Type}{f:a->dr}{l:List a}{t:cw}(b:∀x,(f x).length=m)(c:w.heap[k]? =some (.cells (l.flatMap f).toArray t)):Hj f m k w l:=λd e j v g=>by refine cr c ?_;rw[cG];simpa using pX b l d e j v g
def Hj.ext{a:Type}{f:a->dr}{l:List a}(h:Hj f m k w l)(e:Ext w t):Hj f m k t l:=λb c j v d=>e.cell (h b c j v d)
def Cf{a:Type}(f:a->cq)(b:Nat)(w:cn)(l:List a):Prop:=∀k (h:k<l.length),w.cell? ⟨b,0+k,none⟩=some (f l[k])
def Cf.of{a:Type}{f:a->cq}{l:List a}{t:cw}(b:w.heap[m]? =some (.cells (l.map f).toArray t)):Cf f m w l:=λk c=>by refine cr b ?_;rw[cG];simp[c]
def Cf.ext{a:Type}{f:a->cq}{l:List a}(h:Cf f m w l)(e:Ext w t):Cf f m t l:=λk b=>e.cell (h k b)
structure zH(w:cn)(la:Option Addr)(lc:Nat)(l:List Tq):Prop where
 row:ja w la l
 len:l.length<=31
 cap:l.length<=lc
 nil:la=none->l.length=0
theorem zH.ext{l:List Tq}(h:zH w a m l)(e:Ext w t):zH t a m l:=⟨h.row.ext e,h.len,h.cap,h.nil⟩
structure NH(w:cn)(da:Option Addr)(G:Gd):Prop where
 row:fZ w da G.doors
 len:G.doors.length<=20
theorem NH.ext(h:NH w a H)(e:Ext w t):NH t a H:=⟨h.row.ext e,h.len⟩
def NI:Calls V.prog 76 #[gV H a m] w (fi λv b=>v=.bool (decide (20<H.doors.length))/\Ext w b):=by refine gd Tryz.func76 Tryz.ntmps76 ?_;refine ej λf g c d e=>cu (cr e rfl) (cS (lZ ⟨_,rfl,cT Value.bool ?_,c⟩));rw[Bool.eq_iff_iff];simp only[decide_eq_true_iff];omega
def pY.Vy{l:List Tq}(h:pY m w x l)(d:l.length<=31):∃a c,x=.slice a l.length c/\zH w a c l:=by obtain⟨a,c,rfl,f,g⟩:=h.row;refine⟨a,c,rfl,f,d,g,λe=>?_⟩;subst e;obtain⟨_,⟨i,_⟩|⟨b,j,k,_,e,_⟩⟩:=h;exact i;injection e with e;cases e
def qq.q{l:List Ty}(h:qq m w x l):pY m w x (l.map SH):=by unfold pY;rw[tF,List.flatMap_map];exact h
section
variable{G:Gd}{L:Nat->Nat}
end
section
variable{G:Gd}{xs:List Sx}
end
section
variable{G:Gd}{xs:List Sx}{f:Nat}{ps:List (Nat×List Nat)}
end
section
variable{H G:Gd}{ns:List Nat}
section
variable{xs ys:List Sx}{S:List Nat}{f:Nat}
end
end
def fE.rowOf(h:fE m w (.slice a k i) l):fN w a l:=by obtain⟨d,f,e,b,g⟩:=h.row;injection e with c;rw[c];exact b
section
variable{G:Gd}{l:List Ty}{s f:Nat}{S:List Nat}
end
end Go.Proofs.W
variable{A B C:Nat->Prop}
namespace Go.Proofs.W
open Go.RowKit
theorem ml.keep{c:List (Nat×cz)}(h:ml m w x c)(e:cW A w t)(d:∀b,m<=b->¬A b):ml m t x c:=by obtain⟨i,j,f,l⟩:=h;exact⟨i,j,cR.keep f e λb a=>d b (cR.blk f a).1,λk n=>by obtain⟨u,o,g⟩:=l k n;exact⟨u,o,cR.keep g e λb a=>d b (cR.blk g a).1⟩⟩
def DE.own(h:DE m w t)(k:cW (cH x) t e)(c:∀a,cH x a->w.heap.size<=a):DE m w e:=
 ⟨(h.1.trans k (H:=λa=>a=m\/w.heap.size<=a) (λ_ _ h=>.inl h) λa _ b=>.inr (c a b)).trans (cW.refl (λ_=>False) _) (λa b h=>h.elim id λh=>by omega) λ_ _ h=>h.elim,λd=>(h.2 d).keep k λa b=>by have:=c a b;have:=d.lt;omega⟩
structure zI(t0:cw)(n0:Nat)(a b:cn):Prop where
 k:cW (λx=>n0<=x) a b
 p:∀(x:Nat) cs t,t≠t0->a.heap[x]? =some (.cells cs t)->b.heap[x]? =some (.cells cs t)
 q:∀(x:Nat) cs,a.heap[x]? =some (.cells cs t0)->∃rI:Array cq,b.heap[x]? =some (.cells rI t0)/\rI.size=cs.size
abbrev NJ:=zI 24
def Vz(j:cw)(l:Nat):fJ (zI j l):=
 ⟨λw=>⟨cW.refl _ w,λ_ _ _ _ h=>h,λ_ d h=>⟨d,h,rfl⟩⟩,λa b c h k=>⟨h.k.trans k.k (λ_ _ h=>h) λ_ _ h=>h,λx d t i e=>k.p x d t i (h.p x d t i e),λx d e=>by obtain⟨f,m,n⟩:=h.q x d e;obtain⟨g,o,r⟩:=k.q x f m;exact⟨g,o,r.trans n⟩⟩,λw=>⟨(Ext.drew w).keep _,λx d t _ e=>(Ext.drew w).at_ e,λx d e=>⟨d,(Ext.drew w).at_ e,rfl⟩⟩⟩
def VA(a:Nat):fJ (NJ a):=Vz 24 a
def Ext.eu(h:Ext w t)(c:cw)(d:Nat):zI c d w t:=⟨h.keep _,λx b e _ a=>h.at_ a,λx b a=>⟨b,h.at_ a,rfl⟩⟩
def Ext.et(h:Ext w t)(a:Nat):NJ a w t:=h.eu 24 a
def cR.et(h:cR k U M w x i Y)(e:zI T m w t)(f:U≠T):cR k U M t x i Y:=by obtain⟨a,h|⟨b,c,d,g,j,l,n⟩⟩:=h;exact⟨a,.inl h⟩;exact⟨a,.inr ⟨b,c,d,g,j,e.p b d U f l,n⟩⟩
theorem zI.ext(h:zI T m w t)(a:w.heap.size<=m):Ext w t:=h.k.ext λx b=>by omega
def qu{b:Type}(f:cn->ek->List b->Prop)(l:List b)(e:Int)(u:cq)(w:cn):Prop:=∃a c,u=.tuple #[.slice a l.length c,.int .i64 e]/\f w a l
def uI{b:Type}(f:cn->ek->List b->Prop)(l:List b)(u:cq)(w:cn):Prop:=∃a c,u=.slice a l.length c/\f w a l
section
variable{w:cn}{kx:cq->Prop}{kr kp kl:gy->Prop}{lb ea:Bool}
def zJ{a:dr}(b:∀j v,a[j]? =some v->w.cell? ⟨m,o+j,none⟩=some v)(k:kx (.agg a.toArray))(c:Ec T=some true:=by rfl)(d:NX T=some a.length:=by rfl):vS Ext Ext w (λf g=>jj V.prog (Instr.loadAt T (.pointer (some ⟨m,o,none⟩))) f g) kx kr kp lb kl ea:=
 .exact _ (λ_ e=>dJ (λj v h=>e.cell (b j v h)) qm c d) k
def NK{a:ek}(b:w.heap[k]? =some (.cells (gL H a m).toArray 24))(c:kx (gV H a m)):vS Ext Ext w (λd f=>jj V.prog (Instr.loadAt 24 (.pointer (some ⟨k,0,none⟩))) d f) kx kr kp lb kl ea:=
 .exact _ (λ_ e=>dA (e.at_ b) qm) c
def Cg{x y:dw}{m:Int}{a:IntKind}(h:kx (.bool false)):vS Ext Ext w (λb f=>jj V.prog (do eqGuard .neq T x y (.int a m) (.int a m);binOp .neq T (.int a m) (.int a m)) b f) kx kr kp lb kl ea:=
 .exact _ (λ_ _=>fD ⟨cT Value.bool (by simp),Ext.refl _⟩) h
end
def Ext.cl{w a:cn}{b:dr}(e:Ext w a)(h:∀j v,b[j]? =some v->w.cell? ⟨m,o+j,none⟩=some v):∀j v,b[j]? =some v->a.cell? ⟨m,o+j,none⟩=some v:=λj v k=>e.cell (h j v k)
def Fy{l:gC}{c a:ek}{w:cn}(e:gF w c l)(d:gF w a l)(b:l.length<=100000):Calls V.prog 58 #[.slice c l.length m,.slice a l.length k] w (fi λv f=>v=.bool true/\Ext w f):=by have:=yF l l c a m k w e d b;simpa using this
section
variable{α:Type}{f:cn->Option Addr->List α->Prop}{l:List α}{A:Int}
def qu.st(d:∀{w c:cn} {a:ek} {l:List α},f w a l->Ext w c->f c a l):∀v a b,qu f l A v a->Ext a b->qu f l A v b:=λ_ _ _ ⟨x,y,g,h⟩ e=>⟨x,y,g,d h e⟩
def uI.st(d:∀{w c:cn} {a:ek} {l:List α},f w a l->Ext w c->f c a l):∀v a b,uI f l v a->Ext a b->uI f l v b:=λ_ _ _ ⟨x,y,g,h⟩ e=>⟨x,y,g,d h e⟩
def qu.cs{v:cq}{w:cn}{P:cq->Prop}(h:qu f l A v w)(k:∀x y,f w x l->P (.tuple #[.slice x l.length y,.int .i64 A])):P v:=by obtain⟨x,y,rfl,h⟩:=h;exact k x y h
end
def Sn{w:cn}{r:cU}{n:dU}{v:cq}(d:dr)(o:w.heap[k]? =some (.cells n T))(f:n.size=d.length)(p:m<=k)(s:∀g,zI T m w g->g.heap[k]? =some (.cells d.toArray T)->r g)(l:v.cells=d.toArray:=by rfl)(u:ri d=true:=by rfl)(y:NX T=some d.length:=by rfl):DO V.prog (Instr.storeAt T (.pointer (some ⟨k,0,none⟩)) v) w r:=by refine iT o (by rw[l];simp[f]) (λg q z=>?_) (by rw[l];exact fK u) (by rw[l];exact y);have c:sd g k d.toArray T:=z.trans (cT (λa=>some (Obj.cells a T)) (by rw[l];exact dC n d f));refine s g ⟨q.trans (cW.refl (λ_=>False) _) (λx _ b=>by subst b;exact p) λ_ _ h=>h.elim,λx i t A b=>q.fe b λe=>?_,λx i b=>?_⟩ c;subst e;exact fS b o A;by_cases j:x=k;subst j;rw[o]at b;injection b with b;injection b with b;subst b;exact⟨_,c,by simp[f]⟩;exact⟨i,q.fe b j,rfl⟩
def N5(b:Nat)(s:Int)(u:cq)(w:cn):Prop:=∃a f g,u=.slice (some ⟨a,0,none⟩) 4 4/\a≠b/\w.heap[a]? =some (.cells [.int .i64 s,.int .i64 f,.int .i64 g,.int .i64 s].toArray 3)
def N5.de{s:Int}(u:cq)(a b:cn)(h:N5 m s u a)(e:DE m a b):N5 m s u b:=by obtain⟨d,f,g,i,c,j⟩:=h;exact⟨d,f,g,i,c,e.1.fe j c⟩
def Kt(a:Int)(l:cz):gC:=if a=0 then pI l else []
def A7.res{b:Int}{l:cz}{v:cq}{w:cn}(h:A7 m b l v w):qu gF (Kt b l) b v w:=by unfold Kt;rcases h with⟨c,rfl⟩|⟨c,u,rfl,e⟩;rw[cy c];exact⟨none,0,rfl,λk f=>by simp at f⟩;rw[cB c,c];obtain⟨a,d,rfl,g,_⟩:=e.row;exact⟨a,d,by simp[pI],g.ints⟩
def Ci(A:Int)(u:cq)(_:cn):Prop:=u=.int .i64 A
def Ci.st{A:Int}:∀v a b,Ci A v a->Ext a b->Ci A v b:=λ_ _ _ h _=>h
def Ux{R:gy}{w:cn}:∀a,Ext w a->∀u,R u a->R u a/\Ext a a:=λ_ _ _ h=>⟨h,Ext.refl _⟩
structure zK(n0 db:Nat)(a b:cn):Prop where
 k:cW (λx=>x=db\/n0<=x) a b
 p:∀(x:Nat) cs t,t≠84->x≠db->a.heap[x]? =some (.cells cs t)->b.heap[x]? =some (.cells cs t)
 d:iq db a->iq db b
def VB(j l:Nat):fJ (zK j l):=
 ⟨λw=>⟨cW.refl _ w,λ_ _ _ _ _ h=>h,λh=>h⟩,λa b c h k=>⟨h.k.trans k.k (λ_ _ h=>h) λ_ _ h=>h,λx e t g i f=>k.p x e t g i (h.p x e t g i f),λx=>k.d (h.d x)⟩,λw=>⟨(Ext.drew w).keep _,λx e t _ _ f=>(Ext.drew w).at_ f,λk=>k.ext (Ext.drew w)⟩⟩
def DE.ed(h:DE m w t)(a:Nat):zK a m w t:=⟨h.1.trans (cW.refl (λ_=>False) _) (λ_ _ h=>.inl h) λ_ _ h=>h.elim,λx d e _ b c=>h.1.fe c b,h.2⟩
structure A8 where
 G:Gd
 da:Option Addr
 dc:Nat
 l:List Tq
 la:Option Addr
 lc:Nat
 s:Int
structure P8(gs ls ss:Nat)(w:cn)(cs:List A8):Prop where
 gI:Hj (λc:A8=>gL c.G c.da c.dc) 7 gs w cs
 lI:Cf (λc:A8=>.slice c.la c.l.length c.lc) ls w cs
 sI:Cf (λc:A8=>.int .i64 c.s) ss w cs
 all:∀c∈cs,NH w c.da c.G/\zH w c.la c.lc c.l
theorem P8.ext{a:List A8}(h:P8 m k i w a)(e:Ext w t):P8 m k i t a:=⟨h.gI.ext e,h.lI.ext e,h.sI.ext e,λc b=>⟨(h.all c b).1.ext e,(h.all c b).2.ext e⟩⟩
def So(b:Nat)(c:dr)(u:cq)(w:cn):Prop:=∃a,u=.slice (some ⟨a,0,none⟩) 4 4/\a≠b/\w.heap[a]? =some (.cells c.toArray 24)
def Sq(d e:Nat)(X:List Tq)(f:ek->Nat->dr)(u:cq)(w:cn):Prop:=∃a b c,u=.slice (some ⟨a,0,none⟩) 4 4/\a≠d/\w.heap[a]? =some (.cells (f b c).toArray 25)/\pY e w (.slice b X.length c) X
def So.ed(u:cq)(a b:cn)(h:So k M u a)(e:zK m k a b):So k M u b:=by obtain⟨d,f,c,g⟩:=h;exact⟨d,f,c,e.p _ _ _ (by decide) c g⟩
def N5.ed(u:cq)(a b:cn)(h:N5 k I u a)(e:zK m k a b):N5 k I u b:=by obtain⟨d,f,g,i,c,j⟩:=h;exact⟨d,f,g,i,c,e.p _ _ _ (by decide) c j⟩
def Sq.de{X:List Tq}{f:ek->Nat->dr}(g:k<m)(u:cq)(a b:cn)(h:Sq k m X f u a)(e:DE k a b):Sq k m X f u b:=by obtain⟨i,j,l,n,c,o,d⟩:=h;exact⟨i,j,l,n,c,e.1.fe o c,cR.keep d e.1 λb p e=>by have:=(cR.blk d p).1;omega⟩
def P9(a:Int)(l:cz):cz:=if a=0 then l else []
def P7.res{c:List Sx}(h:P7 m I H c x w):qu (ww H c) (P9 I (dn H.tries c)) I x w:=by unfold P9;rcases h with⟨b,rfl⟩|⟨b,u,rfl,e⟩;rw[cy b];exact⟨none,0,rfl,λk f=>by simp at f⟩;rw[cB b,b];obtain⟨a,d,rfl,g,_⟩:=e.gen;exact⟨a,d,rfl,g⟩
def wL(a b c k d:Nat)(e:ek)(n f:Nat):L:=[(14,.slice (some ⟨a,0,none⟩) 4 4),(15,.slice (some ⟨b,0,none⟩) 4 4),(16,.slice (some ⟨c,0,none⟩) 4 4),(17,.int .i64 k),(18,cM d),(19,.slice e n f)]
def Fz{dc:Nat}(hd:fZ w a H.doors)(bT:H.doors.length<=9223372036854775807){l:List Tq}{la:ek}(hl:ja w la l)(bU:l.length<=9223372036854775807)(bc:l.length<=m)(bd:la=none->l.length=0)(more:Tq)(s:Int) {ns:gC}{na:ek}(hr:gF w na ns)(be:ns.length<=9223372036854775807):
 Calls V.prog 20 #[gV H a dc,.slice la l.length m,.agg (nQ more).toArray,.int .i64 s,.slice na ns.length k] w (ux λv w'=>v=.bool true/\Ext w w'):=by
 refine Fc Tryz.func20 Tryz.ntmps20 (dM.seq dj ?_);refine ej λw0 ob e0 bV bf=>ej λL tb aN bW ht=>?_;have e1:=e0.trans aN;have K:=aN.at_ bf;have ht:L.heap[tb]? =some (.cells (nQ more).toArray 84):=ht;refine dM.ij (dM.ij (rF.start (rF.Nv 7 dj ?_)));refine dA K (dG NI λw2 D=>?_);have E2:=e1.trans D;refine⟨λh=>?_,λh=>cS (lZ ?_)⟩;refine rF.fin (dM.of dj (jZ rfl (iW (rE w2) (λw' h=>.inr ⟨rfl,h⟩) ?_)));rintro _ w3 ⟨rfl,e3⟩;exact .inl ⟨_,rfl,rfl,E2.trans e3⟩;refine rF.fin (dM.of dj ⟨λh4=>?_,λh4=>?_⟩);refine iW (rE w2) (λw' h=>.inr ⟨rfl,h⟩) ?_;rintro _ w3 ⟨rfl,e3⟩;exact .inl ⟨_,rfl,rfl,E2.trans e3⟩;have aO:H.doors.length<=20:=by have:=ee h;omega
 have bP:l.length<=30:=by have:=ee h4;omega
 refine dM.jN (l0:=[(1,.slice la l.length m),(3,i64 s),(4,.slice na ns.length k),(5,cM ob),(7,cM tb)]) (by trivial) (dM.seq dj ?_);refine cD (Fe (hr.ext E2) be) ?_;rintro _ w3 ⟨e3,E,rfl,bX,hD⟩;have E3:=E2.trans e3;refine dM.seq dj (cD (Cb hD 5 (by omega)) ?_);rintro _ w4 ⟨d4,M,W,X,rfl,hO,bY,hM,bZ⟩;have ok:=eQ hM;have b0:=ok.days;have b1:=E3.size;have ax:w.heap.size<=E:=by have:=E2.size;omega
 have b2:=hD.lt;have b3:=d4.1.size;have E4:Ext w w4:=NE E3 d4 ax;refine eD λw5 gb e5 bg bh=>dq bh λw6 k6 ap=>?_;replace ap:w6.heap[gb]? =some (.cells (gL M W X).toArray 24):=ap.trans (cT (λN=>some (Obj.cells N 24)) (dC (pm 24).toArray (gL M W X) rfl));have ai:Ext w4 w6:=Ext.cC e5 k6 bg;have D6:=(d4.2 hD).ext ai;refine dM.jN (l0:=[(1,.slice la l.length m),(3,i64 s),(5,cM ob),(7,cM tb),(11,cM E),(12,cM gb)]) (by trivial) (dM.seq dj ?_);refine dA ap (cD (Kd (dc:=X) D6 hM) ?_);rintro _ w7 ⟨d7,yl,sm,hu,bi,b4,bj⟩;have b5:=ai.size;have b6:=d7.1.size;have aP:¬gb=E:=by omega
 have g7:=d7.1.fe ap aP;have aQ:l8 w3.heap.size w7 (.slice W M.doors.length X) M.doors:=cR.keep (cR.ext hO ai) d7.1 λb K e=>by have:=(cR.blk hO K).1;omega
 have bk:=NF bi;have D7:=d7.2 D6;have E7:Ext w w7:=NE (E4.trans ai) d7 ax;have aR:w7.heap[ob]? =some (.cells (gL H a dc).toArray 24):=by have h1:w4.heap[ob]? =some (.cells (gL H a dc).toArray 24):=d4.1.fe ((D.trans e3).at_ K) (by have:=cP.lt_of_heap K;have:=D.size;omega);exact d7.1.fe (ai.at_ h1) (by have:=cP.lt_of_heap K;have:=D.size;omega)
 have bl:w7.heap[tb]? =some (.cells (nQ more).toArray 84):=by have h1:w4.heap[tb]? =some (.cells (nQ more).toArray 84):=d4.1.fe ((D.trans e3).at_ ht) (by have:=cP.lt_of_heap ht;have:=D.size;omega);exact d7.1.fe (ai.at_ h1) (by have:=cP.lt_of_heap ht;have:=D.size;omega)
 have az:ob≠E:=by have:=cP.lt_of_heap K;have:=D.size;omega
 have aA:tb≠E:=by have:=cP.lt_of_heap ht;have:=D.size;omega
 obtain⟨Y,hY⟩:∃Y,Y=yl.map SH:=⟨_,rfl⟩;have aB:Y.length=yl.length:=by rw[hY];simp
 obtain⟨ya,yc,rfl,_,_⟩:=hu.row;have aC:pY w6.heap.size w7 (.slice ya Y.length yc) Y:=by have:=hu.q;rw[<-hY]at this;rw[aB];exact this
 obtain⟨_,_,e,aD⟩:=aC.Vy (by omega);cases e;obtain⟨F,bm⟩:∃F,F=w7.heap.size:=⟨_,rfl⟩;have hE:=VB F E;have rf:∀{v:cq} {w:cn},v=v/\DE E w w:=⟨rfl,(zv E).refl _⟩;have aS:E<F:=by omega
 have h7:∀{i:cn} {x:Nat} {o:Obj},zK F E w7 i->x≠E->w7.heap[x]? =some o->i.heap[x]? =some o:=λe hx h=>e.k.fe h (by have:=cP.lt_of_heap h;rintro(h1|h1)<;>omega);have g8:∀i,zK F E w7 i->i.heap[gb]? =some (.cells (gL M W X).toArray 24):=λi n=>h7 n aP g7;have bQ:=cP.lt_of_heap aR
 have aE:∀{i:cn},zK F E w7 i->ja i ya Y:=λe=>by
  have h8:pY w6.heap.size _ (.slice ya Y.length yc) Y:=cR.keep aC e.k λb K h=>by have:=cR.blk aC K;rcases h with h|h<;>omega
  obtain⟨_,_,D,h9,_⟩:=h8.row;cases D;exact h9
 refine dM.jN (l0:=[(1,.slice la l.length m),(3,i64 s),(5,cM ob),(7,cM tb),(11,cM E),(12,cM gb),(13,.slice ya Y.length yc)]) ⟨rfl,rfl,rfl,rfl,rfl,rfl,by rw[aB];rfl,trivial⟩ (dM.ij ?_);refine hH 11 (zv E) hE (λN b h=>h.ed F)<| .exact (gV H a dc) (λi n=>dA (h7 n az aR) rf)<| .exact (gV M W X) (λi n=>dA (g8 i n) rf)<| .exact (gV M W X) (λi n=>dA (g8 i n) rf)<| .exact (gV M W X) (λi n=>dA (g8 i n) rf) ?_;refine .rel (So E (gL H a dc++gL M W X++gL M W X++gL M W X)) So.ed (λi n=>eg (gL H a dc++gL M W X++gL M W X++gL M W X) 24 λw9 p e9 ad af=>⟨⟨p,rfl,by have:=n.k.size;omega,af⟩,e9.de E⟩) ?_;refine .early rfl (λu i=>pY F i u Y) (λu N b h e=>cR.keep h e.1 λb K e=>by have:=(cR.blk h K).1;omega) (λi n=>?_) ?_
 ·repeat intro _
  exact cD (Fj (aE (n.ed F)) (by omega)) λu w9 ⟨e9,h⟩=>⟨cR.low h (by have:=n.1.size;omega),e9.de E⟩
 refine .exact (.agg (nQ more).toArray) (λi n=>dJ (vs:=nQ more) (λj v hj=>by rw[cG];exact cr (h7 n aA bl) (by simpa using hj)) rf) ?_;refine .early rfl (λu i=>∃p,u=j7 p 1 1/\F<=p/\i.heap[p]? =some (.cells (nQ more).toArray 84)) (λu N b ⟨p,h1,h2,h3⟩ e=>⟨p,h1,h2,e.1.fe h3 (by omega)⟩) (λi n=>?_) ?_
 ·repeat intro _
  exact eg (nQ more) 84 λw9 p e9 ad af=>⟨⟨p,rfl,by have:=n.1.size;omega,af⟩,e9.de E⟩
 refine .spec (λu i=>pY F i u (Y++[more])) (λu N b h e=>cR.keep h e.1 λb K e=>by have:=(cR.blk h K).1;omega) (λi n=>?_) ?_;rintro u hu v hv;obtain⟨p,rfl,ad,bn⟩:∃p,u=j7 p 1 1/\F<=p/\i.heap[p]? =some (.cells (nQ more).toArray 84):=hu;have hv:pY F i v Y:=hv;have s8:=n.1.size;refine gq NC hv (by omega) bn (by omega) λv' w9 bo k9 _=>⟨?_,?_⟩;show pY _ _ _ _;unfold pY;rw[jA,List.flatMap_append];simpa using bo;refine⟨k9.trans (cW.refl (λ_=>False) _) (λx _ hx=>.inr (cR.blk hv hx).1) λ_ _ h=>h.elim,λx cs t ht hx h=>k9.fe h λaT=>?_,λhD=>?_⟩;obtain⟨_,⟨_,e⟩|⟨b,c,aF,h1,e,h3,_⟩⟩:=hv;obtain⟨_,_,D⟩:=aT;rw[e]at D;cases D;obtain⟨_,_,D⟩:=aT;rw[e]at D;cases D;exact fS h h3 ht;exact hD.keep k9 λb K=>by have:=(cR.blk hv K).1;omega
 refine .late rfl (Sq E F (Y++[more]) λva vc=>[.slice la l.length m,.slice ya Y.length yc,.slice va (Y++[more]).length vc,.slice la l.length m]) (Sq.de aS) (λi n u hu=>?_) ?_;have hu:pY F i u (Y++[more]):=hu;obtain⟨va,vc,rfl,_,_⟩:=hu.row;exact eg [.slice la l.length m,.slice ya Y.length yc,.slice va (Y++[more]).length vc,.slice la l.length m] 25 λw9 p e9 ad af=>⟨⟨p,va,vc,rfl,by have:=n.k.size;omega,af,cR.ext hu e9⟩,e9.de E⟩;refine .exact (i64 (wv yl)) (λi n=>?_) ?_
 ·have h8:qq w6.heap.size i (.slice ya yl.length yc) yl:=cR.keep hu n.k λb K h=>by have:=cR.blk hu K;rcases h with h|h<;>omega
  have hc:Calls V.prog 31 #[.slice ya Y.length yc] i (fi λv w'=>v=i64 (wv yl)/\w'=i):=by rw[aB];exact Hd (qq.rowOf h8) (by omega)
  repeat intro _
  exact dg hc rf
 refine .exact (i64 M.days) (λi n=>cu (cr (g8 i n) rfl) rf)<| .exact (i64 (2*M.days)) (λi _=>pE rf)<| .exact (i64 (2*M.days-1)) (λi _=>fx rf)<| .rel (λu _=>∃f:Int,u=i64 f) (λ_ _ _ h _=>h) (λi n=>cD (lf (n.d D7) (wv yl) (2*M.days-1) (by omega) (by omega) (by omega)) λu w9 ⟨⟨z,e,_⟩,d⟩=>⟨⟨z,e⟩,d⟩)<| .exact (i64 M.days) (λi n=>cu (cr (g8 i n) rfl) rf)<| .exact (i64 (2*M.days)) (λi _=>pE rf)<| .exact (i64 (2*M.days-1)) (λi _=>fx rf)<| .rel (λu _=>∃f:Int,u=i64 f) (λ_ _ _ h _=>h) (λi n=>?_) ?_
 ·repeat intro _
  exact cD (oJ (n.d D7) (2*M.days-1) (by omega)) λu w9 ⟨⟨z,e,_⟩,d⟩=>⟨⟨z,e⟩,d⟩
 refine .rel (N5 E s) N5.ed (λi n=>?_) ?_;rintro u ⟨g,rfl⟩ v ⟨f,rfl⟩;exact eg [i64 s,i64 f,i64 g,i64 s] 3 λw9 p e9 ad af=>⟨⟨p,f,g,rfl,by have:=n.k.size;omega,af⟩,e9.de E⟩;refine .rel (So E (gL H a dc++gL M W X++gL M W X++gL M W X)) So.ed (λi n=>?_) ?_
 ·repeat intro _
  exact⟨by assumption,(zv E).refl _⟩
 refine .late rfl (Sq E F (Y++[more]) λva vc=>[.slice la l.length m,.slice ya Y.length yc,.slice va (Y++[more]).length vc,.slice la l.length m]) (Sq.de aS) (λi n=>?_) ?_
 ·repeat intro _
  exact⟨by assumption,(zv E).refl _⟩
 refine .rel (N5 E s) N5.ed (λi n=>?_) ?_
 ·repeat intro _
  exact⟨by assumption,(zv E).refl _⟩
 rintro i n _ ⟨ss,f,g,rfl,b7,aU⟩ _ ⟨ls,va,vc,rfl,b8,aV,bp⟩ _ ⟨gs,rfl,b9,aW⟩;repeat intro _
 have E8:Ext w i:=E7.yR n.k λb K=>by have:=E7.size;rcases K with K|K<;>omega
 have bq:l8 w3.heap.size i (.slice W M.doors.length X) M.doors:=cR.keep aQ n.k λb K h=>by have:=cR.blk aQ K;rcases h with h|h<;>omega
 have br:=l8.Sh bq;have bs:zH i ya yc Y:=⟨aE n,aD.len,aD.cap,aD.nil⟩;obtain⟨_,_,e,bt⟩:=bp.Vy (by simp;omega);cases e;obtain⟨cs,aj⟩:∃cs:List A8,cs=[⟨H,a,dc,l,la,m,s⟩,⟨M,W,X,Y,ya,yc,f⟩,⟨M,W,X,Y++[more],va,vc,g⟩,⟨M,W,X,l,la,m,s⟩]:=⟨_,rfl⟩;have ca:cs.length=4:=by rw[aj];rfl
 have aX:P8 gs ls ss i cs:=by have eM:NH i W M:=⟨br,by omega⟩;have eL:zH i la m l:=⟨hl.ext E8,by omega,bc,bd⟩;refine⟨Hj.of (t:=24) (λ_=>rfl) ?_,Cf.of (t:=25) ?_,Cf.of (t:=3) ?_,?_⟩;rw[aj];exact aW;rw[aj];exact aV;rw[aj];exact aU;rw[aj];intro c hc;simp only[eO,mu,jW]at hc;rcases hc with rfl|rfl|rfl|rfl;exact⟨⟨hd.ext E8,aO⟩,eL⟩;exact⟨eM,bs⟩;exact⟨eM,bt⟩;exact⟨eM,eL⟩
 clear aj;refine dM.jN (l0:=[(14,j7 gs 4 4),(15,j7 ls 4 4),(16,j7 ss 4 4)]) (by trivial) (dM.ij (dM.seq dj ?_));refine rX 4 (λC (_:Unit)=>[(14,j7 gs 4 4),(15,j7 ls 4 4),(16,j7 ss 4 4),(17,i64 C)]) (λC _ w'=>Ext i w') () ⟨by trivial,Ext.refl _⟩ ?_;rintro C _ aq hk ar;refine dM.ij (dM.of dj (cS (du ⟨λbu=>?_,λcb=>?_⟩)));rotate_left;refine dM.ij (dM.of dj (iW (rE aq) (λw' h=>.inr ⟨rfl,h⟩) ?_));rintro _ aY ⟨rfl,ak⟩;exact dM.of dj (.inl ⟨_,rfl,rfl,(E8.trans ar).trans ak⟩);have I:C<4:=by have:=dO bu;omega
 have au:=aX.ext ar;have av:C<cs.length:=by omega
 have bv:=au.all _ (ef av);have qg:=au.gI C av;have ql:=au.lI C av;have qs:=au.sI C av;have bw:=E8.trans ar;generalize cs[C]=c at*;obtain⟨gI,lI⟩:=bv;refine dM.ij (dM.block (dM.ij ?_));clear hE h7 aE;obtain⟨F,bm⟩:∃F,F=aq.heap.size:=⟨_,rfl⟩;have hE:=VA F;have ext:∀{L:cn},NJ F aq L->Ext aq L:=λe=>e.ext (by omega);refine hH 11 cV hE (λN b h=>h.et F)<| .exact (Ba gs (0+C*7)) (λw _=>eN C 7 I qm)<| .exact (gV c.G c.da c.dc) (λw e=>dJ (vs:=gL c.G c.da c.dc) (λj v hj=>(ext e).cell (qg j v hj)) qm)<| .rel (λu L=>∃N d,u=gV c.G N d/\l8 F L (.slice N c.G.doors.length d) c.G.doors) (λu N b ⟨x,d,h1,h2⟩ e=>⟨x,d,h1,cR.et h2 e (by decide)⟩) (λL e=>?_) ?_;refine cD (z8 ((gI.row.ext (ext e)).cells) (by have:=gI.len;omega)) ?_;rintro u w2 ⟨D,N,d,rfl,h⟩;exact⟨⟨N,d,rfl,l8.low h (by have:=(ext e).size;omega)⟩,D⟩;refine .exact (Ba ls (0+C)) (λw _=>fw C I qm)<| .exact (.slice c.la c.l.length c.lc) (λw e=>cu ((ext e).cell ql) qm)<| .rel (λu L=>pY F L u c.l) (λu N b h e=>cR.et h e (by decide)) (λL e=>?_) ?_
 ·repeat intro _
  exact cD (Fj (lI.row.ext (ext e)) (by have:=lI.len;omega)) λu w2 ⟨D,h⟩=>⟨cR.low h (by have:=(ext e).size;omega),D⟩
 refine .rel (λu L=>∃p,u=cM p/\F<=p/\∃cs,sd L p cs 24/\cs.size=7) (λu N b ⟨p,h1,h2,cs,h3,h4⟩ e=>by obtain⟨aF,h5,h6⟩:=e.q p cs h3;exact⟨p,h1,h2,aF,h5,h6.trans h4⟩) (λbx aZ=>?_) ?_
 ·repeat intro _
  exact eD λbz p bA ad K=>⟨⟨p,rfl,by have:=(ext aZ).size;omega,_,K,rfl⟩,bA⟩
 refine .vT (λvs L=>∃p r N d,vs=cM p::r/\L.heap[p]? =some (.cells (gL c.G N d).toArray 24)/\l8 F L (.slice N c.G.doors.length d) c.G.doors) (λ_ N b ⟨p,r,x,d,h1,h2,h3⟩ e=>⟨p,r,x,d,h1,e.at_ h2,cR.ext h3 e⟩) (λbx aZ=>?_) ?_;rintro _ ⟨p,rfl,ad,aF,a0,a1⟩ v2 _ _ ⟨N,d,rfl,bB⟩;exact Sn (gL c.G N d) a0 a1 ad λbz a2 a3=>⟨⟨p,_,N,d,rfl,a3,cR.et bB a2 (by decide)⟩,a2⟩;refine .rel (λu L=>pY F L u c.l) (λu N b h e=>cR.et h e (by decide)) (λL e=>?_) ?_
 ·repeat intro _
  exact⟨by assumption,Ext.refl _⟩
 rintro aY ak bC bD _ ⟨p,rfl,ad,_⟩ cc _ _ ⟨_,_,rfl,_⟩;rintro⟨Z,r,N,d,bE,ae,a4⟩;have a5:Z=p:=by have:=(List.cons.inj bE).1;exact(cT Addr.block (cO (Value.pointer.inj this))).symm
 subst a5;have ak:=ext ak;have bF:pY F aY bC c.l:=bD;obtain⟨ka,kc,rfl,al⟩:=bF.Vy lI.len;have am:=l8.Sh a4;have cd:=bw.trans ak;refine dM.jN (l0:=wL gs ls ss C Z ka c.l.length kc) (by trivial) (dM.seq dj ?_);have bR:=lI.len;have bS:=gI.len;obtain⟨A,hA⟩:∃A,A=jQ c.G c.l:=⟨_,rfl⟩;obtain⟨B,hB⟩:∃B,B=dP c.G c.l c.s 0:=⟨_,rfl⟩;obtain⟨xs,ag⟩:∃xs,xs=(fQ c.G c.l).2:=⟨_,rfl⟩;obtain⟨R,hR⟩:∃R,R=Kt A (lh c.G.tries xs c.G.doors.length):=⟨_,rfl⟩;obtain⟨U,hU⟩:∃U,U=P9 A (dn c.G.tries xs):=⟨_,rfl⟩;obtain⟨T,hT⟩:∃T,T=Kt B (A1 c.G xs c.s.toNat):=⟨_,rfl⟩;have a6:R.length<=100000:=by have:=tA c.G.tries xs c.G.doors.length;rw[hR,Kt];split;simp[pI];omega;simp
 have ay:A=0->xs.length<=20:=λh=>by rw[ag,(pj (hA.symm.trans h)).len];omega
 have a7:U.length<=100000:=by rw[hU,P9];split;rename_i h;have:=ay h;have:=lN c.G.tries xs;omega;simp
 have a8:T.length<=100000:=by rw[hT,Kt];split;rename_i h;have:=ay (hA.trans (qk (hB.symm.trans h)).2);have h1:=lN c.G.tries xs;have h2:(A1 c.G xs c.s.toNat).length<=(dn c.G.tries xs).length:=List.length_filter_le _ _;simp[pI];omega;simp
 refine dA ae (cD (Kr (dc:=d) am (by omega) al.row (by omega)) ?_);rintro v ce ⟨a9,h⟩;have h:=h.res;rw[<-hA,<-ag,<-hR]at h;obtain⟨xa,xc,rfl,bG⟩:=h;have O:=ak.trans a9;have s2 {l:gC} {A:Int}:=@qu.st _ gF l A gF.ext;have s1 {l:gC}:=@uI.st _ gF l gF.ext;refine dM.jN (l0:=(20,.slice xa R.length xc)::(21,i64 A)::wL gs ls ss C Z ka c.l.length kc) (by trivial) (dM.ij ?_);refine cX cV<|gE C 7 I<|zJ (O.cl qg)<|iK C I<|cK (O.cell ql) ?_;refine .rel (qu gF R A) s2 (λL e=>cD (Km (dc:=c.dc) (gI.row.ext (O.trans e)) (by omega) (lI.row.ext (O.trans e)) (by omega) lI.cap) λu w2 ⟨D,h⟩=>⟨by rw[hR,hA,ag];exact h.res,D⟩) ?_;refine .rel (qu gF R A) s2 Ux ?_;refine .rel (uI gF R) s1 (by rintro _ _ _ ⟨x,y,rfl,h⟩;exact⟨⟨x,y,rfl,h⟩,Ext.refl _⟩) ?_;refine .rel (Ci A) Ci.st (by rintro _ _ _ ⟨_,_,rfl,_⟩;exact qm) ?_;refine .rel (uI gF R) s1 (by(repeat intro _);exact⟨by assumption,Ext.refl _⟩) ?_;refine .rel (Ci A) Ci.st (by(repeat intro _);exact⟨by assumption,Ext.refl _⟩) ?_;rintro cf aG _ rfl _ ⟨bH,bI,rfl,bJ⟩;repeat intro _
 have P:=O.trans aG;have aa:=a9.trans aG;refine dM.jN (l0:=(20,.slice xa R.length xc)::(21,i64 A)::(22,.slice bH R.length bI)::(23,i64 A)::wL gs ls ss C Z ka c.l.length kc) (by trivial) (dM.ij (dM.ij ?_));refine cX cV ?_;refine NK (aa.at_ ae)<|fh (i64 A) (λL e=>by rw[hA];exact Kh (dc:=d) (am.ext (aa.trans e)) (by omega) (al.row.ext (aa.trans e)) (by omega)) ?_;refine gE C 7 I<|zJ (P.cl qg)<|iK C I<|cK (P.cell ql) ?_;refine fh (i64 A) (λL e=>by rw[hA,<-xm];exact uE (dc:=c.dc) (gI.row.ext (P.trans e)) (by omega) (lI.row.ext (P.trans e)) (by omega) lI.cap) ?_;refine Cg (lx rfl<|Cg<|lx rfl ?_);refine fh _ (λw e=>Fy (bG.ext (aG.trans e)) (bJ.ext e) a6)<|kF ?_;intro cg ba;have aH:=P.trans ba;have ab:=aa.trans ba;refine dM.of dj (lx rfl ?_);refine dM.jN (l0:=(21,i64 A)::(23,i64 A)::wL gs ls ss C Z ka c.l.length kc) (by trivial) (dM.seq dj ?_);refine dA (ab.at_ ae) (cD (Ks (dc:=d) (am.ext ab) (by omega) (al.row.ext ab) (by omega)) ?_);rintro v ch ⟨bb,h⟩;have h:=h.res;rw[<-hA,<-ag,<-hU]at h;obtain⟨ua,uc,rfl,bK⟩:=h;have Q:=aH.trans bb;have aI:=ab.trans bb;refine dM.jN (l0:=(21,i64 A)::(23,i64 A)::(24,.slice ua U.length uc)::wL gs ls ss C Z ka c.l.length kc) (by trivial) (dM.ij ?_);refine cX cV<|gE C 7 I<|zJ (Q.cl qg)<|iK C I<|cK (Q.cell ql) ?_;refine .rel (qu (ww c.G xs) U A) (qu.st ir.ext) (λL e=>cD (Ko (dc:=c.dc) (gI.row.ext (Q.trans e)) (by omega) (lI.row.ext (Q.trans e)) (by omega) lI.cap) λu w2 ⟨D,h⟩=>⟨by rw[hU,hA,ag];exact h.res,D⟩) ?_;refine .rel (qu (ww c.G xs) U A) (qu.st ir.ext) Ux ?_;refine .rel (uI (ww c.G xs) U) (uI.st ir.ext) (by rintro _ _ _ ⟨x,y,rfl,h⟩;exact⟨⟨x,y,rfl,h⟩,Ext.refl _⟩) ?_;refine .rel (Ci A) Ci.st (by rintro _ _ _ ⟨_,_,rfl,_⟩;exact qm) ?_;refine .rel (uI (ww c.G xs) U) (uI.st ir.ext) (by(repeat intro _);exact⟨by assumption,Ext.refl _⟩) ?_;refine .rel (Ci A) Ci.st (by(repeat intro _);exact⟨by assumption,Ext.refl _⟩) ?_;rintro ci aJ _ rfl _ ⟨aK,aL,rfl,bL⟩;repeat intro _
 have an:=Q.trans aJ;have ac:=aI.trans aJ;refine dM.jN (l0:=(21,i64 A)::(23,i64 A)::(24,.slice ua U.length uc)::(25,.slice aK U.length aL)::wL gs ls ss C Z ka c.l.length kc) (by trivial) (dM.ij ?_);refine cX cV<|NK (ac.at_ ae)<|iK C I<|cK (an.cell qs) ?_;refine .rel (qu gF T B) s2 (λL e=>cD (zk (dc:=d) (am.ext (ac.trans e)) (by omega) (al.row.ext (ac.trans e)) (by omega) c.s) λu w2 ⟨D,h⟩=>⟨by rw[hT,hB,ag];exact A7.res h,D⟩) ?_;refine .rel (qu gF T B) s2 Ux ?_;refine .rel (uI gF T) s1 (by rintro _ _ _ ⟨x,y,rfl,h⟩;exact⟨⟨x,y,rfl,h⟩,Ext.refl _⟩) ?_;refine .rel (Ci B) Ci.st (by rintro _ _ _ ⟨_,_,rfl,_⟩;exact qm) ?_;refine .rel (uI gF T) s1 (by(repeat intro _);exact⟨by assumption,Ext.refl _⟩) ?_;refine .rel (Ci B) Ci.st (by(repeat intro _);exact⟨by assumption,Ext.refl _⟩) ?_;rintro cj aw _ rfl _ ⟨ta,tc,rfl,bM⟩;repeat intro _
 have J:=an.trans aw;have aM:=ac.trans aw;refine dM.jN (l0:=(20,.slice ta T.length tc)::(21,i64 A)::(23,i64 A)::(24,.slice ua U.length uc)::(25,.slice aK U.length aL)::(26,i64 B)::wL gs ls ss C Z ka c.l.length kc) (by trivial) (dM.ij ?_);refine cX cV<|gE C 7 I<|zJ (J.cl qg)<|iK C I<|cK (J.cell ql)<|iK C I<|cK (J.cell qs) ?_;refine .rel (qu gF T B) s2 (λL e=>cD (Kq (dc:=c.dc) (gI.row.ext (J.trans e)) (by omega) (lI.row.ext (J.trans e)) (by omega) lI.cap c.s) λu w2 ⟨D,h⟩=>⟨by rw[hT,hB,ag];exact h.res,D⟩) ?_;refine .rel (qu gF T B) s2 Ux ?_;refine .rel (uI gF T) s1 (by rintro _ _ _ ⟨x,y,rfl,h⟩;exact⟨⟨x,y,rfl,h⟩,Ext.refl _⟩) ?_;refine .rel (Ci B) Ci.st (by rintro _ _ _ ⟨_,_,rfl,_⟩;exact qm) ?_;refine .rel (uI gF T) s1 (by(repeat intro _);exact⟨by assumption,Ext.refl _⟩) ?_;refine .rel (Ci B) Ci.st (by(repeat intro _);exact⟨by assumption,Ext.refl _⟩) ?_;rintro ck ao _ rfl _ ⟨pa,pc,rfl,bN⟩;repeat intro _
 have S:=J.trans ao;have ah:=aM.trans ao;refine dM.jN (l0:=(20,.slice ta T.length tc)::(21,i64 A)::(22,.slice pa T.length pc)::(23,i64 A)::(24,.slice ua U.length uc)::(25,.slice aK U.length aL)::(26,i64 B)::(27,i64 B)::wL gs ls ss C Z ka c.l.length kc) (by trivial) (dM.ij ?_);refine cX cV<|Cg (lx rfl<|Cg<|lx rfl ?_);refine fh _ (λw e=>Hi (((ir.ext bK aJ).ext (aw.trans ao)).ext e) ((ir.ext bL (aw.trans ao)).ext e) a7)<|kF<|lx rfl<|fh _ (λw e=>Fy (bM.ext (ao.trans e)) (bN.ext e) a8)<|kF<|lx rfl<|NK (ah.at_ ae)<|gE C 7 I<|zJ (S.cl qg)<|fh _ (λw e=>z9 (am.ext (ah.trans e)) (gI.row.ext (S.trans e)) (by omega))<|kF<|lx rfl<|iK C I<|cK (S.cell ql)<|fh _ (λw e=>Fl (al.row.ext (ah.trans e)) (lI.row.ext (S.trans e)) (by omega))<|kF ?_;intro cm bO;exact dM.of dj (lx rfl (dM.of dj (cF ⟨by omega,(),by trivial,ar.trans (S.trans bO)⟩)))
end Go.Proofs.W
variable{R:Go.cP.dm}{W X:Array cq}{K:dH}
namespace Go.Proofs.W
open Go.Conc Go.cP Go.RowKit
noncomputable def SI(L:cz)(f:Nat):Bool:=f==163||okF L false (λ_=>false) f
abbrev jR:=Array (Nat×Nat)
def jR.sh(a:jR)(b:Nat):Option Nat:=(a[b]?).map (·.2)
def jR.r(a:jR)(b c:Nat):Prop:=∃n,a[b]? =some (c,n)
def jR.mg{d:jR}(b c e:Nat)(h:d.r b c)(a:d.r b e):c=e:=by obtain⟨n,h⟩:=h;obtain⟨m,a⟩:=a;rw[h]at a;cases a;rfl
def jR.oq{a:jR}(b d c:Nat)(h:a.r b c)(f:a.r d c):b=d\/(a.sh b≠none/\a.sh d≠none):=by obtain⟨n,h⟩:=h;obtain⟨m,f⟩:=f;unfold jR.sh;rw[h,f];exact .inr ⟨λe=>(by cases e),λe=>(by cases e)⟩
noncomputable def Qa(L:cz)(a:jR):dm where
 S:=λg=>L.contains g
 dim:=false
 ok:=λf=>gD V.prog (λg=>L.contains g) false false
 df:=λ_=>false
 fs:=PR.funcs
 hole:=λf=>f==163
 sh:=a.sh
 r:=a.r
 mg:=jR.mg
 oq:=jR.oq
def Cj(h:l.all (SI l)=true)(f:Nat)(d:l.contains f=true)(b:f≠163):
 ∃a c,V.prog.funcs[f]? =some a/\a.body=some c/\gD V.prog (λg=>l.contains g) false false c=true/\(a.name== "runtime.NumGoroutine")=false:=by
 have:=mU.1 h f (by simpa using d);unfold SI at this;rw[show(f==163)=false by simpa using b,Bool.false_or]at this;unfold okF at this;split at this;rename_i a e;split at this;rename_i c i;simp only[dW,tE]at this;exact⟨a,c,e,i,this.1,this.2⟩;cases this;cases this
def Qb:(V.f163.name== "runtime.NumGoroutine")=false:=by kernel_rfl
def NL:(Tryz.f163.name== "runtime.NumGoroutine")=false:=by kernel_rfl
def NM:∃c,Tryz.f163.body=some c:=⟨_,xR⟩
def Ku{j:jR}(h:l.all (SI l)=true):Go.cP.Good V.prog (Qa l j):=by
 refine⟨⟨V.zero,λf a=>?_,V.Dg,As _,V.bad⟩,rfl,λf a k=>?_,⟨λf a=>?_⟩,λ⟨f,a⟩=>by cases a⟩;by_cases e:f=163;subst e;exact⟨V.f163,V.wT,V.func163,Qb,rfl⟩;obtain⟨d,c,b,g,_,i⟩:=Cj h f a e;exact⟨d,c,b,i,g⟩;have e:f≠163:=λe=>by subst e;cases k
 obtain⟨d,c,b,g,m,_⟩:=Cj h f a e;exact⟨d,c,b,g,m⟩;by_cases e:f=163;subst e;obtain⟨c,n⟩:=NM;exact⟨Tryz.f163,c,Tryz.func163,NL,n,λh=>by cases h⟩;obtain⟨d,c,b,g,_,i⟩:=Cj h f a e;exact⟨d,c,(V.wU f e).symm.trans b,i,g,λ_=>b⟩
noncomputable def NN(L:cz)(df:Nat->Bool)(a:jR):dm where
 S:=λg=>L.contains g
 dim:=false
 ok:=λf=>gD V.prog (λg=>L.contains g) false (df f)
 df:=df
 fs:=V.prog.funcs
 hole:=λ_=>false
 sh:=a.sh
 r:=a.r
 mg:=jR.mg
 oq:=jR.oq
def NO(b:R.fs=P.funcs)(h:∀f,R.S f=true->∃a c,P.funcs[f]? =some a/\(a.name== "runtime.NumGoroutine")=false/\a.body=some c):Og P R:=⟨λf e=>by obtain⟨a,c,d,g,i⟩:=h f e;exact⟨a,c,by rw[b];exact d,g,i,λ_=>d⟩⟩
def Kv{g:Nat->Bool}{i:jR}(h:l.all (okF l false g)=true):Go.cP.Good V.prog (NN l g i):=by refine⟨V.fit h,rfl,λf a _=>?_,NO (by unfold NN;dsimp only) λf a=>?_,λ_ _=>rfl⟩;obtain⟨b,c,d,e,j,_⟩:=tT h f a;exact⟨b,c,d,e,j⟩;obtain⟨b,c,d,e,_,k⟩:=tT h f a;exact⟨b,c,d,k,e⟩
def runNT_then{b c:Machine}{t d:Trace}(h:runNT P m b t=(.next c,d)):runNT P (m+k) b t=runNT P k c d:=by
 induction m generalizing b t with
 |zero=>
  simp only[runNT]at h;injection h with a e;injection a with a;subst a e;rw[cG]
 |succ m f=>
  rw[show m+1+k=(m+k)+1 from by omega];simp only[runNT]at h⊢;cases g:stepT P b with
  |mk s i=>
   rw[g]at h;cases s with
   |next j=>exact f h
   |ended o w=>simp only at h;injection h with a e;cases a
def Qc(e:Ending)(a:cn):Prop:=e=.returned (.bool true)\/(e=.panicked jh/\QZ a)
def NP{z:Nat->Bool}(hL:l.all (SI l)=true)(ac:f.all (okF f false z)=true){fn:Func}{tm:Tmp}(hf:V.prog.funcs[K]? =some fn)(ad:fn.results=#[.tmp tm])(s:K≠163)(ae:l.contains K=true)(af:f.contains K=true) (ag:PR.inits.idxOf? K=none){k v:cn}{ws:jR} (t:∀b c n:Nat,ws[b]? =some (c,n)->∃o J,v.heap[b]? =some o/\k.heap[c]? =some J/\∀p:dm,p.r=ws.r->p.sh=ws.sh->SO p n o J)(R:∀p:dm,p.r=ws.r->p.sh=ws.sh->fc p X W) (hC:∀T:Ta,Go.cP.Below v T->Calls V.prog K X (cQ v T) Qc):∃N last o q t',runNT PR (N+1) (solo (G (Frame.enter PR K W .normal) []) k) #[]=(.ended o q,t')/\runN PR N (solo (G (Frame.enter PR K W .normal) []) k)=.next last/\Go.step PR last=.ended o q/\
  Go.Conc.Good PR (λx q=>x=.bool true/\Go.RowKit.Below k.heap.size k q) last o q t':=by
 have S:Go.cP.Good jD (Qa l ws):=Ku hL;have am:ws.size<=v.me:=Nat.le_of_not_lt λh=>by obtain⟨_,_,y,_⟩:=t v.me _ _ (iY h);exact Nat.lt_irrefl _ (lt_of_heap y)
 have F:∀b,v.me<=b->ws.sh b=none:=λb hb=>by unfold jR.sh;rw[lT (by omega)];rfl
 have H:∀(p:dm),p.r=ws.r->p.sh=ws.sh->∀b c,ws.r b c->∃o J,v.heap[b]? =some o/\k.heap[c]? =some J/\Hv p (ws.sh b) o J:=λp y A b c ⟨n,P⟩=>by obtain⟨o,J,B,h4,h5⟩:=t b c n P;exact⟨o,J,B,h4,.inr ⟨n,by unfold jR.sh;rw[P];rfl,h5 p y A⟩⟩
 have U:Go.cP.Good jD (NN f z ws):=Kv ac;have ev:(V.prog.it PR.funcs)=PR:=OZ;have I:Inv jD ⟨Frame.enter jD K X .normal,[floor],v⟩:=by
  have h:Inv jD ⟨Frame.enter jD K X .normal,[floor],cQ v (qf v k)⟩:=
   ⟨NN f z ws,k,G (Frame.enter (V.prog.it (NN f z ws).fs) K W .normal) [],U,λ_=>rfl,WR.qf ⟨H _ rfl rfl,F⟩,rJ U af (R _ rfl rfl) .normal (.inl rfl),⟨[],[],rfl,rfl,.nil⟩,⟨rfl,rfl⟩,⟨rfl,rfl⟩,⟨rfl,rfl⟩⟩
  exact h.cQ v.tape
 have C:Go.cP.Reach jD (sJ K (λx _=>x=.bool true)) ⟨Frame.enter jD K X .normal,[floor],v⟩:=by refine qE sJ.callers (λc T hi Q=>?_) I λT hT=>?_;rcases Q with Q|⟨y,A,B,h4,h5⟩;exact .inl (Go.cP.Left.cQ (λx w T h=>h) c T hi Q);exact .inr ⟨y,A,B,h4,h5.cQ T⟩;obtain⟨e,q,fr,Y,Q,Z,hl⟩:=hC T hT [floor];rcases Y with rfl|⟨rfl,Y⟩;obtain⟨n,hn⟩:=Q;exact⟨n,fr,[floor],q,hn,.inl ⟨rfl,Z,_,rfl,hl⟩⟩;obtain⟨n,hn⟩:=Q;exact⟨n,fr,[floor],q,hn,.inr ⟨rfl,Z,hl.1,hl.2.1,Y⟩⟩
 have hI:CL jD PR.funcs k (Qa l ws) (λ_=>False) ⟨Frame.enter jD K X .normal,[floor],v⟩ #[G (Frame.enter (V.prog.it PR.funcs) K W .normal) []] (G (Frame.enter (V.prog.it PR.funcs) K W .normal) []) k #[] (λ_=>0):=by
  refine⟨I,S,rfl,rfl,⟨rJ S ae (R _ rfl rfl) .normal (.inl rfl),⟨[],[],rfl,rfl,.nil⟩,⟨rfl,rfl⟩,⟨rfl,rfl⟩,⟨rfl,rfl⟩⟩,⟨H _ rfl rfl,F⟩,⟨λi g hi hg=>?_,λj _=>Go.ConcN.Deaf_absent (by simp)⟩,?_,λb h=>h.elim,λ_ _ _ h=>h,λb c P hc=>?_,cJ _,λ_ _=>rfl,⟨rfl,rfl,rfl⟩,⟨λg hg=>?_,rfl,λ⟨g,hg⟩=>by cases hg⟩⟩;have:i<1:=(eU.1 hg).1;omega;have h:=past_nil;exact⟨h.clean,λi a ha hm=>by simp[touchAt,Trace.act?]at ha,h.over,h.hears,λop ah=>by simp at ah⟩;obtain⟨n,P⟩:=P;obtain⟨_,_,y,_,A⟩:=t b c n P;obtain⟨cs,fz,_,_,_,rfl,_,B,_⟩:=(A (Qa l ws) rfl rfl).out;exact⟨cs,sR,fz,y,B⟩;have e:g=163:=by have:(g==163)=true:=hg;simpa using this
  subst e;rw[V.func163,show PR.funcs[163]? =some Tryz.f163 from Tryz.func163];intro e;have:=cT Func.ntmps (cO e);rw[Tryz.ntmps163]at this;cases this
 obtain⟨N,ai,q,aa,t',q',L,O,X',a',r1,D,r3,_⟩:=lead (fs:=PR.funcs) sJ.callers (PF JX s k) _ C _ _ _ _ _ none _ _ hI
 have aj:Go.cP.Left jD K (λx _=>x=.bool true) L.fr L.cl L.v:=by
  rcases r3 with h|⟨y,A,B,h4,h5⟩;exact h;exfalso;have E:dQ jD O L.fr a'.frame:=by
   have u:=D.gor.fr;generalize E:(G L.fr L.cl).frame=fr at u;generalize al:a'.frame=an at u;cases u with
   |fr hf=>subst E;exact hf
   | @hole g hS hh X ao hx=>
    have:L.fr=Frame.enter jD g X .normal:=E;rw[this]at B;cases B
  have hm:=E.mode;rw[B]at hm;generalize a'.frame.mode=m at hm;cases hm with
  |panicking hc=>
   unfold jh at hc;cases hc with
   |cons Y _=>
    rcases Y.ok with h|h;exact D.holes.2.2 h;exact h 3 _ _ rfl
 have ak:O.hole K=false:=by
  cases h:O.hole K with
  |false=>rfl
  |true=>
   exfalso;exact D.holes.1 K h (V.wU K s)
 obtain⟨M,last,o,w2,t2,s1,s2,s3,s4⟩:=D.ends (sl:=aa) aj hf ad ak (by rw[ev];exact ag) (Post:=λx q=>x=.bool true/\Go.RowKit.Below k.me k q) λx x' d hx hv=>by subst hx;cases hv;exact⟨rfl,D.world.2.1,D.world.1,D.world.2.2,D.grown,λb hb=>D.kept b hb⟩
 rw[ev]at r1 s1 s2 s3 s4;have ab:runNT PR (N+(M+1)) (solo (G (Frame.enter PR K W .normal) []) k) #[]=(.ended o w2,t2):=(runNT_then r1).trans s1;refine⟨N+M,last,o,w2,t2,ab,?_,s3,s4⟩;have y:runNT PR (N+M) (solo (G (Frame.enter PR K W .normal) []) k) #[]=runNT PR M (crowd ai q aa) t':=runNT_then r1;have A:=runNT_fst PR (N+M) (solo (G (Frame.enter PR K W .normal) []) k) #[];rw[y,runNT_fst,s2]at A;exact A.symm
inductive VW (ws:jR):cq->cq->Prop
 |bool (b:Bool):VW ws (.bool b) (.bool b)
 |int (k:IntKind) (n:Int):VW ws (.int k n) (.int k n)
 |nil (l c:Nat):VW ws (.slice none l c) (.slice none l c)
 |slice {j b n:Nat} (l c:Nat) (h:ws[j]? =some (b,n)):VW ws (.slice (some ⟨j,0,none⟩) l c) (.slice (some ⟨b,n,none⟩) l c)
def Cp{c:Type}(a b:Array c):Prop:=∀(j:Nat) p,a[j]? =some p->b[j]? =some p
def Cp.refl{b:Type}(a:Array b):Cp a a:=λ_ _ h=>h
def Cp.trans{d:Type}{a b c:Array d}(h:Cp a b)(k:Cp b c):Cp a c:=λj p x=>k j p (h j p x)
theorem Cp.push{b:Type}(a:Array b)(x:b):Cp a (a.push x):=λj p h=>by rw[nS,cy (Nat.ne_of_lt (eU.1 h).1)];exact h
def VW.mono{e d:jR}(h:VW e x y)(k:Cp e d):VW d x y:=by
 cases h with
 |bool b=>exact .bool b
 |int a b=>exact .int a b
 |nil l c=>exact .nil l c
 |slice l c h=>exact .slice l c (k _ _ h)
def VW.vr{d:jR}(h:VW d x y){ρ:dm}(e:ρ.r=d.r)(f:ρ.sh=d.sh):VR ρ x y:=by
 cases h with
 |bool b=>exact .bool b
 |int a b=>exact .int a b
 |nil l c=>exact .fF l c
 | @slice j b n l c h=>
  refine .slice l c ?_;have:=AR.mk (ρ:=ρ) (b:=j) (c:=b) 0 none (by rw[e];exact⟨n,h⟩);rw[f,jR.sh,h,cG]at this;exact this
inductive Cq (ws:jR):List cq->List cq->Prop
 |nil:Cq ws [] []
 |cons {x y:cq} {l m:List cq} (h:VW ws x y) (t:Cq ws l m):Cq ws (x::l) (y::m)
theorem Cq.length{a:jR}(h:Cq a M Y):M.length=Y.length:=by
 induction h with
 |nil=>rfl
 |cons _ _ b=>simp[b]
def Cq.get{b:jR}(h:Cq b M Y):∀{i:Nat} {x:cq},M[i]? =some x->∃y,Y[i]? =some y/\VW b x y:=by
 induction h with
 |nil=>intro i x h;simp at h
 | @cons x y M Y h t c=>
  intro i z a;cases i with
  |zero=>simp at a;subst a;exact⟨y,rfl,h⟩
  |succ i=>simp at a;obtain⟨y,d,e⟩:=c a;exact⟨y,by simpa using d,e⟩
theorem Cq.mono{b a:jR}(h:Cq b M Y)(k:Cp b a):Cq a M Y:=by
 induction h with
 |nil=>exact .nil
 |cons h _ c=>exact .cons (h.mono k) c
def Cq.XO{a:jR}{l m:dr}(h:Cq a l m)(b:R.r=a.r)(c:R.sh=a.sh):fc R l.toArray m.toArray:=by
 refine fc.ku ?_;simp only;induction h with
 |nil=>exact .nil
 |cons h _ d=>exact .cons (h.vr b c) d
theorem Cq.self{a:jR}:∀{l:dr},(∀x∈l,VW a x x)->Cq a l l
 |[],_=>.nil
 |x::l,h=>.cons (h x (by simp)) (Cq.self λy b=>h y (by simp[b]))
structure Seen(W:cn)(ws:jR)(vs:Array (Array cq)):Prop where
 size:vs.size=ws.size
 at_:∀(j b n:Nat),ws[j]? =some (b,n)->∃cs rI t fz,vs[j]? =some cs/\W.heap[b]? =some (.cells rI t fz)/\∀(i:Nat) x,cs[i]? =some x->∃y,rI[i+n]? =some y/\VW ws x y
def FA(c:Array dU)(a:ek)(d:dr):Prop:=∀(k:Nat) x,d[k]? =some x->∃j b,a=some ⟨j,0,none⟩/\c[j]? =some b/\b[k]? =some x
def FA.mono{c b:Array dU}(h:FA c a M)(k:Cp c b):FA b a M:=λi x d=>by obtain⟨j,e,f,g,l⟩:=h i x d;exact⟨j,e,f,k _ _ g,l⟩
def Seen.none(W:cn):Seen W #[] #[]:=⟨rfl,λj b n h=>by simp at h⟩
theorem Seen.add{d:jR}{u:Array dU}(h:Seen w d u)(o p:Nat)(z:Cq d M Y) (L:∀s,a=some s->s.spot=.none/\(∃x,w.shape? s.block=some x)/\∀(i:Nat) y,Y[i]? =some y->w.cell? (s.add i)=some y)(N:a=.none->M=[]):∃q r A,Seen w q r/\Cp d q/\Cp u r/\VW q (.slice A o p) (.slice a o p)/\FA r A M/\(A=.none->a=.none):=by
 cases a with
 |none=>
  obtain rfl:=N rfl;exact⟨d,u,.none,h,.refl _,.refl _,.nil _ _,λk x g=>by simp at g,λh=>h⟩
 |some s=>
  obtain⟨b,l,I⟩:=s;obtain⟨rfl,⟨x,g⟩,O⟩:=L _ rfl;obtain⟨B,t,C,J⟩:∃B t C,w.heap[b]? =some (.cells B t C):=by simp only[World.shape?]at g;split at g;rename_i c e f h;exact⟨c,e,f,h⟩;cases g
  have D:=Cp.push d (b,l);have P:(d.push (b,l))[d.size]? =some (b,l):=by simp
  have K:(u.push M.toArray)[d.size]? =some M.toArray:=by simp[<-h.size]
  refine⟨d.push (b,l),u.push M.toArray,some ⟨d.size,0,.none⟩,⟨by simp[h.size],λj c n m=>?_⟩,D,Cp.push _ _,.slice o p P,λk x g=>⟨d.size,_,rfl,K,by simpa using g⟩,λe=>by cases e⟩;rw[nS]at m;split at m;rename_i e;subst e;cases m;refine⟨M.toArray,B,t,C,K,J,λi x g=>?_⟩;obtain⟨y,E,F⟩:=z.get (i:=i) (x:=x) (by simpa using g);have v:=O i y E;rw[iB]at v;simp only[World.cell?,J]at v;refine⟨y,?_,F.mono D⟩;rw[Nat.add_comm];simpa using v;obtain⟨G,H,Q,R,E,F,v⟩:=h.at_ j c n m;refine⟨G,H,Q,R,Cp.push _ _ _ _ E,F,λi x g=>?_⟩;obtain⟨y,S,T⟩:=v i x g;exact⟨y,S,T.mono D⟩
def NQ(b:Array dU)(w:cn):Prop:=∀(j:Nat) a,b[j]? =some a->w.heap[j]? =some (.cells a sR (0,a.size))
def FA.cell{b:Array dU}(h:FA b a M)(c:NQ b w)(k:Nat)(d:M[k]? =some x):∃j,a=some ⟨j,0,.none⟩/\w.cell? ⟨j,k,.none⟩=some x:=by obtain⟨j,e,f,g,i⟩:=h k x d;exact⟨j,f,by simp only[World.cell?,c j e g];simpa using i⟩
def Kw{k:Nat->Bool}(H:l.all (SI l)=true)(m:f.all (okF f false k)=true){E:Func}{tm:Tmp}(I:V.prog.funcs[K]? =some E)(p:E.results=#[.tmp tm])(c:K≠163)(q:l.contains K=true)(s:f.contains K=true) (u:PR.inits.idxOf? K=none){ws:jR}{z:Array dU}(J:Seen w ws z){xs args:dU}(A:∀g:dm,g.r=ws.r->g.sh=ws.sh->fc g xs args)
 (L:∀B:cn,NQ z B->Calls V.prog K xs B (ux λv a=>v=.bool true/\Ext B a)):
 ∃N last o a F,runNT PR (N+1) (solo (G (Frame.enter PR K args .normal) []) w) #[]=(.ended o a,F)/\runN PR N (solo (G (Frame.enter PR K args .normal) []) w)=.next last/\Go.step PR last=.ended o a/\Go.Conc.Good PR (λx a=>x=.bool true/\Go.RowKit.Below w.heap.size w a) last o a F:=by
 refine NP (v:={w with heap:=z.map λd=>.cells d sR (0,d.size)}) (ws:=ws) H m I p c q s u (λj b n C=>?_) A λT Y=>?_;obtain⟨d,M,t,Z,O,P,Q⟩:=J.at_ j b n C;refine⟨.cells d sR (0,d.size),_,by simp[O],P,λg R D=>⟨_,_,_,_,_,rfl,rfl,λo S=>⟨fV _,S⟩,λi x U=>?_⟩⟩;obtain⟨y,W,X⟩:=Q i x U;exact⟨y,W,X.vr R D⟩;refine(L _ λj d C=>?_).mono λe a h=>?_;simp[cQ,C];rcases h with⟨v,rfl,rfl,_⟩|h;exact .inl rfl;exact .inr h
end Go.Proofs.W
namespace Go.Proofs.YteeagjkaflglpaaGreat
open Go.ChangeShapes Go.WideShapes Go.ChangeAt Go.RowKit Go.Conc Go.Proofs.W Go.Deep
section
variable{H:Type}{enc:cw×cq->H}{w:cn}{sp:Nat->Bool}{b0:Nat}
structure Given{α:Type}(w:cn)(f:α->List cq)(a:Option Addr)(cap:Nat)(xs:List α):Prop where
 cap:xs.length<=cap
 len:xs.length<=9223372036854775807
 nil:a=none->xs=[]
 at_:∀ad,a=some ad->ad.spot=none/\(∃x,w.shape? ad.block=some x)/\∀(i:Nat) y,(xs.flatMap f)[i]? =some y->w.cell? (ad.add i)=some y
def rG{α:Type} [Inhabited α]{f:α->dr}{n:Nat}{t e:cw}(C:0<n)(q:∀x,(f x).length=n)(E:Tryz.prog.underlying t=some (.slice e))(M:Tryz.prog.cellsOf e=n) (r:∀{k:Nat} {s:dr} {x:DataW H×List MemPlace},DataW.trod enc Tryz.prog w 0 sp true k e s=some x->∃y,s=f y){v:cq}{o:Nat}{x:DataW H×List MemPlace}(u:Value.okWide Tryz.prog w .any b0 t v)(h:DataW.trod enc Tryz.prog w 0 sp true o t [v]=some x):∃a g F,v=.slice a F.length g/\Given w f a g F:=by
 rcases open_slice E h with⟨d,_⟩|⟨a,b,g,m,k,D,W,d,_,N,O,z,_,P⟩;have d:=(List.cons.inj d).1;exact⟨none,0,[],d,⟨fV _,fV _,λ_=>rfl,λQ e=>by cases e⟩⟩;have d:=(List.cons.inj d).1;subst d;obtain⟨R,S⟩:=IL E u;have T:b<=m:=by rw[z];split<;>omega
 obtain⟨X,U⟩:=choose_lt (α:=α) (n:=b) (p:=λi y=>w.cells? 0 (a.add (i*n)) n=some (f y)) λi A=>by obtain⟨s,d,V⟩:=P i (by omega);obtain⟨y,rfl⟩:=r V;rw[M]at d;exact⟨y,d⟩
 have c:((List.range b).map X).length=b:=by simp
 refine⟨some a,g,(List.range b).map X,by rw[c],⟨by rw[c];exact N,by rw[c];simp only[maxLen]at O;omega,λe=>(by cases e),λQ e=>?_⟩⟩;cases e;refine⟨R,S,λi y G=>?_⟩;have A:=(iI.1 G).1;rw[zB q,c]at A;have I:i/n<b:=(Nat.div_lt_iff_lt_mul C).2 A;have J:=Nat.mod_lt i C;have j:=Nat.div_add_mod i n;rw[Nat.mul_comm]at j;obtain⟨_,_,l⟩:=World.cells?_some (U (i/n) I);have K:=l (i%n) J;rw[add_add,j]at K;rw[K];have B:i%n<(f ((List.range b).map X)[i/n]).length:=by rw[q];exact J
 have L:=pX q ((List.range b).map X) (i/n) (by rw[c];exact I) (i%n) _ (eV B);rw[j,G]at L;rw[cO L];simp only[List.getElem_map,List.getElem_range];exact eV _
def zM{t:cw}{k:Nat}{d:dr}{x:DataW H×List MemPlace}(j:Tryz.prog.underlying t=some (.struct (Tryz.prog.fieldsOf t)))(h:DataW.trod enc Tryz.prog w 0 sp true k t d=some x){l:List (cw×Nat)}(m:(Tryz.prog.fieldsOf t).toList.map (λf=>(f.type,f.offset))=l)(i:Nat){u:cw}{o:Nat}(e:l[i]? =some (u,o)):
 ∃k y,DataW.trod enc Tryz.prog w 0 sp true k u ((d.drop o).take (Tryz.prog.cellsOf u))=some y:=by
 obtain⟨p,n,_,_,q,b,r⟩:=DataW.trod_struct j h;subst m;rw[so]at e;obtain⟨g,a,s⟩:=il.1 e;have a:(Tryz.prog.fieldsOf t)[i]? =some g:=by simpa using a
 have c:i<p.length:=by rw[b];exact(eU.1 a).1
 have:=r i g a;rw[eV c]at this;cases s;exact⟨n,_,this⟩
def Ss:Tryz.prog.cellsOf 4=1:=by kernel_rfl
def IH:Tryz.prog.cellsOf 84=3:=by kernel_rfl
def II:Tryz.prog.cellsOf 81=3:=by kernel_rfl
def Qd:Tryz.prog.cellsOf 24=7:=by kernel_rfl
def Qe:Tryz.prog.cellsOf 22=1:=by kernel_rfl
def FB:Tryz.prog.underlying 84=some (.struct (Tryz.prog.fieldsOf 84)):=by kernel_rfl
def IJ:Tryz.prog.underlying 81=some (.struct (Tryz.prog.fieldsOf 81)):=by kernel_rfl
def uJ:Tryz.prog.underlying 24=some (.struct (Tryz.prog.fieldsOf 24)):=by kernel_rfl
def Q8:Tryz.prog.underlying 22=some (.slice 81):=by kernel_rfl
def Q9:Tryz.prog.underlying 25=some (.slice 84):=by kernel_rfl
def Hk:(Tryz.prog.fieldsOf 84).toList.map (λf=>(f.type,f.offset))=[(3,0),(3,1),(4,2)]:=by kernel_rfl
def Hl:(Tryz.prog.fieldsOf 81).toList.map (λf=>(f.type,f.offset))=[(3,0),(3,1),(3,2)]:=by kernel_rfl
def tB:(Tryz.prog.fieldsOf 24).toList.map (λf=>(f.type,f.offset))=[(3,0),(3,1),(3,2),(3,3),(3,4),(3,5),(22,6)]:=by kernel_rfl
def nL{k i o:Nat}{t:cw}{a:dr}{x:DataW H×List MemPlace}(c:Tryz.prog.underlying t=some (.struct (Tryz.prog.fieldsOf t)))(h:DataW.trod enc Tryz.prog w 0 sp true k t a=some x){l:List (cw×Nat)}(d:(Tryz.prog.fieldsOf t).toList.map (λf=>(f.type,f.offset))=l)(e:l[i]? =some (3,o)):∃n,a[o]? =some (.int .i64 n):=by obtain⟨k,y,g⟩:=zM c h d i e;obtain⟨n,b,_⟩:=DataW.trod_int Tryz.IK g;rw[Tryz.KX]at b;refine⟨n,?_⟩;have j:=cT (λl:dr=>l[0]?) b;simpa using j
def Hm{t:cw}{k:Nat}{b:dr}{x:DataW H×List MemPlace}(c:Tryz.prog.underlying t=some (.struct (Tryz.prog.fieldsOf t)))(h:DataW.trod enc Tryz.prog w 0 sp true k t b=some x):b.length=Tryz.prog.cellsOf t:=by obtain⟨d,n,_,_,a,_⟩:=DataW.trod_struct c h;exact a
def FC{k:Nat}{d:dr}{x:DataW H×List MemPlace}(h:DataW.trod enc Tryz.prog w 0 sp true k 84 d=some x):∃q:Tq,d=nQ q:=by
 obtain⟨a,f⟩:=nL FB h Hk (i:=0) rfl;obtain⟨b,g⟩:=nL FB h Hk (i:=1) rfl;obtain⟨m,y,l⟩:=zM FB h Hk 2 rfl;obtain⟨c,e,_⟩:=DataW.trod_bool Tryz.SM l;have j:=Hm FB h;rw[IH]at j;rw[Ss]at e;match d,j with
 |[u,v,z],_=>
  simp at f g e;exact⟨⟨a,b,c⟩,by simp[nQ,f,g,e]⟩
def Kx{k:Nat}{d:dr}{x:DataW H×List MemPlace}(h:DataW.trod enc Tryz.prog w 0 sp true k 81 d=some x):∃q:Dr,d=dL q:=by
 obtain⟨a,e⟩:=nL IJ h Hl (i:=0) rfl;obtain⟨b,f⟩:=nL IJ h Hl (i:=1) rfl;obtain⟨c,g⟩:=nL IJ h Hl (i:=2) rfl;have j:=Hm IJ h;rw[II]at j;match d,j with
 |[u,v,z],_=>
  simp at e f g;exact⟨⟨a,b,c⟩,by simp[dL,e,f,g]⟩
instance:Inhabited Tq:=⟨⟨0,0,false⟩⟩
instance:Inhabited Dr:=⟨⟨0,0,0⟩⟩
def Hn{v:cq}{d:DataW H}{p:List MemPlace}(c:Value.okWide Tryz.prog w .any b0 27 v)(h:DataW.Trod enc Tryz.prog w 0 sp true 27 v d p):∃a b e,v=.slice a e.length b/\Given w iL a b e:=by obtain⟨a,g,b,rfl⟩:=okWide_slice Tryz.vH c;obtain⟨k,h⟩:=h;exact rG (f:=iL) (n:=1) (by decide) (λ_=>rfl) Tryz.vH Tryz.KX (λh=>by obtain⟨n,i,_⟩:=DataW.trod_int Tryz.IK h;exact⟨n,i⟩) c h
def Ky{v:cq}{d:DataW H}{p:List MemPlace}(c:Value.okWide Tryz.prog w .any b0 25 v)(h:DataW.Trod enc Tryz.prog w 0 sp true 25 v d p):∃a b e,v=.slice a e.length b/\Given w nQ a b e:=by obtain⟨a,g,b,rfl⟩:=okWide_slice Q9 c;obtain⟨k,h⟩:=h;exact rG (f:=nQ) (n:=3) (by decide) (λ_=>rfl) Q9 IH FC c h
def Kz{v:cq}(a:Value.okWide Tryz.prog w .any b0 3 v):∃n,v=.int .i64 n:=okWide_int Tryz.IK a
def Qf:Tryz.prog.cellTypes Tryz.prog.depth 24=some [3,3,3,3,3,3,22]:=by kernel_rfl
def Ck{v:cq}{d:DataW H}{p:List MemPlace}(c:Value.okWide Tryz.prog w .any b0 24 v)(h:DataW.Trod enc Tryz.prog w 0 sp true 24 v d p):∃G a b,v=gV G a b/\Given w dL a b G.doors:=by
 simp only[Value.okWide,uJ]at c;obtain⟨l,rfl,B,O,e,_,g⟩:=c;rw[Qf]at e;cases e;obtain⟨k,h⟩:=h;have h:DataW.trod enc Tryz.prog w 0 sp true k 24 l.toList=some (d,p):=h;obtain⟨C,o⟩:=nL uJ h tB (i:=0) rfl;obtain⟨D,q⟩:=nL uJ h tB (i:=1) rfl;obtain⟨E,r⟩:=nL uJ h tB (i:=2) rfl;obtain⟨F,s⟩:=nL uJ h tB (i:=3) rfl;obtain⟨I,t⟩:=nL uJ h tB (i:=4) rfl;obtain⟨J,x⟩:=nL uJ h tB (i:=5) rfl;obtain⟨P,y,m⟩:=zM uJ h tB 6 rfl;rw[Qe]at m;have z:=Hm uJ h;rw[Qd]at z;obtain⟨l⟩:=l;match l,z with
 |[Q,R,S,T,U,V,A],_=>
  simp at o q r s t x m;subst o q r s t x;obtain⟨u,K,L⟩:=g 6 A rfl;cases K;have j:Value.okWide Tryz.prog w .any b0 22 A:=by simp only[Value.okWide,Q8];exact L
  obtain⟨a,b,M,rfl,N⟩:=rG (f:=dL) (n:=3) (by decide) (λ_=>rfl) Q8 II Kx j m;exact⟨⟨C,D,E,F,I,J,M⟩,a,b,rfl,N⟩
end
def Given.seen{m:Type}{f:m->dr}{W:cn}{g:Nat}{i:List m}(h:Given W f a g i){o:jR}{p:Array dU}(q:Seen W o p)(r:∀x,∀u∈f x,(∃k n,u=.int k n)\/∃b,u=.bool b):∃c d j,Seen W c d/\Cp o c/\Cp p d/\VW c (.slice j i.length g) (.slice a i.length g)/\FA d j (i.flatMap f)/\(j=none->i.length=0):=by obtain⟨c,d,j,s,t,v,w,y,z⟩:=q.add (a:=a) i.kq g (Cq.self (l:=i.flatMap f) λu A=>by obtain⟨x,_,B⟩:=sq.1 A;rcases r x u B with⟨k,n,rfl⟩|⟨b,rfl⟩;exact .int _ _;exact .bool _) h.at_ (λe=>by rw[h.nil e];rfl);exact⟨c,d,j,s,t,v,w,y,λe=>by rw[h.nil (z e)];rfl⟩
def zN{d:Type}{f:d->dr}{n:Nat}(p:0<n)(c:∀x,(f x).length=n){g:Array dU}{w:cn}{b:List d}(h:FA g a (b.flatMap f))(l:NQ g w):ir f n w a b:=λk m=>by
 have q:0<(f b[k]).length:=by rw[c];exact p
 obtain⟨j,e,_⟩:=h.cell l (k*n+0) (pX c b k m 0 _ (eV q));refine⟨j,0,e,λi v r=>?_⟩;obtain⟨t,o,s⟩:=h.cell l (k*n+i) (pX c b k m i v r);rw[e]at o;cases o;rw[cG];exact s
def TZ{w:cn}{l:List Dr}(h:ir dL 3 w a l):fZ w a l:=λk d=>by obtain⟨b,o,e,c⟩:=h k d;exact⟨b,o,e,c 0 _ rfl,c 1 _ rfl,c 2 _ rfl⟩
def T1{w:cn}{l:gC}(h:ir iL 1 w a l):gF w a l:=λk c=>by obtain⟨b,o,e,d⟩:=h k c;have:=d 0 _ rfl;rw[oi]at this;exact⟨b,o,e,this⟩
def Qg(x:Dr):∀u∈dL x,(∃k n,u=.int k n)\/∃b,u=.bool b:=λu a=>by simp only[dL,eO,mu,jW]at a;rcases a with rfl|rfl|rfl<;>exact .inl ⟨_,_,rfl⟩
def Qh(x:Int):∀u∈iL x,(∃k n,u=.int k n)\/∃b,u=.bool b:=λu a=>by simp only[iL,eO,mu,jW]at a;rw[a];exact .inl ⟨_,_,rfl⟩
def NR(x:Tq):∀u∈nQ x,(∃k n,u=.int k n)\/∃b,u=.bool b:=λu a=>by simp only[nQ,eO,mu,jW]at a;rcases a with rfl|rfl|rfl;exact .inl ⟨_,_,rfl⟩;exact .inl ⟨_,_,rfl⟩;exact .inr ⟨_,rfl⟩
def T2{c:jR}{d:ek}{b:Nat}(h:VW c (.slice d N.doors.length b) (.slice a N.doors.length b)){e:Go.cP.dm}(f:e.r=c.r)(g:e.sh=c.sh):Go.cP.VR e (gV N d b) (gV N a b):=
 Go.cP.fc.agg (Cq.XO (l:=gL N d b) (m:=gL N a b) (.cons (.int _ _) (.cons (.int _ _) (.cons (.int _ _) (.cons (.int _ _) (.cons (.int _ _) (.cons (.int _ _) (.cons h .nil))))))) f g)
end Go.Proofs.YteeagjkaflglpaaGreat
namespace Go.Proofs.W
open Go.Conc Go.cP Go.RowKit
def VC(f:Nat):Bool:=f==190||f==163
end Go.Proofs.W
namespace Go.Proofs.W
def Ra:cz:=[20,26,27,28,29,30,31,34,35,36,37,38,40,41,42,44,48,49,53,55,58,59,69,71,72,73,74,75,76,79,80,81,82,83,84,88,93,95,96,97,98,99,104,105,106,107,108,109,110,113,114,115,116,117,119,120,121,122,123,125,126,128,129,130,131,133,134,135,137,139,140,141,142,143,144,145,146,153,154,155,156,157,158,159,160,161,162,163,164,165,166,167,168,169,170,171,172,173,174,175,176,177,178,179,180,181,184,185,186,195,196,197,198,199,200,201,222,231]
def NS:cz:=[20,26,27,28,29,30,31,34,35,36,37,38,40,41,42,44,48,49,53,55,58,59,69,71,72,73,74,75,76,79,80,81,82,83,84,88,93,95,96,97,98,99,104,105,106,107,108,109,110,113,114,115,116,117,119,120,121,122,123,125,126,128,129,130,131,133,134,135,137,139,140,141,142,143,144,145,146,153,154,155,156,157,158,159,160,161,162,163,164,165,166,167,168,169,170,171,172,173,174,175,176,177,178,179,180,181,184,185,186,190,194,195,196,197,198,199,200,201,215,216,222,227,228,229,231]
def Qi:Ra.all (SI Ra)=true:=by kernel_rfl
def NT:NS.all (okF NS false VC)=true:=by kernel_rfl
end Go.Proofs.W
namespace Go.Proofs.YteeagjkaflglpaaGreat
open Go.ChangeShapes Go.WideShapes Go.ChangeAt Go.RowKit Go.Conc Go.Proofs.W
def KD{H:Type}{a:cw×cq->H}(m:laidOutB P=true)(n:Go.RowKit.Below w.heap.size w t){c:List cw}(j:(c.all λk=>P.readableRec k&&decide (k<P.types.size))=true):∀{e:dr} {f:List (DataW H)} {g:List MemPlace},DataW.TrodAll a P w 0 (λ_=>true) true c e f g->(∀x∈g,x.block<w.heap.size)->
 DataW.TrodAll a P t 0 (λb=>decide (b<w.heap.size)) true c e f g:=by
 induction c with
 |nil=>
  intro e f g h _;obtain⟨rfl,rfl,rfl⟩:=trodAll_nil h;exact trodAll_mk0
 |cons k c o=>
  intro e f g h i;obtain⟨v,e,d,f,p,q,rfl,rfl,rfl,r,s⟩:=trodAll_cons h;simp only[List.all_cons,dW,iQ]at j;exact⟨_,_,(Below.trod m j.1.1 j.1.2 r n λx l=>i x (List.mem_append_left _ l)),(o (by simpa using j.2) s λx l=>i x (List.mem_append_right _ l)),rfl⟩
def KE{H:Type}{a:cw×cq->H}{c:Nat->Bool}{d:DataW H}{p:List MemPlace}(b:Value.okWide Tryz.prog w .any m 84 x)(h:DataW.Trod a Tryz.prog w 0 c true 84 x d p):∃q:Tq,x=.agg (nQ q).toArray:=by simp only[Value.okWide,FB]at b;obtain⟨e,rfl,_⟩:=b;obtain⟨k,h⟩:=h;have h:DataW.trod a Tryz.prog w 0 c true k 84 e.toList=some (d,p):=h;obtain⟨q,f⟩:=FC h;exact⟨q,by cases e;simp_all⟩
def FD(N:Os)(e:N.Started)(H:Type)(enc:cw×cq->H):ReturnsInLeavingWide {} Tryz.checked N 20 .any (Rows.roundLogsSpec.pre6 enc Tryz.prog Tryz.f20 Rows.roundLogsRow.domain false) (Rows.roundLogsSpec.post enc Tryz.prog Tryz.f20 false true false false):=by
 refine returnsInLeavingWide_of_change_sized (C:=Tryz.checked) Tryz.own e Tryz.func20 (ChangeSpec.witness6 (enc:=enc) (C:=Tryz.checked) false ⟨#[],#[.agg #[i64 0,i64 0,i64 0,i64 0,i64 0,i64 0,jK],jK,.agg #[i64 0,i64 0,.bool false],i64 0,jK],[]⟩ 8 (by kernel_rfl) (by kernel_rfl) (by kernel_rfl) (by kernel_rfl)) ?_;intro g u args O gs z i P _ _ _;have c:∀(j:Nat) t v,Tryz.f20.params[j]? =some t->args[j]? =some v->Value.okWide Tryz.prog g .any u t v:=i;have k:=P;obtain⟨p,q,A,hV,rfl,_,_⟩:=P;have Q:DataW.TrodAll enc Tryz.prog g 0 (λ_=>true) true Tryz.f20.params.toList args.toList O p:=A;have y:Tryz.f20.params=#[24,25,84,3,27]:=by kernel_rfl
 obtain⟨rfl,rfl⟩:=trodVars_none hV;simp only[List.append_nil]at k;have B:∀x∈p,x.block<g.me:=λx hx=>by simpa using k.lt x hx
 have m:∀(r:cn),Go.RowKit.Below g.me g r->DataW.TrodAll enc Tryz.prog r 0 (λb=>decide (b<g.me)) true Tryz.f20.params.toList args.toList O p:=
  λr hn=>KD Tryz.laidOut hn (by kernel_rfl) Q B
 have a:=Q;rw[y]at a c;obtain⟨R,l,d0,k0,p0,q,e0,rfl,_,h0,a⟩:=trodAll_cons a;obtain⟨S,l,d1,k1,p1,q,rfl,rfl,_,h1,a⟩:=trodAll_cons a;obtain⟨T,l,d2,k2,p2,q,rfl,rfl,_,h2,a⟩:=trodAll_cons a;obtain⟨U,l,d3,k3,p3,q,rfl,rfl,_,h3,a⟩:=trodAll_cons a;obtain⟨W,l,d4,k4,p4,q,rfl,rfl,_,h4,a⟩:=trodAll_cons a;obtain⟨rfl,rfl,_⟩:=trodAll_nil a;have ea:args=#[R,S,T,U,W]:=by cases args;simp_all
 subst ea;obtain⟨G,da,X,rfl,Y⟩:=Ck (c 0 24 R rfl rfl) h0;obtain⟨la,Z,l,rfl,D⟩:=Ky (c 1 25 S rfl rfl) h1;obtain⟨more,rfl⟩:=KE (c 2 84 T rfl rfl) h2;obtain⟨s,rfl⟩:=Kz (c 3 3 U rfl rfl);obtain⟨na,nc,ns,rfl,g4⟩:=Hn (c 4 27 W rfl rfl) h4;obtain⟨aa,ab,E,S0,_,_,W0,R0,N0⟩:=Y.seen (Seen.none g) Qg;obtain⟨ac,ad,F,S1,P1,Q1,W1,R1,N1⟩:=D.seen S0 NR;obtain⟨ae,af,I,S4,P4,Q4,W4,R4,N4⟩:=g4.seen S1 Qh
 obtain⟨M,last,o,w',t',r1,r2,r3,r4⟩:=Kw Qi NT (V.fn Tryz.func20 (by decide)) (tm:=10) (by kernel_rfl) (by decide) (by decide) (by decide) (by kernel_rfl) S4
  (xs:=#[gV G E X,.slice F l.kq Z,.agg (nQ more).toArray,i64 s,.slice I ns.kq nc]) (args:=#[gV G da X,.slice la l.kq Z,.agg (nQ more).toArray,i64 s,.slice na ns.kq nc]) (λρ J K=>Go.cP.fc.ku (.cons (T2 (W0.mono (P1.trans P4)) J K) (.cons ((W1.mono P4).vr J K) (.cons (Go.cP.fc.agg (Go.cP.fc.ku (.cons (.int _ _) (.cons (.int _ _) (.cons (.bool _) .nil))))) (.cons (.int _ _) (.cons (W4.vr J K) .nil))))))
  (λw L=>Fz (TZ (zN (f:=dL) (n:=3) (by decide) (λ_=>rfl) (R0.mono (Q1.trans Q4)) L)) Y.len (zN (f:=nQ) (n:=3) (by decide) (λ_=>rfl) (R1.mono Q4) L) D.len D.cap N1 more s (T1 (zN (f:=iL) (n:=1) (by decide) (λ_=>rfl) R4 L)) g4.len)
 refine⟨M,last,o,w',t',r1,r2,r3,r4.mono λv hF=>?_⟩;obtain⟨rfl,d⟩:=hF;exact⟨_,_,_,[],p,[],k,trodAll_mk1 (Go.RowKit.shut_bool Tryz.SM true),m _ d,rfl,d.frame _,λh=>by cases h⟩
def KF:Tryz.pinned.checked.prog.funcNamed Rows.roundLogsRow.func=some 20:=by kernel_rfl
def NU:Tryz.f20.isInstance Tryz.pinned.checked.prog Rows.roundLogsRow.origin Rows.roundLogsRow.targs:=dO (by kernel_rfl)
def NV:Tryz.f20.isWrapper Tryz.pinned.checked.prog Rows.roundLogsRow.wrapper Rows.roundLogsRow.mainSum:=by unfold Func.isWrapper;first|(rw[cB (by decide+kernel)];kernel_rfl)|(rw[cy (by decide+kernel)];exact⟨rfl,rfl⟩)
def roundLogs_holds:Rows.RoundLogsSaid:=
 OpenClaim.holds_of_wide_leaving 20 Tryz.f20 rfl rfl rfl rfl rfl rfl rfl ⟨rfl,rfl,rfl,rfl,rfl⟩ rfl rfl rfl rfl rfl KF Tryz.func20 FG NU NV (λc a H b _=>FD c a H b)
#print axioms roundLogs_holds
end Go.Proofs.YteeagjkaflglpaaGreat
