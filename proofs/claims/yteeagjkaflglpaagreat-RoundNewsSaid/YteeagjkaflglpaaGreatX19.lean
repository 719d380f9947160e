/- Laws that the proof needs, part 19. Conditions: none. -/
import Derived.Test.YteeagjkaflglpaaGreatX18
set_option maxRecDepth 100000
set_option maxHeartbeats 8000000
set_option linter.all false
namespace Go.Proofs.W
open Go.RowKit
def Zw(Q:QW):QW
 | .goto _,_,_=>False
 | .normal,l,w=>Q .normal l w
 | .exit i,l,w=>Q (.exit i) l w
 | .ret,l,w=>Q .ret l w
 | .panic c,l,w=>Q (.panic c) l w
 | .outgrown,l,w=>Q .outgrown l w
def NR{N:Nat}{c:Code}{l:L}{w:cd}{Q:QW}(h:WC V.prog Hy N c (Zw Q) l w):kq V.prog N (.scope c) l w Q:=by
 refine⟨λa f=>wp_scope_straight (lV (hZ jG c _ l a w f h) ?_)⟩;rintro e j k ⟨g,b,d⟩;cases e with
 |goto i=>exact d.elim
 |_=>exact⟨g,b,d⟩
def Zx(a0 a b c d:Bool)(x y:dj)(w:cd):Sem.run V.prog (do eqGuard .eql 217 x y (.agg #[.bool a0,.bool a,.bool b,.bool c,.bool d]) (.agg #[.bool false,.bool false,.bool false,.bool false,.bool false]);binOp .eql 217 (.agg #[.bool a0,.bool a,.bool b,.bool c,.bool d]) (.agg #[.bool false,.bool false,.bool false,.bool false,.bool false])) w=.ok (.bool (!(a0||a||b||c||d))) w:=by cases a0<;>cases a<;>cases b<;>cases c<;>cases d<;>kernel_rfl
def kq.qA{P:cf}{N:Nat}{c:Code}{l l0:L}{w:cd}{Q:QW}(b:Sub l0 l)(h:kq P N c l0 w Q):kq P N c l w Q:=⟨λa d=>h.out a (d.sub b)⟩
def kq.mono{P:cf}{N:Nat}{c:Code}{l:L}{w:cd}{Q d:QW}(f:∀e l w,Q e l w->d e l w)(h:kq P N c l w Q):kq P N c l w d:=⟨λa g=>lV (h.out a g) (by rintro e k m ⟨i,b,j⟩;exact⟨i,b,f _ _ _ j⟩)⟩
def WS(a:L)(F:cd->Prop)(Q:QW):QW
 | .normal,l,w=>Sub a l/\F w
 | .goto i,l,w=>Q (.goto i) l w
 | .exit i,l,w=>Q (.exit i) l w
 | .ret,l,w=>Q .ret l w
 | .panic c,l,w=>Q (.panic c) l w
 | .outgrown,l,w=>Q .outgrown l w
def Tm{P:cf}{N:Nat}{c:Code}{l:L}{w:cd}{Q:QW}(a:L)(F:cd->Prop)(h:kq P N c l w (WS a F Q))(b:∀l w,Sub a l->F w->Q .normal l w):kq P N c l w Q:=
 h.mono λe l w h=>by
  cases e with
  |normal=>exact b l w h.1 h.2
  |_=>exact h
def gq.c{A:Nat->Prop}{w w':cd}{a:Option Addr}{l:List Nat}(h:gq A w a l)(d:∀b o v,¬A b->w.cell? ⟨b,o,none⟩=some v->w'.cell? ⟨b,o,none⟩=some v):gq A w' a l:=h.go (λ_ h=>.inl h) d
def zJ(A:Nat->Prop)(e:Nat)(w:cd)(v:ce)(b:List (List Nat)):Prop:=∃d,cA e 27 [.slice none 0 0] w v b.length d/\d.length=b.length/\∀k (h:k<b.length),∃a c,d[k]? =some (.slice a b[k].length c)/\gq A w a b[k]/\b[k].length<=c
theorem zJ.gi{A:Nat->Prop}{b n0:Nat}{w w':cd}{v:ce}{d:List (List Nat)}(h:zJ A b w v d)(e:iB n0 w w'):zJ A b w' v d:=by obtain⟨f,g,i,j⟩:=h;refine⟨f,g.gi e,i,λk l=>?_⟩;obtain⟨a,c,m,n,o⟩:=j k l;exact⟨a,c,m,n.gi e,o⟩
theorem zJ.keep{A:Nat->Prop}{d:Nat}{w w':cd}{v:ce}{e:List (List Nat)}{F:Nat->Prop}(h:zJ A d w v e)(k:cN F w w')(f:∀b,F b->A b)(g:∀b,cw v b->¬F b):zJ A d w' v e:=by obtain⟨j,l,m,n⟩:=h;refine⟨j,l.keep k g,m,λi p=>?_⟩;obtain⟨a,c,q,r,s⟩:=n i p;exact⟨a,c,q,r.c λb o v t u=>k.ef u λx=>t (f b x),s⟩
def zJ.out{A A':Nat->Prop}{i:Nat}{w:cd}{v:ce}{d:List (List Nat)}(h:zJ A i w v d)(l:∀b,A' b->A b)(e:∀b,A' b->b<i):∃a c,v=.slice a d.length c/\kZ A' w a d/\d.length<=c:=by obtain⟨u,⟨x,⟨m,rfl⟩|⟨b,c,y,z,rfl,n,B,o,C,p,D⟩⟩,E,f⟩:=h;exact⟨none,0,by rw[m],λk j=>by omega,by omega⟩;refine⟨_,c,rfl,λk j=>?_,o⟩;obtain⟨a,q,r,s,t⟩:=f k j;exact⟨b,0,a,q,λg=>by have:=e b g;omega,rfl,ci n (by rw[cB,p k (by omega)];exact r),s.more λb g=>.inl (l b g),t⟩
structure MF(F:Nat->Prop)(n0 mk ms:Nat)(G:Gd)(A:Nat->Prop)(a b:cd):Prop where
 os:b.os=a.os
 tape:b.tape=a.tape
 output:b.output=a.output
 size:a.heap.size<=b.heap.size
 drawn:a.drawn<=b.drawn
 block:∀x o,¬F x->a.heap[x]? =some o->(x<n0\/Tg o=false)->b.heap[x]? =some o
 m:(∀x,A x->x<a.heap.size)->ku A mk ms G a->ku A mk ms G b
section
variable{F:Nat->Prop}{n0 mk ms:Nat}{G:Gd}{A:Nat->Prop}{a b w0:cd}
def HU(F:Nat->Prop)(n0 mk ms:Nat)(G:Gd)(A:Nat->Prop):fw (MF F n0 mk ms G A):=
 ⟨λw=>⟨rfl,rfl,rfl,cz _,cz _,λ_ _ _ h _=>h,λ_ h=>h⟩,λa b c h k=>⟨k.os.trans h.os,k.tape.trans h.tape,k.output.trans h.output,cJ h.size k.size,cJ h.drawn k.drawn,λx o d i f=>k.block x o d (h.block x o d i f) f,λg e=>k.m (λx d=>dl (g x d) h.size) (h.m g e)⟩,λw=>⟨rfl,rfl,rfl,cz _,sP _,λ_ _ _ h _=>h,λ_ e=>e.ext (Ext.drew w)⟩⟩
def MR.mf(h:MR n0 mk ms G a b):MF F n0 mk ms G A a b:=⟨h.1.os,h.1.tape,h.1.output,h.1.size,h.1.drawn,λx o _ c d=>h.1.block x o c d,λe f=>h.2 A e f⟩
def MF.at_(h:MF F n0 mk ms G A a b){x:Nat}{cs:Array ce}{t:cg}{c:Nat×Nat}(d:¬F x)(e:a.heap[x]? =some (.cells cs t c)):b.heap[x]? =some (.cells cs t c):=h.block x _ d e (.inr rfl)
def MF.cell(h:MF F n0 mk ms G A a b){ad:Addr}{v:ce}(d:¬F ad.block)(c:a.cell? ad=some v):b.cell? ad=some v:=by unfold World.cell? at c⊢;split at c;rename_i f t g e;rw[h.at_ d e];exact c;cases c
def MF.after(h:MF F n0 mk ms G A a b)(m:iB n0 w0 a)(e:∀x,F x->w0.heap.size<=x):iB n0 w0 b:=
 ⟨h.os.trans m.os,h.tape.trans m.tape,h.output.trans m.output,cJ m.size h.size,cJ m.drawn h.drawn,λx o c d=>h.block x o (λf=>by have:=e x f;have:=cF.lt_of_heap c;omega) (m.block x o c d) d⟩
def MF.NS(k:cN F a b)(c:∀x,F x->A x):MF F n0 mk ms G A a b:=⟨k.os,k.tape,k.output,k.size,k.drawn,λx o d e _=>k.fg e d,λ_ f=>f.keep k c⟩
end
def UU:∀s:Nat,s<32->(!(s.testBit 0||s.testBit 1||s.testBit 2||s.testBit 3||s.testBit 4))=decide (s=0):=by decide+kernel
def Ky.go2{A A':Nat->Prop}{w w':cd}{o:Option (List (List Nat))}{v:ce}{b:Bool}(h:Ky A o v b w)(a:∀b,A' b->A b\/w.heap.size<=b)(c:∀b o v,¬A b->w.cell? ⟨b,o,none⟩=some v->w'.cell? ⟨b,o,none⟩=some v):Ky A' o v b w':=h.go a c
def zK{G:Gd}{s:Nat}(a:s≠0):fJ G s=((List.range (dK s).length).findSome? λm=>eD G (m+1) (dK s) []).map λb=>b.map (cH G):=by rw[fJ,cr a]
def sj(s:Nat):(dK s).length<=5:=j9 s 5
theorem rK{G:Gd}(j:G.doors.length<=5){most:Nat}:∀(a e b:List Nat),(∀d∈a,d<G.doors.length)->(∀s∈e,lP G s)->eD G most a e=some b->(∀s∈b,lP G s)/\b.length<=e.length+a.length
 |[],e,b,_,f,h=>by simp only[eD,fI]at h;subst h;exact⟨f,by simp⟩
 |d::r,e,b,p,f,h=>by
  have g:=p d eR;have q:∀x∈r,x<G.doors.length:=λx l=>p x (eI _ l);simp only[eD]at h;split at h;rename_i o t;obtain rfl:=cE h;obtain⟨i,k,m⟩:=L6 t;split at m;have k:i<e.length:=by simpa using k
  have n:lP G (e.getD i 0):=by rw[getD_eq k];exact f _ (dt k)
  have:=rK j r _ _ q (λs c=>by rcases oS c with c|rfl;exact f s c;exact n.nZ g j) m;simp only[qJ,dW]at this⊢;exact⟨this.1,by omega⟩;cases m;split at h;have:=rK j r _ _ q (λs c=>by rcases gl.1 c with c|c;exact f s c;rw[fD.1 c];exact lP.dB j λx l=>by rw[fD.1 l];exact g) h;simp only[fX,dW,fC]at this⊢;exact⟨this.1,by omega⟩;cases h
def zM{gp mk ms n0 s:Nat}{G:Gd}{w:cd}{A:Nat->Prop}(h:oR gp mk ms G w)(hA:∀b,A b->b<w.heap.size)(hp:ku A mk ms G w)(aU:n0<=mk)(hn:n0<=ms)(hs:lP G s):
 Calls V.prog 130 #[cK gp,.int .u8 s] w (fy λv w'=>MA n0 mk ms G A w w'/\∃u b,v=.tuple #[u,.bool b]/\Ky A (fJ G s) u b w'):=by
 have h5:=h.tY.many;refine go V.func130 Tryz.ntmps130 ?_;refine NR ?_;refine ck (Ks s w hs.1) ?_;rintro v w1 ⟨rfl,e1⟩;refine eF λw2 P e2 bo aB=>cZ aB λZ k3 B=>?_;have B:Z.heap[P]? =some (.cells (pS s).toArray 217):=B.trans (cM (λa=>some (Obj.cells a 217)) (dV (sH 217).toArray (pS s) rfl));have E3:Ext w Z:=(e1.trans e2).cy k3 (by have:=e1.size;omega);have ar:∀{w'},w'.heap[P]? =some (.cells (pS s).toArray 217)->∀{k:ce->cd->Prop},k (oH s) w'->iO V.prog (Instr.loadAt 217 (.pointer (some ⟨P,0,none⟩))) w' k:=λd k hk=>dP (vs:=pS s) (λj v hj=>by rw[cB];exact ci d (by simpa using hj)) hk;refine ar B (dA (.agg #[.bool false,.bool false,.bool false,.bool false,.bool false]) ?_);refine⟨_,Z,Zx _ _ _ _ _ _ _ Z,?_⟩;rw[UU s hs.1];refine⟨λh0=>?_,λh0=>?_⟩;have h0:s=0:=cY h0;subst h0;exact⟨_,rfl,E3.ma _ _ _ _ _,_,_,rfl,rfl,none,0,rfl,λk hk=>by simp at hk,cz _⟩;have h0:s≠0:=dQ h0;have h3:=h.ext E3;have aV:=hp.ext E3;obtain⟨aW,am,an⟩:=Jd NO NM (z:=.agg #[.slice none 0 0,.bool false]) (by intro w;kernel_rfl) aV.k hs.1;have aX:∃u b ok,aW=.tuple #[.agg #[u,.bool b],.bool ok]/\u.oneCell'=true/\((ok=true/\Ky A (fJ G s) u b Z)\/ok=false):=by
  rcases am with⟨v,rfl,u,b,rfl,hw⟩|rfl;refine⟨u,b,true,rfl,?_,.inl ⟨rfl,hw⟩⟩;cases aC:fJ G s with
  |none=>rw[aC]at hw;rw[hw.1];rfl
  |some ls=>rw[aC]at hw;obtain⟨_,a,c,rfl,_⟩:=hw;rfl
  exact⟨_,_,false,rfl,rfl,.inr rfl⟩
 obtain⟨u,b,ok,rfl,aY,aD⟩:=aX;have aZ:qC [u,.bool b]=true:=by simp only[qC,aY];rfl
 have bp:P<Z.heap.size:=cF.lt_of_heap B;refine fV 10 cO (gu (λx=>Z.heap.size<=x)) (λa b h=>h.keep _) ?_;have ah:∀{T},cN (λx=>Z.heap.size<=x) Z T->Ext Z T:=λe=>e.ext λb d f=>by omega
 refine .exact (.map (some mk)) (λT e4=>cu ((ah e4).cell h3.X8) ⟨rfl,Ext.refl _⟩) (.exact (oH s) (λT e4=>ar ((ah e4).at_ B) ⟨rfl,Ext.refl _⟩) (.exact _ (λT e4=>⟨_,_,an T λo ho=>(ah e4).at_ ho,rfl,Ext.refl _⟩) ?_));refine .Kg (λv T=>∃r,v=.pointer (some ⟨r,0,none⟩)/\Z.heap.size<=r/\T.heap[r]? =some (.cells (sH 220).toArray 220)) (λv a b ⟨r,h1,h2,h3⟩ e=>⟨r,h1,h2,e.at_ h3⟩) (λT e4=>eF λw5 r e5 ai d=>⟨⟨r,rfl,cJ e4.size ai,d⟩,e5⟩) ?_;refine .xd (λvs T=>∃r,vs=[.pointer (some ⟨r,0,none⟩)]/\Z.heap.size<=r/\T.heap[r]? =some (.cells #[u,.bool b] 220)) (λvs a b ⟨r,h1,h2,h3⟩ e=>⟨r,h1,h2,e.at_ h3⟩) (λT e4 v7 h7=>?_) ?_;obtain⟨r,rfl,g1,g2⟩:=h7;exact iA g2 (sO rfl) (λw5 k5 a0=>⟨⟨r,rfl,g1,a0⟩,k5.trans (cN.refl (λ_=>False) w5) (λx _ f=>by subst f;exact g1) λ_ _ h=>h.elim⟩) (fU aZ);intro T e4 v7 _ hJ;obtain⟨bq,aE,g1,g2⟩:=hJ;simp only[qm,and_true]at aE;subst aE;have U:=ah e4;refine⟨λhk=>?_,λhk=>?_⟩;refine cQ cO (cG (ci g2 rfl) (cG (ci g2 rfl) λw5 e5=>?_));have hw:=aD.elim (λh=>h.2) λh=>by rw[hk]at h;cases h
 exact⟨_,rfl,((E3.trans U).trans e5).ma _ _ _ _ _,u,b,rfl,hw.go2 (λ_ h=>.inl h) λb o v d E=>(U.trans e5).cell E⟩;clear aD am an;refine eF λw5 p e5 br Q=>?_;have Q:w5.heap[p]? =some (.cells #[.slice none 0 0,.bool false] 220):=Q;have E5:Ext w w5:=(E3.trans U).trans e5;have bs:=cF.lt_of_heap Q;have s3:=E3.size;have bt:=U.size;have ao:=(U.trans e5).at_ B;have a1:ku (λx=>A x\/x=p) mk ms G w5:=((hp.ext (E3.trans U)).more (A':=λx=>A x\/x=p) λx f=>f.imp id λe=>by omega).ext e5;refine ck (uK s w5 hs.1) ?_;rintro lv w6 ⟨e6,a2⟩;obtain⟨la,lc,rfl,a3,bu⟩:=a2.row;have bv:=sj s;refine cD ?_;refine Tm [(0,cK gp),(6,cK P),(9,cK p)] (λw'=>MA n0 mk ms G A w w'/\w'.heap[P]? =some (.cells (pS s).toArray 217)/\∃u b,w'.heap[p]? =some (.cells #[u,.bool b] 220)/\Ky A (fJ G s) u b w') ?_ ?_;refine ei (n:=(dK s).length) (λk=>[(0,cK gp),(1,.int .u8 s),(6,cK P),(9,cK p),(36,.int .i64 (dK s).length),(37,.int .i64 k)]) (λk w'=>iB n0 w w'/\ku (λx=>A x\/x=p) mk ms G w'/\w'.heap[P]? =some (.cells (pS s).toArray 217)/\w'.heap[p]? =some (.cells #[.slice none 0 0,.bool false] 220)/\∀i,i<k->eD G (i+1) (dK s) []=none) ⟨⟨rfl,rfl,rfl,rfl,rfl,rfl,trivial⟩,(E5.trans e6).gi n0,a1.ext e6,e6.at_ ao,e6.at_ Q,λi hi=>by omega⟩ ?_ ?_ ?_;rintro k w' hk hJ;exact cV ⟨rfl,rfl,⟨rfl,rfl,rfl,rfl,rfl,rfl,trivial⟩,hJ⟩;rintro k w7 hk ⟨m7,aa,C,t,H⟩;refine ck (uK s w7 hs.1) ?_;rintro bw w8 ⟨J,a4⟩;obtain⟨da,dc,rfl,au,a5⟩:=a4.row;have m8:=m7.trans (J.gi n0);have K:=aa.ext J;refine cq ?_;have av:∀b,(A b\/b=p)->b<w8.heap.size:=λb d=>d.elim (λd=>by have:=hA b d;have:=m8.size;omega) λe=>e▸cF.lt_of_heap (J.at_ t);have aF:=wm (most:=k+1) (h.gi m8) hn (dK s) [] (λx=>A x\/x=p) da dc (.slice none 0 0) w8 (iB.refl _ _) av K au a5 hs.2 (.inl ⟨rfl,rfl⟩) (λx f=>by cases f) (by simp;omega);rw[show((k+1:Nat):Int)=(k:Int)+1 by omega]at aF;refine ck aF ?_;rintro v w9 ⟨R,W⟩;cases ho:eD G (k+1) (dK s) []with
 |none=>
  rw[ho]at W;have W:v=.tuple #[.slice none 0 0,.bool false]:=W;subst W;refine eu (iR rfl (cq ⟨⟨rfl,rfl,rfl,rfl,rfl,rfl,trivial⟩,m8.trans R.1,R.2 K,R.1.at_ (J.at_ C),R.1.at_ (J.at_ t),λi hi=>?_⟩));rcases eA i k with aj|aG;exact H i aj;obtain rfl:i=k:=by omega
  exact ho
 |some D=>
  rw[ho]at W;obtain⟨ga,gc,rfl,a6⟩:=W;refine eu (iG rfl (cD ?_));obtain⟨aH,aI⟩:=rK h5 (dK s) [] D hs.2 (λx f=>by cases f) ho;have aI:D.length<=5:=by simp at aI;omega
  have s5:=e6.size;have s8:=m8.size;have s9:=R.1.size;have bm:p<w8.heap.size:=cF.lt_of_heap (J.at_ t);have bn:P<w8.heap.size:=cF.lt_of_heap (J.at_ C);have aJ:P≠p:=by have:=cF.lt_of_heap ao;have:=cF.lt_of_heap B;omega
  have aw:∀b,¬cw (.slice none 0 0) b:=λb d=>by obtain⟨_,_,d⟩:=d;cases d
  refine gC (n:=D.length) (λj v=>[(0,cK gp),(6,cK P),(9,cK p),(51,.slice ga D.length gc),(52,.int .i64 D.length),(53,.int .i64 j)]) (λj v w'=>iB n0 w w'/\w9.heap.size<=w'.heap.size/\ku (λx=>(A x\/x=p)\/cw v x) mk ms G w'/\w'.heap[P]? =some (.cells (pS s).toArray 217)/\w'.heap[p]? =some (.cells #[v,.bool false] 220)/\zJ (λx=>(A x\/x=p)\/cw v x) w9.heap.size w' v ((D.take j).map (cH G))/\∀k (h:k<D.length),∃b o,(w8.heap.size<=b/\b<w9.heap.size)/\ga=some ⟨b,o,none⟩/\w'.cell? ⟨b,o+k,none⟩=some (.int .u8 D[k])) (.slice none 0 0) ⟨⟨rfl,rfl,rfl,rfl,rfl,rfl,trivial⟩,m8.trans R.1,cz _,(R.2 K).more λb d=>d.elim .inl λd=>absurd d (aw b),R.1.at_ (J.at_ C),R.1.at_ (J.at_ t),⟨[],cA.nil _ _ _ _,rfl,λk hk=>by simp at hk⟩,λi hi=>?_⟩ ?_ ?_ ?_;obtain⟨b,o,x0,x1,x2⟩:=a6 i hi;exact⟨b,o,⟨x0,nF x2⟩,x1,x2⟩;rintro j v L hj hJ;exact cV ⟨rfl,rfl,⟨rfl,rfl,rfl,rfl,rfl,rfl,trivial⟩,hJ⟩;rintro j v L hj ⟨ax,a7,M,O,I,F,ab⟩;obtain⟨gb,bx,bz,aK,a8⟩:=ab j hj;have f:=aH _ (dt hj);have y:∀b,cw v b->w9.heap.size<=b/\b<L.heap.size:=λb d=>by obtain⟨us,X,_⟩:=F;exact X.blk d
  have S:∀b,((A b\/b=p)\/cw v b)->b<L.heap.size:=λb d=>d.elim (λd=>by have:=av b d;omega) λd=>(y b d).2;subst aK;refine dI j hj (cu a8 ?_);refine fV 6 (WM n0 mk ms G) (HU (cw v) n0 mk ms G (λx=>(A x\/x=p)\/cw v x)) (λa b h=>h.mf) ?_;have aL:¬cw v p:=λd=>by have:=(y p d).1;omega
  have a9:¬cw v P:=λd=>by have:=(y P d).1;omega
  have aM:∀{g},MF (cw v) n0 mk ms G (λx=>(A x\/x=p)\/cw v x) L g->iB n0 w g:=λe=>e.after ax λx f=>by have:=(y x f).1;omega
  refine .exact v (λg q=>cu (ci (q.at_ aL I) rfl) ⟨rfl,MR.refl _⟩) ?_;refine .rel (λu g=>ShR (λx=>(A x\/x=p)\/cw v x) G D[j] u g) (λu a b hu e=>hu.go (λ_ h=>.inl h) λb o x d E=>e.cell (λhf=>d (.inr hf)) E) (λg q=>?_) ?_;have ac:∀b,((A b\/b=p)\/cw v b)->b<g.heap.size:=λb d=>dl (S b d) q.size;exact ck (xi (h.gi (aM q)) ac (q.m S M) hn f.1 f.2) λu ad ⟨ba,bb⟩=>⟨bb _ ac (q.m S M),ba⟩;refine .rel (λx g=>∃r u,x=.slice (some ⟨r,0,none⟩) 1 1/\L.heap.size<=r/\g.heap[r]? =some (.cells [u].toArray 27)/\ShR (λx=>(A x\/x=p)\/cw v x) G D[j] u g) (λx a b ⟨r,u,h1,h2,h3,h4⟩ e=>⟨r,u,h1,h2,e.at_ (λhf=>by have:=(y r hf).2;omega) h3,h4.go (λ_ h=>.inl h) λb o x d E=>e.cell (λhf=>d (.inr hf)) E⟩) (λg q u hu=>?_) ?_;obtain⟨a,c,rfl,X,E⟩:=hu;refine dJ [.slice a (cH G D[j]).length c] 27 (λad r aN ai d=>⟨⟨r,_,rfl,cJ q.size ai,d,a,c,rfl,X.c λb o x _ f=>aN.cell f,E⟩,aN.mr⟩) ?_;intro w;kernel_rfl;refine .spec (λv' g=>(∀x,((A x\/x=p)\/cw v' x)->x<g.heap.size)/\ku (λx=>(A x\/x=p)\/cw v' x) mk ms G g/\zJ (λx=>(A x\/x=p)\/cw v' x) w9.heap.size g v' ((D.take j).map (cH G)++[cH G D[j]])) (λv' a b ⟨h1,h2,h3⟩ e=>⟨λx f=>dl (h1 x f) e.1.size,e.2 _ h1 h2,h3.gi e.1⟩) (λg q aO bc bd bA=>?_) ?_;obtain⟨r,u,rfl,ai,aP,ua,uc,rfl,be,bf⟩:∃r u,aO=.slice (some ⟨r,0,none⟩) 1 1/\L.heap.size<=r/\g.heap[r]? =some (.cells [u].toArray 27)/\ShR (λx=>(A x\/x=p)\/cw v x) G D[j] u g:=bc;obtain⟨us,X,aQ,bg⟩:=F.gi q.1;have bB:((D.take j).map (cH G)).length<=5:=by simp;omega
  have ae:=q.2 _ S M;refine fP Nt X (by have:=q.1.size;omega) aP (by omega) (λv' ad g1 g2 g3=>⟨⟨λx f=>?_,?_,us++[.slice ua (cH G D[j]).length uc],by simpa using g1,by simp[aQ],λi hi=>?_⟩,MF.NS g2 λx f=>.inr f⟩) rfl (by simp[qC,Value.oneCell']);rcases f with f|f;have:=av x f;have:=q.1.size;have:=g2.size;omega;exact(g1.blk f).2;exact((ae.more (A':=λx=>((A x\/x=p)\/cw v x)\/cw v' x) λx f=>f.elim .inl λf=>(g3 x f).elim (λh=>.inl (.inr h)) .inr).keep g2 λx f=>.inl (.inr f)).fewer λx f=>f.elim (λh=>.inl (.inl h)) .inr;have up:∀{a:Option Addr} {l:List Nat},gq (λx=>(A x\/x=p)\/cw v x) g a l->gq (λx=>(A x\/x=p)\/cw v' x) ad a l:=λhn=>by have h1:gq (λx=>((A x\/x=p)\/cw v x)\/cw v' x) ad _ _:=(hn.more (A':=λx=>((A x\/x=p)\/cw v x)\/cw v' x) λx f=>f.elim .inl λf=>(g3 x f).elim (λh=>.inl (.inr h)) .inr).c λb o x d E=>g2.ef E λhf=>d (.inl (.inr hf));exact h1.more λx f=>.inl (f.elim (λh=>.inl (.inl h)) .inr)
  rcases eA i ((D.take j).map (cH G)).length with aj|aG;obtain⟨a,c,x1,x2,x3⟩:=bg i aj;rw[lI aj];exact⟨a,c,by rw[kz (by omega)];exact x1,up x2,x3⟩;obtain rfl:i=((D.take j).map (cH G)).length:=by simp at hi aG⊢;omega
  refine⟨ua,uc,by rw[mQ (by omega)];simp[aQ],?_,?_⟩;simp only[qI (cz _),lf,mS];exact up be;simp only[qI (cz _),lf,mS];exact bf;intro g q af bh aO _ bd _;obtain⟨ac,ae,N⟩:(∀x,((A x\/x=p)\/cw af x)->x<g.heap.size)/\ku (λx=>(A x\/x=p)\/cw af x) mk ms G g/\zJ (λx=>(A x\/x=p)\/cw af x) w9.heap.size g af ((D.take j).map (cH G)++[cH G D[j]]):=bh;have aR:∃a l c,af=.slice a l c:=by obtain⟨us,X,_⟩:=N;obtain⟨a,c,rfl,_⟩:=X.len;exact⟨a,_,c,rfl⟩
  obtain⟨va,vl,vc,rfl⟩:=aR;have ay:∀b,cw (.slice va vl vc) b->w9.heap.size<=b:=λb d=>by obtain⟨us,X,_⟩:=N;exact(X.blk d).1
  refine iA (q.at_ aL I) (sO rfl) (λad Y aS=>cq ⟨.slice va vl vc,⟨rfl,rfl,rfl,rfl,rfl,rfl,trivial⟩,(aM q).cy Y (by omega),by have:=q.size;have:=Y.size;omega,ae.keep Y (λx f=>.inl (.inr f)),Y.fg (q.at_ a9 O) aJ,aS,?_,λi hi=>?_⟩) (fU rfl);have ht:(D.take (j+1)).map (cH G)=(D.take j).map (cH G)++[cH G D[j]]:=by rw[gP hj,nQ];rfl
  rw[ht];exact N.keep Y (λx f=>.inl (.inr f)) λx f az=>by have:=ay x f;have:x=p:=az;omega
  obtain⟨b,o,x0,x1,x2⟩:=ab i hi;exact⟨b,o,x0,x1,Y.ef (q.cell (λhf=>by have:=(y b hf).1;omega) x2) (by show¬b=p;omega)⟩;rintro v L ⟨ax,a7,M,O,I,F,ab⟩;rw[kX]at F;refine iA I (sO rfl) (λg al ag=>?_) (fU rfl);have ag:g.heap[p]? =some (.cells #[v,.bool true] 220):=ag;have y:∀b,cw v b->w9.heap.size<=b:=λb d=>by obtain⟨us,X,_⟩:=F;exact(X.blk d).1
  have N:=F.keep al (λx f=>.inl (.inr f)) λx f az=>by have:=y x f;have:x=p:=az;omega
  obtain⟨a,c,hv,hl,E⟩:=N.out (A':=A) (λb d=>.inl (.inl d)) λb d=>by have:=hA b d;omega
  refine⟨⟨rfl,rfl,rfl,trivial⟩,⟨ax.cy al (by omega),λ_=>(M.keep al λx f=>.inl (.inr f)).fewer λb d=>.inl (.inl d)⟩,al.fg O aJ,v,true,ag,?_⟩;rw[zK h0,rJ hk H ho];exact⟨rfl,a,c,hv,hl,E⟩
 rintro w7 ⟨m7,aa,C,t,H⟩;refine⟨⟨rfl,rfl,rfl,trivial⟩,⟨m7,λ_=>aa.fewer λb d=>.inl d⟩,C,_,_,t,?_⟩;rw[zK h0,sX H];exact⟨rfl,rfl⟩;rintro l w7 aT ⟨m7,C,u7,b7,t,bi⟩;have h7:=h.gi m7.1;have aa:=m7.2 hp;refine kq.qA aT (cQ cO (cG h7.X8 (dx (oH s) (λw8 J=>ar (J.at_ C) ⟨rfl,Ext.refl _⟩) (dx (.agg #[u7,.bool b7]) (λw8 J=>dP (vs:=[u7,.bool b7]) (λj v hj=>by rw[cB];exact ci (J.at_ t) (by simpa using hj)) ⟨rfl,Ext.refl _⟩) λw8 J=>?_))));have ap:Ky A (fJ G s) u7 b7 w8:=bi.go2 (λ_ h=>.inl h) λb o v d E=>J.cell E;have K:=aa.ext J;refine uQ NO NM K.k hs.1 aU (λw9 m=>⟨λs u hu=>hu.go (λ_ h=>.inl h) λb o v d E=>m.cell E,u7,b7,rfl,ap.go2 (λ_ h=>.inl h) λb o v d E=>m.cell E⟩) λw9 R bj bk=>?_;have bl:ku A mk ms G w9:=⟨K.s.go (λs v X=>X.go (λ_ h=>.inl h) λb o v d E=>R.cell E) λo ho=>by rw[bj ms (fO h.ne)];exact ho,bk,K.ak,K.asm⟩;have aq:=R.at_ (J.at_ t);refine cQ cO (cG (ci aq rfl) (cG (ci aq rfl) λL aA=>?_));exact⟨_,rfl,⟨m7.1.trans ((J.gi n0).trans (R.trans (aA.gi n0))),λ_=>bl.ext aA⟩,u7,b7,rfl,ap.go2 (λ_ h=>.inl h) λb o v d E=>aA.cell (R.cell E)⟩
structure Tq where
 door:Int
 shift:Int
 opened:Bool
def Pc(t:Tq):List ce:=[.int .i64 t.door,.int .i64 t.shift,.bool t.opened]
def sI(w:cd)(a:Option Addr)(l:List Tq):Prop:=∀k (h:k<l.length),∃b o,a=some ⟨b,o,none⟩/\∀j v,(Pc l[k])[j]? =some v->w.cell? ⟨b,o+k*3+j,none⟩=some v
def sI.ext{w w':cd}{a:Option Addr}{l:List Tq}(h:sI w a l)(e:Ext w w'):sI w' a l:=λk c=>by obtain⟨b,o,d,f⟩:=h k c;exact⟨b,o,d,λj v g=>e.cell (f j v g)⟩
def oe:Sx:=⟨0,0,0,false,false,false,false,false⟩
def rL(G:Gd):List Sx->Int->List Tq->Int×List Sx
 |xs,_,[]=>(0,xs)
 |xs,a,t::r=>
  if jX t.door 0 ((G.doors.length:Int)-1)&&jX t.shift 0 (2*G.days-1)then
   if t.shift<a then(5,[])
   else if tH (xs.getD t.door.toNat oe) (t.shift.toNat/2)then(4,[])
   else if gA G.tries (xs.getD t.door.toNat oe)then(12,[])
   else rL G (xs.set t.door.toNat (iJ (xs.getD t.door.toNat oe) t.shift.toNat t.opened)) t.shift r
  else(3,[])
def gO(G:Gd)(l:List Tq):Int×List Sx:=rL G (List.replicate G.doors.length oe) 0 l
def tZ(k:Nat)(x:Sx):Prop:=(0<=x.tries/\x.tries<=k)/\(0<=x.mornings/\x.mornings<=k)/\0<=x.evenings/\x.evenings<=k
def tZ.RV{k:Nat}{x:Sx}(h:tZ k x)(s:Nat)(o:Bool):tZ (k+1) (iJ x s o):=by obtain⟨a,b,c⟩:=h;unfold iJ tZ;refine⟨by constructor<;>simp only<;>omega,?_,?_⟩;constructor<;>simp only<;>split<;>omega;simp only;split<;>omega
def tZ.up{k:Nat}{x:Sx}(h:tZ k x):tZ (k+1) x:=by obtain⟨a,b,c⟩:=h;refine⟨⟨a.1,by omega⟩,⟨b.1,by omega⟩,c.1,by omega⟩
def NT{w:cd}{d n:Nat}(f:w.heap[d]? =some (.cells (madeCells (sH 166).toArray (n*8)) 166)):nD d (List.replicate n oe) w:=by
 refine⟨_,f,by simp[madeCells],λk g j v a=>?_⟩;have b:j<8:=(gy.1 a).1;have h:k<n:=by simpa using g
 have c:k*8+j<n*8:=by have:=oq 8 (show k+1<=n by omega);omega
 have i:(sH 166).toArray.size=8:=rfl;have l:(k*8+j)%8=j:=by omega
 have e:(madeCells (sH 166).toArray (n*8))[k*8+j]? =(sH 166)[j]? :=by
  unfold madeCells;rw[qF,ji (by simpa using c)];simp only[Array.getElem_range,iX,i,l];match j,b with
  |0,_=>rfl
  |1,_=>rfl
  |2,_=>rfl
  |3,_=>rfl
  |4,_=>rfl
  |5,_=>rfl
  |6,_=>rfl
  |7,_=>rfl
 rw[e];simp only[List.getElem_replicate]at a;exact a
def UV(G:Gd)(l:List Tq)(n0:Nat)(v:ce)(w:cd):Prop:=
 ((gO G l).1≠0/\v=.tuple #[.slice none 0 0,.int .i64 (gO G l).1])\/
 ((gO G l).1=0/\(gO G l).2.length=G.doors.length/\(∀x∈(gO G l).2,tZ l.length x)/\∃a,n0<=a/\v=.tuple #[.slice (some ⟨a,0,none⟩) G.doors.length G.doors.length,.int .i64 0]/\nD a (gO G l).2 w)
def KF(G:Gd)(xs:List Sx)(a:Int)(l:List Tq)(k:Nat)(b:k<l.length):rL G xs a (l.drop k)=(if jX l[k].door 0 ((G.doors.length:Int)-1)&&jX l[k].shift 0 (2*G.days-1)then
 if l[k].shift<a then(5,[])
 else if tH (xs.getD l[k].door.toNat oe) (l[k].shift.toNat/2)then(4,[])
 else if gA G.tries (xs.getD l[k].door.toNat oe)then(12,[])
 else rL G (xs.set l[k].door.toNat (iJ (xs.getD l[k].door.toNat oe) l[k].shift.toNat l[k].opened)) l[k].shift (l.drop (k+1))
 else(3,[])):=by
 rw[qH b];rfl
def Tn{gp mk ms:Nat}{G:Gd}{w:cd}(h:oR gp mk ms G w){l:List Tq}{la:Option Addr}{lc:Nat}(hr:sI w la l)(av:l.length<=100000):
 Calls V.prog 137 #[cK gp,.slice la l.length lc] w (fy λv w'=>Ext w w'/\UV G l w.heap.size v w'):=by
 have P:=h.tY;have ae:=P.days;have h5:=P.many;obtain⟨da,dc,h6,aw⟩:=h.c6;refine go V.func137 Tryz.ntmps137 ?_;refine cu h6 (cD (HT NC (cz _) (by omega) λw1 t e1 Q R=>?_));have af:=NT R
 refine cD (gC (n:=l.length) (λk (F:List Sx×Int)=>[(0,cK gp),(6,.slice (some ⟨t,0,none⟩) G.doors.length G.doors.length),(7,.int .i64 F.2),(17,.slice la l.length lc),(18,.int .i64 l.length),(19,.int .i64 k)])
  (λk F w'=>Ext w w'/\nD t F.1 w'/\F.1.length=G.doors.length/\(∀x∈F.1,tZ k x)/\gO G l=rL G F.1 F.2 (l.drop k)) (List.replicate G.doors.length oe,0) ⟨⟨rfl,rfl,rfl,rfl,rfl,rfl,trivial⟩,e1,af,by simp,λx S=>?_,rfl⟩ ?_ ?_ ?_)
 rw[List.eq_of_mem_replicate S];simp[tZ,oe];rintro k F w' hk T;exact cV ⟨rfl,rfl,⟨rfl,rfl,rfl,rfl,rfl,rfl,trivial⟩,T⟩;rintro k ⟨g,bf⟩ w2 hk ⟨e2,m,E,z,f⟩;simp only at m E z f⊢;obtain⟨b,o,rfl,hc⟩:=(hr.ext e2) k hk;rw[KF G g bf l k hk]at f;refine fF k 3 hk (dP (vs:=Pc l[k]) hc (eF λw3 tb e3 ag U=>cZ U λw4 k4 p=>?_));have p:w4.heap[tb]? =some (.cells (Pc l[k]).toArray 84):=p;have ax:t<w2.heap.size:=by obtain⟨_,W,_⟩:=m.out;exact cF.lt_of_heap W
 have e4:Ext w2 w4:=e3.cy k4 ag;have E4:=e2.trans e4;have X:=m.ext e4;have h4:=h.ext E4;have ne:¬(tb=t):=by omega
 obtain⟨ay,az,ah,_⟩:=h4.c6;have A:∀(w':cd) (c:Int),Ext w4 w'->gO G l=(c,[])->c≠0->∃v,Ending.returned (one [.slice none 0 0,.int .i64 c])=.returned v/\Ext w w'/\UV G l w.heap.size v w':=λw' c e hc h0=>⟨_,rfl,E4.trans e,.inl ⟨by rw[hc];exact h0,by rw[hc];rfl⟩⟩;refine cQ cO (cG (ci p rfl) (cG ah (VK _ (λw e=>cD ⟨rfl,Ext.refl _⟩) (vX (ia cO _ (λw e=>ej _ _ _ w) (rE λw5 Y=>⟨λH=>iR H ?_,λH=>?_⟩))))));exact A w5 3 Y (by rw[f,cr];simp at H;simp[H]) (by omega);have H:jX l[k].door 0 ((G.doors.length:Int)-1)=true:=by simpa using H
 refine cQ cO (cG (ci (Y.at_ p) rfl) (ia cO _ (λw e=>last_at (h4.ext (Y.trans e))) (ia cO _ (λw e=>ej _ _ _ w) (rE λw6 e6=>⟨λr=>?_,λr=>?_⟩))));exact A w6 3 (Y.trans e6) (by rw[f,cr];simp at r;simp[r]) (by omega);have r:jX l[k].shift 0 (2*G.days-1)=true:=by simpa using r
 rw[cx (by rw[H,r];rfl)]at f;simp only[jX,ez,jk]at H r;obtain⟨d,hd⟩:∃d:Nat,l[k].door=(d:Int):=⟨l[k].door.toNat,by omega⟩;obtain⟨s,hs⟩:∃s:Nat,l[k].shift=(s:Int):=⟨l[k].shift.toNat,by omega⟩;have B:d<g.length:=by omega
 have ai:s<6:=by omega
 have C:=Y.trans e6;have y:w6.heap[tb]? =some (.cells #[.int .i64 d,.int .i64 s,.bool l[k].opened] 84):=by rw[C.at_ p,Pc,hd,hs]
 have I:=X.ext C;have aj:g.getD d oe=g[d]:=getD_eq B;rw[hd,hs]at f;simp only[ql,aj]at f;refine cu (ci y rfl) (cV ⟨λak=>?_,λal=>?_⟩);exact A w6 5 C (by rw[f,cx (cY ak)]) (by omega);rw[cr (dQ al)]at f
 have Z:∀{w'},nD t g w'->w'.cell? ⟨t,0+d*8+4+s/2,none⟩=some (.bool (tH g[d] (s/2))):=λhS=>by
  obtain⟨cs,W,y2,y3⟩:=hS.out;refine ci W ?_;have am:s/2=0\/s/2=1\/s/2=2:=by omega
  rw[show 0+d*8+4+s/2=d*8+(4+s/2) by omega];refine y3 d B (4+s/2) _ ?_;rcases am with e|e|e<;>rw[e]<;>rfl
 refine cQ cO (cG (ci y rfl) (cG (ci y rfl) (dx (.int .i64 ((s/2:Nat):Int)) (λw1 _=>rG (n:=2) (by omega) (by omega) ⟨rfl,Ext.refl _⟩) (kK d 8 (by omega) (dx (.pointer (some ⟨t,0+d*8+4+s/2,none⟩)) (λw1 _=>yh 3 (by omega) ⟨rfl,Ext.refl _⟩) (cG (Z I) λw7 e7=>⟨λM=>?_,λM=>?_⟩))))));exact A w7 4 (C.trans e7) (by rw[f,cx M]) (by omega);rw[cr (by rw[M];simp)]at f;have N:=C.trans e7;have J:=I.ext e7;have K:=e7.at_ y;have aa:∀{w'},nD t g w'->∀j v,(kY g[d])[j]? =some v->w'.cell? ⟨t,0+d*8+j,none⟩=some v:=λhS j v hj=>by obtain⟨cs,W,y2,y3⟩:=hS.out;exact ci W (by rw[cB];exact y3 d B j v hj)
 refine cu (ci K rfl) (fF d 8 (by omega) (dP (vs:=kY g[d]) (aa J) (dq (uL (h4.ext N) g[d]) λw8 e8=>⟨λO=>?_,λO=>?_⟩)));exact A w8 12 (N.trans e8) (by rw[f,cx O]) (by omega);rw[cr (by rw[O];simp)]at f;have an:=N.trans e8;have L:=J.ext e8;have ab:=e8.at_ K;have ac:=z _ (dt B);have ao:(0<=g[d].tries/\g[d].tries<=1000000)/\(0<=g[d].mornings/\g[d].mornings<=1000000)/\0<=g[d].evenings/\g[d].evenings<=1000000:=by obtain⟨z1,z2,z3⟩:=ac;omega
 refine fV 16 cO (gu (λx=>x=t)) (λa b h=>h.keep _) ?_;have D:∀{q},cN (λx=>x=t) w8 q->q.heap[tb]? =some (.cells #[.int .i64 d,.int .i64 s,.bool l[k].opened] 84):=λe=>e.fg ab ne;refine .exact (.int .i64 d) (λq i=>cu (ci (D i) rfl) ⟨rfl,Ext.refl _⟩) (.exact (.int .i64 d) (λq i=>cu (ci (D i) rfl) ⟨rfl,Ext.refl _⟩) ?_);refine .exact _ (λq i=>fF d 8 (by omega) ⟨rfl,Ext.refl _⟩) (.C3 rfl (.agg (kY g[d]).toArray) (λq i=>dP (vs:=kY g[d]) (aa (L.ext i)) ⟨rfl,Ext.refl _⟩) ?_);refine .exact (.int .i64 s) (λq i=>cu (ci (D i) rfl) ⟨rfl,Ext.refl _⟩) (.exact (.bool l[k].opened) (λq i=>cu (ci (D i) rfl) ⟨rfl,Ext.refl _⟩) ?_);refine .exact (.agg (kY (iJ g[d] s l[k].opened)).toArray) (λq i=>dq (BM g[d] s l[k].opened q ai ao) λap aq=>⟨rfl,aq⟩) ?_;refine .exact (.int .i64 s) (λq i=>cu (ci (D i) rfl) ⟨rfl,Ext.refl _⟩) (.exact _ (λq i=>fF d 8 (by omega) ⟨rfl,Ext.refl _⟩) ?_);refine .xd (λ_ q=>nD t (g.set d (iJ g[d] s l[k].opened)) q) (λ_ a b hS e=>hS.ext e) (λq i=>?_) ?_;refine NK (L.ext i) d 0 B (by omega) (iJ g[d] s l[k].opened) (sO rfl) (λj u hj=>?_) (λap ar ad=>⟨ad,ar⟩);have au:j<8:=(gy.1 hj).1;rw[cx ⟨fN _,au⟩];exact hj;intro q i T;have T:nD t (g.set d (iJ g[d] s l[k].opened)) q:=T;refine cq ⟨(g.set d (iJ g[d] s l[k].opened),(s:Int)),⟨rfl,rfl,rfl,rfl,rfl,rfl,trivial⟩,?_,T,by simpa using E,λx S=>?_,f⟩;exact(E4.trans an).cy i Q;rcases oS S with S|rfl;exact(z x S).up;exact ac.RV s _;rintro⟨g,bf⟩ w2 ⟨e2,m,E,z,f⟩;have f:gO G l=(0,g):=by rw[f];simp[rL]
 refine⟨_,rfl,e2,.inr ⟨by rw[f],by rw[f];exact E,by rw[f];exact z,t,?_,rfl,by rw[f];exact m⟩⟩;exact Q
def wn(G:Gd)(l:List Tq):Int:=if eg G=0 then(gO G l).1 else eg G
def iK(l:List Tq):Int:=match l.getLast? with
 |some t=>t.shift
 |none=>0
theorem Jl{G:Gd}:∀{l:List Tq} {xs:List Sx} {b:Int},(rL G xs b l).1=0->∀t∈l,(0<=t.door/\t.door<G.doors.length)/\0<=t.shift/\t.shift<=2*G.days-1
 |t::r,xs,b,h,x,a=>by simp only[rL]at h;split at h;rename_i c;simp only[jX,ez,jk]at c;split at h;simp at h;split at h;simp at h;split at h;simp at h;rcases eQ.1 a with rfl|a;omega;exact Jl h x a;simp at h
def KG{G:Gd}(a:G.Ok){l:List Tq}(h:(gO G l).1=0):0<=iK l/\iK l<=5:=by unfold iK;split;rename_i t b;have:=Jl h t (List.mem_of_getLast? b);have:=a.days;omega;omega
structure FV(w:cd)(wp gp mk ms:Nat)(G:Gd)(xs:List Sx)(bf:Int)(w':cd):Prop where
 k:kU wp gp mk ms G xs bf w'
 g:xO w gp mk ms G w'
 lo:w.heap.size<=wp
theorem FV.ext{w w1 a:cd}{wp gp mk ms:Nat}{G:Gd}{xs:List Sx}{b:Int}(h:FV w wp gp mk ms G xs b w1)(e:Ext w1 a):FV w wp gp mk ms G xs b a:=⟨h.k.ext e,h.g.ext e,h.lo⟩
theorem FV.low{w0 w w1:cd}{wp gp mk ms:Nat}{G:Gd}{xs:List Sx}{a:Int}(h:FV w wp gp mk ms G xs a w1)(e:Ext w0 w):FV w0 wp gp mk ms G xs a w1:=⟨h.k,h.g.low e,cJ e.size h.lo⟩
def NU(w:cd)(G:Gd)(l:List Tq)(v:ce)(w':cd):Prop:=
 (wn G l≠0/\v=.tuple #[.pointer none,.int .i64 (wn G l)])\/(wn G l=0/\∃a b mk c,v=.tuple #[cK a,.int .i64 0]/\FV w a b mk c G (gO G l).2 (iK l) w'/\∀x∈(gO G l).2,tZ l.length x)
def wo{G:Gd}{N:Option Addr}{dc:Nat}{w:cd}(S:gD w N G.doors)(m:G.doors.length<=100000)(T: -1000000<=G.streets/\G.streets<=1000000){l:List Tq}{la:Option Addr}{lc:Nat}(O:sI w la l)(B:l.length<=100000):
 Calls V.prog 125 #[gV G N dc,.slice la l.length lc] w (fy λv w'=>Ext w w'/\NU w G l v w'):=by
 refine go V.func125 Tryz.ntmps125 ?_;refine fo λw1 gb d U W=>di W (ck (vZ (dc:=dc) (S.ext d) m T) ?_);rintro v X ⟨n,⟨h,rfl⟩|⟨h,p,mk,P,rfl,A⟩⟩;exact eG (iR (by simpa using h) ⟨_,rfl,d.trans n,.inl ⟨by rw[wn,cr h];exact h,by rw[wn,cr h];rfl⟩⟩);have e:wn G l=(gO G l).1:=by rw[wn,cx h]
 refine eG (iG (by simp) (ck (Tn A.g (O.ext (d.trans n)) B) ?_));rintro v Y ⟨q,⟨r,rfl⟩|⟨r,s,C,i,Z,rfl,Q⟩⟩;exact eG (iR (by simpa using r) ⟨_,rfl,(d.trans n).trans q,.inl ⟨by rw[e];exact r,by rw[e];rfl⟩⟩);have D:=(d.trans n).trans q;have s1:=d.size;have s2:=n.size;have s3:=q.size;refine eG (iG (by simp) (dA (.agg #[cK p,.slice (some ⟨i,0,none⟩) G.doors.length G.doors.length,.int .i64 0]) (fo λR t j aa c=>?_)));have c:R.heap[t]? =some (.cells #[cK p,.slice (some ⟨i,0,none⟩) G.doors.length G.doors.length,.int .i64 0] 141):=c;have E:=(A.ext (q.trans j)).low d;have u:=Q.ext j;have F:=KG A.g.tY r;have ab:i<Y.heap.size:=by obtain⟨_,y1,_⟩:=Q.out;exact cF.lt_of_heap y1
 have x:∀a,Ext w a->xO w p mk P G a->nD i (gO G l).2 a->a.heap[t]? =some (.cells #[cK p,.slice (some ⟨i,0,none⟩) G.doors.length G.doors.length,.int .i64 (iK l)] 141)->∃v,Ending.returned (one [cK t,.int .i64 0])=.returned v/\Ext w a/\NU w G l v a:=λa H y I f=>
  ⟨_,rfl,H,.inr ⟨by rw[e];exact r,t,p,mk,P,rfl,⟨⟨y.g,s,F,_,G.doors.length,ci f rfl,by rw[s];exact ci f rfl,ci f rfl,I.row⟩,y,by omega⟩,C⟩⟩
 refine cD (ny ⟨λk=>?_,λk=>?_⟩);have k:0<l.length:=by simpa using k
 have J:l.length-1<l.length:=by omega
 obtain⟨b,o,rfl,hc⟩:=(O.ext (D.trans j)) (l.length-1) J;have K:iK l=l[l.length-1].shift:=by unfold iK;rw[List.getLast?_eq_getElem?,ew J]
 refine cD (fx (fF (l.length-1) 3 J (cu (hc 1 _ rfl) (cZ c λa L M=>?_)) (by omega)));have z:¬(i=t):=by omega
 have H:Ext w a:=(D.trans j).cy L (by omega);have e5:Ext X a:=(q.trans j).cy L (by omega);exact x a H ((A.ext e5).low d) (u.keep L z) (by rw[M,K];rfl);have k:l=[]:=l9 (by simpa using k);subst k;exact x R (D.trans j) E u c
structure Du where
 tries:Int
 morning:Bool
 evening:Bool
def FW(b:Bool):Int:=if b then 1 else 0
def sJ(G:Gd)(x:Sx):Bool:=decide (2<=G.tries)&&decide (x.mornings=0)
def uS(G:Gd)(x:Sx):Bool:=decide (2<=G.tries)&&decide (x.evenings=0)
def FX(G:Gd)(x:Sx):Int:=max (G.tries-x.tries) 0
def fQ(G:Gd)(x:Sx):Du:=⟨max (FX G x) (FW (sJ G x)+FW (uS G x)),sJ G x,uS G x⟩
def qE(d:Nat)(u:Du):List ce:=[.int .i64 d,.int .i64 u.tries,.bool u.morning,.bool u.evening]
def jL(m e:Bool)(k:Nat):Int:=if k=0 then 0 else if k=1 then FW m else FW m+FW e
def NV{wp gp mk ms:Nat}{G:Gd}{xs:List Sx}{u:Int}{w:cd}(h:kU wp gp mk ms G xs u w){d:Nat}(hd:d<xs.length)(ab:tZ 100000 xs[d]):
 Calls V.prog 133 #[cK wp,.int .i64 d] w (fy λv w'=>v=.agg (qE d (fQ G xs[d])).toArray/\Ext w w'):=by
 obtain⟨sa,sc,h1,s,h3,h4⟩:=h.at_;have O:=h.g.tY;have ht:=O.tries;have am:=O.days;obtain⟨b,o,rfl,hc⟩:=h4 d hd;refine go V.func133 Tryz.ntmps133 ?_;refine eF λw1 D e1 P Q=>?_;refine cu (e1.cell s) (fF d 8 hd (dP (vs:=kY xs[d]) (λj v z=>e1.cell (hc j v z)) (eF λw2 xb e2 R f=>cZ f λS k3 T=>?_)));have f:S.heap[xb]? =some (.cells (kY xs[d]).toArray 166):=T.trans (cM (λa=>some (Obj.cells a 166)) (dV (sH 166).toArray (kY xs[d]) rfl));clear T;have E3:Ext w S:=(e1.trans e2).cy k3 (by have:=e1.size;omega);have B:S.heap[D]? =some (.cells (sH 101).toArray 101):=(e2.cy k3 R).at_ Q;have ac:=h.g.ext E3;have ad:=E3.cell h1;obtain⟨y1,y2,y3⟩:=ab;refine cQ cO (cG ad (cG ac.c5 (cG (ci f rfl) (vX (VK (.int .i64 (FX G xs[d])) (λU _=>rD ⟨rfl,Ext.refl _⟩) (dx (.agg #[.int .i64 d,.int .i64 (FX G xs[d]),.bool false,.bool false]) (λU _=>dA _ ⟨rfl,Ext.refl _⟩) ?_))))));refine .rel (λv U=>∃m,v=.pointer (some ⟨m,0,none⟩)/\S.heap.size<=m/\U.heap[m]? =some (.cells (sH 101).toArray 101)) (λv a b ⟨nb,h1,s,h3⟩ e=>⟨nb,h1,s,e.at_ h3⟩) (λU e4=>eF λW nb e5 ae X=>⟨⟨nb,rfl,cJ e4.size ae,X⟩,e5⟩) ?_;rintro U e4 v ⟨m,rfl,af,Y⟩;refine cZ Y λW k5 Z=>?_;have C:W.heap[m]? =some (.cells #[.int .i64 d,.int .i64 (FX G xs[d]),.bool false,.bool false] 101):=Z;clear Z;have E:Ext S W:=e4.cy k5 af;have E5:=E3.trans E;have ag:=h.g.ext E5;have ah:=E5.cell h1;have ai:=E.at_ f;have aa:=E.at_ B;have an:=cF.lt_of_heap f;have ao:=cF.lt_of_heap B;have s3:=E3.size;refine cu ah (cu ag.c5 (n6 ⟨λs=>?_,λs=>?_⟩));have s:2<=G.tries:=cY s;have hM:sJ G xs[d]=decide (xs[d].mornings=0):=by simp[sJ,s]
 have hE:uS G xs[d]=decide (xs[d].evenings=0):=by simp[uS,s]
 refine fV 7 cO (gu (λx=>x=m)) (λa b h=>h.keep _) ?_;have xc:∀{t},cN (λx=>x=m) W t->t.heap[xb]? =some (.cells (kY xs[d]).toArray 166):=λe=>e.fg ai (by omega);refine .exact _ (λt F=>cu (ci (xc F) rfl) ⟨rfl,Ext.refl _⟩) (.exact _ (λt _=>eh ⟨rfl,Ext.refl _⟩) (.exact _ (λt F=>cu (ci (xc F) rfl) ⟨rfl,Ext.refl _⟩) (.exact _ (λt _=>eh ⟨rfl,Ext.refl _⟩) ?_)));refine .xd (λ_ t=>t.heap[m]? =some (.cells #[.int .i64 d,.int .i64 (FX G xs[d]),.bool (sJ G xs[d]),.bool false] 101)) (λ_ a b h e=>e.at_ h) (λt F=>cZ (F.at_ C) λH k7 A=>⟨by rw[A,hM];rfl,k7⟩) ?_;intro t F hJ;have hJ:t.heap[m]? =some (.cells #[.int .i64 d,.int .i64 (FX G xs[d]),.bool (sJ G xs[d]),.bool false] 101):=hJ;refine cZ hJ λH k7 A=>?_;have c:H.heap[m]? =some (.cells #[.int .i64 d,.int .i64 (FX G xs[d]),.bool (sJ G xs[d]),.bool (uS G xs[d])] 101):=by rw[A,hE];rfl
 have kk:=F.trans k7 (λ_ _ h=>h) λ_ _ h=>h;have E6:Ext w H:=E5.cy kk (by omega);have I:=kk.fg aa (by omega);clear A hJ;refine cu (ci c rfl) (cu (ci c rfl) (dJ [.bool (sJ G xs[d]),.bool (uS G xs[d])] 4 (λH X J aj i=>cD (ei (n:=2) (λk=>[(4,cK D),(6,cK m),(7,.int .i64 (jL (sJ G xs[d]) (uS G xs[d]) k)),(52,.slice (some ⟨X,0,none⟩) 2 2),(53,.int .i64 2),(54,.int .i64 k)]) (λ_ w'=>w'=H) ⟨⟨rfl,rfl,rfl,rfl,rfl,rfl,trivial⟩,rfl⟩ ?_ ?_ ?_))));rintro k w' hk rfl;exact cV ⟨rfl,rfl,⟨rfl,rfl,rfl,rfl,rfl,rfl,trivial⟩,rfl⟩;rintro k w' hk rfl;have K:∀(x y:Bool) (k:Nat),0<=jL x y k/\jL x y k<=2:=λx y k=>by cases x<;>cases y<;>(unfold jL FW;split<;>(try split)<;>decide)
 have ak:=K (sJ G xs[d]) (uS G xs[d]) k;obtain rfl|rfl:k=0\/k=1:=by omega
 refine dI 0 (by omega) (cu (ci i rfl) ⟨λp=>cq (cq ⟨⟨rfl,rfl,?_,rfl,rfl,rfl,trivial⟩,rfl⟩),λp=>cq ⟨⟨rfl,rfl,?_,rfl,rfl,rfl,trivial⟩,rfl⟩⟩);show some _=some _;simp[jL,FW,p];show some _=some _;simp[jL,FW,p];refine dI 1 (by omega) (cu (ci i rfl) ⟨λp=>cq (cq ⟨⟨rfl,rfl,?_,rfl,rfl,rfl,trivial⟩,rfl⟩),λp=>cq ⟨⟨rfl,rfl,?_,rfl,rfl,rfl,trivial⟩,rfl⟩⟩);show some _=some _;simp[jL,FW,p];show some _=some _;simp[jL,FW,p];rintro w' rfl;have l:=J.at_ c;have L:=J.at_ I;refine cu (ci l rfl) (rD (cZ l λw8 k8 q=>?_));have q:w8.heap[m]? =some (.cells (qE d (fQ G xs[d])).toArray 101):=q;have al:=cF.lt_of_heap c;have M:=k8.fg L (by omega);refine dP (vs:=qE d (fQ G xs[d])) (λj v z=>by rw[cB];exact ci q (by simpa using z)) (cZ M λN k9 r=>?_);have r:N.heap[D]? =some (.cells (qE d (fQ G xs[d])).toArray 101):=r.trans (cM (λa=>some (Obj.cells a 101)) (dV (sH 101).toArray (qE d (fQ G xs[d])) rfl));have hl:Sem.run V.prog (loadVar 101 ⟨D,0,none⟩) N=.ok (.agg (qE d (fQ G xs[d])).toArray) N:=pQ (qE d (fQ G xs[d])) r λj v z=>by rw[cB];simpa using z
 exact⟨_,hl,_,rfl,rfl,((E6.trans J).cy k8 (by omega)).cy k9 P⟩;have s:¬2<=G.tries:=dQ s;have hM:sJ G xs[d]=false:=by simp[sJ,s]
 have hE:uS G xs[d]=false:=by simp[uS,s]
 have c:W.heap[m]? =some (.cells #[.int .i64 d,.int .i64 (FX G xs[d]),.bool (sJ G xs[d]),.bool (uS G xs[d])] 101):=by rw[C,hM,hE]
 have E6:=E5;have I:=aa;refine cu (ci c rfl) (cu (ci c rfl) (dJ [.bool (sJ G xs[d]),.bool (uS G xs[d])] 4 (λH X J aj i=>cD (ei (n:=2) (λk=>[(4,cK D),(6,cK m),(7,.int .i64 (jL (sJ G xs[d]) (uS G xs[d]) k)),(52,.slice (some ⟨X,0,none⟩) 2 2),(53,.int .i64 2),(54,.int .i64 k)]) (λ_ w'=>w'=H) ⟨⟨rfl,rfl,rfl,rfl,rfl,rfl,trivial⟩,rfl⟩ ?_ ?_ ?_))));rintro k w' hk rfl;exact cV ⟨rfl,rfl,⟨rfl,rfl,rfl,rfl,rfl,rfl,trivial⟩,rfl⟩;rintro k w' hk rfl;have K:∀(x y:Bool) (k:Nat),0<=jL x y k/\jL x y k<=2:=λx y k=>by cases x<;>cases y<;>(unfold jL FW;split<;>(try split)<;>decide)
 have ak:=K (sJ G xs[d]) (uS G xs[d]) k;obtain rfl|rfl:k=0\/k=1:=by omega
 refine dI 0 (by omega) (cu (ci i rfl) ⟨λp=>cq (cq ⟨⟨rfl,rfl,?_,rfl,rfl,rfl,trivial⟩,rfl⟩),λp=>cq ⟨⟨rfl,rfl,?_,rfl,rfl,rfl,trivial⟩,rfl⟩⟩);show some _=some _;simp[jL,FW,p];show some _=some _;simp[jL,FW,p];refine dI 1 (by omega) (cu (ci i rfl) ⟨λp=>cq (cq ⟨⟨rfl,rfl,?_,rfl,rfl,rfl,trivial⟩,rfl⟩),λp=>cq ⟨⟨rfl,rfl,?_,rfl,rfl,rfl,trivial⟩,rfl⟩⟩);show some _=some _;simp[jL,FW,p];show some _=some _;simp[jL,FW,p];rintro w' rfl;have l:=J.at_ c;have L:=J.at_ I;refine cu (ci l rfl) (rD (cZ l λw8 k8 q=>?_));have q:w8.heap[m]? =some (.cells (qE d (fQ G xs[d])).toArray 101):=q;have al:=cF.lt_of_heap c;have M:=k8.fg L (by omega);refine dP (vs:=qE d (fQ G xs[d])) (λj v z=>by rw[cB];exact ci q (by simpa using z)) (cZ M λN k9 r=>?_);have r:N.heap[D]? =some (.cells (qE d (fQ G xs[d])).toArray 101):=r.trans (cM (λa=>some (Obj.cells a 101)) (dV (sH 101).toArray (qE d (fQ G xs[d])) rfl));have hl:Sem.run V.prog (loadVar 101 ⟨D,0,none⟩) N=.ok (.agg (qE d (fQ G xs[d])).toArray) N:=pQ (qE d (fQ G xs[d])) r λj v z=>by rw[cB];simpa using z
 exact⟨_,hl,_,rfl,rfl,((E6.trans J).cy k8 (by omega)).cy k9 P⟩
def og(x:Sx)(l:List Nat)(s:Nat):Bool:=tH x (s/2)||(decide (0<l.length)&&decide (l.getLast?.getD 0/2=s/2))
def wq(u:Du)(l:List Nat):Bool:=(l.any (λs=>decide (s%2=0))||!u.morning)&&(l.any (λs=>decide (s%2=1))||!u.evening)
def jI(L:Nat)(x:Sx)(u:Du):Nat->List Nat->Nat->List (List Nat)
 |0,_,_=>[]
 |f+1,l,a=>if(l.length:Int)=u.tries then(if wq u l then [l]else [])else(List.range (L-a)).flatMap λi=>if og x l (a+i)then []else jI L x u f (l++[a+i]) (a+i+1)
def fB(G:Gd):Nat:=(2*G.days).toNat
def il(G:Gd)(x:Sx)(a:Nat):List (List Nat):=jI (fB G) x (fQ G x) (fB G+1) [] a
def oh(L:Nat)(x:Sx)(u:Du)(f:Nat)(l:List Nat)(a k:Nat):List (List Nat):=(List.range k).flatMap λi=>if og x l (a+i)then []else jI L x u f (l++[a+i]) (a+i+1)
def pW(L:Nat)(x:Sx)(u:Du)(f:Nat)(l:List Nat)(a k:Nat):oh L x u f l a (k+1)=oh L x u f l a k++if og x l (a+k)then []else jI L x u f (l++[a+k]) (a+k+1):=by unfold oh;rw[kA,List.flatMap_append];simp
def GL(w:cd)(v:ce)(l:List Nat):Prop:=(l=[]/\v=.slice none 0 0)\/∃b c a,v=.slice (some ⟨b,0,none⟩) l.length c/\l.length<=c/\w.heap[b]? =some (.cells a 3)/\a.size=c/\∀k (h:k<l.length),a[k]? =some (.int .i64 l[k])
def GL.row{w:cd}{v:ce}{l:List Nat}(h:GL w v l):∃a c,v=.slice a l.length c/\eO w a l/\l.length<=c:=by rcases h with⟨rfl,rfl⟩|⟨b,c,i,rfl,e,f,j,g⟩;exact⟨none,0,rfl,λk d=>by simp at d,cz _⟩;exact⟨_,c,rfl,λk d=>⟨b,0,rfl,ci f (by rw[cB];exact g k d)⟩,e⟩
def GL.keep{w w':cd}{v:ce}{l:List Nat}{F:Nat->Prop}(h:GL w v l)(k:cN F w w')(d:∀b,cw v b->¬F b):GL w' v l:=by rcases h with h|⟨b,c,e,a,f,g,i⟩;exact .inl h;exact .inr ⟨b,c,e,a,f,k.fg g (d b ⟨_,_,a⟩),i⟩
def GL.blk{w:cd}{v:ce}{l:List Nat}(h:GL w v l){b:Nat}(a:cw v b):b<w.heap.size:=by obtain⟨_,_,a⟩:=a;rcases h with⟨_,rfl⟩|⟨e,c,f,rfl,g,d,_⟩;cases a;injection a with a;have:=cM Addr.block (cE a);simp only at this;subst this;exact cF.lt_of_heap d
structure EA(lv:ce)(o o':Obj)(a b:cd):Prop where
 k:cN (cw lv) a b
 n:∀x ox,cw lv x->a.heap[x]? =some ox->b.heap[x]? =some ox\/(ox=o/\b.heap[x]? =some o')
def To(lv:ce)(o o':Obj):fw (EA lv o o'):=by refine⟨λw=>⟨cN.refl _ w,λ_ _ _ h=>.inl h⟩,λa b c h k=>⟨h.k.trans k.k (λ_ _ h=>h) λ_ _ h=>h,λx e f i=>?_⟩,λw=>⟨(Ext.drew w).keep _,λx e _ h=>.inl h⟩⟩;rcases h.n x e f i with d|⟨d,j⟩;exact k.n x e f d;rcases k.n x _ f j with g|⟨g,l⟩;exact .inr ⟨d,g⟩;exact .inr ⟨d,l⟩
def Ext.ea{a b:cd}(h:Ext a b)(lv:ce)(o o':Obj):EA lv o o' a b:=⟨h.keep _,λx d _ c=>.inl (h.at_ c)⟩
def GM(n0:Nat)(lv:ce)(o':Obj)(l:List Nat)(v:ce)(w:cd):Prop:=
 (∃b c,cw lv b/\v=.slice (some ⟨b,0,none⟩) l.length c/\w.heap[b]? =some o'/\GL w v l)\/(∃b c,n0<=b/\v=.slice (some ⟨b,0,none⟩) l.length c/\GL w v l)
def yn{w:cd}{k:ce->cd->Prop}{t:cg}{O:Array Bool}{lv:ce}{l:List Nat}{o:Obj}{s n0:Nat}{w0:cd}(Q:GL w lv l)(R:∀b,cw lv b->w.heap[b]? =some o)(K:n0<=w.heap.size)(L:l.length<=1000){E c:Nat}(n:w.heap[E]? =some (.cells [Value.int .i64 s].toArray 3))(o':Obj)(F:∀b cs,cw lv b->o=.cells cs 3->o'=.cells (cs.setIfInBounds l.length (.int .i64 s)) 3) (G:∀v w',GM n0 lv o' (l++[s]) v w'->EA lv o o' w w'->k v w'):wY V.prog (builtin .append #[27,27] t O #[lv,.slice (some ⟨E,0,none⟩) 1 c]) w k:=by
 have S:=oG;obtain⟨T,i,z,U,W,X,C,Y,h7⟩:=S;have C:i.size=1:=C;rcases Q with⟨rfl,rfl⟩|⟨b,m,cs,rfl,Z,D,H,e⟩;refine fP oG (cA.nil n0 3 [.int .i64 0] w) K n (by omega) λv' w' g1 g2 g3=>?_;have I:∀x,¬cw (.slice none 0 0) x:=λx a=>by obtain⟨_,_,a⟩:=a;cases a
 refine G v' w' (.inr ?_) ⟨g2,λx ox a _=>absurd a (I x)⟩;obtain⟨h0,⟨aa,_⟩|⟨b,M,cs,q1,rfl,q3,q4,q5,q6,q7,q8⟩⟩:=g1;omega;refine⟨b,M,q1,rfl,.inr ⟨b,M,cs,rfl,by simpa using q5,q3,by simpa using q4,λj d=>?_⟩⟩;obtain rfl:j=0:=by simp at d;omega
 rw[q7 0 (by simp)];rfl;have q:=R b ⟨_,_,rfl⟩;rw[D]at q;obtain rfl:=cE q;have r:=F b cs ⟨_,_,rfl⟩ rfl;by_cases f:l.length+1<=m;refine Je (u:=.int .i64 s) oG D f (by omega) (ci n rfl) rfl λw' k' p=>G _ w' (.inl ⟨b,m,⟨_,_,rfl⟩,by simp,by rw[p,r],.inr ⟨b,m,_,by simp,by simpa using f,p,by simpa using H,λj d=>?_⟩⟩) ⟨k'.trans (cN.refl (λ_=>False) w') (λx _ a=>by subst a;exact⟨_,_,rfl⟩) λ_ _ h=>h.elim,λx ox a y=>?_⟩;rcases eA j l.length with g|A;rw[eY (by omega),e j g,lI g];obtain rfl:j=l.length:=by simp at d;omega
 rw[jE (by omega)];simp;obtain⟨_,_,a⟩:=a;injection a with a;have:=cM Addr.block (cE a);simp only at this;subst this;rw[D]at y;exact .inr ⟨(cE y).symm,by rw[p,r]⟩
 have hr:=run_append_grow (P:=V.prog) w 27 t 3 i z T U W ⟨b,0,none⟩ l.length m (fi l) (by simp[C,fi]) (λj u d=>by
  rw[Addr.add_lit];simp only[World.cell?,D,cB];have B:j<l.length:=by simpa[fi]using(gy.1 d).1
  rw[e j B];have:(fi l)[j]? =some (.int .i64 (l[j]:Nat)):=by simp[fi,ew B]
  rw[this]at d;simpa using d) ⟨E,0,none⟩ 1 c [.int .i64 s] (by simp[C]) (λj v d=>by
  match j,d with
  |0,d=>cases d;rw[fL];exact ci n rfl) (by omega) (by omega) (growslice_fits (by omega) (cJ (Nat.mul_le_mul (show l.length+1<=1000000 by omega) Y) (by decide)))
 have A:=grownCap_ge w (l.length+1) m 3;have J:z.cells.size=1:=by rw[X];rfl
 refine⟨_,w.drew.alloc (.cells ((fi l).toArray++#[Value.int .i64 s]++Builtin.zeroCells z.cells (grownCap w (l.length+1) m 3-(l.length+1))) 3),?_,G (.slice (some ⟨w.heap.size,0,none⟩) (l.length+1) (grownCap w (l.length+1) m 3)) _ (.inr ⟨w.heap.size,grownCap w (l.length+1) m 3,K,by simp,.inr ⟨w.heap.size,grownCap w (l.length+1) m 3,_,by simp,by simpa using A,eU w.drew _,?_,λj d=>?_⟩⟩) (((Ext.drew w).trans (Ext.alloc _ _)).ea _ _ _)⟩;unfold builtin;simp only[Sem.run_bind,hr,Result.andThen_ok,Sem.run_pure];simp only[wL,iP,size_zeroCells,J,fi,fX,kV,dW,fC,ot];omega;have ab:j<l.length+1:=by simpa using d
 rw[vG (by simp[fi];omega)];rcases eA j l.length with g|N;simp[fi,kz,g,ew g];obtain rfl:j=l.length:=by omega
 simp[fi]
def Qr(s a:Nat):Bool:=(List.range 5).all λd=>!s.testBit d||a.testBit d
def pX(G:Gd)(a s:Nat):Int:=if Qr s a then(match fJ G s with
 |some b=>(b.length:Int)
 |none=> -1)else-1
def ie(G:Gd)(a k:Nat):List Int:=(List.range 32).map λs=>if s<k then pX G a s else 0
def mz(G:Gd)(xs:List Sx)(a k:Nat):List (List (List Nat)):=((cW G.tries xs).take k).map λd=>il G (xs.getD d oe) a
def iU(G:Gd)(xs:List Sx)(a:Nat):dR:=⟨cW G.tries xs,(cW G.tries xs).map λd=>il G (xs.getD d oe) a,ie G (dB (cW G.tries xs)) (2^xs.length)⟩
theorem BP{L:Nat}{x:Sx}{u:Du}:∀{f:Nat} {l:List Nat} {a:Nat} {l':List Nat},l'∈jI L x u f l a->l'.length<=l.length+f/\∀s∈l',s∈l\/s<L
 |0,l,a,l',h=>by cases h
 |f+1,l,a,l',h=>by simp only[jI]at h;split at h;split at h;rw[fD.1 h];exact⟨by omega,λs c=>.inl c⟩;cases h;obtain⟨i,d,h⟩:=lJ.1 h;have d:=eJ.1 d;split at h;cases h;obtain⟨e,g⟩:=BP h;simp only[fX,dW,fC]at e;refine⟨by omega,λs c=>?_⟩;rcases g s c with b|b;rcases gl.1 b with b|b;exact .inl b;rw[fD.1 b];exact .inr (by omega);exact .inr b
theorem Jm:∀(n:Nat),((List.range n).map λi=>2^(n-1-i)).sum+1=2^n
 |0=>rfl
 |n+1=>by
  have b:=Jm n;rw[List.range_succ_eq_map,jP,List.sum_cons,List.map_map];have e:(List.range n).map ((λi=>2^(n+1-1-i))∘Nat.succ)=(List.range n).map λi=>2^(n-1-i):=by refine List.map_congr_left λi a=>?_;have:=eJ.1 a;simp only[Function.comp];congr 1;omega
  rw[e];have:n+1-1-0=n:=by omega
  rw[this,Nat.pow_succ];omega
theorem NW{α:Type}{f g:α->Nat}:∀(l:List α),(∀x∈l,f x<=g x)->(l.map f).sum<=(l.map g).sum
 |[],_=>cz _
 |x::r,h=>by simp only[jP,List.sum_cons];exact Nat.add_le_add (h x eR) (NW r λy a=>h y (eI _ a))
theorem zN{L:Nat}{x:Sx}{u:Du}:∀(f:Nat) (l:List Nat) (a:Nat),(jI L x u f l a).length<=2^(L-a)
 |0,l,a=>fN _
 |f+1,l,a=>by
  have c:1<=2^(L-a):=Nat.one_le_two_pow;simp only[jI];split;split;exact c;exact fN _;rw[List.length_flatMap];have d:((List.range (L-a)).map λi=>(if og x l (a+i)then([]:List (List Nat))else jI L x u f (l++[a+i]) (a+i+1)).length).sum<=((List.range (L-a)).map λi=>2^(L-a-1-i)).sum:=NW _ λi b=>by have b:=eJ.1 b;split;exact fN _;have:=zN (L:=L) (x:=x) (u:=u) f (l++[a+i]) (a+i+1);rwa[show L-(a+i+1)=L-a-1-i by omega]at this
  have:=Jm (L-a);omega
def zO{G:Gd}(h:G.Ok):fB G<=6:=by have:=h.days;unfold fB;omega
def sn{G:Gd}(h:G.Ok)(x:Sx)(a:Nat):(il G x a).length<=64/\∀l∈il G x a,l.length<=7/\∀s∈l,s<6:=by have g:=zO h;refine⟨?_,λl d=>?_⟩;have:=zN (L:=fB G) (x:=x) (u:=fQ G x) (fB G+1) [] a;have b:2^(fB G-a)<=2^6:=Nat.pow_le_pow_right (by omega) (by omega);exact cJ this b;obtain⟨e,b⟩:=BP d;simp only[fC]at e;refine⟨by omega,λs f=>?_⟩;rcases b s f with c|c;cases c;omega
def kh{T:Int}{xs:List Sx}{d:Nat}(h:d∈cW T xs):d<xs.length:=by obtain⟨a,_⟩:=ug.1 h;exact eJ.1 a
def FY(T:Int)(xs:List Sx):(cW T xs).Nodup:=(List.nodup_range).filter _
def pm(T:Int)(xs:List Sx):(cW T xs).length<=xs.length:=zD T xs xs.length
theorem rM{G:Gd}{most:Nat}:∀{a c b:List Nat},eD G most a c=some b->b.length<=c.length+a.length
 |[],c,b,h=>by simp only[eD,fI]at h;subst h;simp
 |d::r,c,b,h=>by simp only[eD]at h;split at h;rename_i o f;obtain rfl:=cE h;obtain⟨i,g,e⟩:=L6 f;split at e;have:=rM e;simp only[qJ,dW]at this⊢;omega;cases e;split at h;have:=rM h;simp only[fX,dW,fC]at this⊢;omega;cases h
def pY{G:Gd}{s:Nat}{a:List (List Nat)}(h:fJ G s=some a):a.length<=5:=by unfold fJ at h;split at h;obtain rfl:=cE h;simp;obtain⟨d,b,rfl⟩:=ij.1 h;obtain⟨m,_,c⟩:=L6 b;have:=rM c;have:=sj s;simp only[fC,kV]at*;omega
def KH(G:Gd)(a s:Nat): -1<=pX G a s/\pX G a s<=5:=by unfold pX;split;split;rename_i b h;have:=pY h;omega;omega;omega
def Dj(G:Gd)(a k s:Nat)(b:s<32):(ie G a k).getD s 0=if s<k then pX G a s else 0:=by unfold ie;rw[gU,mR,List.getElem?_range b];rfl
def uT(G:Gd)(a k:Nat):(ie G a k).length=32:=by simp[ie]
def FZ{G:Gd}{xs:List Sx}(h:G.Ok)(e:xs.length=G.doors.length)(a:Nat):(iU G xs a).Ok:=by have m:=h.many;have f:=pm G.tries xs;refine⟨by simp[iU],by simp only[iU];omega,FY _ _,λd i=>by have:=kh i;omega,λg b=>?_,λg b l e=>?_,λg b l e s j=>?_,uT _ _ _,λc k=>?_,?_⟩;obtain⟨d,_,rfl⟩:=jj.1 b;have:=(sn h (xs.getD d oe) a).1;omega;obtain⟨d,_,rfl⟩:=jj.1 b;have:=((sn h (xs.getD d oe) a).2 l e).1;omega;obtain⟨d,_,rfl⟩:=jj.1 b;exact((sn h (xs.getD d oe) a).2 l e).2 s j;obtain⟨s,_,rfl⟩:=jj.1 k;split;exact KH _ _ _;omega;show(ie G _ _).getD 0 0=0;rw[Dj _ _ _ _ (by omega),cx (Nat.two_pow_pos _)];rfl
end Go.Proofs.W
