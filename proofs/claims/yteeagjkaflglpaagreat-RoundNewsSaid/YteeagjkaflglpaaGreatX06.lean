/- Laws that the proof needs, part 6. Conditions: none. -/
import Derived.Test.YteeagjkaflglpaaGreatX05
set_option maxRecDepth 100000
set_option maxHeartbeats 8000000
set_option linter.all false
namespace Go.cF.Cr
open Go.Conc Go.cF Go.cF.Kn
open Go.ConcR (KK wgBlock WgAt stA smA mk)
open Go.ConcN (sumTo upd sumTo_upd upd_ne upd_same sumTo_congr le_sumTo sumTo_le)
section
variable{n m0:Nat}{ro:Nat->dD}{cl:Bool}{G:Gh}{size:Nat}{st sm:Int}{r':dD}
theorem tw:∀n,sumTo n (λ_=>0)=0
 |0=>rfl
 |n+1=>by simp[sumTo,tw n]
theorem Bp:∀n,sumTo n (λ_=>1)=n
 |0=>rfl
 |n+1=>by simp[sumTo,Bp n]
def IJ{s:Nat}(h:5<=s):cnt s=1:=cx h
def CN{s:Nat}(h:¬5<=s):cnt s=0:=cr h
def Pl.SP{G':Gh}(h:Pl n m0 ro cl G size st sm)(j:ro 0=.sG)(x:∀k,G'.user k↔G.user k\/k=size)(p:G'.sayer=m0+n)(A:G'.done=G.done):
 size=m0+n/\Pl n m0 (upd (upd ro (m0+n) (.cl .kd)) 0 (.rc n (λ_=>false) 2)) cl G' (m0+n+1) st sm/\
  meas n m0 (upd (upd ro (m0+n) (.cl .kd)) 0 (.rc n (λ_=>false) 2))<meas n m0 ro:=by
 have q:=h.pos;cases h.lay with
 |st B C d D F c r t H=>rw[j]at d;cases d
 |rc B S C d c r t I D=>rw[j]at d;cases d
 |sG d c r t=>
 subst r;have l:∀i,i<n->upd (upd ro (m0+n) (dD.cl .kd)) 0 (.rc n (λ_=>false) 2) (m0+i)=ro (m0+i):=by intro i f;rw[upd_ne _ _ (by omega),upd_ne _ _ (by omega)]
 have g:upd (upd ro (m0+n) (dD.cl .kd)) 0 (.rc n (λ_=>false) 2) (m0+n)=.cl .kd:=by rw[upd_ne _ _ (by omega),upd_same]
 have a:V n m0 (upd (upd ro (m0+n) (dD.cl .kd)) 0 (.rc n (λ_=>false) 2))=V n m0 ro:=by rw[oW (.inl q),oW (.inr (cz _))]
 have E:Sg n m0 (upd (upd ro (m0+n) (dD.cl .kd)) 0 (.rc n (λ_=>false) 2))=Sg n m0 ro:=by rw[qV (.inl q),qV (.inr (cz _))]
 have m:cl=false:=by
  cases u:cl with
  |false=>rfl
  |true=>have:=h.clq.1 u;rw[c]at this;cases this
 refine⟨rfl,⟨q,.rc n (λ_=>false) 2 (upd_same _ _ _) ⟨_,g⟩ rfl (λi f=>?_) (by have:=tw n;simpa using this) (.inl rfl),λk b o=>by rw[upd_ne _ _ (by omega),upd_ne _ _ (by omega)];exact h.old k b o,by rw[g,m];simp,?_,λk=>by rw[x,h.usr];omega,by rw[g];exact p,λk=>?_⟩,?_⟩;obtain⟨s,b,o⟩:=t i f;exact⟨s,by rw[l i f];exact b,by omega,by omega,by simp;omega⟩;cases J:h.mode with
 |opn b o K=>
  have:=Mode.opn (n:=n) (m0:=m0) (ro:=upd (upd ro (m0+n) (dD.cl .kd)) 0 (.rc n (λ_=>false) 2)) (by rw[g];trivial) (λi f=>by rw[l i f];exact o i f) (λM v=>by rw[g]at v;cases v);rw[a,upd_same]at this;rw[j];exact this
 |reg b _ _=>rw[c]at b;exact b.elim
 |last L b _ _ _=>rw[c]at b;exact b.elim
 |sema b _=>rw[c]at b;rcases b with b|b<;>cases b
 |fin b _=>rw[c]at b;exact b.elim
 rw[A,h.done];refine or_congr l8 ?_;by_cases e:k=0;subst e;rw[upd_same,j];exact⟨λ⟨i,s,y,_⟩=>(nomatch y),λ⟨i,s,y,_⟩=>(nomatch y)⟩;rw[upd_ne _ _ e];by_cases w:k=m0+n;subst w;rw[upd_same,c];exact⟨λ⟨i,s,y,_⟩=>(nomatch y),λ⟨i,s,y,z⟩=>(nomatch y)⟩;rw[upd_ne _ _ w];unfold meas;rw[a,E,g,upd_same,c,j];simp only[tv,oA];omega
def Mode.counted(m:0<m0)(o:Mode n m0 ro st sm){i:Nat}(d:i<n)(p:5<=jd (ro (m0+i)))(k:5<=jd r'):Mode n m0 (upd ro (m0+i) r') st sm:=by
 have f:V n m0 (upd ro (m0+i) r')=V n m0 ro:=by have:=Ms (ro:=ro) (m0:=m0) i d r';simp only[cnt,cx p,cx k]at this;omega
 have q:upd ro (m0+i) r' 0=ro 0:=upd_ne ro r' (by omega);have j:upd ro (m0+i) r' (m0+n)=ro (m0+n):=upd_ne ro r' (by omega);have l:OpenSt n m0 ro->OpenSt n m0 (upd ro (m0+i) r'):=λh a r=>by by_cases e:a=i;subst e;rw[upd_same];exact .inr (.inl k);rw[upd_ne ro r' (by omega)];exact h a r
 cases o with
 |opn c b g=>
  have:=Mode.opn (n:=n) (m0:=m0) (ro:=upd ro (m0+i) r') (by rw[j];exact c) (l b) (λs e=>by rw[f];rw[j]at e;exact g s e);rwa[f,q]at this
 |reg c b g=>
  have:=Mode.reg (n:=n) (m0:=m0) (ro:=upd ro (m0+i) r') (by rw[j];exact c) (l b) (by rw[f];exact g);rwa[f]at this
 |last L c b g t=>
  by_cases e:i=L;subst e;omega;have:=t i d e;omega
 |sema c b=>have:=b i d;omega
 |fin c b=>have:=b i d;omega
theorem TU.wk(h:TU n m0 ro cl size)(E:0<m0){i s s':Nat}(F:i<n)(e:ro (m0+i)=.wk i s)(v:(s=9/\s'=8/\(∀r S,ro 0≠ .rc r S 1))\/(s<=7/\1<=s'/\s'<=7)):TU n m0 (upd ro (m0+i) (.wk i s')) cl size:=by
 have l:upd ro (m0+i) (dD.wk i s') 0=ro 0:=upd_ne ro _ (by omega);have m:upd ro (m0+i) (dD.wk i s') (m0+n)=ro (m0+n):=upd_ne ro _ (by omega);have c:∀a,upd ro (m0+i) (dD.wk i s') (m0+a)=if a=i then .wk i s' else ro (m0+a):=λa=>by rw[r9];rfl
 cases h with
 |st o p g q w j k d A=>
  refine .st o p (l.trans g) q w (m.trans j) k (λa b=>?_) λa b B=>?_
  ·rw[c];split
   ·next x=>
    subst x;obtain⟨t,f,u⟩:=d a b;rw[e]at f;cases f;exact⟨s',rfl,by omega⟩
   ·exact d a b
  ·have:=A a b B;rw[c,if_neg (λx=>by subst x;rw[e]at this;cases this)];exact this
 |sG g j k d=>
  refine .sG (l.trans g) (m.trans j) k λa b=>?_;rw[c];split
  ·next x=>
   subst x;obtain⟨t,f,u⟩:=d a b;rw[e]at f;cases f;exact⟨s',rfl,by omega⟩
  ·exact d a b
 |rc o S p g j k d C q=>
  refine .rc o S p (l.trans g) (by rw[m];exact j) k (λa b=>?_) C (q.imp id λ⟨x,y,z⟩=>⟨x,y,λa b=>?_⟩)
  ·rw[c];split
   ·next x=>
    subst x;obtain⟨t,f,u,G,D⟩:=d a b;rw[e]at f;cases f;exact⟨s',rfl,by omega,by omega,D.trans (by omega)⟩
   ·exact d a b
  ·rw[c];split
   ·subst x;simp only[jd];rcases v with⟨_,_,x⟩|x
    ·exact absurd g (x _ _)
    ·omega
   ·exact z a b
theorem Pl.wk(h:Pl n m0 ro cl G size st sm){i s s':Nat}(g:i<n)(e:ro (m0+i)=.wk i s)(j:(s=9/\s'=8/\(∀r S,ro 0≠ .rc r S 1))\/(s<=7/\1<=s'/\s'<=7)){st' sm':Int}(l:Mode n m0 (upd ro (m0+i) (.wk i s')) st' sm'):Pl n m0 (upd ro (m0+i) (.wk i s')) cl G size st' sm':=by have d:=h.pos;have f:upd ro (m0+i) (dD.wk i s') (m0+n)=ro (m0+n):=upd_ne ro _ (by omega);refine⟨d,h.lay.wk d g e j,λk m o=>by rw[upd_ne ro _ (by omega)];exact h.old k m o,by rw[f];exact h.clq,l,h.usr,by rw[f];exact h.say,λk=>?_⟩;rw[h.done];refine or_congr l8 ?_;by_cases c:k=m0+i;subst c;rw[upd_same,e];constructor;rintro⟨a,b,x,y⟩;cases x;exact⟨i,s',rfl,by omega⟩;rintro⟨a,b,x,y⟩;cases x;exact⟨i,s,rfl,by omega⟩;rw[upd_ne ro _ c]
def Pl.Un(h:Pl n m0 ro cl G size st sm){i:Nat}(a:i<n)(e:ro (m0+i)=.wk i 9)(b:∀r S,ro 0≠ .rc r S 1):Pl n m0 (upd ro (m0+i) (.wk i 8)) cl G size st sm:=
 h.wk a e (.inl ⟨rfl,rfl,b⟩) (h.mode.counted h.pos a (by rw[e];simp[jd]) (by simp[jd]))
def Pl.Uo(h:Pl n m0 ro cl G size st sm){i s s':Nat}(b:i<n)(e:ro (m0+i)=.wk i s)(c:5<=s/\s<=7)(a:5<=s'/\s'<=7):Pl n m0 (upd ro (m0+i) (.wk i s')) cl G size st sm:=
 h.wk b e (.inr ⟨c.2,by omega,a.2⟩) (h.mode.counted h.pos b (by rw[e];exact c.1) (by exact a.1))
def Pl.heard(h:Pl n m0 ro cl G size st sm){i s:Nat}(c:i<n)(e:ro (m0+i)=.wk i s)(o:s<=7):∃r S p,ro 0=.rc r S p/\S i=true/\size=m0+n+1:=by
 cases h.lay with
 |st d j f q v k g b t=>
  rcases eA i (n-(d+1))with x|x;obtain⟨l,a,m⟩:=b i x;rw[e]at a;cases a;omega;have:=t i x c;rw[e]at this;cases this
 |sG f k g b=>
  obtain⟨l,a,m⟩:=b i c;rw[e]at a;cases a;omega
 |rc d S j f k g b w q=>
  obtain⟨l,a,m,y,u⟩:=b i c;rw[e]at a;cases a;exact⟨d,S,j,f,u.2 o,g⟩
def Pl.hand{G':Gh}(h:Pl n m0 ro cl G size st sm){i s r K:Nat}{S:Nat->Bool}(u:i<n)(e:ro (m0+i)=.wk i s)(p:ro 0=.rc r S K)(U:s=9\/s=8) (L:G'.user=G.user)(z:G'.sayer=G.sayer)(M:∀k,G'.done k↔G.done k\/k=m0+i):S i=false/\∃r',r=r'+1/\Pl n m0 (upd (upd ro (m0+i) (.wk i 7)) 0 (.rc r' (upd S i true) 2)) cl G' size st sm/\meas n m0 (upd (upd ro (m0+i) (.wk i 7)) 0 (.rc r' (upd S i true) 2))<meas n m0 ro:=by
 have q:=h.pos;cases h.lay with
 |st N O g E V A B v W=>rw[p]at g;cases g
 |sG g A B v=>rw[p]at g;cases g
 |rc N X O g A B v Y E=>
 rw[p]at g;cases g;have t:S i=false:=by
  obtain⟨Z,F,x2,x3,P⟩:=v i u;rw[e]at F;cases F;cases Q:S i with
  |false=>rfl
  |true=>have:=P.1 Q;omega
 have l:=sumTo_upd S true (λb=>if b then 1 else 0) u;rw[t]at l;simp only[iq,eo,cX,mT]at l
 have R:sumTo n (λa=>if upd S i true a then 1 else 0)<=n:=by
  have:=sumTo_le (f:=λa=>if upd S i true a then 1 else 0) (c:=1) (j:=n) λa _=>by split<;>omega
  simpa using this
 obtain⟨m,rfl⟩:∃m,r=m+1:=⟨r-1,by omega⟩;refine⟨t,m,rfl,?_,?_⟩;have w:∀k,k≠0->k≠m0+i->upd (upd ro (m0+i) (dD.wk i 7)) 0 (.rc m (upd S i true) 2) k=ro k:=λk o C=>by rw[upd_ne _ _ o,upd_ne _ _ C]
 have d:upd (upd ro (m0+i) (dD.wk i 7)) 0 (.rc m (upd S i true) 2) (m0+i)=.wk i 7:=by rw[upd_ne _ _ (by omega),upd_same]
 have D:=w (m0+n) (by omega) (by omega);refine⟨q,.rc m (upd S i true) 2 (upd_same _ _ _) (by rw[D];exact A) B (λa T=>?_) (by omega) (.inl rfl),λk o C=>by rw[w k (by omega) (by omega)];exact h.old k o C,by rw[D];exact h.clq,?_,by rw[L];exact h.usr,by rw[D,z];exact h.say,λk=>?_⟩;by_cases H:a=i;subst H;exact⟨7,d,by omega,by omega,by simp[upd_same]⟩;rw[w _ (by omega) (by omega),upd_ne S _ H];exact v a T;have I:=h.mode.counted q u (r':=.wk i 7) (by rw[e];simp only[jd];omega) (by simp[jd]);exact I.zero q (by rw[upd_ne _ _ (by omega),p];rfl);rw[M,h.done,or_assoc];refine or_congr l8 ?_;by_cases J:k=0;subst J;rw[upd_same,p];exact⟨λx=>x.elim (λ⟨_,_,y,_⟩=>(nomatch y)) (λx=>by omega),λ⟨_,_,y,_⟩=>(nomatch y)⟩;by_cases o:k=m0+i;subst o;rw[d];exact⟨λ_=>⟨i,7,rfl,by omega⟩,λ_=>.inr rfl⟩;rw[w k J o];exact⟨λx=>x.elim id λx=>absurd x o,.inl⟩;have I:=ml (n:=n) (ro:=ro) q u (r':=.wk i 7) (by rw[e];simp only[jd];omega);have m2:=nf (n:=n) (ro:=upd ro (m0+i) (.wk i 7)) q (r':=.rc m (upd S i true) 2) (by rw[upd_ne _ _ (by omega),p];simp only[tv];rcases E with rfl|⟨rfl,_⟩<;>omega);omega
def Pl.Up(h:Pl n m0 ro cl G size st sm){r:Nat}{S:Nat->Bool}(c:ro 0=.rc r S 2)(j:cl=false)(k:∀i,i<n->jd (ro (m0+i))≠8):Pl n m0 (upd ro 0 (.rc r S 1)) cl G size st sm:=by
 have l:=h.pos;refine h.zero ?_ (by simp) (by simp[c]) (h.mode.zero l (by rw[c];rfl));cases h.lay with
 |st m o b p s d e f t=>rw[c]at b;cases b
 |sG b d e f=>rw[c]at b;cases b
 |rc m u o b d e f q p=>
  rw[c]at b;cases b;exact .rc r S 1 (upd_same _ _ _) (by rw[upd_ne ro _ (by omega)];exact d) e (λa g=>by rw[upd_ne ro _ (by omega)];exact f a g) q (.inr ⟨rfl,j,λa g=>by rw[upd_ne ro _ (by omega)];exact k a g⟩)
def Pl.YH(h:Pl n m0 ro cl G size st sm){r s:Nat}{S:Nat->Bool}(c:ro 0=.rc r S s):Pl n m0 (upd ro 0 (.rc r S 2)) cl G size st sm:=by
 have g:=h.pos;refine h.zero ?_ (by simp) (by simp[c]) (h.mode.zero g (by rw[c];rfl));cases h.lay with
 |st i j b k o d e f p=>rw[c]at b;cases b
 |sG b d e f=>rw[c]at b;cases b
 |rc i q j b d e f l k=>
  rw[c]at b;cases b;exact .rc r S 2 (upd_same _ _ _) (by rw[upd_ne ro _ (by omega)];exact d) e (λa m=>by rw[upd_ne ro _ (by omega)];exact f a m) l (.inl rfl)
def others_uncounted{i:Nat}(b:i<n)(h:V n m0 ro=1)(c:5<=jd (ro (m0+i))):∀a,a<n->a≠i->¬5<=jd (ro (m0+a)):=by intro a d e f;have g:=Ms (ro:=ro) (m0:=m0) i b .none;have j:=Mv (ro:=upd ro (m0+i) .none) (m0:=m0) d (by rw[upd_ne ro _ (by omega)];exact f);rw[IJ c,CN (show¬5<=jd dD.none by simp[jd])]at g;omega
def Pl.d1(h:Pl n m0 ro cl G size st sm){i:Nat}(b:i<n)(e:ro (m0+i)=.wk i 5):∃v j:Nat,j<=1/\v<n/\st=((v:Int)+1)*KK+(j:Int)/\sm=0/\((v=0/\j=1)->Pl n m0 (upd ro (m0+i) (.wk i 4)) cl G size ((v:Int)*KK+(j:Int)) 0)/\(¬(v=0/\j=1)->Pl n m0 (upd ro (m0+i) (.wk i 1)) cl G size ((v:Int)*KK+(j:Int)) 0):=by
 have O:=h.pos;obtain⟨r,S,P,s,B,Q⟩:=h.heard b e (by omega);have t:5<=jd (ro (m0+i)):=by rw[e];simp[jd]
 have R:=Mv b t;have C:=Mt n m0 ro;have l:pend (ro 0)=0:=by rw[s];rfl
 have D:∀x,upd ro (m0+i) x 0=ro 0:=λx=>upd_ne ro x (by omega);have q:∀x,upd ro (m0+i) x (m0+n)=ro (m0+n):=λx=>upd_ne ro x (by omega);have w:OpenSt n m0 ro->OpenSt n m0 (upd ro (m0+i) (.wk i 1)):=λh a f=>by by_cases m:a=i;subst m;rw[upd_same];exact .inr (.inr rfl);rw[upd_ne ro _ (by omega)];exact h a f
 have E:V n m0 (upd ro (m0+i) (.wk i 1))+1=V n m0 ro:=by have:=Ms (ro:=ro) (m0:=m0) i b (.wk i 1);rw[IJ t,CN (show¬5<=jd (dD.wk i 1) by simp[jd])]at this;omega
 cases T:h.mode with
 |opn g c o=>
  refine⟨V n m0 ro-1,0,by omega,by omega,?_,rfl,λx=>by omega,λ_=>h.wk b e (.inr ⟨by omega,by omega,by omega⟩) ?_⟩;rw[l];have:((V n m0 ro-1:Nat):Int)+1=((V n m0 ro:Nat):Int):=by omega
  rw[this];simp;have:=Mode.opn (n:=n) (m0:=m0) (ro:=upd ro (m0+i) (.wk i 1)) (by rw[q];exact g) (w c) (λF x=>by rw[q]at x;have:=o F x;omega);rw[D,l,show V n m0 (upd ro (m0+i) (.wk i 1))=V n m0 ro-1 by omega]at this;simpa using this
 |reg g c o=>
  refine⟨V n m0 ro-1,1,by omega,by omega,?_,rfl,λx=>?_,λx=>?_⟩;have:((V n m0 ro-1:Nat):Int)+1=((V n m0 ro:Nat):Int):=by omega
  rw[this];simp;have d:V n m0 ro=1:=by omega
  refine h.wk b e (.inr ⟨by omega,by omega,by omega⟩) ?_
  have p:∀a,a<n->a≠i->jd (ro (m0+a))=1:=λa f m=>by
   have H:=others_uncounted b d t a f m;rcases c a f with y|y|y
   ·exfalso;cases h.lay with
    |st I J k K U z A u W=>rw[s]at k;cases k
    |sG k z A u=>rw[s]at k;cases k
    |rc I X J k z A u Y K=>
     obtain⟨Z,M,x2,_⟩:=u a f;rw[M]at y;simp only[jd]at y;omega
   exact absurd y H;exact y
  have:=Mode.last (n:=n) (m0:=m0) (ro:=upd ro (m0+i) (.wk i 4)) i (by rw[q];exact g) b (by rw[upd_same];simp[jd]) (λa f m=>by rw[upd_ne ro _ (by omega)];exact p a f m);rw[upd_same]at this;simp only[d,lf];simpa[jd]using this;refine h.wk b e (.inr ⟨by omega,by omega,by omega⟩) ?_;have:=Mode.reg (n:=n) (m0:=m0) (ro:=upd ro (m0+i) (.wk i 1)) (by rw[q];exact g) (w c) (by omega);rw[show V n m0 (upd ro (m0+i) (.wk i 1))=V n m0 ro-1 by omega]at this;simpa using this
 |last L g c o N=>
  by_cases x:i=L;subst x;rw[e]at o;simp[jd]at o;have:=N i b x;omega
 |sema g c=>have:=c i b;omega
 |fin g c=>have:=c i b;omega
def Pl.isLast(h:Pl n m0 ro cl G size st sm){i s:Nat}(c:i<n)(e:ro (m0+i)=.wk i s)(j:s=4\/s=3\/s=2):
 isW3 (ro (m0+n))/\(∀a,a<n->a≠i->jd (ro (m0+a))=1)/\st=(if s=2 then 0 else 1)/\sm=0:=by
 have f:jd (ro (m0+i))=s:=by rw[e];rfl
 cases k:h.mode with
 |opn _ b _=>have:=b i c;omega
 |reg _ b _=>have:=b i c;omega
 |last L g b l d=>
  by_cases x:i=L;subst x;rw[f];exact⟨g,d,rfl,rfl⟩;have:=d i c x;omega
 |sema _ b=>have:=b i c;omega
 |fin _ b=>have:=b i c;omega
theorem Pl.last(h:Pl n m0 ro cl G size st sm){i s s':Nat}(b:i<n)(e:ro (m0+i)=.wk i s)(j:(s=4/\s'=3)\/(s=3/\s'=2)):
 Pl n m0 (upd ro (m0+i) (.wk i s')) cl G size (if s'=2 then 0 else 1) 0:=by
 have k:=h.pos;obtain⟨c,d,_,_⟩:=h.isLast b e (by omega);refine h.wk b e (.inr ⟨by omega,by omega,by omega⟩) ?_;have:=Mode.last (n:=n) (m0:=m0) (ro:=upd ro (m0+i) (.wk i s')) i (by rw[upd_ne ro _ (by omega)];exact c) b (by rw[upd_same];simp only[jd];omega) (λa f g=>by rw[upd_ne ro _ (by omega)];exact d a f g);rw[upd_same]at this;exact this
def Pl.raise(h:Pl n m0 ro cl G size st sm){i:Nat}(d:i<n)(e:ro (m0+i)=.wk i 2)(c:ro (m0+n)≠ .cl .blk):Pl n m0 (upd ro (m0+i) (.wk i 1)) cl G size 0 1:=by have k:=h.pos;obtain⟨b,g,_,_⟩:=h.isLast d e (by omega);refine h.wk d e (.inr ⟨by omega,by omega,by omega⟩) (.sema ?_ λa j=>?_);rw[upd_ne ro _ (by omega)];revert b c;generalize ro (m0+n)=x;intro c b;unfold isW3 at b;split at b;exact .inl rfl;exact .inr rfl;exact absurd rfl c;exact b.elim;by_cases f:a=i;subst f;rw[upd_same];rfl;rw[upd_ne ro _ (by omega)];exact g a j f
def Pl.TV(h:Pl n m0 ro cl G size st sm){c c':CT}(j:ro (m0+n)=.cl c){cl':Bool}(t:cl'=true↔c'=.quit)(d:cl'=cl\/∀r S,ro 0≠ .rc r S 1){st' sm':Int}(u:Mode n m0 (upd ro (m0+n) (.cl c')) st' sm'):Pl n m0 (upd ro (m0+n) (.cl c')) cl' G size st' sm':=by
 have v:=h.pos;have w:upd ro (m0+n) (dD.cl c') 0=ro 0:=upd_ne ro _ (by omega);have b:∀i,i<n->upd ro (m0+n) (dD.cl c') (m0+i)=ro (m0+i):=λi E=>upd_ne ro _ (by omega);refine⟨v,?_,λk A B=>by rw[upd_ne ro _ (by omega)];exact h.old k A B,by rw[upd_same];simpa using t,u,h.usr,by rw[upd_same,h.say,j];rfl,λk=>?_⟩;cases h.lay with
 |st p q l s F f m o H=>rw[j]at f;cases f
 |sG l f m o=>rw[j]at f;cases f
 |rc p C q l f m o D s=>
  refine .rc p C q (w.trans l) ⟨_,upd_same _ _ _⟩ m (λa g=>by rw[b a g];exact o a g) D (s.imp id λ⟨x,y,z⟩=>⟨x,?_,λa g=>by rw[b a g];exact z a g⟩);rcases d with d|d;rw[d];exact y;subst x;exact absurd l (d _ _)
 rw[h.done];refine or_congr l8 ?_;by_cases e:k=m0+n;subst e;rw[upd_same,j];exact⟨λ⟨_,_,y,_⟩=>(nomatch y),λ⟨_,_,y,_⟩=>(nomatch y)⟩;rw[upd_ne ro _ e]
def Pl.recv(h:Pl n m0 ro cl G size st sm){c:CT}(f:ro (m0+n)=.cl c):∃r S s,ro 0=.rc r S s/\size=m0+n+1/\pend (ro 0)=0/\∀i,i<n->1<=jd (ro (m0+i)):=by
 cases h.lay with
 |st g j b k q a d e t=>rw[f]at a;cases a
 |sG b a d e=>rw[f]at a;cases a
 |rc g l j b a d e u k=>
  refine⟨g,l,j,b,d,by rw[b];rfl,λi m=>?_⟩;obtain⟨v,o,p,_⟩:=e i m;rw[o];exact p
def Mode.yJ(h:Mode n m0 ro st sm)(b:isOpen (ro (m0+n))):OpenSt n m0 ro/\(∀vs,ro (m0+n)=.cl (.w2 vs)->V n m0 ro<=vs/\1<=vs)/\st=((V n m0 ro+pend (ro 0):Nat):Int)*KK/\sm=0:=by
 cases h with
 |opn a c d=>exact⟨c,d,rfl,rfl⟩
 |reg a _ _=>revert a b;generalize ro (m0+n)=x;unfold isW3 isOpen;split<;>simp
 |last L a _ _ _=>revert a b;generalize ro (m0+n)=x;unfold isW3 isOpen;split<;>simp
 |sema a _=>rcases a with a|a<;>rw[a]at b<;>exact b.elim
 |fin a _=>revert a b;generalize ro (m0+n)=x;unfold isFin isOpen;split<;>simp
def Mode.yK(c:0<m0)(h:Mode n m0 ro st sm)(d:isOpen (ro (m0+n)))(b:isOpen r')(e:∀vs,r'=.cl (.w2 vs)->V n m0 ro<=vs/\1<=vs):Mode n m0 (upd ro (m0+n) r') st sm:=by obtain⟨f,_,rfl,rfl⟩:=h.yJ d;have g:upd ro (m0+n) r' 0=ro 0:=upd_ne ro _ (by omega);have a:V n m0 (upd ro (m0+n) r')=V n m0 ro:=oW (.inr (cz _)) _;have:=Mode.opn (n:=n) (m0:=m0) (ro:=upd ro (m0+n) r') (by rw[upd_same];exact b) (λi j=>by rw[upd_ne ro _ (by omega)];exact f i j) (λvs x=>by rw[a];rw[upd_same]at x;exact e vs x);rwa[g,a]at this
def Pl.SQ(h:Pl n m0 ro cl G size st sm)(b:ro (m0+n)=.cl .w1)(f:V n m0 ro=0):st=0/\sm=0/\Pl n m0 (upd ro (m0+n) (.cl .ke)) cl G size 0 0:=by have k:=h.pos;obtain⟨r,S,s,l,m,c,g⟩:=h.recv b;obtain⟨j,_,a,d⟩:=h.mode.yJ (by rw[b];trivial);rw[c,f]at a;refine⟨by simpa using a,d,h.TV b ?_ (.inl rfl) (.fin (by rw[upd_same];trivial) λi e=>?_)⟩;have:=h.clq;rw[b]at this;simpa using this;rw[upd_ne ro _ (by omega)];rcases j i e with x|x|x;have:=g i e;omega;have:=Mv e x;omega;exact x
theorem Pl.yK(h:Pl n m0 ro cl G size st sm){c c':CT}(b:ro (m0+n)=.cl c)(d:isOpen (.cl c))(a:isOpen (.cl c'))(e:∀vs,c'=.w2 vs->V n m0 ro<=vs/\1<=vs):Pl n m0 (upd ro (m0+n) (.cl c')) cl G size st sm:=by
 refine h.TV b ?_ (.inl rfl) (h.mode.yK h.pos (by rw[b];exact d) a λvs x=>e vs (by cases x;rfl));have:=h.clq;rw[b]at this;have f:c≠ .quit:=by rintro rfl;exact d
 have g:c'≠ .quit:=by rintro rfl;exact a
 simp[f]at this;simp[this,g]
def Pl.YI(h:Pl n m0 ro cl G size st sm){vs:Nat}(b:ro (m0+n)=.cl (.w2 vs))(c:V n m0 ro=vs):Pl n m0 (upd ro (m0+n) (.cl .sw)) cl G size ((vs:Int)*KK+1) 0:=by obtain⟨d,e,_,_⟩:=h.mode.yJ (by rw[b];trivial);have j:=h.pos;have f:=e vs b;have a:V n m0 (upd ro (m0+n) (dD.cl .sw))=V n m0 ro:=oW (.inr (cz _)) _;refine h.TV b ?_ (.inl rfl) ?_;have:=h.clq;rw[b]at this;simpa using this;have:=Mode.reg (n:=n) (m0:=m0) (ro:=upd ro (m0+n) (.cl .sw)) (by rw[upd_same];trivial) (λi g=>by rw[upd_ne ro _ (by omega)];exact d i g) (by rw[a];omega);rwa[a,c]at this
def Pl.Uq(h:Pl n m0 ro cl G size st sm){c c':CT}(e:ro (m0+n)=.cl c)(g:isW3 (.cl c))(f:isW3 (.cl c'))(l:c'=.blk->sm=0):Pl n m0 (upd ro (m0+n) (.cl c')) cl G size st sm:=by
 have p:=h.pos;have b:∀x,V n m0 (upd ro (m0+n) x)=V n m0 ro:=oW (.inr (cz _));have a:∀x i,i<n->upd ro (m0+n) x (m0+i)=ro (m0+i):=λx i d=>upd_ne ro _ (by omega);refine h.TV e ?_ (.inl rfl) ?_;have:=h.clq;rw[e]at this;have m:c≠ .quit:=by rintro rfl;exact g
 have o:c'≠ .quit:=by rintro rfl;exact f
 simp[m]at this;simp[this,o];cases q:h.mode with
 |opn x _ _=>rw[e]at x;revert x g;cases c<;>simp[isOpen,isW3]
 |reg x y z=>
  have:=Mode.reg (n:=n) (m0:=m0) (ro:=upd ro (m0+n) (.cl c')) (by rw[upd_same];exact f) (λi d=>by rw[a _ i d];exact y i d) (by rw[b];exact z);rwa[b]at this
 |last L x j y z=>
  have:=Mode.last (n:=n) (m0:=m0) (ro:=upd ro (m0+n) (.cl c')) L (by rw[upd_same];exact f) j (by rw[a _ L j];exact y) (λi d k=>by rw[a _ i d];exact z i d k);rwa[a _ L j]at this
 |sema x y=>
  refine .sema ?_ λi d=>by rw[a _ i d];exact y i d
  rw[upd_same];revert f l;cases c'<;>simp[isW3]
 |fin x _=>rw[e]at x;revert x g;cases c<;>simp[isFin,isW3]
def Pl.Eh(h:Pl n m0 ro cl G size st sm)(a:ro (m0+n)=.cl .w3):sm=0\/(st=0/\sm=1/\Pl n m0 (upd ro (m0+n) (.cl .w4)) cl G size 0 0):=by
 have c:=h.pos;cases d:h.mode with
 |opn x _ _=>rw[a]at x;exact x.elim
 |reg x y z=>exact .inl rfl
 |last L x e y z=>exact .inl rfl
 |sema x y=>
  refine .inr ⟨rfl,rfl,h.TV a ?_ (.inl rfl) (.fin (by rw[upd_same];trivial) λi b=>by rw[upd_ne ro _ (by omega)];exact y i b)⟩;have:=h.clq;rw[a]at this;simpa using this
 |fin x _=>rw[a]at x;exact x.elim
def Mode.ofFin(h:Mode n m0 ro st sm)(b:isFin (ro (m0+n))):AllQuit n m0 ro/\st=0/\sm=0:=by
 cases h with
 |opn a c d=>revert a b;generalize ro (m0+n)=x;unfold isOpen isFin;split<;>simp
 |reg a _ _=>revert a b;generalize ro (m0+n)=x;unfold isW3 isFin;split<;>simp
 |last L a _ _ _=>revert a b;generalize ro (m0+n)=x;unfold isW3 isFin;split<;>simp
 |sema a _=>rcases a with a|a<;>rw[a]at b<;>exact b.elim
 |fin a c=>exact⟨c,rfl,rfl⟩
def Pl.IK(h:Pl n m0 ro cl G size st sm){c c':CT}(b:ro (m0+n)=.cl c)(d:isFin (.cl c))(e:isFin (.cl c')){cl':Bool}(f:cl'=true↔c'=.quit)(a:cl'=cl\/∀r S,ro 0≠ .rc r S 1):Pl n m0 (upd ro (m0+n) (.cl c')) cl' G size st sm:=by obtain⟨x,rfl,rfl⟩:=h.mode.ofFin (by rw[b];exact d);have j:=h.pos;exact h.TV b f a (.fin (by rw[upd_same];exact e) λi g=>by rw[upd_ne ro _ (by omega)];exact x i g)
def Pl.ut(h:Pl n m0 ro cl G size st sm){c:CT}(g:ro (m0+n)=.cl c)(q:isFin (.cl c)):∃S s,ro 0=.rc 0 S s/\(∀i,i<n->∃k,ro (m0+i)=.wk k 1)/\size=m0+n+1:=by
 obtain⟨x,_,_⟩:=h.mode.ofFin (by rw[g];exact q);cases h.lay with
 |st o p j r w b l d y=>rw[g]at b;cases b
 |sG j b l d=>rw[g]at b;cases b
 |rc o e p j b l d z r=>
  have m:∀i,i<n->e i=true:=λi a=>by obtain⟨t,f,A,B,u⟩:=d i a;have:=x i a;rw[f]at this;simp only[jd]at this;exact u.2 (by omega)
  have C:sumTo n (λi=>if e i then 1 else 0)=n:=by
   have:sumTo n (λi=>if e i then 1 else 0)=sumTo n λ_=>1:=sumTo_congr λi a=>by rw[m i a];rfl
   rw[this,Bp]
  have v:o=0:=by omega
  subst v;refine⟨e,p,j,λi a=>?_,l⟩;obtain⟨t,f,_⟩:=d i a;have:=x i a;rw[f]at this;simp only[jd]at this;subst this;exact⟨i,f⟩
end
section
variable{G:Gh}{g d n m Wg:Nat}
theorem PC:na G g d n m #[]:=λj e h=>by simp at h
theorem pE{e:Event}(c:(MemAct.ofEvent e).touch?=none)(f:(MemAct.ofEvent e).low m):na G g d n m #[e]:=by
 intro j x h;have:x=e:=by have:=l7 h;simpa using this
 subst this;exact⟨λa b=>by rw[c]at b;(cases b),f⟩
theorem Ei{w:Bool}{a:Addr}(c:G.wg a.block)(e:G.user g)(f:g=G.sayer)(i:a.block<m):na G g d n m #[mk (if w then .write a else .read a)]:=by
 intro j x h;have:x=mk (if w then .write a else .read a):=by have:=l7 h;simpa using this
 subst this;cases w<;>refine⟨λt b _=>?_,i⟩<;>(simp[mk,MemAct.ofEvent,MemAct.touch?]at b;subst b;exact⟨a.block,rfl,.inr (.inr ⟨rfl,c,e,f⟩)⟩)
theorem pF{es:Array Event}(f:G.wg Wg)(i:G.user g)(k:Wg<m) (h:∀(j:Nat) (e:Event),es[j]? =some e->((MemAct.ofEvent e).touch?=none/\(MemAct.ofEvent e).low m)\/((∃a b,e=⟨.cell a,b,true⟩/\a.block=Wg)/\0<deafBehind d (es.extract 0 j))):na G g d n m es:=by
 intro j e l;rcases h j e l with⟨o,p⟩|⟨⟨a,b,rfl,q⟩,r⟩;exact⟨λt c=>by rw[o]at c;(cases c),p⟩;subst q;have s:MemAct.ofEvent ⟨.cell a,b,true⟩=.access ⟨.cell a,b,true⟩:=by cases b<;>rfl
 rw[s];refine⟨λt c _=>?_,k⟩;simp only[MemAct.touch?,fI]at c;subst c;exact⟨a.block,rfl,.inr (.inl ⟨rfl,f,i,λ_=>r⟩)⟩
theorem yL(b:G.wg Wg)(c:G.user g)(f:Wg<m)(h:0<d):na G g d n m #[ConcR.rd (stA Wg)]:=pF b c f λj e a=>.inr (by
 match j,a with
 |0,a=>simp at a;subst a;exact⟨⟨_,_,rfl,rfl⟩,by simpa[deafBehind]using h⟩
 |j+1,a=>simp at a)
theorem SS(b:G.wg Wg)(c:G.user g)(f:Wg<m)(h:0<d):na G g d n m #[ConcR.wr (stA Wg)]:=pF b c f λj e a=>.inr (by
 match j,a with
 |0,a=>simp at a;subst a;exact⟨⟨_,_,rfl,rfl⟩,by simpa[deafBehind]using h⟩
 |j+1,a=>simp at a)
theorem qW(c:G.wg Wg)(f:G.user g)(h:Wg<m)(b:0<d):na G g d n m #[ConcR.rd (stA Wg),ConcR.wr (stA Wg)]:=pF c f h λj e a=>.inr (by
 match j,a with
 |0,a=>simp at a;subst a;exact⟨⟨_,_,rfl,rfl⟩,by simpa[deafBehind]using b⟩
 |1,a=>simp at a;subst a;exact⟨⟨_,_,rfl,rfl⟩,by simpa[deafBehind,ConcR.rd]using b⟩
 |j+2,a=>simp at a)
theorem IL(b:G.wg Wg)(c:G.user g)(f:Wg<m):na G g d n m (semEvents (smA Wg)):=pF b c f λj e a=>by
 match j,a with
 |0,a=>simp[semEvents]at a;subst a;exact .inl ⟨rfl,trivial⟩
 |1,a=>simp[semEvents]at a;subst a;exact .inr ⟨⟨_,_,rfl,rfl⟩,by simp[deafBehind,semEvents]⟩
 |2,a=>simp[semEvents]at a;subst a;exact .inr ⟨⟨_,_,rfl,rfl⟩,by simp[deafBehind,semEvents]⟩
 |3,a=>simp[semEvents]at a;subst a;exact .inl ⟨rfl,trivial⟩
 |j+4,a=>simp[semEvents]at a
theorem PD{es:Array Event}(k:G.Fits n)(b:n<=m)(h:∀e∈es,EvW (G.own g) (G.rd g) n m e):na G g d n m es:=by
 intro j e o;rcases h e (l7 o)with⟨a,c,rfl,i⟩|⟨r,c,rfl,i⟩|rfl;have l:MemAct.ofEvent ⟨.cell a,c,false⟩=.access ⟨.cell a,c,false⟩:=by cases c<;>rfl
 rw[l];refine⟨λt f _=>?_,?_⟩;simp only[MemAct.touch?,fI]at f;subst f;exact⟨a.block,rfl,.inl ⟨rfl,i.imp id (.imp (λx=>⟨x.2,x.1⟩) id)⟩⟩;show a.block<m;rcases i with h|⟨_,h⟩|h;exact dl (k.own _ _ h) b;exact dl (k.rd _ _ h) b;exact h.2;have l:MemAct.ofEvent ⟨.obj r,c,false⟩=.access ⟨.obj r,c,false⟩:=by cases c<;>rfl
 rw[l];refine⟨λt f _=>?_,?_⟩;simp only[MemAct.touch?,fI]at f;subst f;exact⟨r,rfl,.inl ⟨rfl,i.imp id .inr⟩⟩;show r<m;rcases i with h|h;exact dl (k.own _ _ h) b;exact h.2;exact⟨λt f=>by simp[MemAct.ofEvent,MemAct.touch?]at f,trivial⟩
theorem Mx{own rd:Nat->Prop}{es:Array Event}(h:∀e∈es,EvW own rd n m e)(d:Nat):deafBehind d es=d:=
 deafBehind_still (λe b=>by rcases h e b with⟨a,c,rfl,_⟩|⟨r,c,rfl,_⟩|rfl<;>simp) d
theorem My{es:Array Event}(h:∀e∈es,e.mute=true):na G g d n m es:=λj e a=>⟨λt b=>by rw[touch_mute (h e (l7 a))]at b;(cases b),low_mute (h e (l7 a)) m⟩
end
section
variable(P:cf)(ty:cg)(Wg Ch n:Nat)(rd0:Nat->Prop)(val:Nat->ce->(Nat->Prop)->cd->Prop)(End:gF)(w0:cd)(B0 m0:Nat)
def yM(G:Gh)(cl:Bool)(t:Trace):Prop:=cl=true->∃p,t.act? p=some (.close Ch)/\t.heard p/\t.g? p=some (m0+n)/\∀i a,G.t0<=i->touchAt t i=some a->a.loc.isMemory=true->t.g? i=some (m0+n)->i<p
def dU(X:Nat->Prop)(T0:Nat)(a:Mu)(m:Machine)(t:Trace):Prop:=
 ∃(gs:Array cj) (w:cd) (sl:Option (Nat×Nat)) (ro:Nat->dD) (rk:Nat->WT) (dd:Nat->Nat) (G:Gh) (cl:Bool) (st sm:Int),m=crowd gs w sl/\Com P ty Wg Ch n rd0 val End w0 B0 ro rk dd G cl gs w t/\WgAt ty Wg w st sm/\Pl n m0 ro cl G gs.size st sm/\yM Ch n m0 G cl t/\G.x=X/\G.t0=T0/\a=⟨meas n m0 ro,gs.size,rk,Eg (ro (m0+n))⟩
end
section
variable{P:cf}{ty:cg}{Wg Ch n:Nat}{rd0:Nat->Prop}{val:Nat->ce->(Nat->Prop)->cd->Prop}{End:gF}{w0:cd}{B0 m0:Nat}{X:Nat->Prop}{T0:Nat} {ro:Nat->dD}{rk:Nat->WT}{dd:Nat->Nat}{G:Gh}{cl:Bool}{gs:Array cj}{w w':cd}{sl:Option (Nat×Nat)}{t:Trace}{st sm:Int}
theorem Pl.YJ{G':Gh}{size:Nat}(h:Pl n m0 ro cl G size st sm)(a:G'.user=G.user)(b:G'.sayer=G.sayer)(c:G'.done=G.done):Pl n m0 ro cl G' size st sm:=
 ⟨h.pos,h.lay,h.old,h.clq,h.mode,by rw[a];exact h.usr,by rw[b];exact h.say,by rw[c];exact h.done⟩
theorem yM.app{u:Trace}(h:yM Ch n m0 G cl t){G':Gh}(q:G'.t0=G.t0)(r:cl=true->∀f∈u,f.g=m0+n->f.act.touch?=none):yM Ch n m0 G' cl (t++u):=by intro m;obtain⟨p,o,s,v,w⟩:=h m;have k:=lt_of_act? o;refine⟨p,by rw[act?_old k];exact o,(heard_old k).2 s,by rw[g?_old k];exact v,λi a x y z j=>?_⟩;obtain⟨f,c,b⟩:=touch_of y;rcases getElem?_append_cases c with⟨l,d⟩|⟨_,e⟩;exact w i a (q▸x) (by rw[touchAt_of d];exact b) z (by rw[g?_old l]at j;exact j);simp only[Trace.g?,c,iX,fI]at j;rw[r m f e j]at b;cases b
theorem Pl.GZ{size:Nat}(h:Pl n m0 ro cl G size st sm)(f:size=gs.size)(b:cl=true){x:Nat}(m:x<gs.size):(∀r S,ro x≠ .rc r S 1)/\∀i,ro x≠ .wk i 8:=by
 have o:=h.clq.1 b;obtain⟨S,s,d,p,z⟩:=h.ut o trivial;subst f;rcases h.lt_size m with rfl|⟨q,t⟩|⟨i,s,u,rfl,e,_⟩|⟨rfl,c,e⟩;rw[d];refine⟨λr A e=>?_,λi e=>by cases e⟩;cases e;cases h.lay with
 |st v w a gs B g j l C=>rw[d]at a;cases a
 |sG a g j l=>rw[d]at a;cases a
 |rc v D w a g j l E gs=>
  rw[d]at a;cases a;rcases gs with x|⟨_,x,_⟩;omega;rw[b]at x;cases x
 rw[h.old x q t];exact⟨λ_ _ e=>(nomatch e),λ_ e=>(nomatch e)⟩;obtain⟨k,y⟩:=p i u;rw[y];exact⟨λ_ _ e=>(nomatch e),λ_ e=>(nomatch e)⟩;rw[e];exact⟨λ_ _ e=>(nomatch e),λ_ e=>(nomatch e)⟩
theorem dU.go(h:Com P ty Wg Ch n rd0 val End w0 B0 ro rk dd G cl gs w t)(s:Pl n m0 ro cl G gs.size st sm)(u:yM Ch n m0 G cl t)(F:G.x=X)(H:G.t0=T0) {k:Nat}{g g':cj}{es:Array Event}{r':dD}{τ':WT}{st' sm':Int}(v:gs[k]? =some g)(y:stepG P (k==0) g w=.go g' w' es) (I:yI Wg (G.own k) w w')(d:WgAt ty Wg w' st' sm')(z:na G k (dd k) w.heap.size w'.heap.size es)(J:G.done k->w'.heap.size=w.heap.size) (K:kT P ty Wg Ch n rd0 val End r' τ' (deafBehind (dd k) es) ((G.grow k w.heap.size w'.heap.size).own k) (G.rd k) g' w')
 (l:Pl n m0 (upd (λx=>mj (ix P g g') (ro x)) k r') cl G gs.size st' sm')
 (A:cl=true->k=m0+n->∀e∈es,(MemAct.ofEvent e).touch?=none) (c:meas n m0 (upd (λx=>mj (ix P g g') (ro x)) k r')<meas n m0 ro\/(meas n m0 (upd (λx=>mj (ix P g g') (ro x)) k r')=meas n m0 ro/\WT.Sub τ' (rk k))):
 ∃b ops m,runT P (crowd gs w sl) k=(.next b,ops)/\Mu.Lt m ⟨meas n m0 ro,gs.size,rk,Eg (ro (m0+n))⟩/\dU P ty Wg Ch n rd0 val End w0 B0 m0 X T0 m b (t++ops):=by
 have o:=runT_crowd_go (P:=P) (sl:=sl) (i:=k) v y;have p:k<gs.size:=(eP.1 v).1;have q:=h.go (r':=r') (τ':=τ') v (λB x L=>s.GZ rfl B L) I ⟨_,_,d⟩ z J K;refine⟨_,_,⟨meas n m0 (upd (λx=>mj (ix P g g') (ro x)) k r'),((gs.map (woken P g g' w')).setIfInBounds k g').size,upd rk k τ',Eg (upd (λx=>mj (ix P g g') (ro x)) k r' (m0+n))⟩,o,?_,_,w',sl,_,_,_,_,cl,st',sm',rfl,q,d,?_,?_,F,H,rfl⟩;rcases c with c|⟨C,r⟩;exact .a c;refine .f C (by simp) ⟨k,p,by simp only;rw[upd_same];exact r,λj _ M=>by simp only;rw[upd_ne _ _ M]⟩;have:((gs.map (woken P g g' w')).setIfInBounds k g').size=gs.size:=by simp
 rw[this];exact l.YJ rfl rfl rfl;refine u.app rfl λB N D E=>?_;obtain⟨e,C,rfl⟩:=Go.Conc.mem_ofEvents D;exact A B E e C
end
theorem yI.yN{Wg:Nat}{own:Nat->Prop}{w w':cd}(h:Aside Wg w w'):yI Wg own w w':=⟨h.tape,h.os,h.output,by rw[h.size];exact cz _,λb _ _ a=>h.block b a⟩
section
variable{P:cf}{ty:cg}{Wg Ch n:Nat}{rd0:Nat->Prop}{val:Nat->ce->(Nat->Prop)->cd->Prop}{End:gF}{w0:cd}{B0 m0:Nat}{X:Nat->Prop}{T0:Nat} {ro:Nat->dD}{rk:Nat->WT}{dd:Nat->Nat}{G:Gh}{cl:Bool}{gs:Array cj}{w w':cd}{sl:Option (Nat×Nat)}{t:Trace}{st sm:Int}
theorem Com.at(h:Com P ty Wg Ch n rd0 val End w0 B0 ro rk dd G cl gs w t)(d:Nat):Com P ty Wg Ch n rd0 val End w0 B0 ro rk dd G cl gs (w.at d) t:=
 {h with sit:=λk g a=>(h.sit k g a).rely (dG.at _ _ (λ_ _ x=>x) w d)}
def Goal(P:cf)(ty:cg)(Wg Ch n:Nat)(rd0:Nat->Prop)(val:Nat->ce->(Nat->Prop)->cd->Prop)(End:gF)(w0:cd)(B0 m0:Nat)(X:Nat->Prop)(T0:Nat) (ro:Nat->dD)(rk:Nat->WT)(gs:Array cj)(w:cd)(sl:Option (Nat×Nat))(t:Trace)(k:Nat):Prop:=
 ∃a b c,runT P (crowd gs w sl) k=(.next a,b)/\Mu.Lt c ⟨meas n m0 ro,gs.size,rk,Eg (ro (m0+n))⟩/\dU P ty Wg Ch n rd0 val End w0 B0 m0 X T0 c a (t++b)
variable(cT:Com P ty Wg Ch n rd0 val End w0 B0 ro rk dd G cl gs w t)(er:Pl n m0 ro cl G gs.size st sm)(iF:yM Ch n m0 G cl t)(hX:G.x=X)(hT:G.t0=T0)(fS:WgAt ty Wg w st sm)
include cT er iF hX hT fS
theorem dU.IM{k:Nat}{g:cj}{r:dD}{S:gF}{j:WT}(A:gs[k]? =some g)(B:Way P (k==0) (G.rd k) (Lv ty Wg) S j (G.own k) g w)(p:rk k=j)(l:ro k=r)(C:r≠ .cl .blk)(D:r≠ .cl .quit)(q:¬G.done k) (s:∀j own g w,Way P (k==0) (G.rd k) (Lv ty Wg) S j own g w->kT P ty Wg Ch n rd0 val End r j (dd k) own (G.rd k) g w):(∀w1,dG (G.own k) (G.rd k) (Lv ty Wg) w w1->S (G.own k) g w1)\/Goal P ty Wg Ch n rd0 val End w0 B0 m0 X T0 ro rk gs w sl t k:=by
 cases B with
 |here h=>exact .inl h
 | @step f own g _ K E F=>
  right;obtain⟨m,w',z,d,e,c⟩:=E w (.refl _ _ _ _);have u:=F w m w' z d (.refl _ _ _ _) e c;have a:d=(G.grow k w.heap.size w'.heap.size).own k:=by funext b;apply propext;rw[c.owns];exact⟨Or.imp id λx=>⟨rfl,x⟩,Or.imp id λx=>x.2⟩
  have v:deafBehind (dd k) z=dd k:=Mx c.evs _
  have o:upd (λx=>mj (ix P g m) (ro x)) k r=λx=>mj (ix P g m) (ro x):=by
   have:mj (ix P g m) (ro k)=r:=by rw[l];exact vN C
   have h:=oX (λx=>mj (ix P g m) (ro x)) k;simp only[this]at h;exact h
  have i:w'.heap[Wg]? =w.heap[Wg]? :=c.same Wg cT.wglow λx=>cT.fits.ownwg _ _ x ((cT.wg _).2 (.inl rfl));refine dU.go cT er iF hX hT (st':=st) (sm':=sm) (r':=r) (τ':=f w) A e ⟨c.tape,c.os,c.output,c.size,λb H I _=>c.same b H I⟩ (fS.of_block i) (PD cT.fits c.size c.evs) (λx=>absurd x q) ?_ ?_ (λJ y=>?_) (.inr ⟨?_,?_⟩);rw[v,<-a];exact s _ _ _ _ u;rw[o];exact er.Pz _;exfalso;have:=er.clq.1 J;rw[<-y,l]at this;exact D this;rw[o];exact ur _;rw[p];exact .mk f w
theorem dU.idle{k:Nat}{g:cj}{r:dD}{S:gF}{a:WT}(f:gs[k]? =some g)(i:Way P (k==0) (G.rd k) (Lv ty Wg) S a (G.own k) g w)(b:rk k=a)(c:ro k=r)(j:r≠ .cl .blk)(l:r≠ .cl .quit)(d:¬G.done k) (e:∀a own g w,Way P (k==0) (G.rd k) (Lv ty Wg) S a own g w->kT P ty Wg Ch n rd0 val End r a (dd k) own (G.rd k) g w):S (G.own k) g w\/Goal P ty Wg Ch n rd0 val End w0 B0 m0 X T0 ro rk gs w sl t k:=
 (dU.IM cT er iF hX hT fS f i b c j l d e).imp (λh=>h w (.refl _ _ _ _)) id
theorem dU.quiet{k m:Nat}{g:cj}{r:dD}{S:cj->cd->Prop}(o:gs[k]? =some g)(c:k≠0)(p:Goes P false (dG cC cC (Lv ty Wg)) ConcR.DC0 S m g w)(d:rk k=.num m)(f:ro k=r)(q:r≠ .cl .blk) (i:∀m g w,Goes P false (dG cC cC (Lv ty Wg)) ConcR.DC0 S m g w->kT P ty Wg Ch n rd0 val End r (.num m) (dd k) (G.own k) (G.rd k) g w):S g w\/Goal P ty Wg Ch n rd0 val End w0 B0 m0 X T0 ro rk gs w sl t k:=by
 rcases Goes.cases p with h|⟨l,rfl,h⟩;exact .inl (h w (.refl _ _ _ _));right;obtain⟨b,w',v,e,⟨rfl,rfl⟩,j⟩:=h w (.refl _ _ _ _)
 have a:upd (λx=>mj (ix P g b) (ro x)) k r=λx=>mj (ix P g b) (ro x):=by
  have:mj (ix P g b) (ro k)=r:=by rw[f];exact vN q
  have h:=oX (λx=>mj (ix P g b) (ro x)) k;simp only[this]at h;exact h
 have s:(k==0)=false:=by simpa using c
 refine dU.go cT er iF hX hT (st':=st) (sm':=sm) (r':=r) (τ':=.num l) o (by rw[s];exact e) (yI.yN (.refl Wg _)) fS PC (λ_=>rfl) ?_ ?_ (λ_ _ e u=>by simp at u) (.inr ⟨?_,?_⟩);rw[Gh.rZ];exact i _ _ _ j;rw[a];exact er.Pz _;rw[a];exact ur _;rw[d];exact WT.II l
theorem dU.book{k:Nat}{g g':cj}{es:Array Event}{r':dD}{τ':WT}{st' sm':Int}(o:gs[k]? =some g)(d:stepG P (k==0) g w=.go g' w' es)(j:Aside Wg w w')(b:WgAt ty Wg w' st' sm') (f:na G k (dd k) w.heap.size w.heap.size es)(p:kT P ty Wg Ch n rd0 val End r' τ' (deafBehind (dd k) es) (G.own k) (G.rd k) g' w') (q:ro k≠ .cl .quit) (c:∀a,Pl n m0 a cl G gs.size st sm->(∀x,ro x≠ .cl .blk->a x=ro x)->V n m0 a=V n m0 ro->(ix P g g'=true->a (m0+n)≠ .cl .blk)->Pl n m0 (upd a k r') cl G gs.size st' sm'/\meas n m0 (upd a k r')<meas n m0 a):Goal P ty Wg Ch n rd0 val End w0 B0 m0 X T0 ro rk gs w sl t k:=by have h:=j.size;obtain⟨r,l⟩:=c (λx=>mj (ix P g g') (ro x)) (er.Pz _) (λx s=>vN s) (Bo _) (λu e=>by rcases pD (ix P g g') (ro (m0+n))with x|⟨_,_,x⟩;have m:mj (ix P g g') (ro (m0+n))=.cl .blk:=e;rw[x]at m;rw[m,u]at x;cases x;rw[x]at e;cases e);rw[ur]at l;refine dU.go cT er iF hX hT (st':=st') (sm':=sm') (r':=r') (τ':=τ') o d (.yN j) b (by rw[h];exact f) (λ_=>h) (by rw[h,Gh.rZ];exact p) r (λv i=>?_) (.inl l);exfalso;have:=er.clq.1 v;rw[<-i]at this;exact q this
theorem dU.slip{k q d:Nat}{g:cj}{r:dD}(u:gs[k]? =some g)(j:k≠0)(v:r≠ .cl .blk)(s:QuitsD P q d g)(a:g.status=.running)(l:rk k=.num q)(m:dd k=d)(o:ro k=r) (p:∀q d g w,QuitsD P q d g->kT P ty Wg Ch n rd0 val End r (.num q) d (G.own k) (G.rd k) g w):Goal P ty Wg Ch n rd0 val End w0 B0 m0 X T0 ro rk gs w sl t k:=by
 cases q with
 |zero=>rw[s.1]at a;cases a
 |succ q=>
  rcases s with⟨y,_⟩|⟨_,i,C,b,c,z⟩;rw[y]at a;cases a
  have f:upd (λx=>mj (ix P g i) (ro x)) k r=λx=>mj (ix P g i) (ro x):=by
   have:mj (ix P g i) (ro k)=r:=by rw[o];exact vN v
   have h:=oX (λx=>mj (ix P g i) (ro x)) k;simp only[this]at h;exact h
  have A:(k==0)=false:=by simpa using j
  refine dU.go cT er iF hX hT (st':=st) (sm':=sm) (r':=r) (τ':=.num q) u (by rw[A];exact c w) (yI.yN (.refl Wg _)) fS (My b) (λ_=>rfl) ?_ ?_ (λ_ _ e B=>touch_mute (b e B)) (.inr ⟨?_,?_⟩);rw[Gh.rZ,m];exact p _ _ _ _ z;rw[f];exact er.Pz _;rw[f];exact ur _;rw[l];exact WT.II q
end
section
variable{P:cf}{ty:cg}{Wg Ch n:Nat}{rd0:Nat->Prop}{val:Nat->ce->(Nat->Prop)->cd->Prop}{End:gF}{w0:cd}{B0 m0:Nat}{X:Nat->Prop}{T0:Nat} {ro:Nat->dD}{rk:Nat->WT}{dd:Nat->Nat}{G:Gh}{cl:Bool}{gs:Array cj}{w w':cd}{sl:Option (Nat×Nat)}{t:Trace}{st sm:Int}
variable(cT:Com P ty Wg Ch n rd0 val End w0 B0 ro rk dd G cl gs w t)(er:Pl n m0 ro cl G gs.size st sm)(iF:yM Ch n m0 G cl t)(hX:G.x=X)(hT:G.t0=T0)(fS:WgAt ty Wg w st sm)
include cT er iF hX hT fS
theorem dU.PF(hn:n<2147483647){i s:Nat}{g:Goroutine}(hi:i<n)(hk:gs[m0+i]? =some g)(e:ro (m0+i)=.wk i s)(hs:s<=7)(CO:g.status=.running):Goal P ty Wg Ch n rd0 val End w0 B0 m0 X T0 ro rk gs w sl t (m0+i):=by
 have hp:=er.pos;have hS:=cT.sit _ g hk;have AY:m0+i<gs.size:=(Array.getElem?_eq_some_iff.1 hk).1;have Mz:G.user (m0+i):=(er.usr _).2 (.inr ⟨by omega,AY⟩);have hw:=(cT.wg Wg).2 (.inl rfl);have MB:=cT.wglow;have e0:(m0+i==0)=false:=by simp;omega
 have PG:ro (m0+i)≠ .cl .quit:=by rw[e];simp
 generalize PH:rk (m0+i)=τ at hS;generalize hd:dd (m0+i)=d at hS;rw[e]at hS;cases hS with
 |Pt h=>omega
 |tu h=>omega
 |r0 h=>
  rcases dU.quiet (sl:=sl) cT er iF hX hT fS hk (by omega) h PH e (by simp) (λm g w h=>by rw[hd];exact .r0 h)with⟨_,g',hgo,m,LZ⟩|h
  ·refine dU.book (r':=.wk i 6) (τ':=.num m) cT er iF hX hT fS hk (by rw[e0];exact hgo) (.refl Wg w) fS (pE (e:=mk (.releaseMerge (stA Wg))) rfl MB) (by rw[hd];exact .k1 LZ) PG λJW h1 h2 h3 _=>?_;have e1:JW (m0+i)=.wk i 7:=by rw[h2 _ (by rw[e];simp)];exact e
   exact⟨h1.Uo hi e1 (by omega) (by omega),ml hp hi (by rw[e1];simp[jd])⟩
  ·exact h
 |k1 h=>
  rcases dU.quiet (sl:=sl) cT er iF hX hT fS hk (by omega) h PH e (by simp) (λm g w h=>by rw[hd];exact .k1 h)with⟨_,g',hgo,m,LZ⟩|h
  ·refine dU.book (r':=.wk i 5) (τ':=.num m) cT er iF hX hT fS hk (by rw[e0];exact hgo) (.refl Wg w) fS (pE (e:=mk .disable) rfl trivial) (by rw[hd];exact .d1 LZ) PG λJW h1 h2 h3 _=>?_;have e1:JW (m0+i)=.wk i 6:=by rw[h2 _ (by rw[e];simp)];exact e
   exact⟨h1.Uo hi e1 (by omega) (by omega),ml hp hi (by rw[e1];simp[jd])⟩
  ·exact h
 |d1 h=>
  rcases dU.quiet (sl:=sl) cT er iF hX hT fS hk (by omega) h PH e (by simp) (λm g w h=>by rw[hd];exact .d1 h)with⟨_,CG⟩|h
  ·obtain⟨v,wt,k1,k2,k3,k4,_,_⟩:=er.d1 hi e;subst k3 k4;obtain⟨g',hgo,ha,hb⟩:=CG v wt k1 (by omega) fS;by_cases hl:v=0/\wt=1
   ·obtain⟨m,LZ⟩:=ha hl;refine dU.book (r':=.wk i 4) (τ':=.num m) cT er iF hX hT fS hk (by rw[e0];exact hgo) (aside_setCell w (stA Wg) _) (fS.setSt _) (qW hw Mz MB (by omega)) (by rw[hd];exact .d2 LZ) PG λJW h1 h2 h3 _=>?_;have e1:JW (m0+i)=.wk i 5:=by rw[h2 _ (by rw[e];simp)];exact e
    obtain⟨v2,V9,j1,j2,j3,j4,j5,j6⟩:=h1.d1 hi e1;have:v2=v/\V9=wt:=by simp only[KK]at j3;omega
    obtain⟨rfl,rfl⟩:=this;exact⟨j5 hl,ml hp hi (by rw[e1];simp[jd])⟩
   ·obtain⟨q,hq⟩:=hb hl;refine dU.book (r':=.wk i 1) (τ':=.num q) cT er iF hX hT fS hk (by rw[e0];exact hgo) (aside_setCell w (stA Wg) _) (fS.setSt _) (qW hw Mz MB (by omega)) (by rw[hd];exact .quit hq) PG λJW h1 h2 h3 _=>?_;have e1:JW (m0+i)=.wk i 5:=by rw[h2 _ (by rw[e];simp)];exact e
    obtain⟨v2,V9,j1,j2,j3,j4,j5,j6⟩:=h1.d1 hi e1;have:v2=v/\V9=wt:=by simp only[KK]at j3;omega
    obtain⟨rfl,rfl⟩:=this;exact⟨j6 hl,ml hp hi (by rw[e1];simp[jd])⟩
  ·exact h
 |d2 h=>
  rcases dU.quiet (sl:=sl) cT er iF hX hT fS hk (by omega) h PH e (by simp) (λm g w h=>by rw[hd];exact .d2 h)with⟨_,hx⟩|h
  ·obtain⟨_,_,k3,k4⟩:=er.isLast hi e (by omega);simp only[Nat.reduceEqDiff,if_false]at k3;subst k3 k4;obtain⟨g',hgo,m,LZ⟩:=hx fS;refine dU.book (r':=.wk i 3) (τ':=.num m) cT er iF hX hT fS hk (by rw[e0];exact hgo) (.refl Wg w) fS (yL hw Mz MB (by omega)) (by rw[hd];exact .d3 LZ) PG λJW h1 h2 h3 _=>?_;have e1:JW (m0+i)=.wk i 4:=by rw[h2 _ (by rw[e];simp)];exact e
   exact⟨h1.last hi e1 (.inl ⟨rfl,rfl⟩),ml hp hi (by rw[e1];simp[jd])⟩
  ·exact h
 |d3 h=>
  rcases dU.quiet (sl:=sl) cT er iF hX hT fS hk (by omega) h PH e (by simp) (λm g w h=>by rw[hd];exact .d3 h)with⟨_,hx⟩|h
  ·obtain⟨_,_,k3,k4⟩:=er.isLast hi e (by omega);simp only[Nat.reduceEqDiff,if_false]at k3;subst k3 k4;obtain⟨g',hgo,m,LZ⟩:=hx fS;refine dU.book (r':=.wk i 2) (τ':=.num m) cT er iF hX hT fS hk (by rw[e0];exact hgo) (aside_setCell w (stA Wg) _) (fS.setSt 0) (SS hw Mz MB (by omega)) (by rw[hd];exact .d4 LZ) PG λJW h1 h2 h3 _=>?_;have e1:JW (m0+i)=.wk i 3:=by rw[h2 _ (by rw[e];simp)];exact e
   exact⟨h1.last hi e1 (.inr ⟨rfl,rfl⟩),ml hp hi (by rw[e1];simp[jd])⟩
  ·exact h
 |d4 h=>
  rcases dU.quiet (sl:=sl) cT er iF hX hT fS hk (by omega) h PH e (by simp) (λm g w h=>by rw[hd];exact .d4 h)with⟨_,YK,hx⟩|h
  ·obtain⟨_,_,k3,k4⟩:=er.isLast hi e (by omega);simp only[if_true]at k3;subst k3 k4;obtain⟨g',hgo,q,hq⟩:=hx fS;have Ur:g'.status=.running:=by
    cases q with
    |zero=>exact absurd hq.2 (by decide)
    |succ q=>exact hq.elim (λx=>absurd x.2 (by decide)) (λx=>x.1)
   refine dU.book (r':=.wk i 1) (τ':=.num q) cT er iF hX hT fS hk (by rw[e0];exact hgo) (aside_setCell w (smA Wg) _) (fS.setSm 1) (IL hw Mz MB) (by rw[hd];exact .quit (d:=deafBehind 1 (semEvents (smA Wg))) (by simpa[deafBehind,semEvents]using hq)) PG λJW h1 h2 h3 h4=>?_;have e1:JW (m0+i)=.wk i 2:=by rw[h2 _ (by rw[e];simp)];exact e
   exact⟨h1.raise hi e1 (h4 (by simp[ix,YK,Ur])),ml hp hi (by rw[e1];simp[jd])⟩
  ·exact h
 |quit h=>exact dU.slip cT er iF hX hT fS hk (by omega) (by simp) h CO PH hd e λ_ _ _ _ h=>.quit h
theorem dU.G0(hn:n<2147483647){c:CT}{g:cj}(p:gs[m0+n]? =some g)(e:ro (m0+n)=.cl c)(K:g.status=.running):Goal P ty Wg Ch n rd0 val End w0 B0 m0 X T0 ro rk gs w sl t (m0+n)\/(c=.cl/\TT P Ch (G.own (m0+n)) g w/\dd (m0+n)=0)\/(c=.w3/\stepG P false g w=.go {g with status:=.blocked} w #[]/\(∀w1,dG (G.own (m0+n)) (G.rd (m0+n)) (Lv ty Wg) w w1->Ul P ty Wg Ch (G.rd (m0+n)) (G.own (m0+n)) g w1)/\dd (m0+n)=1/\sm=0):=by
 have H:=er.pos;have T:=cT.sit _ g p;have ab:m0+n<gs.size:=(eP.1 p).1;have o:G.user (m0+n):=(er.usr _).2 (.inr ⟨by omega,ab⟩);have O:=(cT.wg Wg).2 (.inl rfl);have B:=cT.wglow;have m:(m0+n==0)=false:=by simp;omega
 have y:¬G.done (m0+n):=λh=>by rcases(er.done _).1 h with x|⟨i,s,x,_⟩;omega;rw[e]at x;cases x
 have U:m0+n=G.sayer:=by rw[er.say,e];rfl
 generalize u:rk (m0+n)=J at T;generalize v:dd (m0+n)=d at T;generalize C:G.own (m0+n)=z at T;generalize a:G.rd (m0+n)=rc at T;rw[e]at T;cases T with
 |Rl I h=>
  rcases dU.idle (sl:=sl) cT er iF hX hT fS (k:=m0+n) p (by rw[m,C,a];exact h) u e (by simp) (by simp) y (λJ z g w h=>by rw[v,a];rw[m,a]at h;exact .Rl I h)with⟨_,L,j,ad,D⟩|h;obtain⟨τ',f⟩:=Way.bind D I.walk;refine .inl (dU.book (r':=.cl .w1) (τ':=τ') cT er iF hX hT fS p (by rw[m];exact j) (.refl Wg w) fS (pE (e:=mk .disable) rfl trivial) (by rw[v,a];exact .Pu I f) (by rw[e];simp) λb q A E _=>?_);have l:b (m0+n)=.cl .kd:=by rw[A _ (by rw[e];simp)];exact e
  exact⟨q.yK l trivial trivial (by simp),lB H (by rw[l];simp only[oA];have:=Mt n m0 b;omega)⟩;exact .inl h
 |Pu I h=>
  rcases dU.idle (sl:=sl) cT er iF hX hT fS (k:=m0+n) p (by rw[m,C,a];exact h) u e (by simp) (by simp) y (λJ z g w h=>by rw[v,a];rw[m,a]at h;exact .Pu I h)with⟨_,W⟩|h;obtain⟨r,S,s,h0,hz,Q,_⟩:=er.recv e;obtain⟨_,_,R,Y⟩:=er.mode.yJ (by rw[e];trivial);rw[Q,mT]at R;subst R Y;have ae:=Mt n m0 ro;obtain⟨L,j,Z,hb⟩:=W (V n m0 ro) (by omega) fS;by_cases M:V n m0 ro=0;obtain⟨τ',f⟩:=Z M;refine .inl (dU.book (r':=.cl .ke) (τ':=τ') cT er iF hX hT fS p (by rw[m];exact j) (.refl Wg w) fS (yL O o B (by omega)) (by rw[v,a];exact .Py f) (by rw[e];simp) λb q A E _=>?_);have l:b (m0+n)=.cl .w1:=by rw[A _ (by rw[e];simp)];exact e
  obtain⟨j1,j2,j3⟩:=q.SQ l (E.trans M);refine⟨by rw[j1];exact j3,lB H (by rw[l];simp only[oA];omega)⟩;obtain⟨τ',f⟩:=hb M;refine .inl (dU.book (r':=.cl (.w2 (V n m0 ro))) (τ':=τ') cT er iF hX hT fS p (by rw[m];exact j) (.refl Wg w) fS (yL O o B (by omega)) (by rw[v,a];exact .Rm I f) (by rw[e];simp) λb q A E _=>?_);have l:b (m0+n)=.cl .w1:=by rw[A _ (by rw[e];simp)];exact e
  refine⟨q.yK l trivial trivial (λvs x=>by cases x;omega),lB H (by rw[l];simp only[oA];omega)⟩;exact .inl h
 | @Rm _ _ _ ag vs _ _ I h=>
  rcases dU.idle (sl:=sl) cT er iF hX hT fS (k:=m0+n) p (by rw[m,C,a];exact h) u e (by simp) (by simp) y (λJ z g w h=>by rw[v,a];rw[m,a]at h;exact .Rm I h)with⟨_,W⟩|h;obtain⟨r,S,s,h0,hz,Q,_⟩:=er.recv e;obtain⟨_,aa,R,Y⟩:=er.mode.yJ (by rw[e];trivial);have aa:=aa _ e;rw[Q,mT]at R;subst R Y;have ae:=Mt n m0 ro;obtain⟨Z,hb⟩:=W (V n m0 ro) (by omega) fS;by_cases M:V n m0 ro=vs;obtain⟨L,j,τ',f⟩:=Z M;refine .inl (dU.book (r':=.cl .sw) (τ':=τ') cT er iF hX hT fS p (by rw[m];exact j) (aside_setCell w (stA Wg) _) (fS.setSt _) (qW O o B (by omega)) (by rw[v,a];exact .Rn f) (by rw[e];simp) λb q A E _=>?_);have l:b (m0+n)=.cl (.w2 vs):=by rw[A _ (by rw[e];simp)];exact e
  refine⟨by rw[M];exact q.YI l (E.trans M),lB H (by rw[l];simp only[oA];omega)⟩;obtain⟨L,j,ad,D⟩:=hb M;obtain⟨τ',f⟩:=Way.bind D I.walk;refine .inl (dU.book (r':=.cl .w1) (τ':=τ') cT er iF hX hT fS p (by rw[m];exact j) (.refl Wg w) fS (yL O o B (by omega)) (by rw[v,a];exact .Pu I f) (by rw[e];simp) λb q A E _=>?_);have l:b (m0+n)=.cl (.w2 vs):=by rw[A _ (by rw[e];simp)];exact e
  refine⟨q.yK l trivial trivial (by simp),lB H (by rw[l];simp only[oA];omega)⟩;exact .inl h
 |Rn h=>
  rcases dU.idle (sl:=sl) cT er iF hX hT fS (k:=m0+n) p (by rw[m,C,a];exact h) u e (by simp) (by simp) y (λJ z g w h=>by rw[v,a];rw[m,a]at h;exact .Rn h)with⟨_,L,j,τ',f⟩|h;refine .inl (dU.book (r':=.cl .w3) (τ':=τ') cT er iF hX hT fS p (by rw[m];exact j) (.refl Wg w) fS (Ei (w:=true) O o U B) (by rw[v,a];exact .Pw f) (by rw[e];simp) λb q A E _=>?_);have l:b (m0+n)=.cl .sw:=by rw[A _ (by rw[e];simp)];exact e
  exact⟨q.Uq l trivial trivial (by simp),lB H (by rw[l];simp only[oA];omega)⟩;exact .inl h
 |Pw h=>
  rcases dU.IM (sl:=sl) cT er iF hX hT fS (k:=m0+n) p (by rw[m,C,a];exact h) u e (by simp) (by simp) y (λJ z g w h=>by rw[v,a];rw[m,a]at h;exact .Pw h)with N|h;have F:=N w (.refl _ _ _ _);rw[C]at F;obtain⟨_,ah,Z,hb⟩:=F;rcases er.Eh e with h0|⟨rfl,rfl,_⟩;subst h0;refine .inr (.inr ⟨rfl,Z ⟨_,fS⟩,λw1 af=>?_,rfl,rfl⟩);have:=N w1 (by rw[C,a];exact af);rwa[C]at this;obtain⟨L,j,τ',f⟩:=hb fS;refine .inl (dU.book (r':=.cl .w4) (τ':=τ') cT er iF hX hT fS p (by rw[m];exact j) (aside_setCell w (smA Wg) _) (fS.setSm 0) (IL O o B) (by rw[v,a,C];exact .Ro f) (by rw[e];simp) λb q A E _=>?_);have l:b (m0+n)=.cl .w3:=by rw[A _ (by rw[e];simp)];exact e
  rcases q.Eh l with x|⟨_,_,x⟩;cases x;exact⟨x,lB H (by rw[l];simp only[oA];omega)⟩;exact .inl h
 |Px h=>cases K
 |Ro h=>
  rcases dU.idle (sl:=sl) cT er iF hX hT fS (k:=m0+n) p (by rw[m,C,a];exact h) u e (by simp) (by simp) y (λJ z g w h=>by rw[v,a];rw[m,a]at h;exact .Ro h)with⟨_,W⟩|h;obtain⟨_,R,Y⟩:=er.mode.ofFin (by rw[e];trivial);subst R Y;obtain⟨L,j,τ',f⟩:=W fS;refine .inl (dU.book (r':=.cl .ke) (τ':=τ') cT er iF hX hT fS p (by rw[m];exact j) (.refl Wg w) fS (yL O o B (by omega)) (by rw[v,a];exact .Py f) (by rw[e];simp) λb q A E _=>?_);have l:b (m0+n)=.cl .w4:=by rw[A _ (by rw[e];simp)];exact e
  exact⟨q.IK (c':=.ke) l trivial trivial (by have:=q.clq;rw[l]at this;simpa using this) (.inl rfl),lB H (by rw[l];simp only[oA];omega)⟩;exact .inl h
 |Py h=>
  rcases dU.idle (sl:=sl) cT er iF hX hT fS (k:=m0+n) p (by rw[m,C,a];exact h) u e (by simp) (by simp) y (λJ z g w h=>by rw[v,a];rw[m,a]at h;exact .Py h)with⟨_,L,j,τ',f⟩|h;refine .inl (dU.book (r':=.cl .ac) (τ':=τ') cT er iF hX hT fS p (by rw[m];exact j) (.refl Wg w) fS (pE (e:=mk .enable) rfl trivial) (by rw[v,a];exact .Rp f) (by rw[e];simp) λb q A E _=>?_);have l:b (m0+n)=.cl .ke:=by rw[A _ (by rw[e];simp)];exact e
  exact⟨q.IK (c':=.ac) l trivial trivial (by have:=q.clq;rw[l]at this;simpa using this) (.inl rfl),lB H (by rw[l];simp only[oA];omega)⟩;exact .inl h
 |Rp h=>
  rcases dU.idle (sl:=sl) cT er iF hX hT fS (k:=m0+n) p (by rw[m,C,a];exact h) u e (by simp) (by simp) y (λJ z g w h=>by rw[v,a];rw[m,a]at h;exact .Rp h)with⟨_,L,j,τ',f⟩|h;refine .inl (dU.book (r':=.cl .cl) (τ':=τ') cT er iF hX hT fS p (by rw[m];exact j) (.refl Wg w) fS (pE (e:=mk (.acquire (stA Wg))) rfl B) (by rw[v,a];exact .Rq f) (by rw[e];simp) λb q A E _=>?_);have l:b (m0+n)=.cl .ac:=by rw[A _ (by rw[e];simp)];exact e
  exact⟨q.IK (c':=.cl) l trivial trivial (by have:=q.clq;rw[l]at this;simpa using this) (.inl rfl),lB H (by rw[l];simp only[oA];omega)⟩;exact .inl h
 |Rq h=>
  rcases dU.idle (sl:=sl) cT er iF hX hT fS (k:=m0+n) p (by rw[m,C,a];exact h) u e (by simp) (by simp) y (λJ z g w h=>by rw[v,a];rw[m,a]at h;exact .Rq h)with F|h;exact .inr (.inl ⟨rfl,by rw[C]at F;exact F,rfl⟩);exact .inl h
 |Pb h=>exact .inl (dU.slip cT er iF hX hT fS p (by omega) (by simp) h K u v e λ_ _ _ _ h=>.Pb h)
end
end Go.cF.Cr
namespace Go.cF.Kn
open Go.Conc Go.cF
def lL{t u:Trace}(g:∀e∈u,e.act.touch?=none){i:Nat}{a:Touch}(h:touchAt (t++u) i=some a):i<t.size/\touchAt t i=some a:=by obtain⟨e,f,b⟩:=touch_of h;rcases getElem?_append_cases f with⟨j,c⟩|⟨_,d⟩;exact⟨j,by rw[touchAt_of c];exact b⟩;rw[g e d]at b;cases b
def Gh.child(G:Gh)(k sy:Nat)(give:Nat->Prop):Gh where
 own:=λx b=>if x=0 then G.own 0 b/\¬give b else if x=k then False else G.own x b
 rd:=λx b=>if x=k then G.rd 0 b\/give b else G.rd x b
 wg:=G.wg
 user:=λx=>G.user x\/x=k
 sayer:=sy
 x:=G.x
 done:=G.done
 t0:=G.t0
theorem Gh.Fits.child{G:Gh}{n k sy:Nat}{give:Nat->Prop}(h:G.Fits n)(r:k≠0)(s:¬G.done k)(j:sy=G.sayer\/sy=k)(l:∀b,give b->G.own 0 b):(G.child k sy give).Fits n:=by
 have a:∀x b,(G.child k sy give).own x b->G.own x b/\(x=0->¬give b)/\x≠k:=by
  intro x b d;simp only[Gh.child]at d;split at d;rename_i e;subst e;exact⟨d.1,λ_=>d.2,λe=>r e.symm⟩;next t=>
  split at d;exact d.elim;rename_i u;exact⟨d,λe=>absurd e t,u⟩
 have c:∀x b,(G.child k sy give).rd x b->(x≠k/\G.rd x b)\/(x=k/\(G.rd 0 b\/give b)):=by intro x b d;simp only[Gh.child]at d;split at d;rename_i e;exact .inr ⟨e,d⟩;rename_i e;exact .inl ⟨e,d⟩
 refine⟨λx b d=>h.own x b (a x b d).1,λx b d=>?_,h.wg,λx y b g f=>h.one x y b (a x b g).1 (a y b f).1,λx y b g f=>?_,λx b g f=>h.ownwg x b (a x b g).1 f,λx b g f=>?_,λx p=>?_⟩;rcases c x b d with⟨_,d⟩|⟨_,d|d⟩;exact h.rd x b d;exact h.rd 0 b d;exact h.own 0 b (l b d);obtain⟨i,m,q⟩:=a x b g;rcases c y b f with⟨_,d⟩|⟨_,d|d⟩;exact h.still x y b i d;exact h.still x 0 b i d;have:=h.one x 0 b i (l b d);exact m this d;rcases c x b g with⟨_,d⟩|⟨_,d|d⟩;exact h.rdwg x b d f;exact h.rdwg 0 b d f;exact h.ownwg 0 b (l b d) f;have o:x≠k:=λe=>s (e▸p);obtain⟨i,m,q,v⟩:=h.done x p;refine⟨i,?_,λb d=>q b (a x b d).1,λb d=>?_⟩;rcases j with e|e;exact e▸m;show sy≠x;omega;rcases c x b d with⟨_,d⟩|⟨e,_⟩;exact v b d;exact o e
theorem ft.child{G:Gh}{n k sy:Nat}{t:Trace}{give:Nat->Prop}{x y:MemOp}(h:ft G n t)(s:x.g=0/\x.act=.go k)(u:y.g=k/\y.act=.start)(H:Deaf t 0=0)(I:Deaf t k=0)(v:G.user 0) (w:sy=G.sayer\/(sy=k/\G.sayer=0))(J:∀b,give b->G.own 0 b)(K:k≠0):ft (G.child k sy give) n (t++#[x,y]):=by
 have o:∀j∈#[x,y],j=x\/j=y:=by intro j f;simpa using f
 have A:∀j∈#[x,y],j.act.touch?=none:=by
  intro j f;rcases o j f with rfl|rfl
  ·rw[s.2];rfl
  ·rw[u.2];rfl
 have q:ft G n (t++#[x,y]):=h.IH A λj f=>by
  rcases o j f with rfl|rfl
  ·rw[s.2];trivial
  ·rw[u.2];trivial
 have r:∀{i},Knows t 0 i->Knows (t++#[x,y]) k i:=λL=>Ee s u H I L;refine q.Ed (λz b c i a l d=>?_) (λz b c i a l d F=>?_) (λb c i a l d=>?_) rfl λz i p a l B C=>?_
 ·simp only[Gh.child]at c;split at c
  ·next e=>subst e;exact q.own i a 0 b l d c.1
  ·split at c
   ·exact c.elim
   ·exact q.own i a z b l d c
 ·simp only[Gh.child]at c;split at c
  ·next e=>
   subst e;obtain⟨_,m⟩:=lL A l;rcases c with c|c
   ·exact r (h.rd i a 0 b m d c F)
   ·exact r (h.own i a 0 b m d (J b c))
  ·exact q.rd i a z b l d c F
 ·obtain⟨_,m⟩:=lL A l;rcases h.wg i a b m d c with e|⟨e,D⟩|e
  ·exact .inl e
  ·refine .inr (.inl ⟨e,?_⟩);show Knows _ sy i;rcases w with E|⟨E,M⟩
   ·rw[E];exact D.app _
   ·rw[E];rw[M]at D;exact r D
  ·refine .inr (.inr λz p=>?_);rcases p with p|p
   ·exact(e z p).app _
   ·rw[p];exact r (e 0 v)
 ·exact q.told i a z l B C p
def Gh.hand(G:Gh)(j:Nat):Gh where
 own:=λx b=>if x=0 then G.own 0 b\/G.own j b else if x=j then False else G.own x b
 rd:=λx b=>if x=j then False else G.rd x b
 wg:=G.wg
 user:=G.user
 sayer:=G.sayer
 x:=G.x
 done:=λx=>G.done x\/x=j
 t0:=G.t0
theorem Gh.Fits.hand{G:Gh}{n j:Nat}(h:G.Fits n)(l:j≠0)(m:G.sayer≠j):(G.hand j).Fits n:=by
 have a:∀x b,(G.hand j).own x b->(x=0/\(G.own 0 b\/G.own j b))\/(x≠0/\x≠j/\G.own x b):=by
  intro x b f;simp only[Gh.hand]at f;split at f;rename_i e;exact .inl ⟨e,f⟩;next o=>
  split at f;exact f.elim;rename_i p;exact .inr ⟨o,p,f⟩
 have c:∀x b,(G.hand j).rd x b->G.rd x b/\x≠j:=by intro x b f;simp only[Gh.hand]at f;split at f;exact f.elim;rename_i e;exact⟨f,e⟩
 refine⟨λx b f=>?_,λx b f=>h.rd x b (c x b f).1,h.wg,λx y b d g=>?_,λx y b d g=>?_,λx b d g=>?_,λx b d g=>h.rdwg x b (c x b d).1 g,λx i=>?_⟩;rcases a x b f with⟨_,d|d⟩|⟨_,_,d⟩;exact h.own 0 b d;exact h.own j b d;exact h.own x b d;rcases a x b d with⟨rfl,d|d⟩|⟨s,q,d⟩<;>rcases a y b g with⟨rfl,g|g⟩|⟨t,r,g⟩;rfl;rfl;exact h.one _ _ _ d g;rfl;rfl;exact absurd (h.one _ _ _ d g).symm r;exact h.one _ _ _ d g;exact absurd (h.one _ _ _ d g) q;exact h.one _ _ _ d g;rcases a x b d with⟨_,d|d⟩|⟨_,_,d⟩;exact h.still 0 y b d (c y b g).1;exact h.still j y b d (c y b g).1;exact h.still x y b d (c y b g).1;rcases a x b d with⟨_,d|d⟩|⟨_,_,d⟩;exact h.ownwg _ _ d g;exact h.ownwg _ _ d g;exact h.ownwg _ _ d g;have k:x≠0:=by rcases i with i|rfl;exact(h.done x i).1;exact l
 refine⟨k,?_,λb f=>?_,λb f=>?_⟩;rcases i with i|rfl;exact(h.done x i).2.1;exact m;rcases a x b f with⟨e,_⟩|⟨_,e,f⟩;exact k e;rcases i with i|i;exact(h.done x i).2.2.1 b f;exact e i;obtain⟨f,e⟩:=c x b f;rcases i with i|i;exact(h.done x i).2.2.2 b f;exact e i
theorem ft.hand{G:Gh}{n j c s cap:Nat}{t:Trace}{p q r u:MemOp}(h:ft G n t)(B:p.g=j/\p.act=.send c s)(C:q.g=0/\q.act=.recv c s cap)(D:r.g=j/\r.act=.sendDone c s)(E:u.g=0/\u.act=.recvDone c s) (L:Deaf t j=0)(F:Deaf t 0=0)(A:c<n):ft (G.hand j) n (t++#[p,q,r,u]):=by
 have v:∀l∈#[p,q,r,u],l=p\/l=q\/l=r\/l=u:=by intro l f;simpa using f
 have H:∀l∈#[p,q,r,u],l.act.touch?=none:=by
  intro l f;rcases v l f with rfl|rfl|rfl|rfl
  ·rw[B.2];rfl
  ·rw[C.2];rfl
  ·rw[D.2];rfl
  ·rw[E.2];rfl
 have w:ft G n (t++#[p,q,r,u]):=h.IH H λl f=>by
  rcases v l f with rfl|rfl|rfl|rfl
  ·rw[B.2];exact A
  ·rw[C.2];exact A
  ·rw[D.2];exact A
  ·rw[E.2];exact A
 have K:∀{i},Knows t j i->Knows (t++#[p,q,r,u]) 0 i:=λI=>CJ B C D E L F I;refine w.Ed (λz b d i a m k=>?_) (λz b d i a m k M=>?_) (λb d i a m k=>w.wg i a b m k d) rfl λz i x a m y o=>?_
 ·simp only[Gh.hand]at d;split at d
  ·next e=>
   subst e;rcases d with d|d
   ·exact w.own i a 0 b m k d
   ·exact K (h.own i a j b (lL H m).2 k d)
  ·split at d
   ·exact d.elim
   ·exact w.own i a z b m k d
 ·simp only[Gh.hand]at d;split at d
  ·exact d.elim
  ·exact w.rd i a z b m k d M
 ·rcases x with(x|rfl)|x
  ·exact w.told i a z m y o (.inl x)
  ·obtain⟨I,N⟩:=lL H m;rw[g?_old I]at o;obtain⟨l,f,J⟩:=Option.map_eq_some_iff.1 o;have:=knows_own f;rw[J]at this;exact .inl (K this)
  ·exact w.told i a z m y o (.inr x)
def oY{t:Trace}(k:Nat):∀(l:List MemOp),(∀a∈l,a.act≠ .mark .disable/\a.act≠ .mark .enable)->Deaf (t++l.toArray) k=Deaf t k:=by
 intro l c;rw[Deaf_append];generalize Deaf t k=d;induction l with
 |nil=>rfl
 |cons y l f=>
  have g:deafStep k d y=d:=by have:=c y (by simp);unfold deafStep;split;rename_i e;exact absurd e this.1;rename_i e;exact absurd e this.2;rfl
  rw[mP,g];exact f λa b=>c a (by simp[b])
def ft.shut{G:Gh}{n c p d:Nat}{t:Trace}{y:MemOp}(h:ft G n t)(N:t.act? p=some (.close c))(O:t.heard p)(E:t.g? p=some d)(F:∀i a,G.t0<=i->touchAt t i=some a->a.loc.isMemory=true->t.g? i=some d->i<p)
 (u:y.g=0/\y.act=.recvClosed c)(L:Deaf t 0=0)(P:c<n)(v:∀i g,G.t0<=i->t.g? i=some g->g=0\/G.done g\/g=d):Past (nU λb=>G.wg b\/G.x b) n (t++#[y]):=by
 have M:∀l∈#[y],l.act.touch?=none:=by
  intro l f;have:l=y:=by simpa using f
  subst this;rw[u.2];rfl
 have w:ft G n (t++#[y]):=h.IH M λl f=>by
  have:l=y:=by simpa using f
  subst this;rw[u.2];exact P
 let Q:Gh:={own:=λ_ _=>False,rd:=λ_ _=>False,wg:=G.wg,user:=λ_=>False,sayer:=G.sayer,x:=G.x,done:=λx=>G.done x\/x=d,t0:=G.t0};have R:ft Q n (t++#[y]):=w.Ed (λ_ _ A=>A.elim) (λ_ _ A=>A.elim) (λb A i a s H=>(w.wg i a b s H A).imp id (Or.imp id λ_ _ m=>m.elim)) rfl λz i m a s k j=>by rcases m with(m|rfl)|m;exact w.told i a z s k j (.inl m);rcases eA i G.t0 with o|o;exact w.told i a z s k j (.inr o);obtain⟨q,I⟩:=lL M s;rw[g?_old q]at j;have J:=F i a o I k j;obtain⟨l,f,r⟩:=ij.1 j;obtain⟨S,B,C⟩:=ij.1 E;exact .inl (CK N O (.inr (hb_po J f B (r.trans C.symm))) u L);exact w.told i a z s k j (.inr m)
 have T:Deaf (t++#[y]) 0=0:=by have:=oY (t:=t) 0 [y] (by simp[u.2]);exact this.trans L
 refine R.past (λi g K=>?_) T;rcases eA i G.t0 with o|o;exact .inr (.inr o);rcases eA i t.size with q|U;rw[g?_old q]at K;rcases v i g o K with e|e|e;exact .inl e;exact .inr (.inl (.inl e));exact .inr (.inl (.inr e));obtain⟨l,f,r⟩:=ij.1 K;rcases getElem?_append_cases f with⟨x,_⟩|⟨_,D⟩;omega;have:l=y:=by simpa using D
 subst this;exact .inl (r▸u.1)
end Go.cF.Kn
