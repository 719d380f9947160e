/- Laws that the proof needs, part 19. Conditions: none. -/
import Derived.Test.YteeagjkaflglpaaGreatX18
set_option maxRecDepth 100000
set_option maxHeartbeats 8000000
set_option linter.all false
namespace Go.Proofs.W
open Go.RowKit
def Q2(Q:QW):QW
 | .goto _,_,_=>False
 | .normal,l,w=>Q .normal l w
 | .exit i,l,w=>Q (.exit i) l w
 | .ret,l,w=>Q .ret l w
 | .panic c,l,w=>Q (.panic c) l w
 | .outgrown,l,w=>Q .outgrown l w
theorem Gs{N:Nat}{c:Code}{l:L}{w:World}{Q:QW}(h:WC V.prog AU N c (Q2 Q) l w):iz V.prog N (.scope c) l w Q:=by
 refine⟨λa f=>wp_scope_straight (wp_mono (eZ gG c _ l a w f h) ?_)⟩;rintro e j k ⟨g,b,d⟩;cases e with
 |goto i=>exact d.elim
 |_=>exact⟨g,b,d⟩
theorem Q3(a0 a b c d:Bool)(x y:Operand)(w:World):Sem.run V.prog (do eqGuard .eql 217 x y (.agg #[.bool a0,.bool a,.bool b,.bool c,.bool d]) (.agg #[.bool false,.bool false,.bool false,.bool false,.bool false]);binOp .eql 217 (.agg #[.bool a0,.bool a,.bool b,.bool c,.bool d]) (.agg #[.bool false,.bool false,.bool false,.bool false,.bool false])) w=.ok (.bool (!(a0||a||b||c||d))) w:=by cases a0<;>cases a<;>cases b<;>cases c<;>cases d<;>kernel_rfl
theorem iz.oV{P:Program}{N:Nat}{c:Code}{l l0:L}{w:World}{Q:QW}(b:Sub l0 l)(h:iz P N c l0 w Q):iz P N c l w Q:=⟨λa d=>h.out a (d.sub b)⟩
theorem iz.mono{P:Program}{N:Nat}{c:Code}{l:L}{w:World}{Q d:QW}(f:∀e l w,Q e l w->d e l w)(h:iz P N c l w Q):iz P N c l w d:=⟨λa g=>wp_mono (h.out a g) (by rintro e k m ⟨i,b,j⟩;exact⟨i,b,f _ _ _ j⟩)⟩
def OX(a:L)(F:World->Prop)(Q:QW):QW
 | .normal,l,w=>Sub a l/\F w
 | .goto i,l,w=>Q (.goto i) l w
 | .exit i,l,w=>Q (.exit i) l w
 | .ret,l,w=>Q .ret l w
 | .panic c,l,w=>Q (.panic c) l w
 | .outgrown,l,w=>Q .outgrown l w
theorem Lz{P:Program}{N:Nat}{c:Code}{l:L}{w:World}{Q:QW}(a:L)(F:World->Prop)(h:iz P N c l w (OX a F Q))(b:∀l w,Sub a l->F w->Q .normal l w):iz P N c l w Q:=
 h.mono λe l w h=>by
  cases e with
  |normal=>exact b l w h.1 h.2
  |_=>exact h
theorem eF.c{A:Nat->Prop}{w w':World}{a:Option Addr}{l:List Nat}(h:eF A w a l)(d:∀b o v,¬A b->w.cell? ⟨b,o,none⟩=some v->w'.cell? ⟨b,o,none⟩=some v):eF A w' a l:=h.go (λ_ h=>.inl h) d
def tu(A:Nat->Prop)(e:Nat)(w:World)(v:Value)(b:List (List Nat)):Prop:=∃d,cC e 27 [.slice none 0 0] w v b.length d/\d.length=b.length/\∀k (h:k<b.length),∃a c,d[k]? =some (.slice a b[k].length c)/\eF A w a b[k]/\b[k].length<=c
theorem tu.eC{A:Nat->Prop}{b n0:Nat}{w w':World}{v:Value}{d:List (List Nat)}(h:tu A b w v d)(e:fA n0 w w'):tu A b w' v d:=by obtain⟨f,g,i,j⟩:=h;refine⟨f,g.eC e,i,λk l=>?_⟩;obtain⟨a,c,m,n,o⟩:=j k l;exact⟨a,c,m,n.eC e,o⟩
theorem tu.keep{A:Nat->Prop}{d:Nat}{w w':World}{v:Value}{e:List (List Nat)}{F:Nat->Prop}(h:tu A d w v e)(k:cr F w w')(f:∀b,F b->A b)(g:∀b,ce v b->¬F b):tu A d w' v e:=by obtain⟨j,l,m,n⟩:=h;refine⟨j,l.keep k g,m,λi p=>?_⟩;obtain⟨a,c,q,r,s⟩:=n i p;exact⟨a,c,q,r.c λb o v t u=>k.dn u λx=>t (f b x),s⟩
theorem tu.out{A A':Nat->Prop}{i:Nat}{w:World}{v:Value}{d:List (List Nat)}(h:tu A i w v d)(l:∀b,A' b->A b)(e:∀b,A' b->b<i):∃a c,v=.slice a d.length c/\ir A' w a d/\d.length<=c:=by
 obtain⟨u,⟨x,⟨m,rfl⟩|⟨b,c,y,z,rfl,n,B,o,C,p,D⟩⟩,E,f⟩:=h
 ·exact⟨none,0,by rw[m],λk j=>by omega,by omega⟩
 ·refine⟨_,c,rfl,λk j=>?_,o⟩;obtain⟨a,q,r,s,t⟩:=f k j;exact⟨b,0,a,q,λg=>by have:=e b g;omega,rfl,cd n (by rw[Nat.zero_add,p k (by omega)];exact r),s.more λb g=>.inl (l b g),t⟩
structure MF(F:Nat->Prop)(n0 mk ms:Nat)(G:Gd)(A:Nat->Prop)(a b:World):Prop where
 os:b.os=a.os
 tape:b.tape=a.tape
 output:b.output=a.output
 size:a.heap.size<=b.heap.size
 drawn:a.drawn<=b.drawn
 block:∀x o,¬F x->a.heap[x]? =some o->(x<n0\/Lr o=false)->b.heap[x]? =some o
 m:(∀x,A x->x<a.heap.size)->hH A mk ms G a->hH A mk ms G b
section
variable{F:Nat->Prop}{n0 mk ms:Nat}{G:Gd}{A:Nat->Prop}{a b w0:World}
theorem Ba(F:Nat->Prop)(n0 mk ms:Nat)(G:Gd)(A:Nat->Prop):dR (MF F n0 mk ms G A):=
 ⟨λw=>⟨rfl,rfl,rfl,Nat.le_refl _,Nat.le_refl _,λ_ _ _ h _=>h,λ_ h=>h⟩,λa b c h k=>⟨k.os.trans h.os,k.tape.trans h.tape,k.output.trans h.output,Nat.le_trans h.size k.size,Nat.le_trans h.drawn k.drawn,λx o d i f=>k.block x o d (h.block x o d i f) f,λg e=>k.m (λx d=>Nat.lt_of_lt_of_le (g x d) h.size) (h.m g e)⟩,λw=>⟨rfl,rfl,rfl,Nat.le_refl _,Nat.le_succ _,λ_ _ _ h _=>h,λ_ e=>e.ext (Ext.drew w)⟩⟩
theorem MR.mf(h:MR n0 mk ms G a b):MF F n0 mk ms G A a b:=⟨h.1.os,h.1.tape,h.1.output,h.1.size,h.1.drawn,λx o _ c d=>h.1.block x o c d,λe f=>h.2 A e f⟩
theorem MF.at_(h:MF F n0 mk ms G A a b){x:Nat}{cs:Array Value}{t:TypeId}{c:Nat×Nat}(d:¬F x)(e:a.heap[x]? =some (.cells cs t c)):b.heap[x]? =some (.cells cs t c):=h.block x _ d e (.inr rfl)
theorem MF.cell(h:MF F n0 mk ms G A a b){ad:Addr}{v:Value}(d:¬F ad.block)(c:a.cell? ad=some v):b.cell? ad=some v:=by
 unfold World.cell? at c⊢;split at c
 ·rename_i f t g e;rw[h.at_ d e];exact c
 ·cases c
theorem MF.after(h:MF F n0 mk ms G A a b)(m:fA n0 w0 a)(e:∀x,F x->w0.heap.size<=x):fA n0 w0 b:=
 ⟨h.os.trans m.os,h.tape.trans m.tape,h.output.trans m.output,Nat.le_trans m.size h.size,Nat.le_trans m.drawn h.drawn,λx o c d=>h.block x o (λf=>by have:=e x f;have:=ck.lt_of_heap c;omega) (m.block x o c d) d⟩
theorem MF.Gt(k:cr F a b)(c:∀x,F x->A x):MF F n0 mk ms G A a b:=⟨k.os,k.tape,k.output,k.size,k.drawn,λx o d e _=>k.ef e d,λ_ f=>f.keep k c⟩
end
theorem Nq:∀s:Nat,s<32->(!(s.testBit 0||s.testBit 1||s.testBit 2||s.testBit 3||s.testBit 4))=decide (s=0):=by decide+kernel
theorem Dt.go2{A A':Nat->Prop}{w w':World}{o:Option (List (List Nat))}{v:Value}{b:Bool}(h:Dt A o v b w)(a:∀b,A' b->A b\/w.heap.size<=b)(c:∀b o v,¬A b->w.cell? ⟨b,o,none⟩=some v->w'.cell? ⟨b,o,none⟩=some v):Dt A' o v b w':=h.go a c
theorem tv{G:Gd}{s:Nat}(a:s≠0):eD G s=((List.range (dJ s).length).findSome? λm=>dX G (m+1) (dJ s) []).map λb=>b.map (cT G):=by rw[eD,if_neg a]
theorem vn(s:Nat):(dJ s).length<=5:=iO s 5
theorem nv{G:Gd}(j:G.doors.length<=5){most:Nat}:∀(a e b:List Nat),(∀d∈a,d<G.doors.length)->(∀s∈e,jW G s)->dX G most a e=some b->(∀s∈b,jW G s)/\b.length<=e.length+a.length
 |[],e,b,_,f,h=>by simp only[dX,Option.some.injEq]at h;subst h;exact⟨f,by simp⟩
 |d::r,e,b,p,f,h=>by
  have g:=p d List.mem_cons_self;have q:∀x∈r,x<G.doors.length:=λx l=>p x (List.mem_cons_of_mem _ l);simp only[dX]at h;split at h
  ·rename_i o t;obtain rfl:=Option.some.inj h;obtain⟨i,k,m⟩:=List.exists_of_findSome?_eq_some t;split at m
   ·have k:i<e.length:=by simpa using k
    have n:jW G (e.getD i 0):=by rw[getD_eq k];exact f _ (List.getElem_mem k)
    have:=nv j r _ _ q (λs c=>by
     rcases List.mem_or_eq_of_mem_set c with c|rfl
     ·exact f s c
     ·exact n.mz g j) m
    simp only[List.length_set,List.length_cons]at this⊢;exact⟨this.1,by omega⟩
   ·cases m
  ·split at h
   ·have:=nv j r _ _ q (λs c=>by
     rcases List.mem_append.1 c with c|c
     ·exact f s c
     ·rw[List.mem_singleton.1 c];exact jW.fy j λx l=>by rw[List.mem_singleton.1 l];exact g) h
    simp only[List.length_append,List.length_cons,List.length_nil]at this⊢;exact⟨this.1,by omega⟩
   ·cases h
theorem tw{gp mk ms n0 s:Nat}{G:Gd}{w:World}{A:Nat->Prop}(h:kS gp mk ms G w)(hA:∀b,A b->b<w.heap.size)(hp:hH A mk ms G w)(aU:n0<=mk)(hn:n0<=ms)(hs:jW G s):
 Calls V.prog 130 #[cu gp,.int .u8 s] w (eG λv w'=>MA n0 mk ms G A w w'/\∃u b,v=.tuple #[u,.bool b]/\Dt A (eD G s) u b w'):=by
 have h5:=h.pw.many;refine go V.func130 Tryz.ntmps130 ?_;refine Gs ?_;refine cf (Dm s w hs.1) ?_;rintro v w1 ⟨rfl,e1⟩;refine dS λw2 P e2 bo aB=>cK aB λZ k3 B=>?_;have B:Z.heap[P]? =some (.cells (l5 s).toArray 217):=B.trans (congrArg (λa=>some (Obj.cells a 217)) (eh (qg 217).toArray (l5 s) rfl));have E3:Ext w Z:=(e1.trans e2).cj k3 (by have:=e1.size;omega);have ar:∀{w'},w'.heap[P]? =some (.cells (l5 s).toArray 217)->∀{k:Value->World->Prop},k (kM s) w'->fS V.prog (Instr.loadAt 217 (.pointer (some ⟨P,0,none⟩))) w' k:=λd k hk=>dp (vs:=l5 s) (λj v hj=>by rw[Nat.zero_add];exact cd d (by simpa using hj)) hk;refine ar B (c8 (.agg #[.bool false,.bool false,.bool false,.bool false,.bool false]) ?_);refine⟨_,Z,Q3 _ _ _ _ _ _ _ Z,?_⟩;rw[Nq s hs.1];refine⟨λh0=>?_,λh0=>?_⟩
 ·have h0:s=0:=of_decide_eq_true h0;subst h0;exact⟨_,rfl,E3.ma _ _ _ _ _,_,_,rfl,rfl,none,0,rfl,λk hk=>by simp at hk,Nat.le_refl _⟩
 have h0:s≠0:=of_decide_eq_false h0;have h3:=h.ext E3;have aV:=hp.ext E3;obtain⟨aW,am,an⟩:=Cd Gp Gm (z:=.agg #[.slice none 0 0,.bool false]) (by intro w;kernel_rfl) aV.k hs.1;have aX:∃u b ok,aW=.tuple #[.agg #[u,.bool b],.bool ok]/\u.oneCell'=true/\((ok=true/\Dt A (eD G s) u b Z)\/ok=false):=by
  rcases am with⟨v,rfl,u,b,rfl,hw⟩|rfl
  ·refine⟨u,b,true,rfl,?_,.inl ⟨rfl,hw⟩⟩;cases aC:eD G s with
   |none=>rw[aC]at hw;rw[hw.1];rfl
   |some ls=>rw[aC]at hw;obtain⟨_,a,c,rfl,_⟩:=hw;rfl
  ·exact⟨_,_,false,rfl,rfl,.inr rfl⟩
 obtain⟨u,b,ok,rfl,aY,aD⟩:=aX;have aZ:oF [u,.bool b]=true:=by simp only[oF,aY];rfl
 have bp:P<Z.heap.size:=ck.lt_of_heap B;refine fa 10 cB (fg (λx=>Z.heap.size<=x)) (λa b h=>h.keep _) ?_;have ah:∀{T},cr (λx=>Z.heap.size<=x) Z T->Ext Z T:=λe=>e.ext λb d f=>by omega
 refine .exact (.map (some mk)) (λT e4=>cg ((ah e4).cell h3.PT) ⟨rfl,Ext.refl _⟩) (.exact (kM s) (λT e4=>ar ((ah e4).at_ B) ⟨rfl,Ext.refl _⟩) (.exact _ (λT e4=>⟨_,_,an T λo ho=>(ah e4).at_ ho,rfl,Ext.refl _⟩) ?_));refine .Db (λv T=>∃r,v=.pointer (some ⟨r,0,none⟩)/\Z.heap.size<=r/\T.heap[r]? =some (.cells (qg 220).toArray 220)) (λv a b ⟨r,h1,h2,h3⟩ e=>⟨r,h1,h2,e.at_ h3⟩) (λT e4=>dS λw5 r e5 ai d=>⟨⟨r,rfl,Nat.le_trans e4.size ai,d⟩,e5⟩) ?_;refine .qN (λvs T=>∃r,vs=[.pointer (some ⟨r,0,none⟩)]/\Z.heap.size<=r/\T.heap[r]? =some (.cells #[u,.bool b] 220)) (λvs a b ⟨r,h1,h2,h3⟩ e=>⟨r,h1,h2,e.at_ h3⟩) (λT e4 v7 h7=>?_) ?_
 ·obtain⟨r,rfl,g1,g2⟩:=h7;exact fG g2 (Nat.le_of_ble_eq_true rfl) (λw5 k5 a0=>⟨⟨r,rfl,g1,a0⟩,k5.trans (cr.refl (λ_=>False) w5) (λx _ f=>by subst f;exact g1) λ_ _ h=>h.elim⟩) (eu aZ)
 intro T e4 v7 _ hJ;obtain⟨bq,aE,g1,g2⟩:=hJ;simp only[List.cons.injEq,and_true]at aE;subst aE;have U:=ah e4;refine⟨λhk=>?_,λhk=>?_⟩
 ·refine cF cB (cn (cd g2 rfl) (cn (cd g2 rfl) λw5 e5=>?_));have hw:=aD.elim (λh=>h.2) λh=>by rw[hk]at h;cases h
  exact⟨_,rfl,((E3.trans U).trans e5).ma _ _ _ _ _,u,b,rfl,hw.go2 (λ_ h=>.inl h) λb o v d E=>(U.trans e5).cell E⟩
 clear aD am an;refine dS λw5 p e5 br Q=>?_;have Q:w5.heap[p]? =some (.cells #[.slice none 0 0,.bool false] 220):=Q;have E5:Ext w w5:=(E3.trans U).trans e5;have bs:=ck.lt_of_heap Q;have s3:=E3.size;have bt:=U.size;have ao:=(U.trans e5).at_ B;have a1:hH (λx=>A x\/x=p) mk ms G w5:=((hp.ext (E3.trans U)).more (A':=λx=>A x\/x=p) λx f=>f.imp id λe=>by omega).ext e5;refine cf (py s w5 hs.1) ?_;rintro lv w6 ⟨e6,a2⟩;obtain⟨la,lc,rfl,a3,bu⟩:=a2.row;have bv:=vn s;refine cA ?_;refine Lz [(0,cu gp),(6,cu P),(9,cu p)] (λw'=>MA n0 mk ms G A w w'/\w'.heap[P]? =some (.cells (l5 s).toArray 217)/\∃u b,w'.heap[p]? =some (.cells #[u,.bool b] 220)/\Dt A (eD G s) u b w') ?_ ?_
 ·refine dg (n:=(dJ s).length) (λk=>[(0,cu gp),(1,.int .u8 s),(6,cu P),(9,cu p),(36,.int .i64 (dJ s).length),(37,.int .i64 k)]) (λk w'=>fA n0 w w'/\hH (λx=>A x\/x=p) mk ms G w'/\w'.heap[P]? =some (.cells (l5 s).toArray 217)/\w'.heap[p]? =some (.cells #[.slice none 0 0,.bool false] 220)/\∀i,i<k->dX G (i+1) (dJ s) []=none) ⟨⟨rfl,rfl,rfl,rfl,rfl,rfl,trivial⟩,(E5.trans e6).eC n0,a1.ext e6,e6.at_ ao,e6.at_ Q,λi hi=>by omega⟩ ?_ ?_ ?_
  ·rintro k w' hk hJ;exact cY ⟨rfl,rfl,⟨rfl,rfl,rfl,rfl,rfl,rfl,trivial⟩,hJ⟩
  ·rintro k w7 hk ⟨m7,aa,C,t,H⟩;refine cf (py s w7 hs.1) ?_;rintro bw w8 ⟨J,a4⟩;obtain⟨da,dc,rfl,au,a5⟩:=a4.row;have m8:=m7.trans (J.eC n0);have K:=aa.ext J;refine cq ?_;have av:∀b,(A b\/b=p)->b<w8.heap.size:=λb d=>d.elim (λd=>by have:=hA b d;have:=m8.size;omega) λe=>e▸ck.lt_of_heap (J.at_ t);have aF:=qp (most:=k+1) (h.eC m8) hn (dJ s) [] (λx=>A x\/x=p) da dc (.slice none 0 0) w8 (fA.refl _ _) av K au a5 hs.2 (.inl ⟨rfl,rfl⟩) (λx f=>by cases f) (by simp;omega);rw[show((k+1:Nat):Int)=(k:Int)+1 by omega]at aF;refine cf aF ?_;rintro v w9 ⟨R,W⟩;cases ho:dX G (k+1) (dJ s) []with
   |none=>
    rw[ho]at W;have W:v=.tuple #[.slice none 0 0,.bool false]:=W;subst W;refine ek (je rfl (cq ⟨⟨rfl,rfl,rfl,rfl,rfl,rfl,trivial⟩,m8.trans R.1,R.2 K,R.1.at_ (J.at_ C),R.1.at_ (J.at_ t),λi hi=>?_⟩));rcases Nat.lt_or_ge i k with aj|aG
    ·exact H i aj
    ·obtain rfl:i=k:=by omega
     exact ho
   |some D=>
    rw[ho]at W;obtain⟨ga,gc,rfl,a6⟩:=W;refine ek (nh rfl (cA ?_));obtain⟨aH,aI⟩:=nv h5 (dJ s) [] D hs.2 (λx f=>by cases f) ho;have aI:D.length<=5:=by simp at aI;omega
    have s5:=e6.size;have s8:=m8.size;have s9:=R.1.size;have bm:p<w8.heap.size:=ck.lt_of_heap (J.at_ t);have bn:P<w8.heap.size:=ck.lt_of_heap (J.at_ C);have aJ:P≠p:=by have:=ck.lt_of_heap ao;have:=ck.lt_of_heap B;omega
    have aw:∀b,¬ce (.slice none 0 0) b:=λb d=>by obtain⟨_,_,d⟩:=d;cases d
    refine fw (n:=D.length) (λj v=>[(0,cu gp),(6,cu P),(9,cu p),(51,.slice ga D.length gc),(52,.int .i64 D.length),(53,.int .i64 j)]) (λj v w'=>fA n0 w w'/\w9.heap.size<=w'.heap.size/\hH (λx=>(A x\/x=p)\/ce v x) mk ms G w'/\w'.heap[P]? =some (.cells (l5 s).toArray 217)/\w'.heap[p]? =some (.cells #[v,.bool false] 220)/\tu (λx=>(A x\/x=p)\/ce v x) w9.heap.size w' v ((D.take j).map (cT G))/\∀k (h:k<D.length),∃b o,(w8.heap.size<=b/\b<w9.heap.size)/\ga=some ⟨b,o,none⟩/\w'.cell? ⟨b,o+k,none⟩=some (.int .u8 D[k])) (.slice none 0 0) ⟨⟨rfl,rfl,rfl,rfl,rfl,rfl,trivial⟩,m8.trans R.1,Nat.le_refl _,(R.2 K).more λb d=>d.elim .inl λd=>absurd d (aw b),R.1.at_ (J.at_ C),R.1.at_ (J.at_ t),⟨[],cC.nil _ _ _ _,rfl,λk hk=>by simp at hk⟩,λi hi=>?_⟩ ?_ ?_ ?_
    ·obtain⟨b,o,x0,x1,x2⟩:=a6 i hi;exact⟨b,o,⟨x0,nu x2⟩,x1,x2⟩
    ·rintro j v L hj hJ;exact cY ⟨rfl,rfl,⟨rfl,rfl,rfl,rfl,rfl,rfl,trivial⟩,hJ⟩
    ·rintro j v L hj ⟨ax,a7,M,O,I,F,ab⟩;obtain⟨gb,bx,bz,aK,a8⟩:=ab j hj;have f:=aH _ (List.getElem_mem hj);have y:∀b,ce v b->w9.heap.size<=b/\b<L.heap.size:=λb d=>by obtain⟨us,X,_⟩:=F;exact X.blk d
     have S:∀b,((A b\/b=p)\/ce v b)->b<L.heap.size:=λb d=>d.elim (λd=>by have:=av b d;omega) λd=>(y b d).2;subst aK;refine dT j hj (cg a8 ?_);refine fa 6 (OS n0 mk ms G) (Ba (ce v) n0 mk ms G (λx=>(A x\/x=p)\/ce v x)) (λa b h=>h.mf) ?_;have aL:¬ce v p:=λd=>by have:=(y p d).1;omega
     have a9:¬ce v P:=λd=>by have:=(y P d).1;omega
     have aM:∀{g},MF (ce v) n0 mk ms G (λx=>(A x\/x=p)\/ce v x) L g->fA n0 w g:=λe=>e.after ax λx f=>by have:=(y x f).1;omega
     refine .exact v (λg q=>cg (cd (q.at_ aL I) rfl) ⟨rfl,MR.refl _⟩) ?_;refine .rel (λu g=>ShR (λx=>(A x\/x=p)\/ce v x) G D[j] u g) (λu a b hu e=>hu.go (λ_ h=>.inl h) λb o x d E=>e.cell (λhf=>d (.inr hf)) E) (λg q=>?_) ?_
     ·have ac:∀b,((A b\/b=p)\/ce v b)->b<g.heap.size:=λb d=>Nat.lt_of_lt_of_le (S b d) q.size;exact cf (qR (h.eC (aM q)) ac (q.m S M) hn f.1 f.2) λu ad ⟨ba,bb⟩=>⟨bb _ ac (q.m S M),ba⟩
     refine .rel (λx g=>∃r u,x=.slice (some ⟨r,0,none⟩) 1 1/\L.heap.size<=r/\g.heap[r]? =some (.cells [u].toArray 27)/\ShR (λx=>(A x\/x=p)\/ce v x) G D[j] u g) (λx a b ⟨r,u,h1,h2,h3,h4⟩ e=>⟨r,u,h1,h2,e.at_ (λhf=>by have:=(y r hf).2;omega) h3,h4.go (λ_ h=>.inl h) λb o x d E=>e.cell (λhf=>d (.inr hf)) E⟩) (λg q u hu=>?_) ?_
     ·obtain⟨a,c,rfl,X,E⟩:=hu;refine dB [.slice a (cT G D[j]).length c] 27 (λad r aN ai d=>⟨⟨r,_,rfl,Nat.le_trans q.size ai,d,a,c,rfl,X.c λb o x _ f=>aN.cell f,E⟩,aN.mr⟩) ?_;intro w;kernel_rfl
     refine .spec (λv' g=>(∀x,((A x\/x=p)\/ce v' x)->x<g.heap.size)/\hH (λx=>(A x\/x=p)\/ce v' x) mk ms G g/\tu (λx=>(A x\/x=p)\/ce v' x) w9.heap.size g v' ((D.take j).map (cT G)++[cT G D[j]])) (λv' a b ⟨h1,h2,h3⟩ e=>⟨λx f=>Nat.lt_of_lt_of_le (h1 x f) e.1.size,e.2 _ h1 h2,h3.eC e.1⟩) (λg q aO bc bd bA=>?_) ?_
     ·obtain⟨r,u,rfl,ai,aP,ua,uc,rfl,be,bf⟩:∃r u,aO=.slice (some ⟨r,0,none⟩) 1 1/\L.heap.size<=r/\g.heap[r]? =some (.cells [u].toArray 27)/\ShR (λx=>(A x\/x=p)\/ce v x) G D[j] u g:=bc;obtain⟨us,X,aQ,bg⟩:=F.eC q.1;have bB:((D.take j).map (cT G)).length<=5:=by simp;omega
      have ae:=q.2 _ S M;refine gC Ll X (by have:=q.1.size;omega) aP (by omega) (λv' ad g1 g2 g3=>⟨⟨λx f=>?_,?_,us++[.slice ua (cT G D[j]).length uc],by simpa using g1,by simp[aQ],λi hi=>?_⟩,MF.Gt g2 λx f=>.inr f⟩) rfl (by simp[oF,Value.oneCell'])
      ·rcases f with f|f
       ·have:=av x f;have:=q.1.size;have:=g2.size;omega
       ·exact(g1.blk f).2
      ·exact((ae.more (A':=λx=>((A x\/x=p)\/ce v x)\/ce v' x) λx f=>f.elim .inl λf=>(g3 x f).elim (λh=>.inl (.inr h)) .inr).keep g2 λx f=>.inl (.inr f)).fewer λx f=>f.elim (λh=>.inl (.inl h)) .inr
      ·have up:∀{a:Option Addr} {l:List Nat},eF (λx=>(A x\/x=p)\/ce v x) g a l->eF (λx=>(A x\/x=p)\/ce v' x) ad a l:=λhn=>by
        have h1:eF (λx=>((A x\/x=p)\/ce v x)\/ce v' x) ad _ _:=(hn.more (A':=λx=>((A x\/x=p)\/ce v x)\/ce v' x) λx f=>f.elim .inl λf=>(g3 x f).elim (λh=>.inl (.inr h)) .inr).c λb o x d E=>g2.dn E λhf=>d (.inl (.inr hf));exact h1.more λx f=>.inl (f.elim (λh=>.inl (.inl h)) .inr)
       rcases Nat.lt_or_ge i ((D.take j).map (cT G)).length with aj|aG
       ·obtain⟨a,c,x1,x2,x3⟩:=bg i aj;rw[List.getElem_append_left aj];exact⟨a,c,by rw[List.getElem?_append_left (by omega)];exact x1,up x2,x3⟩
       ·obtain rfl:i=((D.take j).map (cT G)).length:=by simp at hi aG⊢;omega
        refine⟨ua,uc,by rw[List.getElem?_append_right (by omega)];simp[aQ],?_,?_⟩
        ·simp only[List.getElem_append_right (Nat.le_refl _),Nat.sub_self,List.getElem_cons_zero];exact up be
        ·simp only[List.getElem_append_right (Nat.le_refl _),Nat.sub_self,List.getElem_cons_zero];exact bf
     intro g q af bh aO _ bd _;obtain⟨ac,ae,N⟩:(∀x,((A x\/x=p)\/ce af x)->x<g.heap.size)/\hH (λx=>(A x\/x=p)\/ce af x) mk ms G g/\tu (λx=>(A x\/x=p)\/ce af x) w9.heap.size g af ((D.take j).map (cT G)++[cT G D[j]]):=bh;have aR:∃a l c,af=.slice a l c:=by obtain⟨us,X,_⟩:=N;obtain⟨a,c,rfl,_⟩:=X.len;exact⟨a,_,c,rfl⟩
     obtain⟨va,vl,vc,rfl⟩:=aR;have ay:∀b,ce (.slice va vl vc) b->w9.heap.size<=b:=λb d=>by obtain⟨us,X,_⟩:=N;exact(X.blk d).1
     refine fG (q.at_ aL I) (Nat.le_of_ble_eq_true rfl) (λad Y aS=>cq ⟨.slice va vl vc,⟨rfl,rfl,rfl,rfl,rfl,rfl,trivial⟩,(aM q).cj Y (by omega),by have:=q.size;have:=Y.size;omega,ae.keep Y (λx f=>.inl (.inr f)),Y.ef (q.at_ a9 O) aJ,aS,?_,λi hi=>?_⟩) (eu rfl)
     ·have ht:(D.take (j+1)).map (cT G)=(D.take j).map (cT G)++[cT G D[j]]:=by rw[List.take_succ_eq_append_getElem hj,List.map_append];rfl
      rw[ht];exact N.keep Y (λx f=>.inl (.inr f)) λx f az=>by have:=ay x f;have:x=p:=az;omega
     ·obtain⟨b,o,x0,x1,x2⟩:=ab i hi;exact⟨b,o,x0,x1,Y.dn (q.cell (λhf=>by have:=(y b hf).1;omega) x2) (by show¬b=p;omega)⟩
    ·rintro v L ⟨ax,a7,M,O,I,F,ab⟩;rw[List.take_length]at F;refine fG I (Nat.le_of_ble_eq_true rfl) (λg al ag=>?_) (eu rfl);have ag:g.heap[p]? =some (.cells #[v,.bool true] 220):=ag;have y:∀b,ce v b->w9.heap.size<=b:=λb d=>by obtain⟨us,X,_⟩:=F;exact(X.blk d).1
     have N:=F.keep al (λx f=>.inl (.inr f)) λx f az=>by have:=y x f;have:x=p:=az;omega
     obtain⟨a,c,hv,hl,E⟩:=N.out (A':=A) (λb d=>.inl (.inl d)) λb d=>by have:=hA b d;omega
     refine⟨⟨rfl,rfl,rfl,trivial⟩,⟨ax.cj al (by omega),λ_=>(M.keep al λx f=>.inl (.inr f)).fewer λb d=>.inl (.inl d)⟩,al.ef O aJ,v,true,ag,?_⟩;rw[tv h0,qS hk H ho];exact⟨rfl,a,c,hv,hl,E⟩
  ·rintro w7 ⟨m7,aa,C,t,H⟩;refine⟨⟨rfl,rfl,rfl,trivial⟩,⟨m7,λ_=>aa.fewer λb d=>.inl d⟩,C,_,_,t,?_⟩;rw[tv h0,n9 H];exact⟨rfl,rfl⟩
 ·rintro l w7 aT ⟨m7,C,u7,b7,t,bi⟩;have h7:=h.eC m7.1;have aa:=m7.2 hp;refine iz.oV aT (cF cB (cn h7.PT (dx (kM s) (λw8 J=>ar (J.at_ C) ⟨rfl,Ext.refl _⟩) (dx (.agg #[u7,.bool b7]) (λw8 J=>dp (vs:=[u7,.bool b7]) (λj v hj=>by rw[Nat.zero_add];exact cd (J.at_ t) (by simpa using hj)) ⟨rfl,Ext.refl _⟩) λw8 J=>?_))));have ap:Dt A (eD G s) u7 b7 w8:=bi.go2 (λ_ h=>.inl h) λb o v d E=>J.cell E;have K:=aa.ext J;refine pD Gp Gm K.k hs.1 aU (λw9 m=>⟨λs u hu=>hu.go (λ_ h=>.inl h) λb o v d E=>m.cell E,u7,b7,rfl,ap.go2 (λ_ h=>.inl h) λb o v d E=>m.cell E⟩) λw9 R bj bk=>?_;have bl:hH A mk ms G w9:=⟨K.s.go (λs v X=>X.go (λ_ h=>.inl h) λb o v d E=>R.cell E) λo ho=>by rw[bj ms (Ne.symm h.ne)];exact ho,bk,K.ak,K.asm⟩;have aq:=R.at_ (J.at_ t);refine cF cB (cn (cd aq rfl) (cn (cd aq rfl) λL aA=>?_));exact⟨_,rfl,⟨m7.1.trans ((J.eC n0).trans (R.trans (aA.eC n0))),λ_=>bl.ext aA⟩,u7,b7,rfl,ap.go2 (λ_ h=>.inl h) λb o v d E=>aA.cell (R.cell E)⟩
structure Tq where
 door:Int
 shift:Int
 opened:Bool
def IE(t:Tq):List Value:=[.int .i64 t.door,.int .i64 t.shift,.bool t.opened]
def qq(w:World)(a:Option Addr)(l:List Tq):Prop:=∀k (h:k<l.length),∃b o,a=some ⟨b,o,none⟩/\∀j v,(IE l[k])[j]? =some v->w.cell? ⟨b,o+k*3+j,none⟩=some v
theorem qq.ext{w w':World}{a:Option Addr}{l:List Tq}(h:qq w a l)(e:Ext w w'):qq w' a l:=λk c=>by obtain⟨b,o,d,f⟩:=h k c;exact⟨b,o,d,λj v g=>e.cell (f j v g)⟩
def pQ:Sx:=⟨0,0,0,false,false,false,false,false⟩
def zm(G:Gd):List Sx->Int->List Tq->Int×List Sx
 |xs,_,[]=>(0,xs)
 |xs,a,t::r=>
  if lH t.door 0 ((G.doors.length:Int)-1)&&lH t.shift 0 (2*G.days-1)then
   if t.shift<a then(5,[])
   else if uu (xs.getD t.door.toNat pQ) (t.shift.toNat/2)then(4,[])
   else if fE G.tries (xs.getD t.door.toNat pQ)then(12,[])
   else zm G (xs.set t.door.toNat (gm (xs.getD t.door.toNat pQ) t.shift.toNat t.opened)) t.shift r
  else(3,[])
def gF(G:Gd)(l:List Tq):Int×List Sx:=zm G (List.replicate G.doors.length pQ) 0 l
def oS(k:Nat)(x:Sx):Prop:=(0<=x.tries/\x.tries<=k)/\(0<=x.mornings/\x.mornings<=k)/\0<=x.evenings/\x.evenings<=k
theorem oS.Kf{k:Nat}{x:Sx}(h:oS k x)(s:Nat)(o:Bool):oS (k+1) (gm x s o):=by
 obtain⟨a,b,c⟩:=h;unfold gm oS;refine⟨by constructor<;>simp only<;>omega,?_,?_⟩
 ·constructor<;>simp only<;>split<;>omega
 ·simp only;split<;>omega
theorem oS.up{k:Nat}{x:Sx}(h:oS k x):oS (k+1) x:=by obtain⟨a,b,c⟩:=h;refine⟨⟨a.1,by omega⟩,⟨b.1,by omega⟩,c.1,by omega⟩
theorem Gu{w:World}{d n:Nat}(f:w.heap[d]? =some (.cells (madeCells (qg 166).toArray (n*8)) 166)):jQ d (List.replicate n pQ) w:=by
 refine⟨_,f,by simp[madeCells],λk g j v a=>?_⟩;have b:j<8:=(List.getElem?_eq_some_iff.1 a).1;have h:k<n:=by simpa using g
 have c:k*8+j<n*8:=by have:=Nat.mul_le_mul_right 8 (show k+1<=n by omega);omega
 have i:(qg 166).toArray.size=8:=rfl;have l:(k*8+j)%8=j:=by omega
 have e:(madeCells (qg 166).toArray (n*8))[k*8+j]? =(qg 166)[j]? :=by
  unfold madeCells;rw[Array.getElem?_map,Array.getElem?_eq_getElem (by simpa using c)];simp only[Array.getElem_range,Option.map_some,i,l];match j,b with
  |0,_=>rfl
  |1,_=>rfl
  |2,_=>rfl
  |3,_=>rfl
  |4,_=>rfl
  |5,_=>rfl
  |6,_=>rfl
  |7,_=>rfl
 rw[e];simp only[List.getElem_replicate]at a;exact a
def Nr(G:Gd)(l:List Tq)(n0:Nat)(v:Value)(w:World):Prop:=
 ((gF G l).1≠0/\v=.tuple #[.slice none 0 0,.int .i64 (gF G l).1])\/
 ((gF G l).1=0/\(gF G l).2.length=G.doors.length/\(∀x∈(gF G l).2,oS l.length x)/\∃a,n0<=a/\v=.tuple #[.slice (some ⟨a,0,none⟩) G.doors.length G.doors.length,.int .i64 0]/\jQ a (gF G l).2 w)
theorem Dy(G:Gd)(xs:List Sx)(a:Int)(l:List Tq)(k:Nat)(b:k<l.length):zm G xs a (l.drop k)=(if lH l[k].door 0 ((G.doors.length:Int)-1)&&lH l[k].shift 0 (2*G.days-1)then
 if l[k].shift<a then(5,[])
 else if uu (xs.getD l[k].door.toNat pQ) (l[k].shift.toNat/2)then(4,[])
 else if fE G.tries (xs.getD l[k].door.toNat pQ)then(12,[])
 else zm G (xs.set l[k].door.toNat (gm (xs.getD l[k].door.toNat pQ) l[k].shift.toNat l[k].opened)) l[k].shift (l.drop (k+1))
 else(3,[])):=by
 rw[List.drop_eq_getElem_cons b];rfl
theorem LA{gp mk ms:Nat}{G:Gd}{w:World}(h:kS gp mk ms G w){l:List Tq}{la:Option Addr}{lc:Nat}(hr:qq w la l)(av:l.length<=100000):
 Calls V.prog 137 #[cu gp,.slice la l.length lc] w (eG λv w'=>Ext w w'/\Nr G l w.heap.size v w'):=by
 have P:=h.pw;have ae:=P.days;have h5:=P.many;obtain⟨da,dc,h6,aw⟩:=h.c6;refine go V.func137 Tryz.ntmps137 ?_;refine cg h6 (cA (A9 F9 (Nat.le_refl _) (by omega) λw1 t e1 Q R=>?_));have af:=Gu R
 refine cA (fw (n:=l.length) (λk (F:List Sx×Int)=>[(0,cu gp),(6,.slice (some ⟨t,0,none⟩) G.doors.length G.doors.length),(7,.int .i64 F.2),(17,.slice la l.length lc),(18,.int .i64 l.length),(19,.int .i64 k)])
  (λk F w'=>Ext w w'/\jQ t F.1 w'/\F.1.length=G.doors.length/\(∀x∈F.1,oS k x)/\gF G l=zm G F.1 F.2 (l.drop k)) (List.replicate G.doors.length pQ,0) ⟨⟨rfl,rfl,rfl,rfl,rfl,rfl,trivial⟩,e1,af,by simp,λx S=>?_,rfl⟩ ?_ ?_ ?_)
 ·rw[List.eq_of_mem_replicate S];simp[oS,pQ]
 ·rintro k F w' hk T;exact cY ⟨rfl,rfl,⟨rfl,rfl,rfl,rfl,rfl,rfl,trivial⟩,T⟩
 ·rintro k ⟨g,bf⟩ w2 hk ⟨e2,m,E,z,f⟩;simp only at m E z f⊢;obtain⟨b,o,rfl,hc⟩:=(hr.ext e2) k hk;rw[Dy G g bf l k hk]at f;refine fh k 3 hk (dp (vs:=IE l[k]) hc (dS λw3 tb e3 ag U=>cK U λw4 k4 p=>?_));have p:w4.heap[tb]? =some (.cells (IE l[k]).toArray 84):=p;have ax:t<w2.heap.size:=by obtain⟨_,W,_⟩:=m.out;exact ck.lt_of_heap W
  have e4:Ext w2 w4:=e3.cj k4 ag;have E4:=e2.trans e4;have X:=m.ext e4;have h4:=h.ext E4;have ne:¬(tb=t):=by omega
  obtain⟨ay,az,ah,_⟩:=h4.c6;have A:∀(w':World) (c:Int),Ext w4 w'->gF G l=(c,[])->c≠0->∃v,Ending.returned (one [.slice none 0 0,.int .i64 c])=.returned v/\Ext w w'/\Nr G l w.heap.size v w':=λw' c e hc h0=>⟨_,rfl,E4.trans e,.inl ⟨by rw[hc];exact h0,by rw[hc];rfl⟩⟩;refine cF cB (cn (cd p rfl) (cn ah (NW _ (λw e=>cA ⟨rfl,Ext.refl _⟩) (qh (fc cB _ (λw e=>du _ _ _ w) (nj λw5 Y=>⟨λH=>je H ?_,λH=>?_⟩))))))
  ·exact A w5 3 Y (by rw[f,if_neg];simp at H;simp[H]) (by omega)
  have H:lH l[k].door 0 ((G.doors.length:Int)-1)=true:=by simpa using H
  refine cF cB (cn (cd (Y.at_ p) rfl) (fc cB _ (λw e=>last_at (h4.ext (Y.trans e))) (fc cB _ (λw e=>du _ _ _ w) (nj λw6 e6=>⟨λr=>?_,λr=>?_⟩))))
  ·exact A w6 3 (Y.trans e6) (by rw[f,if_neg];simp at r;simp[r]) (by omega)
  have r:lH l[k].shift 0 (2*G.days-1)=true:=by simpa using r
  rw[if_pos (by rw[H,r];rfl)]at f;simp only[lH,Bool.and_eq_true,decide_eq_true_eq]at H r;obtain⟨d,hd⟩:∃d:Nat,l[k].door=(d:Int):=⟨l[k].door.toNat,by omega⟩;obtain⟨s,hs⟩:∃s:Nat,l[k].shift=(s:Int):=⟨l[k].shift.toNat,by omega⟩;have B:d<g.length:=by omega
  have ai:s<6:=by omega
  have C:=Y.trans e6;have y:w6.heap[tb]? =some (.cells #[.int .i64 d,.int .i64 s,.bool l[k].opened] 84):=by rw[C.at_ p,IE,hd,hs]
  have I:=X.ext C;have aj:g.getD d pQ=g[d]:=getD_eq B;rw[hd,hs]at f;simp only[Int.toNat_natCast,aj]at f;refine cg (cd y rfl) (cY ⟨λak=>?_,λal=>?_⟩)
  ·exact A w6 5 C (by rw[f,if_pos (of_decide_eq_true ak)]) (by omega)
  rw[if_neg (of_decide_eq_false al)]at f
  have Z:∀{w'},jQ t g w'->w'.cell? ⟨t,0+d*8+4+s/2,none⟩=some (.bool (uu g[d] (s/2))):=λhS=>by
   obtain⟨cs,W,y2,y3⟩:=hS.out;refine cd W ?_;have am:s/2=0\/s/2=1\/s/2=2:=by omega
   rw[show 0+d*8+4+s/2=d*8+(4+s/2) by omega];refine y3 d B (4+s/2) _ ?_;rcases am with e|e|e<;>rw[e]<;>rfl
  refine cF cB (cn (cd y rfl) (cn (cd y rfl) (dx (.int .i64 ((s/2:Nat):Int)) (λw1 _=>qj (n:=2) (by omega) (by omega) ⟨rfl,Ext.refl _⟩) (iU d 8 (by omega) (dx (.pointer (some ⟨t,0+d*8+4+s/2,none⟩)) (λw1 _=>rP 3 (by omega) ⟨rfl,Ext.refl _⟩) (cn (Z I) λw7 e7=>⟨λM=>?_,λM=>?_⟩))))))
  ·exact A w7 4 (C.trans e7) (by rw[f,if_pos M]) (by omega)
  rw[if_neg (by rw[M];simp)]at f;have N:=C.trans e7;have J:=I.ext e7;have K:=e7.at_ y;have aa:∀{w'},jQ t g w'->∀j v,(iX g[d])[j]? =some v->w'.cell? ⟨t,0+d*8+j,none⟩=some v:=λhS j v hj=>by obtain⟨cs,W,y2,y3⟩:=hS.out;exact cd W (by rw[Nat.zero_add];exact y3 d B j v hj)
  refine cg (cd K rfl) (fh d 8 (by omega) (dp (vs:=iX g[d]) (aa J) (dU (rO (h4.ext N) g[d]) λw8 e8=>⟨λO=>?_,λO=>?_⟩)))
  ·exact A w8 12 (N.trans e8) (by rw[f,if_pos O]) (by omega)
  rw[if_neg (by rw[O];simp)]at f;have an:=N.trans e8;have L:=J.ext e8;have ab:=e8.at_ K;have ac:=z _ (List.getElem_mem B);have ao:(0<=g[d].tries/\g[d].tries<=1000000)/\(0<=g[d].mornings/\g[d].mornings<=1000000)/\0<=g[d].evenings/\g[d].evenings<=1000000:=by obtain⟨z1,z2,z3⟩:=ac;omega
  refine fa 16 cB (fg (λx=>x=t)) (λa b h=>h.keep _) ?_;have D:∀{q},cr (λx=>x=t) w8 q->q.heap[tb]? =some (.cells #[.int .i64 d,.int .i64 s,.bool l[k].opened] 84):=λe=>e.ef ab ne;refine .exact (.int .i64 d) (λq i=>cg (cd (D i) rfl) ⟨rfl,Ext.refl _⟩) (.exact (.int .i64 d) (λq i=>cg (cd (D i) rfl) ⟨rfl,Ext.refl _⟩) ?_);refine .exact _ (λq i=>fh d 8 (by omega) ⟨rfl,Ext.refl _⟩) (.wu rfl (.agg (iX g[d]).toArray) (λq i=>dp (vs:=iX g[d]) (aa (L.ext i)) ⟨rfl,Ext.refl _⟩) ?_);refine .exact (.int .i64 s) (λq i=>cg (cd (D i) rfl) ⟨rfl,Ext.refl _⟩) (.exact (.bool l[k].opened) (λq i=>cg (cd (D i) rfl) ⟨rfl,Ext.refl _⟩) ?_);refine .exact (.agg (iX (gm g[d] s l[k].opened)).toArray) (λq i=>dU (vh g[d] s l[k].opened q ai ao) λap aq=>⟨rfl,aq⟩) ?_;refine .exact (.int .i64 s) (λq i=>cg (cd (D i) rfl) ⟨rfl,Ext.refl _⟩) (.exact _ (λq i=>fh d 8 (by omega) ⟨rfl,Ext.refl _⟩) ?_);refine .qN (λ_ q=>jQ t (g.set d (gm g[d] s l[k].opened)) q) (λ_ a b hS e=>hS.ext e) (λq i=>?_) ?_
  ·refine Gk (L.ext i) d 0 B (by omega) (gm g[d] s l[k].opened) (Nat.le_of_ble_eq_true rfl) (λj u hj=>?_) (λap ar ad=>⟨ad,ar⟩);have au:j<8:=(List.getElem?_eq_some_iff.1 hj).1;rw[if_pos ⟨Nat.zero_le _,au⟩];exact hj
  intro q i T;have T:jQ t (g.set d (gm g[d] s l[k].opened)) q:=T;refine cq ⟨(g.set d (gm g[d] s l[k].opened),(s:Int)),⟨rfl,rfl,rfl,rfl,rfl,rfl,trivial⟩,?_,T,by simpa using E,λx S=>?_,f⟩
  ·exact(E4.trans an).cj i Q
  ·rcases List.mem_or_eq_of_mem_set S with S|rfl
   ·exact(z x S).up
   ·exact ac.Kf s _
 ·rintro⟨g,bf⟩ w2 ⟨e2,m,E,z,f⟩;have f:gF G l=(0,g):=by rw[f];simp[zm]
  refine⟨_,rfl,e2,.inr ⟨by rw[f],by rw[f];exact E,by rw[f];exact z,t,?_,rfl,by rw[f];exact m⟩⟩;exact Q
def wN(G:Gd)(l:List Tq):Int:=if ed G=0 then(gF G l).1 else ed G
def gQ(l:List Tq):Int:=match l.getLast? with
 |some t=>t.shift
 |none=>0
theorem Cn{G:Gd}:∀{l:List Tq} {xs:List Sx} {b:Int},(zm G xs b l).1=0->∀t∈l,(0<=t.door/\t.door<G.doors.length)/\0<=t.shift/\t.shift<=2*G.days-1
 |t::r,xs,b,h,x,a=>by
  simp only[zm]at h;split at h
  ·rename_i c;simp only[lH,Bool.and_eq_true,decide_eq_true_eq]at c;split at h
   ·simp at h
   ·split at h
    ·simp at h
    ·split at h
     ·simp at h
     ·rcases List.mem_cons.1 a with rfl|a
      ·omega
      ·exact Cn h x a
  ·simp at h
theorem Dz{G:Gd}(a:G.Ok){l:List Tq}(h:(gF G l).1=0):0<=gQ l/\gQ l<=5:=by
 unfold gQ;split
 ·rename_i t b;have:=Cn h t (List.mem_of_getLast? b);have:=a.days;omega
 ·omega
structure zn(w:World)(wp gp mk ms:Nat)(G:Gd)(xs:List Sx)(bf:Int)(w':World):Prop where
 k:io wp gp mk ms G xs bf w'
 g:rz w gp mk ms G w'
 lo:w.heap.size<=wp
theorem zn.ext{w w1 a:World}{wp gp mk ms:Nat}{G:Gd}{xs:List Sx}{b:Int}(h:zn w wp gp mk ms G xs b w1)(e:Ext w1 a):zn w wp gp mk ms G xs b a:=⟨h.k.ext e,h.g.ext e,h.lo⟩
theorem zn.low{w0 w w1:World}{wp gp mk ms:Nat}{G:Gd}{xs:List Sx}{a:Int}(h:zn w wp gp mk ms G xs a w1)(e:Ext w0 w):zn w0 wp gp mk ms G xs a w1:=⟨h.k,h.g.low e,Nat.le_trans e.size h.lo⟩
def Gv(w:World)(G:Gd)(l:List Tq)(v:Value)(w':World):Prop:=
 (wN G l≠0/\v=.tuple #[.pointer none,.int .i64 (wN G l)])\/(wN G l=0/\∃a b mk c,v=.tuple #[cu a,.int .i64 0]/\zn w a b mk c G (gF G l).2 (gQ l) w'/\∀x∈(gF G l).2,oS l.length x)
theorem DC{G:Gd}{N:Option Addr}{dc:Nat}{w:World}(S:fZ w N G.doors)(m:G.doors.length<=100000)(T: -1000000<=G.streets/\G.streets<=1000000){l:List Tq}{la:Option Addr}{lc:Nat}(O:qq w la l)(B:l.length<=100000):
 Calls V.prog 125 #[gV G N dc,.slice la l.length lc] w (eG λv w'=>Ext w w'/\Gv w G l v w'):=by
 refine go V.func125 Tryz.ntmps125 ?_;refine eO λw1 gb d U W=>fW W (cf (vi (dc:=dc) (S.ext d) m T) ?_);rintro v X ⟨n,⟨h,rfl⟩|⟨h,p,mk,P,rfl,A⟩⟩
 ·exact eP (je (by simpa using h) ⟨_,rfl,d.trans n,.inl ⟨by rw[wN,if_neg h];exact h,by rw[wN,if_neg h];rfl⟩⟩)
 have e:wN G l=(gF G l).1:=by rw[wN,if_pos h]
 refine eP (nh (by simp) (cf (LA A.g (O.ext (d.trans n)) B) ?_));rintro v Y ⟨q,⟨r,rfl⟩|⟨r,s,C,i,Z,rfl,Q⟩⟩
 ·exact eP (je (by simpa using r) ⟨_,rfl,(d.trans n).trans q,.inl ⟨by rw[e];exact r,by rw[e];rfl⟩⟩)
 have D:=(d.trans n).trans q;have s1:=d.size;have s2:=n.size;have s3:=q.size;refine eP (nh (by simp) (c8 (.agg #[cu p,.slice (some ⟨i,0,none⟩) G.doors.length G.doors.length,.int .i64 0]) (eO λR t j aa c=>?_)));have c:R.heap[t]? =some (.cells #[cu p,.slice (some ⟨i,0,none⟩) G.doors.length G.doors.length,.int .i64 0] 141):=c;have E:=(A.ext (q.trans j)).low d;have u:=Q.ext j;have F:=Dz A.g.pw r;have ab:i<Y.heap.size:=by obtain⟨_,y1,_⟩:=Q.out;exact ck.lt_of_heap y1
 have x:∀a,Ext w a->rz w p mk P G a->jQ i (gF G l).2 a->a.heap[t]? =some (.cells #[cu p,.slice (some ⟨i,0,none⟩) G.doors.length G.doors.length,.int .i64 (gQ l)] 141)->∃v,Ending.returned (one [cu t,.int .i64 0])=.returned v/\Ext w a/\Gv w G l v a:=λa H y I f=>
  ⟨_,rfl,H,.inr ⟨by rw[e];exact r,t,p,mk,P,rfl,⟨⟨y.g,s,F,_,G.doors.length,cd f rfl,by rw[s];exact cd f rfl,cd f rfl,I.row⟩,y,by omega⟩,C⟩⟩
 refine cA (pr ⟨λk=>?_,λk=>?_⟩)
 ·have k:0<l.length:=by simpa using k
  have J:l.length-1<l.length:=by omega
  obtain⟨b,o,rfl,hc⟩:=(O.ext (D.trans j)) (l.length-1) J;have K:gQ l=l[l.length-1].shift:=by unfold gQ;rw[List.getLast?_eq_getElem?,List.getElem?_eq_getElem J]
  refine cA (fu (fh (l.length-1) 3 J (cg (hc 1 _ rfl) (cK c λa L M=>?_)) (by omega)));have z:¬(i=t):=by omega
  have H:Ext w a:=(D.trans j).cj L (by omega);have e5:Ext X a:=(q.trans j).cj L (by omega);exact x a H ((A.ext e5).low d) (u.keep L z) (by rw[M,K];rfl)
 ·have k:l=[]:=List.eq_nil_of_length_eq_zero (by simpa using k);subst k;exact x R (D.trans j) E u c
structure Du where
 tries:Int
 morning:Bool
 evening:Bool
def Bb(b:Bool):Int:=if b then 1 else 0
def nX(G:Gd)(x:Sx):Bool:=decide (2<=G.tries)&&decide (x.mornings=0)
def pG(G:Gd)(x:Sx):Bool:=decide (2<=G.tries)&&decide (x.evenings=0)
def zo(G:Gd)(x:Sx):Int:=max (G.tries-x.tries) 0
def fl(G:Gd)(x:Sx):Du:=⟨max (zo G x) (Bb (nX G x)+Bb (pG G x)),nX G x,pG G x⟩
def zZ(d:Nat)(u:Du):List Value:=[.int .i64 d,.int .i64 u.tries,.bool u.morning,.bool u.evening]
def gI(m e:Bool)(k:Nat):Int:=if k=0 then 0 else if k=1 then Bb m else Bb m+Bb e
theorem LD{wp gp mk ms:Nat}{G:Gd}{xs:List Sx}{u:Int}{w:World}(h:io wp gp mk ms G xs u w){d:Nat}(hd:d<xs.length)(ab:oS 100000 xs[d]):
 Calls V.prog 133 #[cu wp,.int .i64 d] w (eG λv w'=>v=.agg (zZ d (fl G xs[d])).toArray/\Ext w w'):=by
 obtain⟨sa,sc,h1,s,h3,h4⟩:=h.at_;have O:=h.g.pw;have ht:=O.tries;have am:=O.days;obtain⟨b,o,rfl,hc⟩:=h4 d hd;refine go V.func133 Tryz.ntmps133 ?_;refine dS λw1 D e1 P Q=>?_;refine cg (e1.cell s) (fh d 8 hd (dp (vs:=iX xs[d]) (λj v z=>e1.cell (hc j v z)) (dS λw2 xb e2 R f=>cK f λS k3 T=>?_)));have f:S.heap[xb]? =some (.cells (iX xs[d]).toArray 166):=T.trans (congrArg (λa=>some (Obj.cells a 166)) (eh (qg 166).toArray (iX xs[d]) rfl));clear T;have E3:Ext w S:=(e1.trans e2).cj k3 (by have:=e1.size;omega);have B:S.heap[D]? =some (.cells (qg 101).toArray 101):=(e2.cj k3 R).at_ Q;have ac:=h.g.ext E3;have ad:=E3.cell h1;obtain⟨y1,y2,y3⟩:=ab;refine cF cB (cn ad (cn ac.c5 (cn (cd f rfl) (qh (NW (.int .i64 (zo G xs[d])) (λU _=>wx ⟨rfl,Ext.refl _⟩) (dx (.agg #[.int .i64 d,.int .i64 (zo G xs[d]),.bool false,.bool false]) (λU _=>c8 _ ⟨rfl,Ext.refl _⟩) ?_))))));refine .rel (λv U=>∃m,v=.pointer (some ⟨m,0,none⟩)/\S.heap.size<=m/\U.heap[m]? =some (.cells (qg 101).toArray 101)) (λv a b ⟨nb,h1,s,h3⟩ e=>⟨nb,h1,s,e.at_ h3⟩) (λU e4=>dS λW nb e5 ae X=>⟨⟨nb,rfl,Nat.le_trans e4.size ae,X⟩,e5⟩) ?_;rintro U e4 v ⟨m,rfl,af,Y⟩;refine cK Y λW k5 Z=>?_;have C:W.heap[m]? =some (.cells #[.int .i64 d,.int .i64 (zo G xs[d]),.bool false,.bool false] 101):=Z;clear Z;have E:Ext S W:=e4.cj k5 af;have E5:=E3.trans E;have ag:=h.g.ext E5;have ah:=E5.cell h1;have ai:=E.at_ f;have aa:=E.at_ B;have an:=ck.lt_of_heap f;have ao:=ck.lt_of_heap B;have s3:=E3.size;refine cg ah (cg ag.c5 (ve ⟨λs=>?_,λs=>?_⟩))
 ·have s:2<=G.tries:=of_decide_eq_true s;have hM:nX G xs[d]=decide (xs[d].mornings=0):=by simp[nX,s]
  have hE:pG G xs[d]=decide (xs[d].evenings=0):=by simp[pG,s]
  refine fa 7 cB (fg (λx=>x=m)) (λa b h=>h.keep _) ?_;have xc:∀{t},cr (λx=>x=m) W t->t.heap[xb]? =some (.cells (iX xs[d]).toArray 166):=λe=>e.ef ai (by omega);refine .exact _ (λt F=>cg (cd (xc F) rfl) ⟨rfl,Ext.refl _⟩) (.exact _ (λt _=>gK ⟨rfl,Ext.refl _⟩) (.exact _ (λt F=>cg (cd (xc F) rfl) ⟨rfl,Ext.refl _⟩) (.exact _ (λt _=>gK ⟨rfl,Ext.refl _⟩) ?_)));refine .qN (λ_ t=>t.heap[m]? =some (.cells #[.int .i64 d,.int .i64 (zo G xs[d]),.bool (nX G xs[d]),.bool false] 101)) (λ_ a b h e=>e.at_ h) (λt F=>cK (F.at_ C) λH k7 A=>⟨by rw[A,hM];rfl,k7⟩) ?_;intro t F hJ;have hJ:t.heap[m]? =some (.cells #[.int .i64 d,.int .i64 (zo G xs[d]),.bool (nX G xs[d]),.bool false] 101):=hJ;refine cK hJ λH k7 A=>?_;have c:H.heap[m]? =some (.cells #[.int .i64 d,.int .i64 (zo G xs[d]),.bool (nX G xs[d]),.bool (pG G xs[d])] 101):=by rw[A,hE];rfl
  have kk:=F.trans k7 (λ_ _ h=>h) λ_ _ h=>h;have E6:Ext w H:=E5.cj kk (by omega);have I:=kk.ef aa (by omega);clear A hJ;refine cg (cd c rfl) (cg (cd c rfl) (dB [.bool (nX G xs[d]),.bool (pG G xs[d])] 4 (λH X J aj i=>cA (dg (n:=2) (λk=>[(4,cu D),(6,cu m),(7,.int .i64 (gI (nX G xs[d]) (pG G xs[d]) k)),(52,.slice (some ⟨X,0,none⟩) 2 2),(53,.int .i64 2),(54,.int .i64 k)]) (λ_ w'=>w'=H) ⟨⟨rfl,rfl,rfl,rfl,rfl,rfl,trivial⟩,rfl⟩ ?_ ?_ ?_))))
  ·rintro k w' hk rfl;exact cY ⟨rfl,rfl,⟨rfl,rfl,rfl,rfl,rfl,rfl,trivial⟩,rfl⟩
  ·rintro k w' hk rfl;have K:∀(x y:Bool) (k:Nat),0<=gI x y k/\gI x y k<=2:=λx y k=>by cases x<;>cases y<;>(unfold gI Bb;split<;>(try split)<;>decide)
   have ak:=K (nX G xs[d]) (pG G xs[d]) k;obtain rfl|rfl:k=0\/k=1:=by omega
   ·refine dT 0 (by omega) (cg (cd i rfl) ⟨λp=>cq (cq ⟨⟨rfl,rfl,?_,rfl,rfl,rfl,trivial⟩,rfl⟩),λp=>cq ⟨⟨rfl,rfl,?_,rfl,rfl,rfl,trivial⟩,rfl⟩⟩)
    ·show some _=some _;simp[gI,Bb,p]
    ·show some _=some _;simp[gI,Bb,p]
   ·refine dT 1 (by omega) (cg (cd i rfl) ⟨λp=>cq (cq ⟨⟨rfl,rfl,?_,rfl,rfl,rfl,trivial⟩,rfl⟩),λp=>cq ⟨⟨rfl,rfl,?_,rfl,rfl,rfl,trivial⟩,rfl⟩⟩)
    ·show some _=some _;simp[gI,Bb,p]
    ·show some _=some _;simp[gI,Bb,p]
  ·rintro w' rfl;have l:=J.at_ c;have L:=J.at_ I;refine cg (cd l rfl) (wx (cK l λw8 k8 q=>?_));have q:w8.heap[m]? =some (.cells (zZ d (fl G xs[d])).toArray 101):=q;have al:=ck.lt_of_heap c;have M:=k8.ef L (by omega);refine dp (vs:=zZ d (fl G xs[d])) (λj v z=>by rw[Nat.zero_add];exact cd q (by simpa using z)) (cK M λN k9 r=>?_);have r:N.heap[D]? =some (.cells (zZ d (fl G xs[d])).toArray 101):=r.trans (congrArg (λa=>some (Obj.cells a 101)) (eh (qg 101).toArray (zZ d (fl G xs[d])) rfl));have hl:Sem.run V.prog (loadVar 101 ⟨D,0,none⟩) N=.ok (.agg (zZ d (fl G xs[d])).toArray) N:=lZ (zZ d (fl G xs[d])) r λj v z=>by rw[Nat.zero_add];simpa using z
   exact⟨_,hl,_,rfl,rfl,((E6.trans J).cj k8 (by omega)).cj k9 P⟩
 ·have s:¬2<=G.tries:=of_decide_eq_false s;have hM:nX G xs[d]=false:=by simp[nX,s]
  have hE:pG G xs[d]=false:=by simp[pG,s]
  have c:W.heap[m]? =some (.cells #[.int .i64 d,.int .i64 (zo G xs[d]),.bool (nX G xs[d]),.bool (pG G xs[d])] 101):=by rw[C,hM,hE]
  have E6:=E5;have I:=aa;refine cg (cd c rfl) (cg (cd c rfl) (dB [.bool (nX G xs[d]),.bool (pG G xs[d])] 4 (λH X J aj i=>cA (dg (n:=2) (λk=>[(4,cu D),(6,cu m),(7,.int .i64 (gI (nX G xs[d]) (pG G xs[d]) k)),(52,.slice (some ⟨X,0,none⟩) 2 2),(53,.int .i64 2),(54,.int .i64 k)]) (λ_ w'=>w'=H) ⟨⟨rfl,rfl,rfl,rfl,rfl,rfl,trivial⟩,rfl⟩ ?_ ?_ ?_))))
  ·rintro k w' hk rfl;exact cY ⟨rfl,rfl,⟨rfl,rfl,rfl,rfl,rfl,rfl,trivial⟩,rfl⟩
  ·rintro k w' hk rfl;have K:∀(x y:Bool) (k:Nat),0<=gI x y k/\gI x y k<=2:=λx y k=>by cases x<;>cases y<;>(unfold gI Bb;split<;>(try split)<;>decide)
   have ak:=K (nX G xs[d]) (pG G xs[d]) k;obtain rfl|rfl:k=0\/k=1:=by omega
   ·refine dT 0 (by omega) (cg (cd i rfl) ⟨λp=>cq (cq ⟨⟨rfl,rfl,?_,rfl,rfl,rfl,trivial⟩,rfl⟩),λp=>cq ⟨⟨rfl,rfl,?_,rfl,rfl,rfl,trivial⟩,rfl⟩⟩)
    ·show some _=some _;simp[gI,Bb,p]
    ·show some _=some _;simp[gI,Bb,p]
   ·refine dT 1 (by omega) (cg (cd i rfl) ⟨λp=>cq (cq ⟨⟨rfl,rfl,?_,rfl,rfl,rfl,trivial⟩,rfl⟩),λp=>cq ⟨⟨rfl,rfl,?_,rfl,rfl,rfl,trivial⟩,rfl⟩⟩)
    ·show some _=some _;simp[gI,Bb,p]
    ·show some _=some _;simp[gI,Bb,p]
  ·rintro w' rfl;have l:=J.at_ c;have L:=J.at_ I;refine cg (cd l rfl) (wx (cK l λw8 k8 q=>?_));have q:w8.heap[m]? =some (.cells (zZ d (fl G xs[d])).toArray 101):=q;have al:=ck.lt_of_heap c;have M:=k8.ef L (by omega);refine dp (vs:=zZ d (fl G xs[d])) (λj v z=>by rw[Nat.zero_add];exact cd q (by simpa using z)) (cK M λN k9 r=>?_);have r:N.heap[D]? =some (.cells (zZ d (fl G xs[d])).toArray 101):=r.trans (congrArg (λa=>some (Obj.cells a 101)) (eh (qg 101).toArray (zZ d (fl G xs[d])) rfl));have hl:Sem.run V.prog (loadVar 101 ⟨D,0,none⟩) N=.ok (.agg (zZ d (fl G xs[d])).toArray) N:=lZ (zZ d (fl G xs[d])) r λj v z=>by rw[Nat.zero_add];simpa using z
   exact⟨_,hl,_,rfl,rfl,((E6.trans J).cj k8 (by omega)).cj k9 P⟩
def nw(x:Sx)(l:List Nat)(s:Nat):Bool:=uu x (s/2)||(decide (0<l.length)&&decide (l.getLast?.getD 0/2=s/2))
def qs(u:Du)(l:List Nat):Bool:=(l.any (λs=>decide (s%2=0))||!u.morning)&&(l.any (λs=>decide (s%2=1))||!u.evening)
def it(L:Nat)(x:Sx)(u:Du):Nat->List Nat->Nat->List (List Nat)
 |0,_,_=>[]
 |f+1,l,a=>if(l.length:Int)=u.tries then(if qs u l then [l]else [])else(List.range (L-a)).flatMap λi=>if nw x l (a+i)then []else it L x u f (l++[a+i]) (a+i+1)
def ei(G:Gd):Nat:=(2*G.days).toNat
def fH(G:Gd)(x:Sx)(a:Nat):List (List Nat):=it (ei G) x (fl G x) (ei G+1) [] a
def kA(L:Nat)(x:Sx)(u:Du)(f:Nat)(l:List Nat)(a k:Nat):List (List Nat):=(List.range k).flatMap λi=>if nw x l (a+i)then []else it L x u f (l++[a+i]) (a+i+1)
theorem mc(L:Nat)(x:Sx)(u:Du)(f:Nat)(l:List Nat)(a k:Nat):kA L x u f l a (k+1)=kA L x u f l a k++if nw x l (a+k)then []else it L x u f (l++[a+k]) (a+k+1):=by unfold kA;rw[List.range_succ,List.flatMap_append];simp
def GL(w:World)(v:Value)(l:List Nat):Prop:=(l=[]/\v=.slice none 0 0)\/∃b c a,v=.slice (some ⟨b,0,none⟩) l.length c/\l.length<=c/\w.heap[b]? =some (.cells a 3)/\a.size=c/\∀k (h:k<l.length),a[k]? =some (.int .i64 l[k])
theorem GL.row{w:World}{v:Value}{l:List Nat}(h:GL w v l):∃a c,v=.slice a l.length c/\dV w a l/\l.length<=c:=by
 rcases h with⟨rfl,rfl⟩|⟨b,c,i,rfl,e,f,j,g⟩
 ·exact⟨none,0,rfl,λk d=>by simp at d,Nat.le_refl _⟩
 ·exact⟨_,c,rfl,λk d=>⟨b,0,rfl,cd f (by rw[Nat.zero_add];exact g k d)⟩,e⟩
theorem GL.keep{w w':World}{v:Value}{l:List Nat}{F:Nat->Prop}(h:GL w v l)(k:cr F w w')(d:∀b,ce v b->¬F b):GL w' v l:=by
 rcases h with h|⟨b,c,e,a,f,g,i⟩
 ·exact .inl h
 ·exact .inr ⟨b,c,e,a,f,k.ef g (d b ⟨_,_,a⟩),i⟩
theorem GL.blk{w:World}{v:Value}{l:List Nat}(h:GL w v l){b:Nat}(a:ce v b):b<w.heap.size:=by
 obtain⟨_,_,a⟩:=a;rcases h with⟨_,rfl⟩|⟨e,c,f,rfl,g,d,_⟩
 ·cases a
 ·injection a with a;have:=congrArg Addr.block (Option.some.inj a);simp only at this;subst this;exact ck.lt_of_heap d
structure EA(lv:Value)(o o':Obj)(a b:World):Prop where
 k:cr (ce lv) a b
 n:∀x ox,ce lv x->a.heap[x]? =some ox->b.heap[x]? =some ox\/(ox=o/\b.heap[x]? =some o')
theorem LG(lv:Value)(o o':Obj):dR (EA lv o o'):=by
 refine⟨λw=>⟨cr.refl _ w,λ_ _ _ h=>.inl h⟩,λa b c h k=>⟨h.k.trans k.k (λ_ _ h=>h) λ_ _ h=>h,λx e f i=>?_⟩,λw=>⟨(Ext.drew w).keep _,λx e _ h=>.inl h⟩⟩;rcases h.n x e f i with d|⟨d,j⟩
 ·exact k.n x e f d
 ·rcases k.n x _ f j with g|⟨g,l⟩
  ·exact .inr ⟨d,g⟩
  ·exact .inr ⟨d,l⟩
theorem Ext.ea{a b:World}(h:Ext a b)(lv:Value)(o o':Obj):EA lv o o' a b:=⟨h.keep _,λx d _ c=>.inl (h.at_ c)⟩
def GM(n0:Nat)(lv:Value)(o':Obj)(l:List Nat)(v:Value)(w:World):Prop:=
 (∃b c,ce lv b/\v=.slice (some ⟨b,0,none⟩) l.length c/\w.heap[b]? =some o'/\GL w v l)\/(∃b c,n0<=b/\v=.slice (some ⟨b,0,none⟩) l.length c/\GL w v l)
theorem rS{w:World}{k:Value->World->Prop}{t:TypeId}{O:Array Bool}{lv:Value}{l:List Nat}{o:Obj}{s n0:Nat}{w0:World}(Q:GL w lv l)(R:∀b,ce lv b->w.heap[b]? =some o)(K:n0<=w.heap.size)(L:l.length<=1000){E c:Nat}(n:w.heap[E]? =some (.cells [Value.int .i64 s].toArray 3))(o':Obj)(F:∀b cs,ce lv b->o=.cells cs 3->o'=.cells (cs.setIfInBounds l.length (.int .i64 s)) 3) (G:∀v w',GM n0 lv o' (l++[s]) v w'->EA lv o o' w w'->k v w'):un V.prog (builtin .append #[27,27] t O #[lv,.slice (some ⟨E,0,none⟩) 1 c]) w k:=by
 have S:=oH;obtain⟨T,i,z,U,W,X,C,Y,h7⟩:=S;have C:i.size=1:=C;rcases Q with⟨rfl,rfl⟩|⟨b,m,cs,rfl,Z,D,H,e⟩
 ·refine gC oH (cC.nil n0 3 [.int .i64 0] w) K n (by omega) λv' w' g1 g2 g3=>?_;have I:∀x,¬ce (.slice none 0 0) x:=λx a=>by obtain⟨_,_,a⟩:=a;cases a
  refine G v' w' (.inr ?_) ⟨g2,λx ox a _=>absurd a (I x)⟩;obtain⟨h0,⟨aa,_⟩|⟨b,M,cs,q1,rfl,q3,q4,q5,q6,q7,q8⟩⟩:=g1
  ·omega
  ·refine⟨b,M,q1,rfl,.inr ⟨b,M,cs,rfl,by simpa using q5,q3,by simpa using q4,λj d=>?_⟩⟩;obtain rfl:j=0:=by simp at d;omega
   rw[q7 0 (by simp)];rfl
 ·have q:=R b ⟨_,_,rfl⟩;rw[D]at q;obtain rfl:=Option.some.inj q;have r:=F b cs ⟨_,_,rfl⟩ rfl;by_cases f:l.length+1<=m
  ·refine Ce (u:=.int .i64 s) oH D f (by omega) (cd n rfl) rfl λw' k' p=>G _ w' (.inl ⟨b,m,⟨_,_,rfl⟩,by simp,by rw[p,r],.inr ⟨b,m,_,by simp,by simpa using f,p,by simpa using H,λj d=>?_⟩⟩) ⟨k'.trans (cr.refl (λ_=>False) w') (λx _ a=>by subst a;exact⟨_,_,rfl⟩) λ_ _ h=>h.elim,λx ox a y=>?_⟩
   ·rcases Nat.lt_or_ge j l.length with g|A
    ·rw[Array.getElem?_setIfInBounds_ne (by omega),e j g,List.getElem_append_left g]
    ·obtain rfl:j=l.length:=by simp at d;omega
     rw[Array.getElem?_setIfInBounds_self_of_lt (by omega)];simp
   ·obtain⟨_,_,a⟩:=a;injection a with a;have:=congrArg Addr.block (Option.some.inj a);simp only at this;subst this;rw[D]at y;exact .inr ⟨(Option.some.inj y).symm,by rw[p,r]⟩
  ·have hr:=run_append_grow (P:=V.prog) w 27 t 3 i z T U W ⟨b,0,none⟩ l.length m (eJ l) (by simp[C,eJ]) (λj u d=>by
    rw[Addr.add_lit];simp only[World.cell?,D,Nat.zero_add];have B:j<l.length:=by simpa[eJ]using(List.getElem?_eq_some_iff.1 d).1
    rw[e j B];have:(eJ l)[j]? =some (.int .i64 (l[j]:Nat)):=by simp[eJ,List.getElem?_eq_getElem B]
    rw[this]at d;simpa using d) ⟨E,0,none⟩ 1 c [.int .i64 s] (by simp[C]) (λj v d=>by
    match j,d with
    |0,d=>cases d;rw[eN];exact cd n rfl) (by omega) (by omega) (growslice_fits (by omega) (Nat.le_trans (Nat.mul_le_mul (show l.length+1<=1000000 by omega) Y) (by decide)))
   have A:=grownCap_ge w (l.length+1) m 3;have J:z.cells.size=1:=by rw[X];rfl
   refine⟨_,w.drew.alloc (.cells ((eJ l).toArray++#[Value.int .i64 s]++Builtin.zeroCells z.cells (grownCap w (l.length+1) m 3-(l.length+1))) 3),?_,G (.slice (some ⟨w.heap.size,0,none⟩) (l.length+1) (grownCap w (l.length+1) m 3)) _ (.inr ⟨w.heap.size,grownCap w (l.length+1) m 3,K,by simp,.inr ⟨w.heap.size,grownCap w (l.length+1) m 3,_,by simp,by simpa using A,dD w.drew _,?_,λj d=>?_⟩⟩) (((Ext.drew w).trans (Ext.alloc _ _)).ea _ _ _)⟩
   ·unfold builtin;simp only[Sem.run_bind,hr,Result.andThen_ok,Sem.run_pure]
   ·simp only[Array.size_append,List.size_toArray,size_zeroCells,J,eJ,List.length_append,List.length_map,List.length_cons,List.length_nil,Nat.mul_one];omega
   ·have ab:j<l.length+1:=by simpa using d
    rw[Array.getElem?_append_left (by simp[eJ];omega)];rcases Nat.lt_or_ge j l.length with g|N
    ·simp[eJ,List.getElem?_append_left,g,List.getElem?_eq_getElem g]
    ·obtain rfl:j=l.length:=by omega
     simp[eJ]
def IF(s a:Nat):Bool:=(List.range 5).all λd=>!s.testBit d||a.testBit d
def me(G:Gd)(a s:Nat):Int:=if IF s a then(match eD G s with
 |some b=>(b.length:Int)
 |none=> -1)else-1
def fe(G:Gd)(a k:Nat):List Int:=(List.range 32).map λs=>if s<k then me G a s else 0
def ji(G:Gd)(xs:List Sx)(a k:Nat):List (List (List Nat)):=((cI G.tries xs).take k).map λd=>fH G (xs.getD d pQ) a
def fN(G:Gd)(xs:List Sx)(a:Nat):cU:=⟨cI G.tries xs,(cI G.tries xs).map λd=>fH G (xs.getD d pQ) a,fe G (fy (cI G.tries xs)) (2^xs.length)⟩
theorem vo{L:Nat}{x:Sx}{u:Du}:∀{f:Nat} {l:List Nat} {a:Nat} {l':List Nat},l'∈it L x u f l a->l'.length<=l.length+f/\∀s∈l',s∈l\/s<L
 |0,l,a,l',h=>by cases h
 |f+1,l,a,l',h=>by
  simp only[it]at h;split at h
  ·split at h
   ·rw[List.mem_singleton.1 h];exact⟨by omega,λs c=>.inl c⟩
   ·cases h
  ·obtain⟨i,d,h⟩:=List.mem_flatMap.1 h;have d:=List.mem_range.1 d;split at h
   ·cases h
   ·obtain⟨e,g⟩:=vo h;simp only[List.length_append,List.length_cons,List.length_nil]at e;refine⟨by omega,λs c=>?_⟩;rcases g s c with b|b
    ·rcases List.mem_append.1 b with b|b
     ·exact .inl b
     ·rw[List.mem_singleton.1 b];exact .inr (by omega)
    ·exact .inr b
theorem Co:∀(n:Nat),((List.range n).map λi=>2^(n-1-i)).sum+1=2^n
 |0=>rfl
 |n+1=>by
  have b:=Co n;rw[List.range_succ_eq_map,List.map_cons,List.sum_cons,List.map_map];have e:(List.range n).map ((λi=>2^(n+1-1-i))∘Nat.succ)=(List.range n).map λi=>2^(n-1-i):=by refine List.map_congr_left λi a=>?_;have:=List.mem_range.1 a;simp only[Function.comp];congr 1;omega
  rw[e];have:n+1-1-0=n:=by omega
  rw[this,Nat.pow_succ];omega
theorem Gw{α:Type}{f g:α->Nat}:∀(l:List α),(∀x∈l,f x<=g x)->(l.map f).sum<=(l.map g).sum
 |[],_=>Nat.le_refl _
 |x::r,h=>by simp only[List.map_cons,List.sum_cons];exact Nat.add_le_add (h x List.mem_cons_self) (Gw r λy a=>h y (List.mem_cons_of_mem _ a))
theorem tx{L:Nat}{x:Sx}{u:Du}:∀(f:Nat) (l:List Nat) (a:Nat),(it L x u f l a).length<=2^(L-a)
 |0,l,a=>Nat.zero_le _
 |f+1,l,a=>by
  have c:1<=2^(L-a):=Nat.one_le_two_pow;simp only[it];split
  ·split
   ·exact c
   ·exact Nat.zero_le _
  ·rw[List.length_flatMap]
   have d:((List.range (L-a)).map λi=>(if nw x l (a+i)then([]:List (List Nat))else it L x u f (l++[a+i]) (a+i+1)).length).sum<=((List.range (L-a)).map λi=>2^(L-a-1-i)).sum:=Gw _ λi b=>by
    have b:=List.mem_range.1 b;split
    ·exact Nat.zero_le _
    ·have:=tx (L:=L) (x:=x) (u:=u) f (l++[a+i]) (a+i+1);rwa[show L-(a+i+1)=L-a-1-i by omega]at this
   have:=Co (L-a);omega
theorem tz{G:Gd}(h:G.Ok):ei G<=6:=by have:=h.days;unfold ei;omega
theorem nP{G:Gd}(h:G.Ok)(x:Sx)(a:Nat):(fH G x a).length<=64/\∀l∈fH G x a,l.length<=7/\∀s∈l,s<6:=by
 have g:=tz h;refine⟨?_,λl d=>?_⟩
 ·have:=tx (L:=ei G) (x:=x) (u:=fl G x) (ei G+1) [] a;have b:2^(ei G-a)<=2^6:=Nat.pow_le_pow_right (by omega) (by omega);exact Nat.le_trans this b
 ·obtain⟨e,b⟩:=vo d;simp only[List.length_nil]at e;refine⟨by omega,λs f=>?_⟩;rcases b s f with c|c
  ·cases c
  ·omega
theorem iD{T:Int}{xs:List Sx}{d:Nat}(h:d∈cI T xs):d<xs.length:=by obtain⟨a,_⟩:=List.mem_filter.1 h;exact List.mem_range.1 a
theorem zp(T:Int)(xs:List Sx):(cI T xs).Nodup:=(List.nodup_range).filter _
theorem nQ(T:Int)(xs:List Sx):(cI T xs).length<=xs.length:=tj T xs xs.length
theorem nx{G:Gd}{most:Nat}:∀{a c b:List Nat},dX G most a c=some b->b.length<=c.length+a.length
 |[],c,b,h=>by simp only[dX,Option.some.injEq]at h;subst h;simp
 |d::r,c,b,h=>by
  simp only[dX]at h;split at h
  ·rename_i o f;obtain rfl:=Option.some.inj h;obtain⟨i,g,e⟩:=List.exists_of_findSome?_eq_some f;split at e
   ·have:=nx e;simp only[List.length_set,List.length_cons]at this⊢;omega
   ·cases e
  ·split at h
   ·have:=nx h;simp only[List.length_append,List.length_cons,List.length_nil]at this⊢;omega
   ·cases h
theorem mg{G:Gd}{s:Nat}{a:List (List Nat)}(h:eD G s=some a):a.length<=5:=by
 unfold eD at h;split at h
 ·obtain rfl:=Option.some.inj h;simp
 ·obtain⟨d,b,rfl⟩:=Option.map_eq_some_iff.1 h;obtain⟨m,_,c⟩:=List.exists_of_findSome?_eq_some b;have:=nx c;have:=vn s;simp only[List.length_nil,List.length_map]at*;omega
theorem DD(G:Gd)(a s:Nat): -1<=me G a s/\me G a s<=5:=by
 unfold me;split
 ·split
  ·rename_i b h;have:=mg h;omega
  ·omega
 ·omega
theorem wO(G:Gd)(a k s:Nat)(b:s<32):(fe G a k).getD s 0=if s<k then me G a s else 0:=by unfold fe;rw[List.getD_eq_getElem?_getD,List.getElem?_map,List.getElem?_range b];rfl
theorem pH(G:Gd)(a k:Nat):(fe G a k).length=32:=by simp[fe]
theorem zq{G:Gd}{xs:List Sx}(h:G.Ok)(e:xs.length=G.doors.length)(a:Nat):(fN G xs a).Ok:=by
 have m:=h.many;have f:=nQ G.tries xs;refine⟨by simp[fN],by simp only[fN];omega,zp _ _,λd i=>by have:=iD i;omega,λg b=>?_,λg b l e=>?_,λg b l e s j=>?_,pH _ _ _,λc k=>?_,?_⟩
 ·obtain⟨d,_,rfl⟩:=List.mem_map.1 b;have:=(nP h (xs.getD d pQ) a).1;omega
 ·obtain⟨d,_,rfl⟩:=List.mem_map.1 b;have:=((nP h (xs.getD d pQ) a).2 l e).1;omega
 ·obtain⟨d,_,rfl⟩:=List.mem_map.1 b;exact((nP h (xs.getD d pQ) a).2 l e).2 s j
 ·obtain⟨s,_,rfl⟩:=List.mem_map.1 k;split
  ·exact DD _ _ _
  ·omega
 ·show(fe G _ _).getD 0 0=0;rw[wO _ _ _ _ (by omega),if_pos (Nat.two_pow_pos _)];rfl
end Go.Proofs.W
