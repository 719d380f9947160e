/- Laws that the proof needs, part 20. Conditions: none. -/
import Derived.Test.YteeagjkaflglpaaGreatX19
set_option maxRecDepth 100000
set_option maxHeartbeats 8000000
set_option linter.all false
namespace Go.Proofs.W
open Go.RowKit
def gP(A:Nat->Prop)(n0:Nat)(w:World)(v:Value)(a:List (List Nat)):Prop:=∃c:List Value,cC n0 27 [.slice none 0 0] w v a.length c/\c.length=a.length/\∀k (h:k<a.length),∃u,c[k]? =some u/\dN n0 w u a[k]/\∀b,ce u b->¬A b
theorem gP.own{A:Nat->Prop}{n0:Nat}{w:World}{v:Value}{a:List (List Nat)}(h:gP A n0 w v a):gd n0 w v a:=by obtain⟨b,c,d,e⟩:=h;exact⟨b,c,d,λk f=>by obtain⟨u,g,i,_⟩:=e k f;exact⟨u,g,i⟩⟩
theorem gP.keep{A:Nat->Prop}{n0:Nat}{w w':World}{v:Value}{a:List (List Nat)}{F:Nat->Prop}(h:gP A n0 w v a)(k:cr F w w')(f:∀b,ce v b->¬F b)(g:∀u l b,dN n0 w u l->ce u b->¬A b->¬F b):gP A n0 w' v a:=by obtain⟨j,m,n,o⟩:=h;refine⟨j,m.keep k f,n,λi p=>?_⟩;obtain⟨u,q,c,d⟩:=o i p;exact⟨u,q,cC.keep c k λb e=>g u _ b c e (d b e),d⟩
theorem gP.ext{A:Nat->Prop}{n0:Nat}{w w':World}{v:Value}{a:List (List Nat)}(h:gP A n0 w v a)(e:Ext w w'):gP A n0 w' v a:=h.keep (e.keep λ_=>False) (λ_ _ h=>h) λ_ _ _ _ _ _ h=>h
theorem gP.more{A A':Nat->Prop}{n0:Nat}{w:World}{v:Value}{a:List (List Nat)}(h:gP A n0 w v a)(e:∀b,A' b->A b\/w.heap.size<=b):gP A' n0 w v a:=by
 obtain⟨f,g,j,k⟩:=h;refine⟨f,g,j,λi l=>?_⟩;obtain⟨u,m,c,n⟩:=k i l;refine⟨u,m,c,λb d o=>?_⟩;rcases e b o with h|h
 ·exact n b d h
 ·have:=(cC.blk c d).2;omega
theorem GL.c3{w:World}{v:Value}{l:List Nat}(h:GL w v l){b:Nat}(a:ce v b):∃cs,w.heap[b]? =some (.cells cs 3):=by
 obtain⟨_,_,a⟩:=a;rcases h with⟨_,rfl⟩|⟨e,c,cs,rfl,f,d,_⟩
 ·cases a
 ·injection a with a;have:=congrArg Addr.block (Option.some.inj a);simp only at this;subst this;exact⟨cs,d⟩
theorem cC.c_{n0:Nat}{t:TypeId}{zs e:List Value}{w:World}{v:Value}{d:Nat}(h:cC n0 t zs w v d e){b:Nat}(a:ce v b):∃cs,w.heap[b]? =some (.cells cs t):=by
 obtain⟨_,_,a⟩:=a;obtain⟨_,⟨_,rfl⟩|⟨g,c,cs,_,rfl,f,_⟩⟩:=h
 ·cases a
 ·injection a with a;have:=congrArg Addr.block (Option.some.inj a);simp only at this;subst this;exact⟨cs,f⟩
theorem gP.Mn{A:Nat->Prop}{n0:Nat}{w:World}{v:Value}{a:List (List Nat)}(h:gP A n0 w v a){b:Nat}(c:ce v b):∃cs,w.heap[b]? =some (.cells cs 27):=by obtain⟨e,d,_⟩:=h;exact d.c_ c
theorem dW{w:World}{b:Nat}{cs c:Array Value}{t d:TypeId}(h:w.heap[b]? =some (.cells cs t))(a:w.heap[b]? =some (.cells c d))(e:t≠d):False:=by rw[h]at a;injection a with a;injection a with _ a;exact e a
theorem jj{b a l c l' c':Nat}(h:ce (.slice (some ⟨b,0,none⟩) l c) a):a=b:=by obtain⟨_,_,h⟩:=h;injection h with h;exact(congrArg Addr.block (Option.some.inj h)).symm
structure LS(n0 m db ob wb xb gb:Nat):Prop where
 lo:n0<=ob/\n0<=m
 d:db<m/\db≠ob
 o:ob<m
 w:wb<m/\wb≠ob
 x:xb<m/\xb≠ob
 g:gb<m/\gb≠ob
def Cp(a ob b c d:Nat):Value:=.func (.func 165) #[] #[cu a,cu ob,cu b,cu c,cu d]
structure LC(w0:World)(wp d:Nat)(u:Du)(db ob wb xb gb:Nat)(w:World):Prop where
 e:Ext w0 w
 b1:w.heap[db]? =some (.cells (zZ d u).toArray 101)
 b3:w.heap[wb]? =some (.cells #[cu wp] 133)
 b4:w.heap[xb]? =some (.cells #[.int .i64 d] 3)
 b5:w.heap[gb]? =some (.cells #[Cp db ob wb xb gb] 209)
theorem LC.keep{w0:World}{p d m:Nat}{u:Du}{c ob f i j:Nat}{w w':World}(h:LC w0 p d u c ob f i j w)(S:LS w0.heap.size m c ob f i j){F:Nat->Prop}(k:cr F w w')(q:∀b,b<w.heap.size->F b->b=ob\/m<=b):LC w0 p d u c ob f i j w':=by
 have a:∀{b:Nat} {o:Obj},w.heap[b]? =some o->b<m->b≠ob->¬F b:=λl t r n=>by
  rcases q _ (ck.lt_of_heap l) n with h|h
  ·exact r h
  ·omega
 have s:=h.e.size;refine⟨⟨k.os.trans h.e.os,k.tape.trans h.e.tape,k.output.trans h.e.output,Nat.le_trans h.e.size k.size,Nat.le_trans h.e.drawn k.drawn,λb l=>(k.block b (by omega) λn=>?_).trans (h.e.block b l)⟩,k.ef h.b1 (a h.b1 S.d.1 S.d.2),k.ef h.b3 (a h.b3 S.w.1 S.w.2),k.ef h.b4 (a h.b4 S.x.1 S.x.2),k.ef h.b5 (a h.b5 S.g.1 S.g.2)⟩;have:=S.lo;rcases q _ (by omega) n with h|h<;>omega
def LH(n0:Nat)(lv:Value)(o':Obj)(l:List Nat)(v:Value)(w:World):Prop:=
 (∃b c k,lv=.slice (some ⟨b,0,none⟩) k c/\v=.slice (some ⟨b,0,none⟩) l.length c/\w.heap[b]? =some o'/\GL w v l)\/(∃b c,n0<=b/\v=.slice (some ⟨b,0,none⟩) l.length c/\GL w v l)
theorem LH.ea{n0:Nat}{lv:Value}{o o':Obj}{l:List Nat}{v:Value}{a b:World}(h:LH n0 lv o' l v a)(e:EA lv o o' a b)(m:∀x,ce lv x->x<n0):LH n0 lv o' l v b:=by
 rcases h with⟨x,c,k,rfl,rfl,f,p⟩|⟨x,c,q,rfl,f⟩
 ·have i:b.heap[x]? =some o':=by
   rcases e.n x _ ⟨_,_,rfl⟩ f with h|h
   ·exact h
   ·exact h.2
  refine .inl ⟨x,c,k,rfl,rfl,i,?_⟩;rcases p with⟨d,g⟩|⟨r,c',s,d,g,j,t,u⟩
  ·cases g
  ·refine .inr ⟨r,c',s,d,g,?_,t,u⟩;injection d with d;have:=congrArg Addr.block (Option.some.inj d);simp only at this;subst this;rw[f]at j;rw[i];exact j
 ·exact .inr ⟨x,c,q,rfl,f.keep e.k λy w z=>by have:=m y z;have:=jj (l':=0) (c':=0) w;omega⟩
theorem GL.ea{lv:Value}{o o':Obj}{l:List Nat}{s:Nat}{a b:World}(h:GL a lv l)(e:EA lv o o' a b)(d:∀x cs,ce lv x->o=.cells cs 3->o'=.cells (cs.setIfInBounds l.length (.int .i64 s)) 3):GL b lv l:=by
 rcases h with h|⟨x,c,cs,rfl,f,m,i,j⟩
 ·exact .inl h
 ·rcases e.n x _ ⟨_,_,rfl⟩ m with h|⟨h,g⟩
  ·exact .inr ⟨x,c,cs,rfl,f,h,i,j⟩
  ·rw[d x cs ⟨_,_,rfl⟩ h.symm]at g;refine .inr ⟨x,c,_,rfl,f,g,by simpa using i,λk p=>?_⟩;rw[Array.getElem?_setIfInBounds_ne (by omega)];exact j k p
theorem Gx{w:World}{k:Value->World->Prop}{t:TypeId}{N:Array Bool}{lv:Value}{l:List Nat}{o o':Obj}{s n0:Nat}(y:GL w lv l)(a:∀b,ce lv b->w.heap[b]? =some o\/w.heap[b]? =some o')(F:n0<=w.heap.size)(i:l.length<=1000){L c:Nat}(r:w.heap[L]? =some (.cells [Value.int .i64 s].toArray 3))(m:∀b cs,ce lv b->o=.cells cs 3->o'=.cells (cs.setIfInBounds l.length (.int .i64 s)) 3) (C:∀b,ce lv b->∃cs,o=.cells cs 3) (G:∀v w',LH n0 lv o' (l++[s]) v w'->EA lv o o' w w'->k v w'):un V.prog (builtin .append #[27,27] t N #[lv,.slice (some ⟨L,0,none⟩) 1 c]) w k:=by
 have conv:∀v w',GM n0 lv o' (l++[s]) v w'->GL w lv l->LH n0 lv o' (l++[s]) v w':=λv w' h g=>by
  rcases h with⟨b,c,f,rfl,z,A⟩|h
  ·rcases g with⟨_,rfl⟩|⟨H,c',cs,rfl,U,M,W,X⟩
   ·obtain⟨_,_,f⟩:=f;cases f
   ·have:=jj (l':=0) (c':=0) f;subst this;have O:c=c':=by
     rcases A with⟨A,_⟩|⟨Y,Z,I,e,q2,u,q4,q5⟩
     ·simp at A
     ·injection e with P e2 Q;have:=congrArg Addr.block (Option.some.inj P);simp only at this;subst this;subst Q;rw[z]at u;obtain⟨j,d⟩:=C b ⟨_,_,rfl⟩;have E:=m b j ⟨_,_,rfl⟩ d;have u:=Option.some.inj u;rw[E]at u;injection u with u;have R:I.size=j.size:=by rw[<-u];simp
      rcases a b ⟨_,_,rfl⟩with a|a
      ·rw[M,d]at a;have a:=Option.some.inj a;injection a with a;subst a;omega
      ·rw[M,E]at a;have a:=Option.some.inj a;injection a with a;have:cs.size=j.size:=by rw[a];simp
       omega
    subst O;exact .inl ⟨b,c,l.length,rfl,rfl,z,A⟩
  ·exact .inr h
 by_cases f:∃b,ce lv b
 ·obtain⟨b,f⟩:=f;obtain⟨j,d⟩:=C b f;rcases a b f with h|h
  ·refine rS (w0:=w) y (λH p=>?_) F i r o' m λv w' D B=>G v w' (conv v w' D y) B;obtain⟨_,_,e⟩:=f;obtain⟨_,_,q⟩:=p;rw[e]at q;injection q with q;have:=congrArg Addr.block (Option.some.inj q);simp only at this;subst this;exact h
  ·have E:=m b j f d;refine rS (o:=o') (w0:=w) y (λH p=>?_) F i r o' (λH cs p e=>?_) λv w' D B=>G v w' (conv v w' D y) ⟨B.k,λx S T J=>?_⟩
   ·obtain⟨_,_,e⟩:=f;obtain⟨_,_,q⟩:=p;rw[e]at q;injection q with q;have:=congrArg Addr.block (Option.some.inj q);simp only at this;subst this;exact h
   ·rw[E]at e⊢;injection e with e;subst e;simp
   ·rcases B.n x S T J with z|⟨z,A⟩
    ·exact .inl z
    ·exact .inl (by rw[A,z])
 ·have K:∀b,¬ce lv b:=λb h=>f ⟨b,h⟩;exact rS (o:=o) (w0:=w) y (λb h=>absurd h (K b)) F i r o' m λv w' D B=>G v w' (conv v w' D y) B
theorem Bc(L:Nat)(x:Sx)(u:Du)(f:Nat)(l:List Nat)(a:Nat)(h:¬(l.length:Int)=u.tries):it L x u (f+1) l a=kA L x u f l a (L-a):=by simp only[it,if_neg h,kA]
theorem zr{l:List Nat}(h:0<l.length):l.getLast?.getD 0=l[l.length-1]:=by rw[List.getLast?_eq_getElem?,List.getElem?_eq_getElem (by omega)];rfl
theorem GL.v{w:World}{v:Value}{l:List Nat}(h:GL w v l)(a:0<l.length):∃b c cs,v=.slice (some ⟨b,0,none⟩) l.length c/\l.length<=c/\w.heap[b]? =some (.cells cs 3)/\cs.size=c/\∀k (h:k<l.length),cs[k]? =some (.int .i64 l[k]):=by
 rcases h with⟨rfl,_⟩|h
 ·simp at a
 ·exact h
theorem zt{v:Value}{b a:Nat}(h:ce v b)(c:ce v a):a=b:=by obtain⟨_,_,rfl⟩:=h;exact jj (l':=0) (c':=0) c
theorem Gy(L:Nat)(x:Sx)(u:Du)(f:Nat)(l:List Nat)(a:Nat){k n:Nat}(h:k<=n):(kA L x u f l a k).length<=(kA L x u f l a n).length:=by
 induction n with
 |zero=>obtain rfl:k=0:=by omega
        exact Nat.le_refl _
 |succ n b=>
  rcases Nat.lt_or_ge k (n+1)with c|d
  ·rw[mc,List.length_append];have:=b (by omega);omega
  ·obtain rfl:k=n+1:=by omega
   exact Nat.le_refl _
def Gz(A:Nat->Prop)(m ob:Nat)(lv d:Value)(l:List Nat)(c:List (List Nat))(w w':World):Prop:=
 cr (λb=>b=ob\/ce d b\/ce lv b) w w'/\GL w' lv l/\∃a,w'.heap[ob]? =some (.cells #[a] 66)/\(∀b,ce a b->ce d b\/w.heap.size<=b)/\gP A m w' a c
theorem tA{wp gp mk ms m d db ob wb xb gb:Nat}{G:Gd}{xs:List Sx}{ar:Int}{w0:World}(hW:io wp gp mk ms G xs ar w0)(hd:d<xs.length)(S:LS w0.heap.size m db ob wb xb gb):∀(f:Nat) (l:List Nat) (j:Nat) (lv M:Value) (X:List (List Nat)) (A:Nat->Prop) (w:World),ei G+1<=j+f->l.length<=j->j<=ei G->(∀s∈l,s<6)->LC w0 wp d (fl G xs[d]) db ob wb xb gb w->GL w lv l->(∀b,ce lv b->m<=b/\A b)->(∀b,A b->b<w.heap.size)->m<=w.heap.size->w.heap[ob]? =some (.cells #[M] 66)->gP A m w M X->(∀b,ce M b->m<=b)->X.length+(it (ei G) xs[d] (fl G xs[d]) f l j).length<=100000->
  Calls V.prog 165 #[lv,.int .i64 j,cu db,cu ob,cu wb,cu xb,cu gb] w (eG λv w'=>Gz A m ob lv M l (X++it (ei G) xs[d] (fl G xs[d]) f l j) w w')
 |0,l,j,lv,M,X,A,w,E,aY,aZ,_,_,_,_,_,_,_,_,_,_=>by omega
 |f+1,l,j,lv,M,X,A,w,E,aY,aZ,aH,hC,hL,aa,hA,aB,ah,ho,aI,O=>by
  have aJ:=hW.g.pw;have a0:=aJ.days;have bm:=tz aJ;have a1:(ei G:Int)=2*G.days:=by unfold ei;omega
  have bn:l.length<=6:=by omega
  obtain⟨B,C,rfl,ai,a3⟩:=hL.row
  have ae:∀b,(ce M b\/ce (.slice B l.length C) b)->b≠ob:=λb q e=>by
   subst e;have:=S.o;rcases q with q|q
   ·have:=aI _ q;omega
   ·have:=(aa _ q).1;omega
  refine go V.func165 Tryz.ntmps165 ?_;refine cA (cg (cd hC.b1 rfl) (gK ⟨λh=>?_,λh=>?_⟩))
  ·have h:(l.length:Int)=(fl G xs[d]).tries:=of_decide_eq_true h;have hg:it (ei G) xs[d] (fl G xs[d]) (f+1) l j=if qs (fl G xs[d]) l then [l]else []:=by simp only[it,if_pos h]
   rw[hg]at O⊢;have same:∀w',Ext w w'->qs (fl G xs[d]) l=false->Gz A m ob (.slice B l.length C) M l (X++(if qs (fl G xs[d]) l then [l]else [])) w w':=λw' e E=>by rw[E,if_neg (by simp),List.append_nil];exact⟨e.keep _,hL.keep (e.keep λ_=>False) λ_ _ h=>h,M,e.at_ ah,λb q=>.inl q,ho.ext e⟩
   refine cL (lA (p:=λs=>decide (s%2=0)) ⟨167,#[],#[],rfl,by intro _ _;kernel_rfl,λn w=>y9 n w⟩ l B C w ai (by omega)) ?_;refine cL (lA (p:=λs=>decide (s%2=1)) ⟨168,#[],#[],rfl,by intro _ _;kernel_rfl,λn w=>za n w⟩ l B C w ai (by omega)) ?_
   have take:∀{Q:QW} {l0:L},Sub [(0,.slice B l.length C),(3,cu ob)] l0->qs (fl G xs[d]) l=true->(∀l' w',Gz A m ob (.slice B l.length C) M l (X++(if qs (fl G xs[d]) l then [l]else [])) w w'->Q .normal l' w')->iz V.prog 86 (eg Tryz.f165 4) l0 w Q:=λ{Q l0} hs aK hq=>by
    rw[if_pos aK]at hq O;refine iz.oV hs ?_;clear hs;have aL:∀{b:Nat},ce M b->¬ce (.slice B l.length C) b:=λq P=>by obtain⟨Y,g1⟩:=ho.Mn q;obtain⟨aj,g2⟩:=hL.c3 P;exact dW g1 g2 (by decide)
    have ax:¬ce M ob:=λq=>ae ob (.inl q) rfl;have ad:∀b,ce M b->b<w.heap.size:=λb q=>by obtain⟨Y,g1⟩:=ho.Mn q;exact ck.lt_of_heap g1
    refine fa 4 cB (fg (ce M)) (λa b h=>h.keep _) ?_;refine .exact M (λR e1=>cg (cd (e1.ef ah ax) rfl) ⟨rfl,Ext.refl _⟩) ?_;refine .rel (λu R=>dN w.heap.size R u l) (λu a b Z e=>cC.keep Z e λx T aC=>by have:=(cC.blk Z T).1;have:=ad x aC;omega) (λR e1=>?_) ?_
    ·have a4:dV R B l:=λk hk=>by
      obtain⟨b,o,rfl,hc⟩:=ai k hk;obtain⟨b2,c2,aM,D,_,_,_,_⟩:=hL.v (by omega);injection D with D;obtain⟨rfl,rfl⟩:b=b2/\o=0:=by injection D with D;injection D with N e4;exact⟨N,e4⟩
      exact⟨_,_,rfl,e1.dn hc λE=>aL E ⟨_,_,rfl⟩⟩
     exact cf (iC a4 (by omega)) λu r ⟨D,Z⟩=>⟨Z.low e1.size,D⟩
    refine .rel (λx R=>∃F u,x=.slice (some ⟨F,0,none⟩) 1 1/\w.heap.size<=F/\R.heap[F]? =some (.cells [u].toArray 27)/\dN w.heap.size R u l) (λx a b ⟨F,u,J,z,K,h4⟩ e=>⟨F,u,J,z,e.ef K (λE=>by have:=ad F E;omega),cC.keep h4 e λx T aC=>by have:=(cC.blk h4 T).1;have:=ad x aC;omega⟩) (λR e1 u Z=>?_) ?_
    ·refine dB [u] 27 (λr F D ak q=>⟨⟨F,u,rfl,Nat.le_trans e1.size ak,q,cC.ext Z D⟩,D⟩) ?_;obtain⟨a2,c2,rfl,_⟩:=dN.row Z;intro w;kernel_rfl
    refine .spec (λv R=>gP A m R v (X++[l])/\∀b,ce v b->ce M b\/w.heap.size<=b) (λv a b ⟨J,z⟩ e=>⟨J.ext e,z⟩) (λR e1 aN a5 a6 bo=>?_) ?_
    ·obtain⟨F,u,rfl,ak,al,Z⟩:∃F u,aN=.slice (some ⟨F,0,none⟩) 1 1/\w.heap.size<=F/\R.heap[F]? =some (.cells [u].toArray 27)/\dN w.heap.size R u l:=a5;obtain⟨us,hr,aO,a7⟩:=ho.ext e1;have aP:u.oneCell'=true:=by obtain⟨a,c,rfl,_⟩:=dN.row Z;rfl
     refine gC Ll hr (Nat.le_trans aB e1.size) al (by simp only[List.length_cons,List.length_nil]at O;omega) (λv' r g1 g2 g3=>⟨⟨⟨us++[u],by simpa using g1,by simp[aO],λi hi=>?_⟩,λb q=>(g3 b q).imp id λh=>Nat.le_trans e1.size h⟩,g2⟩) rfl (by simp[oF,aP]);rcases Nat.lt_or_ge i X.length with ab|aQ
     ·obtain⟨x,x1,x2,x3⟩:=a7 i ab;refine⟨x,by rw[List.getElem?_append_left (by omega)];exact x1,?_,x3⟩;rw[List.getElem_append_left ab];exact cC.keep x2 g2 (jp x2 hr (by decide))
     ·obtain rfl:i=X.length:=by simp at hi;omega
      refine⟨u,by rw[List.getElem?_append_right (by omega)];simp[aO],?_,λb q ha=>?_⟩
      ·simp only[List.getElem_append_right (Nat.le_refl _),Nat.sub_self,List.getElem_cons_zero];exact cC.keep (dN.low Z aB) g2 (jp Z hr (by decide))
      ·have:=(cC.blk Z q).1;have:=hA b ha;omega
    rintro R e1 bp ⟨aR,ay⟩ aN _ a6 _;obtain⟨a9,c9,rfl,_,_⟩:=aR.own.row;refine cK (e1.ef ah ax) λr k2 a8=>hq _ _ ⟨e1.trans k2 (λx _ T=>.inr (.inl T)) (λx _ T=>.inl T),(hL.keep e1 λb q P=>aL P q).keep k2 λb q e=>ae b (.inr q) e,_,a8,ay,aR.keep k2 (λb q e=>?_) λu x b Z q _ e=>?_⟩
    ·rcases ay b q with h|h
     ·exact ae b (.inl h) e
     ·have:=ck.lt_of_heap ah;omega
    ·have:=(cC.blk Z q).1;have:=S.o;omega
   refine⟨λJ=>?_,λJ=>?_⟩
   ·refine je rfl ⟨λz=>?_,λz=>?_⟩
    ·exact je rfl (take ⟨rfl,rfl,trivial⟩ (by unfold qs;rw[J,z];rfl) λl' w' h=>⟨_,rfl,h⟩)
    ·refine cg (cd hC.b1 rfl) (ek ⟨λK=>?_,λK=>?_⟩)
     ·exact take ⟨rfl,rfl,trivial⟩ (by unfold qs;rw[J,z,K];rfl) λl' w' h=>⟨_,rfl,h⟩
     ·exact⟨_,rfl,same _ (Ext.refl _) (by unfold qs;rw[z,Bool.false_or,K,Bool.and_false])⟩
   ·refine cg (cd hC.b1 rfl) (ek ⟨λK=>?_,λK=>?_⟩)
    ·refine⟨λz=>?_,λz=>?_⟩
     ·exact je rfl (take ⟨rfl,rfl,trivial⟩ (by unfold qs;rw[J,z,K];rfl) λl' w' h=>⟨_,rfl,h⟩)
     ·refine cg (cd hC.b1 rfl) (ek ⟨λh4=>?_,λh4=>?_⟩)
      ·exact take ⟨rfl,rfl,trivial⟩ (by unfold qs;rw[J,z,K,h4];rfl) λl' w' h=>⟨_,rfl,h⟩
      ·exact⟨_,rfl,same _ (Ext.refl _) (by unfold qs;rw[z,Bool.false_or,h4,Bool.and_false])⟩
    ·exact nh rfl ⟨_,rfl,same _ (Ext.refl _) (by unfold qs;rw[J,Bool.false_or,K,Bool.false_and])⟩
  ·have h:¬(l.length:Int)=(fl G xs[d]).tries:=of_decide_eq_false h;rw[Bc _ _ _ _ _ _ h]at O⊢
   refine gq (ei G-j) (λk (_:Value)=>[(0,.slice B l.length C),(1,.int .i64 j),(2,cu db),(3,cu ob),(4,cu wb),(5,cu xb),(6,cu gb),(11,.int .i64 (j+k:Nat))])
    (λk aD w'=>LC w0 wp d (fl G xs[d]) db ob wb xb gb w'/\GL w' (.slice B l.length C) l/\cr (λb=>b=ob\/ce M b\/ce (.slice B l.length C) b) w w'/\w'.heap[ob]? =some (.cells #[aD] 66)/\(∀b,ce aD b->ce M b\/w.heap.size<=b)/\gP A m w' aD (X++kA (ei G) xs[d] (fl G xs[d]) f l j k)) M ⟨⟨rfl,rfl,rfl,rfl,rfl,rfl,rfl,rfl,trivial⟩,hC,hL,cr.refl _ _,ah,λb q=>.inl q,by simpa[kA]using ho⟩ ?_
   rintro k H R hk ⟨af,au,k1,am,U,aE⟩;have aS:=hW.ext af.e;obtain⟨sa,sc,g1,g2,g3,g4⟩:=aS.at_;refine cg (cd af.b3 rfl) (cg g1 (cL (last_at aS.g) (u9 ⟨λan=>?_,λan=>?_⟩)))
   ·have ab:k<ei G-j:=by
     have:=of_decide_eq_true an;omega
    obtain⟨b,o,rfl,hc⟩:=g4 d hd;have ba:j+k<6:=by omega
    have bb:(j+k)/2<3:=by omega
    have aT:R.cell? ⟨b,o+d*8+4+(j+k)/2,none⟩=some (.bool (uu xs[d] ((j+k)/2))):=by
     have:(iX xs[d])[4+(j+k)/2]? =some (.bool (uu xs[d] ((j+k)/2))):=by
      obtain h0|h0|h0:(j+k)/2=0\/(j+k)/2=1\/(j+k)/2=2:=by omega
      all_goals rw[h0];rfl
     have:=hc _ _ this;rwa[<-Nat.add_assoc]at this
    have skip:∀r,Ext R r->nw xs[d] l (j+k)=true->LC w0 wp d (fl G xs[d]) db ob wb xb gb r/\GL r (.slice B l.length C) l/\cr (λb=>b=ob\/ce M b\/ce (.slice B l.length C) b) w r/\r.heap[ob]? =some (.cells #[H] 66)/\(∀b,ce H b->ce M b\/w.heap.size<=b)/\gP A m r H (X++kA (ei G) xs[d] (fl G xs[d]) f l j (k+1)):=λr D hs=>by refine⟨af.keep S (D.keep λ_=>False) λ_ _ h=>h.elim,au.keep (D.keep λ_=>False) λ_ _ h=>h,k1.trans (D.keep λ_=>False) (λ_ _ h=>h) λ_ _ h=>h.elim,D.at_ am,U,?_⟩;rw[mc,if_pos hs,List.append_nil];exact aE.ext D
    refine cF cB (cn (cd af.b3 rfl) (cn g2 (cn (cd af.b4 rfl) (dx (.int .i64 ((j+k)/2:Nat)) (λr _=>qj (n:=2) (by omega) (by omega) ⟨rfl,Ext.refl _⟩) (iU d 8 hd (dx (.pointer (some ⟨b,o+d*8+4+(j+k)/2,none⟩)) (λr _=>rP 3 bb ⟨rfl,Ext.refl _⟩) (cn aT ⟨λJ=>?_,λJ=>?_⟩)))))))
    ·exactλr D=>je rfl (cq ⟨ab,H,⟨rfl,rfl,rfl,rfl,rfl,rfl,rfl,rfl,trivial⟩,skip r D (by simp[nw,J])⟩)
    have aU:∀{Q:QW} {l0:L} {r:World},Sub [(0,.slice B l.length C),(1,.int .i64 j),(2,cu db),(3,cu ob),(4,cu wb),(5,cu xb),(6,cu gb),(11,.int .i64 (j+k:Nat))] l0->Ext R r->nw xs[d] l (j+k)=false->(∀ao I ac w',(∃y,LC w0 wp d (fl G xs[d]) db ob wb xb gb w'/\GL w' (.slice B l.length C) l/\cr (λb=>b=ob\/ce M b\/ce (.slice B l.length C) b) w w'/\w'.heap[ob]? =some (.cells #[y] 66)/\(∀b,ce y b->ce M b\/w.heap.size<=b)/\gP A m w' y (X++kA (ei G) xs[d] (fl G xs[d]) f l j (k+1)))->Q .normal ((85,ao)::(82,I)::(81,ac)::(84,.int .i64 ((j+k:Nat)+1))::(83,.int .i64 (j+k:Nat))::(80,.int .i64 (j+k:Nat))::(79,.slice B l.length C)::(78,Cp db ob wb xb gb)::[(0,.slice B l.length C),(1,.int .i64 j),(2,cu db),(3,cu ob),(4,cu wb),(5,cu xb),(6,cu gb),(11,.int .i64 (j+k:Nat))]) w')->iz V.prog 86 (eg Tryz.f165 9) l0 r Q:=λ{Q l0 r} hs D aV hq=>by
     refine iz.oV hs ?_;clear hs skip;have aF:=af.keep S (D.keep λ_=>False) λ_ _ h=>h.elim;have ag:GL r (.slice B l.length C) l:=au.keep (D.keep λ_=>False) λ_ _ h=>h;have k2:=k1.trans (D.keep λ_=>False) (λ_ _ h=>h) λ_ _ h=>h.elim;have aW:=D.at_ am;have av:=aE.ext D;have s2:w.heap.size<=r.heap.size:=k2.size;have az:∀b,ce H b->m<=b:=λb q=>(U b q).elim (aI b) λh=>Nat.le_trans aB h;have ap:∀b,ce (.slice B l.length C) b->b<r.heap.size:=λb q=>ag.blk q;have ad:∀b,ce H b->b<r.heap.size:=λb q=>by obtain⟨Y,h⟩:=av.Mn q;exact ck.lt_of_heap h
     obtain⟨o1,bc,bd⟩:∃o1:Obj,(∀b,ce (.slice B l.length C) b->r.heap[b]? =some o1)/\∀b,ce (.slice B l.length C) b->∃Y,o1=.cells Y 3:=by
      by_cases T:∃b,ce (.slice B l.length C) b
      ·obtain⟨b,q⟩:=T;obtain⟨Y,be⟩:=ag.c3 q;exact⟨.cells Y 3,λb' P=>by rw[zt q P];exact be,λ_ _=>⟨Y,rfl⟩⟩
      ·exact⟨.cells #[] 3,λb q=>absurd ⟨b,q⟩ T,λb q=>absurd ⟨b,q⟩ T⟩
     obtain⟨o2,aw⟩:∃o2:Obj,∀b Y,ce (.slice B l.length C) b->o1=.cells Y 3->o2=.cells (Y.setIfInBounds l.length (.int .i64 (j+k:Nat))) 3:=by
      cases o1 with
      |cells Y t fz=>exact⟨.cells (Y.setIfInBounds l.length (.int .i64 (j+k:Nat))) 3,λb aj _ e=>by injection e with e;rw[e]⟩
      |_=>exact⟨.cells #[] 3,λb aj _ e=>by cases e⟩
     have f9:∀{b},(b=ob\/ce H b\/ce (.slice B l.length C) b\/r.heap.size<=b)->b=ob\/m<=b:=λ{b} h=>by
      rcases h with h|h|h|h
      ·exact .inl h
      ·exact .inr (az _ h)
      ·exact .inr (aa _ h).1
      ·exact .inr (by omega)
     refine fa 7 (LG (.slice B l.length C) o1 o2) (fg (λb=>b=ob\/ce H b\/ce (.slice B l.length C) b\/r.heap.size<=b)) (λa b h=>h.k.trans (cr.refl (λ_=>False) b) (λx _ T=>.inr (.inr (.inl T))) λ_ _ h=>h.elim) ?_;refine .exact (Cp db ob wb xb gb) (λW N=>cg (cd (N.ef aF.b5 λE=>by have:=S.g;rcases f9 E with h|h<;>omega) rfl) ⟨rfl,(LG _ _ _).refl _⟩) ?_;refine .Db (λv W=>∃F,v=.slice (some ⟨F,0,none⟩) 1 1/\r.heap.size<=F/\W.heap[F]? =some (.cells [Value.int .i64 (j+k:Nat)].toArray 3)) (λv a b ⟨F,J,z,K⟩ e=>⟨F,J,z,e.k.ef K λE=>by have:=ap F E;omega⟩) (λW N=>dB [.int .i64 (j+k:Nat)] 3 λw4 F e4 ak q=>⟨⟨F,rfl,Nat.le_trans N.size ak,q⟩,e4.ea _ _ _⟩) ?_;refine .early rfl (LH r.heap.size (.slice B l.length C) o2 (l++[j+k])) (λv a b h e=>h.ea e ap) (λW N ac bf=>?_) ?_
     ·obtain⟨F,rfl,ak,al⟩:∃F,ac=.slice (some ⟨F,0,none⟩) 1 1/\r.heap.size<=F/\W.heap[F]? =some (.cells [Value.int .i64 (j+k:Nat)].toArray 3):=bf;exact Gx (ag.ea N aw) (λb q=>(N.n b o1 q (bc b q)).imp id (·.2)) N.k.size (by omega) al aw bd λv w4 J z=>⟨J,z⟩
     refine .exact (.int .i64 ((j+k:Nat)+1)) (λW _=>cq (m:=(j+k:Nat)) (n:=1) ⟨rfl,(LG _ _ _).refl _⟩) ?_
     refine .spec (λv W=>GL W (.slice B l.length C) l/\∃y,W.heap[ob]? =some (.cells #[y] 66)/\(∀b,ce y b->ce H b\/r.heap.size<=b)/\gP A m W y ((X++kA (ei G) xs[d] (fl G xs[d]) f l j k)++it (ei G) xs[d] (fl G xs[d]) f (l++[j+k]) (j+k+1)))
      (λv a b ⟨J,y,z,K,h4⟩ e=>⟨J.ea e aw,y,e.k.ef z λE=>ae ob (.inr E) rfl,K,h4.keep e.k (λb q P=>by obtain⟨Y,q1⟩:=h4.Mn q;obtain⟨aj,q2⟩:=J.c3 P;exact dW q1 q2 (by decide)) λu x b Z q ha E=>ha (aa b E).2⟩) (λW N I aq=>?_) ?_
     ·have aq:LH r.heap.size (.slice B l.length C) o2 (l++[j+k]) I W:=aq;have aA:GL W I (l++[j+k]):=by
       rcases aq with⟨_,_,_,_,_,_,h⟩|⟨_,_,_,_,h⟩<;>exact h
      have aG:∀b,ce I b->ce (.slice B l.length C) b\/r.heap.size<=b:=λb q=>by
       rcases aq with⟨b',c',k',q1,rfl,_⟩|⟨b',c',q1,rfl,_⟩
       ·exact .inl (by rw[q1,jj (l':=0) (c':=0) q];exact⟨_,_,rfl⟩)
       ·exact .inr (by rw[jj (l':=0) (c':=0) q];exact q1)
      have bg:=aF.keep S N.k λb _ E=>.inr (aa b E).1;have bh:gP (λb=>A b\/ce I b) m W H (X++kA (ei G) xs[d] (fl G xs[d]) f l j k):=by have J:=av.more (A':=λb=>A b\/ce I b) λb q=>q.elim .inl λq=>(aG b q).imp (λh=>(aa b h).2) id;exact J.keep N.k (λb q P=>by obtain⟨Y,q1⟩:=av.Mn q;obtain⟨aj,q2⟩:=ag.c3 P;exact dW q1 q2 (by decide)) λu x b Z q ha E=>ha (.inl (aa b E).2)
      have bq:(l++[j+k]).length=l.length+1:=by simp
      have aX:(if nw xs[d] l (j+k)then []else it (ei G) xs[d] (fl G xs[d]) f (l++[j+k]) (j+k+1))=it (ei G) xs[d] (fl G xs[d]) f (l++[j+k]) (j+k+1):=by rw[aV];rfl
      have an:=Gy (ei G) xs[d] (fl G xs[d]) f l j (show k+1<=ei G-j by omega);rw[mc,aX,List.length_append]at an
      have ih:=tA hW hd S f (l++[j+k]) (j+k+1) I H (X++kA (ei G) xs[d] (fl G xs[d]) f l j k) (λb=>A b\/ce I b) W (by omega) (by omega) (by omega) (λs hs=>by
       rcases List.mem_append.1 hs with hs|hs
       ·exact aH s hs
       ·rw[List.mem_singleton.1 hs];exact ba) bg aA (λb q=>⟨(aG b q).elim (λh=>(aa b h).1) λh=>by omega,.inr q⟩) (λb q=>q.elim (λh=>by have:=hA b h;have:=N.k.size;omega) λh=>aA.blk h) (by have:=N.k.size;omega) (N.k.ef aW λE=>ae ob (.inr E) rfl) bh az (by rw[List.length_append];omega)
      refine cf ih ?_;rintro v w4 ⟨kk,bi,y,q1,q2,q3⟩;refine⟨⟨?_,y,q1,λb q=>(q2 b q).imp id λh=>Nat.le_trans N.k.size h,q3.more λb q=>.inl (.inl q)⟩,kk.trans (cr.refl (λ_=>False) w4) (λx _ T=>?_) λ_ _ h=>h.elim⟩
      ·rcases aq with⟨b',c',k',q4,rfl,q5,_⟩|⟨b',c',q4,rfl,_⟩
       ·injection q4 with q4 q6 q7;subst q4 q6 q7;obtain⟨b2,c2,aM,z1,z2,z3,z4,z5⟩:=bi.v (by omega);injection z1 with z1 _ z6;have:=congrArg Addr.block (Option.some.inj z1);simp only at this;subst this;subst z6;refine .inr ⟨_,_,aM,rfl,a3,z3,z4,λi hi=>?_⟩;have:=z5 i (by omega);rwa[List.getElem_append_left hi]at this
       ·refine(ag.ea N aw).keep kk λb q E=>?_;rcases E with h|h|h
        ·exact ae b (.inr q) h
        ·obtain⟨Y,x1⟩:=av.Mn h;obtain⟨aj,x2⟩:=ag.c3 q;exact dW x1 x2 (by decide)
        ·have:=ap b q;have:=jj (l':=0) (c':=0) h;omega
      ·rcases T with h|h|h
       ·exact .inl h
       ·exact .inr (.inl h)
       ·exact .inr (.inr (aG x h))
     rintro W N ao ⟨J,y,z,K,h4⟩ I _ ac _;refine hq ao I ac W ⟨y,aF.keep S N λb _ E=>f9 E,J,k2.trans N (λx _ T=>T) λx T E=>?_,z,λb q=>?_,?_⟩
     ·rcases E with h|h|h|h
      ·exact .inl h
      ·rcases U x h with h|h
       ·exact .inr (.inl h)
       ·omega
      ·exact .inr (.inr h)
      ·omega
     ·rcases K b q with h|h
      ·exact U b h
      ·exact .inr (by omega)
     ·rw[mc,aV,<-List.append_assoc];exact h4
    refine iB (B9 ⟨λz=>?_,λz=>?_⟩)
    ·have z:0<l.length:=by simpa using z
     obtain⟨bl,c,Y,e,q1,q2,q3,q4⟩:=au.v z;injection e with e br bj;subst e;subst bj;have bk:=q4 (l.length-1) (by omega);have bs:=aH _ (List.getElem_mem (show l.length-1<l.length by omega));refine iB (qh (mA (l.length-1) (by omega) (cn (v:=.int .i64 (l[l.length-1]:Nat)) (cd q2 (by rw[Nat.zero_add];exact bk)) (dx (.int .i64 (l[l.length-1]/2:Nat)) (λr _=>qj (n:=2) (by omega) (by omega) ⟨rfl,Ext.refl _⟩) (dx (.int .i64 ((j+k)/2:Nat)) (λr _=>qj (n:=2) (by omega) (by omega) ⟨rfl,Ext.refl _⟩) (Ca λr D=>⟨λK=>?_,λK=>?_⟩)))) (by omega)))
     ·have K:l[l.length-1]/2=(j+k)/2:=Int.ofNat.inj (of_decide_eq_true K);exact cq ⟨ab,H,⟨rfl,rfl,rfl,rfl,rfl,rfl,rfl,rfl,trivial⟩,skip r D (by simp[nw,z,zr z,K])⟩
     ·have K:¬l[l.length-1]/2=(j+k)/2:=λe=>of_decide_eq_false K (by rw[e]);exact aU ⟨rfl,rfl,rfl,rfl,rfl,rfl,rfl,rfl,trivial⟩ D (by simp[nw,J,z,zr z,K]) λao I ac w' ⟨y,hJ⟩=>cq ⟨ab,y,⟨rfl,rfl,rfl,rfl,rfl,rfl,rfl,rfl,trivial⟩,hJ⟩
    ·have z:¬0<l.length:=by simpa using z
     exactλr D=>nh rfl (aU ⟨rfl,rfl,rfl,rfl,rfl,rfl,rfl,rfl,trivial⟩ D (by simp[nw,J,z]) λao I ac w' ⟨y,hJ⟩=>cq ⟨ab,y,⟨rfl,rfl,rfl,rfl,rfl,rfl,rfl,rfl,trivial⟩,hJ⟩)
   ·have aQ:k=ei G-j:=by
     have:=of_decide_eq_false an;omega
    subst aQ;exact⟨_,rfl,k1,au,H,am,U,aE⟩
theorem Ext.Cq{w w1 a:World}{F:Nat->Prop}(h:Ext w w1)(k:cr F w1 a)(d:∀b,F b->w.heap.size<=b):Ext w a:=
 ⟨k.os.trans h.os,k.tape.trans h.tape,k.output.trans h.output,Nat.le_trans h.size k.size,Nat.le_trans h.drawn k.drawn,λx c=>(k.block x (Nat.lt_of_lt_of_le c h.size) λe=>by have:=d x e;omega).trans (h.block x c)⟩
theorem gd.low{n0 a:Nat}{w:World}{v:Value}{b:List (List Nat)}(h:gd n0 w v b)(c:a<=n0):gd a w v b:=by obtain⟨d,e,f,g⟩:=h;exact⟨d,e.low c,f,λk i=>by obtain⟨u,j,l⟩:=g k i;exact⟨u,j,l.low c⟩⟩
theorem zu{wp gp mk ms:Nat}{G:Gd}{xs:List Sx}{o:Int}{w:World}(h:io wp gp mk ms G xs o w){d:Nat}(K:d<xs.length)(F:oS 100000 xs[d]){c:Nat}(R:c<=ei G):
 Calls V.prog 120 #[cu wp,.int .i64 d,.int .i64 c] w (eG λv w'=>Ext w w'/\gd w.heap.size w' v (fH G xs[d] c)):=by
 have t:=h.g.pw;have T:=tz t;refine go V.func120 Tryz.ntmps120 ?_;refine eO λU A H W f=>eO λL B u M i=>?_;have f:U.heap[A]? =some (.cells #[cu wp] 133):=f;have i:L.heap[B]? =some (.cells #[.int .i64 d] 3):=i;refine cg (cd (u.at_ f) rfl) (cg (cd i rfl) (cf (LD (h.ext (H.trans u)) K F) ?_));rintro v w3 ⟨rfl,N⟩;refine dS λw4 C X I x=>cK x λO Y l=>?_;have l:O.heap[C]? =some (.cells (zZ d (fl G xs[d])).toArray 101):=l.trans (congrArg (λa=>some (Obj.cells a 101)) (eh (qg 101).toArray (zZ d (fl G xs[d])) rfl));have p:Ext L O:=N.trans (X.cj Y I);have Z:=ck.lt_of_heap f;have aa:=ck.lt_of_heap i;have ab:=ck.lt_of_heap l;refine dS λP D y ac m=>dS λw7 E e7 J z=>cK z λq k8 j=>?_;have m:P.heap[D]? =some (.cells #[.slice none 0 0] 66):=m;have ad:=ck.lt_of_heap m;have j:q.heap[E]? =some (.cells #[Cp C D A B E] 209):=j;have ae:=ck.lt_of_heap j;have r:Ext P q:=e7.cj k8 J;have s1:=H.size;have s2:=u.size;have s3:=N.size;have s5:=p.size;have s6:=y.size;have s8:=r.size;have S:LS w.heap.size q.heap.size C D A B E:=⟨by omega,by omega,by omega,by omega,by omega,by omega⟩;have Q:Ext w q:=((H.trans u).trans p).trans (y.trans r);have hC:LC w wp d (fl G xs[d]) C D A B E q:=⟨Q,(y.trans r).at_ l,((u.trans p).trans (y.trans r)).at_ f,(p.trans (y.trans r)).at_ i,j⟩;have e:∀b,¬ce (.slice none 0 0) b:=λb n=>by obtain⟨_,_,n⟩:=n;cases n
 have n:=(nP t xs[d] c).1;have hg:=tA h K S (ei G+1) [] c (.slice none 0 0) (.slice none 0 0) [] (λ_=>False) q (by omega) (Nat.zero_le _) R (λs hs=>by cases hs) hC (.inl ⟨rfl,rfl⟩) (λb n=>absurd n (e b)) (λb n=>n.elim) (Nat.le_refl _) (r.at_ m) ⟨[],cC.nil _ _ _ _,rfl,λk hk=>by simp at hk⟩ (λb n=>absurd n (e b)) (by show 0+(fH G xs[d] c).length<=100000;omega);refine cg (cd j rfl) (cf hg ?_);rintro v w9 ⟨k9,_,ov,q1,q2,q3⟩;refine cg (cd q1 rfl) ⟨_,rfl,Q.Cq k9 λb n=>?_,q3.own.low (by omega)⟩;rcases n with h|h|h
 ·omega
 ·exact absurd h (e b)
 ·exact absurd h (e b)
theorem OY:A1 64 66 [.slice none 0 0]:=⟨by kernel_rfl,Tryz.t66,_,by kernel_rfl,rfl,by kernel_rfl,by kernel_rfl,by decide+kernel,by decide⟩
theorem gd.keep{n0:Nat}{w w':World}{v:Value}{d:List (List Nat)}{F:Nat->Prop}(h:gd n0 w v d)(k:cr F w w')(e:∀b cs t,F b->w.heap[b]? =some (.cells cs t)->t=27\/t=3->False):gd n0 w' v d:=by
 obtain⟨j,f,l,m⟩:=h;refine⟨j,f.keep k λb a c=>?_,l,λi n=>?_⟩
 ·obtain⟨cs,q⟩:=f.c_ a;exact e b cs 27 c q (.inl rfl)
 ·obtain⟨u,o,g⟩:=m i n;refine⟨u,o,cC.keep g k λb a c=>?_⟩;obtain⟨cs,q⟩:=cC.c_ g a;exact e b cs 3 c q (.inr rfl)
theorem gd.Kg{n0:Nat}{w w':World}{v:Value}{c:List (List Nat)}{F:Nat->Prop}(h:gd n0 w v c)(k:cr F w w')(d:∀b,n0<=b->¬F b):gd n0 w' v c:=by obtain⟨g,e,j,l⟩:=h;refine⟨g,e.keep k λb a=>d b (e.blk a).1,j,λi m=>?_⟩;obtain⟨u,n,f⟩:=l i m;exact⟨u,n,cC.keep f k λb a=>d b (cC.blk f a).1⟩
def fO(n0:Nat)(w:World)(v:Value)(lss:List (List (List Nat))):Prop:=∃a:List Value,cC n0 66 [.slice none 0 0] w v lss.length a/\a.length=lss.length/\∀k (h:k<lss.length),∃u,a[k]? =some u/\gd n0 w u lss[k]
section
variable{n0:Nat}{w w':World}{v:Value}{lss:List (List (List Nat))}
theorem fO.ext(h:fO n0 w v lss)(e:Ext w w'):fO n0 w' v lss:=by obtain⟨a,b,c,d⟩:=h;refine⟨a,b.ext e,c,λk f=>?_⟩;obtain⟨u,g,i⟩:=d k f;exact⟨u,g,i.ext e⟩
theorem fO.eC{m:Nat}(h:fO n0 w v lss)(e:fA m w w'):fO n0 w' v lss:=by obtain⟨a,b,c,d⟩:=h;refine⟨a,b.eC e,c,λk f=>?_⟩;obtain⟨u,g,i⟩:=d k f;exact⟨u,g,i.eC e⟩
theorem fO.keep{F:Nat->Prop}(h:fO n0 w v lss)(k:cr F w w')(c:∀b cs t,F b->w.heap[b]? =some (.cells cs t)->t=66\/t=27\/t=3->False):fO n0 w' v lss:=by
 obtain⟨e,d,f,g⟩:=h;refine⟨e,d.keep k λb a j=>?_,f,λi l=>?_⟩
 ·obtain⟨cs,q⟩:=d.c_ a;exact c b cs 66 j q (.inl rfl)
 ·obtain⟨u,m,n⟩:=g i l;exact⟨u,m,n.keep k λb cs t a o p=>c b cs t a o (.inr p)⟩
theorem fO.v_(h:fO n0 w v lss):∃a c,v=.slice a lss.length c:=by obtain⟨d,b,_⟩:=h;obtain⟨a,c,e,_⟩:=b.len;exact⟨a,c,e⟩
theorem fO.nil(n0:Nat)(w:World):fO n0 w (.slice none 0 0) []:=⟨[],cC.nil _ _ _ _,rfl,λk a=>by simp at a⟩
end
theorem GA{w:World}{k:Value->World->Prop}{t:TypeId}{A:Array Bool}{n0:Nat}{v:Value}{lss:List (List (List Nat))}(h:fO n0 w v lss)(m:n0<=w.heap.size){b c:Nat}{u:Value}{o:List (List Nat)}(p:gd n0 w u o)(e:w.heap[b]? =some (.cells [u].toArray 66))(f:lss.length+1<=1000000) (B:∀g w',fO n0 w' g (lss++[o])->cr (ce v) w w'->(∀b,ce g b->n0<=b)->k g w'):un V.prog (builtin .append #[64,64] t A #[v,.slice (some ⟨b,0,none⟩) 1 c]) w k:=by
 obtain⟨C,r,s,D⟩:=h;have j:u.oneCell'=true:=by obtain⟨a,c,rfl,_⟩:=p.row;rfl
 have d:∀b y t,ce v b->w.heap[b]? =some (.cells y t)->t=27\/t=3->False:=λb y t e E F=>by obtain⟨G,q⟩:=r.c_ e;exact dW q E (by rcases F with rfl|rfl<;>decide)
 refine gC OY r m e f (λg w' z n L=>B g w' ⟨C++[u],by simpa using z,by simp[s],λi H=>?_⟩ n λb e=>(z.blk e).1) rfl (by simp[oF,j]);rcases Nat.lt_or_ge i lss.length with l|I
 ·obtain⟨x,J,K⟩:=D i l;refine⟨x,by rw[List.getElem?_append_left (by omega)];exact J,?_⟩;rw[List.getElem_append_left l];exact K.keep n d
 ·obtain rfl:i=lss.length:=by simp at H;omega
  refine⟨u,by rw[List.getElem?_append_right (by omega)];simp[s],?_⟩;simp only[List.getElem_append_right (Nat.le_refl _),Nat.sub_self,List.getElem_cons_zero];exact p.keep n d
def zv(n0:Nat)(w:World)(b:Nat):Prop:=n0<=b/\∃a t c,w.heap[b]? =some (.cells a t c)
theorem cC.Ho{α:Type}{n0:Nat}{t:TypeId}{z:Value}{w:World}{v:Value}{a:List Value}{l:List α}{E:World->Value->α->Prop}(h:cC n0 t [z] w v l.length a)(i:∀k (h:k<l.length),∃u,a[k]? =some u/\E w u l[k]):fK (zv n0 w) E z t w v l:=by
 obtain⟨j,⟨m,rfl⟩|⟨b,c,d,n,rfl,e,f,o,x,p,q⟩⟩:=h
 ·exact .inl ⟨List.eq_nil_of_length_eq_zero m,rfl⟩
 ·simp only[List.length_cons,List.length_nil,Nat.mul_one,Nat.zero_add]at j f;refine .inr ⟨b,c,d,(0,0),⟨n,d,t,(0,0),e⟩,rfl,e,f,o,λk g=>?_,λk g y=>?_⟩
  ·obtain⟨u,r,s⟩:=i k g;exact⟨u,by rw[p k (by omega)];exact r,s⟩
  ·rw[q k (by omega) (by omega)];simp[Nat.mod_one]
theorem dN.Ho{n0:Nat}{w:World}{v:Value}{l:List Nat}(h:dN n0 w v l):qc (zv n0 w) w v l:=cC.Ho h λk a=>⟨.int .i64 l[k],by simp[eJ,List.getElem?_eq_getElem a],rfl⟩
theorem gd.Ho{n0:Nat}{w:World}{v:Value}{a:List (List Nat)}(h:gd n0 w v a):sJ (zv n0 w) w v a:=by obtain⟨g,b,i,c⟩:=h;exact cC.Ho b λk d=>by obtain⟨u,e,f⟩:=c k d;exact⟨u,e,f.Ho⟩
theorem fO.Ho{n0:Nat}{w:World}{v:Value}{lss:List (List (List Nat))}(h:fO n0 w v lss):pm (zv n0 w) w v lss:=by obtain⟨f,a,g,b⟩:=h;exact cC.Ho a λk c=>by obtain⟨u,d,e⟩:=b k c;exact⟨u,d,e.Ho⟩
theorem tB(a b c:Value)(cs:List Int):(cD a b c cs).size=3+cs.length:=by simp[cD];omega
theorem uy(a b c:Value)(cs:List Int)(k:Nat)(v:Int):(cD a b c cs).setIfInBounds (3+k) (.int .i64 v)=cD a b c (cs.set k v):=by unfold cD;rw[show 3+k=k+1+1+1 by omega];simp[List.map_set]
theorem tC(a b c u:Value)(cs:List Int):(cD a b c cs).setIfInBounds 2 u=cD a b u cs:=by unfold cD;simp
theorem uz(G:Gd)(a:Nat):fe G a 0=List.replicate 32 0:=by unfold fe;simp only[Nat.not_lt_zero,if_false];rfl
theorem kO(G:Gd)(a k:Nat)(c:k<32):fe G a (k+1)=(fe G a k).set k (me G a k):=by
 apply List.ext_getElem?;intro i;unfold fe;rw[List.getElem?_set,List.getElem?_map,List.getElem?_map];simp only[List.length_map,List.length_range];rcases Nat.lt_or_ge i 32 with b|b
 ·rw[List.getElem?_range b];by_cases e:k=i
  ·subst e;simp[c]
  ·simp only[e,if_false,Option.map_some];have:(i<k+1)=(i<k):=by apply propext;omega
   simp[this]
 ·rw[List.getElem?_eq_none (by simpa using b)];have:¬k=i:=by omega
  simp[this]
theorem zw:∀s:Nat,s<32->∀a:Nat,a<32->(decide (b8 .andNot s a=0))=IF s a:=by decide+kernel
theorem IG:∀n:Nat,n<=5->IntKind.u8.wrap (1*2^n)=((2^n:Nat):Int):=by decide+kernel
theorem Ns:∀n:Nat,n<=5->∀s:Nat,s<2^n->s<32/\∀d∈dJ s,d<n:=by decide+kernel
theorem wP{w:World}{k:Value->World->Prop}{t:TypeId}{x y:Operand}{m n:Nat}(b:m+n<256)(h:k (.int .u8 ((m+n:Nat):Int)) w):fS V.prog (do eqGuard .add t x y (.int .u8 m) (.int .u8 n);binOp .add t (.int .u8 m) (.int .u8 n)) w k:=by refine⟨_,w,?_,h⟩;go_simp;have a:IntKind.u8.signed=false:=rfl;unfold IntKind.wrap;simp[IntKind.bits,a];omega
theorem Cs{f:IntKind}{t b o:Nat}{w:World}{k:Value->World->Prop}(a n:Nat){i:Int}(p:a<n)(h:k (.pointer (some ⟨b,o+a,none⟩)) w)(g:i=(a:Nat):=by rfl)(j:ty t=some ⟨2,n,1,n⟩:=by rfl):fS V.prog (Instr.indexAt t (.pointer (some ⟨b,o,none⟩)) (.int f i)) w k:=by
 subst g;obtain⟨e,l,m⟩:=yR j rfl;refine⟨_,w,?_,h⟩;have c:(a:Int)<(n:Int):=by omega
 have d:(0:Int)<=(a:Int):=by omega
 unfold Instr.indexAt;simp only[asIntOf,Instr.sureAddr,pure_bind,Sem.run_bind,eA l,Result.andThen_ok,Sem.run_pure,d,c,and_self,if_true,iA m,Int.toNat_natCast,eN,Nat.mul_one]
theorem Kh{w:World}{s:World->Prop}{pb:Nat}{c d e:Value}{cs:List Int}{k:Nat}{v:Int}(f:w.heap[pb]? =some (.cells (cD c d e cs) 207))(i:k<cs.length)(h:∀w',cr (λx=>x=pb) w w'->w'.heap[pb]? =some (.cells (cD c d e (cs.set k v)) 207)->s w'):yF V.prog (Instr.storeAt 3 (.pointer (some ⟨pb,3+k,none⟩)) (.int .i64 v)) w s:=
 fG f (by rw[tB];show 3+k+1<=_;omega) (λw' g b=>h w' g (b.trans (congrArg (λa=>some (Obj.cells a 207)) (uy _ _ _ _ _ _)))) (eu (l:=[.int .i64 v]) rfl)
theorem GB(a:Value)(w:World):Calls V.prog 186 #[a] w (eG λv w'=>v=a/\w'=w):=by refine go V.func186 Tryz.ntmps186 ?_;exact⟨_,rfl,rfl,rfl⟩
def LJ:List Int:=List.replicate 32 0
theorem tD{wp gp mk ms n0:Nat}{G:Gd}{xs:List Sx}{W:Int}{w:World}{A:Nat->Prop}(h:io wp gp mk ms G xs W w)(hA:∀b,A b->b<w.heap.size)(hp:hH A mk ms G w)(av:n0<=mk)(aw:n0<=ms)(ax:∀x∈xs,oS 100000 x){f:Nat}(K:f<=ei G):
 Calls V.prog 162 #[cu wp,.int .i64 f] w (eG λv w'=>MA n0 mk ms G A w w'/\∃pb,v=cu pb/\dA (zv w.heap.size w') pb (fN G xs f) w'):=by
 have ai:=h.g.pw;have h5:=ai.many;have aj:=h.len;refine go V.func162 Tryz.ntmps162 ?_;refine cL (GB _ _) (cf (wE h) ?_);rintro ov w1 ⟨e1,ak⟩;have aG:=nQ G.tries xs;obtain⟨H,L,rfl,_,aI⟩:=ak.row;refine c8 (.agg (cD (cu wp) (.slice H (cI G.tries xs).length L) (.slice none 0 0) LJ)) (eO λw2 pb e2 aJ B=>?_);have B:w2.heap[pb]? =some (.cells (cD (cu wp) (.slice H (cI G.tries xs).length L) (.slice none 0 0) LJ) 207):=B;refine cg (cd B rfl) (cA ?_);obtain⟨O,hO⟩:∃O,O=Value.slice H (cI G.tries xs).length L:=⟨_,rfl⟩;have aH:(cI G.tries xs).length<=5:=by omega
 have s1:=e1.size;have E2:=e1.trans e2;refine fw (n:=(cI G.tries xs).length) (λk v=>[(0,cu wp),(1,.int .i64 f),(5,cu pb),(21,.slice H (cI G.tries xs).length L),(22,.int .i64 (cI G.tries xs).length),(23,.int .i64 k)]) (λk v w'=>Ext w w'/\dN w.heap.size w' O (cI G.tries xs)/\w'.heap[pb]? =some (.cells (cD (cu wp) O v LJ) 207)/\fO w.heap.size w' v (ji G xs f k)) (.slice none 0 0) ⟨⟨rfl,rfl,rfl,rfl,rfl,rfl,trivial⟩,E2,by rw[hO];exact ak.ext e2,by rw[hO];exact B,by simpa[ji]using fO.nil _ _⟩ ?_ ?_ ?_
 ·rintro k v I hk hJ;exact cY ⟨rfl,rfl,⟨rfl,rfl,rfl,rfl,rfl,rfl,trivial⟩,hJ⟩
 ·rintro k v I hk ⟨X,y,i,z⟩;have M:dV I H (cI G.tries xs):=by
   obtain⟨a,c,q1,q2,_⟩:=y.row;rw[hO]at q1;injection q1 with q1;rw[q1];exact q2
  obtain⟨b,o,rfl,hc⟩:=M k hk;have C:=iD (List.getElem_mem hk);obtain⟨d,hd⟩:∃d,d=(cI G.tries xs)[k]:=⟨_,rfl⟩;rw[<-hd]at hc C;refine dT k hk (cg hc ?_);have N:∀b,ce v b->w.heap.size<=b/\b<I.heap.size:=λb j=>by obtain⟨us,hr,_⟩:=z;exact hr.blk j
  have ab:¬ce v pb:=λj=>by obtain⟨us,hr,_⟩:=z;obtain⟨cs,q⟩:=hr.c_ j;exact dW q i (by decide)
  refine fa 10 cB (fg (ce v)) (λa b h=>h.keep _) ?_;refine .exact v (λr D=>cg (cd (D.ef i ab) rfl) ⟨rfl,Ext.refl _⟩) ?_;refine .rel (λu r=>gd I.heap.size r u (fH G xs[d] f)) (λu a b hu e=>hu.Kg e λx P ac=>by have:=(N x ac).2;omega) (λr D=>?_) ?_
  ·have ay:Ext w r:=X.Cq D λx P=>(N x P).1;exact cf (zu (h.ext ay) C (ax _ (List.getElem_mem C)) K) λu w5 ⟨e5,hu⟩=>⟨hu.low D.size,e5⟩
  refine .rel (λx r=>∃J u,x=.slice (some ⟨J,0,none⟩) 1 1/\I.heap.size<=J/\r.heap[J]? =some (.cells [u].toArray 66)/\gd I.heap.size r u (fH G xs[d] f)) (λx a b ⟨J,u,h1,h2,h3,h4⟩ e=>⟨J,u,h1,h2,e.ef h3 (λK=>by have:=(N J K).2;omega),h4.Kg e λx P ac=>by have:=(N x ac).2;omega⟩) (λr D u hu=>?_) ?_
  ·refine dB [u] 66 (λw5 J e5 al j=>⟨⟨J,u,rfl,Nat.le_trans D.size al,j,gd.ext hu e5⟩,e5⟩) ?_;obtain⟨a2,c2,rfl,_⟩:=gd.row hu;intro w;kernel_rfl
  refine .spec (λv' r=>fO w.heap.size r v' (ji G xs f (k+1))) (λv a b h1 e=>h1.ext e) (λr D am az aA aK=>?_) ?_
  ·obtain⟨J,u,rfl,al,an,hu⟩:∃J u,am=.slice (some ⟨J,0,none⟩) 1 1/\I.heap.size<=J/\r.heap[J]? =some (.cells [u].toArray 66)/\gd I.heap.size r u (fH G xs[d] f):=az;refine GA (z.ext D) (by have:=X.size;have:=D.size;omega) (hu.low X.size) an (by simp[ji];omega) λv' w5 g1 g2 _=>⟨?_,g2⟩;have:ji G xs f (k+1)=ji G xs f k++[fH G xs[d] f]:=by
    unfold ji;rw[List.take_succ_eq_append_getElem hk,List.map_append,List.map_cons,List.map_nil,<-hd,getD_eq C]
   rw[this];exact g1
  rintro r D aL ao am _ aA _;obtain⟨a9,c9,rfl⟩:=fO.v_ ao;refine cK (D.ef i ab) λw5 k5 aB=>cq ⟨_,⟨rfl,rfl,rfl,rfl,rfl,rfl,trivial⟩,(X.Cq D λx P=>(N x P).1).cj k5 (by omega),?_,aB.trans (congrArg (λa=>some (Obj.cells a 207)) (tC _ _ _ _ _)),ao.keep k5 λb cs t j hc ht=>?_⟩
  ·refine cC.keep (cC.keep y D λb j K=>?_) k5 λb j K=>?_
   ·obtain⟨us,hr,_⟩:=z;obtain⟨cs,q⟩:=hr.c_ K;obtain⟨ap,q'⟩:=cC.c_ y j;exact dW q q' (by decide)
   ·subst K;obtain⟨ap,q'⟩:=cC.c_ y j;exact dW i q' (by decide)
  ·subst j;exact dW (D.ef i ab) hc (by rcases ht with rfl|rfl|rfl<;>decide)
 ·rintro v I ⟨X,y,i,z⟩;subst hO;have Q:fO w.heap.size I v (fN G xs f).lists:=by
   have:ji G xs f (cI G.tries xs).length=(fN G xs f).lists:=by unfold ji fN;rw[List.take_length]
   rw[<-this];exact z
  clear z;have M:dV I H (cI G.tries xs):=by obtain⟨a,c,q1,q2,_⟩:=y.row;injection q1 with q1;rw[q1];exact q2
  have h3:=h.ext X;obtain⟨sa,sc,g1,g2,g3,g4⟩:=h3.at_;obtain⟨da,dc,d1,d2⟩:=h3.g.c6;refine cg (cd i rfl) (cL (nO (cI G.tries xs) H L I M (λd hd=>by have:=iD hd;omega) (by omega)) (cg g1 (cg d1 (cA (Lp (by omega) ?_)))));rw[IG _ h5];have aM:2^G.doors.length<=32:=Nat.pow_le_pow_right (by omega) h5;obtain⟨l,R⟩:∃l,l=fy (cI G.tries xs):=⟨_,rfl⟩;rw[<-R];have E:l<32:=by rw[R];exact oI _ 0 (by omega) λd hd=>by have:=iD hd;omega
  have aN:=ck.lt_of_heap i;have s3:=X.size;have aC:hH (λx=>A x\/x=pb) mk ms G I:=(hp.more (A':=λx=>A x\/x=pb) λb j=>j.imp id λh=>by omega).ext X;refine dg (n:=2^G.doors.length) (λk=>[(0,cu wp),(5,cu pb),(8,.int .u8 l),(55,.int .u8 (2^G.doors.length:Nat)),(56,.int .u8 k)]) (λk w'=>fA n0 w w'/\hH (λx=>A x\/x=pb) mk ms G w'/\dN w.heap.size w' (.slice H (cI G.tries xs).length L) (cI G.tries xs)/\w'.heap[pb]? =some (.cells (cD (cu wp) (.slice H (cI G.tries xs).length L) v (fe G l k)) 207)/\fO w.heap.size w' v (fN G xs f).lists) ⟨⟨rfl,rfl,rfl,rfl,rfl,trivial⟩,X.eC n0,aC,y,by rw[uz];exact i,Q⟩ ?_ ?_ ?_
  ·rintro k r hk hJ;exact cY ⟨rfl,rfl,⟨rfl,rfl,rfl,rfl,rfl,trivial⟩,hJ⟩
  ·rintro k r hk ⟨m4,ad,ae,s,Q⟩;have p:k<32:=by omega
   have aO:=pH G l k;refine Cs k 32 p (Kh s (by omega) λw5 k5 S=>?_)
   have T:∀{a b:World},cr (λx=>x=pb) a b->a.heap[pb]? =some (.cells (cD (cu wp) (.slice H (cI G.tries xs).length L) v (fe G l k)) 207)\/a.heap[pb]? =some (.cells (cD (cu wp) (.slice H (cI G.tries xs).length L) v ((fe G l k).set k (-1))) 207)->dN w.heap.size a (.slice H (cI G.tries xs).length L) (cI G.tries xs)->fO w.heap.size a v (fN G xs f).lists->dN w.heap.size b (.slice H (cI G.tries xs).length L) (cI G.tries xs)/\fO w.heap.size b v (fN G xs f).lists:=λkk j ha hl=>by
    refine⟨cC.keep ha kk λx P K=>?_,hl.keep kk λx cs t K hc ht=>?_⟩
    ·obtain⟨ap,q'⟩:=cC.c_ ha P;subst K;rcases j with j|j<;>exact dW j q' (by decide)
    ·subst K;rcases j with j|j<;>exact dW j hc (by rcases ht with rfl|rfl|rfl<;>decide)
   obtain⟨af,ag⟩:=T k5 (.inl s) ae Q;have m5:fA n0 w w5:=m4.cj k5 (by omega);have ah:=ad.keep k5 λx P=>.inr P;refine Ix _ rfl (eP ⟨λhn=>?_,λhn=>?_⟩)
   ·have F:IF k l=false:=by
     rw[<-zw k p l E];simpa using hn
    refine wP (m:=k) (n:=1) (by omega) ⟨⟨rfl,rfl,rfl,rfl,rfl,trivial⟩,m5,ah,af,?_,ag⟩;rw[kO _ _ _ p,me,F];exact S
   ·have F:IF k l=true:=by
     rw[<-zw k p l E];simpa using hn
    have aq:=h.eC m5;obtain⟨aP,aQ,z1,z2,z3,z4⟩:=aq.at_;have aD:∀b,(A b\/b=pb)->b<w5.heap.size:=λb j=>j.elim (λj=>by have:=hA b j;have:=m5.size;omega) λe=>by subst e;exact ck.lt_of_heap S
    refine cg z1 (cf (tw aq.g aD ah av aw (Ns _ h5 k hk)) ?_);rintro v6 w6 ⟨m6,u,b,rfl,Y⟩;have ar:=m5.trans m6.1;have au:=m6.2 ah;have U:=m6.1.at_ S;cases Z:eD G k with
    |none=>
     rw[Z]at Y;obtain⟨rfl,rfl⟩:=Y;refine nh rfl (wP (m:=k) (n:=1) (by omega) ⟨⟨rfl,rfl,rfl,rfl,rfl,trivial⟩,ar,au,cC.eC af m6.1,?_,ag.eC m6.1⟩);rw[kO _ _ _ p,me,F,Z];exact U
    |some ls=>
     rw[Z]at Y;obtain⟨rfl,a,c,rfl,_,_⟩:=Y;refine je rfl (cA (Cs k 32 p (Kh U (by rw[List.length_set];omega) λw7 k7 aa=>wP (m:=k) (n:=1) (by omega) ?_)));obtain⟨aE,aF⟩:=T k7 (.inr U) (cC.eC af m6.1) (ag.eC m6.1);refine⟨⟨rfl,rfl,rfl,rfl,rfl,trivial⟩,ar.cj k7 (by omega),au.keep k7 λx P=>.inr P,aE,?_,aF⟩;rw[kO _ _ _ p,me,F,Z];rw[List.set_set]at aa;exact aa
  ·rintro r ⟨m4,ad,ae,s,Q⟩;refine⟨_,rfl,⟨m4,λ_=>ad.fewer λb j=>.inl j⟩,pb,rfl,zq ai aj f,⟨by omega,_,_,_,s⟩,cu wp,_,v,(0,0),.inr ⟨_,rfl⟩,?_,ae.Ho,Q.Ho⟩;rw[s,R,<-aj];rfl
end Go.Proofs.W
namespace Go.Proofs.W
open Go.Conc Go.ck Go.ck.Cr Go.ck.Wg Go.RowKit Go.Conc.Lib Go.ConcR.Gen
open Go.ConcN Go.ConcN.Gen
open Go.ConcR (KK wgBlock WgAt stA smA mk DC0)
abbrev LF:List Nat:=[193,194]
theorem OZ:LF.all (okF LF true (λ_=>false))=true:=by kernel_rfl
theorem nR{l:List Int}{c i:Nat}{v:Value}(h:(dZ l c)[i]? =some v):∃n,v=.int .i64 n:=by
 have a:v∈(l.map (Value.int .i64)++List.replicate (c-l.length) (Value.int .i64 0)):=by have:=Array.mem_of_getElem? h;simpa[dZ]using this
 rcases List.mem_append.1 a with a|a
 ·obtain⟨x,_,rfl⟩:=List.mem_map.1 a;exact⟨x,rfl⟩
 ·exact⟨0,List.eq_of_mem_replicate a⟩
theorem GC{ρ:cx}{cs:Array Value}(h:∀(i:Nat) v,cs[i]? =some v->∃n,v=.int .i64 n):dz ρ cs cs:=
 ⟨rfl,λi v c a b=>by rw[a]at b;cases b;obtain⟨n,rfl⟩:=h i v a;exact .int _ _⟩
theorem Ct{ρ:cx}{cs a:Array Value}(h:∀(i:Nat) v,cs[i]? =some v->∃n,v=.int .i64 n)(b:dz ρ cs a):a=cs:=by refine Array.ext b.size.symm λi d e=>?_;have c:cs[i]? =some cs[i]:=Array.getElem?_eq_getElem e;have f:a[i]? =some a[i]:=Array.getElem?_eq_getElem d;have:=b.at_ i _ _ c f;obtain⟨n,g⟩:=h i _ c;rw[g]at this⊢;revert this;generalize a[i]=x;intro this;cases this;rfl
def Ki(w:World)(o:Nat->Prop)(b:Nat):Prop:=o b/\∃l c a,FC a/\w.heap[b]? =some (.cells (dZ l c) 3 a)
def rC(w:World)(A:Nat)(o:Nat->Prop)(b:Nat):Prop:=b=A\/Ki w o b
theorem cz.slice{w:World}{o:Nat->Prop}{s:Sp}{y:SV}{ρ:cx}(h:cz o w s y)(d:∀b,Ki w o b->ρ.r b b/\ρ.sh b=none):VR ρ (.slice y.sa y.sl y.sc) (.slice y.sa y.sl y.sc):=by
 cases s with
 |none=>
  have:y=⟨none,0,0,0,0,false⟩:=h;subst this;exact .dF _ _
 |some s=>
  obtain⟨l,m,k⟩:=s;obtain⟨_,_,_,_,⟨_,a,_⟩|⟨_,c,a,e,_,_,f,g,i⟩⟩:=h
  ·rw[a];exact .dF _ _
  ·rw[e];obtain⟨j,n⟩:=d c ⟨a,l,y.sc,f,g,i⟩;exact .slice _ _ (.of _ _ j n)
theorem Bd{A n:Nat}{own rd o:Nat->Prop}{w:World}{cs:Array Value}{ss:List Sp}{ys:List SV}(t:own A)(u:∀b,o b->own b)(H:ys.length=ss.length)(d:w.heap[A]? =some (.cells cs 199))(x:cs.size=n*4)(I:ys.length=n) (y:∀j (h:j<ys.length),cs[4*j]? =some (.slice ys[j].sa ys[j].sl ys[j].sc)/\cs[4*j+1]? =some (.int .i64 ys[j].m)/\cs[4*j+2]? =some (.int .i64 ys[j].k)/\cs[4*j+3]? =some (.bool ys[j].b))
 (z:∀j (h:j<ys.length) (J:j<ss.length),cz o w ss[j] ys[j]):pV (li LF (λ_=>false) (rC w A o)) w w own rd:=by
 refine⟨HR.of (λ_=>rfl) λb B g=>?_,λb B g=>?_⟩
 ·obtain⟨rfl,p⟩:=g;rcases p with rfl|⟨f,l,c,K,C,q⟩
  ·refine⟨_,_,d,d,.cells ⟨rfl,λi v L a r=>?_⟩ λ_ h=>h⟩;rw[a]at r;cases r;have M:i<cs.size:=(Array.getElem?_eq_some_iff.1 a).1;have s:i/4<ys.length:=by omega
   obtain⟨D,E,F,G⟩:=y (i/4) s;have:i=4*(i/4)\/i=4*(i/4)+1\/i=4*(i/4)+2\/i=4*(i/4)+3:=by omega
   rcases this with e|e|e|e
   ·rw[e,D]at a;cases a;exact(z _ s (by omega)).slice λb f=>⟨⟨rfl,.inr f⟩,rfl⟩
   ·rw[e,E]at a;cases a;exact .int _ _
   ·rw[e,F]at a;cases a;exact .int _ _
   ·rw[e,G]at a;cases a;exact .bool _
  ·exact⟨_,_,q,q,.cells (GC λi v h=>nR h) λ_ h=>h⟩
 ·obtain⟨rfl,p⟩:=g;rcases p with rfl|⟨f,_⟩
  ·exact .inl t
  ·exact .inl (u _ f)
theorem VR.IH{ρ e:cx}(n:cx.Le ρ e){y:SV}{o:Value}(q:VR ρ (.slice y.sa y.sl y.sc) (.slice y.sa y.sl y.sc))(h:VR e y.val o):o=y.val:=by
 unfold SV.val at h;cases h with
 | @agg _ d p r=>
  have s:dz e #[.slice y.sa y.sl y.sc,.int .i64 y.m,.int .i64 y.k,.bool y.b] d:=⟨p,r⟩;have t:d.size=4:=p.symm
  have f:∀i (j:i<4),VR e (#[Value.slice y.sa y.sl y.sc,.int .i64 y.m,.int .i64 y.k,.bool y.b][i]'(by simpa using j)) (d[i]'(by omega)):=λi j=>
   s.at_ i _ _ (Array.getElem?_eq_getElem (by simpa using j)) (Array.getElem?_eq_getElem (by omega))
  have u:d[0]'(by omega)=.slice y.sa y.sl y.sc:=by
   have h:=f 0 (by omega);simp only[List.getElem_toArray,List.getElem_cons_zero]at h;have g:=q.mono n;revert h g;generalize d[0]=z;generalize y.sa=a;intro h g;cases a with
   |none=>cases h;rfl
   |some a=>
    cases h with
    | @slice a C l c h=>
     cases g with
     |slice l c v=>
      rw[(v.block h).2.1 rfl]
  have w:d[1]'(by omega)=.int .i64 y.m:=by have h:=f 1 (by omega);simp only[List.getElem_toArray,List.getElem_cons_succ,List.getElem_cons_zero]at h;revert h;generalize d[1]=z;intro h;cases h;rfl
  have x:d[2]'(by omega)=.int .i64 y.k:=by have h:=f 2 (by omega);simp only[List.getElem_toArray,List.getElem_cons_succ,List.getElem_cons_zero]at h;revert h;generalize d[2]=z;intro h;cases h;rfl
  have A:d[3]'(by omega)=.bool y.b:=by have h:=f 3 (by omega);simp only[List.getElem_toArray,List.getElem_cons_succ,List.getElem_cons_zero]at h;revert h;generalize d[3]=z;intro h;cases h;rfl
  have:d=#[.slice y.sa y.sl y.sc,.int .i64 y.m,.int .i64 y.k,.bool y.b]:=by
   refine Array.ext (by simp[t]) λi j B=>?_;have:i=0\/i=1\/i=2\/i=3:=by omega
   rcases this with rfl|rfl|rfl|rfl
   ·exact u
   ·exact w
   ·exact x
   ·exact A
  rw[this];rfl
def Be(w:World)(A:Nat)(o:Nat->Prop)(y:SV)(x:Value)(w':World):Prop:=x=y.val/\∀b,rC w A o b->w'.heap[b]? =w.heap[b]?
theorem GD{Wg A n:Nat}{own rd o:Nat->Prop}{w:World}{cs:Array Value}{ss:List Sp}{ys:List SV}{pl:Addr}{caller:Frame}{cl:List Frame}(hA:own A)(Z:∀b,o b->own b)(hl:ys.length=ss.length) (t:w.heap[A]? =some (.cells cs 199))(L:cs.size=n*4)(hn:ys.length=n)(z:n<=65536) (hc:∀j (h:j<ys.length),cs[4*j]? =some (.slice ys[j].sa ys[j].sl ys[j].sc)/\cs[4*j+1]? =some (.int .i64 ys[j].m)/\cs[4*j+2]? =some (.int .i64 ys[j].k)/\cs[4*j+3]? =some (.bool ys[j].b)) (ha:∀j (h:j<ys.length) (h':j<ss.length),cz o w ss[j] ys[j]):
 Wy PR 241 Wg true rd (λo' g w'=>g=G (caller.finish (cw ys).val) cl/\(∀b,own b->o' b)/\cz (λb=>o b/\o' b) w' (kJ ss) (cw ys)) own
  (G (Frame.enter PR 193 #[.slice (some ⟨A,0,none⟩) n n,.func (.func 194) #[.pointer (some pl)] #[]] .normal) (caller::cl)) w:=by
 have hG:Go.ck.Good V.prog (li LF (λ_=>false) (rC w A o)):=uR OZ (by decide);have c:pV (li LF (λ_=>false) (rC w A o)) w w own rd:=Bd hA Z hl t L hn hc ha;have d:=yd ys ss hl ha;have B:dz (li LF (λ_=>false) (rC w A o)) #[.tuple #[]] #[.pointer (some pl)]:=dz.one (.vL rfl pl);have C:dz (li LF (λ_=>false) (rC w A o)) #[] #[]:=dz.nil
 have D:dz (li LF (λ_=>false) (rC w A o)) #[.slice (some ⟨A,0,none⟩) n n,.func (.func 194) #[.tuple #[]] #[]] #[.slice (some ⟨A,0,none⟩) n n,.func (.func 194) #[.pointer (some pl)] #[]]:=
  dz.ED (.slice _ _ (.mk _ _ ⟨rfl,.inl rfl⟩)) (.func rfl B.size B.at_ C.size C.at_)
 have hS:(li LF (λ_=>false) (rC w A o)).S 193=true:=by show LF.contains 193=true;decide
 have q:Go.ck.Reach V.prog (Go.ck.Left V.prog 193 (Be w A o (cw ys))) ⟨Frame.enter V.prog 193 #[.slice (some ⟨A,0,none⟩) n n,.func (.func 194) #[.tuple #[]] #[]] .normal,[floor],w⟩:=by
  refine mL (λx w' T h=>h) (mQ hG (λ_=>rfl) hS D c) λT hT=>?_;have E:A<w.heap.size:=lt_of_heap t;subst hn;refine(C1 (.tuple #[]) A ys (cm w T) z E λj hj=>?_).mono ?_
  ·obtain⟨c0,c1,c2,c3⟩:=hc j hj;have e:∀k v,cs[k]? =some v->(cm w T).cell? ⟨A,k,none⟩=some v:=λk v h=>by show(match w.heap[A]? with|some (.cells cs _ _)=>_|_=>_)=_;rw[t];exact h
   rw[show j*4=4*j by omega];exact⟨e _ _ c0,e _ _ c1,e _ _ c2,e _ _ c3⟩
  ·rintro e w' ⟨rfl,M⟩;refine⟨_,rfl,rfl,λb K=>M.block b ?_⟩;show b<w.heap.size;rcases K with rfl|⟨_,_,_,_,_,hw⟩
   ·exact E
   ·exact lt_of_heap hw
 have a:=BP (U:=λ_=>True) (λ_ _ _ _ _ _=>trivial) (ty:=241) (Wg:=Wg) (main:=true) (caller:=caller) (cs:=cl) (own:=own) (rd:=rd) hG (λ_=>rfl) hS V.func193 (R:=Be w A o (cw ys)) (λx w' T h=>h) D q c;have a:Wy PR 241 Wg true rd (Out (λ_=>True) (Be w A o (cw ys)) rd (li LF (λ_=>false) (rC w A o)) caller cl) own (G (Frame.enter PR 193 #[.slice (some ⟨A,0,none⟩) n n,.func (.func 194) #[.pointer (some pl)] #[]] .normal) (caller::cl)) w:=by have e:V.prog.fj (li LF (λ_=>false) (rC w A o)).fs=PR:=Ib;rw[e]at a;exact a
 refine(Wy.JU a).bind λo' g w' h=>j9 λw1 hr=>?_;obtain⟨⟨ρ,x,x',v,rfl,⟨hx,f⟩,hv,u,N,_⟩,F⟩:=h;subst hx;have O:VR (li LF (λ_=>false) (rC w A o)) (.slice (cw ys).sa (cw ys).sl (cw ys).sc) (.slice (cw ys).sa (cw ys).sl (cw ys).sc):=d.slice λb M=>⟨⟨rfl,.inr M⟩,rfl⟩;obtain rfl:=VR.IH u O hv;refine⟨rfl,F,?_⟩;have H:=N.rely hr;revert d;generalize cw ys=y at f⊢;generalize kJ ss=s;intro d;cases s with
 |none=>exact d
 |some s=>
  obtain⟨l,m,k⟩:=s;obtain⟨q1,q2,q3,q4,P|⟨P,p,Q,q7,q8,W,fz,q9,I⟩⟩:=d
  ·exact⟨q1,q2,q3,q4,.inl P⟩
  ·have K:rC w A o p:=.inr ⟨Q,l,y.sc,fz,q9,I⟩;obtain⟨ob,aa,k1,k2,X⟩:=H.heap.obj p p (u.r _ _ ⟨rfl,K⟩);replace X:=X.obj (by rw[<-u.g];rfl);rw[f p K,I]at k1;cases k1;cases X with
   | @cells _ ab _ _ Y kv kf=>
    have:=Ct (λi v h=>nR h) kv;subst this;exact⟨q1,q2,q3,q4,.inr ⟨P,p,⟨Q,F _ (Z _ Q)⟩,q7,q8,W,Y,λJ h=>q9 J (kf J h),k2⟩⟩
end Go.Proofs.W
