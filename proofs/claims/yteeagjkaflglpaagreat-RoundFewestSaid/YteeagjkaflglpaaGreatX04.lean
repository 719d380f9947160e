/- Laws that the proof needs, part 4. Conditions: none. -/
import Derived.Test.YteeagjkaflglpaaGreatX03
set_option maxRecDepth 100000
set_option maxHeartbeats 8000000
set_option linter.all false
variable{m k i j o p s d:Nat}{w t e:er}{x y z:eu}{A B C:Nat->Prop}{R:Go.eV.fj}{l f:List Nat}{T U:eD}{a:Option Go.Addr}{H N:Go.Proofs.W.Gd}{W X:Array eu}{M Y:List eu}{I J:Int}{h:Go.Addr}{D E:Bool}{O Q:Go.Obj}{K:fG}{Z:eA}{S:er->Prop}{P:eE}
namespace Go.Proofs.W
open Go.RowKit
def O3:Tryz.prog.underlying 181=some (.map 154 27):=by kernel_rfl
def O4:Tryz.prog.underlying 180=some (.map 217 220):=by kernel_rfl
def Mh(s:Nat):eu:=.int .u8 s
def qR(s:Nat):eu:=.agg (r9 s).toArray
def Xz(a b c d i e f g h j:Bool)(w:er):Sem.run V.prog (Op.equal 217 (.agg #[.bool a,.bool b,.bool c,.bool d,.bool i]) (.agg #[.bool e,.bool f,.bool g,.bool h,.bool j])) w=.ok (a==e&&(b==f&&(c==g&&(d==h&&i==j)))) w:=by
 by_cases k:a=e;subst k;by_cases l:b=f;subst l;by_cases m:c=g;subst m;by_cases n:d=h;subst n;cases a<;>cases b<;>cases c<;>cases d<;>cases i<;>cases j<;>kernel_rfl;cases a<;>cases b<;>cases c<;>cases d<;>cases h<;>first|exact absurd rfl n|kernel_rfl
 cases a<;>cases b<;>cases c<;>cases g<;>first|exact absurd rfl m|kernel_rfl
 cases a<;>cases b<;>cases f<;>first|exact absurd rfl l|kernel_rfl
 cases a<;>cases e<;>first|exact absurd rfl k|kernel_rfl
def Td:∀s:Nat,s<32->∀a:Nat,a<32->(s.testBit 0==a.testBit 0&&(s.testBit 1==a.testBit 1&&(s.testBit 2==a.testBit 2&&(s.testBit 3==a.testBit 3&&s.testBit 4==a.testBit 4))))=decide (s=a):=by decide+kernel
def RB(s a:Nat)(c:s<32)(b:a<32)(w:er):Sem.run V.prog (Op.equal 217 (qR s) (qR a)) w=.ok (decide (s=a)) w:=by rw[<-Td s c a b];exact Xz _ _ _ _ _ _ _ _ _ _ w
def O5{s a:Nat}(c:s<32)(b:a<32)(h:qR s=qR a):s=a:=by have:=Td s c a b;simp only[qR,r9,Value.agg.injEq]at h;have h:=eX Array.toList h;simp only[sM,Value.bool.injEq,and_true]at h;obtain⟨d,e,f,g,i⟩:=h;rw[d,e,f,g,i]at this;simpa using this.symm
def Ew:CZ 154 Mh:=by
 have f:Tryz.prog.underlying 154=some (.int .u8):=by kernel_rfl
 have g:∀(s:Nat) (a:List MapEntry) (i:Nat),(∀e∈a,∃b,b<32/\e.key=Mh b)->Instr.findNow (.int .u8) (Mh s) a i=some none\/∃j e,a[j]? =some e/\e.key=Mh s/\Instr.findNow (.int .u8) (Mh s) a i=some (some (i+j,e.val)):=by
  intro s a;induction a with
  |nil=>intro i _;exact .inl rfl
  |cons e r q=>
   intro i h;obtain⟨b,_,n⟩:=h e gD;have t:Instr.sameNow (.int .u8) (Mh s) e.key=some ((s:Int)==(b:Int)):=by rw[n];rfl
   unfold Instr.findNow;rw[t];by_cases p:s=b;subst p;exact .inr ⟨0,e,rfl,n,by simp⟩;have:((s:Int)==(b:Int))=false:=by simpa using(λh:(s:Int)=b=>p (by omega))
   rw[this];obtain d|⟨j,x,d,k,l⟩:=q (i+1) (λx u=>h x (gG _ u));exact .inl d;exact .inr ⟨j+1,x,by simpa using d,k,by simp only[l];congr 3;omega⟩
 refine⟨λe s w _=>by kernel_rfl,λs a v m=>?_,λs w v=>?_,λs b _ _ h=>?_⟩;have c:∀o w,Instr.findNow (.int .u8) (Mh s) a 0=some o->Sem.run lS (Instr.findKey 154 (Mh s) a) w=.ok o w:=λo w y=>by unfold Instr.findKey;simp only[Sem.run_bind,jG f,Result.andThen_ok,y,Sem.run_pure]
 obtain h|⟨j,e,d,k,l⟩:=g s a 0 m;exact⟨_,λw=>c _ w h,.inl rfl⟩;exact⟨_,λw=>c _ w l,.inr ⟨j,e,d,k,by rw[eJ]⟩⟩;unfold Instr.keyThatStays;have:Instr.sameBits 10000 (Mh s) (Mh s)=true:=by simp[Mh,Instr.sameBits]
 rw[eC this,Sem.run_pure];simp only[Mh,Value.int.injEq,true_and]at h;omega
def O6:CZ 217 qR:=by
 have f:Tryz.prog.underlying 217=some (.array 5 4):=by kernel_rfl
 have n:∀(s:Nat) (a:List MapEntry) (i:Nat),s<32->(∀e∈a,∃b,b<32/\e.key=qR b)->∃o,(∀w,Sem.run lS (Instr.findAsking 217 (qR s) a i) w=.ok o w)/\(o=none\/∃j e,a[j]? =some e/\e.key=qR s/\o=some (i+j,e.val)):=by
  intro s a;induction a with
  |nil=>intro i _ _;exact⟨none,λw=>by simp[Instr.findAsking],.inl rfl⟩
  |cons e r z=>
   intro i c h;obtain⟨b,d,m⟩:=h e gD;have p:=λw=>RB s b c d w;rw[<-m]at p;by_cases g:s=b;subst g;exact⟨some (i,e.val),λw=>by unfold Instr.findAsking;simp only[Sem.run_bind,p,Result.andThen_ok,decide_true,fF,Sem.run_pure],.inr ⟨0,e,rfl,m,rfl⟩⟩
   have step:∀w,Sem.run lS (Instr.findAsking 217 (qR s) (e::r) i) w=Sem.run lS (Instr.findAsking 217 (qR s) r (i+1)) w:=λw=>by
    conv=>lhs;unfold Instr.findAsking
    simp only[Sem.run_bind,p,Result.andThen_ok,g,decide_false,jE,gy]
   obtain⟨o,q,t⟩:=z (i+1) c λx A=>h x (gG _ A);refine⟨o,λw=>(step w).trans (q w),t.imp (λh=>h) ?_⟩;rintro⟨j,x,u,v,y⟩;exact⟨j+1,x,by simpa using u,v,by rw[y];congr 2;omega⟩
 refine⟨λe s w _=>by kernel_rfl,λs a c k=>?_,λs w c=>?_,λs b c d h=>O5 c d h⟩;cases a with
 |nil=>exact⟨none,λw=>by unfold Instr.findKey;simp only[Sem.run_bind,jG f,Result.andThen_ok,Instr.findNow,Sem.run_pure],.inl rfl⟩
 |cons e r=>
  obtain⟨b,_,m⟩:=k e gD;have B:Instr.findNow (.array 5 4) (qR s) (e::r) 0=none:=by unfold Instr.findNow;rw[m];rfl
  have l:∀w,Sem.run lS (Instr.findKey 217 (qR s) (e::r)) w=Sem.run lS (Instr.findAsking 217 (qR s) (e::r)) w:=λw=>by unfold Instr.findKey;simp only[Sem.run_bind,jG f,Result.andThen_ok,B]
  obtain⟨o,q,t⟩:=n s (e::r) 0 c k;refine⟨o,λw=>(l w).trans (q w),t.imp (λh=>h) ?_⟩;rintro⟨j,x,u,v,y⟩;exact⟨j,x,u,v,by rw[y,eJ]⟩
 unfold Instr.keyThatStays;have:Instr.sameBits 10000 (qR s) (qR s)=true:=by simp[qR,r9,Instr.sameBits]
 rw[eC this,Sem.run_pure]
def jM(A:eN)(w:er)(a:fR)(l:ew):Prop:=∀k (h:k<l.length),∃b o,¬A b/\a=some ⟨b,o,none⟩/\w.cell? ⟨b,o+k,none⟩=some (.int .i64 l[k])
def nX(A:eN)(w:er)(a:fR)(ls:List ew):Prop:=∀k (h:k<ls.length),∃b o c d,¬A b/\a=some ⟨b,o,none⟩/\w.cell? ⟨b,o+k,none⟩=some (.slice c ls[k].length d)/\jM A w c ls[k]/\ls[k].length<=d
def pY{w:er}{b o:Nat}(h:w.cell? ⟨b,o,none⟩=some x):b<w.heap.size:=by refine yF λa=>?_;have:w.heap[b]? =none:=ou a;simp[World.cell?,this]at h
section
variable{A A':Nat->Prop}{w w':er}{a:Option Addr}{l:List Nat}{ls:List (List Nat)}{n0:Nat}
theorem jM.n(h:jM A w a l):iM w a l:=λk c=>by obtain⟨b,o,_,d,e⟩:=h k c;exact⟨b,o,d,e⟩
theorem nX.rows(h:nX A w a ls):vm w a ls:=λk c=>by obtain⟨b,o,d,e,_,f,g,i,j⟩:=h k c;exact⟨b,o,d,e,f,g,i.n,j⟩
theorem jM.go(h:jM A w a l)(e:∀b,A' b->A b\/w.heap.size<=b)(f:∀b o v,¬A b->w.cell? ⟨b,o,none⟩=some v->w'.cell? ⟨b,o,none⟩=some v):jM A' w' a l:=λk g=>by obtain⟨b,o,c,i,d⟩:=h k g;refine⟨b,o,λj=>?_,i,f _ _ _ c d⟩;have:=pY d;obtain h|h:=e b j;exact c h;omega
theorem nX.go(h:nX A w a ls)(c:∀b,A' b->A b\/w.heap.size<=b)(d:∀b o v,¬A b->w.cell? ⟨b,o,none⟩=some v->w'.cell? ⟨b,o,none⟩=some v):nX A' w' a ls:=λk g=>by obtain⟨b,o,i,j,e,l,f,m,n⟩:=h k g;refine⟨b,o,i,j,λp=>?_,l,d _ _ _ e f,m.go c d,n⟩;have:=pY f;obtain h|h:=c b p;exact e h;omega
theorem jM.jJ(h:jM A w a l)(e:lf n0 w w'):jM A w' a l:=h.go (λ_ h=>.inl h) λ_ _ _ _ b=>e.cell b
theorem nX.jJ(h:nX A w a ls)(e:lf n0 w w'):nX A w' a ls:=h.go (λ_ h=>.inl h) λ_ _ _ _ b=>e.cell b
theorem jM.more(h:jM A w a l)(c:∀b,A' b->A b\/w.heap.size<=b):jM A' w a l:=h.go c λ_ _ _ _ d=>d
theorem nX.more(h:nX A w a ls)(c:∀b,A' b->A b\/w.heap.size<=b):nX A' w a ls:=h.go c λ_ _ _ _ d=>d
theorem jq.Ua{d:Nat}(h:jq d w x l)(f:∀b,A b->b<d):∃a c,x=.slice a l.length c/\jM A w a l/\l.length<=c:=by obtain⟨o,⟨g,rfl⟩|⟨b,c,p,q,rfl,i,r,j,s,m,t⟩⟩:=h;exact⟨none,0,by rw[g],λk e=>by omega,by omega⟩;refine⟨_,c,rfl,λk e=>⟨b,0,λn=>by have:=f b n;omega,rfl,?_⟩,j⟩;refine eB i ?_;rw[eJ,m k (by simp[gU];omega)];simp[gU,gC e]
end
def ShR(A:eN)(G:Gd)(s:Nat)(v:eu)(w:er):Prop:=∃a c,v=.slice a (fy G s).length c/\jM A w a (fy G s)/\(fy G s).length<=c
def Mi(A:eN)(o:Option (List ew))(v:eu)(b:Bool)(w:er):Prop:=match o with
 |none=>v=.slice none 0 0/\b=false
 |some ls=>b=true/\∃a c,v=.slice a ls.length c/\nX A w a ls/\ls.length<=c
def VL(A:eN)(G:Gd)(s:Nat)(v:eu)(w:er):Prop:=∃u b,v=.agg #[u,.bool b]/\Mi A (iw G s) u b w
structure nA(A:Nat->Prop)(mk ms:Nat)(G:Gd)(w:er):Prop where
 s:nJ Mh (ShR A G) ms w
 k:nJ qR (VL A G) mk w
 ak:¬A mk
 asm:¬A ms
section
variable{A A':Nat->Prop}{w w' w1 w2:er}{G:Gd}{mk ms n0:Nat}
theorem ShR.go{s:Nat}(h:ShR A G s x w)(d:∀b,A' b->A b\/w.heap.size<=b)(e:∀b o x,¬A b->w.cell? ⟨b,o,none⟩=some x->w'.cell? ⟨b,o,none⟩=some x):ShR A' G s x w':=by obtain⟨a,c,f,g,i⟩:=h;exact⟨a,c,f,g.go d e,i⟩
theorem Mi.go{o:Option (List ew)}{b:Bool}(h:Mi A o x b w)(d:∀b,A' b->A b\/w.heap.size<=b)(e:∀b o x,¬A b->w.cell? ⟨b,o,none⟩=some x->w'.cell? ⟨b,o,none⟩=some x):Mi A' o x b w':=by
 cases o with
 |none=>exact h
 |some ls=>
  obtain⟨f,a,c,g,i,j⟩:=h;exact⟨f,a,c,g,i.go d e,j⟩
theorem VL.go{s:Nat}(h:VL A G s x w)(a:∀b,A' b->A b\/w.heap.size<=b)(c:∀b o x,¬A b->w.cell? ⟨b,o,none⟩=some x->w'.cell? ⟨b,o,none⟩=some x):VL A' G s x w':=by obtain⟨u,b,d,e⟩:=h;exact⟨u,b,d,e.go a c⟩
def nJ.go{c:Nat->eu}{R d:Nat->oz}{r:Nat}(h:nJ c R r w)(e:∀s v,R s v w->d s v w')(a:∀o,w.heap[r]? =some o->w'.heap[r]? =some o):nJ c d r w':=by obtain⟨f,b,g,i⟩:=h.out;exact⟨f,b,a _ g,λx j=>by obtain⟨s,k,l,m⟩:=i x j;exact⟨s,k,l,e _ _ m⟩⟩
def nJ.lt{a:Nat->eu}{R:Nat->oz}{r:Nat}(h:nJ a R r w):r<w.heap.size:=by obtain⟨d,b,c,_⟩:=h.out;exact eV.lt_of_heap c
theorem nA.go(h:nA A mk ms G w)(d:∀b,A' b->A b\/w.heap.size<=b)(i:∀b o v,¬A b->w.cell? ⟨b,o,none⟩=some v->w'.cell? ⟨b,o,none⟩=some v)(a:∀b o,b=mk\/b=ms->w.heap[b]? =some o->w'.heap[b]? =some o):nA A' mk ms G w':=by have j:=h.k.lt;have ls:=h.s.lt;refine⟨h.s.go (λs v e=>e.go d i) λo f=>a _ _ (.inr rfl) f,h.k.go (λs v e=>e.go d i) λo f=>a _ _ (.inl rfl) f,λg=>?_,λg=>?_⟩;obtain c|c:=d _ g;exact h.ak c;omega;obtain c|c:=d _ g;exact h.asm c;omega
def nA.ext(h:nA A mk ms G w)(e:Ext w w'):nA A mk ms G w':=h.go (λ_ h=>.inl h) (λ_ _ _ _ a=>e.cell a) λb o _ c=>e.at_ c
def nA.more(h:nA A mk ms G w)(a:∀b,A' b->A b\/w.heap.size<=b):nA A' mk ms G w:=h.go a (λ_ _ _ _ c=>c) λ_ _ _ h=>h
def nA.keep{F:eN}(h:nA A mk ms G w)(k:eY F w w')(c:∀b,F b->A b):nA A mk ms G w':=
 h.go (λ_ h=>.inl h) (λb o v d e=>k.gM e λa=>d (c b a)) λb o d f=>k.iZ f λa=>by obtain rfl|rfl:=d;exact h.ak (c _ a);exact h.asm (c _ a)
end
def MR(n0 mk ms:Nat)(G:Gd)(a b:er):Prop:=lf n0 a b/\∀A:eN,(∀x,A x->x<a.heap.size)->nA A mk ms G a->nA A mk ms G b
section
variable{n0 mk ms:Nat}{G:Gd}{a b c:er}
theorem MR.refl(a:er):MR n0 mk ms G a a:=⟨lf.refl _ _,λ_ _ h=>h⟩
theorem MR.trans(h:MR n0 mk ms G a b)(k:MR n0 mk ms G b c):MR n0 mk ms G a c:=⟨h.1.trans k.1,λA d e=>k.2 A (λx f=>fN (d x f) h.1.size) (h.2 A d e)⟩
def Ext.mr(h:Ext a b):MR n0 mk ms G a b:=⟨h.jJ n0,λA _ c=>c.ext h⟩
def V9(n0 mk ms:Nat)(G:Gd):jd (MR n0 mk ms G):=⟨MR.refl,λ_ _ _=>MR.trans,λw=>(Ext.drew w).mr⟩
end
section
variable{w:er}{k:eu->er->Prop}
def A5{a:fD}(g:GK T U a){l c:Nat}(j:l<=c)(m:c<=100000)(h:∀b d,Ext w b->w.heap.size<=d->b.heap[d]? =some (.cells (madeCells a.toArray (c*a.length)) U)->k (.slice (some ⟨d,0,none⟩) l c) b):lY V.prog (Instr.makeSlice T (.int .i64 l) (.int .i64 c)) w k:=by
 obtain⟨n,i,z,f,o,p,q,r,s⟩:=g
 have e:=run_make (P:=lS) w T U i z n f o .i64 .i64 (l:Int) (c:Int) (by omega) (by omega) (by
  have:i.bytes*c<=256*100000:=Nat.mul_le_mul r m;have f:((i.bytes:Int)*(c:Int))=((i.bytes*c:Nat):Int):=by simp
  omega) (by omega)
 simp only[sL]at e;rw[p,q]at e;exact⟨_,_,e,h _ w.mN (Ext.alloc _ _) (eF _) (io _ _)⟩
def xa(z:eu)(n:Nat):madeCells #[z] n=Array.replicate n z:=by apply Array.ext;simp[madeCells];intro i a b;simp[madeCells,Nat.mod_one]
def Vd:GK 225 4 [.bool false]:=⟨by kernel_rfl,Tryz.t4,_,by kernel_rfl,rfl,by kernel_rfl,by kernel_rfl,by decide+kernel,by decide⟩
def Kv{e:eD}{z:eu}{s:Array Bool}(t:GK T e [z]){d:fZ}(g:w.heap[m]? =some (.cells d e))(a:i+1<=j)(h:i<d.size){u:eu}(y:w.cell? ⟨o,0,none⟩=some u)(A:u.oneCell'=true)
 (B:∀l,eY (λx=>x=m) w l->l.heap[m]? =some (.cells (d.setIfInBounds i u) e)->k (.slice (some ⟨m,0,none⟩) (i+1) j) l):zw V.prog (builtin .append #[T,T] U s #[.slice (some ⟨m,0,none⟩) i j,.slice (some ⟨o,0,none⟩) 1 p]) w k:=by
 obtain⟨n,r,E,C,F,G,c,H,I⟩:=t;have c:r.size=1:=c
 have q:=run_append_room_cells (P:=lS) w T U e r n C m 0 i j (eQ o 0) 1 p [u] (by simp[c]) (λf v b=>by
  match f,b with
  |0,b=>cases b;rw[je];exact y) (λv D=>by obtain rfl:=gW.1 D;exact A) a (λf b=>by
  have:f=0:=by simpa using b
  subst this;simp[World.cell?,g,c,h]) (λf b=>by simp[World.frozen?,g])
 rw[c]at q;simp only[eJ,nZ]at q;refine⟨_,w.setCells m i [u],?_,B _ (mS _ _ _ _ _ (eY.refl _ w)) (qz [u] w m i d e (0,0) g)⟩;unfold builtin;simp only[Sem.run_bind,q,Result.andThen_ok,Sem.run_pure]
end
structure E2(r u:Nat)(o1 Wa o2 Wb:Obj)(a b:er):Prop where
 k:eY (λx=>x=r\/x=u) a b
 r1:a.heap[r]? =some Wa->b.heap[r]? =some Wa
 r0:a.heap[r]? =some o1->b.heap[r]? =some o1\/b.heap[r]? =some Wa
 u1:a.heap[u]? =some Wb->b.heap[u]? =some Wb
 u0:a.heap[u]? =some o2->b.heap[u]? =some o2\/b.heap[u]? =some Wb
def Ve(r u:Nat)(f d g e:Obj):jd (E2 r u f d g e):=
 ⟨λw=>⟨eY.refl _ w,id,.inl,id,.inl⟩,λa b c h k=>⟨h.k.trans k.k (λ_ _ h=>h) λ_ _ h=>h,λx=>k.r1 (h.r1 x),λx=>by
  obtain y|y:=h.r0 x;exact k.r0 y;exact .inr (k.r1 y),λx=>k.u1 (h.u1 x),λx=>by
  obtain y|y:=h.u0 x;exact k.u0 y;exact .inr (k.u1 y)⟩,λw=>⟨(Ext.drew w).keep _,id,.inl,id,.inl⟩⟩
def E2.Vf{d c:Obj}{a b:er}(h:Ext a b):E2 m i O Q d c a b:=⟨h.keep _,λx=>h.at_ x,λx=>.inl (h.at_ x),λx=>h.at_ x,λx=>.inl (h.at_ x)⟩
def E2.cell{d c:Obj}{a b:er}(e:E2 m i O Q d c a b){v:eu}(f:a.cell? h=some v)(g:h.block≠m)(j:h.block≠i):b.cell? h=some v:=e.k.gM f (by omega)
def E2.t1{e d:Obj}{a b:er}(k:eY (λx=>x=m) a b)(c:m≠i)(h:b.heap[m]? =some Q):E2 m i O Q e d a b:=
 ⟨k.trans (eY.refl (λ_=>False) b) (λ_ _ h=>.inl h) λ_ _ h=>h.elim,λ_=>h,λ_=>.inr h,λx=>k.iZ x (jb c),λx=>.inl (k.iZ x (jb c))⟩
def E2.t2{e c:Obj}{a b:er}(k:eY (λx=>x=i) a b)(d:m≠i)(h:b.heap[i]? =some c):E2 m i O Q e c a b:=
 ⟨k.trans (eY.refl (λ_=>False) b) (λ_ _ h=>.inr h) λ_ _ h=>h.elim,λx=>k.iZ x d,λx=>.inl (k.iZ x d),λ_=>h,λ_=>.inr h⟩
section
variable{E:er->er->Prop}{w:er}{kx:eu->Prop}{kr kp kl:jD->Prop}{lb ea:Bool}
def ye{v:eu}(b:jd E)(c:∀a,E w a->a.cell? h=some v)(k:kx v)(d:I1 T=some false:=by rfl):AP E E w (λa f=>lY V.prog (Instr.loadAt T (.pointer (some h))) a f) kx kr kp lb kl ea:=
 dx v (λa e=>eH (c a e) ⟨rfl,b.refl _⟩ d) k
end
structure B9 where
 (rv lv yv uv gv rb ub lp:Nat)(la:Option Addr)(lc:Nat)
def eT(b:Nat):eu:=.pointer (some ⟨b,0,none⟩)
def B9.pj(e:B9):fZ:=#[eT e.rv,eT e.lv,eT e.yv,eT e.uv,eT e.gv]
structure Wc(e:B9):Prop where
 r:e.rv≠e.lv/\e.rv≠e.yv/\e.rv≠e.uv/\e.rv≠e.gv/\e.rv≠e.rb/\e.rv≠e.ub
 b:e.rb≠e.lv/\e.rb≠e.yv/\e.rb≠e.uv/\e.rb≠e.gv/\e.rb≠e.ub
 u:e.ub≠e.lv/\e.ub≠e.yv/\e.ub≠e.uv/\e.ub≠e.gv
 l:∀b o,e.la=some ⟨b,o,none⟩->b≠e.rv/\b≠e.rb/\b≠e.ub
def lN(a:List Bool):Obj:=.cells (a.map Value.bool).toArray 4
structure Kw(e:B9)(l row:List Nat)(used:List Bool)(w:er):Prop where
 rv:w.heap[e.rv]? =some (.cells #[.slice (some ⟨e.rb,0,none⟩) row.length l.length] 27)
 lv:w.cell? ⟨e.lv,0,none⟩=some (.slice e.la l.length e.lc)
 yv:w.cell? ⟨e.yv,0,none⟩=some (.func (.yield e.lp) #[] #[])
 uv:w.cell? ⟨e.uv,0,none⟩=some (.slice (some ⟨e.ub,0,none⟩) l.length l.length)
 gv:w.cell? ⟨e.gv,0,none⟩=some (.func (.func 197) #[] e.pj)
 rb:∃cs,w.heap[e.rb]? =some (.cells cs 3)/\cs.size=l.length/\∀j (h:j<row.length),cs[j]? =some (.int .i64 row[j])
 ub:w.heap[e.ub]? =some (lN used)
 ul:used.length=l.length
 row:iM w e.la l
def Kw.keep{e:B9}{a:List Bool}(h:Kw e l f a w)(k:eY A w t)(d:∀b,A b->b≠e.rv/\b≠e.lv/\b≠e.yv/\b≠e.uv/\b≠e.gv/\b≠e.rb/\b≠e.ub/\∀g o,e.la=some ⟨g,o,none⟩->b≠g):Kw e l f a t:=by
 have n:∀b,(b=e.rv\/b=e.lv\/b=e.yv\/b=e.uv\/b=e.gv\/b=e.rb\/b=e.ub)->¬A b:=λb v c=>by have:=d b c;omega
 obtain⟨m,p,q,r⟩:=h.rb;refine⟨k.iZ h.rv (n _ (.inl rfl)),k.gM h.lv (n _ (.inr (.inl rfl))),k.gM h.yv (n _ (.inr (.inr (.inl rfl)))),k.gM h.uv (n _ (by simp)),k.gM h.gv (n _ (by simp)),⟨m,k.iZ p (n _ (by simp)),q,r⟩,k.iZ h.ub (n _ (by simp)),h.ul,λi s=>?_⟩;obtain⟨b,o,j,u⟩:=h.row i s;exact⟨b,o,j,k.gM u λc=>(d _ c).2.2.2.2.2.2.2 _ _ j rfl⟩
def Kw.Fz{e:B9}(g:Wc e){c:ew}{d a:List Bool}(h:Kw e l f d w)(k:eY (λx=>x=e.rv\/x=e.rb\/x=e.ub) w t)
 (p:t.heap[e.rv]? =some (.cells #[.slice (some ⟨e.rb,0,none⟩) c.length l.length] 27))(q:∃n,t.heap[e.rb]? =some (.cells n 3)/\n.size=l.length/\∀j (h:j<c.length),n[j]? =some (.int .i64 c[j]))(s:t.heap[e.ub]? =some (lN a))(v:a.length=l.length):Kw e l c a t:=by
 obtain⟨B,C,D,E,F,G⟩:=g.r;obtain⟨H,I,J,K,L⟩:=g.b;obtain⟨M,N,O,P⟩:=g.u;refine⟨p,k.gM h.lv (by show¬(e.lv=_\/e.lv=_\/e.lv=_);omega),k.gM h.yv (by show¬(e.yv=_\/e.yv=_\/e.yv=_);omega),k.gM h.uv (by show¬(e.uv=_\/e.uv=_\/e.uv=_);omega),k.gM h.gv (by show¬(e.gv=_\/e.gv=_\/e.gv=_);omega),q,s,v,λi y=>?_⟩;obtain⟨m,z,o,A⟩:=h.row i y;have:=g.l _ _ o;exact⟨m,z,o,k.gM A (by show¬(m=_\/m=_\/m=_);omega)⟩
def Te{a:B9}{c b:Obj}(d:E2 a.rb a.ub O Q c b w t)(f:eY (λx=>x=a.rv) t e):eY (λx=>x=a.rv\/x=a.rb\/x=a.ub) w e:=
 (d.k.trans f (λ_ _ h=>.inr h) λ_ _ h=>.inl h)
def yf(l:ew)(m:Nat)(b:ew)(a:List Bool)(k:Nat):List ew:=(List.range k).flatMap λi=>if a.getD i false then []else pX l m (b++[l.getD i 0]) (a.set i true)
def yR(l:ew)(m:Nat)(b:ew)(a:List Bool)(k:Nat):yf l m b a (k+1)=yf l m b a k++if a.getD k false then []else pX l m (b++[l.getD k 0]) (a.set k true):=by unfold yf;rw[nF,List.flatMap_append];simp
def G1(e:B9)(l:ew)(Y:List ew->fa):Prop:=∀i b c w,b.length=l.length->(∀d∈b,d∈l)->Kw e l b c w->Y i w->∃f g a h,Sem.run V.prog (Instr.yield e.lp #[.slice (some ⟨e.rb,0,none⟩) b.length l.length]) w=.ok (.round e.lp f g a h) w/\RoundIn Fence.wide 0 V.prog e.lp f g a h w λk j=>k=.returned (.bool true)/\Kw e l b c j/\Y (i++[b]) j
def Ex(a:fZ)(k:Nat)(v:eu):(a.setIfInBounds k v).setIfInBounds k v=a.setIfInBounds k v:=by simp
def G2(a:List Bool)(k:Nat)(b:Bool):((a.map Value.bool).toArray).setIfInBounds k (.bool b)=((a.set k b).map Value.bool).toArray:=by simp[List.map_set]
theorem Kx{e:B9}(P:Wc e)(aa:l.length<=100000){Y:List ew->fa}(hY:∀s a b,Y s a->eY (λx=>x=e.rv\/x=e.rb\/x=e.ub) a b->Y s b)(hy:G1 e l Y):
 ∀m g c s w,g.length+m=l.length->(∀d∈g,d∈l)->Kw e l g c w->Y s w->Calls V.prog 197 e.pj w (jy λv G=>v=.bool true/\Kw e l g c G/\Y (s++pX l m g c) G)
 |m,g,c,s,w,hm,N,h,Q=>by
  obtain⟨o1,o2,o3,o4,o5,o6⟩:=P.r;obtain⟨p1,p2,p3,p4,p5⟩:=P.b;obtain⟨q1,q2,q3,q4⟩:=P.u;have ax:=P.l;refine jT Tryz.func197 Tryz.ntmps197 ?_;refine eH (eB h.rv rfl) (fe (eH h.lv (fe (iL ⟨λZ=>?_,λZ=>?_⟩))));have Z:g.length=l.length:=by simp at Z;omega
  obtain rfl:m=0:=by omega
  obtain⟨f,au,ah,av,ab,hR⟩:=hy s g c w Z N h Q;refine eH h.yv (eH (eB h.rv rfl) ⟨_,_,_,_,ab,hR.mono ?_⟩);rintro en G ⟨rfl,K,h2⟩;exact⟨_,rfl,rfl,K,h2⟩;have Z:g.length≠l.length:=by simp at Z;omega
  obtain⟨m,rfl⟩:∃m',m=m'+1:=⟨m-1,by omega⟩;refine eH h.lv (fe (gO (n:=l.length) (λk=>[(0,eT e.rv),(1,eT e.lv),(2,eT e.yv),(3,eT e.uv),(4,eT e.gv),(17,.slice e.la l.length e.lc),(18,i64 l.length),(19,i64 k)]) (λk G=>Kw e l g c G/\Y (s++yf l m g c k) G) ⟨by trivial,h,by simpa[yf]using Q⟩ ?_ ?_ ?_));rintro k G R hJ;exact fO ⟨rfl,rfl,by trivial,hJ⟩;rintro k G R ⟨h,Q⟩;obtain⟨b,o,S,T⟩:=h.row k R;have U:k<c.length:=by rw[h.ul];exact R
  have ai:G.cell? (eQ e.ub (0+k))=some (.bool c[k]):=by refine eB h.ub ?_;simp[U]
  have ac:c.getD k false=c[k]:=getD_eq U;have aj:l.getD k 0=l[k]:=getD_eq R;rw[S];refine gN k R (eH T (eH h.uv (gN k R (eH ai ⟨λhu=>?_,λhu=>?_⟩))));refine eK ⟨⟨rfl,rfl,rfl,rfl,rfl,by rw[<-S];rfl,rfl,rfl,trivial⟩,h,?_⟩;rw[yR,ac,hu];simpa using Q;obtain⟨C,g1,g2,g3⟩:=h.rb;have aw:g.length<l.length:=by omega
  have hE:=Ve e.rb e.ub (.cells C 3) (.cells (C.setIfInBounds g.length (i64 l[k])) 3) (lN c) (lN (c.set k true));refine fB hE ?_;refine ye hE (λq p=>p.cell h.uv (by show e.uv≠e.rb;omega) (by show e.uv≠e.ub;omega)) ?_;refine ye hE (λq p=>p.cell (eB h.rv rfl) o5 o6)<| .rel (λv w=>∃H,v=fP H 1 1/\H≠e.rb/\H≠e.ub/\w.heap[H]? =some (.cells [Value.int .i64 l[k]].toArray 3)) ?_ (λq p=>ie [Value.int .i64 l[k]] 3 λt H e2 ad hb=>⟨⟨H,rfl,?_,?_,hb⟩,E2.Vf e2⟩) ?_;rintro v a b ⟨H,K,h2,h3,h4⟩ p;exact⟨H,K,h2,h3,p.k.iZ h4 (by omega)⟩;have:=eV.lt_of_heap g1;have:=p.k.size;omega;have:=eV.lt_of_heap h.ub;have:=p.k.size;omega;refine .rel (λv w=>v=fP e.rb (g.length+1) l.length/\gY w e.rb (C.setIfInBounds g.length (i64 l[k])) 3) ?_ ?_ ?_;rintro v a b ⟨K,h2⟩ p;exact⟨K,p.r1 h2⟩;rintro q p v ⟨H,rfl,n1,n2,hb⟩;have y:∀L,gY q e.rb L 3->L.size=C.size->L.setIfInBounds g.length (i64 l[k])=C.setIfInBounds g.length (i64 l[k])->zw V.prog (builtin .append #[27,27] 27 (#[Operand.tmp 30,Operand.tmp 32].map λ| .const _=>true|_=>false) #[fP e.rb g.length l.length,fP H 1 1]) q λu t=>(u=fP e.rb (g.length+1) l.length/\gY t e.rb (C.setIfInBounds g.length (i64 l[k])) 3)/\E2 e.rb e.ub (.cells C 3) (.cells (C.setIfInBounds g.length (i64 l[k])) 3) (lN c) (lN (c.set k true)) q t:=λL ak ay z=>by refine Kv (u:=i64 l[k]) vk ak (by omega) (by omega) (eB hb rfl) rfl λt I i=>?_;rw[z]at i;exact⟨⟨rfl,i⟩,E2.t1 I p5 i⟩
  obtain D|D:=p.r0 g1;exact y C D rfl rfl;exact y _ D (by simp) (Ex _ _ _);refine .exact (oJ e.ub (0+k)) (λq p v hv=>gN k (by omega) ⟨rfl,hE.refl _⟩)<| .AS (λ_ w=>w.heap[e.ub]? =some (lN (c.set k true))) (λ_ a b K p=>p.u1 K) (λq p v hv=>?_) ?_
  have y:∀J:List Bool,q.heap[e.ub]? =some (lN J)->J.length=c.length->J.set k true=c.set k true->H5 V.prog (Instr.storeAt 4 (oJ e.ub (0+k)) (.bool true)) q λt=>t.heap[e.ub]? =some (lN (c.set k true))/\E2 e.rb e.ub (.cells C 3) (.cells (C.setIfInBounds g.length (i64 l[k])) 3) (lN c) (lN (c.set k true)) q t:=λJ W al z=>by
   refine kY W (by simp[Value.cells];omega) (λt I i=>by
   have i:t.heap[e.ub]? =some (lN (c.set k true)):=by rw[i,lN,<-z,<-G2];simp[jk,Value.cells]
   exact⟨i,E2.t2 I p5 i⟩) (iK rfl)
  obtain D|D:=p.u0 h.ub;exact y c D rfl rfl;exact y _ D (by simp) (by simp);intro q p v1 M v2 ad hJ;obtain⟨rfl,M⟩:v1=fP e.rb (g.length+1) l.length/\gY q e.rb (C.setIfInBounds g.length (i64 l[k])) 3:=M;replace hJ:q.heap[e.ub]? =some (lN (c.set k true)):=hJ;clear ad;have O:=p.k.iZ h.rv (by omega);refine fV O λt I i=>?_;have k3:=Te p I;have hW:Kw e l (g++[l[k]]) (c.set k true) t:=by
   refine h.Fz P k3 (by rw[i];simp[jk,Value.cells]) ⟨_,I.iZ M (by omega),by simp[g2],λj hj=>?_⟩ (I.iZ hJ (by omega)) (by simp[h.ul]);obtain ae|az:=gQ j g.length;rw[gm (by omega),g3 j ae,nE ae];obtain rfl:j=g.length:=by simp at hj;omega
   rw[mG (by omega)];simp
  have am:Y (s++yf l m g c k) t:=hY _ _ _ Q k3;clear i O I M hJ p k3;refine eH hW.gv (eL (Kx P aa hY hy m (g++[l[k]]) (c.set k true) _ t (by simp;omega) (λd hd=>by obtain hd|hd:=ja.1 hd;exact N d hd;rw[gW.1 hd];exact ft R) hW am) ?_);rintro v w3 ⟨rfl,E,an⟩;obtain⟨F,t1,t2,t3⟩:=E.rb;have A:=Ve e.rb e.ub (.cells F 3) (.cells F 3) (lN (c.set k true)) (lN c);have ao:(g++[l[k]]).length=g.length+1:=by simp
  have B:=E.rv;rw[ao]at B;refine fB A ?_;refine ye A (λq p=>p.cell E.uv (by show e.uv≠e.rb;omega) (by show e.uv≠e.ub;omega)) ?_;refine ye A (λq p=>p.cell (eB B rfl) o5 o6)<|ye A (λq p=>p.cell (eB B rfl) o5 o6)<|VJ (i64 ((g.length+1:Nat):Int)) (λq _=>fe ⟨rfl,A.refl _⟩)<|xY (n:=1) ?_ (by omega) A;refine dx (fP e.rb g.length l.length) (λq _=>wT g.length (by omega) ⟨rfl,A.refl _⟩ (by omega))<|sZ k (by omega) ?_ rfl rfl A;refine .AS (λ_ w=>w.heap[e.ub]? =some (lN c)) (λ_ a b K p=>p.u1 K) (λq p=>?_) ?_;have af:c.set k false=c:=by apply List.ext_getElem?;intro j;by_cases hj:j=k;subst hj;simp[U,hu];rw[List.getElem?_set_ne (by omega)]
  have y:∀J:List Bool,q.heap[e.ub]? =some (lN J)->J.length=c.length->J.set k false=c->H5 V.prog (Instr.storeAt 4 (oJ e.ub (0+k)) (.bool false)) q λt=>t.heap[e.ub]? =some (lN c)/\E2 e.rb e.ub (.cells F 3) (.cells F 3) (lN (c.set k true)) (lN c) q t:=λJ W al z=>by
   refine kY W (by simp[Value.cells];omega) (λt I i=>by
   have i:t.heap[e.ub]? =some (lN c):=by
    have h4:lN c=.cells ((J.map Value.bool).toArray.setIfInBounds k (.bool false)) 4:=by rw[G2,z];rfl
    rw[i,h4];simp[jk,Value.cells]
   exact⟨i,E2.t2 I p5 i⟩) (iK rfl)
  obtain D|D:=p.u0 E.ub;exact y _ D (by simp) (by rw[List.set_set];exact af);exact y _ D rfl af;intro w4 e4 X;replace X:w4.heap[e.ub]? =some (lN c):=X;have ag:=e4.k.iZ B (by omega);refine fV ag λw5 k5 ap=>?_;have k6:=Te e4 k5;have aq:Kw e l g c w5:=E.Fz P k6 (by rw[ap];simp[jk,Value.cells]) ⟨F,k5.iZ ((e4.r0 t1).elim id id) (by omega),t2,λj hj=>by rw[t3 j (by simp;omega),nE hj]⟩ (k5.iZ X (by omega)) h.ul;have ar:=hY _ _ _ an k6;refine gT (nU rfl (eK ⟨⟨rfl,rfl,rfl,rfl,rfl,by rw[<-S];rfl,rfl,rfl,trivial⟩,aq,?_⟩));rw[yR,ac,hu,aj];simpa using ar;rintro G ⟨h,Q⟩;exact⟨_,rfl,rfl,h,Q⟩
def Vg:Obj:=.cells #[.slice none 0 0] 27
structure ZE(n0:Nat)(a b:er):Prop where
 os:b.os=a.os
 tape:b.tape=a.tape
 output:b.output=a.output
 size:a.heap.size<=b.heap.size
 drawn:a.drawn<=b.drawn
 block:∀x o,a.heap[x]? =some o->b.heap[x]? =some o\/(n0<=x/\o=Vg/\∃u,u≠ .slice none 0 0/\b.heap[x]? =some (.cells #[u] 27))
def Wd(g:Nat):jd (ZE g):=by refine⟨λw=>⟨rfl,rfl,rfl,eF _,eF _,λx o h=>.inl h⟩,λa b c h k=>⟨k.os.trans h.os,k.tape.trans h.tape,k.output.trans h.output,ff h.size k.size,ff h.drawn k.drawn,λx o i=>?_⟩,λw=>⟨rfl,rfl,rfl,eF _,nh _,λx o h=>.inl h⟩⟩;obtain e|⟨e,j,u,f,l⟩:=h.block x o i;exact k.block x o e;obtain m|⟨_,d,_⟩:=k.block x _ l;exact .inr ⟨e,j,u,f,m⟩;exfalso;unfold Vg at d;injection d with d;apply f;have:=eX (λa=>a[0]?) d;simpa using this
def Ext.ze(h:Ext w t)(a:Nat):ZE a w t:=⟨h.os,h.tape,h.output,h.size,h.drawn,λx o b=>.inl (h.at_ b)⟩
def ZE.ext(h:ZE m w t)(d:w.heap.size<=m):Ext w t:=⟨h.os,h.tape,h.output,h.size,h.drawn,λx c=>by have a:w.heap[x]? =some w.heap[x]:=lA c;obtain b|⟨b,_⟩:=h.block x _ a;rw[b,a];omega⟩
def ZE.at_(h:ZE m w t)(a:w.heap[k]? =some O)(b:O≠Vg):t.heap[k]? =some O:=(h.block k O a).elim id λh=>absurd h.2.1 b
def ZE.store{f:Nat}{a b:er}{x:Nat}{u:eu}(k:eY (λy=>y=x) a b)(h:f<=x)(i:u≠ .slice none 0 0)(c:a.heap[x]? =some Vg\/a.heap[x]? =some (.cells #[u] 27))(g:b.heap[x]? =some (.cells #[u] 27)):ZE f a b:=
 ⟨k.os,k.tape,k.output,k.size,k.drawn,λy o d=>by by_cases e:y=x;subst e;obtain c|c:=c;rw[d]at c;exact .inr ⟨h,eP c,u,i,g⟩;rw[d]at c;rw[g];exact .inl c.symm;exact .inl (k.iZ d e)⟩
def xd(h:T≠U):Obj.cells W T≠ .cells X U:=λe=>by injection e with _ e;exact h e
def RD(i m:Nat)(F:eN)(Y:(eN)->List ew->fa)(l:ew):Prop:=∀B h c j w,(∀b,B b->m<=b/\b<w.heap.size)->B j->iM w (some ⟨j,0,none⟩) c->c.length=l.length->(∀d∈c,d∈l)->Y B h w->∃f e a g,Sem.run V.prog (Instr.yield i #[.slice (some ⟨j,0,none⟩) c.length l.length]) w=.ok (.round i f e a g) w/\RoundIn Fence.wide 0 V.prog i f e a g w λn k=>n=.returned (.bool true)/\eY F w k/\Y B (h++[c]) k
def Mj(J:l.length<=100000){lc lv lp n0:Nat}{F:eN}{Y:(eN)->List ew->fa}(hn:n0=w.heap.size) (aa:w.cell? ⟨lv,0,none⟩=some (.slice a l.length lc))(ab:iM w a l)(al:∀b o,a=some ⟨b,o,none⟩->b<w.heap.size)(hF:∀b,F b->b<w.heap.size/\b≠lv/\∀b' o,a=some ⟨b',o,none⟩->b≠b') (h0:∀c B,Ext w c->(∀b,B b->n0<=b/\b<c.heap.size)->Y B [] c)(hY:∀B m q b,Y B m q->eY B q b->Y B m b)(hy:RD lp n0 F Y l):
 Calls V.prog 196 #[.func (.yield lp) #[] #[],eT lv] w (jy λv w'=>∃B,Y B (pi l) w'):=by
 subst hn;have ac:lv<w.heap.size:=pY aa;refine jT Tryz.func196 Tryz.ntmps196 ?_;refine jx λD yv ey aI ad=>?_;have aJ:=eV.lt_of_heap ad;have U:=ey.cell aa;refine kD 8 fl (Wd D.heap.size) (λq b h=>h.ze _) ?_;have ae:∀c,ZE D.heap.size D c->lY V.prog (Instr.loadAt 27 (fp lv)) c λu N=>u=.slice a l.length lc/\Ext c N:=λc n=>eH ((n.ext (eF _)).cell U) iJ;refine .exact _ ae (.exact (i64 l.length) (λc _=>fe iJ) ?_);refine .rel (λv c=>∃g,v=fP g 0 l.length/\D.heap.size<=g/\c.heap[g]? =some (.cells (Array.replicate l.length (i64 0)) 3)) ?_ (λc n=>A5 (l:=0) vk (iQ _) J λN W X E A=>⟨⟨W,rfl,ff n.size E,?_⟩,X⟩) ?_
 ·rintro v q b ⟨g,P,Q,K⟩ n;exact⟨g,P,Q,n.at_ K (xd (by decide))⟩
 ·rw[A];simp[xa]
 refine .exact _ ae (.exact (i64 l.length) (λc _=>fe iJ) ?_);refine .rel (λv c=>∃C,v=fP C l.length l.length/\D.heap.size<=C/\c.heap[C]? =some (.cells (Array.replicate l.length (.bool false)) 4)) ?_ (λc n=>A5 Vd (eF _) J λN W X E A=>⟨⟨W,rfl,ff n.size E,?_⟩,X⟩) ?_
 ·rintro v q b ⟨g,P,Q,K⟩ n;exact⟨g,P,Q,n.at_ K (xd (by decide))⟩
 ·rw[A];simp[xa]
 refine .LW (λv c=>∃i,v=fp i/\D.heap.size<=i/\c.heap[i]? =some Vg) (λv q b ⟨i,P,Q,K⟩ n=>⟨i,P,Q,n.at_ K⟩) (λc n=>ji λN W X E A=>⟨⟨W,rfl,ff n.size E,A⟩,X⟩) ?_;refine .rel (λv c=>∃I,v=fp I/\D.heap.size<=I/\c.heap[I]? =some (.cells #[ig] 225)) ?_ (λc n=>ji λN W X E A=>⟨⟨W,rfl,ff n.size E,A⟩,X⟩) ?_
 ·rintro v q b ⟨g,P,Q,K⟩ n;exact⟨g,P,Q,n.at_ K (xd (by decide))⟩
 refine .AS (λvs c=>∃R i g,vs=[fp i,R,fP g 0 l.length]/\D.heap.size<=i/\c.heap[i]? =some (.cells #[fP g 0 l.length] 27)) ?_ (λc n v3 K R h4 v8 h8=>?_) ?_
 ·rintro vs q b ⟨R,i,g,P,Q,K⟩ n;exact⟨R,i,g,P,Q,n.at_ K⟩
 ·obtain⟨i,rfl,g1,g2⟩:=K;obtain⟨g,rfl,g3,g4⟩:=h8;refine fV g2 λN Z H=>⟨⟨R,i,g,rfl,g1,H⟩,ZE.store Z g1 (λe=>by cases e) (.inl g2) H⟩
 ·intro c n v3 _ R h4 am an v8 h8 hJ;obtain⟨I,rfl,ao,p⟩:∃I,R=fp I/\D.heap.size<=I/\c.heap[I]? =some (.cells #[ig] 225):=h4;obtain⟨C,rfl,aK,r⟩:∃C,am=fP C l.length l.length/\D.heap.size<=C/\c.heap[C]? =some (.cells (Array.replicate l.length (.bool false)) 4):=an;obtain⟨g,rfl,aL,s⟩:∃g,v8=fP g 0 l.length/\D.heap.size<=g/\c.heap[g]? =some (.cells (Array.replicate l.length (i64 0)) 3):=h8;obtain⟨_,i,ap,G,aM,z⟩:∃R i af,[v3,fp I,fP g 0 l.length]=[fp i,R,fP af 0 l.length]/\D.heap.size<=i/\c.heap[i]? =some (.cells #[fP af 0 l.length] 27):=hJ;simp only[sM,and_true]at G;obtain⟨rfl,rfl,G⟩:=G;injection G with G;obtain rfl:g=ap:=eX Addr.block (eP G);clear G;have ex:Ext D c:=n.ext (eF _);clear n;have ne:∀{x y:Nat} {cs aq:fZ} {t t':eD},c.heap[x]? =some (.cells cs t)->c.heap[y]? =some (.cells aq t')->t≠t'->x≠y:=λhx hy ht e=>by subst e;rw[hx]at hy;exact xd ht (eP hy)
  have d1:=ne z p (by decide);have d2:=ne z s (by decide);have d3:=ne z r (by decide);have d4:=ne p s (by decide);have d5:=ne p r (by decide);have d6:=ne s r (by decide);have su:=eV.lt_of_heap p;refine fV p λN Z H=>?_;have H:N.heap[I]? =some (.cells #[fP C l.length l.length] 225):=H;refine ji λw3 gv e3 aN ag=>fV ag λO k4 ar=>?_;have s2:=Z.size;have au:Ext D N:=ex.eR Z ao;have L:Ext D O:=(au.trans e3).eR k4 (by have:=ex.size;omega);have av:=eV.lt_of_heap z;have aw:=eV.lt_of_heap s;have ax:=eV.lt_of_heap r;have aO:=eV.lt_of_heap p;have S:∀{x:Nat} {o:Obj},N.heap[x]? =some o->O.heap[x]? =some o:=λhx=>k4.iZ (e3.at_ hx) (by have:=eV.lt_of_heap hx;omega);have ay:=L.at_ ad;let e:B9:=⟨i,lv,yv,I,gv,g,C,lp,a,lc⟩;have aG:=ac;have sw:=ey.size;have ok:Wc e:=⟨⟨by show i≠lv;omega,by show i≠yv;omega,d1,by show i≠gv;omega,d2,d3⟩,⟨by show g≠lv;omega,by show g≠yv;omega,jb d4,by show g≠gv;omega,d6⟩,⟨by show C≠lv;omega,by show C≠yv;omega,jb d5,by show C≠gv;omega⟩,λb o A=>by have:=al b o A;show b≠i/\b≠g/\b≠C;omega⟩;have hO:Kw e l [] (List.replicate l.length false) O:=by refine⟨S (Z.iZ z d1),L.cell U,eB ay rfl,eB (S H) rfl,eB ar rfl,⟨_,S (Z.iZ s (jb d4)),by simp,λj hj=>by simp at hj⟩,?_,by simp,ab.ext (ey.trans L)⟩;have:=S (Z.iZ r (jb d5));rw[this];simp[lN]
  let B:eN:=λx=>x=i\/x=g\/x=C;have s4:=L.size;have l4:∀{x:Nat},x<c.heap.size->x<O.heap.size:=λhx=>by have:=e3.size;have:=k4.size;omega
  have M:∀b,B b->w.heap.size<=b/\b<O.heap.size:=λb A=>by
   obtain rfl|rfl|rfl:=A
   ·exact⟨by omega,l4 av⟩
   ·exact⟨by omega,l4 aw⟩
   ·exact⟨by omega,l4 ax⟩
  have az:=h0 O B (ey.trans L) M;have aA:∀m q b,(Y B m q/\O.heap.size<=q.heap.size)->eY (λx=>x=e.rv\/x=e.rb\/x=e.ub) q b->(Y B m b/\O.heap.size<=b.heap.size):=λm q b h k=>⟨hY B m q b h.1 k,ff h.2 k.size⟩;have aB:G1 e l (λm q=>Y B m q/\O.heap.size<=q.heap.size):=by rintro m aC aH wy hr ah hA ⟨aD,aP⟩;obtain⟨cs,g1,g2,g3⟩:=hA.rb;obtain⟨f,ai,T,aj,ak,hR⟩:=hy B m aC g wy (λb A=>⟨(M b A).1,by have:=(M b A).2;omega⟩) (.inr (.inl rfl)) (λk hk=>⟨g,0,rfl,eB g1 (by rw[eJ];exact g3 k hk)⟩) hr ah aD;refine⟨f,ai,T,aj,ak,hR.mono ?_⟩;rintro en w' ⟨rfl,hk,aE⟩;refine⟨rfl,hA.keep hk (λb A=>?_),aE,by have:=hk.size;omega⟩;obtain⟨q1,q2,q3⟩:=hF b A;show b≠i/\b≠lv/\b≠yv/\b≠I/\b≠gv/\b≠g/\b≠C/\_;exact⟨by omega,q2,by omega,by omega,by omega,by omega,by omega,q3⟩
  refine eH hO.gv (eL (Kx ok J aA aB l.length [] (List.replicate l.length false) [] O (by simp) (λd hd=>by cases hd) hO ⟨az,eF _⟩) ?_);rintro v w5 ⟨rfl,_,aF,_⟩;exact⟨_,rfl,B,by simpa[pi]using aF⟩
def Mk(c:fR)(n d:Nat)(w:er):Calls V.prog 172 #[.slice c n d] w (jy λv e=>Ext w e/\∃a,v=.func (.func 196) #[] #[eT a]/\w.heap.size<=a/\e.heap[a]? =some (.cells #[.slice c n d] 27)):=by refine jT Tryz.func172 Tryz.ntmps172 ?_;exact jx λh a f b g=>⟨_,rfl,f,a,rfl,b,g⟩
section
variable{N:Nat}{r:Option Nat}{ds:List Deferred}{x y:Code}{Q:Exit->Act->er->Prop}{l:L}{a:Act}{w:er}
def XA(g:rI ds N l a)(i:flat x=true)(h:WC V.prog H7 N x (λe d f=>∀b,rI ds N d b->Q e b f) l w):x.wpIn (wd r) 0 V.prog Q a w:=
 wpIn_mono (nt fu x _ l a w i g h) (by rintro e b f ⟨d,c,j⟩;exact j b c)
def Tf(P:eE)(r:Option Nat)(y:Code)(Q:Exit->Act->fa):Exit->Act->fa
 | .normal,a,w=>y.wpIn (wd r) 0 P Q a w
 |e,a,w=>Q e a w
def wpS(d:rI ds N l a)(f:flat x=true)(h:WC V.prog H7 N x (λe g c=>∀b,rI ds N g b->Tf V.prog r y Q e b c) l w):(Code.seq x y).wpIn (wd r) 0 V.prog Q a w:=
 wpIn_seq (wpIn_mono (XA (Q:=Tf lS r y Q) d f h) (by rintro e b c i;cases e<;>exact i))
def XB{id:Nat}{c:Array Oper}{E:er->fa}(g:rI ds N l a)(i:jd E)(h:DW V.prog H7 N (λ_ _=>False) E E 1000 c.toList w l (λj k=>∀f,rI ds N j f->y.wpIn (wd none) 0 V.prog Q f k) 0 c.toList [] (yO c.toList l) [] [] [] [])(m:oB c N (vv c.toList)=true:=by kernel_rfl):
 (Code.seq (.region id c true) y).wpIn (wd none) 0 V.prog Q a w:=
 wpIn_seq (wpIn_wide.2 (GF fu (λ_ _ _ _ _ h=>h.elim) i i (λ_ _ h=>h) (by kernel_rfl) m rfl g.b (λl f w e n=>n f ⟨e.b,e.d.trans g.d⟩) h))
end
def G3{d:Func}{c:Code}{args:fD}{w:er}{R:Ending->fa}(N:Nat)
 (j:V.prog.funcs[K]? =some d)(b:d.body=some c)(k:d.ntmps=N)(l:args.length<=N)(h:∀a,rI [] N (args.zipIdx.map λp=>(p.2,p.1)) a->c.wpIn (wd none) 0 V.prog (bodyPostM Fence.wide 0 V.prog d R) a w):Calls V.prog K args.toArray w R:=by
 refine callsIn_wide.1 (callsIn_of_wp_marks (n:=0) j b trivial (h _ ⟨⟨?_,λt v m=>?_⟩,rfl⟩));simp[k];omega
 have g:∀(f:fD) (n:Nat),lk ((f.zipIdx n).map λp=>(p.2,p.1)) t=some v->n<=t/\f[t-n]? =some v:=by
  intro f;induction f with
  |nil=>intro n h;cases h
  |cons x r o=>
   intro n h;simp only[List.zipIdx_cons,lK,lk]at h;cases b:Nat.beq n t with
   |true=>
    rw[b]at h;have:n=t:=jL b;subst this;exact⟨eF _,by simpa using h⟩
   |false=>
    rw[b]at h;have q:n≠t:=xF b;obtain⟨s,e⟩:=o (n+1) h;refine⟨by omega,?_⟩;have:t-n=(t-(n+1))+1:=by omega
    rw[this];simpa using e
 have e:=(g args 0 m).2;rw[Nat.sub_zero]at e;have i:t<args.jK:=(kS.1 e).1;rw[mR];show((args.toArray++Array.replicate (d.ntmps-args.toArray.size) jg)[t]?).getD jg=v;rw[wA (by simpa using i)];simp[e]
def Ky{d:Func}{t N:Nat}{l:L}{a:Act}{ds:List Deferred}{w:er}(c:d.results=#[.tmp t])(e:rI ds N l a)(f:lk l t=some z):Sem.run V.prog (results d a.tmps) w=.ok z w:=by have g:a.tmps.getD t jg=z:=e.b.at_ t z f;rw[AL,c];simp[LR,g]
def Ub{c:Func}{t N:Nat}{l:L}{a:Act}{w:er}{R:Ending->fa}(b:c.results=#[.tmp t])(e:rI [] N l a)(f:lk l t=some z)(g:R (.returned z) w):bodyPostM Fence.wide 0 V.prog c R .ret a w:=by show LeavesInM Fence.wide 0 lS c a.tmps R a.defers .returning w;rw[e.d];exact⟨z,Ky b e f,g⟩
def Kz(D:Nat):Deferred:={target:=.collected D,args:=#[]}
def Uc{c:Func}{t N D:Nat}{l:L}{a:Act}{w:er}{R:Ending->fa}(b:c.results=#[.tmp t])(e:rI [Kz D] N l a)(f:lk l t=some z)(g:w.heap[D]? =some (.deferred (some [])))(h:R (.returned z) (w.putObj D (.deferred none))):bodyPostM Fence.wide 0 V.prog c R .ret a w:=by show LeavesInM Fence.wide 0 lS c a.tmps R a.defers .returning w;rw[e.d];exact⟨by simp,.inl ⟨D,_,rfl,run_takeDeferred g,z,Ky b e f,h⟩⟩
def A6(fn:FuncId)(tmps:Array Value)(p:Tmp)(assign body:Code)(D:Nat)(st:LoopState):Loop:={state:=st,pending:=none,fn,tmps,params:=#[p],assign,body,defers:=D}
def Ml{N t p:Nat}{l:L}{a:Act}{w:er}{c f:Code}{Q:Exit->Act->fa}(q:rI [] N l a)(B:lk l t=some (.func (.func K) #[] W))(r:∀y w,Sem.run V.prog (callFunc K y) w=.ok (.enter K y) w){I:fa} (k:∀n g o,o=A6 n a.tmps p c f w.heap.size .ready->Ext w g->g.heap.size=w.heap.size+2->g.heap[w.heap.size]? =some (.deferred (some []))->g.heap[w.heap.size+1]? =some (.loop o)->
  Calls V.prog K (#[.func (.yield (w.heap.size+1)) #[] #[]]++W) g (jy λv j=>j.heap[w.heap.size+1]? =some (.loop o)/\I j))
 (m:∀o j z,j.heap[w.heap.size+1]? =some (.loop o)->I j->rI [Kz w.heap.size] N l z->Q .normal z (j.putObj (w.heap.size+1) (.loop {o with state:=.exhausted}))):(Code.rangeFunc (.tmp t) #[p] c f).wpIn (wd none) 0 V.prog Q a w:=by
 have s:a.eval (.tmp t)=.func (.func K) #[] W:=q.b.at_ t _ B;refine wpIn_rangeFunc ?_;intro n C;obtain⟨g,i⟩:∃g,(w.alloc (.deferred (some []))).alloc (.loop (A6 n a.tmps p c f w.mN .ready))=g:=⟨_,rfl⟩;have u:g.heap[w.mN+1]? =some (.loop (A6 n a.tmps p c f w.mN .ready)):=by rw[<-i];have:=World.alloc_heap_new (w.alloc (.deferred (some []))) (.loop (A6 n a.tmps p c f w.mN .ready));rwa[World.size_alloc]at this
 have x:g.heap[w.mN]? =some (.deferred (some [])):=by rw[<-i];exact(alloc_old _ _ (by simp)).trans (World.alloc_heap_new w _)
 have D:Ext w g:=by rw[<-i];exact(Ext.alloc _ _).trans (Ext.alloc _ _)
 refine⟨w.mN+1,[Kz w.mN],g,{target:=.fn (.func K) W,args:=#[.func (.yield (w.mN+1)) #[] #[]]},g,K,#[.func (.yield (w.mN+1)) #[] #[]]++W,g,?_,?_,λ_ _=>trivial,?_,(λh=>by cases h),?_⟩
 ·rw[<-i];exact run_enterLoop_outer _ _ _ _ _
 ·simp only[resolve,rangeCall,s];simp[go_sem]
 ·simp[invoke,go_sem,r]
 ·refine(callsIn_wide.2 (k n g _ rfl D (by rw[<-i];simp) x u)).mono ?_;rintro e j ⟨v,rfl,A,E⟩;have F:=run_endLoop (P:=lS) A (by simp[A6]);refine⟨none,_,F,m _ j _ A E ⟨⟨q.b.size,q.b.at_⟩,?_⟩⟩;show [Kz w.mN]++a.defers=_;rw[q.d];rfl
def G4{i m p D N:Nat}{a b:Code}{j:er}{n:Loop}(o:n=A6 m W p a b D .ready)(q:j.heap[i]? =some (.loop n)){l:L}(E:xB N l ⟨W,[]⟩)(F:p<N){R:fa}(G:flat a=true)(H:flat b=true)
 (h:∀s u,u=j.putObj i (.loop s)->u.heap[i]? =some (.loop s)->WC V.prog H7 N a (λe v C=>e=.normal/\C=j/\WC V.prog H7 N b (λe I w=>e=.normal/\w.heap[i]? =some (.loop s)/\R (w.putObj i (.loop n))) v u) (ins N (some p) z l) j):
 ∃f d c g,Sem.run V.prog (Instr.yield i #[z]) j=.ok (.round i f d c g) j/\RoundIn Fence.wide 0 V.prog i f d c g j λJ K=>J=.returned (.bool true)/\R K:=by
 subst o;have M:=run_yield (P:=lS) (args:=#[z]) q (by simp[A6]);refine⟨_,_,_,_,M,roundIn_of_wpIn trivial ?_⟩;have y:rI [] N (ins N (some p) z l) ⟨W.setIfInBounds p z,[]⟩:=⟨E.put (some p) z (λt O=>by cases O;exact F),rfl⟩;have Q:((A6 m W p a b D .ready).params.zip #[z]).foldl (λ(W:fZ) (x:Tmp×eu)=>W.setIfInBounds x.1 x.2) (A6 m W p a b D .ready).tmps=W.setIfInBounds p z:=by simp[A6]
 rw[Q];refine wpIn_mono (nt (r:=some i) fu a _ _ _ _ G y (h (A6 m W p a b D .busy) _ rfl (World.putObj_heap_same (eV.lt_of_heap q)))) ?_;rintro e S C ⟨v,A,rfl,rfl,k⟩;refine⟨_,run_beginRound q rfl,wpIn_mono (nt (r:=some i) fu b _ v S _ H A k) ?_⟩;rintro e X w ⟨I,T,rfl,B,U⟩;exact⟨_,_,run_endRound none B,rfl,U⟩
def Ext.A7(h:Ext w t)(o:Obj)(b:w.heap.size<=m):Ext w (t.putObj m o):=
 ⟨h.os,h.tape,h.output,by simpa using h.size,h.drawn,λx a=>(World.putObj_heap_other (by omega)).trans (h.block x a)⟩
def nK(W:er)(b:Nat)(o:Obj):eY (λx=>x=b) W (W.putObj b o):=
 ⟨rfl,rfl,rfl,by simp,eF _,λx _ a=>World.putObj_heap_other a⟩
def qB(d:w.heap[m]? =some Q)(f:∀b t c,Q≠ .cells b t c)(a:w.cell? h=some x):(w.putObj m O).cell? h=some x:=by refine(nK w m O).gM a λe=>?_;unfold World.cell? at a;rw[e,d]at a;split at a;rename_i b t c g;exact f _ _ _ (eP g);cases a
def qS(G:Gd)(a:List ew)(b:ew):kG G (a++[b])=iH G (kG G a) b:=by simp[kG]
structure Ud(G:Gd)(bb lb lp:Nat)(rc:Loop)(W1:er)(B:Nat->Prop)(pre:List (List Nat))(W:er):Prop where
 b:∀b,B b->W1.heap.size<=b
 k:eY (λb=>b=bb\/b=lb\/b=lp) W1 W
 l:W.heap[lp]? =some (.loop rc)
 lt:bb<W1.heap.size/\lb<W1.heap.size/\lp<W1.heap.size
 at_:∃a c,W.heap[bb]? =some (.cells #[.slice a (kG G pre).1.length c] 27)/\jM (λx=>B x\/x<W1.heap.size) W a (kG G pre).1/\(kG G pre).1.length<=c/\W.heap[lb]? =some (.cells #[.int .i64 (kG G pre).2] 3)
def Ud.keep{n:Loop}{d:List ew}(h:Ud H m k i n w B d t)(f:eY B t e):Ud H m k i n w B d e:=by
 obtain⟨a,c,q,r,s,u⟩:=h.at_;have j:∀x,x<w.heap.size->¬B x:=λx p g=>by have:=h.b x g;omega
 exact⟨h.b,h.k.trans f (λ_ _ h=>h) (λx p g=>absurd g (j x p)),f.iZ h.l (j _ h.lt.2.2),h.lt,a,c,f.iZ q (j _ h.lt.1),r.go (λ_ h=>.inl h) (λb o v g y=>f.gM y λz=>g (.inl z)),s,f.iZ u (j _ h.lt.2.1)⟩
def nJ.all{d:Nat->eu}{F:(eN)->Prop}{R:(eN)->Nat->oz}(K:CZ T d)(p:∃A,F A)(h:∀A,F A->nJ d (R A) m w):nJ d (λs v w=>∀A,F A->R A s v w) m w:=by
 obtain⟨q,f⟩:=p;obtain⟨j,a,k,r⟩:=(h q f).out;refine⟨j,a,k,λe l=>?_⟩;obtain⟨s,n,o,_⟩:=r e l;refine⟨s,n,o,λA t=>?_⟩;obtain⟨g,b,c,i⟩:=(h A t).out;rw[k]at c;obtain⟨rfl,rfl⟩:j=g/\a=b:=by injection c with c;injection c with u x;exact⟨u,x⟩
 obtain⟨y,z,B,C⟩:=i e l;obtain rfl:=K.inj s y n z (o.symm.trans B);exact C
def Ey{gp mk ms n0 s:Nat}{F:(eN)->Prop}(h:qX gp mk ms N w)(au:∃A,F A)(C:∀A,F A->∀b,A b->b<w.heap.size)(hp:∀A,F A->nA A mk ms N w)(hn:n0<=ms)(hs:s<32)(hd:∀d∈fx s,d<N.doors.length):
 Calls V.prog 129 #[eT gp,.int .u8 s] w (jy λv w'=>lf n0 w w'/\∀A,F A->nA A mk ms N w'/\ShR A N s v w'):=by
 have av:(fx s).length<=100000:=by have:=oE s 5;unfold fx;omega
 refine G3 (args:=[eT gp,.int .u8 s]) 46 V.func129 rfl Tryz.ntmps129 (by simp) λa hF=>wpS hF rfl (jx λw1 b2 e1 bj M a1 aM=>?_);have h1:=h.ext e1;have aw:=λA C=>(hp A C).ext e1;refine wpS aM rfl (eH (eB M rfl) (eH h1.Xa (Mg Ew O3 (z:=ig) (by intro w;kernel_rfl) (nJ.all Ew au λA C=>(aw A C).s) hs (λv hv=>lq rfl λa2 af=>Ub rfl af rfl ⟨_,rfl,e1.jJ n0,λA C=>⟨aw A C,hv A C⟩⟩) (nU rfl λa2 af=>?_))));refine wpS af rfl (ji λw2 p e2 bk ab a3 aN=>?_);refine wpS aN rfl (ji λw3 n e3 aO ac=>fV ac λw4 k4 ax a4 aP=>?_);have bl:=eV.lt_of_heap ab;have bm:=eV.lt_of_heap ac;have bn:=eV.lt_of_heap M;have e4:Ext w2 w4:=e3.eR k4 aO;have E4:Ext w w4:=(e1.trans e2).trans e4;have ay:gY w4 p #[ig] 27:=e4.at_ ab;have ad:gY w4 n #[i64 (-1)] 3:=ax;refine wpIn_seq<|wpS aP rfl (eL (wW s w4 hs) ?_);rintro bo w5 ⟨e5,az⟩;obtain⟨la,lc,rfl,ag,_⟩:=az.row;refine eL (Mk la (fx s).length lc w5) ?_;rintro fv g ⟨e6,lv,rfl,bp,ae⟩;intro a6 ah;have aA:∀b o,la=some (eQ b o)->w4.heap.size<=b/\b<w5.heap.size:=λb o c=>by obtain⟨_,⟨_,h2⟩|⟨b',c',cs,g1,h2,g3,_⟩⟩:=az;injection h2 with h2;rw[h2]at c;cases c;injection h2 with h2;rw[h2]at c;have:=eX Addr.block (eP c);simp only at this;subst this;exact⟨g1,eV.lt_of_heap g3⟩
 have s1:=e1.size;have s2:=e2.size;have s4:=e4.size;have s5:=e5.size;have s6:=e6.size;have l6:lv<g.heap.size:=eV.lt_of_heap ae;have bq:n<w4.heap.size:=eV.lt_of_heap ad;have T:Ext w g:=E4.trans (e5.trans e6);have aB:gY g b2 #[eT gp] 138:=((e2.trans e4).trans (e5.trans e6)).at_ M;have br:p≠n/\p≠b2/\n≠b2:=by have:=e2.size;omega
 refine wpIn_block (Ml ah rfl (by intro _ _;kernel_rfl) (I:=λW2=>∃O G B,Ext g G/\G.heap.size=g.heap.size+2/\G.heap[g.heap.size]? =some (.deferred (some []))/\Ud N p n (g.heap.size+1) O G B (pi (fx s)) W2) ?_ ?_);intro fn G O aQ f aC hD hL;have ai:=ag.ext (e6.trans f);have aD:=f.at_ ae;refine(Mj (lv:=lv) (lc:=lc) (lp:=g.heap.size+1) (F:=λb=>b=p\/b=n\/b=g.heap.size+1) (Y:=λB K W=>Ud N p n (g.heap.size+1) O G B K W) av rfl (eB aD rfl) ai (λb o c=>?_) (λb c=>?_) (λW2 B U hB=>?_) (λB K a b hy k=>hy.keep k) ?_).mono ?_;have:=aA b o c;omega;refine⟨by omega,by omega,λb' o aR=>?_⟩;have:=aA b' o aR;omega;refine⟨λb c=>(hB b c).1,U.keep _,U.at_ hL,by omega,none,0,?_,λk hk=>by simp[kG]at hk,iQ _,?_⟩;exact U.at_ (f.at_ (e6.at_ (e5.at_ ay)));exact U.at_ (f.at_ (e6.at_ (e5.at_ ad)));intro B K L rb W aj aS al bs aE i;have EW:Ext w W:=⟨i.k.os.trans (T.trans f).os,i.k.tape.trans (T.trans f).tape,i.k.output.trans (T.trans f).output,by have:=i.k.size;omega,ff (T.trans f).drawn i.k.drawn,λx hx=>(i.k.block x (by omega) (by omega)).trans ((T.trans f).block x hx)⟩;obtain⟨ba,bc,g1,g2,g3,g4⟩:=i.at_;obtain⟨q1,q2,q3⟩:=i.lt;have lW:=i.k.size;refine G4 aQ i.l ⟨ah.b.size,ah.b.at_⟩ (by decide) (R:=λw'=>eY (λb=>b=p\/b=n\/b=g.heap.size+1) W w'/\Ud N p n (g.heap.size+1) O G B (K++[L]) w') rfl rfl λaF W0 X P=>⟨rfl,rfl,?_⟩;have kB:eY (λx=>x=g.heap.size+1) W W0:=by rw[X];exact nK _ _ _
 have J:W0.heap.size=W.heap.size:=by rw[X];simp
 have E0:Ext w W0:=by rw[X];exact EW.A7 _ (by omega)
 clear X;have Q:=kB.iZ g1 (by omega);have t:=kB.iZ g4 (by omega);have aT:gY W0 b2 #[eT gp] 138:=kB.iZ (i.k.iZ (f.at_ aB) (by omega)) (by omega)
 have am:∀(r:er) (a':fR) (c':Nat) (y:ew) (D:Int),r.heap[g.heap.size+1]? =some (.loop aF)->gY r p #[.slice a' y.length c'] 27->gY r n #[i64 D] 3->kG N (K++[L])=(y,D)->jM (λx=>B x\/x<G.heap.size) r a' y->y.length<=c'->
  eY (λb=>b=p\/b=n\/b=g.heap.size+1) W0 r->Exit.normal=.normal/\r.heap[g.heap.size+1]? =some (.loop aF)/\eY (λb=>b=p\/b=n\/b=g.heap.size+1) W (r.putObj (g.heap.size+1) (.loop O))/\Ud N p n (g.heap.size+1) O G B (K++[L]) (r.putObj (g.heap.size+1) (.loop O)):=λr a' c' y D y1 y2 y3 y4 y5 y6 y7=>by
  have kE:=nK r (g.heap.size+1) (.loop O);have kW:eY (λb=>b=p\/b=n\/b=g.heap.size+1) W (r.putObj (g.heap.size+1) (.loop O)):=(kB.trans y7 (λ_ _ h=>.inr (.inr h)) λ_ _ h=>h).trans kE (λ_ _ h=>h) λ_ _ h=>.inr (.inr h);refine⟨rfl,y1,kW,i.b,i.k.trans kW (λ_ _ h=>h) λ_ _ h=>h,World.putObj_heap_same (eV.lt_of_heap y1),i.lt,a',c',?_,?_,?_,?_⟩;rw[y4];exact kE.iZ y2 (by omega);rw[y4];exact y5.go (λ_ h=>.inl h) λb o v c q=>qB y1 (λ_ _ _ e=>by cases e) q;rw[y4];exact y6;rw[y4];exact kE.iZ y3 (by omega)
 have E:iM W0 (qh rb 0) L:=λk hk=>by
  obtain⟨b,o,z1,z2⟩:=al k hk;have bt:=aj rb aS;have:b=rb:=by have:=eX Addr.block (eP z1);simpa using this.symm
  subst this;exact⟨b,o,z1,kB.gM z2 (by show¬b=_;omega)⟩
 have aU:∀d∈L,d<N.doors.length:=λd aV=>hd d (aE d aV);have aG:L.length<=100000:=by omega
 refine eH (eB aT rfl) (fw (L8 (h.ext E0) aU aG E) (eH (eB t rfl) (fO ⟨λaW=>lq rfl (eL (oe E (by omega)) λuv w7 Z=>?_),λaX=>eH (eB t rfl) (fO ⟨λaH=>eL (oe E (by omega)) λuv w7 Z=>?_,λaI=>?_⟩)⟩)));obtain⟨e7,Z⟩:=Z;obtain⟨ua,uc,rfl,an,ao⟩:=jq.Ua (A:=λx=>B x\/x<G.heap.size) Z (λb c=>by obtain c|c:=c;have:=(aj b c).2;rw[J];exact this;rw[J];omega);refine fV (e7.at_ Q) λw8 k8 ap=>fV (k8.iZ (e7.at_ t) (by omega)) λr k9 aq=>?_
 exact am r _ _ _ _ (k9.iZ (k8.iZ (e7.at_ P) (show¬g.heap.size+1=p by omega)) (show¬g.heap.size+1=n by omega)) (k9.iZ ap (show¬p=n by omega)) aq (by rw[qS,iH,eC (.inl (fQ aW))]) (an.go (λ_ h=>.inl h) λb o v c q=>k9.gM (k8.gM q (λe=>c (.inr (by have:b=p:=e;show b<_;omega)))) (λe=>c (.inr (by have:b=n:=e;show b<_;omega)))) ao
  ((e7.keep (λb=>b=p\/b=n\/b=g.heap.size+1)).trans (k8.trans k9 (H:=λb=>b=p\/b=n\/b=g.heap.size+1) (λ_ _ h=>.inl h) λ_ _ h=>.inr (.inl h)) (λ_ _ h=>h) λ_ _ h=>h)
 obtain⟨e7,Z⟩:=Z;obtain⟨ua,uc,rfl,an,ao⟩:=jq.Ua (A:=λx=>B x\/x<G.heap.size) Z (λb c=>by obtain c|c:=c;have:=(aj b c).2;rw[J];exact this;rw[J];omega);refine fV (e7.at_ Q) λw8 k8 ap=>fV (k8.iZ (e7.at_ t) (by omega)) λr k9 aq=>?_
 exact am r _ _ _ _ (k9.iZ (k8.iZ (e7.at_ P) (show¬g.heap.size+1=p by omega)) (show¬g.heap.size+1=n by omega)) (k9.iZ ap (show¬p=n by omega)) aq (by rw[qS,iH,eC (.inr (fQ aH))]) (an.go (λ_ h=>.inl h) λb o v c q=>k9.gM (k8.gM q (λe=>c (.inr (by have:b=p:=e;show b<_;omega)))) (λe=>c (.inr (by have:b=n:=e;show b<_;omega)))) ao
  ((e7.keep (λb=>b=p\/b=n\/b=g.heap.size+1)).trans (k8.trans k9 (H:=λb=>b=p\/b=n\/b=g.heap.size+1) (λ_ _ h=>.inl h) λ_ _ h=>.inr (.inl h)) (λ_ _ h=>h) λ_ _ h=>h)
 refine am W0 ba bc _ _ P Q t (by rw[qS,iH,ez (by have h1:=gJ aX;have h2:=gJ aI;omega)]) (g2.go (λ_ h=>.inl h) λb o v c q=>kB.gM q (λe=>c (.inr (by have:b=g.heap.size+1:=e;show b<_;omega)))) g3 (eY.refl _ _);rintro e W2 ⟨v,rfl,B,i⟩;exact⟨_,rfl,i.l,_,G,B,f,aC,hD,i⟩;rintro O W2 a7 aY ⟨bu,G,B,f,aC,hD,i⟩ aZ;have lD:=eV.lt_of_heap hD;obtain⟨q1,q2,q3⟩:=i.lt;obtain⟨ba,bc,g1,g2,g3,g4⟩:=i.at_;have EW:Ext w W2:=⟨i.k.os.trans (T.trans f).os,i.k.tape.trans (T.trans f).tape,i.k.output.trans (T.trans f).output,by have:=i.k.size;omega,ff (T.trans f).drawn i.k.drawn,λx hx=>(i.k.block x (by omega) (by omega)).trans ((T.trans f).block x hx)⟩;have D2:=i.k.iZ hD (by omega);have a0:=i.k.iZ (f.at_ aB) (by omega);obtain⟨W3,S⟩:∃W3,W3=W2.putObj (g.heap.size+1) (.loop {O with state:=.exhausted}):=⟨_,rfl⟩;have k3:eY (λx=>x=g.heap.size+1) W2 W3:=by rw[S];exact nK _ _ _
 have E3:Ext w W3:=by rw[S];exact EW.A7 _ (by omega)
 have a5:jM (λx=>B x\/x<G.heap.size) W3 ba (fy N s):=by rw[S];exact g2.go (λ_ h=>.inl h) λb o v c q=>qB aY (λ_ _ _ e=>by cases e) q
 rw[<-S];clear S;have D3:=k3.iZ D2 (by omega);have a8:=k3.iZ a0 (by omega);have aJ:=k3.iZ g1 (by omega);have h3:=h.ext E3;show Code.wpIn _ _ _ (Code.seq _ _) _ a7 W3;refine XB aZ fl (eZ (eB a8 rfl) (eZ h3.Xa (eZ (eB aJ rfl) λw8 e8=>?_)));have aa:=λA C=>(hp A C).ext (E3.trans e8);have aK:∀A,F A->ShR A N s (.slice ba (fy N s).length bc) w8:=λA j=>⟨ba,bc,rfl,(a5.go (λ_ h=>.inl h) λb o v c q=>e8.cell q).more λb c=>.inl (.inr (by have:=C A j b c;omega)),g3⟩;refine wZ Ew O3 (nJ.all Ew au λA C=>(aa A C).s) hs hn (λr m=>⟨λs u Z A C=>(Z A C).go (λ_ h=>.inl h) λb o v c q=>m.cell q,λA C=>(aK A C).go (λ_ h=>.inl h) λb o v c q=>m.cell q⟩) λr m9 bd be=>?_;have bf:=h.ne;have ar:∀A,F A->nA A mk ms N r:=λA j=>⟨be.go (λs v hr=>hr A j) λo ho=>ho,(aa A j).k.go (λs v hr=>hr.go (λ_ h=>.inl h) λb o v c q=>m9.cell q) λo ho=>by rw[bd mk bf];exact ho,(aa A j).ak,(aa A j).asm⟩;have bg:=λA j=>(aK A j).go (A':=A) (λ_ h=>.inl h) (λb o v c q=>m9.cell q);have D9:r.heap[g.heap.size]? =some (.deferred (some [])):=m9.block _ _ (e8.at_ D3) (.inr rfl);have bh:=m9.at_ (e8.at_ aJ);intro a9 bi;refine wpS bi rfl (eH (eB bh rfl) λbv aL=>wpIn_ret (Uc rfl aL rfl D9 ⟨_,rfl,?_,λA j=>⟨?_,?_⟩⟩));exact(((E3.trans e8).jJ n0).trans m9).eR (nK _ _ _) (by omega);refine(ar A j).go (λ_ h=>.inl h) (λb o v c q=>qB D9 (λ_ _ _ e=>by cases e) q) λb o c ho=>(World.putObj_heap_other λe=>?_).trans ho;obtain⟨bw,c1,t1,_⟩:=(ar A j).s.out;obtain⟨bx,c2,t2,_⟩:=(ar A j).k.out;obtain rfl|rfl:=c;rw[e,D9]at t2;cases t2;rw[e,D9]at t1;cases t1;exact(bg A j).go (λ_ h=>.inl h) λb o v c q=>qB D9 (λ_ _ _ e=>by cases e) q
def yS{gp mk ms n0 s:Nat}(h:qX gp mk ms H w)(c:∀b,A b->b<w.heap.size)(f:nA A mk ms H w)(l:n0<=ms)(m:s<32)(n:∀d∈fx s,d<H.doors.length):
 Calls V.prog 129 #[eT gp,.int .u8 s] w (jy λv g=>MR n0 mk ms H w g/\∀a,(∀b,a b->b<w.heap.size)->nA a mk ms H w->ShR a H s v g):=by
 refine(Ey (n0:=n0) (F:=λa=>(∀b,a b->b<w.mN)/\nA a mk ms H w) h ⟨A,c,f⟩ (λa h=>h.1) (λa h=>h.2) l m n).mono ?_;rintro e g ⟨v,rfl,o,k⟩;exact⟨v,rfl,⟨o,λa i j=>(k a ⟨i,j⟩).1⟩,λa i j=>(k a ⟨i,j⟩).2⟩
def G5{gp mk ms n0 s:Nat}(h:qX gp mk ms H w)(c:∀b,A b->b<w.heap.size)(f:nA A mk ms H w)(i:n0<=ms)(j:s<32)(k:∀d∈fx s,d<H.doors.length):
 Calls V.prog 129 #[eT gp,.int .u8 s] w (jy λv a=>lf n0 w a/\nA A mk ms H a/\ShR A H s v a):=by
 refine(yS h c f i j k).mono ?_;rintro e a ⟨v,rfl,g,l⟩;exact⟨v,rfl,g.1,g.2 A c f,l A c f⟩
def MA(n0 mk ms:Nat)(G:Gd)(A:eN)(a b:er):Prop:=lf n0 a b/\(nA A mk ms G a->nA A mk ms G b)
def zB(n0 mk ms:Nat)(G:Gd)(A:eN):jd (MA n0 mk ms G A):=⟨λw=>⟨lf.refl _ _,id⟩,λ_ _ _ h k=>⟨h.1.trans k.1,λa=>k.2 (h.2 a)⟩,λw=>⟨(Ext.drew w).jJ n0,λa=>a.ext (Ext.drew w)⟩⟩
def Ext.ma(h:Ext w t)(n0 mk ms:Nat)(G:Gd)(A:eN):MA n0 mk ms G A w t:=⟨h.jJ n0,λa=>a.ext h⟩
def ShR.jJ{s n0:Nat}(h:ShR A H s x w)(e:lf n0 w t):ShR A H s x t:=h.go (λ_ h=>.inl h) λb o x c a=>e.cell a
def Ez:∀d∈fy H s,d∈fx s:=by
 have rows:∀(l:ew) (m:Nat) (b:ew) (a:List Bool),(∀d∈b,d∈l)->∀r∈pX l m b a,∀d∈r,d∈l:=by
  intro l m;induction m with
  |zero=>intro b a e r h;simp only[pX,gW]at h;subst h;exact e
  |succ m n=>
   intro b a e r h;simp only[pX,mH]at h;obtain⟨i,j,h⟩:=h;split at h;cases h;refine n _ _ (λd c=>?_) r h;obtain c|c:=ja.1 c;exact e d c;have j:i<l.jK:=by simpa using j
   rw[gW.1 c,getD_eq j];exact ft j
 have f:∀(g:List ew) (k:ew×Int),(∀r∈g,∀d∈r,d∈fx s)->(∀d∈k.1,d∈fx s)->∀d∈(g.foldl (iH H) k).1,d∈fx s:=by
  intro g;induction g with
  |nil=>intro k _ h;exact h
  |cons r g n=>
   intro k o p;rw[nD];refine n _ (λx q=>o x (gG _ q)) ?_;unfold iH;split;exact o r gD;exact p
 exact f _ _ (λr e=>rows _ _ _ _ (λd c=>by cases c) r e) λd c=>by cases c
def xe{G:Gd}:(fy G s).length<=5:=by
 have rows:∀(l:ew) (m:Nat) (b:ew) (a:List Bool),∀r∈pX l m b a,r.length=b.length+m:=by
  intro l m;induction m with
  |zero=>intro b a r h;simp only[pX,gW]at h;subst h;rfl
  |succ m f=>
   intro b a r h;simp only[pX,mH]at h;obtain⟨i,o,h⟩:=h;split at h;cases h;have:=f _ _ r h;simp at this;omega
 have c:∀(d:List ew) (e:ew×Int),(∀r∈d,r.length<=5)->e.1.length<=5->(d.foldl (iH G) e).1.length<=5:=by
  intro d;induction d with
  |nil=>intro e _ h;exact h
  |cons r d f=>
   intro e g j;rw[nD];refine f _ (λx k=>g x (gG _ k)) ?_;unfold iH;split;exact g r gD;exact j
 have p:=oE s 5;exact c _ _ (λr n=>by have:=rows _ _ _ _ r n;simp[fx]at this⊢;omega) (by simp)
def EB{gp mk ms n0 s:Nat}{G:Gd}(h:qX gp mk ms G w)(m:∀b,A b->b<w.heap.size)(o:nA A mk ms G w)(p:n0<=ms)(q:s<32)(k:∀d∈fx s,d<G.doors.length):
 Calls V.prog 121 #[eT gp,.int .u8 s] w (jy λv r=>v=.bool (nx G s)/\MA n0 mk ms G A w r):=by
 have g:=zB n0 mk ms G A;refine jT Tryz.func121 Tryz.ntmps121 ?_;refine fB g<| .rel (ShR A G s) (λv a b h e=>h.jJ e.1) (λi f=>eL (G5 (h.jJ f.1) (λb t=>fN (m b t) f.1.size) (f.2 o) p q k) λv u ⟨x,y,z⟩=>⟨z,x,λ_=>y⟩)<| .exact (i64 (jX G (fy G s))) (λi f v l=>?_) ?_;obtain⟨a,c,rfl,B,_⟩:=l;have D:=xe (G:=G) (s:=s);exact hH (En (h.jJ f.1) (λd j=>k d (Ez d j)) (by omega) B.n) λu C=>⟨rfl,C.ma _ _ _ _ _⟩;refine ye g (λi f=>(h.jJ f.1).c3) (Vb ?_ g);rintro i f v l;exact⟨_,rfl,rfl,f⟩
section
variable{w:er}{k:eu->er->Prop}
def tailA(a:fR)(c:Nat):fR:=if c=1 then a else a.map (·.add 1)
def KD(j:1<=m)(l:m<=i)(h:k (.slice (tailA a i) (m-1) (i-1)) w)(d:ty T=some ⟨3,1,1,0⟩:=by rfl):lY V.prog (Instr.sliceAt T (.slice a m i) (some (.int .i64 1)) none none) w k:=by
 obtain⟨e,f,g⟩:=ue d rfl;refine⟨_,w,?_,h⟩;have b:(1:Int)<=(m:Int):=by omega
 have c:(0:Int)<=(1:Int):=by omega
 unfold Instr.sliceAt Instr.slice;simp only[Sem.run_bind,jG f,Result.andThen_ok,Instr.sliceBounds,Instr.sliceBound,asIntOf,pure_bind,c,b,and_self,fF,Sem.run_pure,n9 g,vF,jE,gy];simp only[Int.toNat_one,Nat.one_mul,tailA]
end
def iM.tail{w:er}(h:iM w a (m::l))(d:(m::l).length<=i):iM w (tailA a i) l:=λk e=>by
 obtain⟨b,o,f,g⟩:=h (k+1) (by simpa using e);have c:¬i=1:=by simp at d;omega
 refine⟨b,o+1,?_,?_⟩;unfold tailA;rw[ez c,f];simp[je];rw[show o+1+k=o+(k+1) by omega,g];rfl
def iM.cut{w:er}(h:iM w a l)(i:Nat):iM w a (l.take i):=λk d=>by
 have c:k<l.length:=by simp at d;omega
 obtain⟨b,o,e,f⟩:=h k c;exact⟨b,o,e,by rw[f];simp⟩
def O7(a:fZ):Prop:=∀(j:Nat) (v:eu),a[j]? =some v->∃n:Int,v=Value.int .u8 n
def G6(a:ew):fD:=a.map λn:Nat=>Value.int .u8 n
def G7(w:er)(a:fR)(c:ew):Prop:=∀k (h:k<c.length),∃b o,a=some ⟨b,o,none⟩/\w.cell? ⟨b,o+k,none⟩=some (.int .u8 c[k])
def G7.jJ{w c:er}{n0:Nat}(h:G7 w a l)(e:lf n0 w c):G7 c a l:=λk d=>by obtain⟨b,o,f,g⟩:=h k d;exact⟨b,o,f,e.cell g⟩
def yg(f:Nat)(w:er)(e:eu)(a:ew):Prop:=(a=[]/\e=.slice none 0 0)\/∃d c b,e=.slice (some ⟨d,0,none⟩) a.length c/\a.length<=c/\f<=d/\w.heap[d]? =some (.cells b 154)/\O7 b/\a.length<=b.size/\∀k (h:k<a.length),b[k]? =some (.int .u8 a[k])
def yg.jJ{w a:er}{b:eu}{n0:Nat}(h:yg m w b l)(e:lf n0 w a):yg m a b l:=by obtain h|⟨d,c,f,g,i,j,k,n⟩:=h;exact .inl h;exact .inr ⟨d,c,f,g,i,j,e.at_ k,n⟩
def yg.row{w:er}{d:eu}(h:yg m w d l):∃a c,d=.slice a l.length c/\l.length<=c/\G7 w a l/\(a=none->l=[]):=by obtain⟨rfl,rfl⟩|⟨f,c,o,g,i,p,j,q,r,n⟩:=h;exact⟨none,0,rfl,eF _,λk b=>by simp at b,λ_=>rfl⟩;exact⟨_,c,g,i,λk b=>⟨f,0,rfl,eB j (by rw[eJ];exact n k b)⟩,λe=>by cases e⟩
def EC{w:er}{v:eu}(h:fc m 154 [.int .u8 0] w v l.length (G6 l)):yg m w v l:=by
 obtain⟨y,⟨i,rfl⟩|⟨b,c,n,o,rfl,p,q,r,z,g,s⟩⟩:=h;exact .inl ⟨nC i,rfl⟩;have t:(G6 l).length=l.length:=by simp[G6]
 refine .inr ⟨b,c,n,rfl,r,o,p,λj v a=>?_,by simp at q;omega,λk u=>?_⟩;have d:=(ik.1 a).1;obtain e|f:=gQ j (G6 l).length;rw[g j e]at a;obtain⟨x,_,rfl⟩:=iX.1 (rh a);exact⟨_,rfl⟩;rw[s j f d]at a;simp[Nat.mod_one]at a;exact⟨0,a.symm⟩;rw[g k (by omega)];simp[G6,gC u]
def nA.Ue{A:eN}{mk ms gb:Nat}{w:er}{C:fZ}(h:nA A mk ms H w)(q:w.heap[gb]? =some (.cells C T))(D:O7 C):nA (λx=>A x\/x=gb) mk ms H w:=by
 have E:∀{a:fR} {l:ew},jM A w a l->jM (λx=>A x\/x=gb) w a l:=λf k r=>by obtain⟨b,o,j,g,d⟩:=f k r;refine⟨b,o,λi=>i.elim j λe=>?_,g,d⟩;subst e;simp only[World.cell?,q]at d;obtain⟨n,t⟩:=D _ _ d;cases t
 have I:∀{a:fR} {y:List ew},nX A w a y->nX (λx=>A x\/x=gb) w a y:=λf k r=>by obtain⟨b,o,J,K,j,g,d,m,z⟩:=f k r;refine⟨b,o,J,K,λi=>i.elim j λe=>?_,g,d,E m,z⟩;subst e;simp only[World.cell?,q]at d;obtain⟨n,t⟩:=D _ _ d;cases t
 obtain⟨L,O,F,_⟩:=h.s.out;obtain⟨M,P,G,_⟩:=h.k.out;refine⟨h.s.go (λs v f=>?_) λo B=>B,h.k.go (λs v f=>?_) λo B=>B,λi=>i.elim h.ak λe=>?_,λi=>i.elim h.asm λe=>?_⟩;obtain⟨a,c,g,d,m⟩:=f;exact⟨a,c,g,E d,m⟩;obtain⟨u,b,g,d⟩:=f;refine⟨u,b,g,?_⟩;cases p:iw H s with
 |none=>rw[p]at d;exact d
 |some y=>
  rw[p]at d;obtain⟨j,a,c,m,z,N⟩:=d;exact⟨j,a,c,m,I z,N⟩
 rw[e,q]at G;cases G;rw[e,q]at F;cases F
def nA.fewer{A a:eN}{mk ms:Nat}{w:er}(h:nA a mk ms H w)(c:∀b,A b->a b):nA A mk ms H w:=h.more λb d=>.inl (c b d)
def lF(G:Gd)(s:Nat):Prop:=s<32/\∀d∈fx s,d<G.doors.length
def O8:∀s:Nat,s<32->∀d:Nat,d<5->∀x∈fx (pP s d),x∈fx s\/x=d:=by decide+kernel
theorem lF.pP(h:lF H s)(a:d<H.doors.length)(c:H.doors.length<=5):lF H (pP s d):=
 ⟨AA s h.1 d (by omega),λx b=>(O8 s h.1 d (by omega) x b).elim (h.2 x) λe=>e▸a⟩
def lF.zero(G:Gd):lF G 0:=⟨by omega,λd a=>by
 have:fx 0=[]:=by decide+kernel
 rw[this]at a;cases a⟩
theorem lF.gF{G:Gd}(c:G.doors.length<=5)(a:∀d∈l,d<G.doors.length):lF G (gF l):=by
 have b:∀(l:ew) (s:Nat),lF G s->(∀d∈l,d<G.doors.jK)->lF G (setFrom s l):=by
  intro l;induction l with
  |nil=>intro s h _;exact h
  |cons d r e=>intro s h a;exact e _ (h.pP (a d gD) c) λx f=>a x (gG _ f)
 exact b l 0 (lF.zero G) a
def un{a:Type}{f:Nat->Option a}{k:Nat}{y:a}(g:k<m)(c:∀i,i<k->f i=none)(d:f k=some y):(List.range m).findSome? f=some y:=by obtain⟨b,rfl⟩:∃b,m=k+1+b:=⟨m-(k+1),by omega⟩;rw[List.range_add,nF,List.findSome?_append,List.findSome?_append];have:(List.range k).findSome? f=none:=List.findSome?_eq_none_iff.2 λi e=>c i (by simpa using e);simp[this,d]
def vx{a:Type}{f:Nat->Option a}(b:∀i,i<m->f i=none):(List.range m).findSome? f=none:=List.findSome?_eq_none_iff.2 λi c=>b i (by simpa using c)
def lf.patch{w f h j g:er}(a:lf m w f)(b:eY (λx=>x=i) f h)(c:lf m h j)(d:eY (λx=>x=i) j g)(n:∀o,f.heap[i]? =some o->g.heap[i]? =some o):lf m w g:=
 ⟨d.os.trans (c.os.trans (b.os.trans a.os)),d.tape.trans (c.tape.trans (b.tape.trans a.tape)),d.output.trans (c.output.trans (b.output.trans a.output)),by have:=a.size;have:=b.size;have:=c.size;have:=d.size;omega,by have:=a.drawn;have:=b.drawn;have:=c.drawn;have:=d.drawn;omega,λx o p k=>by have l:=a.block x o p k;by_cases e:x=i;subst e;exact n o l;exact d.iZ (c.block x o (b.iZ l e) k) e⟩
def G7.cells{w:er}{a:fR}{l:ew}(h:G7 w a l):mE w a (G6 l):=by
 obtain _|⟨x,r⟩:=l;exact .inl rfl;obtain⟨b,o,rfl,_⟩:=h 0 (by simp);refine .inr ⟨b,o,rfl,λj u d=>?_⟩;have c:j<(x::r).jK:=by simpa[G6]using(kS.1 d).1
 obtain⟨f,g,e,i⟩:=h j c;obtain⟨rfl,rfl⟩:b=f/\o=g:=by injection e with e;injection e with k m;exact⟨k,m⟩
 rw[i];have:(G6 (x::r))[j]? =some (.int .u8 ((x::r)[j]:Nat)):=by simp only[G6,ng,gC c];rfl
 rw[this]at d;exact d
def A8{b:ew}{c:Nat}(h:G7 w a b)(g:a=none->b=[])(d:b.length<=1000000):Calls V.prog 199 #[.slice a b.length c] w (jy λv f=>Ext w f/\fc w.heap.size 154 [.int .u8 0] f v b.length (G6 b)):=
 OX a b.jK c (G6 b) w (by simp[G6]) (λe=>by rw[g e];rfl) h.cells (λu i=>by obtain⟨n,_,rfl⟩:=iX.1 i;rfl) d
def vy(n1:Nat)(w:er)(a:fR)(c:ew):Prop:=∀k (h:k<c.length),∃b o,n1<=b/\a=some ⟨b,o,none⟩/\w.cell? ⟨b,o+k,none⟩=some (.int .u8 c[k])
def vy.g{n1:Nat}{c:ew}(h:vy n1 w a c):G7 w a c:=λk d=>by obtain⟨b,o,_,e,f⟩:=h k d;exact⟨b,o,e,f⟩
def vy.low{n1 c:Nat}{d:ew}(h:vy n1 w a d)(e:c<=n1):vy c w a d:=λk f=>by obtain⟨b,o,g,i,j⟩:=h k f;exact⟨b,o,ff e g,i,j⟩
def vy.jJ{n1 n0:Nat}{c:ew}(h:vy n1 w a c)(e:lf n0 w t):vy n1 t a c:=λk d=>by obtain⟨b,o,f,g,i⟩:=h k d;exact⟨b,o,f,g,e.cell i⟩
def yg.We{e:Nat}{b:ew}(h:yg e w x b):∃a c,x=.slice a b.length c/\b.length<=c/\vy e w a b:=by obtain⟨rfl,rfl⟩|⟨f,c,n,g,i,j,l,o,p,m⟩:=h;exact⟨none,0,rfl,eF _,λk d=>by simp at d⟩;exact⟨_,c,g,i,λk d=>⟨f,0,j,rfl,eB l (by rw[eJ];exact m k d)⟩⟩
def fc.low{n0 n1:Nat}{a:Nat}(h:fc n0 T M w x a Y)(g:n1<=n0):fc n1 T M w x a Y:=by obtain⟨d,h|⟨b,c,e,i,f⟩⟩:=h;exact⟨d,.inl h⟩;exact⟨d,.inr ⟨b,c,e,by omega,f⟩⟩
def zC(n1:Nat)(o:Option ew)(v:eu)(w:er):Prop:=match o with
 |some b=>∃a c,v=.tuple #[.slice a b.length c,.bool true]/\vy n1 w a b
 |none=>v=.tuple #[.slice none 0 0,.bool false]
theorem zC.jJ{o:Option ew}{n0 n1:Nat}(h:zC n1 o x w)(e:lf n0 w t):zC n1 o x t:=by
 cases o with
 |none=>exact h
 |some b=>
  obtain⟨a,c,d,f⟩:=h;exact⟨a,c,d,f.jJ e⟩
structure MX(n0 n1 mk ms:Nat)(G:Gd)(A:Nat->Prop)(a b:er):Prop where
 os:b.os=a.os
 tape:b.tape=a.tape
 output:b.output=a.output
 size:a.heap.size<=b.heap.size
 drawn:a.drawn<=b.drawn
 block:∀x o,x<n1->a.heap[x]? =some o->(x<n0\/T9 o=false)->b.heap[x]? =some o
 m:nA A mk ms G a->nA A mk ms G b
section
variable{n0 n1 mk ms:Nat}{G:Gd}{A:Nat->Prop}
def Wh(n0 n1 mk ms:Nat)(G:Gd)(A:eN):jd (MX n0 n1 mk ms G A):=
 ⟨λw=>⟨rfl,rfl,rfl,eF _,eF _,λ_ _ _ h _=>h,id⟩,λa b c h k=>⟨k.os.trans h.os,k.tape.trans h.tape,k.output.trans h.output,ff h.size k.size,ff h.drawn k.drawn,λx o e g f=>k.block x o e (h.block x o e g f) f,λd=>k.m (h.m d)⟩,λw=>⟨rfl,rfl,rfl,eF _,nh _,λ_ _ _ h _=>h,λd=>d.ext (Ext.drew w)⟩⟩
def MA.mx(h:MA n0 mk ms G A w t):MX n0 n1 mk ms G A w t:=⟨h.1.os,h.1.tape,h.1.output,h.1.size,h.1.drawn,λx o _ a b=>h.1.block x o a b,h.2⟩
def MX.jJ(h:MX n0 n1 mk ms G A w t)(c:w.heap.size<=n1):lf n0 w t:=⟨h.os,h.tape,h.output,h.size,h.drawn,λx o a b=>h.block x o (by have:=eV.lt_of_heap a;omega) a b⟩
end
theorem yh{gp mk ms n0 most:Nat}{G:Gd}(h:qX gp mk ms G w)(hn:n0<=ms):∀(doors g:ew) (A:eN) (W:fR) (M:Nat) (gv:eu) (J:er),lf n0 w J->(∀b,A b->b<J.heap.size)->nA A mk ms G J->iM w W doors->doors.length<=M->(∀d∈doors,d<G.doors.length)->yg w.heap.size J gv g->(∀s∈g,lF G s)->doors.length+g.length<=100->
 Calls V.prog 175 #[eT gp,.slice W doors.length M,gv,.int .i64 most] J (jy λv w'=>MA n0 mk ms G A J w'/\zC J.heap.size (hZ G most doors g) v w')
 |[],g,A,W,M,gv,J,hm,hA,hp,hd,F,ag,hg,ah,P=>by obtain⟨a,c,rfl,hc,az,X⟩:=hg.row;refine jT Tryz.func175 Tryz.ntmps175 ?_;refine fe (iL (lq rfl (eL (A8 az X (by simp at P;omega)) λv w1 hv=>?_)));obtain⟨e1,Q⟩:=hv;obtain⟨a1,c1,rfl,_,N⟩:=(EC Q).We;exact⟨_,rfl,e1.ma _ _ _ _ _,a1,c1,rfl,N⟩
 |d::r,g,A,W,M,gv,J,hm,hA,hp,hd,F,ag,hg,ah,P=>by
  have h5:=h.wx.many;have aA:d<G.doors.length:=ag d gD;obtain⟨db,aB,aS,C⟩:=hd 0 (by simp);have C:w.cell? (eQ db (aB+0))=some (i64 d):=C;obtain⟨ga,gc,aC,a8,_,_⟩:=hg.row;have a9:g.length<=100:=by omega
  let f:Nat->Option ew:=λi=>if nx G (pP (g.getD i 0) d)then hZ G most r (g.set i (pP (g.getD i 0) d))else none
  have Y:hZ G most (d::r) g=match(List.range g.length).findSome? f with
   |some Z=>some Z
   |none=>if g.length<most/\nx G (gF [d])=true then hZ G most r (g++[gF [d]])else none:=rfl
  refine jT Tryz.func175 Tryz.ntmps175 ?_;rw[aC];refine fe (iL (nU (by simp;omega) ?_));refine fe (gO (n:=g.length) (λk=>[(0,eT gp),(1,.slice W (d::r).length M),(2,.slice ga g.length gc),(3,i64 most),(19,.slice ga g.length gc),(20,i64 g.length),(21,i64 k)]) (λk w'=>MA n0 mk ms G A J w'/\yg w.heap.size w' (.slice ga g.length gc) g/\∀i,i<k->f i=none) ⟨by trivial,(zB _ _ _ _ _).refl J,aC▸hg,λi hi=>by omega⟩ ?_ ?_ ?_);rintro k w' S hJ;exact fO ⟨rfl,rfl,by trivial,hJ⟩;rintro k w1 S ⟨D,an,hf⟩;have M1:=hm.trans D.1;obtain⟨X,_⟩|⟨H,c,K,ao,ap,ai,aD,aa,aq,ab⟩:=an;rw[X]at S;simp at S;injection ao with ao _ aE;subst ao;subst aE;have ar:=ah _ (ft S);have au:=ar.pP aA h5;have aF:g.getD k 0=g[k]:=getD_eq S;subst aS;have al:=M1.cell C;refine gN k S (eH (eB aD (by rw[eJ];exact ab k S)) (gN 0 (by simp) (eH al (fw (zR _ _ _ ar.1 (by omega)) (eL (EB (h.jJ M1) (λb q=>fN (hA b q) D.1.size) (D.2 hp) hn au.1 au.2) ?_)))));rintro v t ⟨rfl,E⟩;have I:=E.1.at_ aD;refine gT ⟨λq=>?_,λq=>?_⟩;have q:nx G (pP g[k] d)=false:=by simpa using q
  refine eK ⟨by trivial,(zB _ _ _ _ _).trans _ _ _ D E,.inr ⟨H,gc,K,rfl,ap,ai,I,aa,aq,ab⟩,λi hi=>?_⟩;obtain O|av:=gQ i k;exact hf i O;obtain rfl:i=k:=by omega
  simp only[f,aF,q,jE,gy];have q:nx G (pP g[k] d)=true:=by simpa using q
  have aj:f k=hZ G most r (g.set k (pP g[k] d)):=by simp only[f,aF,q,fF]
  have aG:=E.1.cell al;have am:(K.setIfInBounds k (.int .u8 (pP g[k] d:Nat))).setIfInBounds k (.int .u8 (g[k]:Nat))=K:=by apply Ns;intro j;by_cases T:k=j;subst T;rw[mG (by simp;omega)];exact(ab k S).symm;rw[gm T,gm T]
  refine gN 0 (by simp) (eH aG (fw (zR _ _ _ ar.1 (by omega)) (gN k S (kY I (by simp[Value.cells];omega) (λp k3 ac=>?_) (iK rfl)))));have ac:p.heap[H]? =some (.cells (K.setIfInBounds k (.int .u8 (pP g[k] d:Nat))) 154):=by rw[ac];simp[jk,Value.cells]
  have aT:O7 (K.setIfInBounds k (.int .u8 (pP g[k] d:Nat))):=λj v T=>by by_cases e:k=j;subst e;rw[mG (by omega)]at T;exact⟨_,(eP T).symm⟩;rw[gm e]at T;exact aa j v T
  have M3:lf n0 w p:=(M1.trans E.1).eR k3 ai;have aU:nA (λx=>A x\/x=H) mk ms G p:=((E.2 (D.2 hp)).Ue I aa).keep k3 λb q=>.inr q;have aV:=eV.lt_of_heap ac;have aW:yg w.heap.size p (fP H g.length gc) (g.set k (pP g[k] d)):=by refine .inr ⟨H,gc,_,by rw[oS],by rw[oS];exact ap,ai,ac,aT,by simpa using aq,λj T=>?_⟩;by_cases e:k=j;subst e;rw[mG (by omega),List.getElem_set_self];rw[gm e,List.getElem_set_ne e];exact ab j (by simpa using T)
  have sA:∀b,(A b\/b=H)->b<p.heap.size:=λb q=>q.elim (λh=>by have:=hA b h;have:=D.1.size;have:=E.1.size;have:=k3.size;omega) λe=>e▸aV;refine KD (by simp) F (eL (yh h hn r (g.set k (pP g[k] d)) (λx=>A x\/x=H) (tailA (qh db aB) M) (M-1) (fP H g.length gc) p M3 sA aU (hd.tail F) (by simp at F;omega) (λx U=>ag x (gG _ U)) aW (λs R=>?_) (by simp at P⊢;omega)) ?_);obtain R|rfl:=sP R;exact ah s R;exact au;rintro v w4 ⟨m4,y⟩;have aH:=m4.1.at_ ac;have back:∀{w5:er},eY (λx=>x=H) w4 w5->w5.heap[H]? =some (.cells K 154)->MA n0 mk ms G A J w5:=λk5 z=>by refine⟨D.1.trans (lf.patch E.1 k3 m4.1 k5 λo L=>?_),λhp=>?_⟩;rw[I]at L;rw[z,<-L];exact((m4.2 (((E.2 (D.2 hp)).Ue I aa).keep k3 λb q=>.inr q)).keep k5 λb q=>.inr q).fewer λb q=>.inl q
  cases L:hZ G most r (g.set k (pP g[k] d))with
  |some Z=>
   rw[L]at y aj;obtain⟨oa,oc,rfl,aX⟩:=y;refine gN k S (kY aH (by simp[Value.cells];omega) (λw5 k5 z=>lq rfl ?_) (iK rfl));have z:w5.heap[H]? =some (.cells K 154):=by
    rw[z];have:jk (K.setIfInBounds k (.int .u8 (pP g[k] d:Nat))) (0+k) (Value.cells (.int .u8 (g[k]:Nat))).toList=(K.setIfInBounds k (.int .u8 (pP g[k] d:Nat))).setIfInBounds k (.int .u8 (g[k]:Nat)):=by simp[jk,Value.cells]
    rw[this,am]
   refine⟨_,rfl,back k5 z,?_⟩;rw[Y,un S hf aj];refine⟨oa,oc,rfl,λj T=>?_⟩;obtain⟨b,o,x0,x1,x2⟩:=aX j T;have y1:=D.1.size;have y2:=E.1.size;have y3:=k3.size;exact⟨b,o,by omega,x1,k5.gM x2 (by show¬b=H;omega)⟩
  |none=>
   rw[L]at y aj;have y:v=.tuple #[ig,.bool false]:=y;subst y;refine gN k S (kY aH (by simp[Value.cells];omega) (λw5 k5 z=>nU rfl ?_) (iK rfl));have z:w5.heap[H]? =some (.cells K 154):=by
    rw[z];have:jk (K.setIfInBounds k (.int .u8 (pP g[k] d:Nat))) (0+k) (Value.cells (.int .u8 (g[k]:Nat))).toList=(K.setIfInBounds k (.int .u8 (pP g[k] d:Nat))).setIfInBounds k (.int .u8 (g[k]:Nat)):=by simp[jk,Value.cells]
    rw[this,am]
   refine eK ⟨by trivial,back k5 z,.inr ⟨H,gc,K,rfl,ap,ai,z,aa,aq,ab⟩,λi hi=>?_⟩;obtain O|av:=gQ i k;exact hf i O;obtain rfl:i=k:=by omega
   exact aj
  rintro w1 ⟨D,an,hf⟩;have M1:=hm.trans D.1;have aI:=D.2 hp;have aJ:hZ G most (d::r) g=if g.length<most/\nx G (gF [d])=true then hZ G most r (g++[gF [d]])else none:=by rw[Y,vx hf]
  have no:∀t,MA n0 mk ms G A J t->¬(g.length<most/\nx G (gF [d])=true)->∃v,Ending.returned (one [ig,.bool false])=.returned v/\MA n0 mk ms G A J t/\zC J.heap.size (hZ G most (d::r) g) v t:=λt m aY=>⟨_,rfl,m,by rw[aJ,ez aY];rfl⟩;have ad:=lF.gF (G:=G) h5 (l:=[d]) λx U=>by rw[gW.1 U];exact aA
  have ba:1<=M:=by simp at F;omega
  have N:∀{t},lf n0 w t->iM t W [d]:=λm=>(hd.jJ m).cut 1;have ae:∀{t},lf n0 w t->Calls V.prog 122 #[.slice W 1 M] t (jy λv w'=>v=.int .u8 (gF [d])/\w'=t):=λm=>uT [d] W M _ (N m) (λx U=>by rw[gW.1 U];omega) (by simp);refine fe (fO ⟨λO=>?_,λav=>nU rfl (no w1 D λU=>?_)⟩);have O:g.length<most:=by simpa using O
  refine wT 1 (by omega) (fw (ae M1) (eL (EB (h.jJ M1) (λb q=>fN (hA b q) D.1.size) aI hn ad.1 ad.2) ?_));rintro v t ⟨rfl,E⟩;refine⟨λR=>?_,λR=>no t ((zB _ _ _ _ _).trans _ _ _ D E) λU=>by rw[R]at U;cases U.2⟩;have M2:=M1.trans E.1;have aZ:=E.2 aI;have a0:=an.jJ E.1;obtain⟨_,_,aK,_,aL,aM⟩:=a0.row;injection aK with e1 _ e2;subst e1;subst e2;have hE:=zB n0 mk ms G A;refine kD 9 hE (Wh n0 t.heap.size mk ms G A) (λa b h=>h.mx) ?_;have aN:∀{p},MX n0 t.heap.size mk ms G A t p->lf n0 w p:=λe=>M2.trans (e.jJ (eF _));refine .exact (.slice (tailA W M) r.length (M-1)) (λp B=>KD (by simp) F ⟨rfl,hE.refl _⟩)<| .LW (λv p=>fc t.heap.size 154 [.int .u8 0] p v g.length (G6 g)) (λv a b Q e=>Q.jJ e.1) (λp B=>eL (A8 (aL.jJ (B.jJ (eF _))) aM (by omega)) λv w4 ⟨e4,Q⟩=>⟨Q.low B.size,e4.ma _ _ _ _ _⟩)<| .exact (.slice W 1 M) (λp B=>wT 1 (by omega) ⟨rfl,hE.refl _⟩)<| .exact (.int .u8 (gF [d])) (λp B _ _=>fw (ae (aN B)) ⟨rfl,hE.refl _⟩)<| .LW (λv p=>∃nb,v=fP nb 1 1/\p.heap[nb]? =some (.cells [Value.int .u8 (gF [d]:Nat)].toArray 154)) (λv a b ⟨nb,h1,h2⟩ e=>⟨nb,h1,e.1.at_ h2⟩) (λp B=>ie [Value.int .u8 (gF [d]:Nat)] 154 λw4 nb e4 aO q=>⟨⟨nb,rfl,q⟩,e4.ma _ _ _ _ _⟩) ?_;refine .spec (λv p=>fc t.heap.size 154 [.int .u8 0] p v (g.length+1) (G6 g++[.int .u8 (gF [d]:Nat)])) (λv a b Q e=>Q.jJ e.1) (λp B a2 a3 a4 af=>?_) ?_;obtain⟨nb,rfl,aO⟩:∃nb,a2=fP nb 1 1/\p.heap[nb]? =some (.cells [Value.int .u8 (gF [d]:Nat)].toArray 154):=a3;have af:fc t.heap.size 154 [.int .u8 0] p a4 g.length (G6 g):=af;refine kP OU af B.1.size aO (by omega) λv' w4 g1 g2 g3=>⟨g1,g2.os,g2.tape,g2.output,g2.size,g2.drawn,λx o U L hm=>g2.iZ L λq=>?_,λaP=>?_⟩;have:=(af.blk q).1;omega;obtain⟨_,rfl⟩|⟨H,c,K,rfl,_,_,z1,z2,_⟩:=EC af;exact aP.keep g2 λb q=>by obtain⟨_,_,q⟩:=q;cases q
  refine((aP.Ue z1 z2).keep g2 λb q=>.inr ?_).fewer λb q=>.inl q;obtain⟨_,_,q⟩:=q;injection q with q;have:=eX Addr.block (eP q);exact this.symm;refine .late rfl (λv p=>zC t.heap.size (hZ G most r (g++[gF [d]])) v p) (λv a b Q e=>Q.jJ e.1) (λp B ak aw=>?_) ?_;have aw:fc t.heap.size 154 [.int .u8 0] p ak (g.length+1) (G6 g++[.int .u8 (gF [d]:Nat)]):=aw;have ax:(g++[gF [d]]).length=g.length+1:=by simp
  have a5:yg t.heap.size p ak (g++[gF [d]]):=EC (by rw[ax];simpa[G6]using aw);have sA:∀b,A b->b<p.heap.size:=λb q=>by have:=hA b q;have:=D.1.size;have:=E.1.size;have:=B.size;omega
  have aQ:yg w.heap.size p ak (g++[gF [d]]):=by obtain h|⟨H,c,K,x1,x2,x3,x4⟩:=a5;exact .inl h;exact .inr ⟨H,c,K,x1,x2,by have:=M2.size;omega,x4⟩
  refine eL (yh h hn r (g++[gF [d]]) A (tailA W M) (M-1) ak p (aN B) sA (B.m aZ) (hd.tail F) (by simp at F;omega) (λx U=>ag x (gG _ U)) aQ (λs R=>?_) (by simp at P⊢;omega)) λv w4 ⟨m4,y⟩=>⟨?_,m4⟩;obtain R|R:=ja.1 R;exact ah s R;rw[gW.1 R];exact ad;cases L:hZ G most r (g++[gF [d]])with
  |none=>rw[L]at y;exact y
  |some Z=>
   rw[L]at y;obtain⟨a,c,x1,x2⟩:=y;exact⟨a,c,x1,x2.low B.size⟩
  let o:=hZ G most r (g++[gF [d]])
  have aR:∀{v p},zC t.heap.size o v p->∃u,v=.tuple #[u,.bool o.isSome]/\zC t.heap.size o (.tuple #[u,.bool o.isSome]) p:=λ{v p} hv=>by
   cases L:o with
   |none=>rw[L]at hv;have hv:v=_:=hv;subst hv;exact⟨_,rfl,rfl⟩
   |some Z=>rw[L]at hv;obtain⟨a,c,rfl,x⟩:=hv;exact⟨_,rfl,a,c,rfl,x⟩
  refine .late rfl (λu p=>zC t.heap.size o (.tuple #[u,.bool o.isSome]) p) (λv a b Q e=>Q.jJ e.1) (λp B a6 ay=>?_) ?_;obtain⟨u,rfl,hu⟩:=aR ay;exact⟨hu,hE.refl _⟩;refine .exact (.bool o.isSome) (λp B a6 ay=>?_) ?_;obtain⟨u,rfl,hu⟩:=aR ay;exact⟨rfl,hE.refl _⟩;refine .late rfl (λu p=>zC t.heap.size o (.tuple #[u,.bool o.isSome]) p) (λv a b Q e=>Q.jJ e.1) (λp B bb a7=>by intro _ _ _ _ _ _ _ _;exact⟨a7,hE.refl _⟩) ?_;intro p B v8 h8 _ _ _ _ _ _ _ _ _ _;have h8:zC t.heap.size o (.tuple #[v8,.bool o.isSome]) p:=h8;refine⟨_,rfl,⟨D.1.trans (E.1.trans (B.jJ (eF _))),λhp=>B.m (E.2 (D.2 hp))⟩,?_⟩;rw[aJ,eC ⟨O,R⟩];show zC J.heap.size o (.tuple #[v8,.bool o.isSome]) p;cases L:o with
  |none=>rw[L]at h8;exact h8
  |some Z=>
   rw[L]at h8;obtain⟨a,c,x1,x2⟩:=h8;exact⟨a,c,x1,x2.low (by have:=D.1.size;have:=E.1.size;omega)⟩
  have:=gJ av;omega
def XC(Q:QW):QW
 | .goto _,_,_=>False
 | .normal,l,w=>Q .normal l w
 | .exit i,l,w=>Q (.exit i) l w
 | .ret,l,w=>Q .ret l w
 | .panic c,l,w=>Q (.panic c) l w
 | .outgrown,l,w=>Q .outgrown l w
def O9{N:Nat}{c:Code}{l:L}{w:er}{Q:QW}(h:WC V.prog H7 N c (XC Q) l w):iq V.prog N (.scope c) l w Q:=by
 refine⟨λa f=>wp_scope_straight (mY (kC fu c _ l a w f h) ?_)⟩;rintro e j k ⟨g,b,d⟩;cases e with
 |goto i=>exact d.elim
 |_=>exact⟨g,b,d⟩
def XD(a b c d e:Bool)(x y:fI)(w:er):Sem.run V.prog (do eqGuard .eql 217 x y (.agg #[.bool a,.bool b,.bool c,.bool d,.bool e]) (.agg #[.bool false,.bool false,.bool false,.bool false,.bool false]);binOp .eql 217 (.agg #[.bool a,.bool b,.bool c,.bool d,.bool e]) (.agg #[.bool false,.bool false,.bool false,.bool false,.bool false])) w=.ok (.bool (!(a||b||c||d||e))) w:=by cases a<;>cases b<;>cases c<;>cases d<;>cases e<;>kernel_rfl
def iq.jm{N:Nat}{c:Code}{l l0:L}{w:er}{Q:QW}(b:Sub l0 l)(h:iq P N c l0 w Q):iq P N c l w Q:=⟨λa d=>h.out a (d.sub b)⟩
def iq.mono{N:Nat}{c:Code}{l:L}{w:er}{Q d:QW}(f:∀e l w,Q e l w->d e l w)(h:iq P N c l w Q):iq P N c l w d:=⟨λa g=>mY (h.out a g) (by rintro e k m ⟨i,b,j⟩;exact⟨i,b,f _ _ _ j⟩)⟩
def Wi(a:L)(F:fa)(Q:QW):QW
 | .normal,l,w=>Sub a l/\F w
 | .goto i,l,w=>Q (.goto i) l w
 | .exit i,l,w=>Q (.exit i) l w
 | .ret,l,w=>Q .ret l w
 | .panic c,l,w=>Q (.panic c) l w
 | .outgrown,l,w=>Q .outgrown l w
def Uf{N:Nat}{c:Code}{l:L}{w:er}{Q:QW}(a:L)(F:fa)(h:iq P N c l w (Wi a F Q))(b:∀l w,Sub a l->F w->Q .normal l w):iq P N c l w Q:=
 h.mono λe l w h=>by
  cases e with
  |normal=>exact b l w h.1 h.2
  |_=>exact h
def jM.c{A:eN}{w d:er}{a:fR}{l:ew}(h:jM A w a l)(e:∀b o v,¬A b->w.cell? ⟨b,o,none⟩=some v->d.cell? ⟨b,o,none⟩=some v):jM A d a l:=h.go (λ_ h=>.inl h) e
def A9(A:eN)(e:Nat)(w:er)(v:eu)(b:List ew):Prop:=∃d,fc e 27 [.slice none 0 0] w v b.length d/\d.length=b.length/\∀k (h:k<b.length),∃a c,d[k]? =some (.slice a b[k].length c)/\jM A w a b[k]/\b[k].length<=c
theorem A9.jJ{A:eN}{b n0:Nat}{w d:er}{f:List ew}(h:A9 A b w x f)(e:lf n0 w d):A9 A b d x f:=by obtain⟨g,i,j,l⟩:=h;refine⟨g,i.jJ e,j,λk m=>?_⟩;obtain⟨a,c,n,o,p⟩:=l k m;exact⟨a,c,n,o.jJ e,p⟩
theorem A9.keep{A:eN}{d:Nat}{w e:er}{f:List ew}{F:eN}(h:A9 A d w x f)(k:eY F w e)(g:∀b,F b->A b)(j:∀b,eG x b->¬F b):A9 A d e x f:=by obtain⟨l,m,n,p⟩:=h;refine⟨l,m.keep k j,n,λi q=>?_⟩;obtain⟨a,c,r,s,t⟩:=p i q;exact⟨a,c,r,s.c λb o x u v=>k.gM v λy=>u (g b y),t⟩
def A9.out{A A':eN}{i:Nat}{w:er}{d:List ew}(h:A9 A i w x d)(l:∀b,A' b->A b)(e:∀b,A' b->b<i):∃a c,x=.slice a d.length c/\nX A' w a d/\d.length<=c:=by obtain⟨u,⟨v,⟨m,rfl⟩|⟨b,c,y,z,rfl,n,B,o,C,p,D⟩⟩,E,f⟩:=h;exact⟨none,0,by rw[m],λk j=>by omega,by omega⟩;refine⟨_,c,rfl,λk j=>?_,o⟩;obtain⟨a,q,r,s,t⟩:=f k j;exact⟨b,0,a,q,λg=>by have:=e b g;omega,rfl,eB n (by rw[eJ,p k (by omega)];exact r),s.more λb g=>.inl (l b g),t⟩
structure MF(F:Nat->Prop)(n0 mk ms:Nat)(G:Gd)(A:Nat->Prop)(a b:er):Prop where
 os:b.os=a.os
 tape:b.tape=a.tape
 output:b.output=a.output
 size:a.heap.size<=b.heap.size
 drawn:a.drawn<=b.drawn
 block:∀x o,¬F x->a.heap[x]? =some o->(x<n0\/T9 o=false)->b.heap[x]? =some o
 m:(∀x,A x->x<a.heap.size)->nA A mk ms G a->nA A mk ms G b
section
variable{F:Nat->Prop}{n0 mk ms:Nat}{G:Gd}{A:Nat->Prop}{a b w0:er}
def Jd(F:eN)(n0 mk ms:Nat)(G:Gd)(A:eN):jd (MF F n0 mk ms G A):=
 ⟨λw=>⟨rfl,rfl,rfl,eF _,eF _,λ_ _ _ h _=>h,λ_ h=>h⟩,λa b c h k=>⟨k.os.trans h.os,k.tape.trans h.tape,k.output.trans h.output,ff h.size k.size,ff h.drawn k.drawn,λx o d i f=>k.block x o d (h.block x o d i f) f,λg e=>k.m (λx d=>fN (g x d) h.size) (h.m g e)⟩,λw=>⟨rfl,rfl,rfl,eF _,nh _,λ_ _ _ h _=>h,λ_ e=>e.ext (Ext.drew w)⟩⟩
def MR.mf(h:MR n0 mk ms G a b):MF F n0 mk ms G A a b:=⟨h.1.os,h.1.tape,h.1.output,h.1.size,h.1.drawn,λx o _ c d=>h.1.block x o c d,λe f=>h.2 A e f⟩
def MF.at_(h:MF F n0 mk ms G A a b){x:Nat}{c:Nat×Nat}(d:¬F x)(e:a.heap[x]? =some (.cells W T c)):b.heap[x]? =some (.cells W T c):=h.block x _ d e (.inr rfl)
def MF.cell(d:MF F n0 mk ms G A a b)(e:¬F h.block)(c:a.cell? h=some x):b.cell? h=some x:=by unfold World.cell? at c⊢;split at c;rename_i g t i f;rw[d.at_ e f];exact c;cases c
def MF.after(h:MF F n0 mk ms G A a b)(m:lf n0 w0 a)(e:∀x,F x->w0.heap.size<=x):lf n0 w0 b:=
 ⟨h.os.trans m.os,h.tape.trans m.tape,h.output.trans m.output,ff m.size h.size,ff m.drawn h.drawn,λx o c d=>h.block x o (λf=>by have:=e x f;have:=eV.lt_of_heap c;omega) (m.block x o c d) d⟩
def MF.Pa(k:eY F a b)(c:∀x,F x->A x):MF F n0 mk ms G A a b:=⟨k.os,k.tape,k.output,k.size,k.drawn,λx o d e _=>k.iZ e d,λ_ f=>f.keep k c⟩
end
def Vh:∀s:Nat,s<32->(!(s.testBit 0||s.testBit 1||s.testBit 2||s.testBit 3||s.testBit 4))=decide (s=0):=by decide+kernel
def Mi.go2{o:Option (List ew)}(h:Mi A o x D w)(a:∀D,B D->A D\/w.heap.size<=D)(b:∀D o x,¬A D->w.cell? ⟨D,o,none⟩=some x->t.cell? ⟨D,o,none⟩=some x):Mi B o x D t:=h.go a b
def Ba(a:s≠0):iw H s=((List.range (fx s).length).findSome? λm=>hZ H (m+1) (fx s) []).map λb=>b.map (fy H):=by rw[iw,ez a]
def uU(s:Nat):(fx s).length<=5:=oE s 5
theorem uo(g:H.doors.length<=5){most:Nat}:∀(doors c a:ew),(∀d∈doors,d<H.doors.length)->(∀s∈c,lF H s)->hZ H most doors c=some a->(∀s∈a,lF H s)/\a.length<=c.length+doors.length
 |[],c,a,_,e,h=>by simp only[hZ,iz]at h;subst h;exact⟨e,by simp⟩
 |d::r,c,a,n,e,h=>by
  have f:=n d gD;have p:∀x∈r,x<H.doors.jK:=λx k=>n x (gG _ k);simp only[hZ]at h;split at h;rename_i o q;obtain rfl:=eP h;obtain⟨i,j,l⟩:=Nv q;split at l;have j:i<c.jK:=by simpa using j
  have m:lF H (c.getD i 0):=by rw[getD_eq j];exact e _ (ft j)
  have:=uo g r _ _ p (λs b=>by obtain b|rfl:=sP b;exact e s b;exact m.pP f g) l;simp only[oS,gf]at this⊢;exact⟨this.1,by omega⟩;cases l;split at h;have:=uo g r _ _ p (λs b=>by obtain b|b:=ja.1 b;exact e s b;rw[gW.1 b];exact lF.gF g λx k=>by rw[gW.1 k];exact f) h;simp only[jR,gf,il]at this⊢;exact⟨this.1,by omega⟩;cases h
def Bb{gp mk ms n0 s:Nat}(h:qX gp mk ms H w)(hA:∀b,A b->b<w.heap.size)(hp:nA A mk ms H w)(aU:n0<=mk)(hn:n0<=ms)(hs:lF H s):
 Calls V.prog 130 #[eT gp,.int .u8 s] w (jy λv B=>MA n0 mk ms H A w B/\∃u b,v=.tuple #[u,.bool b]/\Mi A (iw H s) u b B):=by
 have h5:=h.wx.many;refine jT Tryz.func130 Tryz.ntmps130 ?_;refine O9<|eL (Mb s w hs.1) ?_;rintro v w1 ⟨rfl,e1⟩;refine ji λw2 Q e2 bo aB=>fV aB λw3 k3 C=>?_;have C:w3.heap[Q]? =some (.cells (r9 s).toArray 217):=C.trans (eX (λa=>some (Obj.cells a 217)) (jB (xW 217).toArray (r9 s) rfl));have E3:Ext w w3:=(e1.trans e2).eR k3 (by have:=e1.size;omega);have ar:∀{B},B.heap[Q]? =some (.cells (r9 s).toArray 217)->∀{k:oz},k (qR s) B->lY V.prog (Instr.loadAt 217 (fp Q)) B k:=λd k hk=>iu (vs:=r9 s) (λj v hj=>by rw[eJ];exact eB d (by simpa using hj)) hk;refine ar C (gK (.agg #[.bool false,.bool false,.bool false,.bool false,.bool false]) ?_);refine⟨_,w3,XD _ _ _ _ _ _ _ w3,?_⟩;rw[Vh s hs.1];refine⟨λh0=>?_,λh0=>?_⟩;have h0:s=0:=fQ h0;subst h0;exact⟨_,rfl,E3.ma _ _ _ _ _,_,_,rfl,rfl,none,0,rfl,λk hk=>by simp at hk,eF _⟩;have h0:s≠0:=gJ h0;have h3:=h.ext E3;have aV:=hp.ext E3;obtain⟨aW,am,an⟩:=Ku O6 O4 (z:=.agg #[ig,.bool false]) (by intro w;kernel_rfl) aV.k hs.1;have aX:∃u b ok,aW=.tuple #[.agg #[u,.bool b],.bool ok]/\u.oneCell'=true/\((ok=true/\Mi A (iw H s) u b w3)\/ok=false):=by
  obtain⟨v,rfl,u,b,rfl,hw⟩|rfl:=am;refine⟨u,b,true,rfl,?_,.inl ⟨rfl,hw⟩⟩;cases aC:iw H s with
  |none=>rw[aC]at hw;rw[hw.1];rfl
  |some ls=>rw[aC]at hw;obtain⟨_,a,c,rfl,_⟩:=hw;rfl
  exact⟨_,_,false,rfl,rfl,.inr rfl⟩
 obtain⟨u,b,ok,rfl,aY,aD⟩:=aX;have aZ:tg [u,.bool b]=true:=by simp only[tg,aY];rfl
 have bp:Q<w3.heap.size:=eV.lt_of_heap C;refine kD 10 fl (kJ (λx=>w3.heap.size<=x)) (λa b h=>h.keep _) ?_;have ah:∀{U},eY (λx=>w3.heap.size<=x) w3 U->Ext w3 U:=λe=>e.ext λb d f=>by omega
 refine .exact (.map (some mk)) (λU e4=>eH ((ah e4).cell h3.W9) iJ) (.exact (qR s) (λU e4=>ar ((ah e4).at_ C) iJ) (.exact _ (λU e4=>⟨_,_,an U λo ho=>(ah e4).at_ ho,rfl,Ext.refl _⟩) ?_));refine .LW (λv U=>∃r,v=fp r/\w3.heap.size<=r/\U.heap[r]? =some (.cells (xW 220).toArray 220)) (λv a b ⟨r,h1,h2,h3⟩ e=>⟨r,h1,h2,e.at_ h3⟩) (λU e4=>ji λw5 r e5 ai d=>⟨⟨r,rfl,ff e4.size ai,d⟩,e5⟩) ?_;refine .AS (λvs U=>∃r,vs=[fp r]/\w3.heap.size<=r/\gY U r #[u,.bool b] 220) (λvs a b ⟨r,h1,h2,h3⟩ e=>⟨r,h1,h2,e.at_ h3⟩) (λU e4 v7 h7=>?_) ?_;obtain⟨r,rfl,g1,g2⟩:=h7;exact kY g2 (sS rfl) (λw5 k5 a0=>⟨⟨r,rfl,g1,a0⟩,k5.trans (eY.refl (λ_=>False) w5) (λx _ f=>by subst f;exact g1) λ_ _ h=>h.elim⟩) (iK aZ);intro U e4 v7 _ hJ;obtain⟨bq,aE,g1,g2⟩:=hJ;simp only[sM,and_true]at aE;subst aE;have W:=ah e4;refine⟨λhk=>?_,λhk=>?_⟩;refine fB fl (eZ (eB g2 rfl) (eZ (eB g2 rfl) λw5 e5=>?_));have hw:=aD.elim (λh=>h.2) λh=>by rw[hk]at h;cases h
 exact⟨_,rfl,((E3.trans W).trans e5).ma _ _ _ _ _,u,b,rfl,hw.go2 (λ_ h=>.inl h) λb o v d F=>(W.trans e5).cell F⟩;clear aD am an;refine ji λw5 p e5 br R=>?_;have R:gY w5 p #[ig,.bool false] 220:=R;have E5:Ext w w5:=(E3.trans W).trans e5;have bs:=eV.lt_of_heap R;have s3:=E3.size;have bt:=W.size;have ao:=(W.trans e5).at_ C;have a1:nA (λx=>A x\/x=p) mk ms H w5:=((hp.ext (E3.trans W)).more (A':=λx=>A x\/x=p) λx f=>f.imp id λe=>by omega).ext e5;refine eL (wW s w5 hs.1) ?_;rintro lv w6 ⟨e6,a2⟩;obtain⟨la,lc,rfl,a3,bu⟩:=a2.row;have bv:=uU s;refine fe<|Uf [(0,eT gp),(6,eT Q),(9,eT p)] (λB=>MA n0 mk ms H A w B/\B.heap[Q]? =some (.cells (r9 s).toArray 217)/\∃u b,gY B p #[u,.bool b] 220/\Mi A (iw H s) u b B) ?_ ?_;refine gO (n:=(fx s).length) (λk=>[(0,eT gp),(1,.int .u8 s),(6,eT Q),(9,eT p),(36,i64 (fx s).length),(37,i64 k)]) (λk B=>lf n0 w B/\nA (λx=>A x\/x=p) mk ms H B/\B.heap[Q]? =some (.cells (r9 s).toArray 217)/\gY B p #[ig,.bool false] 220/\∀i,i<k->hZ H (i+1) (fx s) []=none) ⟨by trivial,(E5.trans e6).jJ n0,a1.ext e6,e6.at_ ao,e6.at_ R,λi hi=>by omega⟩ ?_ ?_ ?_;rintro k B hk hJ;exact fO ⟨rfl,rfl,by trivial,hJ⟩;rintro k w7 hk ⟨m7,aa,D,t,I⟩;refine eL (wW s w7 hs.1) ?_;rintro bw w8 ⟨K,a4⟩;obtain⟨da,dc,rfl,au,a5⟩:=a4.row;have m8:=m7.trans (K.jJ n0);have L:=aa.ext K;refine eK ?_;have av:∀b,(A b\/b=p)->b<w8.heap.size:=λb d=>d.elim (λd=>by have:=hA b d;have:=m8.size;omega) λe=>e▸eV.lt_of_heap (K.at_ t);have aF:=yh (most:=k+1) (h.jJ m8) hn (fx s) [] (λx=>A x\/x=p) da dc ig w8 (lf.refl _ _) av L au a5 hs.2 (.inl ⟨rfl,rfl⟩) (λx f=>by cases f) (by simp;omega);rw[show((k+1:Nat):Int)=(k:Int)+1 by omega]at aF;refine eL aF ?_;rintro v w9 ⟨S,X⟩;cases ho:hZ H (k+1) (fx s) []with
 |none=>
  rw[ho]at X;have X:v=.tuple #[ig,.bool false]:=X;subst X;refine gT (lq rfl (eK ⟨by trivial,m8.trans S.1,S.2 L,S.1.at_ (K.at_ D),S.1.at_ (K.at_ t),λi hi=>?_⟩));obtain aj|aG:=gQ i k;exact I i aj;obtain rfl:i=k:=by omega
  exact ho
 |some E=>
  rw[ho]at X;obtain⟨ga,gc,rfl,a6⟩:=X;refine gT (nU rfl (fe ?_));obtain⟨aH,aI⟩:=uo h5 (fx s) [] E hs.2 (λx f=>by cases f) ho;have aI:E.length<=5:=by simp at aI;omega
  have s5:=e6.size;have s8:=m8.size;have s9:=S.1.size;have bm:p<w8.heap.size:=eV.lt_of_heap (K.at_ t);have bn:Q<w8.heap.size:=eV.lt_of_heap (K.at_ D);have aJ:Q≠p:=by have:=eV.lt_of_heap ao;have:=eV.lt_of_heap C;omega
  have aw:∀b,¬eG ig b:=λb d=>by obtain⟨_,_,d⟩:=d;cases d
  refine kZ (n:=E.length) (λj v=>[(0,eT gp),(6,eT Q),(9,eT p),(51,.slice ga E.length gc),(52,i64 E.length),(53,i64 j)]) (λj v B=>lf n0 w B/\w9.heap.size<=B.heap.size/\nA (λx=>(A x\/x=p)\/eG v x) mk ms H B/\B.heap[Q]? =some (.cells (r9 s).toArray 217)/\gY B p #[v,.bool false] 220/\A9 (λx=>(A x\/x=p)\/eG v x) w9.heap.size B v ((E.take j).map (fy H))/\∀k (h:k<E.length),∃b o,(w8.heap.size<=b/\b<w9.heap.size)/\ga=some (eQ b o)/\B.cell? (eQ b (o+k))=some (.int .u8 E[k])) (ig) ⟨by trivial,m8.trans S.1,eF _,(S.2 L).more λb d=>d.elim .inl λd=>absurd d (aw b),S.1.at_ (K.at_ D),S.1.at_ (K.at_ t),⟨[],fc.nil _ _ _ _,rfl,λk hk=>by simp at hk⟩,λi hi=>?_⟩ ?_ ?_ ?_;obtain⟨b,o,x0,x1,x2⟩:=a6 i hi;exact⟨b,o,⟨x0,pY x2⟩,x1,x2⟩;rintro j v M hj hJ;exact fO ⟨rfl,rfl,by trivial,hJ⟩;rintro j v M hj ⟨ax,a7,N,P,J,G,ab⟩;obtain⟨gb,bx,bz,aK,a8⟩:=ab j hj;have f:=aH _ (ft hj);have y:∀b,eG v b->w9.heap.size<=b/\b<M.heap.size:=λb d=>by obtain⟨us,Y,_⟩:=G;exact Y.blk d
  have T:∀b,((A b\/b=p)\/eG v b)->b<M.heap.size:=λb d=>d.elim (λd=>by have:=av b d;omega) λd=>(y b d).2;subst aK;refine gN j hj (eH a8 ?_);refine kD 6 (V9 n0 mk ms H) (Jd (eG v) n0 mk ms H (λx=>(A x\/x=p)\/eG v x)) (λa b h=>h.mf) ?_;have aL:¬eG v p:=λd=>by have:=(y p d).1;omega
  have a9:¬eG v Q:=λd=>by have:=(y Q d).1;omega
  have aM:∀{g},MF (eG v) n0 mk ms H (λx=>(A x\/x=p)\/eG v x) M g->lf n0 w g:=λe=>e.after ax λx f=>by have:=(y x f).1;omega
  refine .exact v (λg q=>eH (eB (q.at_ aL J) rfl) ⟨rfl,MR.refl _⟩)<| .rel (λu g=>ShR (λx=>(A x\/x=p)\/eG v x) H E[j] u g) (λu a b hu e=>hu.go (λ_ h=>.inl h) λb o x d F=>e.cell (λhf=>d (.inr hf)) F) (λg q=>?_) ?_;have ac:∀b,((A b\/b=p)\/eG v b)->b<g.heap.size:=λb d=>fN (T b d) q.size;exact eL (yS (h.jJ (aM q)) ac (q.m T N) hn f.1 f.2) λu ad ⟨ba,bb⟩=>⟨bb _ ac (q.m T N),ba⟩;refine .rel (λx g=>∃r u,x=fP r 1 1/\M.heap.size<=r/\g.heap[r]? =some (.cells [u].toArray 27)/\ShR (λx=>(A x\/x=p)\/eG v x) H E[j] u g) (λx a b ⟨r,u,h1,h2,h3,h4⟩ e=>⟨r,u,h1,h2,e.at_ (λhf=>by have:=(y r hf).2;omega) h3,h4.go (λ_ h=>.inl h) λb o x d F=>e.cell (λhf=>d (.inr hf)) F⟩) (λg q u hu=>?_) ?_;obtain⟨a,c,rfl,Y,F⟩:=hu;refine ie [.slice a (fy H E[j]).length c] 27 (λad r aN ai d=>⟨⟨r,_,rfl,ff q.size ai,d,a,c,rfl,Y.c λb o x _ f=>aN.cell f,F⟩,aN.mr⟩) ?_;intro w;kernel_rfl;refine .spec (λv' g=>(∀x,((A x\/x=p)\/eG v' x)->x<g.heap.size)/\nA (λx=>(A x\/x=p)\/eG v' x) mk ms H g/\A9 (λx=>(A x\/x=p)\/eG v' x) w9.heap.size g v' ((E.take j).map (fy H)++[fy H E[j]])) (λv' a b ⟨h1,h2,h3⟩ e=>⟨λx f=>fN (h1 x f) e.1.size,e.2 _ h1 h2,h3.jJ e.1⟩) (λg q aO bc bd bA=>?_) ?_;obtain⟨r,u,rfl,ai,aP,ua,uc,rfl,be,bf⟩:∃r u,aO=fP r 1 1/\M.heap.size<=r/\g.heap[r]? =some (.cells [u].toArray 27)/\ShR (λx=>(A x\/x=p)\/eG v x) H E[j] u g:=bc;obtain⟨us,Y,aQ,bg⟩:=G.jJ q.1;have bB:((E.take j).map (fy H)).length<=5:=by simp;omega
  have ae:=q.2 _ T N;refine kP OK Y (by have:=q.1.size;omega) aP (by omega) (λv' ad g1 g2 g3=>⟨⟨λx f=>?_,?_,us++[.slice ua (fy H E[j]).length uc],by simpa using g1,by simp[aQ],λi hi=>?_⟩,MF.Pa g2 λx f=>.inr f⟩) rfl (by simp[tg,Value.oneCell']);obtain f|f:=f;have:=av x f;have:=q.1.size;have:=g2.size;omega;exact(g1.blk f).2;exact((ae.more (A':=λx=>((A x\/x=p)\/eG v x)\/eG v' x) λx f=>f.elim .inl λf=>(g3 x f).elim (λh=>.inl (.inr h)) .inr).keep g2 λx f=>.inl (.inr f)).fewer λx f=>f.elim (λh=>.inl (.inl h)) .inr;have up:∀{a:fR} {l:ew},jM (λx=>(A x\/x=p)\/eG v x) g a l->jM (λx=>(A x\/x=p)\/eG v' x) ad a l:=λhn=>by have h1:jM (λx=>((A x\/x=p)\/eG v x)\/eG v' x) ad _ _:=(hn.more (A':=λx=>((A x\/x=p)\/eG v x)\/eG v' x) λx f=>f.elim .inl λf=>(g3 x f).elim (λh=>.inl (.inr h)) .inr).c λb o x d F=>g2.gM F λhf=>d (.inl (.inr hf));exact h1.more λx f=>.inl (f.elim (λh=>.inl (.inl h)) .inr)
  obtain aj|aG:=gQ i ((E.take j).map (fy H)).length;obtain⟨a,c,x1,x2,x3⟩:=bg i aj;rw[nE aj];exact⟨a,c,by rw[oR (by omega)];exact x1,up x2,x3⟩;obtain rfl:i=((E.take j).map (fy H)).length:=by simp at hi aG⊢;omega
  refine⟨ua,uc,by rw[ow (by omega)];simp[aQ],?_,?_⟩;simp only[sO (eF _),mj,oy];exact up be;simp only[sO (eF _),mj,oy];exact bf;intro g q af bh aO _ bd _;obtain⟨ac,ae,O⟩:(∀x,((A x\/x=p)\/eG af x)->x<g.heap.size)/\nA (λx=>(A x\/x=p)\/eG af x) mk ms H g/\A9 (λx=>(A x\/x=p)\/eG af x) w9.heap.size g af ((E.take j).map (fy H)++[fy H E[j]]):=bh;have aR:∃a l c,af=.slice a l c:=by obtain⟨us,Y,_⟩:=O;obtain⟨a,c,rfl,_⟩:=Y.len;exact⟨a,_,c,rfl⟩
  obtain⟨va,vl,vc,rfl⟩:=aR;have ay:∀b,eG (.slice va vl vc) b->w9.heap.size<=b:=λb d=>by obtain⟨us,Y,_⟩:=O;exact(Y.blk d).1
  refine kY (q.at_ aL J) (sS rfl) (λad Z aS=>eK ⟨.slice va vl vc,by trivial,(aM q).eR Z (by omega),by have:=q.size;have:=Z.size;omega,ae.keep Z (λx f=>.inl (.inr f)),Z.iZ (q.at_ a9 P) aJ,aS,?_,λi hi=>?_⟩) (iK rfl);have ht:(E.take (j+1)).map (fy H)=(E.take j).map (fy H)++[fy H E[j]]:=by rw[kM hj,nS];rfl
  rw[ht];exact O.keep Z (λx f=>.inl (.inr f)) λx f az=>by have:=ay x f;have:x=p:=az;omega
  obtain⟨b,o,x0,x1,x2⟩:=ab i hi;exact⟨b,o,x0,x1,Z.gM (q.cell (λhf=>by have:=(y b hf).1;omega) x2) (by show¬b=p;omega)⟩;rintro v M ⟨ax,a7,N,P,J,G,ab⟩;rw[mI]at G;refine kY J (sS rfl) (λg al ag=>?_) (iK rfl);have ag:gY g p #[v,.bool true] 220:=ag;have y:∀b,eG v b->w9.heap.size<=b:=λb d=>by obtain⟨us,Y,_⟩:=G;exact(Y.blk d).1
  have O:=G.keep al (λx f=>.inl (.inr f)) λx f az=>by have:=y x f;have:x=p:=az;omega
  obtain⟨a,c,hv,hl,F⟩:=O.out (A':=A) (λb d=>.inl (.inl d)) λb d=>by have:=hA b d;omega
  refine⟨by trivial,⟨ax.eR al (by omega),λ_=>(N.keep al λx f=>.inl (.inr f)).fewer λb d=>.inl (.inl d)⟩,al.iZ P aJ,v,true,ag,?_⟩;rw[Ba h0,un hk I ho];exact⟨rfl,a,c,hv,hl,F⟩
 rintro w7 ⟨m7,aa,D,t,I⟩;refine⟨by trivial,⟨m7,λ_=>aa.fewer λb d=>.inl d⟩,D,_,_,t,?_⟩;rw[Ba h0,vx I];exact⟨rfl,rfl⟩;rintro l w7 aT ⟨m7,D,u7,b7,t,bi⟩;have h7:=h.jJ m7.1;have aa:=m7.2 hp;refine iq.jm aT (fB fl (eZ h7.W9 (dx (qR s) (λw8 K=>ar (K.at_ D) iJ) (dx (.agg #[u7,.bool b7]) (λw8 K=>iu (vs:=[u7,.bool b7]) (λj v hj=>by rw[eJ];exact eB (K.at_ t) (by simpa using hj)) iJ) λw8 K=>?_))));have ap:Mi A (iw H s) u7 b7 w8:=bi.go2 (λ_ h=>.inl h) λb o v d F=>K.cell F;have L:=aa.ext K;refine wZ O6 O4 L.k hs.1 aU (λw9 m=>⟨λs u hu=>hu.go (λ_ h=>.inl h) λb o v d F=>m.cell F,u7,b7,rfl,ap.go2 (λ_ h=>.inl h) λb o v d F=>m.cell F⟩) λw9 S bj bk=>?_;have bl:nA A mk ms H w9:=⟨L.s.go (λs v Y=>Y.go (λ_ h=>.inl h) λb o v d F=>S.cell F) λo ho=>by rw[bj ms (jb h.ne)];exact ho,bk,L.ak,L.asm⟩;have aq:=S.at_ (K.at_ t);refine fB fl (eZ (eB aq rfl) (eZ (eB aq rfl) λM aA=>?_));exact⟨_,rfl,⟨m7.1.trans ((K.jJ n0).trans (S.trans (aA.jJ n0))),λ_=>bl.ext aA⟩,u7,b7,rfl,ap.go2 (λ_ h=>.inl h) λb o v d F=>aA.cell (S.cell F)⟩
structure Tq where
 door:Int
 shift:Int
 opened:Bool
def Qu(t:Tq):fD:=[.int .i64 t.door,.int .i64 t.shift,.bool t.opened]
def vX(w:er)(a:fR)(l:List Tq):Prop:=∀k (h:k<l.length),∃b o,a=some ⟨b,o,none⟩/\∀j v,(Qu l[k])[j]? =some v->w.cell? ⟨b,o+k*3+j,none⟩=some v
def vX.ext{l:List Tq}(h:vX w a l)(e:Ext w t):vX t a l:=λk c=>by obtain⟨b,o,d,f⟩:=h k c;exact⟨b,o,d,λj v g=>e.cell (f j v g)⟩
def nP:Sx:=⟨0,0,0,false,false,false,false,false⟩
def uq(G:Gd):List Sx->Int->List Tq->Int×List Sx
 |b,_,[]=>(0,b)
 |b,a,t::r=>
  if oD t.door 0 ((G.doors.length:Int)-1)&&oD t.shift 0 (2*G.days-1)then
   if t.shift<a then(5,[])
   else if uj (b.getD t.door.toNat nP) (t.shift.toNat/2)then(4,[])
   else if gP G.tries (b.getD t.door.toNat nP)then(12,[])
   else uq G (b.set t.door.toNat (iE (b.getD t.door.toNat nP) t.shift.toNat t.opened)) t.shift r
  else(3,[])
def lx(G:Gd)(l:List Tq):Int×List Sx:=uq G (List.replicate G.doors.length nP) 0 l
def wz(k:Nat)(x:Sx):Prop:=(0<=x.tries/\x.tries<=k)/\(0<=x.mornings/\x.mornings<=k)/\0<=x.evenings/\x.evenings<=k
def wz.Tg{x:Sx}(h:wz k x)(s:Nat)(o:Bool):wz (k+1) (iE x s o):=by obtain⟨a,b,c⟩:=h;unfold iE wz;refine⟨by constructor<;>simp only<;>omega,?_,?_⟩;constructor<;>simp only<;>split<;>omega;simp only;split<;>omega
def wz.up{x:Sx}(h:wz k x):wz (k+1) x:=by obtain⟨a,b,c⟩:=h;refine⟨⟨a.1,by omega⟩,⟨b.1,by omega⟩,c.1,by omega⟩
def Pb(f:w.heap[m]? =some (.cells (madeCells (xW 166).toArray (k*8)) 166)):pW m (List.replicate k nP) w:=by
 refine⟨_,f,by simp[madeCells],λa g j v b=>?_⟩;have c:j<8:=(kS.1 b).1;have h:a<k:=by simpa using g
 have d:a*8+j<k*8:=by have:=rJ 8 (show a+1<=k by omega);omega
 have i:(xW 166).toArray.size=8:=rfl;have l:(a*8+j)%8=j:=by omega
 have e:(madeCells (xW 166).toArray (k*8))[a*8+j]? =(xW 166)[j]? :=by
  unfold madeCells;rw[tk,lA (by simpa using d)];simp only[Array.getElem_range,kT,i,l];match j,c with
  |0,_=>rfl
  |1,_=>rfl
  |2,_=>rfl
  |3,_=>rfl
  |4,_=>rfl
  |5,_=>rfl
  |6,_=>rfl
  |7,_=>rfl
 rw[e];simp only[List.getElem_replicate]at b;exact b
def Vi(G:Gd)(l:List Tq)(b:Nat)(v:eu)(w:er):Prop:=
 ((lx G l).1≠0/\v=.tuple #[.slice none 0 0,.int .i64 (lx G l).1])\/
 ((lx G l).1=0/\(lx G l).2.length=G.doors.length/\(∀x∈(lx G l).2,wz l.length x)/\∃a,b<=a/\v=.tuple #[.slice (some ⟨a,0,none⟩) G.doors.length G.doors.length,.int .i64 0]/\pW a (lx G l).2 w)
def Mm(G:Gd)(a:List Sx)(b:Int)(l:List Tq)(k:Nat)(c:k<l.length):uq G a b (l.drop k)=(if oD l[k].door 0 ((G.doors.length:Int)-1)&&oD l[k].shift 0 (2*G.days-1)then
 if l[k].shift<b then(5,[])
 else if uj (a.getD l[k].door.toNat nP) (l[k].shift.toNat/2)then(4,[])
 else if gP G.tries (a.getD l[k].door.toNat nP)then(12,[])
 else uq G (a.set l[k].door.toNat (iE (a.getD l[k].door.toNat nP) l[k].shift.toNat l[k].opened)) l[k].shift (l.drop (k+1))
 else(3,[])):=by
 rw[qZ c];rfl
def Ug{gp mk ms:Nat}(h:qX gp mk ms H w){l:List Tq}{lc:Nat}(hr:vX w a l)(aw:l.length<=100000):
 Calls V.prog 137 #[eT gp,.slice a l.length lc] w (jy λv m=>Ext w m/\Vi H l w.heap.size v m):=by
 have Q:=h.wx;have af:=Q.days;have h5:=Q.many;obtain⟨da,dc,h6,ax⟩:=h.c6;refine jT Tryz.func137 Tryz.ntmps137 ?_;refine eH h6 (fe (A5 OS (eF _) (by omega) λw1 y e1 R S=>?_));have ag:=Pb S
 refine fe (kZ (n:=l.length) (λk (G:List Sx×Int)=>[(0,eT gp),(6,fP y H.doors.length H.doors.length),(7,i64 G.2),(17,.slice a l.length lc),(18,i64 l.length),(19,i64 k)])
  (λk G m=>Ext w m/\pW y G.1 m/\G.1.length=H.doors.length/\(∀x∈G.1,wz k x)/\lx H l=uq H G.1 G.2 (l.drop k)) (List.replicate H.doors.length nP,0) ⟨by trivial,e1,ag,by simp,λx T=>?_,rfl⟩ ?_ ?_ ?_)
 rw[List.eq_of_mem_replicate T];simp[wz,nP];rintro k G m hk U;exact fO ⟨rfl,rfl,by trivial,U⟩;rintro k ⟨g,bf⟩ w2 hk ⟨e2,p,F,A,f⟩;simp only at p F A f⊢;obtain⟨b,o,rfl,hc⟩:=(hr.ext e2) k hk;rw[Mm H g bf l k hk]at f;refine iV k 3 hk (iu (vs:=Qu l[k]) hc (ji λw3 tb e3 ah W=>fV W λw4 k4 q=>?_));have q:w4.heap[tb]? =some (.cells (Qu l[k]).toArray 84):=q;have ay:y<w2.heap.size:=by obtain⟨_,X,_⟩:=p.out;exact eV.lt_of_heap X
 have e4:Ext w2 w4:=e3.eR k4 ah;have E4:=e2.trans e4;have Y:=p.ext e4;have h4:=h.ext E4;have ne:¬(tb=y):=by omega
 obtain⟨az,aA,ai,_⟩:=h4.c6;have B:∀(m:er) (c:Int),Ext w4 m->lx H l=(c,[])->c≠0->∃v,Ending.returned (one [ig,i64 c])=.returned v/\Ext w m/\Vi H l w.heap.size v m:=λm c e hc h0=>⟨_,rfl,E4.trans e,.inl ⟨by rw[hc];exact h0,by rw[hc];rfl⟩⟩;refine fB fl (eZ (eB q rfl) (eZ ai (VJ _ (λw e=>fe iJ) (xY (kF fl _ (λw e=>iv _ _ _ w) (uf λw5 Z=>⟨λI=>lq I ?_,λI=>?_⟩))))));exact B w5 3 Z (by rw[f,ez];simp at I;simp[I]) (by omega);have I:oD l[k].door 0 ((H.doors.length:Int)-1)=true:=by simpa using I
 refine fB fl (eZ (eB (Z.at_ q) rfl) (kF fl _ (λw e=>last_at (h4.ext (Z.trans e))) (kF fl _ (λw e=>iv _ _ _ w) (uf λw6 e6=>⟨λt=>?_,λt=>?_⟩))));exact B w6 3 (Z.trans e6) (by rw[f,ez];simp at t;simp[t]) (by omega);have t:oD l[k].shift 0 (2*H.days-1)=true:=by simpa using t
 rw[eC (by rw[I,t];rfl)]at f;simp only[oD,fE,lU]at I t;obtain⟨d,hd⟩:∃d:Nat,l[k].door=(d:Int):=⟨l[k].door.toNat,by omega⟩;obtain⟨s,hs⟩:∃s:Nat,l[k].shift=(s:Int):=⟨l[k].shift.toNat,by omega⟩;have C:d<g.length:=by omega
 have aj:s<6:=by omega
 have D:=Z.trans e6;have z:w6.heap[tb]? =some (.cells #[i64 d,i64 s,.bool l[k].opened] 84):=by rw[D.at_ q,Qu,hd,hs]
 have J:=Y.ext D;have ak:g.getD d nP=g[d]:=getD_eq C;rw[hd,hs]at f;simp only[sL,ak]at f;refine eH (eB z rfl) (fO ⟨λal=>?_,λam=>?_⟩);exact B w6 5 D (by rw[f,eC (fQ al)]) (by omega);rw[ez (gJ am)]at f
 have aa:∀{m},pW y g m->m.cell? (eQ y (0+d*8+4+s/2))=some (.bool (uj g[d] (s/2))):=λhS=>by
  obtain⟨cs,X,y2,y3⟩:=hS.out;refine eB X ?_;have an:s/2=0\/s/2=1\/s/2=2:=by omega
  rw[show 0+d*8+4+s/2=d*8+(4+s/2) by omega];refine y3 d C (4+s/2) _ ?_;obtain e|e|e:=an<;>rw[e]<;>rfl
 refine fB fl (eZ (eB z rfl) (eZ (eB z rfl) (dx (i64 ((s/2:Nat):Int)) (λw1 _=>uh (n:=2) (by omega) (by omega) iJ) (oM d 8 (by omega) (dx (oJ y (0+d*8+4+s/2)) (λw1 _=>zT 3 (by omega) iJ) (eZ (aa J) λw7 e7=>⟨λN=>?_,λN=>?_⟩))))));exact B w7 4 (D.trans e7) (by rw[f,eC N]) (by omega);rw[ez (by rw[N];simp)]at f;have O:=D.trans e7;have K:=J.ext e7;have L:=e7.at_ z;have ab:∀{m},pW y g m->∀j v,(oN g[d])[j]? =some v->m.cell? (eQ y (0+d*8+j))=some v:=λhS j v hj=>by obtain⟨cs,X,y2,y3⟩:=hS.out;exact eB X (by rw[eJ];exact y3 d C j v hj)
 refine eH (eB L rfl) (iV d 8 (by omega) (iu (vs:=oN g[d]) (ab K) (hH (zS (h4.ext O) g[d]) λw8 e8=>⟨λP=>?_,λP=>?_⟩)));exact B w8 12 (O.trans e8) (by rw[f,eC P]) (by omega);rw[ez (by rw[P];simp)]at f;have ao:=O.trans e8;have M:=K.ext e8;have ac:=e8.at_ L;have ad:=A _ (ft C);have ap:(0<=g[d].tries/\g[d].tries<=1000000)/\(0<=g[d].mornings/\g[d].mornings<=1000000)/\0<=g[d].evenings/\g[d].evenings<=1000000:=by obtain⟨z1,z2,z3⟩:=ad;omega
 refine kD 16 fl (kJ (λx=>x=y)) (λaB b h=>h.keep _) ?_;have E:∀{r},eY (λx=>x=y) w8 r->r.heap[tb]? =some (.cells #[i64 d,i64 s,.bool l[k].opened] 84):=λe=>e.iZ ac ne;refine .exact (i64 d) (λr i=>eH (eB (E i) rfl) iJ) (.exact (i64 d) (λr i=>eH (eB (E i) rfl) iJ) ?_);refine .exact _ (λr i=>iV d 8 (by omega) iJ) (.Ei rfl (.agg (oN g[d]).toArray) (λr i=>iu (vs:=oN g[d]) (ab (M.ext i)) iJ) ?_);refine .exact (i64 s) (λr i=>eH (eB (E i) rfl) iJ) (.exact (.bool l[k].opened) (λr i=>eH (eB (E i) rfl) iJ) ?_);refine .exact (.agg (oN (iE g[d] s l[k].opened)).toArray) (λr i=>hH (CX g[d] s l[k].opened r aj ap) λaq ar=>⟨rfl,ar⟩)<| .exact (i64 s) (λr i=>eH (eB (E i) rfl) iJ) (.exact _ (λr i=>iV d 8 (by omega) iJ) ?_);refine .AS (λ_ r=>pW y (g.set d (iE g[d] s l[k].opened)) r) (λ_ aB b hS e=>hS.ext e) (λr i=>?_) ?_;refine O2 (M.ext i) d 0 C (by omega) (iE g[d] s l[k].opened) (sS rfl) (λj u hj=>?_) (λaq au ae=>⟨ae,au⟩);have av:j<8:=(kS.1 hj).1;rw[eC ⟨iQ _,av⟩];exact hj;intro r i U;have U:pW y (g.set d (iE g[d] s l[k].opened)) r:=U;refine eK ⟨(g.set d (iE g[d] s l[k].opened),(s:Int)),by trivial,?_,U,by simpa using F,λx T=>?_,f⟩;exact(E4.trans ao).eR i R;obtain T|rfl:=sP T;exact(A x T).up;exact ad.Tg s _;rintro⟨g,bf⟩ w2 ⟨e2,p,F,A,f⟩;have f:lx H l=(0,g):=by rw[f];simp[uq]
 refine⟨_,rfl,e2,.inr ⟨by rw[f],by rw[f];exact F,by rw[f];exact A,y,?_,rfl,by rw[f];exact p⟩⟩;exact R
def Bc(G:Gd)(l:List Tq):Int:=if ij G=0 then(lx G l).1 else ij G
def lG(l:List Tq):Int:=match l.getLast? with
 |some t=>t.shift
 |none=>0
theorem KE:∀{l:List Tq} {c:List Sx} {b:Int},(uq H c b l).1=0->∀t∈l,(0<=t.door/\t.door<H.doors.length)/\0<=t.shift/\t.shift<=2*H.days-1
 |t::r,c,b,h,x,a=>by simp only[uq]at h;split at h;rename_i d;simp only[oD,fE,lU]at d;split at h;simp at h;split at h;simp at h;split at h;simp at h;obtain rfl|a:=gI.1 a;omega;exact KE h x a;simp at h
def Mn(a:H.Ok){l:List Tq}(h:(lx H l).1=0):0<=lG l/\lG l<=5:=by unfold lG;split;rename_i t b;have:=KE h t (List.mem_of_getLast? b);have:=a.days;omega;omega
structure G8(w:er)(wp gp mk ms:Nat)(G:Gd)(xs:List Sx)(bf:Int)(w':er):Prop where
 k:nQ wp gp mk ms G xs bf w'
 g:zA w gp mk ms G w'
 lo:w.heap.size<=wp
theorem G8.ext{wp gp mk ms:Nat}{a:List Sx}(h:G8 w wp gp mk ms H a I t)(b:Ext t e):G8 w wp gp mk ms H a I e:=⟨h.k.ext b,h.g.ext b,h.lo⟩
theorem G8.low{wp gp mk ms:Nat}{a:List Sx}(h:G8 w wp gp mk ms H a I e)(b:Ext t w):G8 t wp gp mk ms H a I e:=⟨h.k,h.g.low b,ff b.size h.lo⟩
def Pc(w:er)(G:Gd)(l:List Tq)(v:eu)(b:er):Prop:=
 (Bc G l≠0/\v=.tuple #[.pointer none,.int .i64 (Bc G l)])\/(Bc G l=0/\∃a c mk d,v=.tuple #[eT a,.int .i64 0]/\G8 w a c mk d G (lx G l).2 (lG l) b/\∀x∈(lx G l).2,wz l.length x)
def Mo{dc:Nat}(W:lM w a H.doors)(p:H.doors.length<=100000){l:List Tq}{P:fR}(Q:vX w P l)(D:l.length<=100000):
 Calls V.prog 125 #[gV H a dc,.slice P l.length m] w (jy λv R=>Ext w R/\Pc w H l v R):=by
 refine jT Tryz.func125 Tryz.ntmps125 ?_;refine jx λw1 gb e X Y=>jz Y (eL (CY (dc:=dc) (W.ext e) p) ?_);rintro v Z ⟨q,⟨i,rfl⟩|⟨i,r,mk,S,rfl,C⟩⟩;exact jS (lq (by simpa using i) ⟨_,rfl,e.trans q,.inl ⟨by rw[Bc,ez i];exact i,by rw[Bc,ez i];rfl⟩⟩);have f:Bc H l=(lx H l).1:=by rw[Bc,eC i]
 refine jS (nU (by simp) (eL (Ug C.g (Q.ext (e.trans q)) D) ?_));rintro v w3 ⟨s,⟨t,rfl⟩|⟨t,u,E,j,aa,rfl,T⟩⟩;exact jS (lq (by simpa using t) ⟨_,rfl,(e.trans q).trans s,.inl ⟨by rw[f];exact t,by rw[f];rfl⟩⟩);have F:=(e.trans q).trans s;have s1:=e.size;have s2:=q.size;have s3:=s.size;refine jS (nU (by simp) (gK (.agg #[eT r,fP j H.doors.length H.doors.length,i64 0]) (jx λU x k ab d=>?_)));have d:U.heap[x]? =some (.cells #[eT r,fP j H.doors.length H.doors.length,i64 0] 141):=d;have G:=(C.ext (s.trans k)).low e;have y:=T.ext k;have I:=Mn C.g.wx t;have ac:j<w3.heap.size:=by obtain⟨_,y1,_⟩:=T.out;exact eV.lt_of_heap y1
 have z:∀c,Ext w c->zA w r mk S H c->pW j (lx H l).2 c->c.heap[x]? =some (.cells #[eT r,fP j H.doors.length H.doors.length,i64 (lG l)] 141)->∃v,Ending.returned (one [eT x,i64 0])=.returned v/\Ext w c/\Pc w H l v c:=λc J A K h=>
  ⟨_,rfl,J,.inr ⟨by rw[f];exact t,x,r,mk,S,rfl,⟨⟨A.g,u,I,_,H.doors.length,eB h rfl,by rw[u];exact eB h rfl,eB h rfl,K.row⟩,A,by omega⟩,E⟩⟩
 refine fe (vw ⟨λn=>?_,λn=>?_⟩);have n:0<l.length:=by simpa using n
 have L:l.length-1<l.length:=by omega
 obtain⟨b,o,rfl,hc⟩:=(Q.ext (F.trans k)) (l.length-1) L;have M:lG l=l[l.length-1].shift:=by unfold lG;rw[List.getLast?_eq_getElem?,gC L]
 refine fe (jP (iV (l.length-1) 3 L (eH (hc 1 _ rfl) (fV d λc N O=>?_)) (by omega)));have B:¬(j=x):=by omega
 have J:Ext w c:=(F.trans k).eR N (by omega);have e5:Ext Z c:=(s.trans k).eR N (by omega);exact z c J ((C.ext e5).low e) (y.keep N B) (by rw[O,M];rfl);have n:l=[]:=nC (by simpa using n);subst n;exact z U (F.trans k) G y d
structure Du where
 tries:Int
 morning:Bool
 evening:Bool
def vz(b:Bool):Int:=if b then 1 else 0
def pk(G:Gd)(x:Sx):Bool:=decide (2<=G.tries)&&decide (x.mornings=0)
def qm(G:Gd)(x:Sx):Bool:=decide (2<=G.tries)&&decide (x.evenings=0)
def Ca(G:Gd)(x:Sx):Int:=max (G.tries-x.tries) 0
def ju(G:Gd)(x:Sx):Du:=⟨max (Ca G x) (vz (pk G x)+vz (qm G x)),pk G x,qm G x⟩
def H9(d:Nat)(u:Du):fD:=[.int .i64 d,.int .i64 u.tries,.bool u.morning,.bool u.evening]
def mM(m e:Bool)(k:Nat):Int:=if k=0 then 0 else if k=1 then vz m else vz m+vz e
def Uh{wp gp mk ms:Nat}{c:List Sx}(h:nQ wp gp mk ms H c I w)(hd:d<c.length)(ad:wz 100000 c[d]):
 Calls V.prog 133 #[eT wp,.int .i64 d] w (jy λv u=>v=.agg (H9 d (ju H c[d])).toArray/\Ext w u):=by
 obtain⟨sa,sc,h1,t,h3,h4⟩:=h.at_;have Q:=h.g.wx;have ht:=Q.tries;have ao:=Q.days;obtain⟨b,o,rfl,hc⟩:=h4 d hd;refine jT Tryz.func133 Tryz.ntmps133 ?_;refine ji λw1 E e1 R S=>eH (e1.cell t) (iV d 8 hd (iu (vs:=oN c[d]) (λj v A=>e1.cell (hc j v A)) (ji λw2 xb e2 T i=>fV i λU k3 W=>?_)));have i:U.heap[xb]? =some (.cells (oN c[d]).toArray 166):=W.trans (eX (λa=>some (Obj.cells a 166)) (jB (xW 166).toArray (oN c[d]) rfl));clear W;have E3:Ext w U:=(e1.trans e2).eR k3 (by have:=e1.size;omega);have C:U.heap[E]? =some (.cells (xW 101).toArray 101):=(e2.eR k3 T).at_ S;have ae:=h.g.ext E3;have af:=E3.cell h1;obtain⟨y1,y2,y3⟩:=ad;refine fB fl (eZ af (eZ ae.c5 (eZ (eB i rfl) (xY (VJ (i64 (Ca H c[d])) (λX _=>xX iJ) (dx (.agg #[i64 d,i64 (Ca H c[d]),.bool false,.bool false]) (λX _=>gK _ iJ) ?_))))));refine .rel (λv X=>∃p,v=fp p/\U.heap.size<=p/\X.heap[p]? =some (.cells (xW 101).toArray 101)) (λv a b ⟨nb,h1,t,h3⟩ e=>⟨nb,h1,t,e.at_ h3⟩) (λX e4=>ji λY nb e5 ag Z=>⟨⟨nb,rfl,ff e4.size ag,Z⟩,e5⟩) ?_;rintro X e4 v ⟨p,rfl,ah,aa⟩;refine fV aa λY k5 ab=>?_;have D:Y.heap[p]? =some (.cells #[i64 d,i64 (Ca H c[d]),.bool false,.bool false] 101):=ab;clear ab;have F:Ext U Y:=e4.eR k5 ah;have E5:=E3.trans F;have ai:=h.g.ext E5;have aj:=E5.cell h1;have ak:=F.at_ i;have ac:=F.at_ C;have ap:=eV.lt_of_heap i;have aq:=eV.lt_of_heap C;have s3:=E3.size;refine eH aj (eH ai.c5 (yP ⟨λt=>?_,λt=>?_⟩));have t:2<=H.tries:=fQ t;have hM:pk H c[d]=decide (c[d].mornings=0):=by simp[pk,t]
 have hE:qm H c[d]=decide (c[d].evenings=0):=by simp[qm,t]
 refine kD 7 fl (kJ (λx=>x=p)) (λa b h=>h.keep _) ?_;have xc:∀{z},eY (λx=>x=p) Y z->z.heap[xb]? =some (.cells (oN c[d]).toArray 166):=λe=>e.iZ ak (by omega);refine .exact _ (λz G=>eH (eB (xc G) rfl) iJ) (.exact _ (λz _=>iL iJ) (.exact _ (λz G=>eH (eB (xc G) rfl) iJ) (.exact _ (λz _=>iL iJ) ?_)));refine .AS (λ_ z=>z.heap[p]? =some (.cells #[i64 d,i64 (Ca H c[d]),.bool (pk H c[d]),.bool false] 101)) (λ_ a b h e=>e.at_ h) (λz G=>fV (G.at_ D) λJ k7 B=>⟨by rw[B,hM];rfl,k7⟩) ?_;intro z G hJ;have hJ:z.heap[p]? =some (.cells #[i64 d,i64 (Ca H c[d]),.bool (pk H c[d]),.bool false] 101):=hJ;refine fV hJ λJ k7 B=>?_;have f:J.heap[p]? =some (.cells #[i64 d,i64 (Ca H c[d]),.bool (pk H c[d]),.bool (qm H c[d])] 101):=by rw[B,hE];rfl
 have kk:=G.trans k7 (λ_ _ h=>h) λ_ _ h=>h;have E6:Ext w J:=E5.eR kk (by omega);have K:=kk.iZ ac (by omega);clear B hJ;refine eH (eB f rfl) (eH (eB f rfl) (ie [.bool (pk H c[d]),.bool (qm H c[d])] 4 (λJ Z L al l=>fe (gO (n:=2) (λk=>[(4,eT E),(6,eT p),(7,i64 (mM (pk H c[d]) (qm H c[d]) k)),(52,fP Z 2 2),(53,i64 2),(54,i64 k)]) (λ_ u=>u=J) ⟨by trivial,rfl⟩ ?_ ?_ ?_))));rintro k u hk rfl;exact fO ⟨rfl,rfl,by trivial,rfl⟩;rintro k u hk rfl;have M:∀(x y:Bool) (k:Nat),0<=mM x y k/\mM x y k<=2:=λx y k=>by cases x<;>cases y<;>(unfold mM vz;split<;>(try split)<;>decide)
 have am:=M (pk H c[d]) (qm H c[d]) k;obtain rfl|rfl:k=0\/k=1:=by omega
 refine gN 0 (by omega) (eH (eB l rfl) ⟨λq=>eK (eK ⟨⟨rfl,rfl,?_,rfl,rfl,rfl,trivial⟩,rfl⟩),λq=>eK ⟨⟨rfl,rfl,?_,rfl,rfl,rfl,trivial⟩,rfl⟩⟩);show some _=some _;simp[mM,vz,q];show some _=some _;simp[mM,vz,q];refine gN 1 (by omega) (eH (eB l rfl) ⟨λq=>eK (eK ⟨⟨rfl,rfl,?_,rfl,rfl,rfl,trivial⟩,rfl⟩),λq=>eK ⟨⟨rfl,rfl,?_,rfl,rfl,rfl,trivial⟩,rfl⟩⟩);show some _=some _;simp[mM,vz,q];show some _=some _;simp[mM,vz,q];rintro u rfl;have m:=L.at_ f;have N:=L.at_ K;refine eH (eB m rfl) (xX (fV m λw8 k8 r=>?_));have r:w8.heap[p]? =some (.cells (H9 d (ju H c[d])).toArray 101):=r;have an:=eV.lt_of_heap f;have O:=k8.iZ N (by omega);refine iu (vs:=H9 d (ju H c[d])) (λj v A=>by rw[eJ];exact eB r (by simpa using A)) (fV O λP k9 s=>?_);have s:P.heap[E]? =some (.cells (H9 d (ju H c[d])).toArray 101):=s.trans (eX (λa=>some (Obj.cells a 101)) (jB (xW 101).toArray (H9 d (ju H c[d])) rfl));have hl:Sem.run V.prog (loadVar 101 (eQ E 0)) P=.ok (.agg (H9 d (ju H c[d])).toArray) P:=rZ (H9 d (ju H c[d])) s λj v A=>by rw[eJ];simpa using A
 exact⟨_,hl,_,rfl,rfl,((E6.trans L).eR k8 (by omega)).eR k9 R⟩;have t:¬2<=H.tries:=gJ t;have hM:pk H c[d]=false:=by simp[pk,t]
 have hE:qm H c[d]=false:=by simp[qm,t]
 have f:Y.heap[p]? =some (.cells #[i64 d,i64 (Ca H c[d]),.bool (pk H c[d]),.bool (qm H c[d])] 101):=by rw[D,hM,hE]
 have E6:=E5;have K:=ac;refine eH (eB f rfl) (eH (eB f rfl) (ie [.bool (pk H c[d]),.bool (qm H c[d])] 4 (λJ Z L al l=>fe (gO (n:=2) (λk=>[(4,eT E),(6,eT p),(7,i64 (mM (pk H c[d]) (qm H c[d]) k)),(52,fP Z 2 2),(53,i64 2),(54,i64 k)]) (λ_ u=>u=J) ⟨by trivial,rfl⟩ ?_ ?_ ?_))));rintro k u hk rfl;exact fO ⟨rfl,rfl,by trivial,rfl⟩;rintro k u hk rfl;have M:∀(x y:Bool) (k:Nat),0<=mM x y k/\mM x y k<=2:=λx y k=>by cases x<;>cases y<;>(unfold mM vz;split<;>(try split)<;>decide)
 have am:=M (pk H c[d]) (qm H c[d]) k;obtain rfl|rfl:k=0\/k=1:=by omega
 refine gN 0 (by omega) (eH (eB l rfl) ⟨λq=>eK (eK ⟨⟨rfl,rfl,?_,rfl,rfl,rfl,trivial⟩,rfl⟩),λq=>eK ⟨⟨rfl,rfl,?_,rfl,rfl,rfl,trivial⟩,rfl⟩⟩);show some _=some _;simp[mM,vz,q];show some _=some _;simp[mM,vz,q];refine gN 1 (by omega) (eH (eB l rfl) ⟨λq=>eK (eK ⟨⟨rfl,rfl,?_,rfl,rfl,rfl,trivial⟩,rfl⟩),λq=>eK ⟨⟨rfl,rfl,?_,rfl,rfl,rfl,trivial⟩,rfl⟩⟩);show some _=some _;simp[mM,vz,q];show some _=some _;simp[mM,vz,q];rintro u rfl;have m:=L.at_ f;have N:=L.at_ K;refine eH (eB m rfl) (xX (fV m λw8 k8 r=>?_));have r:w8.heap[p]? =some (.cells (H9 d (ju H c[d])).toArray 101):=r;have an:=eV.lt_of_heap f;have O:=k8.iZ N (by omega);refine iu (vs:=H9 d (ju H c[d])) (λj v A=>by rw[eJ];exact eB r (by simpa using A)) (fV O λP k9 s=>?_);have s:P.heap[E]? =some (.cells (H9 d (ju H c[d])).toArray 101):=s.trans (eX (λa=>some (Obj.cells a 101)) (jB (xW 101).toArray (H9 d (ju H c[d])) rfl));have hl:Sem.run V.prog (loadVar 101 (eQ E 0)) P=.ok (.agg (H9 d (ju H c[d])).toArray) P:=rZ (H9 d (ju H c[d])) s λj v A=>by rw[eJ];simpa using A
 exact⟨_,hl,_,rfl,rfl,((E6.trans L).eR k8 (by omega)).eR k9 R⟩
def qC(x:Sx)(l:ew)(s:Nat):Bool:=uj x (s/2)||(decide (0<l.length)&&decide (l.getLast?.getD 0/2=s/2))
def rD(u:Du)(l:ew):Bool:=(l.any (λs=>decide (s%2=0))||!u.morning)&&(l.any (λs=>decide (s%2=1))||!u.evening)
def mz(L:Nat)(x:Sx)(u:Du):Nat->ew->Nat->List ew
 |0,_,_=>[]
 |f+1,l,a=>if(l.length:Int)=u.tries then(if rD u l then [l]else [])else(List.range (L-a)).flatMap λi=>if qC x l (a+i)then []else mz L x u f (l++[a+i]) (a+i+1)
def fS(G:Gd):Nat:=(2*G.days).toNat
def gi(G:Gd)(x:Sx)(a:Nat):List ew:=mz (fS G) x (ju G x) (fS G+1) [] a
def qD(L:Nat)(x:Sx)(u:Du)(f:Nat)(l:ew)(a k:Nat):List ew:=(List.range k).flatMap λi=>if qC x l (a+i)then []else mz L x u f (l++[a+i]) (a+i+1)
def sg(L:Nat)(x:Sx)(u:Du)(f:Nat)(l:ew)(a k:Nat):qD L x u f l a (k+1)=qD L x u f l a k++if qC x l (a+k)then []else mz L x u f (l++[a+k]) (a+k+1):=by unfold qD;rw[nF,List.flatMap_append];simp
def GL(w:er)(v:eu)(l:ew):Prop:=(l=[]/\v=.slice none 0 0)\/∃b c a,v=.slice (some ⟨b,0,none⟩) l.length c/\l.length<=c/\w.heap[b]? =some (.cells a 3)/\a.size=c/\∀k (h:k<l.length),a[k]? =some (.int .i64 l[k])
def GL.row(h:GL w x l):∃a c,x=.slice a l.length c/\iM w a l/\l.length<=c:=by obtain⟨rfl,rfl⟩|⟨b,c,i,rfl,e,f,j,g⟩:=h;exact⟨none,0,rfl,λk d=>by simp at d,eF _⟩;exact⟨_,c,rfl,λk d=>⟨b,0,rfl,eB f (by rw[eJ];exact g k d)⟩,e⟩
def GL.keep(h:GL w x l)(k:eY A w t)(d:∀b,eG x b->¬A b):GL t x l:=by obtain h|⟨b,c,e,a,f,g,i⟩:=h;exact .inl h;exact .inr ⟨b,c,e,a,f,k.iZ g (d b ⟨_,_,a⟩),i⟩
def GL.blk(h:GL w x l){b:Nat}(a:eG x b):b<w.heap.size:=by obtain⟨_,_,a⟩:=a;obtain⟨_,rfl⟩|⟨e,c,f,rfl,g,d,_⟩:=h;cases a;injection a with a;have:=eX Addr.block (eP a);simp only at this;subst this;exact eV.lt_of_heap d
structure EA(lv:eu)(o o':Obj)(a b:er):Prop where
 k:eY (eG lv) a b
 n:∀x ox,eG lv x->a.heap[x]? =some ox->b.heap[x]? =some ox\/(ox=o/\b.heap[x]? =some o')
def Ui(i:eu)(o j:Obj):jd (EA i o j):=by refine⟨λw=>⟨eY.refl _ w,λ_ _ _ h=>.inl h⟩,λa b c h k=>⟨h.k.trans k.k (λ_ _ h=>h) λ_ _ h=>h,λx e f l=>?_⟩,λw=>⟨(Ext.drew w).keep _,λx e _ h=>.inl h⟩⟩;obtain d|⟨d,m⟩:=h.n x e f l;exact k.n x e f d;obtain g|⟨g,p⟩:=k.n x _ f m;exact .inr ⟨d,g⟩;exact .inr ⟨d,p⟩
def Ext.ea(h:Ext w t)(a:eu)(o b:Obj):EA a o b w t:=⟨h.keep _,λx d _ c=>.inl (h.at_ c)⟩
def GM(a:Nat)(d:eu)(e:Obj)(l:ew)(v:eu)(w:er):Prop:=
 (∃b c,eG d b/\v=.slice (some ⟨b,0,none⟩) l.length c/\w.heap[b]? =some e/\GL w v l)\/(∃b c,a<=b/\v=.slice (some ⟨b,0,none⟩) l.length c/\GL w v l)
def zW{M:oz}{U:Array Bool}{o:Obj}{w0:er}(W:GL w x l)(X:∀b,eG x b->w.heap[b]? =some o)(N:m<=w.heap.size)(O:l.length<=1000)(p:w.heap[k]? =some (.cells [Value.int .i64 s].toArray 3))(G:Obj)(H:∀b r,eG x b->o=.cells r 3->G=.cells (r.setIfInBounds l.length (.int .i64 s)) 3) (I:∀v n,GM m x G (l++[s]) v n->EA x o G w n->M v n):zw V.prog (builtin .append #[27,27] T U #[x,.slice (some ⟨k,0,none⟩) 1 i]) w M:=by
 have Y:=vk;obtain⟨Z,Q,z,h2,h3,h4,E,h6,h7⟩:=Y;have E:Q.size=1:=E;obtain⟨rfl,rfl⟩|⟨b,g,r,rfl,aa,F,J,d⟩:=W;refine kP vk (fc.nil m 3 [i64 0] w) N p (by omega) λv' n g1 g2 g3=>?_;have K:∀t,¬eG ig t:=λt a=>by obtain⟨_,_,a⟩:=a;cases a
 refine I v' n (.inr ?_) ⟨g2,λt ox a _=>absurd a (K t)⟩;obtain⟨h0,⟨ab,_⟩|⟨b,R,r,q1,rfl,q3,q4,q5,q6,q7,q8⟩⟩:=g1;omega;refine⟨b,R,q1,rfl,.inr ⟨b,R,r,rfl,by simpa using q5,q3,by simpa using q4,λj c=>?_⟩⟩;obtain rfl:j=0:=by simp at c;omega
 rw[q7 0 (by simp)];rfl;have y:=X b ⟨_,_,rfl⟩;rw[F]at y;obtain rfl:=eP y;have A:=H b r ⟨_,_,rfl⟩ rfl;by_cases e:l.length+1<=g;refine Kv (u:=i64 s) vk F e (by omega) (eB p rfl) rfl λn k' q=>I _ n (.inl ⟨b,g,⟨_,_,rfl⟩,by simp,by rw[q,A],.inr ⟨b,g,_,by simp,by simpa using e,q,by simpa using J,λj c=>?_⟩⟩) ⟨k'.trans (eY.refl (λ_=>False) n) (λt _ a=>by subst a;exact⟨_,_,rfl⟩) λ_ _ h=>h.elim,λt ox a B=>?_⟩;obtain f|C:=gQ j l.length;rw[gm (by omega),d j f,nE f];obtain rfl:j=l.length:=by simp at c;omega
 rw[mG (by omega)];simp;obtain⟨_,_,a⟩:=a;injection a with a;have:=eX Addr.block (eP a);simp only at this;subst this;rw[F]at B;exact .inr ⟨(eP B).symm,by rw[q,A]⟩
 have hr:=run_append_grow (P:=V.prog) w 27 T 3 Q z Z h2 h3 (eQ b 0) l.length g (gU l) (by simp[E,gU]) (λj u c=>by
  rw[Addr.add_lit];simp only[World.cell?,F,eJ];have D:j<l.length:=by simpa[gU]using(kS.1 c).1
  rw[d j D];have:(gU l)[j]? =some (i64 (l[j]:Nat)):=by simp[gU,gC D]
  rw[this]at c;simpa using c) (eQ k 0) 1 i [i64 s] (by simp[E]) (λj v c=>by
  match j,c with
  |0,c=>cases c;rw[je];exact eB p rfl) (by omega) (by omega) (growslice_fits (by omega) (ff (Nat.mul_le_mul (show l.length+1<=1000000 by omega) h6) (by decide)))
 have C:=grownCap_ge w (l.length+1) g 3;have L:z.cells.size=1:=by rw[h4];rfl
 refine⟨_,w.drew.alloc (.cells ((gU l).toArray++#[Value.int .i64 s]++Builtin.zeroCells z.cells (grownCap w (l.length+1) g 3-(l.length+1))) 3),?_,I (fP w.heap.size (l.length+1) (grownCap w (l.length+1) g 3)) _ (.inr ⟨w.heap.size,grownCap w (l.length+1) g 3,N,by simp,.inr ⟨w.heap.size,grownCap w (l.length+1) g 3,_,by simp,by simpa using C,io w.drew _,?_,λj c=>?_⟩⟩) (((Ext.drew w).trans (Ext.alloc _ _)).ea _ _ _)⟩;unfold builtin;simp only[Sem.run_bind,hr,Result.andThen_ok,Sem.run_pure];simp only[vo,jw,size_zeroCells,L,gU,jR,jU,gf,il,nZ];omega;have ac:j<l.length+1:=by simpa using c
 rw[wA (by simp[gU];omega)];obtain f|S:=gQ j l.length;simp[gU,oR,f,gC f];obtain rfl:j=l.length:=by omega
 simp[gU]
def Pd(s a:Nat):Bool:=(List.range 5).all λd=>!s.testBit d||a.testBit d
def pZ(G:Gd)(a s:Nat):Int:=if Pd s a then(match iw G s with
 |some b=>(b.length:Int)
 |none=> -1)else-1
def jN(G:Gd)(a k:Nat):iA:=(List.range 32).map λs=>if s<k then pZ G a s else 0
def pm(G:Gd)(b:List Sx)(a k:Nat):List (List ew):=((eO G.tries b).take k).map λd=>gi G (b.getD d nP) a
def fi(G:Gd)(b:List Sx)(a:Nat):fW:=⟨eO G.tries b,(eO G.tries b).map λd=>gi G (b.getD d nP) a,jN G (gF (eO G.tries b)) (2^b.length)⟩
theorem C0{x:Sx}{u:Du}:∀{f:Nat} {l:ew} {a:Nat} {c:ew},c∈mz m x u f l a->c.length<=l.length+f/\∀s∈c,s∈l\/s<m
 |0,l,a,c,h=>by cases h
 |f+1,l,a,c,h=>by simp only[mz]at h;split at h;split at h;rw[gW.1 h];exact⟨by omega,λs d=>.inl d⟩;cases h;obtain⟨i,e,h⟩:=mH.1 h;have e:=fT.1 e;split at h;cases h;obtain⟨g,j⟩:=C0 h;simp only[jR,gf,il]at g;refine⟨by omega,λs d=>?_⟩;obtain b|b:=j s d;obtain b|b:=ja.1 b;exact .inl b;rw[gW.1 b];exact .inr (by omega);exact .inr b
theorem KF:∀(n:Nat),((List.range n).map λi=>2^(n-1-i)).sum+1=2^n
 |0=>rfl
 |n+1=>by
  have b:=KF n;rw[List.range_succ_eq_map,lK,List.sum_cons,List.map_map];have e:(List.range n).map ((λi=>2^(n+1-1-i))∘Nat.succ)=(List.range n).map λi=>2^(n-1-i):=by refine List.map_congr_left λi a=>?_;have:=fT.1 a;simp only[Function.comp];congr 1;omega
  rw[e];have:n+1-1-0=n:=by omega
  rw[this,Nat.pow_succ];omega
theorem Pe{a:Type}{f g:a->Nat}:∀(l:List a),(∀x∈l,f x<=g x)->(l.map f).sum<=(l.map g).sum
 |[],_=>eF _
 |x::r,h=>by simp only[lK,List.sum_cons];exact Nat.add_le_add (h x gD) (Pe r λy b=>h y (gG _ b))
theorem Bd{L:Nat}{x:Sx}{u:Du}:∀(f:Nat) (l:ew) (a:Nat),(mz L x u f l a).length<=2^(L-a)
 |0,l,a=>iQ _
 |f+1,l,a=>by
  have c:1<=2^(L-a):=Nat.one_le_two_pow;simp only[mz];split;split;exact c;exact iQ _;rw[List.length_flatMap];have d:((List.range (L-a)).map λi=>(if qC x l (a+i)then([]:List ew)else mz L x u f (l++[a+i]) (a+i+1)).length).sum<=((List.range (L-a)).map λi=>2^(L-a-1-i)).sum:=Pe _ λi b=>by have b:=fT.1 b;split;exact iQ _;have:=Bd (L:=L) (x:=x) (u:=u) f (l++[a+i]) (a+i+1);rwa[show L-(a+i+1)=L-a-1-i by omega]at this
  have:=KF (L-a);omega
def mA(h:H.Ok):fS H<=6:=by have:=h.days;unfold fS;omega
def uV(h:H.Ok)(x:Sx)(a:Nat):(gi H x a).length<=64/\∀l∈gi H x a,l.length<=7/\∀s∈l,s<6:=by have g:=mA h;refine⟨?_,λl d=>?_⟩;have:=Bd (L:=fS H) (x:=x) (u:=ju H x) (fS H+1) [] a;have b:2^(fS H-a)<=2^6:=Nat.pow_le_pow_right (by omega) (by omega);exact ff this b;obtain⟨e,b⟩:=C0 d;simp only[il]at e;refine⟨by omega,λs f=>?_⟩;obtain c|c:=b s f;cases c;omega
def jH{a:List Sx}(h:d∈eO I a):d<a.length:=by obtain⟨b,_⟩:=ku.1 h;exact fT.1 b
def ur(T:Int)(a:List Sx):(eO T a).Nodup:=(List.nodup_range).filter _
def uW(T:Int)(a:List Sx):(eO T a).length<=a.length:=A2 T a a.jK
theorem ut{most:Nat}:∀{doors b a:ew},hZ H most doors b=some a->a.length<=b.length+doors.length
 |[],b,a,h=>by simp only[hZ,iz]at h;subst h;simp
 |d::r,b,a,h=>by simp only[hZ]at h;split at h;rename_i o e;obtain rfl:=eP h;obtain⟨i,f,c⟩:=Nv e;split at c;have:=ut c;simp only[oS,gf]at this⊢;omega;cases c;split at h;have:=ut h;simp only[jR,gf,il]at this⊢;omega;cases h
def si{a:List ew}(h:iw H s=some a):a.length<=5:=by unfold iw at h;split at h;obtain rfl:=eP h;simp;obtain⟨d,b,rfl⟩:=jo.1 h;obtain⟨m,_,c⟩:=Nv b;have:=ut c;have:=uU s;simp only[il,jU]at*;omega
def Mp(G:Gd)(a s:Nat): -1<=pZ G a s/\pZ G a s<=5:=by unfold pZ;split;split;rename_i b h;have:=si h;omega;omega;omega
def ED(G:Gd)(a k s:Nat)(b:s<32):(jN G a k).getD s 0=if s<k then pZ G a s else 0:=by unfold jN;rw[kL,ng,List.getElem?_range b];rfl
def xf(G:Gd)(a k:Nat):(jN G a k).length=32:=by simp[jN]
def G9{e:List Sx}(h:H.Ok)(f:e.length=H.doors.length)(a:Nat):(fi H e a).Ok:=by have n:=h.many;have g:=uW H.tries e;refine⟨by simp[fi],by simp only[fi];omega,ur _ _,λd j=>by have:=jH j;omega,λi b=>?_,λi b l f=>?_,λi b l f s k=>?_,xf _ _ _,λc m=>?_,?_⟩;obtain⟨d,_,rfl⟩:=iX.1 b;have:=(uV h (e.getD d nP) a).1;omega;obtain⟨d,_,rfl⟩:=iX.1 b;have:=((uV h (e.getD d nP) a).2 l f).1;omega;obtain⟨d,_,rfl⟩:=iX.1 b;exact((uV h (e.getD d nP) a).2 l f).2 s k;obtain⟨s,_,rfl⟩:=iX.1 m;split;exact Mp _ _ _;omega;show(jN H _ _).getD 0 0=0;rw[ED _ _ _ _ (by omega),eC (Nat.two_pow_pos _)];rfl
def mT(A:eN)(d:Nat)(w:er)(v:eu)(a:List ew):Prop:=∃c:fD,fc d 27 [.slice none 0 0] w v a.length c/\c.length=a.length/\∀k (h:k<a.length),∃u,c[k]? =some u/\jq d w u a[k]/\∀b,eG u b->¬A b
def mT.own{a:List ew}(h:mT A m w x a):iW m w x a:=by obtain⟨b,c,d,e⟩:=h;exact⟨b,c,d,λk f=>by obtain⟨u,g,i,_⟩:=e k f;exact⟨u,g,i⟩⟩
theorem mT.keep{a:List ew}(h:mT A m w x a)(k:eY B w t)(f:∀b,eG x b->¬B b)(g:∀u l b,jq m w u l->eG u b->¬A b->¬B b):mT A m t x a:=by obtain⟨j,n,o,p⟩:=h;refine⟨j,n.keep k f,o,λi q=>?_⟩;obtain⟨u,r,c,d⟩:=p i q;exact⟨u,r,fc.keep c k λb e=>g u _ b c e (d b e),d⟩
def mT.ext{a:List ew}(h:mT A m w x a)(e:Ext w t):mT A m t x a:=h.keep (e.keep λ_=>False) (λ_ _ h=>h) λ_ _ _ _ _ _ h=>h
def mT.more{A A':eN}{a:List ew}(h:mT A m w x a)(e:∀b,A' b->A b\/w.heap.size<=b):mT A' m w x a:=by obtain⟨f,g,j,k⟩:=h;refine⟨f,g,j,λi l=>?_⟩;obtain⟨u,n,c,o⟩:=k i l;refine⟨u,n,c,λb d p=>?_⟩;obtain h|h:=e b p;exact o b d h;have:=(fc.blk c d).2;omega
def GL.c3(h:GL w x l)(a:eG x m):∃b,w.heap[m]? =some (.cells b 3):=by obtain⟨_,_,a⟩:=a;obtain⟨_,rfl⟩|⟨e,c,b,rfl,f,d,_⟩:=h;cases a;injection a with a;have:=eX Addr.block (eP a);simp only at this;subst this;exact⟨b,d⟩
def fc.c_(h:fc m T M w x k Y)(a:eG x i):∃b,w.heap[i]? =some (.cells b T):=by obtain⟨_,_,a⟩:=a;obtain⟨_,⟨_,rfl⟩|⟨e,c,b,_,rfl,d,_⟩⟩:=h;cases a;injection a with a;have:=eX Addr.block (eP a);simp only at this;subst this;exact⟨b,d⟩
def mT.UH{a:List ew}(h:mT A m w x a)(b:eG x k):∃c,w.heap[k]? =some (.cells c 27):=by obtain⟨e,d,_⟩:=h;exact d.c_ b
def ia(h:w.heap[m]? =some (.cells W T))(a:w.heap[m]? =some (.cells X U))(b:T≠U):False:=by rw[h]at a;injection a with a;injection a with _ a;exact b a
def lH{b a l c l' c':Nat}(h:eG (.slice (some ⟨b,0,none⟩) l c) a):a=b:=by obtain⟨_,_,h⟩:=h;injection h with h;exact(eX Addr.block (eP h)).symm
structure LS(n0 m db ob wb xb gb:Nat):Prop where
 lo:n0<=ob/\n0<=m
 d:db<m/\db≠ob
 o:ob<m
 w:wb<m/\wb≠ob
 x:xb<m/\xb≠ob
 g:gb<m/\gb≠ob
def KG(a b c d e:Nat):eu:=.func (.func 165) #[] #[eT a,eT b,eT c,eT d,eT e]
structure LC(w0:er)(wp d:Nat)(u:Du)(db ob wb xb gb:Nat)(w:er):Prop where
 e:Ext w0 w
 b1:w.heap[db]? =some (.cells (H9 d u).toArray 101)
 b3:w.heap[wb]? =some (.cells #[eT wp] 133)
 b4:w.heap[xb]? =some (.cells #[.int .i64 d] 3)
 b5:w.heap[gb]? =some (.cells #[KG db ob wb xb gb] 209)
def LC.keep{u:Du}(h:LC w k d u i j o p s t)(S:LS w.heap.size m i j o p s)(a:eY A t e)(n:∀b,b<t.heap.size->A b->b=j\/m<=b):LC w k d u i j o p s e:=by
 have c:∀{b:Nat} {q:Obj},t.heap[b]? =some q->b<m->b≠j->¬A b:=λf v r l=>by obtain h|h:=n _ (eV.lt_of_heap f) l;exact r h;omega
 have y:=h.e.size;refine⟨⟨a.os.trans h.e.os,a.tape.trans h.e.tape,a.output.trans h.e.output,ff h.e.size a.size,ff h.e.drawn a.drawn,λb f=>(a.block b (by omega) λl=>?_).trans (h.e.block b f)⟩,a.iZ h.b1 (c h.b1 S.d.1 S.d.2),a.iZ h.b3 (c h.b3 S.w.1 S.w.2),a.iZ h.b4 (c h.b4 S.x.1 S.x.2),a.iZ h.b5 (c h.b5 S.g.1 S.g.2)⟩;have:=S.lo;obtain h|h:=n _ (by omega) l<;>omega
def Uj(a:Nat)(d:eu)(e:Obj)(l:ew)(v:eu)(w:er):Prop:=
 (∃b c k,d=.slice (some ⟨b,0,none⟩) k c/\v=.slice (some ⟨b,0,none⟩) l.length c/\w.heap[b]? =some e/\GL w v l)\/(∃b c,a<=b/\v=.slice (some ⟨b,0,none⟩) l.length c/\GL w v l)
def Uj.ea(h:Uj m x Q l y w)(e:EA x O Q w t)(j:∀a,eG x a->a<m):Uj m x Q l y t:=by
 obtain⟨a,c,k,rfl,rfl,d,o⟩|⟨a,c,p,rfl,d⟩:=h;have g:t.heap[a]? =some Q:=by obtain h|h:=e.n a _ ⟨_,_,rfl⟩ d;exact h;exact h.2
 refine .inl ⟨a,c,k,rfl,rfl,g,?_⟩;obtain⟨b,f⟩|⟨q,c',r,b,f,i,s,u⟩:=o;cases f;refine .inr ⟨q,c',r,b,f,?_,s,u⟩;injection b with b;have:=eX Addr.block (eP b);simp only at this;subst this;rw[d]at i;rw[g];exact i;exact .inr ⟨a,c,p,rfl,d.keep e.k λv z A=>by have:=j v A;have:=lH (l':=0) (c':=0) z;omega⟩
def GL.ea(h:GL w x l)(e:EA x O Q w t)(d:∀a b,eG x a->O=.cells b 3->Q=.cells (b.setIfInBounds l.length (.int .i64 s)) 3):GL t x l:=by obtain h|⟨a,c,b,rfl,f,m,i,j⟩:=h;exact .inl h;obtain h|⟨h,g⟩:=e.n a _ ⟨_,_,rfl⟩ m;exact .inr ⟨a,c,b,rfl,f,h,i,j⟩;rw[d a b ⟨_,_,rfl⟩ h.symm]at g;refine .inr ⟨a,c,_,rfl,f,g,by simpa using i,λk o=>?_⟩;rw[gm (by omega)];exact j k o
def Pf{O:oz}{Q:Array Bool}{o q:Obj}(B:GL w x l)(a:∀b,eG x b->w.heap[b]? =some o\/w.heap[b]? =some q)(I:m<=w.heap.size)(j:l.length<=1000)(y:w.heap[k]? =some (.cells [Value.int .i64 s].toArray 3))(r:∀b z,eG x b->o=.cells z 3->q=.cells (z.setIfInBounds l.length (.int .i64 s)) 3) (F:∀b,eG x b->∃z,o=.cells z 3) (J:∀v c,Uj m x q (l++[s]) v c->EA x o q w c->O v c):zw V.prog (builtin .append #[27,27] T Q #[x,.slice (some ⟨k,0,none⟩) 1 i]) w O:=by
 have conv:∀v c,GM m x q (l++[s]) v c->GL w x l->Uj m x q (l++[s]) v c:=λv c h g=>by
  obtain⟨b,i,f,rfl,C,D⟩|h:=h;obtain⟨_,rfl⟩|⟨K,c',z,rfl,g2,P,g4,g5⟩:=g;obtain⟨_,_,f⟩:=f;cases f;have:=lH (l':=0) (c':=0) f;subst this;have R:i=c':=by
   obtain⟨D,_⟩|⟨b2,c2,L,e,q2,A,q4,q5⟩:=D;simp at D;injection e with S e2 U;have:=eX Addr.block (eP S);simp only at this;subst this;subst U;rw[C]at A;obtain⟨p,d⟩:=F b ⟨_,_,rfl⟩;have H:=r b p ⟨_,_,rfl⟩ d;have A:=eP A;rw[H]at A;injection A with A;have W:L.size=p.size:=by rw[<-A];simp
   obtain a|a:=a b ⟨_,_,rfl⟩;rw[P,d]at a;have a:=eP a;injection a with a;subst a;omega;rw[P,H]at a;have a:=eP a;injection a with a;have:z.size=p.size:=by rw[a];simp
   omega
  subst R;exact .inl ⟨b,i,l.jK,rfl,rfl,C,D⟩;exact .inr h
 by_cases f:∃b,eG x b;obtain⟨b,f⟩:=f;obtain⟨p,d⟩:=F b f;obtain h|h:=a b f;refine zW (w0:=w) B (λK t=>?_) I j y q r λv c G E=>J v c (conv v c G B) E;obtain⟨_,_,e⟩:=f;obtain⟨_,_,u⟩:=t;rw[e]at u;injection u with u;have:=eX Addr.block (eP u);simp only at this;subst this;exact h;have H:=r b p f d;refine zW (o:=q) (w0:=w) B (λK t=>?_) I j y q (λK z t e=>?_) λv c G E=>J v c (conv v c G B) ⟨E.k,λX Y Z M=>?_⟩;obtain⟨_,_,e⟩:=f;obtain⟨_,_,u⟩:=t;rw[e]at u;injection u with u;have:=eX Addr.block (eP u);simp only at this;subst this;exact h;rw[H]at e⊢;injection e with e;subst e;simp;obtain C|⟨C,D⟩:=E.n X Y Z M;exact .inl C;exact .inl (by rw[D,C]);have N:∀b,¬eG x b:=λb h=>f ⟨b,h⟩;exact zW (o:=o) (w0:=w) B (λb h=>absurd h (N b)) I j y q r λv c G E=>J v c (conv v c G B) E
def Je(L:Nat)(x:Sx)(u:Du)(f:Nat)(l:ew)(a:Nat)(h:¬(l.length:Int)=u.tries):mz L x u (f+1) l a=qD L x u f l a (L-a):=by simp only[mz,ez h,qD]
def Ha(h:0<l.length):l.getLast?.getD 0=l[l.length-1]:=by rw[List.getLast?_eq_getElem?,gC (by omega)];rfl
theorem GL.v(h:GL w x l)(d:0<l.length):∃b c a,x=.slice (some ⟨b,0,none⟩) l.length c/\l.length<=c/\w.heap[b]? =some (.cells a 3)/\a.size=c/\∀k (h:k<l.length),a[k]? =some (.int .i64 l[k]):=by obtain⟨rfl,_⟩|h:=h;simp at d;exact h
def Hb(h:eG x m)(a:eG x k):k=m:=by obtain⟨_,_,rfl⟩:=h;exact lH (l':=0) (c':=0) a
def Pg(L:Nat)(x:Sx)(u:Du)(f:Nat)(l:ew)(a:Nat)(h:k<=m):(qD L x u f l a k).length<=(qD L x u f l a m).length:=by
 induction m with
 |zero=>obtain rfl:k=0:=by omega
        exact eF _
 |succ m b=>
  obtain c|d:=gQ k (m+1);rw[sg,jR];have:=b (by omega);omega;obtain rfl:k=m+1:=by omega
  exact eF _
def Ph(A:eN)(m e:Nat)(f g:eu)(l:ew)(d:List ew)(w c:er):Prop:=
 eY (λb=>b=e\/eG g b\/eG f b) w c/\GL c f l/\∃a,c.heap[e]? =some (.cells #[a] 66)/\(∀b,eG a b->eG g b\/w.heap.size<=b)/\mT A m c a d
theorem Be{wp gp mk ms m d db ob wb xb gb:Nat}{r:List Sx}(hW:nQ wp gp mk ms H r I w)(hd:d<r.length)(S:LS w.heap.size m db ob wb xb gb):∀(f:Nat) (l:ew) (j:Nat) (lv R:eu) (ls:List ew) (A:eN) (z:er),fS H+1<=j+f->l.length<=j->j<=fS H->(∀s∈l,s<6)->LC w wp d (ju H r[d]) db ob wb xb gb z->GL z lv l->(∀b,eG lv b->m<=b/\A b)->(∀b,A b->b<z.heap.size)->m<=z.heap.size->z.heap[ob]? =some (.cells #[R] 66)->mT A m z R ls->(∀b,eG R b->m<=b)->ls.length+(mz (fS H) r[d] (ju H r[d]) f l j).length<=100000->
  Calls V.prog 165 #[lv,.int .i64 j,eT db,eT ob,eT wb,eT xb,eT gb] z (jy λv G=>Ph A m ob lv R l (ls++mz (fS H) r[d] (ju H r[d]) f l j) z G)
 |0,l,j,lv,R,ls,A,z,J,aX,aY,_,_,_,_,_,_,_,_,_,_=>by omega
 |f+1,l,j,lv,R,ls,A,z,J,aX,aY,aG,hC,hL,aa,hA,aA,ah,ho,aH,U=>by
  have aI:=hW.g.wx;have aZ:=aI.days;have bk:=mA aI;have a0:(fS H:Int)=2*H.days:=by unfold fS;omega
  have bm:l.length<=6:=by omega
  obtain⟨D,E,rfl,ai,a1⟩:=hL.row;have ae:∀b,(eG R b\/eG (.slice D l.length E) b)->b≠ob:=λb q e=>by subst e;have:=S.o;obtain q|q:=q;have:=aH _ q;omega;have:=(aa _ q).1;omega
  refine jT Tryz.func165 Tryz.ntmps165 ?_;refine fe (eH (eB hC.b1 rfl) (iL ⟨λh=>?_,λh=>?_⟩));have h:(l.length:Int)=(ju H r[d]).tries:=fQ h;have hg:mz (fS H) r[d] (ju H r[d]) (f+1) l j=if rD (ju H r[d]) l then [l]else []:=by simp only[mz,eC h]
  rw[hg]at U⊢;have same:∀G,Ext z G->rD (ju H r[d]) l=false->Ph A m ob (.slice D l.length E) R l (ls++(if rD (ju H r[d]) l then [l]else [])) z G:=λG e J=>by rw[J,ez (by simp),List.append_nil];exact⟨e.keep _,hL.keep (e.keep λ_=>False) λ_ _ h=>h,R,e.at_ ah,λb q=>.inl q,ho.ext e⟩
  refine fw (rC (p:=λs=>decide (s%2=0)) ⟨167,#[],#[],rfl,by intro _ _;kernel_rfl,λn z=>GX n z⟩ l D E z ai (by omega)) ?_;refine fw (rC (p:=λs=>decide (s%2=1)) ⟨168,#[],#[],rfl,by intro _ _;kernel_rfl,λn z=>GY n z⟩ l D E z ai (by omega)) ?_
  have take:∀{Q:QW} {l0:L},Sub [(0,.slice D l.length E),(3,eT ob)] l0->rD (ju H r[d]) l=true->(∀l' G,Ph A m ob (.slice D l.length E) R l (ls++(if rD (ju H r[d]) l then [l]else [])) z G->Q .normal l' G)->iq V.prog 86 (jh Tryz.f165 4) l0 z Q:=λ{Q l0} hs aJ hq=>by
   rw[eC aJ]at hq U;refine iq.jm hs ?_;clear hs;have aK:∀{b:Nat},eG R b->¬eG (.slice D l.length E) b:=λq W=>by obtain⟨cs,g1⟩:=ho.UH q;obtain⟨aj,g2⟩:=hL.c3 W;exact ia g1 g2 (by decide)
   have aw:¬eG R ob:=λq=>ae ob (.inl q) rfl;have ad:∀b,eG R b->b<z.heap.size:=λb q=>by obtain⟨cs,g1⟩:=ho.UH q;exact eV.lt_of_heap g1
   refine kD 4 fl (kJ (eG R)) (λa b h=>h.keep _)<| .exact R (λX e1=>eH (eB (e1.iZ ah aw) rfl) iJ) ?_;refine .rel (λu X=>jq z.heap.size X u l) (λu a b hu e=>fc.keep hu e λx Y aB=>by have:=(fc.blk hu Y).1;have:=ad x aB;omega) (λX e1=>?_) ?_
   have a3:iM X D l:=λk hk=>by
    obtain⟨b,o,rfl,hc⟩:=ai k hk;obtain⟨b2,c2,aL,F,_,_,_,_⟩:=hL.v (by omega);injection F with F;obtain⟨rfl,rfl⟩:b=b2/\o=0:=by injection F with F;injection F with T e4;exact⟨T,e4⟩
    exact⟨_,_,rfl,e1.gM hc λJ=>aK J ⟨_,_,rfl⟩⟩
   exact eL (oe a3 (by omega)) λu y ⟨F,hu⟩=>⟨hu.low e1.size,F⟩;refine .rel (λx X=>∃K u,x=fP K 1 1/\z.heap.size<=K/\X.heap[K]? =some (.cells [u].toArray 27)/\jq z.heap.size X u l) (λx a b ⟨K,u,O,C,P,h4⟩ e=>⟨K,u,O,C,e.iZ P (λJ=>by have:=ad K J;omega),fc.keep h4 e λx Y aB=>by have:=(fc.blk h4 Y).1;have:=ad x aB;omega⟩) (λX e1 u hu=>?_) ?_;refine ie [u] 27 (λy K F ak q=>⟨⟨K,u,rfl,ff e1.size ak,q,fc.ext hu F⟩,F⟩) ?_;obtain⟨a2,c2,rfl,_⟩:=jq.row hu;intro z;kernel_rfl;refine .spec (λv X=>mT A m X v (ls++[l])/\∀b,eG v b->eG R b\/z.heap.size<=b) (λv a b ⟨O,C⟩ e=>⟨O.ext e,C⟩) (λX e1 aM a4 a5 bn=>?_) ?_;obtain⟨K,u,rfl,ak,al,hu⟩:∃K u,aM=fP K 1 1/\z.heap.size<=K/\X.heap[K]? =some (.cells [u].toArray 27)/\jq z.heap.size X u l:=a4;obtain⟨us,hr,aN,a6⟩:=ho.ext e1;have aO:u.oneCell'=true:=by obtain⟨a,c,rfl,_⟩:=jq.row hu;rfl
   refine kP OK hr (ff aA e1.size) al (by simp only[gf,il]at U;omega) (λv' y g1 g2 g3=>⟨⟨⟨us++[u],by simpa using g1,by simp[aN],λi hi=>?_⟩,λb q=>(g3 b q).imp id λh=>ff e1.size h⟩,g2⟩) rfl (by simp[tg,aO]);obtain ab|aP:=gQ i ls.length;obtain⟨x,x1,x2,x3⟩:=a6 i ab;refine⟨x,by rw[oR (by omega)];exact x1,?_,x3⟩;rw[nE ab];exact fc.keep x2 g2 (nw x2 hr (by decide));obtain rfl:i=ls.length:=by simp at hi;omega
   refine⟨u,by rw[ow (by omega)];simp[aN],?_,λb q ha=>?_⟩;simp only[sO (eF _),mj,oy];exact fc.keep (jq.low hu aA) g2 (nw hu hr (by decide));have:=(fc.blk hu q).1;have:=hA b ha;omega;rintro X e1 bo ⟨aQ,ax⟩ aM _ a5 _;obtain⟨a9,c9,rfl,_,_⟩:=aQ.own.row;refine fV (e1.iZ ah aw) λy k2 a7=>hq _ _ ⟨e1.trans k2 (λx _ Y=>.inr (.inl Y)) (λx _ Y=>.inl Y),(hL.keep e1 λb q W=>aK W q).keep k2 λb q e=>ae b (.inr q) e,_,a7,ax,aQ.keep k2 (λb q e=>?_) λu x b hu q _ e=>?_⟩;obtain h|h:=ax b q;exact ae b (.inl h) e;have:=eV.lt_of_heap ah;omega;have:=(fc.blk hu q).1;have:=S.o;omega
  refine⟨λO=>?_,λO=>?_⟩;refine lq rfl ⟨λC=>?_,λC=>?_⟩;exact lq rfl (take (by trivial) (by unfold rD;rw[O,C];rfl) λl' G h=>⟨_,rfl,h⟩);refine eH (eB hC.b1 rfl) (gT ⟨λP=>?_,λP=>?_⟩);exact take (by trivial) (by unfold rD;rw[O,C,P];rfl) λl' G h=>⟨_,rfl,h⟩;exact⟨_,rfl,same _ (Ext.refl _) (by unfold rD;rw[C,Bool.false_or,P,Bool.and_false])⟩;refine eH (eB hC.b1 rfl) (gT ⟨λP=>?_,λP=>?_⟩);refine⟨λC=>?_,λC=>?_⟩;exact lq rfl (take (by trivial) (by unfold rD;rw[O,C,P];rfl) λl' G h=>⟨_,rfl,h⟩);refine eH (eB hC.b1 rfl) (gT ⟨λh4=>?_,λh4=>?_⟩);exact take (by trivial) (by unfold rD;rw[O,C,P,h4];rfl) λl' G h=>⟨_,rfl,h⟩;exact⟨_,rfl,same _ (Ext.refl _) (by unfold rD;rw[C,Bool.false_or,h4,Bool.and_false])⟩;exact nU rfl ⟨_,rfl,same _ (Ext.refl _) (by unfold rD;rw[O,Bool.false_or,P,Bool.false_and])⟩;have h:¬(l.length:Int)=(ju H r[d]).tries:=gJ h;rw[Je _ _ _ _ _ _ h]at U⊢
  refine jr (fS H-j) (λk (_:eu)=>[(0,.slice D l.length E),(1,i64 j),(2,eT db),(3,eT ob),(4,eT wb),(5,eT xb),(6,eT gb),(11,i64 (j+k:Nat))])
   (λk aC G=>LC w wp d (ju H r[d]) db ob wb xb gb G/\GL G (.slice D l.length E) l/\eY (λb=>b=ob\/eG R b\/eG (.slice D l.length E) b) z G/\gY G ob #[aC] 66/\(∀b,eG aC b->eG R b\/z.heap.size<=b)/\mT A m G aC (ls++qD (fS H) r[d] (ju H r[d]) f l j k)) R ⟨by trivial,hC,hL,eY.refl _ _,ah,λb q=>.inl q,by simpa[qD]using ho⟩ ?_
  rintro k M X hk ⟨af,ar,k1,am,Z,aD⟩;have aR:=hW.ext af.e;obtain⟨sa,sc,g1,g2,g3,g4⟩:=aR.at_;refine eH (eB af.b3 rfl) (eH g1 (fw (last_at aR.g) (CU ⟨λan=>?_,λan=>?_⟩)));have ab:k<fS H-j:=by have:=fQ an;omega
  obtain⟨b,o,rfl,hc⟩:=g4 d hd;have a8:j+k<6:=by omega
  have ba:(j+k)/2<3:=by omega
  have aS:X.cell? (eQ b (o+d*8+4+(j+k)/2))=some (.bool (uj r[d] ((j+k)/2))):=by
   have:(oN r[d])[4+(j+k)/2]? =some (.bool (uj r[d] ((j+k)/2))):=by
    obtain h0|h0|h0:(j+k)/2=0\/(j+k)/2=1\/(j+k)/2=2:=by omega
    all_goals rw[h0];rfl
   have:=hc _ _ this;rwa[<-sR]at this
  have skip:∀y,Ext X y->qC r[d] l (j+k)=true->LC w wp d (ju H r[d]) db ob wb xb gb y/\GL y (.slice D l.length E) l/\eY (λb=>b=ob\/eG R b\/eG (.slice D l.length E) b) z y/\gY y ob #[M] 66/\(∀b,eG M b->eG R b\/z.heap.size<=b)/\mT A m y M (ls++qD (fS H) r[d] (ju H r[d]) f l j (k+1)):=λy F hs=>by refine⟨af.keep S (F.keep λ_=>False) λ_ _ h=>h.elim,ar.keep (F.keep λ_=>False) λ_ _ h=>h,k1.trans (F.keep λ_=>False) (λ_ _ h=>h) λ_ _ h=>h.elim,F.at_ am,Z,?_⟩;rw[sg,eC hs,List.append_nil];exact aD.ext F
  refine fB fl (eZ (eB af.b3 rfl) (eZ g2 (eZ (eB af.b4 rfl) (dx (i64 ((j+k)/2:Nat)) (λy _=>uh (n:=2) (by omega) (by omega) iJ) (oM d 8 hd (dx (oJ b (o+d*8+4+(j+k)/2)) (λy _=>zT 3 ba iJ) (eZ aS ⟨λO=>?_,λO=>?_⟩)))))));exactλy F=>lq rfl (eK ⟨ab,M,by trivial,skip y F (by simp[qC,O])⟩)
  have aT:∀{Q:QW} {l0:L} {y:er},Sub [(0,.slice D l.length E),(1,i64 j),(2,eT db),(3,eT ob),(4,eT wb),(5,eT xb),(6,eT gb),(11,i64 (j+k:Nat))] l0->Ext X y->qC r[d] l (j+k)=false->(∀ao N ac G,(∃B,LC w wp d (ju H r[d]) db ob wb xb gb G/\GL G (.slice D l.length E) l/\eY (λb=>b=ob\/eG R b\/eG (.slice D l.length E) b) z G/\gY G ob #[B] 66/\(∀b,eG B b->eG R b\/z.heap.size<=b)/\mT A m G B (ls++qD (fS H) r[d] (ju H r[d]) f l j (k+1)))->Q .normal ((85,ao)::(82,N)::(81,ac)::(84,i64 ((j+k:Nat)+1))::(83,i64 (j+k:Nat))::(80,i64 (j+k:Nat))::(79,.slice D l.length E)::(78,KG db ob wb xb gb)::[(0,.slice D l.length E),(1,i64 j),(2,eT db),(3,eT ob),(4,eT wb),(5,eT xb),(6,eT gb),(11,i64 (j+k:Nat))]) G)->iq V.prog 86 (jh Tryz.f165 9) l0 y Q:=λ{Q l0 y} hs F aU hq=>by
   refine iq.jm hs ?_;clear hs skip;have aE:=af.keep S (F.keep λ_=>False) λ_ _ h=>h.elim;have ag:GL y (.slice D l.length E) l:=ar.keep (F.keep λ_=>False) λ_ _ h=>h;have k2:=k1.trans (F.keep λ_=>False) (λ_ _ h=>h) λ_ _ h=>h.elim;have aV:=F.at_ am;have au:=aD.ext F;have s2:z.heap.size<=y.heap.size:=k2.size;have ay:∀b,eG M b->m<=b:=λb q=>(Z b q).elim (aH b) λh=>ff aA h;have ap:∀b,eG (.slice D l.length E) b->b<y.heap.size:=λb q=>ag.blk q;have ad:∀b,eG M b->b<y.heap.size:=λb q=>by obtain⟨cs,h⟩:=au.UH q;exact eV.lt_of_heap h
   obtain⟨o1,bb,bc⟩:∃o1:Obj,(∀b,eG (.slice D l.length E) b->y.heap[b]? =some o1)/\∀b,eG (.slice D l.length E) b->∃cs,o1=.cells cs 3:=by by_cases Y:∃b,eG (.slice D l.length E) b;obtain⟨b,q⟩:=Y;obtain⟨cs,bd⟩:=ag.c3 q;exact⟨.cells cs 3,λb' W=>by rw[Hb q W];exact bd,λ_ _=>⟨cs,rfl⟩⟩;exact⟨.cells #[] 3,λb q=>absurd ⟨b,q⟩ Y,λb q=>absurd ⟨b,q⟩ Y⟩
   obtain⟨o2,av⟩:∃o2:Obj,∀b cs,eG (.slice D l.length E) b->o1=.cells cs 3->o2=.cells (cs.setIfInBounds l.length (i64 (j+k:Nat))) 3:=by
    cases o1 with
    |cells cs t fz=>exact⟨.cells (cs.setIfInBounds l.length (i64 (j+k:Nat))) 3,λb aj _ e=>by injection e with e;rw[e]⟩
    |_=>exact⟨.cells #[] 3,λb aj _ e=>by cases e⟩
   have f9:∀{b},(b=ob\/eG M b\/eG (.slice D l.length E) b\/y.heap.size<=b)->b=ob\/m<=b:=λ{b} h=>by obtain h|h|h|h:=h;exact .inl h;exact .inr (ay _ h);exact .inr (aa _ h).1;exact .inr (by omega)
   refine kD 7 (Ui (.slice D l.length E) o1 o2) (kJ (λb=>b=ob\/eG M b\/eG (.slice D l.length E) b\/y.heap.size<=b)) (λa b h=>h.k.trans (eY.refl (λ_=>False) b) (λx _ Y=>.inr (.inr (.inl Y))) λ_ _ h=>h.elim) ?_;refine .exact (KG db ob wb xb gb) (λw3 T=>eH (eB (T.iZ aE.b5 λJ=>by have:=S.g;obtain h|h:=f9 J<;>omega) rfl) ⟨rfl,(Ui _ _ _).refl _⟩) ?_;refine .LW (λv w3=>∃K,v=fP K 1 1/\y.heap.size<=K/\w3.heap[K]? =some (.cells [Value.int .i64 (j+k:Nat)].toArray 3)) (λv a b ⟨K,O,C,P⟩ e=>⟨K,O,C,e.k.iZ P λJ=>by have:=ap K J;omega⟩) (λw3 T=>ie [i64 (j+k:Nat)] 3 λw4 K e4 ak q=>⟨⟨K,rfl,ff T.size ak,q⟩,e4.ea _ _ _⟩) ?_;refine .early rfl (Uj y.heap.size (.slice D l.length E) o2 (l++[j+k])) (λv a b h e=>h.ea e ap) (λw3 T ac be=>?_) ?_;obtain⟨K,rfl,ak,al⟩:∃K,ac=fP K 1 1/\y.heap.size<=K/\w3.heap[K]? =some (.cells [Value.int .i64 (j+k:Nat)].toArray 3):=be;exact Pf (ag.ea T av) (λb q=>(T.n b o1 q (bb b q)).imp id (·.2)) T.k.size (by omega) al av bc λv w4 O C=>⟨O,C⟩;refine .exact (i64 ((j+k:Nat)+1)) (λw3 _=>eK (m:=(j+k:Nat)) (n:=1) ⟨rfl,(Ui _ _ _).refl _⟩) ?_
   refine .spec (λv w3=>GL w3 (.slice D l.length E) l/\∃B,gY w3 ob #[B] 66/\(∀b,eG B b->eG M b\/y.heap.size<=b)/\mT A m w3 B ((ls++qD (fS H) r[d] (ju H r[d]) f l j k)++mz (fS H) r[d] (ju H r[d]) f (l++[j+k]) (j+k+1)))
    (λv a b ⟨O,B,C,P,h4⟩ e=>⟨O.ea e av,B,e.k.iZ C λJ=>ae ob (.inr J) rfl,P,h4.keep e.k (λb q W=>by obtain⟨cs,q1⟩:=h4.UH q;obtain⟨aj,q2⟩:=O.c3 W;exact ia q1 q2 (by decide)) λu x b hu q ha J=>ha (aa b J).2⟩) (λw3 T N aq=>?_) ?_
   have aq:Uj y.heap.size (.slice D l.length E) o2 (l++[j+k]) N w3:=aq;have az:GL w3 N (l++[j+k]):=by obtain⟨_,_,_,_,_,_,h⟩|⟨_,_,_,_,h⟩:=aq<;>exact h
   have aF:∀b,eG N b->eG (.slice D l.length E) b\/y.heap.size<=b:=λb q=>by obtain⟨b',c',k',q1,rfl,_⟩|⟨b',c',q1,rfl,_⟩:=aq;exact .inl (by rw[q1,lH (l':=0) (c':=0) q];exact⟨_,_,rfl⟩);exact .inr (by rw[lH (l':=0) (c':=0) q];exact q1)
   have bf:=aE.keep S T.k λb _ J=>.inr (aa b J).1;have bg:mT (λb=>A b\/eG N b) m w3 M (ls++qD (fS H) r[d] (ju H r[d]) f l j k):=by have O:=au.more (A':=λb=>A b\/eG N b) λb q=>q.elim .inl λq=>(aF b q).imp (λh=>(aa b h).2) id;exact O.keep T.k (λb q W=>by obtain⟨cs,q1⟩:=au.UH q;obtain⟨aj,q2⟩:=ag.c3 W;exact ia q1 q2 (by decide)) λu x b hu q ha J=>ha (.inl (aa b J).2)
   have bp:(l++[j+k]).length=l.length+1:=by simp
   have aW:(if qC r[d] l (j+k)then []else mz (fS H) r[d] (ju H r[d]) f (l++[j+k]) (j+k+1))=mz (fS H) r[d] (ju H r[d]) f (l++[j+k]) (j+k+1):=by rw[aU];rfl
   have an:=Pg (fS H) r[d] (ju H r[d]) f l j (show k+1<=fS H-j by omega);rw[sg,aW,jR]at an;have ih:=Be hW hd S f (l++[j+k]) (j+k+1) N M (ls++qD (fS H) r[d] (ju H r[d]) f l j k) (λb=>A b\/eG N b) w3 (by omega) (by omega) (by omega) (λs hs=>by obtain hs|hs:=ja.1 hs;exact aG s hs;rw[gW.1 hs];exact a8) bf az (λb q=>⟨(aF b q).elim (λh=>(aa b h).1) λh=>by omega,.inr q⟩) (λb q=>q.elim (λh=>by have:=hA b h;have:=T.k.size;omega) λh=>az.blk h) (by have:=T.k.size;omega) (T.k.iZ aV λJ=>ae ob (.inr J) rfl) bg ay (by rw[jR];omega);refine eL ih ?_;rintro v w4 ⟨kk,bh,B,q1,q2,q3⟩;refine⟨⟨?_,B,q1,λb q=>(q2 b q).imp id λh=>ff T.k.size h,q3.more λb q=>.inl (.inl q)⟩,kk.trans (eY.refl (λ_=>False) w4) (λx _ Y=>?_) λ_ _ h=>h.elim⟩;obtain⟨b',c',k',q4,rfl,q5,_⟩|⟨b',c',q4,rfl,_⟩:=aq;injection q4 with q4 q6 q7;subst q4 q6 q7;obtain⟨b2,c2,aL,z1,z2,z3,z4,z5⟩:=bh.v (by omega);injection z1 with z1 _ z6;have:=eX Addr.block (eP z1);simp only at this;subst this;subst z6;refine .inr ⟨_,_,aL,rfl,a1,z3,z4,λi hi=>?_⟩;have:=z5 i (by omega);rwa[nE hi]at this;refine(ag.ea T av).keep kk λb q J=>?_;obtain h|h|h:=J;exact ae b (.inr q) h;obtain⟨cs,x1⟩:=au.UH h;obtain⟨aj,x2⟩:=ag.c3 q;exact ia x1 x2 (by decide);have:=ap b q;have:=lH (l':=0) (c':=0) h;omega;obtain h|h|h:=Y;exact .inl h;exact .inr (.inl h);exact .inr (.inr (aF x h));rintro w3 T ao ⟨O,B,C,P,h4⟩ N _ ac _;refine hq ao N ac w3 ⟨B,aE.keep S T λb _ J=>f9 J,O,k2.trans T (λx _ Y=>Y) λx Y J=>?_,C,λb q=>?_,?_⟩;obtain h|h|h|h:=J;exact .inl h;obtain h|h:=Z x h;exact .inr (.inl h);omega;exact .inr (.inr h);omega;obtain h|h:=P b q;exact Z b h;exact .inr (by omega);rw[sg,aU,<-List.append_assoc];exact h4
  refine od (Kq ⟨λC=>?_,λC=>?_⟩);have C:0<l.length:=by simpa using C
  obtain⟨bl,c,cs,e,q1,q2,q3,q4⟩:=ar.v C;injection e with e bq bi;subst e;subst bi;have bj:=q4 (l.length-1) (by omega);have br:=aG _ (ft (show l.length-1<l.length by omega));refine od (xY (sZ (l.length-1) (by omega) (eZ (v:=i64 (l[l.length-1]:Nat)) (eB q2 (by rw[eJ];exact bj)) (dx (i64 (l[l.length-1]/2:Nat)) (λy _=>uh (n:=2) (by omega) (by omega) iJ) (dx (i64 ((j+k)/2:Nat)) (λy _=>uh (n:=2) (by omega) (by omega) iJ) (Kr λy F=>⟨λP=>?_,λP=>?_⟩)))) (by omega)));have P:l[l.length-1]/2=(j+k)/2:=Int.ofNat.inj (fQ P);exact eK ⟨ab,M,by trivial,skip y F (by simp[qC,C,Ha C,P])⟩;have P:¬l[l.length-1]/2=(j+k)/2:=λe=>gJ P (by rw[e]);exact aT (by trivial) F (by simp[qC,O,C,Ha C,P]) λao N ac G ⟨B,hJ⟩=>eK ⟨ab,B,by trivial,hJ⟩;have C:¬0<l.length:=by simpa using C
  exactλy F=>nU rfl (aT (by trivial) F (by simp[qC,O,C]) λao N ac G ⟨B,hJ⟩=>eK ⟨ab,B,by trivial,hJ⟩);have aP:k=fS H-j:=by have:=gJ an;omega
  subst aP;exact⟨_,rfl,k1,ar,M,am,Z,aD⟩
def Ext.xg(h:Ext w t)(k:eY A t e)(c:∀b,A b->w.heap.size<=b):Ext w e:=
 ⟨k.os.trans h.os,k.tape.trans h.tape,k.output.trans h.output,ff h.size k.size,ff h.drawn k.drawn,λx a=>(k.block x (fN a h.size) λd=>by have:=c x d;omega).trans (h.block x a)⟩
theorem iW.low{a:List ew}(h:iW m w x a)(b:k<=m):iW k w x a:=by obtain⟨c,d,e,f⟩:=h;exact⟨c,d.low b,e,λg i=>by obtain⟨u,j,l⟩:=f g i;exact⟨u,j,l.low b⟩⟩
def Hc{wp gp mk ms:Nat}{o:List Sx}(h:nQ wp gp mk ms H o I w)(L:d<o.length)(F:wz 100000 o[d])(U:m<=fS H):
 Calls V.prog 120 #[eT wp,.int .i64 d,.int .i64 m] w (jy λv M=>Ext w M/\iW w.heap.size M v (gi H o[d] m)):=by
 have t:=h.g.wx;have W:=mA t;refine jT Tryz.func120 Tryz.ntmps120 ?_;refine jx λX A G Y e=>jx λN B u O f=>?_;have e:gY X A #[eT wp] 133:=e;have f:gY N B #[i64 d] 3:=f;refine eH (eB (u.at_ e) rfl) (eH (eB f rfl) (eL (Uh (h.ext (G.trans u)) L F) ?_));rintro v w3 ⟨rfl,P⟩;refine ji λw4 C Z J x=>fV x λQ k5 j=>?_;have j:Q.heap[C]? =some (.cells (H9 d (ju H o[d])).toArray 101):=j.trans (eX (λa=>some (Obj.cells a 101)) (jB (xW 101).toArray (H9 d (ju H o[d])) rfl));have p:Ext N Q:=P.trans (Z.eR k5 J);have aa:=eV.lt_of_heap e;have ab:=eV.lt_of_heap f;have ac:=eV.lt_of_heap j;refine ji λR D y ad l=>ji λw7 E e7 K z=>fV z λq k8 i=>?_;have l:gY R D #[ig] 66:=l;have ae:=eV.lt_of_heap l;have i:gY q E #[KG C D A B E] 209:=i;have af:=eV.lt_of_heap i;have r:Ext R q:=e7.eR k8 K;have s1:=G.size;have s2:=u.size;have s3:=P.size;have s5:=p.size;have s6:=y.size;have s8:=r.size;have S:LS w.heap.size q.heap.size C D A B E:=⟨by omega,by omega,by omega,by omega,by omega,by omega⟩;have T:Ext w q:=((G.trans u).trans p).trans (y.trans r);have hC:LC w wp d (ju H o[d]) C D A B E q:=⟨T,(y.trans r).at_ j,((u.trans p).trans (y.trans r)).at_ e,(p.trans (y.trans r)).at_ f,i⟩;have c:∀b,¬eG ig b:=λb n=>by obtain⟨_,_,n⟩:=n;cases n
 have n:=(uV t o[d] m).1;have hg:=Be h L S (fS H+1) [] m ig ig [] (λ_=>False) q (by omega) (iQ _) U (λs hs=>by cases hs) hC (.inl ⟨rfl,rfl⟩) (λb n=>absurd n (c b)) (λb n=>n.elim) (eF _) (r.at_ l) ⟨[],fc.nil _ _ _ _,rfl,λk hk=>by simp at hk⟩ (λb n=>absurd n (c b)) (by show 0+(gi H o[d] m).length<=100000;omega);refine eH (eB i rfl) (eL hg ?_);rintro v w9 ⟨k9,_,ov,q1,q2,q3⟩;refine eH (eB q1 rfl) ⟨_,rfl,T.xg k9 λb n=>?_,q3.own.low (by omega)⟩;obtain h|h|h:=n;omega;exact absurd h (c b);exact absurd h (c b)
def Vj:GK 64 66 [.slice none 0 0]:=⟨by kernel_rfl,Tryz.t66,_,by kernel_rfl,rfl,by kernel_rfl,by kernel_rfl,by decide+kernel,by decide⟩
theorem iW.keep{n0:Nat}{w w':er}{v:eu}{e:List ew}{F:eN}(h:iW n0 w v e)(k:eY F w w')(f:∀b a t,F b->w.heap[b]? =some (.cells a t)->t=27\/t=3->False):iW n0 w' v e:=by obtain⟨l,g,m,n⟩:=h;refine⟨l,g.keep k λb c d=>?_,m,λi o=>?_⟩;obtain⟨a,q⟩:=g.c_ c;exact f b a 27 d q (.inl rfl);obtain⟨u,p,j⟩:=n i o;refine⟨u,p,fc.keep j k λb c d=>?_⟩;obtain⟨a,q⟩:=fc.c_ j c;exact f b a 3 d q (.inr rfl)
def iW.Th{n0:Nat}{w w':er}{v:eu}{c:List ew}{F:eN}(h:iW n0 w v c)(k:eY F w w')(d:∀b,n0<=b->¬F b):iW n0 w' v c:=by obtain⟨g,e,j,l⟩:=h;refine⟨g,e.keep k λb a=>d b (e.blk a).1,j,λi m=>?_⟩;obtain⟨u,n,f⟩:=l i m;exact⟨u,n,fc.keep f k λb a=>d b (fc.blk f a).1⟩
def lO(n0:Nat)(w:er)(v:eu)(lss:List (List ew)):Prop:=∃a:fD,fc n0 66 [.slice none 0 0] w v lss.length a/\a.length=lss.length/\∀k (h:k<lss.length),∃u,a[k]? =some u/\iW n0 w u lss[k]
section
variable{n0:Nat}{w w':er}{v:eu}{lss:List (List (List Nat))}
theorem lO.ext(h:lO n0 w v lss)(e:Ext w w'):lO n0 w' v lss:=by obtain⟨a,b,c,d⟩:=h;refine⟨a,b.ext e,c,λk f=>?_⟩;obtain⟨u,g,i⟩:=d k f;exact⟨u,g,i.ext e⟩
theorem lO.jJ{m:Nat}(h:lO n0 w v lss)(e:lf m w w'):lO n0 w' v lss:=by obtain⟨a,b,c,d⟩:=h;refine⟨a,b.jJ e,c,λk f=>?_⟩;obtain⟨u,g,i⟩:=d k f;exact⟨u,g,i.jJ e⟩
theorem lO.keep{F:eN}(h:lO n0 w v lss)(k:eY F w w')(d:∀b a t,F b->w.heap[b]? =some (.cells a t)->t=66\/t=27\/t=3->False):lO n0 w' v lss:=by obtain⟨f,e,g,j⟩:=h;refine⟨f,e.keep k λb c l=>?_,g,λi m=>?_⟩;obtain⟨a,q⟩:=e.c_ c;exact d b a 66 l q (.inl rfl);obtain⟨u,n,o⟩:=j i m;exact⟨u,n,o.keep k λb a t c p r=>d b a t c p (.inr r)⟩
theorem lO.v_(h:lO n0 w v lss):∃a c,v=.slice a lss.length c:=by obtain⟨d,b,_⟩:=h;obtain⟨a,c,e,_⟩:=b.len;exact⟨a,c,e⟩
theorem lO.nil(n0:Nat)(w:er):lO n0 w (.slice none 0 0) []:=⟨[],fc.nil _ _ _ _,rfl,λk a=>by simp at a⟩
end
def Pi{w:er}{k:oz}{z:Array Bool}{n0:Nat}{v:eu}{lss:List (List ew)}(h:lO n0 w v lss)(m:n0<=w.heap.size){b c:Nat}{u:eu}{o:List ew}(p:iW n0 w u o)(e:w.heap[b]? =some (.cells [u].toArray 66))(f:lss.length+1<=1000000) (A:∀g w',lO n0 w' g (lss++[o])->eY (eG v) w w'->(∀b,eG g b->n0<=b)->k g w'):zw V.prog (builtin .append #[64,64] T z #[v,.slice (some ⟨b,0,none⟩) 1 c]) w k:=by
 obtain⟨B,r,s,C⟩:=h;have j:u.oneCell'=true:=by obtain⟨a,c,rfl,_⟩:=p.row;rfl
 have d:∀b t T,eG v b->gY w b t T->T=27\/T=3->False:=λb t T e D E=>by obtain⟨F,q⟩:=r.c_ e;exact ia q D (by obtain rfl|rfl:=E<;>decide)
 refine kP Vj r m e f (λg w' y n K=>A g w' ⟨B++[u],by simpa using y,by simp[s],λi G=>?_⟩ n λb e=>(y.blk e).1) rfl (by simp[tg,j]);obtain l|H:=gQ i lss.length;obtain⟨x,I,J⟩:=C i l;refine⟨x,by rw[oR (by omega)];exact I,?_⟩;rw[nE l];exact J.keep n d;obtain rfl:i=lss.length:=by simp at G;omega
 refine⟨u,by rw[ow (by omega)];simp[s],?_⟩;simp only[sO (eF _),mj,oy];exact p.keep n d
def Hd(n0:Nat)(w:er)(b:Nat):Prop:=n0<=b/\∃a t c,w.heap[b]? =some (.cells a t c)
def fc.Qv{a:Type}{n0:Nat}{z:eu}{w:er}{v:eu}{d:fD}{l:List a}{E:er->eu->a->Prop}(h:fc n0 T [z] w v l.length d)(j:∀k (h:k<l.length),∃u,d[k]? =some u/\E w u l[k]):lL (Hd n0 w) E z T w v l:=by obtain⟨m,⟨n,rfl⟩|⟨b,c,e,o,rfl,f,g,p,x,q,r⟩⟩:=h;exact .inl ⟨nC n,rfl⟩;simp only[gf,il,nZ,eJ]at m g;refine .inr ⟨b,c,e,(0,0),⟨o,e,T,(0,0),f⟩,rfl,f,g,p,λk i=>?_,λk i y=>?_⟩;obtain⟨u,s,t⟩:=j k i;exact⟨u,by rw[q k (by omega)];exact s,t⟩;rw[r k (by omega) (by omega)];simp[Nat.mod_one]
theorem jq.Qv{n0:Nat}{w:er}{v:eu}{l:ew}(h:jq n0 w v l):xQ (Hd n0 w) w v l:=fc.Qv h λk a=>⟨i64 l[k],by simp[gU,gC a],rfl⟩
theorem iW.Qv{n0:Nat}{w:er}{v:eu}{a:List ew}(h:iW n0 w v a):AB (Hd n0 w) w v a:=by obtain⟨g,b,i,c⟩:=h;exact fc.Qv b λk d=>by obtain⟨u,e,f⟩:=c k d;exact⟨u,e,f.Qv⟩
theorem lO.Qv{n0:Nat}{w:er}{v:eu}{lss:List (List ew)}(h:lO n0 w v lss):wQ (Hd n0 w) w v lss:=by obtain⟨f,a,g,b⟩:=h;exact fc.Qv a λk c=>by obtain⟨u,d,e⟩:=b k c;exact⟨u,d,e.Qv⟩
def Bf(b c d:eu)(a:iA):(fC b c d a).size=3+a.length:=by simp[fC];omega
def Cb(a b c:eu)(d:iA)(k:Nat)(v:Int):(fC a b c d).setIfInBounds (3+k) (.int .i64 v)=fC a b c (d.set k v):=by unfold fC;rw[show 3+k=k+1+1+1 by omega];simp[List.map_set]
def Bg(a b d u:eu)(c:iA):(fC a b d c).setIfInBounds 2 u=fC a b u c:=by unfold fC;simp
def Cc(G:Gd)(a:Nat):jN G a 0=List.replicate 32 0:=by unfold jN;simp only[Nat.not_lt_zero,gy];rfl
def qT(G:Gd)(a k:Nat)(c:k<32):jN G a (k+1)=(jN G a k).set k (pZ G a k):=by
 apply List.ext_getElem?;intro i;unfold jN;rw[List.getElem?_set,ng,ng];simp only[jU,List.length_range];obtain b|b:=gQ i 32;rw[List.getElem?_range b];by_cases e:k=i;subst e;simp[c];simp only[e,gy,kT];have:(i<k+1)=(i<k):=by apply propext;omega
 simp[this];rw[Cm (by simpa using b)];have:¬k=i:=by omega
 simp[this]
def He:∀s:Nat,s<32->∀a:Nat,a<32->(decide (b8 .andNot s a=0))=Pd s a:=by decide+kernel
def RE:∀n:Nat,n<=5->IntKind.u8.wrap (1*2^n)=((2^n:Nat):Int):=by decide+kernel
def Vk:∀n:Nat,n<=5->∀s:Nat,s<2^n->s<32/\∀d∈fx s,d<n:=by decide+kernel
def EE{w:er}{k:oz}{x y:fI}{m n:Nat}(b:m+n<256)(h:k (.int .u8 ((m+n:Nat):Int)) w):lY V.prog (do eqGuard .add T x y (.int .u8 m) (.int .u8 n);binOp .add T (.int .u8 m) (.int .u8 n)) w k:=by refine⟨_,w,?_,h⟩;go_simp;have a:IntKind.u8.signed=false:=rfl;unfold IntKind.wrap;simp[IntKind.bits,a];omega
def KH{f:IntKind}{t b o:Nat}{w:er}{k:oz}(a n:Nat)(m:a<n)(h:k (.pointer (some ⟨b,o+a,none⟩)) w)(g:I=(a:Nat):=by rfl)(i:ty t=some ⟨2,n,1,n⟩:=by rfl):lY V.prog (Instr.indexAt t (.pointer (some ⟨b,o,none⟩)) (.int f I)) w k:=by
 subst g;obtain⟨e,j,l⟩:=GI i rfl;refine⟨_,w,?_,h⟩;have c:(a:Int)<(n:Int):=by omega
 have d:(0:Int)<=(a:Int):=by omega
 unfold Instr.indexAt;simp only[asIntOf,Instr.sureAddr,pure_bind,Sem.run_bind,jG j,Result.andThen_ok,Sem.run_pure,d,c,and_self,fF,n9 l,sL,je,nZ]
def Ti{w:er}{s:fa}{b:Nat}{e f g:eu}{c:iA}{k:Nat}{v:Int}(i:w.heap[b]? =some (.cells (fC e f g c) 207))(m:k<c.length)(h:∀w',eY (λx=>x=b) w w'->w'.heap[b]? =some (.cells (fC e f g (c.set k v)) 207)->s w'):H5 V.prog (Instr.storeAt 3 (.pointer (some ⟨b,3+k,none⟩)) (.int .i64 v)) w s:=
 kY i (by rw[Bf];show 3+k+1<=_;omega) (λw' j d=>h w' j (d.trans (eX (λa=>some (Obj.cells a 207)) (Cb _ _ _ _ _ _)))) (iK (l:=[i64 v]) rfl)
def Pj(a:eu)(w:er):Calls V.prog 186 #[a] w (jy λv b=>v=a/\b=w):=by refine jT Tryz.func186 Tryz.ntmps186 ?_;exact⟨_,rfl,rfl,rfl⟩
def Uk:iA:=List.replicate 32 0
def Bh{wp gp mk ms n0:Nat}{f:List Sx}(h:nQ wp gp mk ms H f I w)(hA:∀b,A b->b<w.heap.size)(hp:nA A mk ms H w)(ax:n0<=mk)(ay:n0<=ms)(az:∀x∈f,wz 100000 x)(P:k<=fS H):
 Calls V.prog 162 #[eT wp,.int .i64 k] w (jy λv D=>MA n0 mk ms H A w D/\∃s,v=eT s/\iB (Hd w.heap.size D) s (fi H f k) D):=by
 have ak:=h.g.wx;have h5:=ak.many;have al:=h.len;refine jT Tryz.func162 Tryz.ntmps162 ?_;refine fw (Pj _ _) (eL (Et h) ?_);rintro ov w1 ⟨e1,am⟩;have aI:=uW H.tries f;obtain⟨L,Q,rfl,_,aK⟩:=am.row;refine gK (.agg (fC (eT wp) (.slice L (eO H.tries f).length Q) (ig) Uk)) (jx λw2 s e2 aL E=>?_);have E:gY w2 s (fC (eT wp) (.slice L (eO H.tries f).length Q) (ig) Uk) 207:=E;refine eH (eB E rfl) (fe ?_);obtain⟨O,hO⟩:∃O,O=Value.slice L (eO H.tries f).length Q:=⟨_,rfl⟩;have aJ:(eO H.tries f).length<=5:=by omega
 have s1:=e1.size;have E2:=e1.trans e2;refine kZ (n:=(eO H.tries f).length) (λi v=>[(0,eT wp),(1,i64 k),(5,eT s),(21,.slice L (eO H.tries f).length Q),(22,i64 (eO H.tries f).length),(23,i64 i)]) (λi v D=>Ext w D/\jq w.heap.size D O (eO H.tries f)/\gY D s (fC (eT wp) O v Uk) 207/\lO w.heap.size D v (pm H f k i)) (ig) ⟨by trivial,E2,by rw[hO];exact am.ext e2,by rw[hO];exact E,by simpa[pm]using lO.nil _ _⟩ ?_ ?_ ?_;rintro i v M hk hJ;exact fO ⟨rfl,rfl,by trivial,hJ⟩;rintro i v M hk ⟨e3,B,j,C⟩;have R:iM M L (eO H.tries f):=by obtain⟨a,c,q1,q2,_⟩:=B.row;rw[hO]at q1;injection q1 with q1;rw[q1];exact q2
 obtain⟨b,o,rfl,hc⟩:=R i hk;have F:=jH (ft hk);obtain⟨d,hd⟩:∃d,d=(eO H.tries f)[i]:=⟨_,rfl⟩;rw[<-hd]at hc F;refine gN i hk (eH hc ?_);have S:∀b,eG v b->w.heap.size<=b/\b<M.heap.size:=λb l=>by obtain⟨us,hr,_⟩:=C;exact hr.blk l
 have ad:¬eG v s:=λl=>by obtain⟨us,hr,_⟩:=C;obtain⟨cs,q⟩:=hr.c_ l;exact ia q j (by decide)
 refine kD 10 fl (kJ (eG v)) (λa b h=>h.keep _)<| .exact v (λy G=>eH (eB (G.iZ j ad) rfl) iJ) ?_;refine .rel (λu y=>iW M.heap.size y u (gi H f[d] k)) (λu a b hu e=>hu.Th e λx T ae=>by have:=(S x ae).2;omega) (λy G=>?_) ?_;have aA:Ext w y:=e3.xg G λx T=>(S x T).1;exact eL (Hc (h.ext aA) F (az _ (ft F)) P) λu w5 ⟨e5,hu⟩=>⟨hu.low G.size,e5⟩;refine .rel (λx y=>∃N u,x=fP N 1 1/\M.heap.size<=N/\y.heap[N]? =some (.cells [u].toArray 66)/\iW M.heap.size y u (gi H f[d] k)) (λx a b ⟨N,u,h1,h2,h3,h4⟩ e=>⟨N,u,h1,h2,e.iZ h3 (λP=>by have:=(S N P).2;omega),h4.Th e λx T ae=>by have:=(S x ae).2;omega⟩) (λy G u hu=>?_) ?_;refine ie [u] 66 (λw5 N e5 an l=>⟨⟨N,u,rfl,ff G.size an,l,iW.ext hu e5⟩,e5⟩) ?_;obtain⟨a2,c2,rfl,_⟩:=iW.row hu;intro w;kernel_rfl;refine .spec (λv' y=>lO w.heap.size y v' (pm H f k (i+1))) (λv a b h1 e=>h1.ext e) (λy G ao aB aC aM=>?_) ?_;obtain⟨N,u,rfl,an,ap,hu⟩:∃N u,ao=fP N 1 1/\M.heap.size<=N/\y.heap[N]? =some (.cells [u].toArray 66)/\iW M.heap.size y u (gi H f[d] k):=aB;refine Pi (C.ext G) (by have:=e3.size;have:=G.size;omega) (hu.low e3.size) ap (by simp[pm];omega) λv' w5 g1 g2 _=>⟨?_,g2⟩;have:pm H f k (i+1)=pm H f k i++[gi H f[d] k]:=by unfold pm;rw[kM hk,nS,lK,rf,<-hd,getD_eq F]
 rw[this];exact g1;rintro y G aN aq ao _ aC _;obtain⟨a9,c9,rfl⟩:=lO.v_ aq;refine fV (G.iZ j ad) λw5 k5 aD=>eK ⟨_,by trivial,(e3.xg G λx T=>(S x T).1).eR k5 (by omega),?_,aD.trans (eX (λa=>some (Obj.cells a 207)) (Bg _ _ _ _ _)),aq.keep k5 λb cs t l hc ht=>?_⟩;refine fc.keep (fc.keep B G λb l P=>?_) k5 λb l P=>?_;obtain⟨us,hr,_⟩:=C;obtain⟨cs,q⟩:=hr.c_ P;obtain⟨ar,q'⟩:=fc.c_ B l;exact ia q q' (by decide);subst P;obtain⟨ar,q'⟩:=fc.c_ B l;exact ia j q' (by decide);subst l;exact ia (G.iZ j ad) hc (by obtain rfl|rfl|rfl:=ht<;>decide);rintro v M ⟨e3,B,j,C⟩;subst hO;have U:lO w.heap.size M v (fi H f k).lists:=by
  have:pm H f k (eO H.tries f).length=(fi H f k).lists:=by unfold pm fi;rw[mI]
  rw[<-this];exact C
 clear C;have R:iM M L (eO H.tries f):=by obtain⟨a,c,q1,q2,_⟩:=B.row;injection q1 with q1;rw[q1];exact q2
 have h3:=h.ext e3;obtain⟨sa,sc,g1,g2,g3,g4⟩:=h3.at_;obtain⟨da,dc,d1,d2⟩:=h3.g.c6;refine eH (eB j rfl) (fw (uT (eO H.tries f) L Q M R (λd hd=>by have:=jH hd;omega) (by omega)) (eH g1 (eH d1 (fe (T6 (by omega) ?_)))));rw[RE _ h5];have aO:2^H.doors.length<=32:=Nat.pow_le_pow_right (by omega) h5;obtain⟨p,W⟩:∃p,p=gF (eO H.tries f):=⟨_,rfl⟩;rw[<-W];have J:p<32:=by rw[W];exact pV _ 0 (by omega) λd hd=>by have:=jH hd;omega
 have aP:=eV.lt_of_heap j;have s3:=e3.size;have aE:nA (λx=>A x\/x=s) mk ms H M:=(hp.more (A':=λx=>A x\/x=s) λb l=>l.imp id λh=>by omega).ext e3;refine gO (n:=2^H.doors.length) (λi=>[(0,eT wp),(5,eT s),(8,.int .u8 p),(55,.int .u8 (2^H.doors.length:Nat)),(56,.int .u8 i)]) (λi D=>lf n0 w D/\nA (λx=>A x\/x=s) mk ms H D/\jq w.heap.size D (.slice L (eO H.tries f).length Q) (eO H.tries f)/\gY D s (fC (eT wp) (.slice L (eO H.tries f).length Q) v (jN H p i)) 207/\lO w.heap.size D v (fi H f k).lists) ⟨by trivial,e3.jJ n0,aE,B,by rw[Cc];exact j,U⟩ ?_ ?_ ?_;rintro i y hk hJ;exact fO ⟨rfl,rfl,by trivial,hJ⟩;rintro i y hk ⟨m4,af,ag,z,U⟩;have r:i<32:=by omega
 have aQ:=xf H p i;refine KH i 32 r (Ti z (by omega) λw5 k5 X=>?_);have Y:∀{a b:er},eY (λx=>x=s) a b->gY a s (fC (eT wp) (.slice L (eO H.tries f).length Q) v (jN H p i)) 207\/gY a s (fC (eT wp) (.slice L (eO H.tries f).length Q) v ((jN H p i).set i (-1))) 207->jq w.heap.size a (.slice L (eO H.tries f).length Q) (eO H.tries f)->lO w.heap.size a v (fi H f k).lists->jq w.heap.size b (.slice L (eO H.tries f).length Q) (eO H.tries f)/\lO w.heap.size b v (fi H f k).lists:=λkk l ha hl=>by refine⟨fc.keep ha kk λx T P=>?_,hl.keep kk λx cs t P hc ht=>?_⟩;obtain⟨ar,q'⟩:=fc.c_ ha T;subst P;obtain l|l:=l<;>exact ia l q' (by decide);subst P;obtain l|l:=l<;>exact ia l hc (by obtain rfl|rfl|rfl:=ht<;>decide)
 obtain⟨ah,ai⟩:=Y k5 (.inl z) ag U;have m5:lf n0 w w5:=m4.eR k5 (by omega);have aj:=af.keep k5 λx T=>.inr T;refine Rw _ rfl (jS ⟨λhn=>?_,λhn=>?_⟩);have K:Pd i p=false:=by rw[<-He i r p J];simpa using hn
 refine EE (m:=i) (n:=1) (by omega) ⟨by trivial,m5,aj,ah,?_,ai⟩;rw[qT _ _ _ r,pZ,K];exact X;have K:Pd i p=true:=by rw[<-He i r p J];simpa using hn
 have au:=h.jJ m5;obtain⟨aR,aS,z1,z2,z3,z4⟩:=au.at_;have aF:∀b,(A b\/b=s)->b<w5.heap.size:=λb l=>l.elim (λl=>by have:=hA b l;have:=m5.size;omega) λe=>by subst e;exact eV.lt_of_heap X
 refine eH z1 (eL (Bb au.g aF aj ax ay (Vk _ h5 i hk)) ?_);rintro v6 w6 ⟨m6,u,b,rfl,aa⟩;have av:=m5.trans m6.1;have aw:=m6.2 aj;have Z:=m6.1.at_ X;cases ab:iw H i with
 |none=>
  rw[ab]at aa;obtain⟨rfl,rfl⟩:=aa;refine nU rfl (EE (m:=i) (n:=1) (by omega) ⟨by trivial,av,aw,fc.jJ ah m6.1,?_,ai.jJ m6.1⟩);rw[qT _ _ _ r,pZ,K,ab];exact Z
 |some ls=>
  rw[ab]at aa;obtain⟨rfl,a,c,rfl,_,_⟩:=aa;refine lq rfl (fe (KH i 32 r (Ti Z (by rw[oS];omega) λw7 k7 ac=>EE (m:=i) (n:=1) (by omega) ?_)));obtain⟨aG,aH⟩:=Y k7 (.inr Z) (fc.jJ ah m6.1) (ai.jJ m6.1);refine⟨by trivial,av.eR k7 (by omega),aw.keep k7 λx T=>.inr T,aG,?_,aH⟩;rw[qT _ _ _ r,pZ,K,ab];rw[List.set_set]at ac;exact ac
 rintro y ⟨m4,af,ag,z,U⟩;refine⟨_,rfl,⟨m4,λ_=>af.fewer λb l=>.inl l⟩,s,rfl,G9 ak al k,⟨by omega,_,_,_,z⟩,eT wp,_,v,(0,0),.inr ⟨_,rfl⟩,?_,ag.Qv,U.Qv⟩;rw[z,W,<-al];rfl
end Go.Proofs.W
namespace Go.Proofs.W
open Go.Conc Go.eV Go.eV.Cr Go.eV.Wg Go.RowKit Go.Conc.Lib Go.ConcR.Gen
open Go.ConcN Go.ConcN.Gen
open Go.ConcR (KK wgBlock WgAt stA smA mk DC0)
abbrev LF:List Nat:=[193,194]
def Wj:LF.all (okF LF true (λ_=>false))=true:=by kernel_rfl
def uX{l:iA}(h:(jc l m)[i]? =some x):∃n,x=.int .i64 n:=by
 have a:x∈(l.map (Value.int .i64)++List.replicate (m-l.jK) (Value.int .i64 0)):=by have:=oQ h;simpa[jc]using this
 obtain a|a:=ja.1 a;obtain⟨b,_,rfl⟩:=iX.1 a;exact⟨b,rfl⟩;exact⟨0,List.eq_of_mem_replicate a⟩
def Pk(h:∀(i:Nat) v,W[i]? =some v->∃n,v=.int .i64 n):iD R W W:=
 ⟨rfl,λi v c a b=>by rw[a]at b;cases b;obtain⟨n,rfl⟩:=h i v a;exact .int _ _⟩
def KJ(h:∀(i:Nat) v,W[i]? =some v->∃n,v=.int .i64 n)(a:iD R W X):X=W:=by refine Array.ext a.size.symm λi c d=>?_;have b:W[i]? =some W[i]:=lA d;have e:X[i]? =some X[i]:=lA c;have:=a.at_ i _ _ b e;obtain⟨n,f⟩:=h i _ b;rw[f]at this⊢;revert this;generalize X[i]=x;intro this;cases this;rfl
def Tj(w:er)(o:eN)(b:Nat):Prop:=o b/\∃l c a,Oh a/\w.heap[b]? =some (.cells (jc l c) 3 a)
def zD(w:er)(A:Nat)(o:eN)(b:Nat):Prop:=b=A\/Tj w o b
theorem fq.slice{w:er}{o:eN}{s:Sp}{y:SV}{a:fj}(h:fq o w s y)(e:∀b,Tj w o b->a.r b b/\a.sh b=none):VR a (.slice y.sa y.sl y.sc) (.slice y.sa y.sl y.sc):=by
 cases s with
 |none=>
  have:y=⟨none,0,0,0,0,false⟩:=h;subst this;exact .iR _ _
 |some s=>
  obtain⟨l,m,k⟩:=s;obtain⟨_,_,_,_,⟨_,c,_⟩|⟨_,d,c,f,_,_,g,i,j⟩⟩:=h;rw[c];exact .iR _ _;rw[f];obtain⟨n,p⟩:=e d ⟨c,l,y.sc,g,i,j⟩;exact .slice _ _ (.of _ _ n p)
def Jf{n:List Sp}{a:List SV}(t:A m)(u:∀b,C b->A b)(J:a.length=n.length)(f:w.heap[m]? =some (.cells W 199))(x:W.size=k*4)(K:a.length=k) (y:∀j (h:j<a.length),W[4*j]? =some (.slice a[j].sa a[j].sl a[j].sc)/\W[4*j+1]? =some (.int .i64 a[j].m)/\W[4*j+2]? =some (.int .i64 a[j].k)/\W[4*j+3]? =some (.bool a[j].b))
 (z:∀j (h:j<a.length) (L:j<n.length),fq C w n[j] a[j]):xJ (ry LF (λ_=>false) (zD w m C)) w w A B:=by
 refine⟨HR.of (λ_=>rfl) λb D o=>?_,λb D o=>?_⟩;obtain⟨rfl,p⟩:=o;obtain rfl|⟨g,l,c,M,E,q⟩:=p;refine⟨_,_,f,f,.cells ⟨rfl,λi v N d r=>?_⟩ λ_ h=>h⟩;rw[d]at r;cases r;have O:i<W.size:=(ik.1 d).1;have s:i/4<a.length:=by omega
 obtain⟨F,G,H,I⟩:=y (i/4) s;have:i=4*(i/4)\/i=4*(i/4)+1\/i=4*(i/4)+2\/i=4*(i/4)+3:=by omega
 obtain e|e|e|e:=this;rw[e,F]at d;cases d;exact(z _ s (by omega)).slice λb g=>⟨⟨rfl,.inr g⟩,rfl⟩;rw[e,G]at d;cases d;exact .int _ _;rw[e,H]at d;cases d;exact .int _ _;rw[e,I]at d;cases d;exact .bool _;exact⟨_,_,q,q,.cells (Pk λi v h=>uX h) λ_ h=>h⟩;obtain⟨rfl,p⟩:=o;obtain rfl|⟨g,_⟩:=p;exact .inl t;exact .inl (u _ g)
def VR.RF{e:fj}(n:fj.Le R e){y:SV}(p:VR R (.slice y.sa y.sl y.sc) (.slice y.sa y.sl y.sc))(h:VR e y.val x):x=y.val:=by
 unfold SV.val at h;cases h with
 | @agg _ d o q=>
  have r:iD e #[.slice y.sa y.sl y.sc,i64 y.m,i64 y.k,.bool y.b] d:=⟨o,q⟩;have s:d.size=4:=o.symm
  have f:∀i (j:i<4),VR e (#[Value.slice y.sa y.sl y.sc,i64 y.m,i64 y.k,.bool y.b][i]'(by simpa using j)) (d[i]'(by omega)):=λi j=>
   r.at_ i _ _ (lA (by simpa using j)) (lA (by omega))
  have t:d[0]'(by omega)=.slice y.sa y.sl y.sc:=by
   have h:=f 0 (by omega);simp only[List.getElem_toArray,oy]at h;have g:=p.mono n;revert h g;generalize d[0]=z;generalize y.sa=a;intro h g;cases a with
   |none=>cases h;rfl
   |some a=>
    cases h with
    | @slice a C l c h=>
     cases g with
     |slice l c u=>
      rw[u.eq h rfl]
  have v:d[1]'(by omega)=i64 y.m:=by have h:=f 1 (by omega);simp only[List.getElem_toArray,Fh,oy]at h;revert h;generalize d[1]=z;intro h;cases h;rfl
  have w:d[2]'(by omega)=i64 y.k:=by have h:=f 2 (by omega);simp only[List.getElem_toArray,Fh,oy]at h;revert h;generalize d[2]=z;intro h;cases h;rfl
  have A:d[3]'(by omega)=.bool y.b:=by have h:=f 3 (by omega);simp only[List.getElem_toArray,Fh,oy]at h;revert h;generalize d[3]=z;intro h;cases h;rfl
  have:d=#[.slice y.sa y.sl y.sc,i64 y.m,i64 y.k,.bool y.b]:=by
   refine Array.ext (by simp[s]) λi j B=>?_;have:i=0\/i=1\/i=2\/i=3:=by omega
   obtain rfl|rfl|rfl|rfl:=this;exact t;exact v;exact w;exact A
  rw[this];rfl
def Jg(w:er)(A:Nat)(o:eN)(y:SV)(x:eu)(a:er):Prop:=x=y.val/\∀b,zD w A o b->a.heap[b]? =w.heap[b]?
def Pm{Wg A n:Nat}{own rd o:eN}{cs:fZ}{B:List Sp}{a:List SV}{pl:Addr}{caller:Frame}{cl:List Frame}(hA:own A)(ho:∀b,o b->own b)(hl:a.length=B.length) (u:w.heap[A]? =some (.cells cs 199))(O:cs.size=n*4)(hn:a.length=n)(C:n<=65536) (hc:∀j (h:j<a.length),cs[4*j]? =some (.slice a[j].sa a[j].sl a[j].sc)/\cs[4*j+1]? =some (.int .i64 a[j].m)/\cs[4*j+2]? =some (.int .i64 a[j].k)/\cs[4*j+3]? =some (.bool a[j].b)) (ha:∀j (h:j<a.length) (h':j<B.length),fq o w B[j] a[j]):
 Wy PR 241 Wg true rd (λP g D=>g=G (caller.finish (fg a).val) cl/\(∀b,own b->P b)/\fq (λb=>o b/\P b) D (qO B) (fg a)) own
  (G (Frame.enter PR 193 #[.slice (some ⟨A,0,none⟩) n n,.func (.func 194) #[.pointer (some pl)] #[]] .normal) (caller::cl)) w:=by
 have hG:Go.eV.Good lS (ry LF (λ_=>false) (zD w A o)):=CI Wj (by decide);have d:xJ (ry LF (λ_=>false) (zD w A o)) w w own rd:=Jf hA ho hl u O hn hc ha;have f:=F7 a B hl ha;have E:iD (ry LF (λ_=>false) (zD w A o)) #[.tuple #[]] #[.pointer (some pl)]:=iD.one (.DI rfl pl);have F:iD (ry LF (λ_=>false) (zD w A o)) #[] #[]:=iD.nil
 have H:iD (ry LF (λ_=>false) (zD w A o)) #[fP A n n,.func (.func 194) #[.tuple #[]] #[]] #[fP A n n,.func (.func 194) #[.pointer (some pl)] #[]]:=
  iD.Nz (.slice _ _ (.mk _ _ ⟨rfl,.inl rfl⟩)) (.func rfl E.size E.at_ F.size F.at_)
 have hS:(ry LF (λ_=>false) (zD w A o)).S 193=true:=by show LF.contains 193=true;decide
 have t:Go.eV.Reach lS (Go.eV.Left lS 193 (Jg w A o (fg a))) ⟨Frame.enter lS 193 #[fP A n n,.func (.func 194) #[.tuple #[]] #[]] .normal,[floor],w⟩:=by
  refine tD (λx D T h=>h) (tI hG (λ_=>rfl) hS H d) λT hT=>?_;have I:A<w.mN:=lt_of_heap u;subst hn;refine(LJ (.tuple #[]) A a (eU w T) C I λj hj=>?_).mono ?_;obtain⟨c0,c1,c2,c3⟩:=hc j hj;have e:∀k v,cs[k]? =some v->(eU w T).cell? (eQ A k)=some v:=λk v h=>by show(match w.heap[A]? with|some (.cells cs _ _)=>_|_=>_)=_;rw[u];exact h
  rw[show j*4=4*j by omega];exact⟨e _ _ c0,e _ _ c1,e _ _ c2,e _ _ c3⟩;rintro e D ⟨rfl,Q⟩;refine⟨_,rfl,rfl,λb N=>Q.block b ?_⟩;show b<w.mN;obtain rfl|⟨_,_,_,_,_,hw⟩:=N;exact I;exact lt_of_heap hw
 have c:=J7 (U:=λ_=>True) (λ_ _ _ _ _ _=>trivial) (ty:=241) (Wg:=Wg) (main:=true) (caller:=caller) (cs:=cl) (own:=own) (rd:=rd) hG (λ_=>rfl) hS V.func193 (R:=Jg w A o (fg a)) (λx D T h=>h) H t d;have c:Wy PR 241 Wg true rd (Out (λ_=>True) (Jg w A o (fg a)) rd (ry LF (λ_=>false) (zD w A o)) caller cl) own (G (Frame.enter PR 193 #[fP A n n,.func (.func 194) #[.pointer (some pl)] #[]] .normal) (caller::cl)) w:=by have e:V.prog.ki (ry LF (λ_=>false) (zD w A o)).fs=PR:=Rb;rw[e]at c;exact c
 refine(Wy.SS c).bind λP g D h=>qx λw1 hr=>?_;obtain⟨⟨ρ,x,x',v,rfl,⟨hx,p⟩,hv,z,W,_⟩,J⟩:=h;subst hx;have X:VR (ry LF (λ_=>false) (zD w A o)) (.slice (fg a).sa (fg a).sl (fg a).sc) (.slice (fg a).sa (fg a).sl (fg a).sc):=f.slice λb Q=>⟨⟨rfl,.inr Q⟩,rfl⟩;obtain rfl:=VR.RF z X hv;refine⟨rfl,J,?_⟩;have K:=W.rely hr;revert f;generalize fg a=y at p⊢;generalize qO B=s;intro f;cases s with
 |none=>exact f
 |some s=>
  obtain⟨l,m,k⟩:=s;obtain⟨q1,q2,q3,q4,Y|⟨Y,q,Z,q7,q8,aa,fz,q9,L⟩⟩:=f;exact⟨q1,q2,q3,q4,.inl Y⟩;have N:zD w A o q:=.inr ⟨Z,l,y.sc,fz,q9,L⟩;obtain⟨ob,ac,k1,k2,k3⟩:=K.heap.obj q q (z.r _ _ ⟨rfl,N⟩);replace k3:=k3.obj (by rw[<-z.g];rfl);rw[p q N,L]at k1;cases k1;cases k3 with
  | @cells _ ad _ _ ab kv kf=>
   have:=KJ (λi v h=>uX h) kv;subst this;exact⟨q1,q2,q3,q4,.inr ⟨Y,q,⟨Z,J _ (ho _ Z)⟩,q7,q8,aa,ab,λM h=>q9 M (kf M h),k2⟩⟩
structure KL(pc rc A pb:Nat)(o own:Nat->Prop)(ss:List Sp)(ys:List SV)(cs:Array eu)(w:er):Prop where
 p:w.cell? ⟨pc,0,none⟩=some (.pointer (some ⟨pb,0,none⟩))
 r:w.heap[rc]? =some (gx (fg []))
 a:w.heap[A]? =some (.cells cs 199)
 s:∀j (h:j<ys.length) (h':j<ss.length),fq o w ss[j] ys[j]
def fq.rely{own rd o:eN}{L:fa}{s:Sp}{y:SV}(p:gd own rd L w t)(q:∀b,o b->own b)(h:fq o w s y):fq o t s y:=by
 cases s with
 |none=>exact h
 |some s=>
  obtain⟨l,m,k⟩:=s;obtain⟨f,g,i,j,a|⟨a,c,n,r,u,d,v,x,e⟩⟩:=h;exact⟨f,g,i,j,.inl a⟩;exact⟨f,g,i,j,.inr ⟨a,c,n,r,u,d,v,x,p.obj (.inl (q _ n)) e⟩⟩
def fq.mono{s:Sp}{y:SV}(n:∀b,A b->B b)(h:fq A w s y):fq B w s y:=by
 cases s with
 |none=>exact h
 |some s=>
  obtain⟨l,m,k⟩:=s;obtain⟨f,g,i,j,a|⟨a,c,o,p,q,d,r,t,e⟩⟩:=h;exact⟨f,g,i,j,.inl a⟩;exact⟨f,g,i,j,.inr ⟨a,c,n _ o,p,q,d,r,t,e⟩⟩
def fq.same{s:Sp}{y:SV}(o:∀b,A b->t.heap[b]? =w.heap[b]?)(h:fq A w s y):fq A t s y:=by
 cases s with
 |none=>exact h
 |some s=>
  obtain⟨l,m,k⟩:=s;obtain⟨f,g,i,j,a|⟨a,c,n,p,q,d,r,u,e⟩⟩:=h;exact⟨f,g,i,j,.inl a⟩;exact⟨f,g,i,j,.inr ⟨a,c,n,p,q,d,r,u,(o _ n).trans e⟩⟩
theorem KL.rely{f g A pb:Nat}{o own rd:eN}{L:fa}{ss:List Sp}{ys:List SV}{cs:fZ}(d:rd f)(e:own g)(i:own A)(k:∀b,o b->own b):qi own rd L (KL f g A pb o own ss ys cs):=λ_ _ c h=>
 ⟨c.cell (.inr d) h.p,c.obj (.inl e) h.r,c.obj (.inl i) h.a,λj d l=>(h.s j d l).rely c k⟩
def Wk(o:eN)(e:List Sp)(d:List SV)(a:Frame)(f:List Frame):jV:=λc g w=>g=G (a.finish (fg d).val) f/\fq (λb=>o b/\c b) w (qO e) (fg d)
def Wy.Wl{rd X:eN}{S:jV}(h:Wy P T m D (λb=>rd b\/X b) S A Z w):
 Wy P T m D rd (λo Z j=>∃q,S q Z j/\∀b,o b↔q b\/X b) (λb=>A b\/X b) Z w:=by
 obtain⟨B,h⟩:=h
 have g:∀{A:eN} {w i:er},gd (λb=>A b\/X b) rd (Lv T m) w i->gd A (λb=>rd b\/X b) (Lv T m) w i:=λc=>
  ⟨c.tape,c.os,c.output,c.size,λb k u=>c.heap b k (u.elim (λh=>.inl (.inl h)) λh=>h.elim .inr λh=>.inl (.inr h)),c.live⟩
 induction h with
 | @here _ A _ _ h=>exact qx λi c=>⟨A,h i (g c),λb=>nR⟩
 | @step _ A _ _ v x C y=>
  refine nH v λi c=>?_;obtain⟨s,j,t,f,e,d⟩:=x i (g c);refine⟨s,j,t,λb=>f b\/X b,e,⟨d.tape,d.os,d.output,d.size,λb=>?_,λb k l=>d.same b k λh=>l (.inl h),λe z=>?_⟩,y i s j t f (g c) e d⟩;constructor;rintro(h|h);exact((d.owns b).1 h).imp .inl id;exact .inl (.inr h);rintro((h|h)|h);exact .inl ((d.owns b).2 (.inl h));exact .inr h;exact .inl ((d.owns b).2 (.inr h));obtain⟨a,n,rfl,h⟩|⟨r,n,rfl,h⟩|rfl:=d.evs e z;refine .inl ⟨a,n,rfl,?_⟩;obtain h|⟨h,p|p⟩|h:=h;exact .inl (.inl h);exact .inr (.inl ⟨h,p⟩);exact .inl (.inr p);exact .inr (.inr h);exact .inr (.inl ⟨r,n,rfl,h.imp .inl id⟩);exact .inr (.inr rfl)
def Mq{e:tO}{m:LK}{Z d oc Wg Ch n pb A:Nat}{rd own o:eN}{ss:List Sp}{ys:List SV}{cs:fZ}{caller:Frame}{cl:List Frame}(K:e.x2=.pointer (some ⟨d,0,none⟩))(h1:rd Z)(M:own d)(hA:own A)(ho:∀b,o b->own b)(F:¬o d)(N:A≠d) (hl:ys.length=ss.length)(aa:cs.size=n*4)(hn:ys.length=n)(O:n<=65536) (I:∀j (h:j<ys.length),cs[4*j]? =some (.slice ys[j].sa ys[j].sl ys[j].sc)/\cs[4*j+1]? =some (.int .i64 ys[j].m)/\cs[4*j+2]? =some (.int .i64 ys[j].k)/\cs[4*j+3]? =some (.bool ys[j].b)) (x7 ab ac ad ae af ag ah ai:eu):WK PR 241 Wg true rd (Wk o ss ys caller cl) own (KL Z d A pb o own ss ys cs) (Kb e m Z oc Wg Ch n A x7 ab ac ad ae af ag ah ai (caller::cl)):=by
 have i:=KL.rely (pb:=pb) (ss:=ss) (ys:=ys) (cs:=cs) (L:=Lv 241 Wg) h1 M hA ho;simp only[Kb,n6,CJ,Av];refine WK.val (v:=?_) i rfl rfl (by k_ne) (λw=>?_) (λw=>?_) ?_;rotate_left;go_simp;rfl;go_simp;walk_nrm;refine WK.ctl i rfl (λ_=>eI)<|WK.ctl i rfl (λ_=>eM)<|WK.ctl i rfl (λ_=>stepG_cond (t:=false) rfl) ?_;simp only[jE,gy];refine WK.ctl i rfl (λ_=>stepG_exit rfl)<|WK.ctl i rfl (λ_=>eM)<|WK.ctl i rfl (λ_=>jp) ?_;simp only[CC,jw,gf,il,Nat.reduceAdd,eJ,List.range,List.range.loop];refine WK.val (v:=?_) i rfl rfl (by k_ne) (λw=>?_) (λw=>?_) ?_;rotate_left;go_simp;rfl;go_simp;walk_nrm;refine WK.load (v:=fp pb) i rfl rfl (by k_ne) (λw q=>?_) (λw q e z=>?_) ?_;have I:=(λw q=>q.p) w q;go_simp;have I:=(λw q=>q.p) w q;simp[go_sem,I]at z;exact .inl ⟨_,_,z,.inr (.inl ⟨rfl,h1⟩)⟩;walk_nrm;refine WK.val (v:=?_) i rfl rfl (by k_ne) (λw=>?_) (λw=>?_) ?_;rotate_left;go_simp;rfl;go_simp;walk_nrm;refine WK.enter (f:=193) (fn:=Tryz.f193) i rfl rfl (by k_ne) rfl Tryz.func193 rfl rfl ?_;simp only[List.map_toArray,lK,rf];intro w q;have P:own=λb=>(own b/\b≠d)\/b=d:=funext λb=>propext ⟨λh=>(Classical.em (b=d)).elim .inr λh'=>.inl ⟨h,h'⟩,λh=>h.elim (·.1) λe=>e▸M⟩
 have H:∀T,Wy PR 241 Wg true rd (λU g V=>∃J:eN,((g=G (T.finish (fg ys).val) (caller::cl)/\(∀b,(own b/\b≠d)->J b)/\fq (λb=>o b/\J b) V (qO ss) (fg ys))/\∀b,b=d->V.heap[b]? =w.heap[b]?)/\∀b,U b↔J b\/b=d) own
  (G (Frame.enter PR 193 #[fP A n n,.func (.func 194) #[fp pb] #[]] .normal) (T::caller::cl)) w:=λT=>by
  have:=Wy.Wl (X:=λb=>b=d) (rd:=rd) (Wy.keep (B:=λb=>b=d) (λb C=>by subst C;exact⟨.inr rfl,λh=>h.2 rfl,lt_of_heap q.r⟩) (Pm (rd:=λb=>rd b\/b=d) (own:=λb=>own b/\b≠d) (Wg:=Wg) (A:=A) (n:=n) (pl:=(eQ pb 0)) ⟨hA,N⟩ (λb C=>⟨ho b C,λe=>F (e▸C)⟩) hl q.a aa hn O I q.s (cl:=caller::cl) (caller:=T)));exact(λ(X:eN) (e:X=λb=>(own b/\b≠d)\/b=d)=>by rw[e];exact this:∀X:eN,(X=λb=>(own b/\b≠d)\/b=d)->Wy PR 241 Wg true rd _ X _ w) own P
 refine(H _).bind ?_;rintro U g w1 ⟨J,⟨⟨rfl,ak,E⟩,Q⟩,y⟩;rw[Frame.finish_at];have aj:w1.heap[d]? =some (gx (fg [])):=(Q d rfl).trans q.r
 have u:∀s,qi U rd (Lv 241 Wg) λw=>w.heap[d]? =some (gx s)/\fq (λb=>o b/\J b) w (qO ss) (fg ys):=λs w w1 Y h=>
  ⟨Y.obj (.inl ((y d).2 (.inr rfl))) h.1,h.2.rely Y λb C=>(y b).2 (.inl C.2)⟩
 refine WK.write (bl:=d) (W:=λw V=>V.heap[d]? =some (gx (fg ys))) (u (fg [])) rfl rfl (by k_ne) ((y d).2 (.inr rfl)) (λw q=>?_) (λw q e z=>?_) ?_ w1 ⟨aj,E⟩;obtain⟨c0,c1,c2,c3,f0,f1,f2,f3⟩:=gl q.1;have hp:=nk (s:=fg ys) q.1;refine⟨ly w d (fg ys),?_,rfl,rfl,rfl,rV _ _ _,λc I=>rr _ _ _ I,hp⟩;simp only[SV.val,ly];go_simp;obtain⟨c0,c1,c2,c3,f0,f1,f2,f3⟩:=gl q.1;simp only[SV.val]at z;have D:∀(w:er) (D:Array Event) (a:Addr) (m:Mode) (x:fR) (l c:Nat),(store a (.slice x l c) m).events PR w D=storedEv PR w D a (.slice x l c) m:=λw D a m x l c=>events_store PR w D a _ m rfl;have eb:∀(w:er) (D:Array Event) (a:Addr) (m:Mode) (x:Bool),(store a (.bool x) m).events PR w D=storedEv PR w D a (.bool x) m:=λw D a m x=>events_store PR w D a _ m rfl;simp[go_sem,D,eb,K,c0,c1,c2,c3,f0,f1,f2,f3]at z;have R:U d:=(y d).2 (.inr rfl);obtain z|z|z|z:=z<;>exact .inl ⟨_,_,z,.inl R⟩;refine WK.mono (K':=λw=>w.heap[d]? =some (gx (fg ys))/\fq (λb=>o b/\J b) w (qO ss) (fg ys)) ?_ ?_;rotate_left;rintro w ⟨w2,w3,q,hW,hs,S,Y⟩;refine u _ _ _ Y ⟨hW,q.2.same λb C=>S b λe=>F (e▸C.1)⟩;walk_nrm;refine WK.ctl (u _) rfl (λ_=>eI)<|Og (u _) (λw h=>h.1) ((y d).2 (.inr rfl)) (by simp[K]) rfl ?_;refine WK.stop (u _) λw h=>⟨rfl,h.2.mono λb C=>⟨C.1,(y b).2 (.inl C.2)⟩⟩
def RG(e:tO)(b c d f h n:Nat)(i:eN)(Q:fa)(j:Nat->(eN)->er->eu->Prop)(k:List Frame):jV:=λa g w=>∃m A,U2 e m b c d f A h n i Q j k a g w
def Jh{e:tO}{H:Nat->(eN)->er->eu->Prop}{I:List Frame}(R:p<=65536)(M:A k)(J:A i)(N:tP A S)(T:Ax H) (O f l n q r t u y z B C D E F:eu):
 WK PR 241 j true A (qv PR 241 j o p A (FZ H) (RG e k i j o s p A S H I) tQ p (λ_=>false)) (λx=>eS x\/x=d) (KA k i j o d s A S (·=madeCells oL.cells (p*4)))
  (G (nc.at (Av e k i j p O (.slice (some ⟨d,0,none⟩) p p) undef f l n q r t u y z B C D E F (.slice (some ⟨d,0,none⟩) p p) undef undef undef undef undef undef undef undef undef undef) [.code (pN.seq nI)]) I):=by
 have a:qi (λx=>eS x\/x=d) A (Lv 241 j) (KA k i j o d s A S (·=madeCells oL.cells (p*4))):=KA.rely M J (.inr rfl) N;refine WK.ctl a rfl (λ_=>eM) ?_;unfold pN;refine WK.ctl a rfl (λ_=>eM)<|WK.ctl a rfl (λ_=>jp) ?_;simp only[xN,Av,jw,gf,il,Nat.reduceAdd,eJ,List.range,List.range.loop];refine WK.load (v:=.chan (some o)) a rfl rfl (by k_ne) (λw b=>?_) (λw b e P=>?_) ?_;have Q:=(λw b=>b.s.k.o) w b;go_simp;have Q:=(λw b=>b.s.k.o) w b;simp[go_sem,Q]at P;exact .inl ⟨_,_,P,.inr (.inl ⟨rfl,J⟩)⟩;walk_nrm;refine WK.ctl a rfl (λ_=>eI)<|WK.ctl a rfl (λ_=>tw)<|WK.ctl a rfl (λ_=>stepG_loop)<|WK.mono (K':=KR k i j o d s p A S H (λx=>eS x\/x=d) (λ_=>false)) ?_ ?_
 exact hears (e:=e) (m:=⟨O,f,l,n,q,r,t,u,y,z,B,C,D,E,F,fP d p p⟩) (λU g w h=>⟨_,d,h⟩) R M J N T p (λ_=>false) _ jg jg jg jg jg jg jg jg jg jg (by
  have:tR (λ_=>false) p=0:=by
   have:∀c,tR (λ_=>false) c=0:=λc=>by
    induction c with
    |zero=>rfl
    |succ c V=>
     have:tR (λ_=>false) (c+1)=tR (λ_=>false) c+0:=rfl;rw[this,V]
   exact this p
  omega)
 rintro w ⟨W,⟨I,X,rfl⟩,K,L⟩;exact⟨W,⟨_,X,size_madeCells _ _,λY _ h=>by cases h⟩,.inr rfl,K,L⟩
def EF{e:tO}{m o c Ch n p L C O:Nat}{Q:fa}{rd:eN}{Pv:Nat->(eN)->er->eu->Prop}{cs:List Frame}(y:n<=65536)(t:rd m)(u:rd o)(q:¬rd c)(v:tP rd Q)(P:Ax Pv)(R:0<L) (S:∀w,Q w->Oa p h L C a n O w)(B:rd p)(D:rd h.block)
 (d:∀i E w,i<n->KW m E o c Ch ⟨p,0,none⟩ i (λw=>Q w/\∀b,rd b->b<w.heap.size) w->Wy PR 241 c false (λb=>rd b\/b=E) (Sends PR 241 c Ch (FZ Pv) i) eS (born PR (call188 m E o c)) w):
 WK PR 241 c true rd (Sr c Ch n rd (FZ Pv) (RG e m o c Ch p n rd Q Pv cs) n) eS (KS m o c Ch ⟨p,0,none⟩ rd Q) (G (nc.at (o8 e m o c n 0 undef undef undef undef undef undef) [.code iU,.inLoop iU,.inBlock 0,.code kO]) cs):=by
 have T:=TT (e:=e) (cs:=cs) (pl:=(eQ p 0)) (Q:=Q) (val:=FZ Pv) (End:=RG e m o c Ch p n rd Q Pv cs) (Nat.lt_of_le_of_lt y (by decide)) t u q v d (λx f g j k l=>
  FW (z:=tQ) t u q v (λx r f g j k l s=>IG y t u v R S B D x r f g j k l s λA F H I J K M N=>Jh y t u v P x r f g j k l s F H I J K M N) x f g j k l) n (eF _) jg jg jg jg jg jg
 rwa[mj]at T
def Bi(a:er)(B:eN)(w:er):Prop:=∀b,B b->w.heap[b]? =a.heap[b]?
def Pn(h:∀b,B b->A b):tP A (Bi w B):=λ_ _ c d b a=>(c b (h b a)).trans (d b a)
def yi{w0:er}{B rd:eN}(h:∀b,B b->rd b)(c:∀b,B b->b<w0.heap.size):zr rd (Bi w0 B):=λw i _ g e b a=>by have d:=c b a;have f:=e b a;rw[lA d]at f;exact(g b (lt_of_heap f) (h b a)).trans (e b a)
def F5.same{f:fR}(b:B m)(c:B h.block)(d:F5 m a k i h j o f p s t)(w:er)(e:Bi t B w):F5 m a k i h j o f p s w:=
 ⟨(jF (e m b)).trans d.f1,(jF (e m b)).trans d.ls.f2,(jF (e _ c)).trans d.ls.l0⟩
def Mr(a:Nat->Sp)(j:Nat)(b:eN)(w:er)(v:eu):Prop:=∃y:SV,v=y.val/\fq b w (a j) y
def Po(a:Nat->Sp):Ax (Mr a):=λ_ _ _ _ _ b ⟨y,c,d⟩=>⟨y,c,d.same b⟩
def Ul(b:Nat->Sp)(j:Nat)(o:eN)(w:er)(v:eu):Prop:=∃a:eN,(∀x,a x->o x/\x<w.heap.size)/\Mr b j a w v
theorem KM{a:Type}(P:Nat->a->Prop):∀n,(∀j,j<n->∃y,P j y)->∃l:List a,l.length=n/\∀j (h:j<l.length),P j l[j]
 |0,_=>⟨[],rfl,λj h=>by cases h⟩
 |n+1,h=>by
  obtain⟨l,b,d⟩:=KM P n λj c=>h j (by omega);obtain⟨y,e⟩:=h n (by omega);refine⟨l++[y],by simp[b],λj c=>?_⟩;rw[List.getElem_append];split;exact d j _;have:j=n:=by simp at c;omega
  subst this;simpa[b]using e
def Ji(c:er)(B:eN)(d n:Nat)(e:Nat->Sp):Prop:=∀(a:eN) (f i:Nat),i<n->(∀b,B b->a b)->SQ a f ⟨d,0,none⟩ i (Bi c B) (Ul e i)
def Ms{X B:eN}{gs:Array eA}{sl:Option (Nat×Nat)}{t:Trace}{q:Nat->Nat}{pb on oc1 L C n c0:Nat}{oa a0:fR}{la:Addr}{M:Nat->Sp}{caller:Frame}{cl:List Frame} (O:∀b,B b->b<w.heap.size/\¬X b)(aA:0<on)(hL:0<L)(aa:F5 pb oa on oc1 la L C a0 n c0 w)(P:B pb)(R:B la.block)(hn:n<=65536)(W:Ji w B pb n M) (f:F0 PR X gs (G (Frame.enter PR 163 #[.pointer (some ⟨pb,0,none⟩)] .normal) (caller::cl)) w t q):∃(N:Nat) (ab:Array eA) (H:er) (aB:Option (Nat×Nat)) (t':Trace) (q':Nat->Nat) (X' o:eN) (y:SV),runNT PR N (crowd gs w sl) t=(.next (crowd ab H aB),t')/\F0 PR X' ab (G (caller.finish y.val) cl) H t' q'/\(H.tape=w.tape/\H.os=w.os/\H.output=w.output)/\w.heap.size<=H.heap.size/\(∀b,b<w.heap.size->H.heap[b]? =w.heap[b]?)/\fq o H (qO ((List.range n).map M)) y/\(∀b,o b->w.heap.size<=b/\b<H.heap.size/\¬X' b)/\∀b,X' b->X b\/w.heap.size<=b:=by
 have ac:∀(Wg:Nat) (w:er) (d:Nat),Lv 241 Wg w->Lv 241 Wg (w.at d):=λ_ _ _ h=>h;have ad:zr B (Bi w B):=yi (λ_ h=>h) λb f=>(O b f).1;obtain⟨τ,h1⟩:=Of (cs:=caller::cl) ad aA hL (λU hq=>aa.same P R U hq) P R (λb f=>(O b f).1) w ⟨(λx I=>by cases I),List.Pairwise.nil,(λx I=>by cases I),eF _,λ_ _=>rfl⟩;obtain⟨N1,aT,U,aD,t1,q1,aR,a1,r1,b1,⟨e,J,rc,oc,Wg,Ch,c,rfl,aE,F,aS⟩,u,aU⟩:=vO (ac 0) (λo g w h=>by obtain⟨_,_,_,_,_,_,_,rfl,_⟩:=h;rfl) h1 gs sl t q f λb f=>by obtain f|f:=f;exact f.elim;exact⟨(O b f).2,(O b f).1⟩
 have aW:=F.at_ (Wg,wgBlock 241 0 0) (by simp);have ao:=F.at_ (oc,Obj.cells #[.chan (some Ch)] 232) (by simp);have aC:=F.at_ (Ch,Obj.chan 0 #[] false c c false) (by simp);have ar:=F.at_ (rc,Obj.cells #[ig,i64 0,i64 0,.bool false] 199) (by simp);have ap:=F.at_ (J,Obj.cells #[fp pb] 200) (by simp);have lW:=F.lo (Wg,wgBlock 241 0 0) (by simp);have lo:=F.lo (oc,Obj.cells #[.chan (some Ch)] 232) (by simp);have lC:=F.lo (Ch,Obj.chan 0 #[] false c c false) (by simp);have lr:=F.lo (rc,Obj.cells #[ig,i64 0,i64 0,.bool false] 199) (by simp);have lp:=F.lo (J,Obj.cells #[fp pb] 200) (by simp);have V:=F.inc;simp only[lK,rf,List.pairwise_cons,gI,tq,pC,forall_eq_or_imp,forall_eq]at V;obtain⟨⟨i1,i2,i3,i4⟩,⟨i5,i6,i7⟩,⟨i8,i9⟩,aF,_⟩:=V;simp only at aW ao aC ar ap lW lo lC lr lp i1 i2 i3 i4 i5 i6 i7 i8 i9 aF;have r:∀b,X b->b<w.heap.size:=f.low;have ae:w.heap.size<=U.heap.size:=u.size;have aG:¬(B Wg\/Wg=J\/Wg=oc):=by rintro(h|h|h);have:=(O _ h).1;omega;omega;omega
 have aH:=EF (e:=e) (cs:=caller::cl) (Ch:=Ch) (rd:=λb=>B b\/b=J\/b=oc) (Pv:=Mr M) hn (.inr (.inl rfl)) (.inr (.inr rfl)) aG (Pn λ_ h=>.inl h) (Po M) hL (λU hq=>(aa.same P R U hq).ls) (.inl P) (.inl R)
  λi ic H hi hk=>worker (k:=i) (rd:=λb=>(B b\/b=J\/b=oc)\/b=ic) (Q:=Bi w B) (Sc:=Ul M i) (val:=FZ (Mr M)) (.inl (.inr (.inl rfl))) (.inr rfl) (.inl (.inr (.inr rfl)))
   (yi (λ_ h=>.inl (.inl h)) λb f=>(O b f).1) (W _ Wg i hi λ_ h=>.inl (.inl h)) (λo w a l c m n s h=>by obtain⟨oj,h1,h2⟩:=h;exact⟨a,l,c,m,n,s,oj,rfl,h1,h2⟩) H ⟨hk.p,hk.i,hk.o,hk.live,hk.q.1⟩
 have hS:qL PR 241 Wg Ch n (λb=>B b\/b=J\/b=oc) (FZ (Mr M)) (RG e J oc Wg Ch pb n (λb=>B b\/b=J\/b=oc) (Bi w B) (Mr M) (caller::cl)) n eS
  (G (nc.at (o8 e J oc Wg n 0 undef undef undef undef undef undef) [.code iU,.inLoop iU,.inBlock 0,.code kO]) (caller::cl)) U:=by
  rw[CE];refine aH U ⟨⟨by simp[World.cell?,ap],by simp[World.cell?,ao],λb f=>?_,F.q⟩,⟨0,0,aW⟩⟩;obtain f|rfl|rfl:=f;exact fN (O b f).1 ae;exact lt_of_heap ap;exact lt_of_heap ao
 obtain⟨N2,m2,t2,r2,af,w2,aI,a2,q2,z,rfl,aJ,⟨m,A,x7,ag,ah,ai,aj,ak,al,am,an,rfl,Y⟩,aK,aL,S,D,aq,K,au⟩:=phase (sl:=aD) (by omega) b1.at0 b1.leavers b1.past (λb f=>by obtain f|rfl|rfl:=f;have:=(O b f).1;exact⟨by omega,(O b f).2,by omega,by omega⟩;exact⟨lt_of_heap ap,λI=>by have:=r _ I;omega,by omega,by omega⟩;exact⟨lt_of_heap ao,λI=>by have:=r _ I;omega,by omega,by omega⟩) (by omega:Wg≠Ch) (λI=>by have:=r _ I;omega) (λI=>by have:=r _ I;omega) aW aC hS;obtain⟨cs,hA,aM,av⟩:=Y.a
 obtain⟨ys,aw,hP⟩:=KM (λj (y:SV)=>(cs[4*j]? =some (.slice y.sa y.sl y.sc)/\cs[4*j+1]? =some (i64 y.m)/\cs[4*j+2]? =some (i64 y.k)/\cs[4*j+3]? =some (.bool y.b))/\
  fq (λb=>z b/\b≠A) w2 (M j) y) n λj hj=>by
  obtain⟨sa,sl,sc,mm,k,b,oj,g1,g2,g3,g4,g5,y,hy,hs⟩:=av j hj rfl;obtain⟨ya,yl,yc,ym,yk,yb⟩:=y;simp only[pO,SV.val]at hy;injection hy with hy;simp at hy;obtain⟨⟨rfl,rfl,rfl⟩,rfl,rfl,rfl⟩:=hy;exact⟨_,⟨g2,g3,g4,g5⟩,hs.mono λb f=>⟨(g1 b f).1,(g1 b f).2.1⟩⟩
 have aN:rc<U.heap.size:=lt_of_heap ar;have ax:¬z rc:=λh=>by have:=(S _ h).1;omega
 have ay:=Y.oa
 have Z:=Mq (e:=e) (m:=m) (pb:=pb) (Ch:=Ch) (oc:=oc) (rd:=λb=>B b\/b=J\/b=oc) (own:=λb=>z b\/b=rc) (o:=λb=>z b/\b≠A) (ss:=(List.range n).map M) (ys:=ys) (cs:=cs) (caller:=caller) (cl:=cl) (Wg:=Wg) aE (.inr (.inl rfl)) (.inr rfl) (.inl ay)
  (λb f=>.inl f.1) (λh=>ax h.1) (λe=>ax (e▸ay)) (by simp[aw]) aM aw hn (λj hj=>(hP j hj).1) x7 ag ah ai aj ak al am an w2
  ⟨Y.s.k.p,(D rc aN (by omega) (by omega)).trans ar,hA,λj h1 h2=>by simpa using(hP j h1).2⟩
 obtain⟨aV,h3⟩:=Z;have b2:F0 PR (λb=>b=Wg\/b=Ch\/X b) af (Kb e m J oc Wg Ch n A x7 ag ah ai aj ak al am an (caller::cl)) w2 t2 q2:=⟨aJ,rfl,aK,aL,λb f=>by obtain rfl|rfl|f:=f;exact au;have:=lt_of_heap aC;omega;have:=r b f;omega⟩;obtain⟨N3,aO,w3,aP,t3,q3,az,a3,r3,b3,⟨rfl,T⟩,v,aQ⟩:=vO (ac Wg) (λo g w h=>by obtain⟨rfl,_⟩:=h;rfl) h3 af aI t2 q2 b2 λb f=>by obtain(f|rfl)|f|rfl|rfl:=f;have:=S b f;exact⟨by rintro(h|h|h);exact this.2.2.1 h;exact this.2.2.2 h;have:=r b h;omega,this.2.1⟩;exact⟨by rintro(h|h|h);omega;omega;have:=r _ h;omega,by omega⟩;have:=O b f;exact⟨by rintro(h|h|h);omega;omega;exact this.2 h,by omega⟩;have:=lt_of_heap ap;exact⟨by rintro(h|h|h);omega;omega;have:=r _ h;omega,by omega⟩;have:=lt_of_heap ao;exact⟨by rintro(h|h|h);omega;omega;have:=r _ h;omega,by omega⟩
 refine⟨N1+(N2+N3),aO,w3,aP,t3,q3,λb=>b=Wg\/b=Ch\/X b,λb=>(z b/\b≠A)/\az b,fg ys,Go.eV.runNT_add r1 (Go.eV.runNT_add r2 r3),b3,⟨v.tape.trans (K.1.trans u.tape),v.os.trans (K.2.1.trans u.os),v.output.trans (K.2.2.trans u.output)⟩,
  ff ae (ff aq v.size),λb E=>?_,T,λb E=>?_,λb E=>?_⟩
 rw[v.heap b (by omega) (by rintro(h|h);have:=(S b h).1;omega;omega),D b (by omega) (by omega) (by omega),u.heap b E (λh=>h.elim)];have h2:=S b E.1.1;have h3:=aQ b (.inl E.2);exact⟨by omega,h3.2,h3.1⟩;obtain rfl|rfl|h:=E;exact .inr lW;exact .inr lC;exact .inl h
def Pp(w:er):(Instr.build 199 #[(3,.bool true)]).run PR w=.ok (.agg #[.slice none 0 0,.int .i64 0,.int .i64 0,.bool true]) w:=by kernel_rfl
def Mt(w:er):(Instr.build 199 #[(3,.bool true)]).events PR w #[]=#[]:=by kernel_rfl
def Mv{o B m0:Nat}{Q:fa}{rd:eN}{caller:Frame}{cl:List Frame}(A:zr rd Q) (M:∀w,Q w->w.cell? ⟨o,1,none⟩=some (.slice a 0 B))(F:rd o)(H:∀b,rd b->b<m0):
 WK PR 241 0 true rd (λ_ g _=>g=G (caller.finish (SV.mk none 0 0 0 0 true).val) cl) eS (KO [] Q m0) (G (Frame.enter PR 163 #[.pointer (some ⟨o,0,none⟩)] .normal) (caller::cl)):=by
 rw[F6];have N:∀x∈([]:List (Nat×Obj)),eS x.1:=λx p=>by cases p
 have C:=KO.rely (Q:=Q) (m0:=m0) (rd:=rd) (own:=eS) (L:=Lv 241 0) N A;simp only[wL,Rc];refine WK.ctl C rfl (λ_=>eM)<|WK.ctl C rfl (λ_=>jp) ?_;simp only[Aq,jw,gf,il,Nat.reduceAdd,eJ,List.range,List.range.loop];refine WK.IK (f:=λn=>fp n) (ob:=.cells #[fp o] 200) N A rfl rfl (by k_ne) (λw i=>?_) (λw i e j=>?_) λr _ _=>?_
 ·go_simp;first|done|rfl
 simp[go_sem]at j;walk_nrm;have Y:∀x∈[(r,Obj.cells #[fp o] 200)],(λx=>eS x\/x=r) x.1:=λx p=>by rw[gW.1 p];exact .inr rfl
 refine WK.IK (f:=λn=>fp n) (ob:=.cells #[ig,i64 0,i64 0,.bool false] 199) Y A rfl rfl (by k_ne) (λw i=>?_) (λw i e j=>?_) λs _ _=>?_
 ·go_simp;first|done|rfl
 simp[go_sem]at j;walk_nrm;have O:∀x∈[(s,Obj.cells #[ig,i64 0,i64 0,.bool false] 199),(r,Obj.cells #[fp o] 200)],(λx=>(eS x\/x=r)\/x=s) x.1:=λx p=>by obtain rfl|p:=gI.1 p;exact .inr rfl;rw[gW.1 p];exact .inl (.inr rfl)
 have d:=KO.rely (m0:=m0) (L:=Lv 241 0) (own:=λx=>(eS x\/x=r)\/x=s) O A;have D:∀w,KO [(s,Obj.cells #[ig,i64 0,i64 0,.bool false] 199),(r,Obj.cells #[fp o] 200)] Q m0 w->w.cell? (eQ r 0)=some (fp o):=λw i=>by have:=i.at_ (r,Obj.cells #[fp o] 200) (by simp);simp[World.cell?,this]
 refine WK.ctl d rfl (λ_=>eI)<|WK.ctl d rfl (λ_=>eM)<|WK.ctl d rfl (λ_=>eM)<|WK.ctl d rfl (λ_=>jp) ?_;simp only[Ar,jw,gf,il,Nat.reduceAdd,eJ,List.range,List.range.loop];refine WK.load (v:=fp o) d rfl rfl (by k_ne) (λw i=>?_) (λw i e j=>?_) ?_;have k:=(D) w i;go_simp;have k:=(D) w i;simp[go_sem,k]at j;exact .inl ⟨_,_,j,.inl (.inl (.inr rfl))⟩;walk_nrm;refine WK.val (v:=?_) d rfl rfl (by k_ne) (λw=>?_) (λw=>?_) ?_;rotate_left;go_simp;rfl;go_simp;walk_nrm;refine WK.val (v:=?_) d rfl rfl (by k_ne) (λw=>?_) (λw=>?_) ?_;rotate_left;go_simp;rfl;go_simp;walk_nrm;refine WK.load (v:=.slice a 0 B) d rfl rfl (by k_ne) (λw i=>?_) (λw i e j=>?_) ?_;have k:=(λw i=>M w i.q) w i;go_simp;have k:=(λw i=>M w i.q) w i;simp[go_sem,k]at j;exact .inl ⟨_,_,j,.inr (.inl ⟨rfl,F⟩)⟩;walk_nrm;refine WK.val (v:=?_) d rfl rfl (by k_ne) (λw=>?_) (λw=>?_) ?_;rotate_left;go_simp;rfl;go_simp;walk_nrm;refine WK.val (v:=.bool true) d rfl rfl (by k_ne) (λw=>?_) (λw=>?_) ?_;go_simp;simp[go_sem];walk_nrm;refine WK.ctl d rfl (λ_=>eI)<|WK.ctl d rfl (λ_=>stepG_cond (t:=true) rfl) ?_;simp only[fF];refine WK.ctl d rfl (λ_=>eM)<|WK.ctl d rfl (λ_=>jp) ?_;simp only[FQ,jw,gf,il,Nat.reduceAdd,eJ,List.range,List.range.loop];have I:=Pp;have J:=Mt;refine WK.val (v:=.agg #[ig,i64 0,i64 0,.bool true]) d rfl rfl (by k_ne) (λw=>?_) (λw=>?_) ?_
 ·go_simp;first|done|rfl|simp only[I]
 simp[go_sem,J];walk_nrm;refine WK.Oe (pre:=[]) (ob:=gx (fg [])) (ob':=gx (SV.mk none 0 0 0 0 true)) O A (λb E K=>?_) rfl rfl (by k_ne) (λw i=>?_) (λw i e j=>?_) ?_
 ·have:=H b K;obtain(E|E)|E:=E;exact E;all_goals omega
 have k:=i.at_ (s,gx (fg [])) (by simp);obtain⟨P,R,S,T,U,V,W,X⟩:=gl k;refine⟨ly w s ⟨none,0,0,0,0,true⟩,?_,rfl,rfl,rfl,rV _ _ _,λc k=>rr _ _ _ k,nk k⟩;simp only[ly];go_simp;have k:=i.at_ (s,gx (fg [])) (by simp);obtain⟨P,R,S,T,U,V,W,X⟩:=gl k;have u:∀(w:er) (u:Array Event) (z:Addr) (m:Mode) (x:fR) (l c:Nat),(store z (.slice x l c) m).events PR w u=storedEv PR w u z (.slice x l c) m:=λw u z m x l c=>events_store PR w u z _ m rfl;have Z:∀(w:er) (u:Array Event) (z:Addr) (m:Mode) (x:Bool),(store z (.bool x) m).events PR w u=storedEv PR w u z (.bool x) m:=λw u z m x=>events_store PR w u z _ m rfl;simp[go_sem,u,Z,P,R,S,T,U,V,W,X]at j;obtain j|j|j|j:=j<;>exact .inl ⟨_,_,j,.inl (.inr rfl)⟩;walk_nrm;have h3:∀x∈[(s,gx (SV.mk none 0 0 0 0 true)),(r,Obj.cells #[fp o] 200)],(λx=>(eS x\/x=r)\/x=s) x.1:=λx p=>by obtain rfl|p:=gI.1 p;exact .inr rfl;rw[gW.1 p];exact .inl (.inr rfl)
 have y:=KO.rely (m0:=m0) (L:=Lv 241 0) (own:=λx=>(eS x\/x=r)\/x=s) h3 A;exact WK.ctl y rfl (λ_=>eI)<|Og y (λw h=>h.at_ (s,gx (SV.mk none 0 0 0 0 true)) (by simp)) (.inr rfl) (by simp) rfl<|WK.stop y λw h=>rfl
def Jj{l:Array eA}{sl:Option (Nat×Nat)}{t:Trace}{q:Nat->Nat}{caller:Frame}{cl:List Frame} (f:m<w.heap.size/\¬A m)(z:w.cell? ⟨m,1,none⟩=some (.slice a 0 k))(e:F0 PR A l (G (Frame.enter PR 163 #[.pointer (some ⟨m,0,none⟩)] .normal) (caller::cl)) w t q):∃(N:Nat) (j:Array eA) (i:er) (n:Option (Nat×Nat)) (u:Trace) (C:Nat->Nat),runNT PR N (crowd l w sl) t=(.next (crowd j i n),u)/\F0 PR A j (G (caller.finish (SV.mk none 0 0 0 0 true).val) cl) i u C/\(i.tape=w.tape/\i.os=w.os/\i.output=w.output)/\w.heap.size<=i.heap.size/\(∀b,b<w.heap.size->i.heap[b]? =w.heap[b]?):=by
 obtain⟨M,D⟩:=Mv (caller:=caller) (cl:=cl) (yi (B:=λb=>b=m) (rd:=λb=>b=m) (w0:=w) (λ_ h=>h) λb e=>e▸f.1) (λv E=>(jF (E m rfl)).trans z) rfl (λb e=>e▸f.1) w ⟨(λx p=>by cases p),List.Pairwise.nil,(λx p=>by cases p),eF _,λ_ _=>rfl⟩;obtain⟨F,r,v,s,H,I,y,O,J,K,rfl,c,L⟩:=vO (λw d h=>h) (λo g w h=>by rw[h];rfl) D l sl t q e λb e=>by obtain e|rfl:=e;exact e.elim;exact⟨f.2,f.1⟩
 exact⟨F,r,v,s,H,I,J,K,⟨c.tape,c.os,c.output⟩,c.size,λb e=>c.heap b e λh=>h.elim⟩
end Go.Proofs.W
namespace Go.eV
open Go.Conc
section
variable{P:eE}{fs:Array Func}{w0:er}
def Fx.ends{Q:oz}{Post:oz}{c:rO}{s:Array eA}{w:er}{sl:Option (Nat×Nat)}{t:Trace}{q:Nat->Nat} (h:Fx P fs w0 R A c s Z w t q)(hs:Left P K Q c.fr c.cl c.v){r:Func}{j:Tmp}(k:P.funcs[K]? =some r)(u:r.results=#[.tmp j])(z:R.hole K=false)(C:(P.ki fs).inits.idxOf? K=none) (f:∀x S d,Q x c.v->VR R x S->Post S (w.at d)):∃N last o E T,runNT (P.ki fs) (N+1) (crowd s w sl) t=(.ended o E,T)/\runN (P.ki fs) N (crowd s w sl)=.next last/\Go.step (P.ki fs) last=.ended o E/\Go.Conc.Good (P.ki fs) Post last o E T:=by
 obtain⟨h1,F,x,h3,H,h5,h6,ab,U,l⟩:=hs;rw[F,k]at U;obtain rfl:=eP U;have a:fX P R c.fr Z.frame:=by
  have e:=h.gor.fr;generalize a:(G c.fr c.cl).frame=fr at e;generalize V:Z.frame=b at e;cases e with
  |fr k=>subst a;exact k
  | @hole g hS hh xs ac W=>
   have:c.fr=Frame.enter P g xs .normal:=a;rw[this]at H;cases H
 obtain⟨b,ad,ae,af,ag⟩:=Z;obtain⟨I,ah,e1,J,hX⟩:=h.gor.callers;have X:=h.gor.st.2;have Y:=h.gor.dy.2;have e5:=h.gor.of.2;simp only at J X Y e5 a;have p:c.cl=I++[floor]:=e1;rw[h1]at p;have L:I=[]:=by
  cases I with
  |nil=>rfl
  |cons y ys=>simp at p
 subst L;cases hX;simp only[List.append_nil]at J;subst J X Y e5;have m2:b.mode=.returning:=by have i:=a.mode;rw[H]at i;generalize b.mode=m at i⊢;cases i;rfl
 have d2:b.defers=[]:=by have i:=a.defers;rw[h5]at i;generalize b.defers=m at i⊢;cases i;rfl
 have k2:b.kind=.normal:=a.kind▸h6;have f2:b.fn=K:=a.fn▸F;have g2:(P.ki fs).funcs[K]? =some r:=by obtain⟨ai,c2,j1,_,_,j4⟩:=h.good.two.fn K (F▸a.fnS.1);rw[j4 z]at k;rw[<-h.same];show R.fs[K]? =_;rw[j1,k]
 have r2:∀M,results r M=Pure.pure (M.getD j jg):=by intro M;simp[results,u]
 have W:x=c.fr.tmps.getD j jg:=by rw[r2]at l;simp only[Sem.run_pure]at l;injection l with l;exact l.symm
 have O:VR R x (b.tmps.getD j jg):=by rw[W];exact a.tmps.getD .undef j
 refine beside_ends (Shun:=qu A) (B:=w.mN) (D:=λ_ _ _=>False) (n:=0) (λ_ _ _ h=>h.elim) h.at0 h.leavers h.past ?_;rintro aa ⟨d,rfl⟩;refine⟨rfl,b.tmps.getD j jg,#[],?_,by simp,f x _ d h3 O⟩;simp[stepG,unwind,doReturn,m2,d2,k2,f2,g2,r2,C,ml,seen];rfl
end
section
variable{P:eE}{Stop:Frame->List Frame->er->Prop}
def KN(P:eE)(Stop:Frame->List Frame->fa):Prop:=∀b a v,Stop b a v->a≠[]/\∀T c d e,stepG P true (G b a) (eU v T)=.go c d e->c.callers=[]
def Bj{a:Frame}{v f:er}{g:Array Event}(i:a.defers=[])(b:(a.mode=.returning/\a.kind=.normal/\∃d,P.funcs[a.fn]? =some d)\/∃j,a.mode=.panicking j) (h:stepG P true (G a [floor]) v=.go Z f g):Z.callers=[]:=by
 obtain⟨b,l,d,m⟩|⟨j,b⟩:=b;simp only[stepG,unwind,G,b,i,m,doReturn,l]at h;rcases n:(results d a.tmps).runT P v #[]with⟨r,o⟩;rw[n]at h;cases r with
 |ok x w=>
  simp only[GStep.after]at h;injection h with e p q;rw[<-e]
 |halt s w=>
  cases s<;>simp only[GStep.after]at h<;>cases h
 have c:unwind P true a [floor] none v=.go Z f g:=by simp only[stepG,G,b]at h;exact h
 unfold unwind at c;simp only[b,i]at c;by_cases k:a.catches P=true;rw[eC k]at c;cases c;rw[ez k]at c;injection c with e p q;rw[<-e]
def Bl{c a:Frame}{d b:List Frame}{v e:er}(h:lone c d v=lone a b e):c=a/\d=b/\v=e:=by unfold lone at h;injection h with g f;simp only[Cg,sM]at f;have:=f.1;injection this with i j;exact⟨i,j,g⟩
def Jk(v:er):eU v v.tape=v:=rfl
def yT(B:KN P Stop):∀(n:Nat) {c:rO} {T:Ta} {p:Frame} {m:List Frame} {w:er},Inv P c->Below c.v T->runN P (n+1) (lone c.fr c.cl (eU c.v T))=.next (lone p m w)->m≠[]->Path P Stop c ⟨p,m,w⟩/\Inv P ⟨p,m,w⟩:=by
 intro n;induction n with
 |zero=>
  intro c T p m w t u h i;obtain⟨o,C,g,e⟩|⟨x,f,g,e,s⟩|⟨a,b,f,g,e,d⟩:=(t.eU T).step;exfalso;simp only[runN,pG e]at h;cases h;exfalso;obtain⟨a,b,D,E,F⟩:=x;obtain⟨k,l,q,r,y⟩:=s;simp only at q k l r y;subst q k l r;simp only[runN,rP (show stepG P true (G c.fr c.cl) (eU c.v T)=.go (G a []) f g from e)]at h;injection h with h;exact i (Bl h).2.1.symm;simp only[runN,rP (show stepG P true (G c.fr c.cl) (eU c.v T)=.go (G a b) f g from e)]at h;injection h with h;obtain⟨rfl,rfl,rfl⟩:=Bl h;have j:stepG P true (G c.fr c.cl) (eU c.v T)=.go (G a b) f g:=e;exact⟨.one (λz=>i ((B _ _ _ z).2 T _ _ _ j)) u j,d⟩
 |succ n H=>
  intro c T p m w t u h i;obtain⟨o,C,g,e⟩|⟨x,f,g,e,s⟩|⟨a,b,f,g,e,d⟩:=(t.eU T).step;exfalso;have j:stepG P true (G c.fr c.cl) (eU c.v T)=.ended o C g:=e;rw[runN,pG j]at h;cases h;exfalso;have A:=s;obtain⟨a,b,D,E,F⟩:=x;obtain⟨k,l,q,r,y⟩:=s;simp only at q k l r y;subst q k l r;obtain⟨o,L,I,J⟩:=A.ended (P:=P) true f;rw[runN,rP (show stepG P true (G c.fr c.cl) (eU c.v T)=.go (G a []) f g from e)]at h;dsimp only at h;rw[runN,pG (show stepG P true (G a []) f=_ from J)]at h;cases h;have j:stepG P true (G c.fr c.cl) (eU c.v T)=.go (G a b) f g:=e;rw[runN,rP j]at h;dsimp only at h;have K:¬Stop c.fr c.cl c.v:=λz=>d.callers ((B _ _ _ z).2 T _ _ _ j);obtain⟨k,l⟩:=H (c:=⟨a,b,f⟩) (T:=f.tape) d (λ_ _=>rfl) h i;exact⟨.cons K u j k,l⟩
def Path.reach{c d:rO}(h:Path P Stop c d)(f:Reach P Stop c):Reach P Stop d:=by
 induction h with
 |one a b e=>exact f.follow a b e
 |cons a b e _ g=>exact g (f.follow a b e)
def Calm(P:eE)(v:er)(a:Frame):Prop:=(∃e,P.funcs[a.fn]? =some e)/\∀d∈a.defers,∃b,d.target=.collected b/\∀c,v.heap[b]? =some (.deferred (some c))->c=[]
def C1(v d:er):Prop:=∀(b:Nat) (a:fZ) (t:eD) (c:Nat×Nat),v.heap[b]? =some (Obj.cells a t c)->d.heap[b]? =some (Obj.cells a t c)
structure KP(P:eE)(v0:er)(c:rO):Prop where
 mode:∃ch,c.fr.mode=.panicking ch
 calm:Calm P c.v c.fr
 callers:∃X,c.cl=X++[floor]/\∀x∈X,Calm P c.v x
 kept:C1 v0 c.v
 back:C1 c.v v0
 size:c.v.heap.size=v0.heap.size
def run_takeDeferred(b:Nat)(v:er):(∃h w,(Instr.takeDeferred b).run P v=.halt h w)\/∃a,v.heap[b]? =some (.deferred (some a))/\(Instr.takeDeferred b).run P v=.ok a {v with heap:=v.heap.setIfInBounds b (.deferred none)}:=by
 unfold Instr.takeDeferred;simp only[Sem.run_bind];cases d:v.heap[b]? with
 |none=>simp[Sem.run,getObj,d]
 |some o=>
  cases o with
  |deferred c=>cases c with
   |none=>simp[Sem.run,getObj,d,stuck]
   |some a=>exact .inr ⟨a,rfl,by simp[Sem.run,getObj,setObj,d]⟩
  |_=>simp[Sem.run,getObj,d,stuck]
def Frame.EG(a:Frame)(b:List PanicEntry):(a.raise b).defers=a.defers/\(a.raise b).fn=a.fn/\∃c,(a.raise b).mode=.panicking c:=by unfold Frame.raise;split<;>exact⟨rfl,rfl,_,rfl⟩
def KP.stop(hf:KN P Stop){v0:er}:∀{c:rO},Reach P Stop c->KP P v0 c->∃H,Stop H.fr H.cl H.v/\KP P v0 H:=by
 intro c hr;induction hr with
 | @here c h=>exactλg=>⟨c,h,g⟩
 | @next c M N ih=>
  intro g;obtain⟨O,es,e⟩:=M c.v.tape (λ_ _=>rfl);have Q:=N _ _ _ (λ_ _=>rfl) e;have u:=ih _ _ _ (λ_ _=>rfl) e;rw[Jk]at e;obtain⟨R,S⟩:=g.mode;obtain⟨⟨fn,z⟩,A⟩:=g.calm;obtain⟨X,U,p⟩:=g.callers;have B:c.fr.catches P=false:=by unfold Frame.catches;rw[z]
  cases r:c.fr.defers with
  |nil=>
   simp only[stepG,unwind,G,S,r,B,U,jE,gy]at e;cases X with
   |nil=>
    exfalso;simp only[sQ]at e;injection e with C k I;injection C with m n;obtain⟨D,E,V⟩:=O;simp only at k m n;subst k m n;cases Q with
    |here h=>exact(hf _ _ _ h).1 rfl
    |next k1 k2=>
     obtain⟨c2,aa,k⟩:=k1 c.v.tape (λ_ _=>rfl);obtain⟨o,w',ab,I⟩:=(show z9 (G (floor.raise R) [])from⟨rfl,rfl,rfl,rfl,.inr ⟨_,rfl⟩⟩).ended (P:=P) true (eU c.v c.v.tape);have:=I.symm.trans k;cases this
   |cons x X=>
    simp only[qp]at e;injection e with C k I;injection C with m n;obtain⟨D,E,V⟩:=O;simp only at k m n;subst k m n;obtain⟨r1,r2,r3⟩:=Frame.EG x R;refine u ⟨r3,?_,⟨X,rfl,λy hy=>p y (gG _ hy)⟩,g.kept,g.back,g.size⟩;have:=p x (gD ..);exact⟨by rw[r2];exact this.1,by rw[r1];exact this.2⟩
  |cons d W=>
   obtain⟨b,Y,F⟩:=A d (by rw[r];exact gD ..);obtain⟨ac,Z⟩:=d;simp only at Y;subst Y;simp only[stepG,unwind,G,S,r,ml]at e;obtain⟨h,w,i⟩|⟨T,l,i⟩:=run_takeDeferred (P:=P) b c.v;rw[i]at e;simp only[GStep.after]at e;cases e
   ·rw[i]at e;simp only[GStep.after]at e;injection e with C k I;injection C with m n;obtain rfl:=F T l;obtain⟨D,E,V⟩:=O;simp only at k m n;subst k m n;have j:∀x,Calm P c.v x->Calm P {c.v with heap:=c.v.heap.setIfInBounds b (.deferred none)} x:=λx J=>⟨J.1,λd r=>by obtain⟨f,M,N⟩:=J.2 d r;refine⟨f,M,λW h=>?_⟩;by_cases a:b=f;subst a;have q:b<c.v.mN:=lt_of_heap l;simp[q]at h;rw[show({c.v with heap:=c.v.heap.setIfInBounds b (.deferred none)}:er).heap[f]? =(c.v.heap.setIfInBounds b (.deferred none))[f]? from rfl,gm a]at h;exact N W h⟩;refine u ⟨⟨R,by first|exact S|rfl⟩,j _ ⟨⟨fn,z⟩,λd h=>A d (by rw[r];exact gG _ h)⟩,⟨X,U,λx J=>j x (p x J)⟩,λf K t L h=>?_,λf K t L h=>g.back f K t L ?_,by simpa using g.size⟩;rotate_left;have s:(c.v.heap.setIfInBounds b (.deferred none))[f]? =some (.cells K t L):=h;have q:b<c.v.mN:=lt_of_heap l;by_cases a:b=f;subst a;simp[q]at s;rwa[gm a]at s;have s:=g.kept f K t L h;have a:b≠f:=by rintro rfl;rw[l]at s;cases s
    show(c.v.heap.setIfInBounds b (.deferred none))[f]? =_;rw[gm a];exact s
def Pq(n:KN P Stop){fr:Frame}{v:er}(p:Reach P Stop ⟨fr,[floor],v⟩)(q:Inv P ⟨fr,[floor],v⟩)(r:¬Stop fr [floor] v)(s:fr.defers=[]) (t:(fr.mode=.returning/\fr.kind=.normal/\∃u,P.funcs[fr.fn]? =some u)\/∃w,fr.mode=.panicking w):False:=by
 cases p with
 |here h=>exact r h
 |next x y=>
  obtain⟨a,z,e⟩:=x v.tape (λ_ _=>rfl);have i:=y _ _ _ (λ_ _=>rfl) e;have b:stepG P true (G fr [floor]) v=.go (G a.fr a.cl) a.v z:=e;have l:a.cl=[]:=Bj s t b;obtain⟨o,J,c,d⟩|⟨K,A,c,d,B⟩|⟨C,j,A,c,d,f⟩:=q.step;rw[show stepG P true (G fr [floor]) v=_ from d]at b;cases b;rw[show stepG P true (G fr [floor]) v=_ from d]at b;injection b with k D E;cases i with
  |here h=>exact(n _ _ _ h).1 l
  |next F L=>
   obtain⟨M,H,m⟩:=F a.v.tape (λ_ _=>rfl);obtain⟨o,N,I,g⟩:=B.ended (P:=P) true (eU a.v a.v.tape);rw[k]at g;have:=g.symm.trans m;cases this
  rw[show stepG P true (G fr [floor]) v=_ from d]at b;injection b with k D E;injection k with m g;exact f.callers (by show j=[];rw[g];exact l)
def Mw{b c a:Machine}(h:runN P m b=.next c)(e:Go.step P c=.next a):runN P (m+1) b=.next a:=by
 induction m generalizing b with
 |zero=>
  simp only[runN]at h;injection h with h;subst h;simp only[runN,e]
 |succ m f=>
  rw[runN]at h⊢;cases d:Go.step P b with
  |next g=>
   rw[d]at h;exact f h
  |ended o w=>rw[d]at h;cases h
def RH{v:er}(n:Good P R)(p:¬R.Def)(q:∀b l,R.r b l->∃o i,v.heap[b]? =some o/\(∃u:er,u.heap[l]? =some i)/\JU R (R.sh b) o i){x m:Frame}(h:fX P R x m):Calm P v x:=by
 obtain⟨s,c,j,_,_⟩:=n.fit.fn _ h.fnS.1;refine⟨⟨s,j⟩,?_⟩;have a:=h.defers;revert a;generalize x.defers=t;generalize m.defers=w;intro a;induction a with
 |nil=>intro d a;cases a
 |cons y z _ A=>
  intro d a;obtain rfl|a:=gI.1 a;obtain⟨b,g⟩:=z.resolve_left p;refine⟨b,g,λt f=>?_⟩;cases y with
  |collected B=>
   injection g with g;subst g;obtain⟨o,i,j,_,k⟩:=q _ _ B;rw[j]at f;injection f with f;subst f;obtain⟨_,k⟩|⟨_,_,_,_,_,_,_,e,_⟩:=k;cases k;rfl;cases e
  |_=>cases g
  exact A d a
def Pr{v:er}(f:Good P R)(g:¬R.Def)(i:∀b d,R.r b d->∃o e,v.heap[b]? =some o/\(∃u:er,u.heap[d]? =some e)/\JU R (R.sh b) o e){X j:List Frame}(h:jZ P R X j):∀x∈X,Calm P v x:=by
 induction h with
 |nil=>intro x c;cases c
 |cons c _ k=>
  intro x a;obtain rfl|a:=gI.1 a;exact RH f g i c;exact k x a
def Calm.grow{v e:er}{x:Frame}(h:Calm P v x)(g:∀b,b<v.heap.size->e.heap[b]? =v.heap[b]?)(i:∀b c,v.heap.size<=b->e.heap[b]? =some (.deferred (some c))->False):Calm P e x:=
 ⟨h.1,λd j=>by obtain⟨b,k,l⟩:=h.2 d j;refine⟨b,k,λc a=>?_⟩;by_cases f:b<v.mN;exact l c (by rw[<-g b f];exact a);exact(i b c (Nat.le_of_not_lt f) a).elim⟩
end
end Go.eV
namespace Go.Proofs.W
open Go.Conc Go.eV Go.eV.Cr Go.RowKit
def _root_.Go.eV.JU.Jl{m:Option Nat}{a:Nat×Nat}(h:JU R m (.cells W T a) O)(b:T≠vJ):m=none:=by obtain⟨h,_⟩|⟨_,_,_,_,_,_,_,e,_⟩:=h;exact h;injection e with _ e;exact absurd e b
def lL.carry{C:Type}{E D:er->eu->C->Prop}{l:List C} (J:HR R t w)(K:∀b c,R.r b c->B c)(L:T≠vJ) (M:∀F,VR R z F->F=z)(N:∀j f a,E t j a->VR R j f->D w f a) (h:lL A E z T t x l)(G:VR R x y):lL B D z T w y l:=by
 obtain⟨rfl,rfl⟩|⟨b,c,cs,fz,h1,rfl,O,P,Q,S,U⟩:=h;cases G;exact .inl ⟨rfl,rfl⟩;cases G with
 |slice _ _ V=>
  cases V with
  | @mk b W o s H=>
   obtain⟨o,o',g,X,i⟩:=J.obj _ _ H;rw[O]at g;injection g with g;subst g;have I:=i.Jl L;replace i:=i.obj I;rw[I];cases i with
   | @cells _ m _ _ n e hf=>
    refine .inr ⟨W,c,m,n,K _ _ H,rfl,X,e.size▸P,Q,λk Y=>?_,λk Z k2=>?_⟩;obtain⟨j,d,he⟩:=S k Y;obtain⟨p,_⟩|⟨x1,f,q,u,v⟩:=e.get? k;rw[p]at d;cases d;rw[q]at d;injection d with d;subst d;exact⟨f,u,N _ _ _ he v⟩;have d:=U k Z k2;obtain⟨p,_⟩|⟨x1,f,q,u,v⟩:=e.get? k;rw[p]at d;cases d;rw[q]at d;injection d with d;subst d;rw[u,M _ v]
def VR.int_eq{k:IntKind}(h:VR R (.int k I) x):x=.int k I:=by cases h;rfl
def VR.yU(h:VR R (.slice none 0 0) x):x=.slice none 0 0:=by cases h;rfl
theorem C2:∀{l:iA} {a:fD},sU R (l.map (Value.int .i64)) a->a=l.map (Value.int .i64)
 |[],_,h=>by cases h;rfl
 |x::l,_,h=>by
  simp only[lK]at h;cases h with
  |cons h t=>rw[VR.int_eq h,C2 t];rfl
theorem iB.carry{D:fW}(g:HR R t w)(i:∀b c,R.r b c->B c) (h:iB A m D t)(F:R.r m k):iB B k D w:=by
 obtain⟨S,T,U,V,G,H,I,J⟩:=h.at_;obtain⟨o,W,u,K,v⟩:=g.obj _ _ F;rw[H]at u;injection u with u;subst u;replace v:=v.obj (v.Jl (by decide));cases v with
 | @cells _ j _ _ y z X=>
  have l:=z.list;simp only[fC,qp,sQ]at l;cases d:j.toList with
  |nil=>rw[d]at l;cases l
  |cons n Y=>
   rw[d]at l;cases l with
   |cons C L=>
    cases L with
    | @cons _ p _ _ M N=>
     cases N with
     | @cons _ q _ _ O P=>
      have:=C2 P;subst this;refine⟨h.ok,i _ _ F,n,p,q,y,?_,?_,?_,?_⟩;obtain rfl|⟨a,rfl⟩:=G;unfold undef at C;cases C with
      | @tuple _ s Q Z=>
       have:s=#[]:=Array.eq_empty_of_size_eq_zero (by simpa using Q.symm);rw[this];exact .inl rfl
      |DI hd a=>exact .inr ⟨a,rfl⟩
      cases C with
      |ptr ha=>exact .inr ⟨_,rfl⟩
      rw[K];have:j=fC n p q D.counts:=DF (by rw[d];simp[fC]);rw[this];exact I.carry g i (by decide) (λ_ h=>VR.int_eq h) (λx E a (e:x=_) f=>by subst e;exact VR.int_eq f) M;exact J.carry g i (by decide) (λ_ h=>VR.yU h) (λx E a e f=>e.carry g i (by decide) (λ_ h=>VR.yU h) (λx E a e f=>e.carry g i (by decide) (λ_ h=>VR.int_eq h) (λx E a (e:x=_) f=>by subst e;exact VR.int_eq f) f) f) O
theorem lL.cells{f:Type}{N:eN}{E:er->eu->f->Prop}{z:eu}{t:eD}{w e:er}{v:eu}{l:List f}(i:∀b a t d,N b->w.heap[b]? =some (.cells a t d)->e.heap[b]? =some (.cells a t d))(j:∀u x,E w u x->E e u x)(h:lL N E z t w v l):lL N E z t e v l:=by obtain h|⟨b,c,a,d,g,m,n,o,p,q,r⟩:=h;exact .inl h;refine .inr ⟨b,c,a,d,g,m,i _ _ _ _ g n,o,p,λk s=>?_,r⟩;obtain⟨u,y,A⟩:=q k s;exact⟨u,y,j _ _ A⟩
theorem iB.cells{N:eN}{d:Nat}{D:fW}{w e:er}(a:∀b f t c,N b->w.heap[b]? =some (.cells f t c)->e.heap[b]? =some (.cells f t c))(h:iB N d D w):iB N d D e:=by obtain⟨g,i,j,c,k,l,m,n⟩:=h.at_;exact⟨h.ok,h.lt,g,i,j,c,k,a _ _ _ _ h.lt l,m.cells a λ_ _ h=>h,n.cells a λ_ _ h=>h.cells a λ_ _ h=>h.cells a λ_ _ h=>h⟩
def lI:List PanicEntry:=[{v:=.iface 3 (.int .i64 7),recovered:=false}]
noncomputable def jA(a:fZ):Act:=(⟨a++Array.replicate (9-a.size) undef,[]⟩:Act).put (some 9) (.bool true)
noncomputable def pj(a:fZ):fZ:=#[(jA a).eval (.tmp 0),(jA a).eval (.tmp 1),(jA a).eval (.tmp 2),(jA a).eval (.tmp 3),(jA a).eval (.tmp 4),(jA a).eval (.tmp 5),(jA a).eval (.tmp 6),(jA a).eval (.tmp 7),(jA a).eval (.tmp 8),(jA a).eval (.tmp 9)]
def uu(v:eu):fZ:=#[v,undef,undef,undef,undef,undef,undef,undef,undef,undef]
def uw(a:fZ):Obj:=.cells #[.func (.func 227) #[] a] 200
def Tk(v:er):Prop:=∃a n D N,v.heap[n]? =some (uw (uu (.pointer (some ⟨a,0,none⟩))))/\v.heap.size=n+1/\iB N a D v/\∀b,N b->b<n
theorem iB.eU{D:fW}(T:Ta)(h:iB A m D t):iB A m D (Go.eV.eU t T):=iB.same (w:=t) (w':=Go.eV.eU t T) (λ_ _=>rfl) h
theorem Tk.eU(T:Ta)(h:Tk t):Tk (eU t T):=by obtain⟨a,n,D,N,b,c,d,e⟩:=h;exact⟨a,n,D,N,b,c,iB.same (w:=t) (w':=Go.eV.eU t T) (λ_ _=>rfl) d,e⟩
def xh(a:fZ)(i:Nat):(jA a).eval (.tmp i)=((a++Array.replicate (9-a.size) undef).setIfInBounds 9 (.bool true)).getD i undef:=rfl
def KQ(a:fZ)(i:Nat):a.getD i undef=(a[i]?).getD undef:=by simp[z0]
def Jm(k:x≠undef)(h:pj W=uu x):W.size<=9/\0<W.size/\W[0]? =some x/\∀i,1<=i->i<W.size->W[i]? =some undef:=by
 have b:∀(i:Nat),i<10->(jA W).eval (.tmp i)=if i=0 then x else undef:=by
  intro i g;have e:(pj W)[i]? =(uu x)[i]? :=by rw[h]
  have:i=0\/i=1\/i=2\/i=3\/i=4\/i=5\/i=6\/i=7\/i=8\/i=9:=by omega
  obtain rfl|rfl|rfl|rfl|rfl|rfl|rfl|rfl|rfl|rfl:=this<;>(simp only[pj,uu,Cn,Cj,Ck,iz]at e;rw[e];rfl)
 have l:W.size<=9:=by refine Nat.le_of_not_lt λm=>?_;have:=b 9 (by omega);rw[xh,KQ,mG (by simp;omega)]at this;simp[undef]at this
 have n:(W++Array.replicate (9-W.size) undef).size=9:=by simp;omega
 have c:∀(i:Nat),i<9->(jA W).eval (.tmp i)=((W++Array.replicate (9-W.size) undef)[i]?).getD undef:=λi g=>by rw[xh,KQ,gm (show 9≠i by omega)]
 have d:∀(i:Nat),i<W.size->(jA W).eval (.tmp i)=(W[i]?).getD undef:=λi g=>by rw[c i (by omega),wA g]
 have a:0<W.size:=by refine Nat.pos_of_ne_zero λo=>k ?_;have f:=b 0 (by omega);rw[c 0 (by omega),zn (show W.size<=0 by omega)]at f;simp[o]at f;exact f.symm
 refine⟨l,a,?_,λi f j=>?_⟩;have e:=d 0 a;rw[b 0 (by omega),lA a]at e;rw[lA a];simp at e;rw[e];have e:=d i j;rw[b i (by omega),lA j,ez (by omega)]at e;rw[lA j];simp at e;rw[e]
def Bm{a:Func}(c:P.funcs[K]? =some a)(g:9<=a.ntmps)(j:W.size<=9)(l:0<W.size)(d:W[0]? =some x)(f:∀i,1<=i->i<W.size->W[i]? =some undef)(k:CallKind):Frame.enter P K W k=Frame.enter P K #[x] k:=by
 have e:W++Array.replicate (a.ntmps-W.size) jg=#[x]++Array.replicate (a.ntmps-(#[x]:fZ).size) jg:=by
  refine Ns λi=>?_;by_cases b:i<W.size;rw[wA b];cases i with
  |zero=>rw[d,wA (by simp)];rfl
  |succ i=>
   rw[f _ (by omega) b,zn (by simp)];rw[wB,eC (by simp;omega)]
  rw[zn (by omega),zn (by simp;omega),wB,wB];by_cases h:i-W.size<a.ntmps-W.size;rw[eC h,eC (by simp;omega)];rw[ez h,ez (by simp;omega)]
 simp only[Frame.enter,c,kT,lT];rw[e]
end Go.Proofs.W
