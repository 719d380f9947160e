/- Laws that the proof needs, part 12. Conditions: none. -/
import Derived.Scope
import Derived.RangeFuncRecord
import Derived.RangeFuncLeaves
import Derived.Test.YteeagjkaflglpaaGreatX11
set_option maxRecDepth 100000
set_option maxHeartbeats 8000000
set_option linter.all false
namespace Go.Proofs.W
open Go.RowKit
def lM(b x:Sp):Sp:=if lE x b then x else b
def kI(l l':List Int)(m k a b:Int):lE (some (l,m,k)) (some (l',a,b))=decide (m<a\/m=a/\k<b):=by simp only[lE];by_cases h:m=a;subst h;simp;simp[h]
def nq(x:Sp):lM none x=x:=by cases x<;>simp[lM,lE]
def Fb(a b c:Sp):lM (lM a b) c=lM a (lM b c):=by
 rcases a with _|⟨l,m,k⟩;simp only[nq];rcases b with _|⟨o,f,i⟩;have:lM (some (l,m,k)) none=some (l,m,k):=rfl;rw[this,nq];rcases c with _|⟨n,d,e⟩;rfl;simp only[lM,kI,jk];by_cases h:f<m\/f=m/\i<k;by_cases g:d<f\/d=f/\e<i;have j:d<m\/d=m/\e<k:=by omega
 simp[h,g,j,kI];simp[h,g,kI];by_cases g:d<f\/d=f/\e<i;simp[h,g,kI];have j:¬(d<m\/d=m/\e<k):=by omega
 simp[h,g,j,kI]
def Kb(l:List Sp):oC l=l.foldl lM none:=by
 cases l with
 |nil=>rfl
 |cons x a=>
  rw[mP,nq];rfl
theorem tC{α:Type}(f:Sp->α->Sp)(a:∀b i,f b i=lM b (f none i)):∀(l:List α) (b:Sp),l.foldl f b=lM b (l.foldl f none)
 |[],b=>by cases b<;>rfl
 |i::l,b=>by rw[mP,mP,tC f a l (f b i),tC f a l (f none i),a b i,Fb]
def fh(D:dR)(k:Nat):Nat:=D.opn.getD k 0
def dz(D:dR)(k:Nat):List (List Nat):=D.lists.getD k []
def dS(D:dR):Nat->List Nat->(Nat->Nat)->Sp->Sp
 |0,ps,L,a=>lM a (dX D L ps)
 |n+1,ps,L,a=>(List.range (dz D ps.length).length).foldl (λb i=>dS D n (ps++[i]) (jz (fh D ps.length) ((dz D ps.length).getD i []) L) b) a
theorem sU(D:dR):∀(n:Nat) (ps:List Nat) (L:Nat->Nat) (b:Sp),dS D n ps L b=lM b (dS D n ps L none)
 |0,ps,L,b=>by simp only[dS,nq]
 |n+1,ps,L,b=>by simp only[dS];exact tC (λb i=>dS D n (ps++[i]) (jz (fh D ps.length) ((dz D ps.length).getD i []) L) b) (λb i=>sU D n _ _ b) _ b
def L0:Nat->Nat:=λ_=>0
def gm(D:dR):Sp:=dS D D.opn.length [] L0 none
def Fc(D:dR)(i:Nat):Sp:=dS D (D.opn.length-1) [i] (jz (fh D 0) ((dz D 0).getD i []) L0) none
def Hq(D:dR)(h:0<D.opn.length):gm D=oC ((List.range (dz D 0).length).map (Fc D)):=by rw[Kb,List.foldl_map];unfold gm;obtain⟨m,a⟩:∃m,D.opn.length=m+1:=⟨D.opn.length-1,by omega⟩;rw[a];simp only[dS,fC];congr 1;funext b i;rw[sU];simp only[Fc,a,Nat.add_sub_cancel,sM]
def nt(d:Nat)(l:List Nat)(L:Nat->Nat):Nat->Nat:=λs=>if s∈l then rm (L s) d else L s
def Kc:∀x,x<32->∀d,d<5->rm (rm x d) d=rm x d:=by decide+kernel
def Nd:∀x,x<32->∀d,d<5->rm x d=x->rm (nZ x d) d=x:=by decide+kernel
def Fe:∀x,x<32->∀d,d<5->∀a,a<5->d≠a->rm x a=x->rm (nZ x d) a=nZ x d:=by decide+kernel
def Ff{d:Nat}{l:List Nat}{L:Nat->Nat}(c:d<5)(a:∀s,s<6->L s<32):∀s,s<6->nt d l L s<32:=by intro s b;unfold nt;split;exact P2 _ (a s b) _ c;exact a s b
def Hr{d:Nat}{l:List Nat}{L:Nat->Nat}(c:d<5)(e:∀s,s<6->L s<32)(k:Nat)(f:k<l.length)(g:l[k]<6):Ho (nt d (l.take k) L) l[k] (rm (nt d (l.take k) L l[k]) d)=nt d (l.take (k+1)) L:=by
 funext s;have a:∀s,s∈l.take (k+1)↔s∈l.take k\/s=l[k]:=λs=>by rw[ll _ _ f];exact List.mem_append.trans (or_congr l8 fD)
 unfold Ho nt;by_cases b:s=l[k];subst b;rw[cx rfl,cx ((a _).2 (.inr rfl))];split;exact Kc _ (e _ g) _ c;rfl;rw[cr b];by_cases h:s∈l.take k;rw[cx h,cx ((a _).2 (.inl h))];rw[cr h,cr λi=>((a _).1 i).elim h b]
def Fg{d:Nat}{l:List Nat}{L:Nat->Nat}(b:d<5)(c:∀s,s<6->L s<32)(e:∀s,s<6->rm (L s) d=L s):∀s,s<6->nt d l (jz d l L) s=L s:=by intro s a;unfold nt jz;split;exact Nd _ (c s a) _ b (e s a);rfl
structure xZ(N:Nat->Prop)(pb T:Nat)(D:dR)(w:cd)(ps:List Nat)(pa:Option Addr)(pc:Nat)(L:Nat->Nat)(y:SV):Prop where
 plan:eV N pb D w
 sep:∀b,N b->b<w.heap.size/\b≠T/\pa≠some ⟨b,0,none⟩
 at_:w.heap[T]? =some (dY pb pa ps.length pc L y)
 own:o9 T w pa pc ps
 lt:∀s,s<6->L s<32
 free:∀s,s<6->∀j,ps.length<=j->j<D.opn.length->rm (L s) (fh D j)=L s
 len:ps.length<=D.opn.length
 bare:D.opn.length=0->pa=none
structure gT(N:Nat->Prop)(pb T:Nat)(D:dR)(m0 j0:Nat)(w:cd)(ps:List Nat)(pa:Option Addr)(pc:Nat)(L:Nat->Nat)(y:SV)(s:Sp):Prop where
 t:xZ N pb T D w ps pa pc L y
 sched:cU (λb=>m0<=b/\b≠T/\pa≠some ⟨b,0,none⟩) w s y
 cap:wV j0 w s y
 size:m0<=w.heap.size
 drawn:j0<=w.drawn
def Fh(N:Nat->Prop)(pb T:Nat)(D:dR)(m0 f:Nat)(w:cd)(ps:List Nat)(pa:Option Addr)(L:Nat->Nat)(s:Sp)(e:Ending)(w':cd):Prop:=
 e=.returned undef/\∃a c d g,gT N pb T D m0 f w' ps a c d g s/\(∀s,s<6->d s=L s)/\cN (λb=>b=T\/pa=some ⟨b,0,none⟩) w w'/\(a=pa\/∃b,w.heap.size<=b/\a=some ⟨b,0,none⟩)
def P6:SV:=⟨none,0,0,0,0,false⟩
def Fi:Prop:=∀(N:Nat->Prop) (b T:Nat) (D:dR) (c d:Nat) (w:cd) (a:List Nat) (e:Option Addr) (f:Nat) (L:Nat->Nat) (y:SV) (s:Sp) (i:Nat),gT N b T D c d w a e f L y s->a.length<D.opn.length->i<(dz D a.length).length->Calls V.prog 190 #[.pointer (some ⟨T,0,none⟩),.int .i64 i] w (Fh N b T D c d w a e L (dS D (D.opn.length-a.length-1) (a++[i]) (jz (fh D a.length) ((dz D a.length).getD i []) L) s))
def Nf:Prop:=∀(N:Nat->Prop) (b T:Nat) (D:dR) (c d:Nat) (w:cd) (a:List Nat) (e:Option Addr) (f:Nat) (L:Nat->Nat) (y:SV) (s:Sp),gT N b T D c d w a e f L y s->Calls V.prog 216 #[.pointer (some ⟨T,0,none⟩)] w (Fh N b T D c d w a e L (dS D (D.opn.length-a.length) a L s))
def tD{w:cd}{ad:Addr}{v:ce}(h:w.cell? ad=some v):ad.block<w.heap.size:=by refine yB λa=>?_;have:w.heap[ad.block]? =none:=mO a;simp[World.cell?,this]at h
structure P7(T:Nat)(ps:List Nat)(i:Nat)(pa:Option Addr)(pc:Nat)(w w':cd):Prop where
 keep:cN (λb=>pa=some ⟨b,0,none⟩) w w'
 own:o9 T w pa pc ps->o9 T w' pa pc ps
 stay:∀b,pa=some ⟨b,0,none⟩->w.cell? ⟨b,ps.length,none⟩=some (.int .i64 i)->w'.heap[b]? =w.heap[b]?
section
variable{T:Nat}{ps:List Nat}{i:Nat}{pa:Option Addr}{pc:Nat}
def o9.ext{w w':cd}(h:o9 T w pa pc ps)(e:∀b,b<w.heap.size->pa=some ⟨b,0,none⟩->w'.heap[b]? =w.heap[b]?):o9 T w' pa pc ps:=by rcases h with h|⟨a,f,c,g,d,i⟩;exact .inl h;exact .inr ⟨a,f,c,g,(e a (cF.lt_of_heap d) c).trans d,i⟩
def zi{w w':cd}(h:Ext w w'):P7 T ps i pa pc w w':=⟨h.keep _,λa=>a.ext λb c _=>h.block b c,λb _ d=>h.block b (tD d)⟩
def P8:fw (P7 T ps i pa pc):=by refine⟨λw=>zi (Ext.refl w),λa b c h k=>⟨h.keep.trans k.keep (λ_ _ h=>h) (λ_ _ h=>h),λg=>k.own (h.own g),λx d e=>?_⟩,λw=>zi (Ext.drew w)⟩;have f:=h.stay x d e;exact(k.stay x d ((Go.Proofs.W.fY (ad:=⟨x,ps.length,none⟩) f).trans e)).trans f
def picked(i:Nat)(w:cd)(v:ce)(w':cd):Prop:=∃B,v=.slice (some ⟨B,0,none⟩) 1 1/\w.heap.size<=B/\w'.heap[B]? =some (.cells #[.int .i64 i] 3)
def Fj{w:cd}(a:∀b,pa=some ⟨b,0,none⟩->b<w.heap.size):P5 (P7 T ps i pa pc) (picked i w):=λv h j ⟨B,c,d,e⟩ f=>
 ⟨B,c,d,f.keep.fg e λg=>by have:=a B g;omega⟩
def zj(T:Nat)(ps:List Nat)(i:Nat)(pa:Option Addr)(w:cd)(v:ce)(w':cd):Prop:=
 ∃a c,v=.slice a (ps.length+1) c/\o9 T w' a c (ps++[i])/\(a=pa\/∃b,w.heap.size<=b/\a=some ⟨b,0,none⟩)
def A3{w:cd}(a:∀b,pa=some ⟨b,0,none⟩->b<w.heap.size):P5 (P7 T ps i pa pc) (zj T ps i pa w):=by rintro v t u ⟨c,d,m,e,j⟩ k;refine⟨c,d,m,?_,j⟩;rcases e with⟨_,e,_⟩|⟨f,n,g,o,h,p,q,r,l⟩;simp at e;refine .inr ⟨f,n,g,o,?_,p,q,r,l⟩;rcases j with rfl|⟨b,x,rfl⟩;refine(k.stay f g ?_).trans h;have:=l ps.length (by simp);simp only[World.cell?,h];rw[this];simp;obtain rfl:b=f:=cM Addr.block (cE g);exact k.keep.fg h λs=>by have:=a b s;omega
end
def cU.grow{o:Nat->Prop}{w w1:cd}{s:Sp}{y:SV}(q:∀b cs a,o b->w.heap[b]? =some (.cells cs 3 a)->w1.heap[b]? =some (.cells cs 3 a))(h:cU o w s y):cU o w1 s y:=by
 cases s with
 |none=>exact h
 |some s=>
  obtain⟨l,m,k⟩:=s;obtain⟨g,i,j,n,c|⟨c,d,p,r,t,u,a,e,f⟩⟩:=h;exact⟨g,i,j,n,.inl c⟩;exact⟨g,i,j,n,.inr ⟨c,d,p,r,t,u,a,e,q _ _ _ p f⟩⟩
def cU.imp{o o':Nat->Prop}{w:cd}{s:Sp}{y:SV}(p:∀b cs c,o b->w.heap[b]? =some (.cells cs 3 c)->o' b)(h:cU o w s y):cU o' w s y:=by
 cases s with
 |none=>exact h
 |some s=>
  obtain⟨l,m,k⟩:=s;obtain⟨g,i,j,n,d|⟨d,e,q,r,t,u,c,f,a⟩⟩:=h;exact⟨g,i,j,n,.inl d⟩;exact⟨g,i,j,n,.inr ⟨d,e,p _ _ _ q a,r,t,u,c,f,a⟩⟩
def cU.move{o o':Nat->Prop}{w w1:cd}{s:Sp}{y:SV}(g:∀b cs a,o b->w.heap[b]? =some (.cells cs 3 a)->o' b/\w1.heap[b]? =some (.cells cs 3 a))(h:cU o w s y):cU o' w1 s y:=
 ((h.imp (o':=λb=>∃cs a,o b/\w.heap[b]? =some (.cells cs 3 a)) λb cs a c d=>⟨cs,a,c,d⟩).grow (w1:=w1) λb cs a ⟨_,_,c,_⟩ d=>(g b cs a c d).2).imp λb cs a ⟨e,f,c,d⟩ _=>(g b e f c d).1
def cU.ext{o:Nat->Prop}{w w1:cd}{s:Sp}{y:SV}(a:Ext w w1)(h:cU o w s y):cU o w1 s y:=h.grow λ_ _ _ _ h=>a.at_ h
theorem wV.tape{a:Nat}{w w1:cd}{s:Sp}{y:SV}(b:w1.tape=w.tape)(h:wV a w s y):wV a w1 s y:=λl m k c d=>by obtain⟨j,f,e⟩:=h l m k c d;exact⟨j,f,by rw[b];exact e⟩
def C0(D:dR)(L:Nat->Nat)(ps:List Nat)(a:Nat)(w:cd)(v:ce)(w':cd):Prop:=∃y:SV,v=y.val/\cU (λb=>w.heap.size<=b) w' (dX D L ps) y/\wV a w' (dX D L ps) y
def Fl{D:dR}{L:Nat->Nat}{ps:List Nat}{b:Nat}{w:cd}:P5 Ext (C0 D L ps b w):=λ_ _ _ ⟨y,c,d,e⟩ a=>⟨y,c,d.ext a,e.tape a.tape⟩
theorem Ext.gY{w w1:cd}(h:Ext w w1){b:Nat}(y:SV)(a:w.heap.size<=b):Ext w (Go.Proofs.W.gY w1 b y):=by unfold Go.Proofs.W.gY;exact(((h.n4 _ a).n4 _ a).n4 _ a).n4 _ a
theorem rn:∀(vs:List ce) (w:cd) (b o:Nat) (cs:Array ce) (t:cg) (e:Nat×Nat),w.heap[b]? =some (.cells cs t e)->o+vs.length<=cs.size->(w.setCells b o vs).os=w.os/\(w.setCells b o vs).tape=w.tape/\(w.setCells b o vs).output=w.output/\(w.setCells b o vs).drawn=w.drawn/\(w.setCells b o vs).heap.size=w.heap.size/\(∀c,c≠b->(w.setCells b o vs).heap[c]? =w.heap[c]?)/\∃a,(w.setCells b o vs).heap[b]? =some (.cells a t e)/\a.size=cs.size/\(∀j,j<o->a[j]? =cs[j]?)/\(∀j,j<vs.length->a[o+j]? =vs[j]?)/\∀j,o+vs.length<=j->a[j]? =cs[j]?
 |[],w,b,o,cs,t,e,h,l=>⟨rfl,rfl,rfl,rfl,rfl,λ_ _=>rfl,cs,h,rfl,λ_ _=>rfl,λj d=>by simp at d,λ_ _=>rfl⟩
 |v::vs,w,b,o,cs,t,e,h,l=>by
  have f:o+1+vs.length<=cs.size:=by simp at l;omega
  have p:(w.setCell ⟨b,o,none⟩ v).heap[b]? =some (.cells (cs.setIfInBounds o v) t e):=by simp[World.setCell,sL,h]
  obtain⟨q,r,s,u,x,y,a,z,A,m,g,i⟩:=rn vs (w.setCell ⟨b,o,none⟩ v) b (o+1) (cs.setIfInBounds o v) t e p (by simpa using f);have k:o<cs.size:=by omega
  refine⟨q,r,s,u,by rw[show(w.setCells b o (v::vs))=(w.setCell ⟨b,o,none⟩ v).setCells b (o+1) vs from rfl,x];simp[World.setCell],λc n=>?_,a,z,by simpa using A,λj d=>?_,λj d=>?_,λj d=>?_⟩;exact(y c n).trans (cF.Cr.dN _ _ _ _ n);rw[m j (by omega),eY (by omega)];cases j with
  |zero=>rw[m (o+0) (by omega)];simp[k]
  |succ j=>
   have:=g j (by simp at d;omega);rw[show o+(j+1)=o+1+j by omega,this];simp
  rw[i j (by simp at d;omega),eY (by simp at d;omega)]
def cA(n0:Nat)(t:cg)(zs:List ce)(w:cd)(v:ce)(a:Nat)(e:List ce):Prop:=
 e.length=a*zs.length/\((a=0/\v=.slice none 0 0)\/∃b c d,n0<=b/\v=.slice (some ⟨b,0,none⟩) a c/\w.heap[b]? =some (.cells d t)/\d.size=c*zs.length/\a<=c/\c<2^63/\(∀j,j<e.length->d[j]? =e[j]?)/\∀j,e.length<=j->j<d.size->d[j]? =zs[j%zs.length]?)
def cw(v:ce)(b:Nat):Prop:=∃l c,v=.slice (some ⟨b,0,none⟩) l c
def cA.keep{n0:Nat}{t:cg}{zs:List ce}{w w':cd}{v:ce}{a:Nat}{d:List ce}{F:Nat->Prop}(h:cA n0 t zs w v a d)(k:cN F w w')(g:∀b,cw v b->¬F b):cA n0 t zs w' v a d:=by obtain⟨e,h|⟨b,c,i,j,f,l,m⟩⟩:=h;exact⟨e,.inl h⟩;exact⟨e,.inr ⟨b,c,i,j,f,k.fg l (g b ⟨_,_,f⟩),m⟩⟩
def cA.ext{n0:Nat}{t:cg}{zs:List ce}{w w':cd}{v:ce}{a:Nat}{b:List ce}(h:cA n0 t zs w v a b)(k:Ext w w'):cA n0 t zs w' v a b:=h.keep (k.keep λ_=>False) λ_ _ h=>h
def cA.nil(n0:Nat)(t:cg)(zs:List ce)(w:cd):cA n0 t zs w (.slice none 0 0) 0 []:=⟨by simp,.inl ⟨rfl,rfl⟩⟩
def cA.blk{n0:Nat}{t:cg}{zs:List ce}{w:cd}{v:ce}{a:Nat}{d:List ce}(h:cA n0 t zs w v a d){b:Nat}(f:cw v b):n0<=b/\b<w.heap.size:=by obtain⟨l,m,e⟩:=f;obtain⟨n,⟨_,h⟩|⟨g,c,o,i,j,k,p⟩⟩:=h;rw[h]at e;cases e;rw[j]at e;injection e with e;obtain rfl:g=b:=cM Addr.block (cE e);exact⟨i,cF.lt_of_heap k⟩
theorem cA.len{n0:Nat}{t:cg}{zs:List ce}{w:cd}{v:ce}{b:Nat}{e:List ce}(h:cA n0 t zs w v b e):∃a c,v=.slice a b c/\b<=c/\c<2^63:=by obtain⟨j,⟨d,h⟩|⟨k,c,l,d,f,m,n,g,i,_⟩⟩:=h;exact⟨none,0,by rw[h,d],by omega,by omega⟩;exact⟨_,c,f,g,i⟩
def cA.cell{n0:Nat}{t:cg}{zs:List ce}{w:cd}{v:ce}{a:Nat}{d:List ce}(h:cA n0 t zs w v a d)(m:0<a):∃b c,v=.slice (some ⟨b,0,none⟩) a c/\n0<=b/\∀j u,d[j]? =some u->w.cell? ⟨b,j,none⟩=some u:=by obtain⟨n,⟨e,h⟩|⟨g,c,o,e,i,k,p,q,r,l,s⟩⟩:=h;omega;refine⟨g,c,i,e,λj u f=>?_⟩;simp only[World.cell?,k];rw[l j (gy.1 f).1,f];rfl
def oD(z:Array ce)(n j:Nat)(b:0<z.size)(c:j<n*z.size):(Builtin.zeroCells z n)[j]? =z[j%z.size]? :=by have a:j%z.size<z.size:=Nat.mod_lt _ b;simp[Builtin.zeroCells,c,a]
def Hs{P:cf}{G ty e:cg}{i:TypeInfo}{z:ce}{zs:List ce}(N:P.underlying G=some (.slice e))(O:P.info? e=some i)(X:i.zero=some z)(C:z.cells=zs.toArray)(y:i.size=zs.length)(I:i.bytes<=256)(Y:0<zs.length) {n0:Nat}{w:cd}{v:ce}{f:Nat}{p:List ce}(h:cA n0 e zs w v f p)(J:n0<=w.heap.size){a:Addr}{m c:Nat}{news:List ce}(q:news.length=m*zs.length)(hm:0<m)(n:∀j u,news[j]? =some u->w.cell? (a.add j)=some u)(h1:∀u∈news,u.oneCell'=true)(K:f+m<=1000000):∃Q w',(Builtin.append_ #[G,G] ty #[v,.slice (some a) m c]).run P w=.ok Q w'/\cA n0 e zs w' Q (f+m) (p++news)/\cN (cw v) w w'/\∀b,cw Q b->cw v b\/w.heap.size<=b:=by
 have g:z.cells.size=zs.length:=by rw[C];simp
 have D:news.length=m*i.size:=by rw[y];exact q
 obtain⟨r,⟨rfl,rfl⟩|⟨b,A,R,g1,rfl,M,Z,g5,g6,g7,g8⟩⟩:=h;obtain rfl:p=[]:=by simpa using r
 have H:=run_append_nil (P:=P) w G ty e i z N O X a m c news D n hm (by omega) (cJ (Nat.mul_le_mul (show m<=1000000 by omega) I) (by decide));have L:=grownCap_ge w m 0 e;refine⟨_,_,H,⟨by simp[q],.inr ⟨w.heap.size,grownCap w m 0 e,news.toArray++Builtin.zeroCells z.cells (grownCap w m 0 e-m),J,by simp,eU w.drew _,?_,by omega,?_,?_,?_⟩⟩,?_,?_⟩;simp only[wL,iP,size_zeroCells,g,q,<-Nat.add_mul];congr 1;omega;have:=grownCap_le_maxLen w m 0 e (by simp only[maxLen];omega);simp only[maxLen]at this;omega;intro j k;rw[vG (by simpa using k)];simp;intro j k B;simp only[sM]at k;rw[yr (by simpa using k)];simp only[wL,iP,size_zeroCells,g]at B;simp only[iP];rw[oD _ _ _ (by omega) (by rw[g];omega),g,C,q];have s:(j-m*zs.length)%zs.length=j%zs.length:=by obtain⟨d,rfl⟩:∃d,j=m*zs.length+d:=⟨j-m*zs.length,by omega⟩;rw[Nat.add_sub_cancel_left,Nat.add_comm,Nat.add_mul_mod_self_right]
 rw[s];simp;exact((Ext.drew w).trans (Ext.alloc _ _)).keep _;rintro b ⟨l,c',t⟩;injection t with t;have:w.heap.size=b:=cM Addr.block (cE t);exact .inr (by omega);by_cases o:f+m<=A;have S:p.length+news.length<=R.size:=by rw[r,q,Z,<-Nat.add_mul];exact oq _ o
 have H:=run_append_room_cells (P:=P) w G ty e i N O b 0 f A a m c news D n h1 o
  (λj k=>by
   have:p.length+j<R.size:=by omega
   rw[y,cB,<-r];simp[World.cell?,M,this])
  (λj k=>by simp[World.frozen?,M])
 rw[y,cB,<-r]at H;obtain⟨e1,e2,e3,e4,e5,e6,T,e7,e8,e9,U,V⟩:=rn news w b p.length R e (0,0) M S;refine⟨_,_,H,⟨by rw[fX,r,q,Nat.add_mul],.inr ⟨b,A,T,g1,rfl,e7,by rw[e8,Z],o,g6,?_,?_⟩⟩,⟨e1,e2,e3,by rw[e5];exact cz _,by rw[e4];exact cz _,λx _ W=>e6 x λe=>W ⟨f,A,by rw[e]⟩⟩,λx W=>.inl ?_⟩;intro j k;by_cases E:j<p.length;rw[e9 j E,g7 j E,kz E];obtain⟨d,rfl⟩:∃d,j=p.length+d:=⟨j-p.length,by omega⟩;rw[U d (by simp at k;omega),mQ (by omega)];simp;intro j k B;rw[fX]at k;rw[V j k];exact g8 j (by omega) (by omega);obtain⟨l,c',t⟩:=W;injection t with t;obtain rfl:b=x:=cM Addr.block (cE t);exact⟨f,A,rfl⟩;have F:∀j u,p[j]? =some u->w.cell? ((⟨b,0,none⟩:Addr).add j)=some u:=by intro j u hu;rw[Addr.add_lit];simp only[World.cell?,M,cB];rw[g7 j (gy.1 hu).1,hu];rfl
 have H:=run_append_grow (P:=P) w G ty e i z N O X ⟨b,0,none⟩ f A p (by rw[y];exact r) F a m c news D n (by omega) (by omega) (growslice_fits (by omega) (cJ (Nat.mul_le_mul K I) (by decide)));have L:=grownCap_ge w (f+m) A e;refine⟨_,_,H,⟨by rw[fX,r,q,Nat.add_mul],.inr ⟨w.heap.size,grownCap w (f+m) A e,_,J,rfl,eU w.drew _,?_,L,?_,?_,?_⟩⟩,?_,?_⟩;simp only[wL,iP,size_zeroCells,g,r,q,<-Nat.add_mul];congr 1;omega;have:=grownCap_le_maxLen w (f+m) A e (by simp only[maxLen];omega);simp only[maxLen]at this;omega;intro j k;rw[vG (by simpa using k)];simp;intro j k B;simp only[fX]at k;rw[yr (by simpa using k)];simp only[wL,iP,size_zeroCells,g,r,q]at B;simp only[wL,iP,r,q];rw[r,q]at k;rw[oD _ _ _ (by omega) (by rw[g];omega),g,C];have s:(j-(f*zs.length+m*zs.length))%zs.length=j%zs.length:=by obtain⟨d,rfl⟩:∃d,j=(f*zs.length+m*zs.length)+d:=⟨j-(f*zs.length+m*zs.length),by omega⟩;rw[Nat.add_sub_cancel_left,<-Nat.add_mul,Nat.add_comm,Nat.add_mul_mod_self_right]
 rw[s];simp;exact((Ext.drew w).trans (Ext.alloc _ _)).keep _;rintro x ⟨l,c',t⟩;injection t with t;have:w.heap.size=x:=cM Addr.block (cE t);exact .inr (by omega)
section
variable{P:cf}{ops:Array Oper}{Q:Exit->Act->cd->Prop}{a:Act}{w w':cd}{i m:Nat}
end
def ci{w:cd}{b o:Nat}{cs:Array ce}{t:cg}{v:ce}(h:w.heap[b]? =some (.cells cs t))(a:cs[o]? =some v):w.cell? ⟨b,o,none⟩=some v:=by simp only[World.cell?,h];exact a
def Ext.cy{w0 w w':cd}{b:Nat}(h:Ext w0 w)(k:cN (λx=>x=b) w w')(c:w0.heap.size<=b):Ext w0 w':=
 ⟨k.os.trans h.os,k.tape.trans h.tape,k.output.trans h.output,cJ h.size k.size,cJ h.drawn k.drawn,λx a=>(k.block x (dl a h.size) (by omega)).trans (h.block x a)⟩
section
variable{P:cf}{ρ:dj->ce}{w:cd}{v:ce}
end
abbrev L:=List (Nat×ce)
def lk:L->Nat->Option ce
 |[],_=>none
 |p::r,t=>match Nat.beq p.1 t with
  |true=>some p.2
  |false=>lk r t
def nth{α:Type}:List α->Nat->Option α
 |[],_=>none
 |x::_,0=>some x
 |_::r,n+1=>nth r n
def mem:Nat->List Nat->Bool
 |_,[]=>false
 |n,x::r=>match Nat.beq n x with
  |true=>true
  |false=>mem n r
def ev(l:L):dj->Option ce
 | .tmp t=>lk l t
 | .const v=>some v
 | .func f=>some (.func (.func f) #[] #[])
 | .global _=>none
def evs(l:L):List dj->Option (List ce)
 |[]=>some []
 |x::r=>match ev l x with
  |some v=>match evs l r with
   |some vs=>some (v::vs)
   |none=>none
  |none=>none
def S3(l:L):Option dj->Option (Option ce)
 |none=>some none
 |some x=>match ev l x with
  |some v=>some (some v)
  |none=>none
def ins(N:Nat)(d:Option Nat)(v:ce)(l:L):L:=match d with
 |none=>l
 |some d=>match Nat.blt d N with
  |true=>(d,v)::l
  |false=>l
structure Fr(N:Nat)(l:L)(a:Act):Prop where
 size:a.tmps.size=N
 defers:a.defers=[]
 at_:∀t v,lk l t=some v->a.eval (.tmp t)=v
structure vE(N:Nat)(l:L)(a:Act):Prop where
 size:a.tmps.size=N
 at_:∀t v,lk l t=some v->a.eval (.tmp t)=v
def Fr.b{N:Nat}{l:L}{a:Act}(h:Fr N l a):vE N l a:=⟨h.size,h.at_⟩
theorem vE.eval{N:Nat}{l:L}{a:Act}(h:vE N l a){x:dj}{v:ce}(b:ev l x=some v):a.eval x=v:=by
 cases x with
 |tmp t=>exact h.at_ t v b
 |const c=>exact cE b
 |func f=>exact cE b
 |global g=>cases b
theorem Fr.eval{N:Nat}{l:L}{a:Act}(h:Fr N l a){x:dj}{v:ce}(c:ev l x=some v):a.eval x=v:=h.b.eval c
theorem Fr.put{N:Nat}{l:L}{a:Act}(h:Fr N l a)(d:Option Nat)(v:ce)(f:∀t,d=some t->t<N):Fr N (ins N d v l) (a.put d v):=by
 refine⟨(lZ _ _ _).trans h.size,(tA _ _ _).trans h.defers,λt u b=>?_⟩;cases d with
 |none=>exact h.at_ t u b
 |some d=>
  have e:Nat.blt d N=true:=by simpa[Nat.blt_eq]using f d rfl
  simp only[ins,e]at b;simp only[lk]at b;cases c:Nat.beq d t with
  |true=>
   rw[c]at b;have:d=t:=gE c;subst this;rw[uD _ _ _ (by rw[h.size];exact f d rfl)];exact cE b
  |false=>
   rw[c]at b;have:d≠t:=vH c;rw[pI _ _ _ _ (by simpa using this)];exact h.at_ t u b
def Fr.zk{N:Nat}{l:L}{a:Act}(h:Fr N l a){d:Nat}{v:ce}(e:lk l d=some v):Fr N ((d,v)::l) a:=by
 refine⟨h.size,h.defers,λt u b=>?_⟩;simp only[lk]at b;cases c:Nat.beq d t with
 |true=>
  rw[c]at b;have:d=t:=gE c;subst this;exact cE b▸h.at_ _ _ e
 |false=>rw[c]at b;exact h.at_ t u b
def Sub:L->L->Prop
 |[],_=>True
 |p::r,l=>lk l p.1=some p.2/\Sub r l
theorem Sub.lk{l' l:L}(h:Sub l' l){t:Nat}{v:ce}(a:lk l' t=some v):lk l t=some v:=by
 induction l' with
 |nil=>cases a
 |cons p r c=>
  simp only[W.lk]at a;cases b:Nat.beq p.1 t with
  |true=>
   rw[b]at a;have:p.1=t:=gE b;subst this;exact cE a▸h.1
  |false=>rw[b]at a;exact c h.2 a
def Fr.sub{N:Nat}{l l':L}{a:Act}(h:Fr N l a)(b:Sub l' l):Fr N l' a:=⟨h.size,h.defers,λt v c=>h.at_ t v (b.lk c)⟩
structure iO(P:cf)(s:Sem ce)(w:cd)(k:ce->cd->Prop):Prop where
 out:∃v w',s.run P w=.ok v w'/\k v w'
structure DR(P:cf)(s:Sem Unit)(w:cd)(k:cd->Prop):Prop where
 out:∃w',s.run P w=.ok () w'/\k w'
structure wY(P:cf)(s:Sem Next)(w:cd)(k:ce->cd->Prop):Prop where
 out:∃v w',s.run P w=.ok (.value v) w'/\k v w'
structure P9(P:cf)(f:cm)(args:List ce)(w:cd)(k:ce->cd->Prop)(pan:List PanicEntry->cd->Prop):Prop where
 go:∀xs w,Sem.run P (callFunc f xs) w=.ok (.enter f xs) w
 out:Calls P f args.toArray w λe w'=>match e with
  | .returned v=>k v w'
  | .panicked c=>pan c w'
  | .outgrown=>False
structure BC where
 off:Nat->Nat->Option Nat
structure n5(P:cf)(T:BC):Prop where
 off:∀S i d,T.off S i=some d->∀b o w,Sem.run P (Instr.fieldAt S (.pointer (some ⟨b,o,none⟩)) i) w=.ok (.pointer (some ⟨b,o+d,none⟩)) w
def S4(l:L):List (Nat×dj)->Option (List (Nat×ce))
 |[]=>some []
 |p::r=>match ev l p.2 with
  |some v=>match S4 l r with
   |some vs=>some ((p.1,v)::vs)
   |none=>none
  |none=>none
def GG(P:cf)(T:BC)(ks:List Nat)(l:L)(w:cd)(o:Oper)(k:ce->cd->Prop)(s:cd->Prop)(pan:List PanicEntry->cd->Prop):Prop:=
 match o.op with
 | .move x=>match ev l x with
  |some v=>k v w
  |none=>False
 | .assign x=>match ev l x with
  |some v=>k v w
  |none=>False
 | .pick (.tmp c) x y=>match lk l c with
  |some (.bool b)=>match mem c ks with
   |true=>(match b with
    |true=>match ev l x with
     |some v=>k v w
     |none=>False
    |false=>match ev l y with
     |some v=>k v w
     |none=>False)
   |false=>(b=true->match ev l x with
    |some v=>k v w
    |none=>False)/\(b=false->match ev l y with
    |some v=>k v w
    |none=>False)
  |_=>False
 | .nilCheck x=>match ev l x with
  |some (.pointer (some p))=>k (.pointer (some p)) w
  |some (.func (.func f) a b)=>k (.func (.func f) a b) w
  |_=>False
 | .fieldAddr S x i=>match ev l x with
  |some (.pointer (some ⟨b,o,none⟩))=>(match T.off S i with
   |some d=>k (.pointer (some ⟨b,o+d,none⟩)) w
   |none=>False)
  |_=>False
 | .extract x i=>match ev l x with
  |some (.tuple h)=>(match nth h.toList i with
   |some v=>k v w
   |none=>False)
  |_=>False
 | .field S x i=>match ev l x with
  |some v=>iO P (Instr.field S v i) w k
  |none=>False
 | .load t x=>match ev l x with
  |some v=>iO P (Instr.loadAt t v) w k
  |none=>False
 | .store t x y=>match ev l x with
  |some v=>(match ev l y with
   |some u=>DR P (Instr.storeAt t v u) w s
   |none=>False)
  |none=>False
 | .alloc t=>iO P (Instr.alloc t true (.tuple #[])) w k
 | .box t x=>match ev l x with
  |some v=>iO P (Instr.box t v) w k
  |none=>False
 | .build t e=>match S4 l e.toList with
  |some h=>iO P (Instr.build t h.toArray) w k
  |none=>False
 | .buildSlice t n e=>match S4 l e.toList with
  |some h=>iO P (Instr.buildSlice t n h.toArray) w k
  |none=>False
 | .binOp b t x y _=>match ev l x with
  |some v=>(match ev l y with
   |some u=>iO P (do eqGuard b t x y v u;binOp b t v u) w k
   |none=>False)
  |none=>False
 | .unOp u _ x=>match ev l x with
  |some v=>iO P (Op.unary u v) w k
  |none=>False
 | .makeFunc q first j=>match evs l first.toList with
  |some A=>(match evs l j.toList with
   |some B=>k (.func q A.toArray B.toArray) w
   |none=>False)
  |none=>False
 | .makeMap t r=>match S3 l r with
  |some v=>iO P (Instr.makeMap t v) w k
  |none=>False
 | .makeSlice t x y=>match ev l x with
  |some v=>(match ev l y with
   |some u=>iO P (Instr.makeSlice t v u) w k
   |none=>False)
  |none=>False
 | .slice t x C D E=>match ev l x with
  |some v=>(match S3 l C with
   |some a=>(match S3 l D with
    |some b=>(match S3 l E with
     |some c=>iO P (Instr.sliceAt t v a b c) w k
     |none=>False)
    |none=>False)
   |none=>False)
  |none=>False
 | .indexAddr t x y=>match ev l x with
  |some v=>(match ev l y with
   |some u=>iO P (Instr.indexAt t v u) w k
   |none=>False)
  |none=>False
 | .index t x y=>match ev l x with
  |some v=>(match ev l y with
   |some u=>iO P (Instr.index t v u) w k
   |none=>False)
  |none=>False
 | .lookup t x y c=>match ev l x with
  |some v=>(match ev l y with
   |some u=>iO P (Instr.lookup t v u c) w k
   |none=>False)
  |none=>False
 | .mapUpdate t m x y=>match ev l m with
  |some z=>(match ev l x with
   |some v=>(match ev l y with
    |some u=>DR P (Instr.mapUpdate t z v u) w s
    |none=>False)
   |none=>False)
  |none=>False
 | .call c=>(match c.callee with
  | .value f=>(match ev l f with
   |some (.func (.func g) first j)=>(match evs l c.args.toList with
    |some h=>P9 P g (first.toList++(h++j.toList)) w k pan
    |none=>False)
   |_=>False)
  | .builtin b=>(match evs l c.args.toList with
   |some h=>wY P (builtin b c.argTypes o.type (c.args.map λ| .const _=>true|_=>false) h.toArray) w k
   |none=>False)
  | .invoke _ _=>False)
 | .convert t u x=>match ev l x with
  |some v=>iO P (convert t u v) w k
  |none=>False
 |_=>False
section
variable{P:cf}{T:BC}{ks:List Nat}{N:Nat}{l:L}{a:Act}{w:cd}{o:Oper}{k:ce->cd->Prop}{s:cd->Prop}{pan:List PanicEntry->cd->Prop}{next:Act->cd->Prop}{Q:Exit->Act->cd->Prop}
theorem x6{α:Type}:∀(l:List α) (i:Nat),nth l i=l[i]?
 |[],_=>rfl
 |_::_,0=>rfl
 |_::r,n+1=>(x6 r n).trans (by simp)
theorem vE.Rw(h:vE N l a):∀{xs:List dj} {vs:List ce},evs l xs=some vs->xs.map a.eval=vs
 |[],vs,b=>by simp only[evs,fI]at b;subst b;rfl
 |x::r,vs,b=>by simp only[evs]at b;split at b;rename_i v c;split at b;rename_i e d;simp only[fI]at b;subst b;simp[h.eval c,vE.Rw h d];cases b;cases b
theorem vE.Rx(h:vE N l a):∀{xs:List (Nat×dj)} {vs:List (Nat×ce)},S4 l xs=some vs->xs.map (λp=>(p.1,a.eval p.2))=vs
 |[],vs,b=>by simp only[S4,fI]at b;subst b;rfl
 |x::r,vs,b=>by simp only[S4]at b;split at b;rename_i v c;split at b;rename_i e d;simp only[fI]at b;subst b;simp[h.eval c,vE.Rx h d];cases b;cases b
def vE.I1(h:vE N l a){x:Option dj}{v:Option ce}(b:S3 l x=some v):x.map a.eval=v:=by
 cases x with
 |none=>simp only[S3,fI]at b;subst b;rfl
 |some x=>
  simp only[S3]at b;split at b;rename_i u c;simp only[fI]at b;subst b;simp[h.eval c];cases b
def pd(h:vE N l a){xs:Array dj}{vs:List ce}(b:evs l xs.toList=some vs):xs.map a.eval=vs.toArray:=by have:=h.Rw b;apply Cz;simpa using this
def BD(h:vE N l a){xs:Array (Nat×dj)}{vs:List (Nat×ce)}(b:S4 l xs.toList=some vs):xs.map (λp=>(p.1,a.eval p.2))=vs.toArray:=by have:=h.Rx b;apply Cz;simpa using this
def DT{s:Sem ce}(h:iO P s w k)(b:∀v w',k v w'->next (a.put o.dst v) w'):o.upon P a next Q ((do let v<-s;pure (Next.value v):Sem Next).run P w):=by obtain⟨v,w',c,d⟩:=h.out;simp only[Sem.run_bind,c,Result.andThen_ok,Sem.run_pure];exact b v w' d
def X3{s':Sem Unit}(h:DR P s' w s)(b:∀w',s w'->next (a.put o.dst undef) w'):o.upon P a next Q ((do s';pure Next.skip:Sem Next).run P w):=by obtain⟨w',c,d⟩:=h.out;simp only[Sem.run_bind,c,Result.andThen_ok,Sem.run_pure];exact b w' d
def iz(M:n5 P T)(q:vE N l a)(h:GG P T ks l w o k s pan)(A:∀v w',k v w'->next (a.put o.dst v) w')(K:∀w',s w'->next (a.put o.dst undef) w')(O:∀c w',pan c w'->Q (.panic c) a w'):o.wp P a w next Q:=by
 unfold Oper.wp;unfold GG at h;split at h;case h_1 x p=>
  split at h;rename_i v j;simp only[execOp,p,q.eval j,Sem.run_pure];exact A _ _ h;exact h.elim
 case h_2 x p=>
  split at h;rename_i v j;simp only[execOp,p,q.eval j,Sem.run_pure];exact A _ _ h;exact h.elim
 case h_3 c x y p=>
  split at h;case h_1 b R=>
   have D:a.eval (.tmp c)=.bool b:=q.eval (x:=.tmp c) R;simp only[execOp,p,D,asBool,pure_bind,Sem.run_pure];split at h;cases b with
   |true=>
    simp only at h;split at h;rename_i v j;simp only[cX,q.eval j];exact A _ _ h;exact h.elim
   |false=>
    simp only at h;split at h;rename_i v j;simp only[iq,eo,q.eval j];exact A _ _ h;exact h.elim
   cases b with
   |true=>
    have h:=h.1 rfl;split at h;rename_i v j;simp only[cX,q.eval j];exact A _ _ h;exact h.elim
   |false=>
    have h:=h.2 rfl;split at h;rename_i v j;simp only[iq,eo,q.eval j];exact A _ _ h;exact h.elim
  case h_2=>exact h.elim
 case h_4 x p=>
  split at h;rename_i ad j;simp only[execOp,p,q.eval j,Sem.run_pure];exact A _ _ h;rename_i f u v j;simp only[execOp,p,q.eval j,Sem.run_pure];exact A _ _ h;exact h.elim
 case h_5 S x i p=>
  split at h;rename_i b F j;split at h;rename_i d U;simp only[execOp,p,q.eval j];exact DT (k:=k) ⟨_,_,M.off S i d U b F w,h⟩ A;exact h.elim;exact h.elim
 case h_6 x i p=>
  split at h;rename_i E j;split at h;rename_i v L;rw[x6]at L;have G:E[i]? =some v:=by simpa using L
  simp only[execOp,p,q.eval j];exact DT (k:=k) ⟨v,w,by simp only[Instr.extract,G,Sem.run_pure],h⟩ A;exact h.elim;exact h.elim
 case h_7 S x i p=>
  split at h;rename_i v j;simp only[execOp,p,q.eval j];exact DT h A;exact h.elim
 case h_8 t x p=>
  split at h;rename_i v j;simp only[execOp,p,q.eval j];exact DT h A;exact h.elim
 case h_9 t x y p=>
  split at h;rename_i v j;split at h;rename_i u B;simp only[execOp,p,q.eval j,q.eval B];exact X3 h K;exact h.elim;exact h.elim
 case h_10 t p=>simp only[execOp,p];exact DT h A
 case h_11 t x p=>
  split at h;rename_i v j;simp only[execOp,p,q.eval j];exact DT h A;exact h.elim
 case h_12 t C p=>
  split at h;rename_i v j;simp only[execOp,p,BD q j];exact DT h A;exact h.elim
 case h_13 t n C p=>
  split at h;rename_i v j;simp only[execOp,p,BD q j];exact DT h A;exact h.elim
 case h_14 b t x y r p=>
  split at h;rename_i v j;split at h;rename_i u B;simp only[execOp,p,q.eval j,q.eval B];exact DT h A;exact h.elim;exact h.elim
 case h_15 u t x p=>
  split at h;rename_i v j;simp only[execOp,p,q.eval j];exact DT h A;exact h.elim
 case h_16 fn first cap p=>
  split at h;rename_i xs V;split at h;rename_i ys W;simp only[execOp,p,pd q V,pd q W];exact DT (k:=k) ⟨_,_,by simp only[Instr.makeFunc,Sem.run_pure],h⟩ A;exact h.elim;exact h.elim
 case h_17 t r p=>
  split at h;rename_i v j;simp only[execOp,p,q.I1 j];exact DT h A;exact h.elim
 case h_18 t x y p=>
  split at h;rename_i v j;split at h;rename_i u B;simp only[execOp,p,q.eval j,q.eval B];exact DT h A;exact h.elim;exact h.elim
 case h_19 t x lo hi mx p=>
  split at h;rename_i v j;split at h;rename_i u B;split at h;rename_i u2 H;split at h;rename_i u3 I;simp only[execOp,p,q.eval j,q.I1 B,q.I1 H,q.I1 I];exact DT h A;exact h.elim;exact h.elim;exact h.elim;exact h.elim
 case h_20 t x y p=>
  split at h;rename_i v j;split at h;rename_i u B;simp only[execOp,p,q.eval j,q.eval B];exact DT h A;exact h.elim;exact h.elim
 case h_21 t x y p=>
  split at h;rename_i v j;split at h;rename_i u B;simp only[execOp,p,q.eval j,q.eval B];exact DT h A;exact h.elim;exact h.elim
 case h_22 t x y c p=>
  split at h;rename_i v j;split at h;rename_i u B;simp only[execOp,p,q.eval j,q.eval B];exact DT h A;exact h.elim;exact h.elim
 case h_23 t m x y p=>
  split at h;rename_i z X;split at h;rename_i v j;split at h;rename_i u B;simp only[execOp,p,q.eval X,q.eval j,q.eval B];exact X3 h K;exact h.elim;exact h.elim;exact h.elim
 case h_24 c p=>
  split at h;rename_i f D;split at h;rename_i g first cap hf
  split at h;rename_i E j;have Y:first++E.toArray++cap=(first.toList++(E++cap.toList)).toArray:=by apply Cz;simp
  simp only[execOp,p,resolve,D,Deferred.ofValue,q.eval hf,pd q j,pure_bind,invoke,Y,h.go,Oper.upon_enter];refine h.out.mono λe w' J=>?_;cases e with
  |returned v=>exact A v w' J
  |panicked Z=>exact O Z w' J
  |outgrown=>exact J.elim
  exact h.elim;exact h.elim;rename_i b D;split at h;rename_i E j;obtain⟨v,w',hr,h'⟩:=h.out;simp only[execOp,p,resolve,D,pd q j,pure_bind,invoke];exact Eq.mpr (cM (o.upon P a next Q) hr) (A v w' h');exact h.elim;exact h.elim
 case h_25 t u x p=>
  split at h;rename_i v j;simp only[execOp,p,q.eval j];exact DT h A;exact h.elim
 case h_26=>exact h.elim
def BE:List Oper->Nat->Option Nat
 |[],_=>none
 |o::_,0=>o.dst
 |_::r,n+1=>BE r n
def VF(N:Nat)(d:Option Nat)(X:Prop):Prop:=match d with
 |none=>X
 |some d=>match Nat.blt d N with
  |true=>X
  |false=>False
def wd(r:Option Nat):Fence:={Fence.wide with round:=r}
def Ng{r:Option Nat}{n:Nat}{f:cm}{args:Array ce}{w:cd}{R:Ending->cd->Prop}(h:Calls P f args w R):CallsIn (wd r) n P f args w R:=callsIn_wide.2 h
structure Zc(P:cf)(lp:Nat)(args:List ce)(w:cd)(k:ce->cd->Prop)(pan:List PanicEntry->cd->Prop):Prop where
 out:∃f tmps assign body,(Instr.yield lp args.toArray).run P w=.ok (.round lp f tmps assign body) w/\RoundIn Fence.wide 0 P lp f tmps assign body w λe w'=>match e with
  | .returned v=>k v w'
  | .panicked c=>pan c w'
  | .outgrown=>False
def Fo(P:cf)(T:BC)(ks:List Nat)(l:L)(w:cd)(o:Oper)(k:ce->cd->Prop)(s:cd->Prop)(pan:List PanicEntry->cd->Prop):Prop:=
 match o.op with
 | .call c=>(match c.callee with
  | .value f=>(match ev l f with
   |some (.func (.yield a) first _)=>(match evs l c.args.toList with
    |some b=>Zc P a (first.toList++b) w k pan
    |none=>False)
   |_=>GG P T ks l w o k s pan)
  |_=>GG P T ks l w o k s pan)
 |_=>GG P T ks l w o k s pan
theorem zl{r:Option Nat}{n:Nat}{x:Result Next}(h:o.upon P a next Q x):o.uponIn (wd r) n P a next Q x:=by
 have UH:((wd r).depth.isSome=true->1<=n):=λh=>by cases h
 cases x with
 |ok v w'=>
  cases v with
  |value v=>exact h
  |skip=>exact h
  |defer d=>exact h
  |enter f args=>exact⟨UH,(Ng h).mono λe w h=>by cases e<;>exact h⟩
  |row row args=>exact⟨UH,λc cs _=>let⟨v,w',r,s⟩:=h c cs;⟨v,w',r,stepsIn_wide.2 s⟩⟩
  |_=>exact h.elim
 |halt e w'=>
  cases e with
  |panic v=>exact h
  |_=>exact h.elim
def Fp(h:GG P T ks l w o k s pan):∀c,o.op≠ .defer c:=λc e=>by unfold GG at h;rw[e]at h;exact h
def Ht{r:Option Nat}(y:n5 P T)(j:vE N l a)(h:Fo P T ks l w o k s pan)(p:∀v w',k v w'->next (a.put o.dst v) w')(z:∀w',s w'->next (a.put o.dst undef) w')(q:∀c w',pan c w'->Q (.panic c) a w'):o.wpIn (wd r) 0 P a w next Q:=by
 have plain:GG P T ks l w o k s pan->o.wpIn (wd r) 0 P a w next Q:=λh=>by refine⟨λ_ _=>trivial,?_⟩;rw[Oper.semAt_eq _ _ _ (Fp h)];exact zl (iz y j h p z q)
 unfold Fo at h;split at h;rename_i c t;split at h;rename_i f A;split at h;rename_i u first cap hf
 split at h;rename_i x B;obtain⟨g,d,b,i,C,D⟩:=h.out;refine⟨λ_ _=>trivial,?_⟩;rw[Oper.semAt_eq _ _ _ (λc e=>by rw[t]at e;cases e)];have E:first++x.toArray=(first.toList++x).toArray:=by apply Cz;simp
 have e:Sem.run P (execOp a.eval o) w=.ok (.round u g d b i) w:=by simp only[execOp,t,resolve,A,Deferred.ofValue,j.eval hf,pd j B,pure_bind,invoke,E,C]
 rw[e]
 have m:RoundIn (wd r) (0-1) P u g d b i w λe w'=>match e with
  | .returned v=>k v w'
  | .panicked c=>pan c w'
  | .outgrown=>False:=D
 refine⟨(λh=>by cases h),m.mono ?_⟩;intro e w' n;cases e with
 |returned v=>exact p _ _ n
 |panicked c=>exact q _ _ n
 |outgrown=>exact n.elim
 exact h.elim;exact plain h;exact plain h;exact plain h
structure rp(ds:List Deferred)(N:Nat)(l:L)(a:Act):Prop where
 b:vE N l a
 d:a.defers=ds
def Fr.Zd{N:Nat}{l:L}{a:Act}(h:Fr N l a):rp [] N l a:=⟨h.b,h.defers⟩
def rp.fr{N:Nat}{l:L}{a:Act}(h:rp [] N l a):Fr N l a:=⟨h.b.size,h.d,h.b.at_⟩
theorem vE.put{N:Nat}{l:L}{a:Act}(h:vE N l a)(d:Option Nat)(v:ce)(b:∀t,d=some t->t<N):vE N (ins N d v l) (a.put d v):=by have c:Fr N l ⟨a.tmps,[]⟩:=⟨h.size,rfl,h.at_⟩;have:=c.put d v b;cases d<;>exact⟨this.size,this.at_⟩
theorem vE.zk{N:Nat}{l:L}{a:Act}(h:vE N l a){d:Nat}{v:ce}(b:lk l d=some v):vE N ((d,v)::l) a:=by have c:Fr N l ⟨a.tmps,[]⟩:=⟨h.size,rfl,h.at_⟩;have:=c.zk b;exact⟨this.size,this.at_⟩
theorem rp.put{ds:List Deferred}{N:Nat}{l:L}{a:Act}(h:rp ds N l a)(d:Option Nat)(v:ce)(c:∀t,d=some t->t<N):rp ds N (ins N d v l) (a.put d v):=⟨h.b.put d v c,(tA _ _ _).trans h.d⟩
theorem rp.zk{ds:List Deferred}{N:Nat}{l:L}{a:Act}(h:rp ds N l a){d:Nat}{v:ce}(c:lk l d=some v):rp ds N ((d,v)::l) a:=⟨h.b.zk c,h.d⟩
def rp.sub{ds:List Deferred}{N:Nat}{l l':L}{a:Act}(h:rp ds N l a)(c:Sub l' l):rp ds N l' a:=⟨⟨h.b.size,λt v e=>h.b.at_ t v (c.lk e)⟩,h.d⟩
def pK(P:cf)(T:BC)(N:Nat)(K:L->cd->Prop)(pan:L->List PanicEntry->cd->Prop)(a:List Oper):List Oper->List Nat->L->cd->Prop
 |[],_,l,w=>K l w
 |o::r,ks,l,w=>VF N o.dst (match o.guard with
  |none=>Fo P T ks l w o (λv w'=>pK P T N K pan a r ks (ins N o.dst v l) w') (λw'=>pK P T N K pan a r ks (ins N o.dst undef l) w') (pan l)
  |some (g,c)=>match BE a g with
   |none=>False
   |some d=>match lk l d with
    |some (.bool b)=>(match mem d ks with
     |true=>(match b,c with
      |true,true=>Fo P T ks l w o (λv w'=>pK P T N K pan a r ks (ins N o.dst v l) w') (λw'=>pK P T N K pan a r ks (ins N o.dst undef l) w') (pan l)
      |false,false=>Fo P T ks l w o (λv w'=>pK P T N K pan a r ks (ins N o.dst v l) w') (λw'=>pK P T N K pan a r ks (ins N o.dst undef l) w') (pan l)
      |_,_=>pK P T N K pan a r ks (ins N o.dst undef l) w)
     |false=>(b=true->match c with
      |true=>Fo P T (d::ks) ((d,.bool true)::l) w o (λv w'=>pK P T N K pan a r (d::ks) (ins N o.dst v ((d,.bool true)::l)) w') (λw'=>pK P T N K pan a r (d::ks) (ins N o.dst undef ((d,.bool true)::l)) w') (pan ((d,.bool true)::l))
      |false=>pK P T N K pan a r (d::ks) (ins N o.dst undef ((d,.bool true)::l)) w)/\
      (b=false->match c with
       |false=>Fo P T (d::ks) ((d,.bool false)::l) w o (λv w'=>pK P T N K pan a r (d::ks) (ins N o.dst v ((d,.bool false)::l)) w') (λw'=>pK P T N K pan a r (d::ks) (ins N o.dst undef ((d,.bool false)::l)) w') (pan ((d,.bool false)::l))
       |true=>pK P T N K pan a r (d::ks) (ins N o.dst undef ((d,.bool false)::l)) w))
    |some (.tuple _)=>pK P T N K pan a r ks (ins N o.dst undef l) w
    |_=>False)
def I2{X:Prop}{d:Option Nat}(h:VF N d X):X/\∀t,d=some t->t<N:=by
 cases d with
 |none=>exact⟨h,λ_ e=>by cases e⟩
 |some d=>
  simp only[VF]at h;split at h;rename_i a;exact⟨h,λt e=>by cases e;simpa[Nat.blt_eq]using a⟩;exact h.elim
theorem pf:∀(l:List Oper) (g:Nat),BE l g=(l[g]?).bind (·.dst)
 |[],_=>rfl
 |_::_,0=>rfl
 |_::r,n+1=>(pf r n).trans (by simp)
def wZ{ops:Array Oper}{a:Act}{g d:Nat}{vs:Array ce}(c:(ops[g]?).bind (·.dst)=some d)(b:a.eval (.tmp d)=.tuple vs):yielded ops a.tmps g=none:=by
 rw[kH]at b;unfold yielded;rw[c];simp only[vI];cases e:a.tmps[d]? with
 |none=>rfl
 |some x=>rw[e]at b;simp at b;subst b;rfl
theorem nu{r0:Option Nat}{ds:List Deferred}(A:n5 P T){K:L->cd->Prop}{pan:L->List PanicEntry->cd->Prop}{ops:Array Oper}(B:∀l a w,rp ds N l a->K l w->Q .normal a w)(C:∀l c a w,rp ds N l a->pan l c w->Q (.panic c) a w):∀(r:List Oper) (i:Nat) (ks:List Nat) (l:L) (a:Act) (w:cd),(∀j,r[j]? =ops[i+j]?)->rp ds N l a->pK P T N K pan ops.toList r ks l w->wpOpsIn (wd r0) 0 P ops Q (List.range' i r.length) a w
 |[],i,ks,l,a,w,_,e,h=>B l a w e h
 |o::r,i,ks,l,a,w,G,e,h=>by
  have H:ops[i]? =some o:=(G 0).symm;have s:∀j,r[j]? =ops[i+1+j]? :=λj=>by have:=G (j+1);simpa[yz,Nat.add_comm 1 j]using this
  obtain⟨h,E⟩:=I2 h
  have n:∀ks l,rp ds N l a->Region.wanted o (yielded ops a.tmps)=true->Fo P T ks l w o (λv q=>pK P T N K pan ops.toList r ks (ins N o.dst v l) q) (λq=>pK P T N K pan ops.toList r ks (ins N o.dst undef l) q) (pan l)->
   wpOpsIn (wd r0) 0 P ops Q (List.range' i (o::r).length) a w:=by
   intro ks l e m h;rw[dW,Rc];simp only[wpOpsIn,H,m,cX];refine(Ht A e.b h (λv q t=>?_) (λq t=>?_) λc q t=>C l c a q e t);exact nu A B C r (i+1) ks _ _ q s (e.put o.dst v E) t;exact nu A B C r (i+1) ks _ _ q s (e.put o.dst undef E) t
  have skip:∀ks l,rp ds N l a->Region.wanted o (yielded ops a.tmps)=false->pK P T N K pan ops.toList r ks (ins N o.dst undef l) w->wpOpsIn (wd r0) 0 P ops Q (List.range' i (o::r).length) a w:=by intro ks l e m h;rw[dW,Rc];simp only[wpOpsIn,H,m,iq,eo];refine⟨λ_ _=>trivial,?_⟩;exact nu A B C r (i+1) ks _ _ w s (e.put o.dst undef E) h
  split at h;rename_i D;exact n ks l e (by simp[Region.wanted,D]) h;rename_i g k D;split at h;exact h.elim;rename_i d u;rw[pf]at u;have y:(ops[g]?).bind (·.dst)=some d:=by simpa using u
  split at h;rename_i b z;have f:a.eval (.tmp d)=.bool b:=e.b.at_ d _ z;have F:yielded ops a.tmps g=some b:=by
   rw[kH]at f;unfold yielded;rw[y];simp only[vI];cases I:a.tmps[d]? with
   |none=>rw[I]at f;simp[undef]at f
   |some x=>rw[I]at f;simp at f;subst f;rfl
  have m:Region.wanted o (yielded ops a.tmps)=(b==k):=by simp[Region.wanted,D,F]
  split at h;cases b<;>cases k<;>simp only at h;exact n ks l e (by rw[m];rfl) h;exact skip ks l e (by rw[m];rfl) h;exact skip ks l e (by rw[m];rfl) h;exact n ks l e (by rw[m];rfl) h;cases b with
  |true=>
   have h:=h.1 rfl;have p:=e.zk z;cases k with
   |true=>simp only at h;exact n (d::ks) ((d,.bool true)::l) p (by rw[m];rfl) h
   |false=>exact skip (d::ks) ((d,.bool true)::l) p (by rw[m];rfl) h
  |false=>
   have h:=h.2 rfl;have p:=e.zk z;cases k with
   |true=>exact skip (d::ks) ((d,.bool false)::l) p (by rw[m];rfl) h
   |false=>simp only at h;exact n (d::ks) ((d,.bool false)::l) p (by rw[m];rfl) h
  rename_i J z;have f:a.eval (.tmp d)=.tuple J:=e.b.at_ d _ z;have F:yielded ops a.tmps g=none:=wZ y f;exact skip ks l e (by simp[Region.wanted,D,F]) h;exact h.elim
end
abbrev QW:=Exit->L->cd->Prop
def lift(N:Nat)(Q:QW):Exit->Act->cd->Prop:=λe a w=>∃l,Fr N l a/\Q e l w
def Ry(K:L->cd->Prop)(Q:QW):QW
 | .normal,l,w=>K l w
 | .exit i,l,w=>Q (.exit i) l w
 | .goto i,l,w=>Q (.goto i) l w
 | .ret,l,w=>Q .ret l w
 | .panic c,l,w=>Q (.panic c) l w
 | .outgrown,l,w=>Q .outgrown l w
def kJ(id:Nat)(Q:QW):QW
 | .exit i,l,w=>match Nat.beq i id with
  |true=>Q .normal l w
  |false=>Q (.exit i) l w
 | .normal,l,w=>Q .normal l w
 | .goto i,l,w=>Q (.goto i) l w
 | .ret,l,w=>Q .ret l w
 | .panic c,l,w=>Q (.panic c) l w
 | .outgrown,l,w=>Q .outgrown l w
structure kq(P:cf)(N:Nat)(c:Code)(l:L)(w:cd)(Q:QW):Prop where
 out:∀a,Fr N l a->c.wp P (lift N Q) a w
def WC(P:cf)(T:BC)(N:Nat):Code->QW->L->cd->Prop
 | .skip,Q,l,w=>Q .normal l w
 | .label _,Q,l,w=>Q .normal l w
 | .ret,Q,l,w=>Q .ret l w
 | .exit i,Q,l,w=>Q (.exit i) l w
 | .goto i,Q,l,w=>Q (.goto i) l w
 | .region i ops d,Q,l,w=>(match d with
  |false=>pK P T N (Q .normal) (λl c w=>Q (.panic c) l w) ops.toList ops.toList [] l w
  |true=>kq P N (.region i ops true) l w Q)
 | .seq x y,Q,l,w=>WC P T N x (Ry (WC P T N y Q) Q) l w
 | .cond c x y,Q,l,w=>(match ev l c with
  |some (.bool b)=>(b=true->WC P T N x Q l w)/\(b=false->WC P T N y Q l w)
  |_=>False)
 | .block i c,Q,l,w=>(match c with
  | .loop c'=>kq P N (.block i (.loop c')) l w Q
  | .rangeFunc f ps a b=>kq P N (.block i (.rangeFunc f ps a b)) l w Q
  |_=>WC P T N c (kJ i Q) l w)
 | .loop c,Q,l,w=>kq P N (.loop c) l w Q
 | .scope c,Q,l,w=>kq P N (.scope c) l w Q
 | .rangeFunc f ps a b,Q,l,w=>kq P N (.rangeFunc f ps a b) l w Q
 | .refuse _,_,_,_=>False
theorem hZ{P:cf}{T:BC}{N:Nat}(q:n5 P T):∀(c:Code) (Q:QW) (l:L) (a:Act) (w:cd),Fr N l a->WC P T N c Q l w->c.wp P (lift N Q) a w
 | .skip,Q,l,a,w,k,h=>wp_skip ⟨l,k,h⟩
 | .label _,Q,l,a,w,k,h=>wp_label ⟨l,k,h⟩
 | .ret,Q,l,a,w,k,h=>wp_ret ⟨l,k,h⟩
 | .exit i,Q,l,a,w,k,h=>wp_exit ⟨l,k,h⟩
 | .goto i,Q,l,a,w,k,h=>wp_goto ⟨l,k,h⟩
 | .region i ops d,Q,l,a,w,k,h=>by
  cases d with
  |true=>exact kq.out h a k
  |false=>
   refine wpIn_wide.1 (wpIn_region (n:=0) ?_);have:=nu (r0:=none) (ds:=[]) q (Q:=lift N Q) (λl a w k s=>⟨l,k.fr,s⟩) (λl c a w k s=>⟨l,k.fr,s⟩) ops.toList 0 [] l a w (λj=>by simp) k.Zd h;rw[Array.length_toList,<-List.range_eq_range']at this;exact this
 | .seq x y,Q,l,a,w,k,h=>by
  refine jU (lV (hZ q x _ l a w k h) ?_);rintro e v z ⟨r,m,o⟩;cases e with
  |normal=>exact hZ q y Q r v z m o
  |_=>exact⟨r,m,o⟩
 | .cond c x y,Q,l,a,w,k,h=>by simp only[WC]at h;split at h;rename_i b t;refine wp_cond_split (k.eval t) (λA=>?_) λB=>?_;exact hZ q x Q l a w k (h.1 A);exact hZ q y Q l a w k (h.2 B);exact h.elim
 | .block i c,Q,l,a,w,k,h=>by
  have u:WC P T N c (kJ i Q) l w->(Code.block i c).wp P (lift N Q) a w:=λh=>by
   refine wp_block (lV (hZ q c _ l a w k h) ?_);rintro e v z ⟨r,m,o⟩;cases e with
   |exit j=>
    simp only[Exit.inBlock];simp only[kJ]at o;by_cases p:j=i;subst p;rw[cx rfl];rw[yA]at o;exact⟨r,m,o⟩;rw[cr p];have:Nat.beq j i=false:=by
     cases t:Nat.beq j i with
     |false=>rfl
     |true=>exact absurd (gE t) p
    rw[this]at o;exact⟨r,m,o⟩
   |_=>exact⟨r,m,o⟩
  cases c with
  |loop D=>exact kq.out h a k
  |rangeFunc f C g b=>exact kq.out h a k
  |_=>exact u h
 | .loop c,Q,l,a,w,k,h=>kq.out h a k
 | .scope c,Q,l,a,w,k,h=>kq.out h a k
 | .rangeFunc f C g b,Q,l,a,w,k,h=>kq.out h a k
 | .refuse _,_,_,_,_,_,h=>h.elim
def flat:Code->Bool
 | .region _ _ d=>!d
 | .seq x y=>flat x&&flat y
 | .cond _ x y=>flat x&&flat y
 | .block _ c=>flat c
 | .loop _=>false
 | .scope _=>false
 | .rangeFunc _ _ _ _=>false
 |_=>true
def Nh(ds:List Deferred)(N:Nat)(Q:QW):Exit->Act->cd->Prop:=λe a w=>∃l,rp ds N l a/\Q e l w
theorem j8{P:cf}{T:BC}{N:Nat}{r:Option Nat}{ds:List Deferred}(q:n5 P T):∀(c:Code) (Q:QW) (l:L) (a:Act) (w:cd),flat c=true->rp ds N l a->WC P T N c Q l w->c.wpIn (wd r) 0 P (Nh ds N Q) a w
 | .skip,Q,l,a,w,_,k,h=>wpIn_skip ⟨l,k,h⟩
 | .label _,Q,l,a,w,_,k,h=>wpIn_label ⟨l,k,h⟩
 | .ret,Q,l,a,w,_,k,h=>wpIn_ret ⟨l,k,h⟩
 | .exit i,Q,l,a,w,_,k,h=>wpIn_exit ⟨l,k,h⟩
 | .goto i,Q,l,a,w,_,k,h=>wpIn_goto ⟨l,k,h⟩
 | .region i ops d,Q,l,a,w,m,k,h=>by
  cases d with
  |true=>cases m
  |false=>
   refine wpIn_region ?_;have:=nu (r0:=r) (ds:=ds) q (Q:=Nh ds N Q) (λl a w k t=>⟨l,k,t⟩) (λl c a w k t=>⟨l,k,t⟩) ops.toList 0 [] l a w (λj=>by simp) k h;rw[Array.length_toList,<-List.range_eq_range']at this;exact this
 | .seq x y,Q,l,a,w,m,k,h=>by
  simp only[flat,ez]at m;refine wpIn_seq (wpIn_mono (j8 q x _ l a w m.1 k h) ?_);rintro e z A ⟨s,n,o⟩;cases e with
  |normal=>exact j8 q y Q s z A m.2 n o
  |_=>exact⟨s,n,o⟩
 | .cond c x y,Q,l,a,w,m,k,h=>by simp only[flat,ez]at m;simp only[WC]at h;split at h;rename_i b u;refine wpIn_cond_split (k.b.eval u) (λB=>?_) λC=>?_;exact j8 q x Q l a w m.1 k (h.1 B);exact j8 q y Q l a w m.2 k (h.2 C);exact h.elim
 | .block i c,Q,l,a,w,m,k,h=>by
  have v:flat c=true->WC P T N c (kJ i Q) l w->(Code.block i c).wpIn (wd r) 0 P (Nh ds N Q) a w:=λm h=>by
   refine wpIn_block (wpIn_mono (j8 q c _ l a w m k h) ?_);rintro e z A ⟨s,n,o⟩;cases e with
   |exit j=>
    simp only[Exit.inBlock];simp only[kJ]at o;by_cases p:j=i;subst p;rw[cx rfl];rw[yA]at o;exact⟨s,n,o⟩;rw[cr p];have:Nat.beq j i=false:=by
     cases u:Nat.beq j i with
     |false=>rfl
     |true=>exact absurd (gE u) p
    rw[this]at o;exact⟨s,n,o⟩
   |_=>exact⟨s,n,o⟩
  cases c with
  |loop E=>cases m
  |rangeFunc f D g b=>cases m
  |_=>exact v m h
 | .loop c,Q,l,a,w,m,k,h=>by cases m
 | .scope c,Q,l,a,w,m,k,h=>by cases m
 | .rangeFunc f D g b,Q,l,a,w,m,k,h=>by cases m
 | .refuse _,_,_,_,_,_,_,h=>h.elim
def Fq(P:cf):List ResultVar->L->cd->(List ce->Prop)->Prop
 |[],_,_,k=>k []
 | .tmp t::r,l,w,k=>match lk l t with
  |some v=>Fq P r l w λvs=>k (v::vs)
  |none=>False
 | .cell t ty::r,l,w,k=>match lk l t with
  |some (.pointer (some ad))=>∃v,Sem.run P (loadVar ty ad) w=.ok v w/\Fq P r l w λvs=>k (v::vs)
  |_=>False
def one(vs:List ce):ce:=match vs with
 |[v]=>v
 |vs=>.tuple vs.toArray
def QR(P:cf)(a:List ResultVar)(R:Ending->cd->Prop):QW
 | .normal,l,w=>Fq P a l w λvs=>R (.returned (one vs)) w
 | .ret,l,w=>Fq P a l w λvs=>R (.returned (one vs)) w
 | .panic c,_,w=>R (.panicked c) w
 |_,_,_=>False
def Kd(tm:Array ce):ResultVar->Sem ce
 | .tmp t=>pure (tm.getD t undef)
 | .cell x t=>do loadVar t (<-asAddr (tm.getD x undef))
theorem zm{P:cf}{N:Nat}{a:Act}{w:cd}:∀(j:List ResultVar) (l:L) (k:List ce->Prop),Fr N l a->Fq P j l w k->∃vs,Sem.run P (j.mapM (Kd a.tmps)) w=.ok vs w/\k vs
 |[],l,k,c,h=>⟨[],by simp[Sem.run_pure],h⟩
 | .tmp t::r,l,k,c,h=>by simp only[Fq]at h;split at h;rename_i v d;obtain⟨vs,e,f⟩:=zm r l _ c h;have b:Kd a.tmps (.tmp t)=pure v:=cM pure (c.at_ t v d);refine⟨v::vs,?_,f⟩;rw[List.mapM_cons,b];simp only[Sem.run_bind,Sem.run_pure,Result.andThen_ok,e];exact h.elim
 | .cell t g::r,l,k,c,h=>by
  simp only[Fq]at h;split at h;rename_i m d;obtain⟨v,n,h⟩:=h;obtain⟨vs,e,f⟩:=zm r l _ c h;have b:a.tmps.getD t undef=.pointer (some m):=c.at_ t _ d;have i:Kd a.tmps (.cell t g)=loadVar g m:=by show(do loadVar g (<-asAddr (a.tmps.getD t undef)))=_;rw[b];rfl
  refine⟨v::vs,?_,f⟩;rw[List.mapM_cons,i];simp only[Sem.run_bind,n,Result.andThen_ok,e,Sem.run_pure];exact h.elim
def zn(fn:Func)(tm:Array ce):results fn tm=(do let vs<-fn.results.mapM (Kd tm);pure (if h:vs.size=1 then vs[0]else .tuple vs)):=by unfold results;congr 1
def Rz{P:cf}{fn:Func}{c:Code}{args:List ce}{w:cd}{R:Ending->cd->Prop}(N:Nat)(h:kq P N c (args.zipIdx.map λp=>(p.2,p.1)) w (QR P fn.results.toList R))(a:Act)(z:a.tmps.size=N)(d:a.defers=[])(sa:∀i v,args.toArray[i]? =some v->a.eval (.tmp i)=v):c.wp P (bodyPost P fn R) a w:=by
 have A:Fr N (args.zipIdx.map λp=>(p.2,p.1)) a:=by
  refine⟨z,d,λt v B=>?_⟩;refine sa t v ?_
  have o:∀(k:List ce) (n:Nat),lk ((k.zipIdx n).map λp=>(p.2,p.1)) t=some v->n<=t/\k[t-n]? =some v:=by
   intro k;induction k with
   |nil=>intro n h;cases h
   |cons x r C=>
    intro n h;simp only[List.zipIdx_cons,jP,lk]at h;cases l:Nat.beq n t with
    |true=>
     rw[l]at h;have:n=t:=gE l;subst this;exact⟨cz _,by simpa using h⟩
    |false=>
     rw[l]at h;have D:n≠t:=vH l;obtain⟨u,q⟩:=C (n+1) h;refine⟨by omega,?_⟩;have:t-n=(t-(n+1))+1:=by omega
     rw[this];simpa using q
  have:=(o args 0 B).2;simpa using this
 refine lV (h.out a A) ?_;rintro e s f ⟨E,g,b⟩
 have j:Fq P fn.results.toList E f (λm=>R (.returned (one m)) f)->s.defers=[]/\∃v,(results fn s.tmps).run P f=.ok v f/\R (.returned v) f:=λb=>by
  obtain⟨m,u,q⟩:=zm _ _ _ g b;refine⟨g.defers,_,?_,q⟩;rw[zn,Sem.run_bind];have F:Sem.run P (fn.results.mapM (Kd s.tmps)) f=.ok m.toArray f:=by rw[Iz,Sem.run_map,u];rfl
  rw[F];simp only[Result.andThen_ok,Sem.run_pure];congr 1;rcases m with _|⟨x,_|⟨y,r⟩⟩;rfl;rfl;simp[one]
 cases e with
 |normal=>exact j b
 |ret=>exact j b
 |panic c=>exact⟨g.defers,b⟩
 |exit i=>exact b.elim
 |goto i=>exact b.elim
 |outgrown=>exact b.elim
def RA{P:cf}{f:cm}{fn:Func}{c:Code}{args:List ce}{w:cd}{R:Ending->cd->Prop}(N:Nat)
 (b:P.funcs[f]? =some fn)(d:fn.body=some c)(e:fn.ntmps=N)(a:args.length<=N)(h:kq P N c (args.zipIdx.map λp=>(p.2,p.1)) w (QR P fn.results.toList R)):Calls P f args.toArray w R:=
 Nc N b d e (Rz N h) (by simpa using a)
def UI{P:cf}{T:BC}(d:n5 P T){f:cm}{fn:Func}{c:Code}{args:List ce}{w:cd}{R:Ending->cd->Prop}(N:Nat)
 (e:P.funcs[f]? =some fn)(g:fn.body=some c)(i:fn.ntmps=N)(b:args.length<=N)(h:WC P T N c (QR P fn.results.toList R) (args.zipIdx.map λp=>(p.2,p.1)) w):Calls P f args.toArray w R:=
 RA N e g i b ⟨λa j=>hZ d c _ _ a w j h⟩
theorem kq.seq{P:cf}{T:BC}(d:n5 P T){N:Nat}{x y:Code}{l:L}{w:cd}{Q:QW}(h:WC P T N x (Ry (λl' w'=>kq P N y l' w' Q) Q) l w):kq P N (.seq x y) l w Q:=⟨λa f=>by
 refine jU (lV (hZ d x _ l a w f h) ?_);rintro e g w' ⟨l',b,c⟩;cases e with
 |normal=>exact c.out g b
 |_=>exact⟨l',b,c⟩⟩
def kq.of{P:cf}{T:BC}(b:n5 P T){N:Nat}{c:Code}{l:L}{w:cd}{Q:QW}(h:WC P T N c Q l w):kq P N c l w Q:=⟨λa d=>hZ b c _ l a w d h⟩
end Go.Proofs.W
