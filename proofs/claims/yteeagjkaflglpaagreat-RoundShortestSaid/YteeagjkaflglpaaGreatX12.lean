/- Laws that the proof needs, part 12. Conditions: none. -/
import Derived.Scope
import Derived.RangeFuncRecord
import Derived.RangeFuncLeaves
import Derived.Test.YteeagjkaflglpaaGreatX11
set_option maxRecDepth 100000
set_option maxHeartbeats 8000000
set_option linter.all false
namespace Go.Proofs.W
open Go.RowKit
def iM(b x:Sp):Sp:=if iH x b then x else b
theorem ii(l l':List Int)(m k a b:Int):iH (some (l,m,k)) (some (l',a,b))=decide (m<a\/m=a/\k<b):=by
 simp only[iH];by_cases h:m=a
 ·subst h;simp
 ·simp[h]
theorem jH(x:Sp):iM none x=x:=by cases x<;>simp[iM,iH]
theorem yw(a b c:Sp):iM (iM a b) c=iM a (iM b c):=by
 rcases a with _|⟨l,m,k⟩
 ·simp only[jH]
 rcases b with _|⟨o,f,i⟩
 ·have:iM (some (l,m,k)) none=some (l,m,k):=rfl;rw[this,jH]
 rcases c with _|⟨n,d,e⟩
 ·rfl
 simp only[iM,ii,decide_eq_true_eq];by_cases h:f<m\/f=m/\i<k
 ·by_cases g:d<f\/d=f/\e<i
  ·have j:d<m\/d=m/\e<k:=by omega
   simp[h,g,j,ii]
  ·simp[h,g,ii]
 ·by_cases g:d<f\/d=f/\e<i
  ·simp[h,g,ii]
  ·have j:¬(d<m\/d=m/\e<k):=by omega
   simp[h,g,j,ii]
theorem C7(l:List Sp):kJ l=l.foldl iM none:=by
 cases l with
 |nil=>rfl
 |cons x a=>
  rw[List.foldl_cons,jH];rfl
theorem oD{α:Type}(f:Sp->α->Sp)(a:∀b i,f b i=iM b (f none i)):∀(l:List α) (b:Sp),l.foldl f b=iM b (l.foldl f none)
 |[],b=>by cases b<;>rfl
 |i::l,b=>by rw[List.foldl_cons,List.foldl_cons,oD f a l (f b i),oD f a l (f none i),a b i,yw]
def dI(D:cU)(k:Nat):Nat:=D.opn.getD k 0
def cJ(D:cU)(k:Nat):List (List Nat):=D.lists.getD k []
def cV(D:cU):Nat->List Nat->(Nat->Nat)->Sp->Sp
 |0,ps,L,a=>iM a (cZ D L ps)
 |n+1,ps,L,a=>(List.range (cJ D ps.length).length).foldl (λb i=>cV D n (ps++[i]) (gB (dI D ps.length) ((cJ D ps.length).getD i []) L) b) a
theorem n5(D:cU):∀(n:Nat) (ps:List Nat) (L:Nat->Nat) (b:Sp),cV D n ps L b=iM b (cV D n ps L none)
 |0,ps,L,b=>by simp only[cV,jH]
 |n+1,ps,L,b=>by simp only[cV];exact oD (λb i=>cV D n (ps++[i]) (gB (dI D ps.length) ((cJ D ps.length).getD i []) L) b) (λb i=>n5 D n _ _ b) _ b
def L0:Nat->Nat:=λ_=>0
def eE(D:cU):Sp:=cV D D.opn.length [] L0 none
def yx(D:cU)(i:Nat):Sp:=cV D (D.opn.length-1) [i] (gB (dI D 0) ((cJ D 0).getD i []) L0) none
theorem AL(D:cU)(h:0<D.opn.length):eE D=kJ ((List.range (cJ D 0).length).map (yx D)):=by rw[C7,List.foldl_map];unfold eE;obtain⟨m,a⟩:∃m,D.opn.length=m+1:=⟨D.opn.length-1,by omega⟩;rw[a];simp only[cV,List.length_nil];congr 1;funext b i;rw[n5];simp only[yx,a,Nat.add_sub_cancel,List.nil_append]
def jI(d:Nat)(l:List Nat)(L:Nat->Nat):Nat->Nat:=λs=>if s∈l then mY (L s) d else L s
theorem C8:∀x,x<32->∀d,d<5->mY (mY x d) d=mY x d:=by decide+kernel
theorem FL:∀x,x<32->∀d,d<5->mY x d=x->mY (mz x d) d=x:=by decide+kernel
theorem yy:∀x,x<32->∀d,d<5->∀a,a<5->d≠a->mY x a=x->mY (mz x d) a=mz x d:=by decide+kernel
theorem yz{d:Nat}{l:List Nat}{L:Nat->Nat}(c:d<5)(a:∀s,s<6->L s<32):∀s,s<6->jI d l L s<32:=by
 intro s b;unfold jI;split
 ·exact Ig _ (a s b) _ c
 ·exact a s b
theorem AM{d:Nat}{l:List Nat}{L:Nat->Nat}(c:d<5)(e:∀s,s<6->L s<32)(k:Nat)(f:k<l.length)(g:l[k]<6):AJ (jI d (l.take k) L) l[k] (mY (jI d (l.take k) L l[k]) d)=jI d (l.take (k+1)) L:=by
 funext s;have a:∀s,s∈l.take (k+1)↔s∈l.take k\/s=l[k]:=λs=>by rw[iy _ _ f];exact List.mem_append.trans (or_congr Iff.rfl List.mem_singleton)
 unfold AJ jI;by_cases b:s=l[k]
 ·subst b;rw[if_pos rfl,if_pos ((a _).2 (.inr rfl))];split
  ·exact C8 _ (e _ g) _ c
  ·rfl
 ·rw[if_neg b];by_cases h:s∈l.take k
  ·rw[if_pos h,if_pos ((a _).2 (.inl h))]
  ·rw[if_neg h,if_neg λi=>((a _).1 i).elim h b]
theorem yA{d:Nat}{l:List Nat}{L:Nat->Nat}(b:d<5)(c:∀s,s<6->L s<32)(e:∀s,s<6->mY (L s) d=L s):∀s,s<6->jI d l (gB d l L) s=L s:=by
 intro s a;unfold jI gB;split
 ·exact FL _ (c s a) _ b (e s a)
 ·rfl
structure rI(N:Nat->Prop)(pb T:Nat)(D:cU)(w:World)(ps:List Nat)(pa:Option Addr)(pc:Nat)(L:Nat->Nat)(y:SV):Prop where
 plan:dA N pb D w
 sep:∀b,N b->b<w.heap.size/\b≠T/\pa≠some ⟨b,0,none⟩
 at_:w.heap[T]? =some (c7 pb pa ps.length pc L y)
 own:lj T w pa pc ps
 lt:∀s,s<6->L s<32
 free:∀s,s<6->∀j,ps.length<=j->j<D.opn.length->mY (L s) (dI D j)=L s
 len:ps.length<=D.opn.length
 bare:D.opn.length=0->pa=none
structure eU(N:Nat->Prop)(pb T:Nat)(D:cU)(m0 j0:Nat)(w:World)(ps:List Nat)(pa:Option Addr)(pc:Nat)(L:Nat->Nat)(y:SV)(s:Sp):Prop where
 t:rI N pb T D w ps pa pc L y
 sched:cz (λb=>m0<=b/\b≠T/\pa≠some ⟨b,0,none⟩) w s y
 cap:qK j0 w s y
 size:m0<=w.heap.size
 drawn:j0<=w.drawn
def yB(N:Nat->Prop)(pb T:Nat)(D:cU)(m0 f:Nat)(w:World)(ps:List Nat)(pa:Option Addr)(L:Nat->Nat)(s:Sp)(e:Ending)(w':World):Prop:=
 e=.returned undef/\∃a c d g,eU N pb T D m0 f w' ps a c d g s/\(∀s,s<6->d s=L s)/\cr (λb=>b=T\/pa=some ⟨b,0,none⟩) w w'/\(a=pa\/∃b,w.heap.size<=b/\a=some ⟨b,0,none⟩)
def Ik:SV:=⟨none,0,0,0,0,false⟩
def yC:Prop:=∀(N:Nat->Prop) (b T:Nat) (D:cU) (c d:Nat) (w:World) (a:List Nat) (e:Option Addr) (f:Nat) (L:Nat->Nat) (y:SV) (s:Sp) (i:Nat),eU N b T D c d w a e f L y s->a.length<D.opn.length->i<(cJ D a.length).length->Calls V.prog 190 #[.pointer (some ⟨T,0,none⟩),.int .i64 i] w (yB N b T D c d w a e L (cV D (D.opn.length-a.length-1) (a++[i]) (gB (dI D a.length) ((cJ D a.length).getD i []) L) s))
def FM:Prop:=∀(N:Nat->Prop) (b T:Nat) (D:cU) (c d:Nat) (w:World) (a:List Nat) (e:Option Addr) (f:Nat) (L:Nat->Nat) (y:SV) (s:Sp),eU N b T D c d w a e f L y s->Calls V.prog 216 #[.pointer (some ⟨T,0,none⟩)] w (yB N b T D c d w a e L (cV D (D.opn.length-a.length) a L s))
theorem oE{w:World}{ad:Addr}{v:Value}(h:w.cell? ad=some v):ad.block<w.heap.size:=by refine Nat.lt_of_not_le λa=>?_;have:w.heap[ad.block]? =none:=Array.getElem?_eq_none a;simp[World.cell?,this]at h
structure Il(T:Nat)(ps:List Nat)(i:Nat)(pa:Option Addr)(pc:Nat)(w w':World):Prop where
 keep:cr (λb=>pa=some ⟨b,0,none⟩) w w'
 own:lj T w pa pc ps->lj T w' pa pc ps
 stay:∀b,pa=some ⟨b,0,none⟩->w.cell? ⟨b,ps.length,none⟩=some (.int .i64 i)->w'.heap[b]? =w.heap[b]?
section
variable{T:Nat}{ps:List Nat}{i:Nat}{pa:Option Addr}{pc:Nat}
theorem lj.ext{w w':World}(h:lj T w pa pc ps)(e:∀b,b<w.heap.size->pa=some ⟨b,0,none⟩->w'.heap[b]? =w.heap[b]?):lj T w' pa pc ps:=by
 rcases h with h|⟨a,f,c,g,d,i⟩
 ·exact .inl h
 ·exact .inr ⟨a,f,c,g,(e a (ck.lt_of_heap d) c).trans d,i⟩
theorem sO{w w':World}(h:Ext w w'):Il T ps i pa pc w w':=⟨h.keep _,λa=>a.ext λb c _=>h.block b c,λb _ d=>h.block b (oE d)⟩
theorem Im:dR (Il T ps i pa pc):=by refine⟨λw=>sO (Ext.refl w),λa b c h k=>⟨h.keep.trans k.keep (λ_ _ h=>h) (λ_ _ h=>h),λg=>k.own (h.own g),λx d e=>?_⟩,λw=>sO (Ext.drew w)⟩;have f:=h.stay x d e;exact(k.stay x d ((Go.Proofs.W.ez (ad:=⟨x,ps.length,none⟩) f).trans e)).trans f
def picked(i:Nat)(w:World)(v:Value)(w':World):Prop:=∃B,v=.slice (some ⟨B,0,none⟩) 1 1/\w.heap.size<=B/\w'.heap[B]? =some (.cells #[.int .i64 i] 3)
theorem yD{w:World}(a:∀b,pa=some ⟨b,0,none⟩->b<w.heap.size):Ij (Il T ps i pa pc) (picked i w):=λv h j ⟨B,c,d,e⟩ f=>
 ⟨B,c,d,f.keep.ef e λg=>by have:=a B g;omega⟩
def sP(T:Nat)(ps:List Nat)(i:Nat)(pa:Option Addr)(w:World)(v:Value)(w':World):Prop:=
 ∃a c,v=.slice a (ps.length+1) c/\lj T w' a c (ps++[i])/\(a=pa\/∃b,w.heap.size<=b/\a=some ⟨b,0,none⟩)
theorem um{w:World}(a:∀b,pa=some ⟨b,0,none⟩->b<w.heap.size):Ij (Il T ps i pa pc) (sP T ps i pa w):=by
 rintro v t u ⟨c,d,m,e,j⟩ k;refine⟨c,d,m,?_,j⟩;rcases e with⟨_,e,_⟩|⟨f,n,g,o,h,p,q,r,l⟩
 ·simp at e
 ·refine .inr ⟨f,n,g,o,?_,p,q,r,l⟩;rcases j with rfl|⟨b,x,rfl⟩
  ·refine(k.stay f g ?_).trans h;have:=l ps.length (by simp);simp only[World.cell?,h];rw[this];simp
  ·obtain rfl:b=f:=congrArg Addr.block (Option.some.inj g);exact k.keep.ef h λs=>by have:=a b s;omega
end
theorem cz.grow{o:Nat->Prop}{w w1:World}{s:Sp}{y:SV}(q:∀b cs a,o b->w.heap[b]? =some (.cells cs 3 a)->w1.heap[b]? =some (.cells cs 3 a))(h:cz o w s y):cz o w1 s y:=by
 cases s with
 |none=>exact h
 |some s=>
  obtain⟨l,m,k⟩:=s;obtain⟨g,i,j,n,c|⟨c,d,p,r,t,u,a,e,f⟩⟩:=h
  ·exact⟨g,i,j,n,.inl c⟩
  ·exact⟨g,i,j,n,.inr ⟨c,d,p,r,t,u,a,e,q _ _ _ p f⟩⟩
theorem cz.imp{o o':Nat->Prop}{w:World}{s:Sp}{y:SV}(p:∀b cs c,o b->w.heap[b]? =some (.cells cs 3 c)->o' b)(h:cz o w s y):cz o' w s y:=by
 cases s with
 |none=>exact h
 |some s=>
  obtain⟨l,m,k⟩:=s;obtain⟨g,i,j,n,d|⟨d,e,q,r,t,u,c,f,a⟩⟩:=h
  ·exact⟨g,i,j,n,.inl d⟩
  ·exact⟨g,i,j,n,.inr ⟨d,e,p _ _ _ q a,r,t,u,c,f,a⟩⟩
theorem cz.move{o o':Nat->Prop}{w w1:World}{s:Sp}{y:SV}(g:∀b cs a,o b->w.heap[b]? =some (.cells cs 3 a)->o' b/\w1.heap[b]? =some (.cells cs 3 a))(h:cz o w s y):cz o' w1 s y:=
 ((h.imp (o':=λb=>∃cs a,o b/\w.heap[b]? =some (.cells cs 3 a)) λb cs a c d=>⟨cs,a,c,d⟩).grow (w1:=w1) λb cs a ⟨_,_,c,_⟩ d=>(g b cs a c d).2).imp λb cs a ⟨e,f,c,d⟩ _=>(g b e f c d).1
theorem cz.ext{o:Nat->Prop}{w w1:World}{s:Sp}{y:SV}(a:Ext w w1)(h:cz o w s y):cz o w1 s y:=h.grow λ_ _ _ _ h=>a.at_ h
theorem qK.tape{a:Nat}{w w1:World}{s:Sp}{y:SV}(b:w1.tape=w.tape)(h:qK a w s y):qK a w1 s y:=λl m k c d=>by obtain⟨j,f,e⟩:=h l m k c d;exact⟨j,f,by rw[b];exact e⟩
def wo(D:cU)(L:Nat->Nat)(ps:List Nat)(a:Nat)(w:World)(v:Value)(w':World):Prop:=∃y:SV,v=y.val/\cz (λb=>w.heap.size<=b) w' (cZ D L ps) y/\qK a w' (cZ D L ps) y
theorem yE{D:cU}{L:Nat->Nat}{ps:List Nat}{b:Nat}{w:World}:Ij Ext (wo D L ps b w):=λ_ _ _ ⟨y,c,d,e⟩ a=>⟨y,c,d.ext a,e.tape a.tape⟩
theorem Ext.eX{w w1:World}(h:Ext w w1){b:Nat}(y:SV)(a:w.heap.size<=b):Ext w (Go.Proofs.W.eX w1 b y):=by unfold Go.Proofs.W.eX;exact(((h.kh _ a).kh _ a).kh _ a).kh _ a
theorem mZ:∀(vs:List Value) (w:World) (b o:Nat) (cs:Array Value) (t:TypeId) (e:Nat×Nat),w.heap[b]? =some (.cells cs t e)->o+vs.length<=cs.size->(w.setCells b o vs).os=w.os/\(w.setCells b o vs).tape=w.tape/\(w.setCells b o vs).output=w.output/\(w.setCells b o vs).drawn=w.drawn/\(w.setCells b o vs).heap.size=w.heap.size/\(∀c,c≠b->(w.setCells b o vs).heap[c]? =w.heap[c]?)/\∃a,(w.setCells b o vs).heap[b]? =some (.cells a t e)/\a.size=cs.size/\(∀j,j<o->a[j]? =cs[j]?)/\(∀j,j<vs.length->a[o+j]? =vs[j]?)/\∀j,o+vs.length<=j->a[j]? =cs[j]?
 |[],w,b,o,cs,t,e,h,l=>⟨rfl,rfl,rfl,rfl,rfl,λ_ _=>rfl,cs,h,rfl,λ_ _=>rfl,λj d=>by simp at d,λ_ _=>rfl⟩
 |v::vs,w,b,o,cs,t,e,h,l=>by
  have f:o+1+vs.length<=cs.size:=by simp at l;omega
  have p:(w.setCell ⟨b,o,none⟩ v).heap[b]? =some (.cells (cs.setIfInBounds o v) t e):=by simp[World.setCell,Array.getElem?_modify,h]
  obtain⟨q,r,s,u,x,y,a,z,A,m,g,i⟩:=mZ vs (w.setCell ⟨b,o,none⟩ v) b (o+1) (cs.setIfInBounds o v) t e p (by simpa using f);have k:o<cs.size:=by omega
  refine⟨q,r,s,u,by rw[show(w.setCells b o (v::vs))=(w.setCell ⟨b,o,none⟩ v).setCells b (o+1) vs from rfl,x];simp[World.setCell],λc n=>?_,a,z,by simpa using A,λj d=>?_,λj d=>?_,λj d=>?_⟩
  ·exact(y c n).trans (ck.Cr.cR _ _ _ _ n)
  ·rw[m j (by omega),Array.getElem?_setIfInBounds_ne (by omega)]
  ·cases j with
   |zero=>rw[m (o+0) (by omega)];simp[k]
   |succ j=>
    have:=g j (by simp at d;omega);rw[show o+(j+1)=o+1+j by omega,this];simp
  ·rw[i j (by simp at d;omega),Array.getElem?_setIfInBounds_ne (by simp at d;omega)]
def cC(n0:Nat)(t:TypeId)(zs:List Value)(w:World)(v:Value)(a:Nat)(e:List Value):Prop:=
 e.length=a*zs.length/\((a=0/\v=.slice none 0 0)\/∃b c d,n0<=b/\v=.slice (some ⟨b,0,none⟩) a c/\w.heap[b]? =some (.cells d t)/\d.size=c*zs.length/\a<=c/\c<2^63/\(∀j,j<e.length->d[j]? =e[j]?)/\∀j,e.length<=j->j<d.size->d[j]? =zs[j%zs.length]?)
def ce(v:Value)(b:Nat):Prop:=∃l c,v=.slice (some ⟨b,0,none⟩) l c
theorem cC.keep{n0:Nat}{t:TypeId}{zs:List Value}{w w':World}{v:Value}{a:Nat}{d:List Value}{F:Nat->Prop}(h:cC n0 t zs w v a d)(k:cr F w w')(g:∀b,ce v b->¬F b):cC n0 t zs w' v a d:=by
 obtain⟨e,h|⟨b,c,i,j,f,l,m⟩⟩:=h
 ·exact⟨e,.inl h⟩
 ·exact⟨e,.inr ⟨b,c,i,j,f,k.ef l (g b ⟨_,_,f⟩),m⟩⟩
theorem cC.ext{n0:Nat}{t:TypeId}{zs:List Value}{w w':World}{v:Value}{a:Nat}{b:List Value}(h:cC n0 t zs w v a b)(k:Ext w w'):cC n0 t zs w' v a b:=h.keep (k.keep λ_=>False) λ_ _ h=>h
theorem cC.nil(n0:Nat)(t:TypeId)(zs:List Value)(w:World):cC n0 t zs w (.slice none 0 0) 0 []:=⟨by simp,.inl ⟨rfl,rfl⟩⟩
theorem cC.blk{n0:Nat}{t:TypeId}{zs:List Value}{w:World}{v:Value}{a:Nat}{d:List Value}(h:cC n0 t zs w v a d){b:Nat}(f:ce v b):n0<=b/\b<w.heap.size:=by
 obtain⟨l,m,e⟩:=f;obtain⟨n,⟨_,h⟩|⟨g,c,o,i,j,k,p⟩⟩:=h
 ·rw[h]at e;cases e
 ·rw[j]at e;injection e with e;obtain rfl:g=b:=congrArg Addr.block (Option.some.inj e);exact⟨i,ck.lt_of_heap k⟩
theorem cC.len{n0:Nat}{t:TypeId}{zs:List Value}{w:World}{v:Value}{b:Nat}{e:List Value}(h:cC n0 t zs w v b e):∃a c,v=.slice a b c/\b<=c/\c<2^63:=by
 obtain⟨j,⟨d,h⟩|⟨k,c,l,d,f,m,n,g,i,_⟩⟩:=h
 ·exact⟨none,0,by rw[h,d],by omega,by omega⟩
 ·exact⟨_,c,f,g,i⟩
theorem cC.cell{n0:Nat}{t:TypeId}{zs:List Value}{w:World}{v:Value}{a:Nat}{d:List Value}(h:cC n0 t zs w v a d)(m:0<a):∃b c,v=.slice (some ⟨b,0,none⟩) a c/\n0<=b/\∀j u,d[j]? =some u->w.cell? ⟨b,j,none⟩=some u:=by
 obtain⟨n,⟨e,h⟩|⟨g,c,o,e,i,k,p,q,r,l,s⟩⟩:=h
 ·omega
 ·refine⟨g,c,i,e,λj u f=>?_⟩;simp only[World.cell?,k];rw[l j (List.getElem?_eq_some_iff.1 f).1,f];rfl
theorem n6(z:Array Value)(n j:Nat)(b:0<z.size)(c:j<n*z.size):(Builtin.zeroCells z n)[j]? =z[j%z.size]? :=by have a:j%z.size<z.size:=Nat.mod_lt _ b;simp[Builtin.zeroCells,c,a]
theorem AN{P:Program}{G ty e:TypeId}{i:TypeInfo}{z:Value}{zs:List Value}(N:P.underlying G=some (.slice e))(O:P.info? e=some i)(X:i.zero=some z)(C:z.cells=zs.toArray)(y:i.size=zs.length)(I:i.bytes<=256)(Y:0<zs.length) {n0:Nat}{w:World}{v:Value}{f:Nat}{p:List Value}(h:cC n0 e zs w v f p)(J:n0<=w.heap.size){a:Addr}{m c:Nat}{news:List Value}(q:news.length=m*zs.length)(hm:0<m)(n:∀j u,news[j]? =some u->w.cell? (a.add j)=some u)(h1:∀u∈news,u.oneCell'=true)(K:f+m<=1000000):∃Q w',(Builtin.append_ #[G,G] ty #[v,.slice (some a) m c]).run P w=.ok Q w'/\cC n0 e zs w' Q (f+m) (p++news)/\cr (ce v) w w'/\∀b,ce Q b->ce v b\/w.heap.size<=b:=by
 have g:z.cells.size=zs.length:=by rw[C];simp
 have D:news.length=m*i.size:=by rw[y];exact q
 obtain⟨r,⟨rfl,rfl⟩|⟨b,A,R,g1,rfl,M,Z,g5,g6,g7,g8⟩⟩:=h
 ·obtain rfl:p=[]:=by simpa using r
  have H:=run_append_nil (P:=P) w G ty e i z N O X a m c news D n hm (by omega) (Nat.le_trans (Nat.mul_le_mul (show m<=1000000 by omega) I) (by decide));have L:=grownCap_ge w m 0 e;refine⟨_,_,H,⟨by simp[q],.inr ⟨w.heap.size,grownCap w m 0 e,news.toArray++Builtin.zeroCells z.cells (grownCap w m 0 e-m),J,by simp,dD w.drew _,?_,by omega,?_,?_,?_⟩⟩,?_,?_⟩
  ·simp only[Array.size_append,List.size_toArray,size_zeroCells,g,q,<-Nat.add_mul];congr 1;omega
  ·have:=grownCap_le_maxLen w m 0 e (by simp only[maxLen];omega);simp only[maxLen]at this;omega
  ·intro j k;rw[Array.getElem?_append_left (by simpa using k)];simp
  ·intro j k B;simp only[List.nil_append]at k;rw[Array.getElem?_append_right (by simpa using k)];simp only[Array.size_append,List.size_toArray,size_zeroCells,g]at B;simp only[List.size_toArray];rw[n6 _ _ _ (by omega) (by rw[g];omega),g,C,q];have s:(j-m*zs.length)%zs.length=j%zs.length:=by
    obtain⟨d,rfl⟩:∃d,j=m*zs.length+d:=⟨j-m*zs.length,by omega⟩;rw[Nat.add_sub_cancel_left,Nat.add_comm,Nat.add_mul_mod_self_right]
   rw[s];simp
  ·exact((Ext.drew w).trans (Ext.alloc _ _)).keep _
  ·rintro b ⟨l,c',t⟩;injection t with t;have:w.heap.size=b:=congrArg Addr.block (Option.some.inj t);exact .inr (by omega)
 ·by_cases o:f+m<=A
  ·have S:p.length+news.length<=R.size:=by
    rw[r,q,Z,<-Nat.add_mul];exact Nat.mul_le_mul_right _ o
   have H:=run_append_room_cells (P:=P) w G ty e i N O b 0 f A a m c news D n h1 o
    (λj k=>by
     have:p.length+j<R.size:=by omega
     rw[y,Nat.zero_add,<-r];simp[World.cell?,M,this])
    (λj k=>by simp[World.frozen?,M])
   rw[y,Nat.zero_add,<-r]at H;obtain⟨e1,e2,e3,e4,e5,e6,T,e7,e8,e9,U,V⟩:=mZ news w b p.length R e (0,0) M S;refine⟨_,_,H,⟨by rw[List.length_append,r,q,Nat.add_mul],.inr ⟨b,A,T,g1,rfl,e7,by rw[e8,Z],o,g6,?_,?_⟩⟩,⟨e1,e2,e3,by rw[e5];exact Nat.le_refl _,by rw[e4];exact Nat.le_refl _,λx _ W=>e6 x λe=>W ⟨f,A,by rw[e]⟩⟩,λx W=>.inl ?_⟩
   ·intro j k;by_cases E:j<p.length
    ·rw[e9 j E,g7 j E,List.getElem?_append_left E]
    ·obtain⟨d,rfl⟩:∃d,j=p.length+d:=⟨j-p.length,by omega⟩;rw[U d (by simp at k;omega),List.getElem?_append_right (by omega)];simp
   ·intro j k B;rw[List.length_append]at k;rw[V j k];exact g8 j (by omega) (by omega)
   ·obtain⟨l,c',t⟩:=W;injection t with t;obtain rfl:b=x:=congrArg Addr.block (Option.some.inj t);exact⟨f,A,rfl⟩
  ·have F:∀j u,p[j]? =some u->w.cell? ((⟨b,0,none⟩:Addr).add j)=some u:=by
    intro j u hu;rw[Addr.add_lit];simp only[World.cell?,M,Nat.zero_add];rw[g7 j (List.getElem?_eq_some_iff.1 hu).1,hu];rfl
   have H:=run_append_grow (P:=P) w G ty e i z N O X ⟨b,0,none⟩ f A p (by rw[y];exact r) F a m c news D n (by omega) (by omega) (growslice_fits (by omega) (Nat.le_trans (Nat.mul_le_mul K I) (by decide)));have L:=grownCap_ge w (f+m) A e;refine⟨_,_,H,⟨by rw[List.length_append,r,q,Nat.add_mul],.inr ⟨w.heap.size,grownCap w (f+m) A e,_,J,rfl,dD w.drew _,?_,L,?_,?_,?_⟩⟩,?_,?_⟩
   ·simp only[Array.size_append,List.size_toArray,size_zeroCells,g,r,q,<-Nat.add_mul];congr 1;omega
   ·have:=grownCap_le_maxLen w (f+m) A e (by simp only[maxLen];omega);simp only[maxLen]at this;omega
   ·intro j k;rw[Array.getElem?_append_left (by simpa using k)];simp
   ·intro j k B;simp only[List.length_append]at k;rw[Array.getElem?_append_right (by simpa using k)];simp only[Array.size_append,List.size_toArray,size_zeroCells,g,r,q]at B;simp only[Array.size_append,List.size_toArray,r,q];rw[r,q]at k;rw[n6 _ _ _ (by omega) (by rw[g];omega),g,C];have s:(j-(f*zs.length+m*zs.length))%zs.length=j%zs.length:=by
     obtain⟨d,rfl⟩:∃d,j=(f*zs.length+m*zs.length)+d:=⟨j-(f*zs.length+m*zs.length),by omega⟩;rw[Nat.add_sub_cancel_left,<-Nat.add_mul,Nat.add_comm,Nat.add_mul_mod_self_right]
    rw[s];simp
   ·exact((Ext.drew w).trans (Ext.alloc _ _)).keep _
   ·rintro x ⟨l,c',t⟩;injection t with t;have:w.heap.size=x:=congrArg Addr.block (Option.some.inj t);exact .inr (by omega)
section
variable{P:Program}{ops:Array Oper}{Q:Exit->Act->World->Prop}{a:Act}{w w':World}{i m:Nat}
end
theorem cd{w:World}{b o:Nat}{cs:Array Value}{t:TypeId}{v:Value}(h:w.heap[b]? =some (.cells cs t))(a:cs[o]? =some v):w.cell? ⟨b,o,none⟩=some v:=by simp only[World.cell?,h];exact a
theorem Ext.cj{w0 w w':World}{b:Nat}(h:Ext w0 w)(k:cr (λx=>x=b) w w')(c:w0.heap.size<=b):Ext w0 w':=
 ⟨k.os.trans h.os,k.tape.trans h.tape,k.output.trans h.output,Nat.le_trans h.size k.size,Nat.le_trans h.drawn k.drawn,λx a=>(k.block x (Nat.lt_of_lt_of_le a h.size) (by omega)).trans (h.block x a)⟩
section
variable{P:Program}{ρ:Operand->Value}{w:World}{v:Value}
end
abbrev L:=List (Nat×Value)
def lk:L->Nat->Option Value
 |[],_=>none
 |p::r,t=>match Nat.beq p.1 t with
  |true=>some p.2
  |false=>lk r t
def nth{α:Type}:List α->Nat->Option α
 |[],_=>none
 |x::_,0=>some x
 |_::r,n+1=>nth r n
def mem:Nat->List Nat->Bool
 |_,[]=>false
 |n,x::r=>match Nat.beq n x with
  |true=>true
  |false=>mem n r
def ev(l:L):Operand->Option Value
 | .tmp t=>lk l t
 | .const v=>some v
 | .func f=>some (.func (.func f) #[] #[])
 | .global _=>none
def evs(l:L):List Operand->Option (List Value)
 |[]=>some []
 |x::r=>match ev l x with
  |some v=>match evs l r with
   |some vs=>some (v::vs)
   |none=>none
  |none=>none
def Lc(l:L):Option Operand->Option (Option Value)
 |none=>some none
 |some x=>match ev l x with
  |some v=>some (some v)
  |none=>none
def ins(N:Nat)(d:Option Nat)(v:Value)(l:L):L:=match d with
 |none=>l
 |some d=>match Nat.blt d N with
  |true=>(d,v)::l
  |false=>l
structure Fr(N:Nat)(l:L)(a:Act):Prop where
 size:a.tmps.size=N
 defers:a.defers=[]
 at_:∀t v,lk l t=some v->a.eval (.tmp t)=v
structure pO(N:Nat)(l:L)(a:Act):Prop where
 size:a.tmps.size=N
 at_:∀t v,lk l t=some v->a.eval (.tmp t)=v
theorem Fr.b{N:Nat}{l:L}{a:Act}(h:Fr N l a):pO N l a:=⟨h.size,h.at_⟩
theorem pO.eval{N:Nat}{l:L}{a:Act}(h:pO N l a){x:Operand}{v:Value}(b:ev l x=some v):a.eval x=v:=by
 cases x with
 |tmp t=>exact h.at_ t v b
 |const c=>exact Option.some.inj b
 |func f=>exact Option.some.inj b
 |global g=>cases b
theorem Fr.eval{N:Nat}{l:L}{a:Act}(h:Fr N l a){x:Operand}{v:Value}(c:ev l x=some v):a.eval x=v:=h.b.eval c
theorem Fr.put{N:Nat}{l:L}{a:Act}(h:Fr N l a)(d:Option Nat)(v:Value)(f:∀t,d=some t->t<N):Fr N (ins N d v l) (a.put d v):=by
 refine⟨(iT _ _ _).trans h.size,(oB _ _ _).trans h.defers,λt u b=>?_⟩;cases d with
 |none=>exact h.at_ t u b
 |some d=>
  have e:Nat.blt d N=true:=by simpa[Nat.blt_eq]using f d rfl
  simp only[ins,e]at b;simp only[lk]at b;cases c:Nat.beq d t with
  |true=>
   rw[c]at b;have:d=t:=Nat.eq_of_beq_eq_true c;subst this;rw[po _ _ _ (by rw[h.size];exact f d rfl)];exact Option.some.inj b
  |false=>
   rw[c]at b;have:d≠t:=Nat.ne_of_beq_eq_false c;rw[mE _ _ _ _ (by simpa using this)];exact h.at_ t u b
theorem Fr.sQ{N:Nat}{l:L}{a:Act}(h:Fr N l a){d:Nat}{v:Value}(e:lk l d=some v):Fr N ((d,v)::l) a:=by
 refine⟨h.size,h.defers,λt u b=>?_⟩;simp only[lk]at b;cases c:Nat.beq d t with
 |true=>
  rw[c]at b;have:d=t:=Nat.eq_of_beq_eq_true c;subst this;exact Option.some.inj b▸h.at_ _ _ e
 |false=>rw[c]at b;exact h.at_ t u b
def Sub:L->L->Prop
 |[],_=>True
 |p::r,l=>lk l p.1=some p.2/\Sub r l
theorem Sub.lk{l' l:L}(h:Sub l' l){t:Nat}{v:Value}(a:lk l' t=some v):lk l t=some v:=by
 induction l' with
 |nil=>cases a
 |cons p r c=>
  simp only[W.lk]at a;cases b:Nat.beq p.1 t with
  |true=>
   rw[b]at a;have:p.1=t:=Nat.eq_of_beq_eq_true b;subst this;exact Option.some.inj a▸h.1
  |false=>rw[b]at a;exact c h.2 a
theorem Fr.sub{N:Nat}{l l':L}{a:Act}(h:Fr N l a)(b:Sub l' l):Fr N l' a:=⟨h.size,h.defers,λt v c=>h.at_ t v (b.lk c)⟩
structure fS(P:Program)(s:Sem Value)(w:World)(k:Value->World->Prop):Prop where
 out:∃v w',s.run P w=.ok v w'/\k v w'
structure yF(P:Program)(s:Sem Unit)(w:World)(k:World->Prop):Prop where
 out:∃w',s.run P w=.ok () w'/\k w'
structure un(P:Program)(s:Sem Next)(w:World)(k:Value->World->Prop):Prop where
 out:∃v w',s.run P w=.ok (.value v) w'/\k v w'
structure Io(P:Program)(f:FuncId)(args:List Value)(w:World)(k:Value->World->Prop)(pan:List PanicEntry->World->Prop):Prop where
 go:∀xs w,Sem.run P (callFunc f xs) w=.ok (.enter f xs) w
 out:Calls P f args.toArray w λe w'=>match e with
  | .returned v=>k v w'
  | .panicked c=>pan c w'
  | .outgrown=>False
structure uY where
 off:Nat->Nat->Option Nat
structure ki(P:Program)(T:uY):Prop where
 off:∀S i d,T.off S i=some d->∀b o w,Sem.run P (Instr.fieldAt S (.pointer (some ⟨b,o,none⟩)) i) w=.ok (.pointer (some ⟨b,o+d,none⟩)) w
def Ld(l:L):List (Nat×Operand)->Option (List (Nat×Value))
 |[]=>some []
 |p::r=>match ev l p.2 with
  |some v=>match Ld l r with
   |some vs=>some ((p.1,v)::vs)
   |none=>none
  |none=>none
def zX(P:Program)(T:uY)(ks:List Nat)(l:L)(w:World)(o:Oper)(k:Value->World->Prop)(s:World->Prop)(pan:List PanicEntry->World->Prop):Prop:=
 match o.op with
 | .move x=>match ev l x with
  |some v=>k v w
  |none=>False
 | .assign x=>match ev l x with
  |some v=>k v w
  |none=>False
 | .pick (.tmp c) x y=>match lk l c with
  |some (.bool b)=>match mem c ks with
   |true=>(match b with
    |true=>match ev l x with
     |some v=>k v w
     |none=>False
    |false=>match ev l y with
     |some v=>k v w
     |none=>False)
   |false=>(b=true->match ev l x with
    |some v=>k v w
    |none=>False)/\(b=false->match ev l y with
    |some v=>k v w
    |none=>False)
  |_=>False
 | .nilCheck x=>match ev l x with
  |some (.pointer (some p))=>k (.pointer (some p)) w
  |some (.func (.func f) a b)=>k (.func (.func f) a b) w
  |_=>False
 | .fieldAddr S x i=>match ev l x with
  |some (.pointer (some ⟨b,o,none⟩))=>(match T.off S i with
   |some d=>k (.pointer (some ⟨b,o+d,none⟩)) w
   |none=>False)
  |_=>False
 | .extract x i=>match ev l x with
  |some (.tuple h)=>(match nth h.toList i with
   |some v=>k v w
   |none=>False)
  |_=>False
 | .field S x i=>match ev l x with
  |some v=>fS P (Instr.field S v i) w k
  |none=>False
 | .load t x=>match ev l x with
  |some v=>fS P (Instr.loadAt t v) w k
  |none=>False
 | .store t x y=>match ev l x with
  |some v=>(match ev l y with
   |some u=>yF P (Instr.storeAt t v u) w s
   |none=>False)
  |none=>False
 | .alloc t=>fS P (Instr.alloc t true (.tuple #[])) w k
 | .box t x=>match ev l x with
  |some v=>fS P (Instr.box t v) w k
  |none=>False
 | .build t e=>match Ld l e.toList with
  |some h=>fS P (Instr.build t h.toArray) w k
  |none=>False
 | .buildSlice t n e=>match Ld l e.toList with
  |some h=>fS P (Instr.buildSlice t n h.toArray) w k
  |none=>False
 | .binOp b t x y _=>match ev l x with
  |some v=>(match ev l y with
   |some u=>fS P (do eqGuard b t x y v u;binOp b t v u) w k
   |none=>False)
  |none=>False
 | .unOp u _ x=>match ev l x with
  |some v=>fS P (Op.unary u v) w k
  |none=>False
 | .makeFunc q first j=>match evs l first.toList with
  |some A=>(match evs l j.toList with
   |some B=>k (.func q A.toArray B.toArray) w
   |none=>False)
  |none=>False
 | .makeMap t r=>match Lc l r with
  |some v=>fS P (Instr.makeMap t v) w k
  |none=>False
 | .makeSlice t x y=>match ev l x with
  |some v=>(match ev l y with
   |some u=>fS P (Instr.makeSlice t v u) w k
   |none=>False)
  |none=>False
 | .slice t x C D E=>match ev l x with
  |some v=>(match Lc l C with
   |some a=>(match Lc l D with
    |some b=>(match Lc l E with
     |some c=>fS P (Instr.sliceAt t v a b c) w k
     |none=>False)
    |none=>False)
   |none=>False)
  |none=>False
 | .indexAddr t x y=>match ev l x with
  |some v=>(match ev l y with
   |some u=>fS P (Instr.indexAt t v u) w k
   |none=>False)
  |none=>False
 | .index t x y=>match ev l x with
  |some v=>(match ev l y with
   |some u=>fS P (Instr.index t v u) w k
   |none=>False)
  |none=>False
 | .lookup t x y c=>match ev l x with
  |some v=>(match ev l y with
   |some u=>fS P (Instr.lookup t v u c) w k
   |none=>False)
  |none=>False
 | .mapUpdate t m x y=>match ev l m with
  |some z=>(match ev l x with
   |some v=>(match ev l y with
    |some u=>yF P (Instr.mapUpdate t z v u) w s
    |none=>False)
   |none=>False)
  |none=>False
 | .call c=>(match c.callee with
  | .value f=>(match ev l f with
   |some (.func (.func g) first j)=>(match evs l c.args.toList with
    |some h=>Io P g (first.toList++(h++j.toList)) w k pan
    |none=>False)
   |_=>False)
  | .builtin b=>(match evs l c.args.toList with
   |some h=>un P (builtin b c.argTypes o.type (c.args.map λ| .const _=>true|_=>false) h.toArray) w k
   |none=>False)
  | .invoke _ _=>False)
 | .convert t u x=>match ev l x with
  |some v=>fS P (convert t u v) w k
  |none=>False
 |_=>False
section
variable{P:Program}{T:uY}{ks:List Nat}{N:Nat}{l:L}{a:Act}{w:World}{o:Oper}{k:Value->World->Prop}{s:World->Prop}{pan:List PanicEntry->World->Prop}{next:Act->World->Prop}{Q:Exit->Act->World->Prop}
theorem rJ{α:Type}:∀(l:List α) (i:Nat),nth l i=l[i]?
 |[],_=>rfl
 |_::_,0=>rfl
 |_::r,n+1=>(rJ r n).trans (by simp)
theorem pO.JW(h:pO N l a):∀{xs:List Operand} {vs:List Value},evs l xs=some vs->xs.map a.eval=vs
 |[],vs,b=>by simp only[evs,Option.some.injEq]at b;subst b;rfl
 |x::r,vs,b=>by
  simp only[evs]at b;split at b
  ·rename_i v c;split at b
   ·rename_i e d;simp only[Option.some.injEq]at b;subst b;simp[h.eval c,pO.JW h d]
   ·cases b
  ·cases b
theorem pO.JX(h:pO N l a):∀{xs:List (Nat×Operand)} {vs:List (Nat×Value)},Ld l xs=some vs->xs.map (λp=>(p.1,a.eval p.2))=vs
 |[],vs,b=>by simp only[Ld,Option.some.injEq]at b;subst b;rfl
 |x::r,vs,b=>by
  simp only[Ld]at b;split at b
  ·rename_i v c;split at b
   ·rename_i e d;simp only[Option.some.injEq]at b;subst b;simp[h.eval c,pO.JX h d]
   ·cases b
  ·cases b
theorem pO.BZ(h:pO N l a){x:Option Operand}{v:Option Value}(b:Lc l x=some v):x.map a.eval=v:=by
 cases x with
 |none=>simp only[Lc,Option.some.injEq]at b;subst b;rfl
 |some x=>
  simp only[Lc]at b;split at b
  ·rename_i u c;simp only[Option.some.injEq]at b;subst b;simp[h.eval c]
  ·cases b
theorem ll(h:pO N l a){xs:Array Operand}{vs:List Value}(b:evs l xs.toList=some vs):xs.map a.eval=vs.toArray:=by have:=h.JW b;apply Array.ext';simpa using this
theorem uZ(h:pO N l a){xs:Array (Nat×Operand)}{vs:List (Nat×Value)}(b:Ld l xs.toList=some vs):xs.map (λp=>(p.1,a.eval p.2))=vs.toArray:=by have:=h.JX b;apply Array.ext';simpa using this
theorem xh{s:Sem Value}(h:fS P s w k)(b:∀v w',k v w'->next (a.put o.dst v) w'):o.upon P a next Q ((do let v<-s;pure (Next.value v):Sem Next).run P w):=by obtain⟨v,w',c,d⟩:=h.out;simp only[Sem.run_bind,c,Result.andThen_ok,Sem.run_pure];exact b v w' d
theorem PP{s':Sem Unit}(h:yF P s' w s)(b:∀w',s w'->next (a.put o.dst undef) w'):o.upon P a next Q ((do s';pure Next.skip:Sem Next).run P w):=by obtain⟨w',c,d⟩:=h.out;simp only[Sem.run_bind,c,Result.andThen_ok,Sem.run_pure];exact b w' d
theorem ft(M:ki P T)(q:pO N l a)(h:zX P T ks l w o k s pan)(A:∀v w',k v w'->next (a.put o.dst v) w')(K:∀w',s w'->next (a.put o.dst undef) w')(O:∀c w',pan c w'->Q (.panic c) a w'):o.wp P a w next Q:=by
 unfold Oper.wp;unfold zX at h;split at h;case h_1 x p=>
  split at h
  ·rename_i v j;simp only[execOp,p,q.eval j,Sem.run_pure];exact A _ _ h
  ·exact h.elim
 case h_2 x p=>
  split at h
  ·rename_i v j;simp only[execOp,p,q.eval j,Sem.run_pure];exact A _ _ h
  ·exact h.elim
 case h_3 c x y p=>
  split at h;case h_1 b R=>
   have D:a.eval (.tmp c)=.bool b:=q.eval (x:=.tmp c) R;simp only[execOp,p,D,asBool,pure_bind,Sem.run_pure];split at h
   ·cases b with
    |true=>
     simp only at h;split at h
     ·rename_i v j;simp only[if_true,q.eval j];exact A _ _ h
     ·exact h.elim
    |false=>
     simp only at h;split at h
     ·rename_i v j;simp only[Bool.false_eq_true,if_false,q.eval j];exact A _ _ h
     ·exact h.elim
   ·cases b with
    |true=>
     have h:=h.1 rfl;split at h
     ·rename_i v j;simp only[if_true,q.eval j];exact A _ _ h
     ·exact h.elim
    |false=>
     have h:=h.2 rfl;split at h
     ·rename_i v j;simp only[Bool.false_eq_true,if_false,q.eval j];exact A _ _ h
     ·exact h.elim
  case h_2=>exact h.elim
 case h_4 x p=>
  split at h
  ·rename_i ad j;simp only[execOp,p,q.eval j,Sem.run_pure];exact A _ _ h
  ·rename_i f u v j;simp only[execOp,p,q.eval j,Sem.run_pure];exact A _ _ h
  ·exact h.elim
 case h_5 S x i p=>
  split at h
  ·rename_i b F j;split at h
   ·rename_i d U;simp only[execOp,p,q.eval j];exact xh (k:=k) ⟨_,_,M.off S i d U b F w,h⟩ A
   ·exact h.elim
  ·exact h.elim
 case h_6 x i p=>
  split at h
  ·rename_i E j;split at h
   ·rename_i v L;rw[rJ]at L;have G:E[i]? =some v:=by simpa using L
    simp only[execOp,p,q.eval j];exact xh (k:=k) ⟨v,w,by simp only[Instr.extract,G,Sem.run_pure],h⟩ A
   ·exact h.elim
  ·exact h.elim
 case h_7 S x i p=>
  split at h
  ·rename_i v j;simp only[execOp,p,q.eval j];exact xh h A
  ·exact h.elim
 case h_8 t x p=>
  split at h
  ·rename_i v j;simp only[execOp,p,q.eval j];exact xh h A
  ·exact h.elim
 case h_9 t x y p=>
  split at h
  ·rename_i v j;split at h
   ·rename_i u B;simp only[execOp,p,q.eval j,q.eval B];exact PP h K
   ·exact h.elim
  ·exact h.elim
 case h_10 t p=>simp only[execOp,p];exact xh h A
 case h_11 t x p=>
  split at h
  ·rename_i v j;simp only[execOp,p,q.eval j];exact xh h A
  ·exact h.elim
 case h_12 t C p=>
  split at h
  ·rename_i v j;simp only[execOp,p,uZ q j];exact xh h A
  ·exact h.elim
 case h_13 t n C p=>
  split at h
  ·rename_i v j;simp only[execOp,p,uZ q j];exact xh h A
  ·exact h.elim
 case h_14 b t x y r p=>
  split at h
  ·rename_i v j;split at h
   ·rename_i u B;simp only[execOp,p,q.eval j,q.eval B];exact xh h A
   ·exact h.elim
  ·exact h.elim
 case h_15 u t x p=>
  split at h
  ·rename_i v j;simp only[execOp,p,q.eval j];exact xh h A
  ·exact h.elim
 case h_16 fn first cap p=>
  split at h
  ·rename_i xs V;split at h
   ·rename_i ys W;simp only[execOp,p,ll q V,ll q W];exact xh (k:=k) ⟨_,_,by simp only[Instr.makeFunc,Sem.run_pure],h⟩ A
   ·exact h.elim
  ·exact h.elim
 case h_17 t r p=>
  split at h
  ·rename_i v j;simp only[execOp,p,q.BZ j];exact xh h A
  ·exact h.elim
 case h_18 t x y p=>
  split at h
  ·rename_i v j;split at h
   ·rename_i u B;simp only[execOp,p,q.eval j,q.eval B];exact xh h A
   ·exact h.elim
  ·exact h.elim
 case h_19 t x lo hi mx p=>
  split at h
  ·rename_i v j;split at h
   ·rename_i u B;split at h
    ·rename_i u2 H;split at h
     ·rename_i u3 I;simp only[execOp,p,q.eval j,q.BZ B,q.BZ H,q.BZ I];exact xh h A
     ·exact h.elim
    ·exact h.elim
   ·exact h.elim
  ·exact h.elim
 case h_20 t x y p=>
  split at h
  ·rename_i v j;split at h
   ·rename_i u B;simp only[execOp,p,q.eval j,q.eval B];exact xh h A
   ·exact h.elim
  ·exact h.elim
 case h_21 t x y p=>
  split at h
  ·rename_i v j;split at h
   ·rename_i u B;simp only[execOp,p,q.eval j,q.eval B];exact xh h A
   ·exact h.elim
  ·exact h.elim
 case h_22 t x y c p=>
  split at h
  ·rename_i v j;split at h
   ·rename_i u B;simp only[execOp,p,q.eval j,q.eval B];exact xh h A
   ·exact h.elim
  ·exact h.elim
 case h_23 t m x y p=>
  split at h
  ·rename_i z X;split at h
   ·rename_i v j;split at h
    ·rename_i u B;simp only[execOp,p,q.eval X,q.eval j,q.eval B];exact PP h K
    ·exact h.elim
   ·exact h.elim
  ·exact h.elim
 case h_24 c p=>
  split at h
  ·rename_i f D;split at h
   ·rename_i g first cap hf
    split at h
    ·rename_i E j;have Y:first++E.toArray++cap=(first.toList++(E++cap.toList)).toArray:=by apply Array.ext';simp
     simp only[execOp,p,resolve,D,Deferred.ofValue,q.eval hf,ll q j,pure_bind,invoke,Y,h.go,Oper.upon_enter];refine h.out.mono λe w' J=>?_;cases e with
     |returned v=>exact A v w' J
     |panicked Z=>exact O Z w' J
     |outgrown=>exact J.elim
    ·exact h.elim
   ·exact h.elim
  ·rename_i b D;split at h
   ·rename_i E j;obtain⟨v,w',hr,h'⟩:=h.out;simp only[execOp,p,resolve,D,ll q j,pure_bind,invoke];exact Eq.mpr (congrArg (o.upon P a next Q) hr) (A v w' h')
   ·exact h.elim
  ·exact h.elim
 case h_25 t u x p=>
  split at h
  ·rename_i v j;simp only[execOp,p,q.eval j];exact xh h A
  ·exact h.elim
 case h_26=>exact h.elim
def u4:List Oper->Nat->Option Nat
 |[],_=>none
 |o::_,0=>o.dst
 |_::r,n+1=>u4 r n
def NR(N:Nat)(d:Option Nat)(X:Prop):Prop:=match d with
 |none=>X
 |some d=>match Nat.blt d N with
  |true=>X
  |false=>False
def wd(r:Option Nat):Fence:={Fence.wide with round:=r}
theorem FN{r:Option Nat}{n:Nat}{f:FuncId}{args:Array Value}{w:World}{R:Ending->World->Prop}(h:Calls P f args w R):CallsIn (wd r) n P f args w R:=callsIn_wide.2 h
structure QE(P:Program)(lp:Nat)(args:List Value)(w:World)(k:Value->World->Prop)(pan:List PanicEntry->World->Prop):Prop where
 out:∃f tmps assign body,(Instr.yield lp args.toArray).run P w=.ok (.round lp f tmps assign body) w/\RoundIn Fence.wide 0 P lp f tmps assign body w λe w'=>match e with
  | .returned v=>k v w'
  | .panicked c=>pan c w'
  | .outgrown=>False
def yG(P:Program)(T:uY)(ks:List Nat)(l:L)(w:World)(o:Oper)(k:Value->World->Prop)(s:World->Prop)(pan:List PanicEntry->World->Prop):Prop:=
 match o.op with
 | .call c=>(match c.callee with
  | .value f=>(match ev l f with
   |some (.func (.yield a) first _)=>(match evs l c.args.toList with
    |some b=>QE P a (first.toList++b) w k pan
    |none=>False)
   |_=>zX P T ks l w o k s pan)
  |_=>zX P T ks l w o k s pan)
 |_=>zX P T ks l w o k s pan
theorem sR{r:Option Nat}{n:Nat}{x:Result Next}(h:o.upon P a next Q x):o.uponIn (wd r) n P a next Q x:=by
 have Na:((wd r).depth.isSome=true->1<=n):=λh=>by cases h
 cases x with
 |ok v w'=>
  cases v with
  |value v=>exact h
  |skip=>exact h
  |defer d=>exact h
  |enter f args=>exact⟨Na,(FN h).mono λe w h=>by cases e<;>exact h⟩
  |row row args=>exact⟨Na,λc cs _=>let⟨v,w',r,s⟩:=h c cs;⟨v,w',r,stepsIn_wide.2 s⟩⟩
  |_=>exact h.elim
 |halt e w'=>
  cases e with
  |panic v=>exact h
  |_=>exact h.elim
theorem yH(h:zX P T ks l w o k s pan):∀c,o.op≠ .defer c:=λc e=>by unfold zX at h;rw[e]at h;exact h
theorem AO{r:Option Nat}(y:ki P T)(j:pO N l a)(h:yG P T ks l w o k s pan)(p:∀v w',k v w'->next (a.put o.dst v) w')(z:∀w',s w'->next (a.put o.dst undef) w')(q:∀c w',pan c w'->Q (.panic c) a w'):o.wpIn (wd r) 0 P a w next Q:=by
 have plain:zX P T ks l w o k s pan->o.wpIn (wd r) 0 P a w next Q:=λh=>by refine⟨λ_ _=>trivial,?_⟩;rw[Oper.semAt_eq _ _ _ (yH h)];exact sR (ft y j h p z q)
 unfold yG at h;split at h
 ·rename_i c t;split at h
  ·rename_i f A;split at h
   ·rename_i u first cap hf
    split at h
    ·rename_i x B;obtain⟨g,d,b,i,C,D⟩:=h.out;refine⟨λ_ _=>trivial,?_⟩;rw[Oper.semAt_eq _ _ _ (λc e=>by rw[t]at e;cases e)];have E:first++x.toArray=(first.toList++x).toArray:=by apply Array.ext';simp
     have e:Sem.run P (execOp a.eval o) w=.ok (.round u g d b i) w:=by simp only[execOp,t,resolve,A,Deferred.ofValue,j.eval hf,ll j B,pure_bind,invoke,E,C]
     rw[e]
     have m:RoundIn (wd r) (0-1) P u g d b i w λe w'=>match e with
      | .returned v=>k v w'
      | .panicked c=>pan c w'
      | .outgrown=>False:=D
     refine⟨(λh=>by cases h),m.mono ?_⟩;intro e w' n;cases e with
     |returned v=>exact p _ _ n
     |panicked c=>exact q _ _ n
     |outgrown=>exact n.elim
    ·exact h.elim
   ·exact plain h
  ·exact plain h
 ·exact plain h
structure na(ds:List Deferred)(N:Nat)(l:L)(a:Act):Prop where
 b:pO N l a
 d:a.defers=ds
theorem Fr.QF{N:Nat}{l:L}{a:Act}(h:Fr N l a):na [] N l a:=⟨h.b,h.defers⟩
theorem na.fr{N:Nat}{l:L}{a:Act}(h:na [] N l a):Fr N l a:=⟨h.b.size,h.d,h.b.at_⟩
theorem pO.put{N:Nat}{l:L}{a:Act}(h:pO N l a)(d:Option Nat)(v:Value)(b:∀t,d=some t->t<N):pO N (ins N d v l) (a.put d v):=by have c:Fr N l ⟨a.tmps,[]⟩:=⟨h.size,rfl,h.at_⟩;have:=c.put d v b;cases d<;>exact⟨this.size,this.at_⟩
theorem pO.sQ{N:Nat}{l:L}{a:Act}(h:pO N l a){d:Nat}{v:Value}(b:lk l d=some v):pO N ((d,v)::l) a:=by have c:Fr N l ⟨a.tmps,[]⟩:=⟨h.size,rfl,h.at_⟩;have:=c.sQ b;exact⟨this.size,this.at_⟩
theorem na.put{ds:List Deferred}{N:Nat}{l:L}{a:Act}(h:na ds N l a)(d:Option Nat)(v:Value)(c:∀t,d=some t->t<N):na ds N (ins N d v l) (a.put d v):=⟨h.b.put d v c,(oB _ _ _).trans h.d⟩
theorem na.sQ{ds:List Deferred}{N:Nat}{l:L}{a:Act}(h:na ds N l a){d:Nat}{v:Value}(c:lk l d=some v):na ds N ((d,v)::l) a:=⟨h.b.sQ c,h.d⟩
theorem na.sub{ds:List Deferred}{N:Nat}{l l':L}{a:Act}(h:na ds N l a)(c:Sub l' l):na ds N l' a:=⟨⟨h.b.size,λt v e=>h.b.at_ t v (c.lk e)⟩,h.d⟩
def lU(P:Program)(T:uY)(N:Nat)(K:L->World->Prop)(pan:L->List PanicEntry->World->Prop)(a:List Oper):List Oper->List Nat->L->World->Prop
 |[],_,l,w=>K l w
 |o::r,ks,l,w=>NR N o.dst (match o.guard with
  |none=>yG P T ks l w o (λv w'=>lU P T N K pan a r ks (ins N o.dst v l) w') (λw'=>lU P T N K pan a r ks (ins N o.dst undef l) w') (pan l)
  |some (g,c)=>match u4 a g with
   |none=>False
   |some d=>match lk l d with
    |some (.bool b)=>(match mem d ks with
     |true=>(match b,c with
      |true,true=>yG P T ks l w o (λv w'=>lU P T N K pan a r ks (ins N o.dst v l) w') (λw'=>lU P T N K pan a r ks (ins N o.dst undef l) w') (pan l)
      |false,false=>yG P T ks l w o (λv w'=>lU P T N K pan a r ks (ins N o.dst v l) w') (λw'=>lU P T N K pan a r ks (ins N o.dst undef l) w') (pan l)
      |_,_=>lU P T N K pan a r ks (ins N o.dst undef l) w)
     |false=>(b=true->match c with
      |true=>yG P T (d::ks) ((d,.bool true)::l) w o (λv w'=>lU P T N K pan a r (d::ks) (ins N o.dst v ((d,.bool true)::l)) w') (λw'=>lU P T N K pan a r (d::ks) (ins N o.dst undef ((d,.bool true)::l)) w') (pan ((d,.bool true)::l))
      |false=>lU P T N K pan a r (d::ks) (ins N o.dst undef ((d,.bool true)::l)) w)/\
      (b=false->match c with
       |false=>yG P T (d::ks) ((d,.bool false)::l) w o (λv w'=>lU P T N K pan a r (d::ks) (ins N o.dst v ((d,.bool false)::l)) w') (λw'=>lU P T N K pan a r (d::ks) (ins N o.dst undef ((d,.bool false)::l)) w') (pan ((d,.bool false)::l))
       |true=>lU P T N K pan a r (d::ks) (ins N o.dst undef ((d,.bool false)::l)) w))
    |some (.tuple _)=>lU P T N K pan a r ks (ins N o.dst undef l) w
    |_=>False)
theorem B2{X:Prop}{d:Option Nat}(h:NR N d X):X/\∀t,d=some t->t<N:=by
 cases d with
 |none=>exact⟨h,λ_ e=>by cases e⟩
 |some d=>
  simp only[NR]at h;split at h
  ·rename_i a;exact⟨h,λt e=>by cases e;simpa[Nat.blt_eq]using a⟩
  ·exact h.elim
theorem lq:∀(l:List Oper) (g:Nat),u4 l g=(l[g]?).bind (·.dst)
 |[],_=>rfl
 |_::_,0=>rfl
 |_::r,n+1=>(lq r n).trans (by simp)
theorem qM{ops:Array Oper}{a:Act}{g d:Nat}{vs:Array Value}(c:(ops[g]?).bind (·.dst)=some d)(b:a.eval (.tmp d)=.tuple vs):yielded ops a.tmps g=none:=by
 rw[ig]at b;unfold yielded;rw[c];simp only[Option.bind_some];cases e:a.tmps[d]? with
 |none=>rfl
 |some x=>rw[e]at b;simp at b;subst b;rfl
theorem jJ{r0:Option Nat}{ds:List Deferred}(A:ki P T){K:L->World->Prop}{pan:L->List PanicEntry->World->Prop}{ops:Array Oper}(B:∀l a w,na ds N l a->K l w->Q .normal a w)(C:∀l c a w,na ds N l a->pan l c w->Q (.panic c) a w):∀(r:List Oper) (i:Nat) (ks:List Nat) (l:L) (a:Act) (w:World),(∀j,r[j]? =ops[i+j]?)->na ds N l a->lU P T N K pan ops.toList r ks l w->wpOpsIn (wd r0) 0 P ops Q (List.range' i r.length) a w
 |[],i,ks,l,a,w,_,e,h=>B l a w e h
 |o::r,i,ks,l,a,w,G,e,h=>by
  have H:ops[i]? =some o:=(G 0).symm;have s:∀j,r[j]? =ops[i+1+j]? :=λj=>by have:=G (j+1);simpa[Nat.add_assoc,Nat.add_comm 1 j]using this
  obtain⟨h,E⟩:=B2 h
  have n:∀ks l,na ds N l a->Region.wanted o (yielded ops a.tmps)=true->yG P T ks l w o (λv q=>lU P T N K pan ops.toList r ks (ins N o.dst v l) q) (λq=>lU P T N K pan ops.toList r ks (ins N o.dst undef l) q) (pan l)->
   wpOpsIn (wd r0) 0 P ops Q (List.range' i (o::r).length) a w:=by
   intro ks l e m h;rw[List.length_cons,List.range'_succ];simp only[wpOpsIn,H,m,if_true];refine(AO A e.b h (λv q t=>?_) (λq t=>?_) λc q t=>C l c a q e t)
   ·exact jJ A B C r (i+1) ks _ _ q s (e.put o.dst v E) t
   ·exact jJ A B C r (i+1) ks _ _ q s (e.put o.dst undef E) t
  have skip:∀ks l,na ds N l a->Region.wanted o (yielded ops a.tmps)=false->lU P T N K pan ops.toList r ks (ins N o.dst undef l) w->wpOpsIn (wd r0) 0 P ops Q (List.range' i (o::r).length) a w:=by intro ks l e m h;rw[List.length_cons,List.range'_succ];simp only[wpOpsIn,H,m,Bool.false_eq_true,if_false];refine⟨λ_ _=>trivial,?_⟩;exact jJ A B C r (i+1) ks _ _ w s (e.put o.dst undef E) h
  split at h
  ·rename_i D;exact n ks l e (by simp[Region.wanted,D]) h
  ·rename_i g k D;split at h
   ·exact h.elim
   ·rename_i d u;rw[lq]at u;have y:(ops[g]?).bind (·.dst)=some d:=by simpa using u
    split at h
    ·rename_i b z;have f:a.eval (.tmp d)=.bool b:=e.b.at_ d _ z;have F:yielded ops a.tmps g=some b:=by
      rw[ig]at f;unfold yielded;rw[y];simp only[Option.bind_some];cases I:a.tmps[d]? with
      |none=>rw[I]at f;simp[undef]at f
      |some x=>rw[I]at f;simp at f;subst f;rfl
     have m:Region.wanted o (yielded ops a.tmps)=(b==k):=by simp[Region.wanted,D,F]
     split at h
     ·cases b<;>cases k<;>simp only at h
      ·exact n ks l e (by rw[m];rfl) h
      ·exact skip ks l e (by rw[m];rfl) h
      ·exact skip ks l e (by rw[m];rfl) h
      ·exact n ks l e (by rw[m];rfl) h
     ·cases b with
      |true=>
       have h:=h.1 rfl;have p:=e.sQ z;cases k with
       |true=>simp only at h;exact n (d::ks) ((d,.bool true)::l) p (by rw[m];rfl) h
       |false=>exact skip (d::ks) ((d,.bool true)::l) p (by rw[m];rfl) h
      |false=>
       have h:=h.2 rfl;have p:=e.sQ z;cases k with
       |true=>exact skip (d::ks) ((d,.bool false)::l) p (by rw[m];rfl) h
       |false=>simp only at h;exact n (d::ks) ((d,.bool false)::l) p (by rw[m];rfl) h
    ·rename_i J z;have f:a.eval (.tmp d)=.tuple J:=e.b.at_ d _ z;have F:yielded ops a.tmps g=none:=qM y f;exact skip ks l e (by simp[Region.wanted,D,F]) h
    ·exact h.elim
end
abbrev QW:=Exit->L->World->Prop
def lift(N:Nat)(Q:QW):Exit->Act->World->Prop:=λe a w=>∃l,Fr N l a/\Q e l w
def JY(K:L->World->Prop)(Q:QW):QW
 | .normal,l,w=>K l w
 | .exit i,l,w=>Q (.exit i) l w
 | .goto i,l,w=>Q (.goto i) l w
 | .ret,l,w=>Q .ret l w
 | .panic c,l,w=>Q (.panic c) l w
 | .outgrown,l,w=>Q .outgrown l w
def ij(id:Nat)(Q:QW):QW
 | .exit i,l,w=>match Nat.beq i id with
  |true=>Q .normal l w
  |false=>Q (.exit i) l w
 | .normal,l,w=>Q .normal l w
 | .goto i,l,w=>Q (.goto i) l w
 | .ret,l,w=>Q .ret l w
 | .panic c,l,w=>Q (.panic c) l w
 | .outgrown,l,w=>Q .outgrown l w
structure iz(P:Program)(N:Nat)(c:Code)(l:L)(w:World)(Q:QW):Prop where
 out:∀a,Fr N l a->c.wp P (lift N Q) a w
def WC(P:Program)(T:uY)(N:Nat):Code->QW->L->World->Prop
 | .skip,Q,l,w=>Q .normal l w
 | .label _,Q,l,w=>Q .normal l w
 | .ret,Q,l,w=>Q .ret l w
 | .exit i,Q,l,w=>Q (.exit i) l w
 | .goto i,Q,l,w=>Q (.goto i) l w
 | .region i ops d,Q,l,w=>(match d with
  |false=>lU P T N (Q .normal) (λl c w=>Q (.panic c) l w) ops.toList ops.toList [] l w
  |true=>iz P N (.region i ops true) l w Q)
 | .seq x y,Q,l,w=>WC P T N x (JY (WC P T N y Q) Q) l w
 | .cond c x y,Q,l,w=>(match ev l c with
  |some (.bool b)=>(b=true->WC P T N x Q l w)/\(b=false->WC P T N y Q l w)
  |_=>False)
 | .block i c,Q,l,w=>(match c with
  | .loop c'=>iz P N (.block i (.loop c')) l w Q
  | .rangeFunc f ps a b=>iz P N (.block i (.rangeFunc f ps a b)) l w Q
  |_=>WC P T N c (ij i Q) l w)
 | .loop c,Q,l,w=>iz P N (.loop c) l w Q
 | .scope c,Q,l,w=>iz P N (.scope c) l w Q
 | .rangeFunc f ps a b,Q,l,w=>iz P N (.rangeFunc f ps a b) l w Q
 | .refuse _,_,_,_=>False
theorem eZ{P:Program}{T:uY}{N:Nat}(p:ki P T):∀(c:Code) (Q:QW) (l:L) (a:Act) (w:World),Fr N l a->WC P T N c Q l w->c.wp P (lift N Q) a w
 | .skip,Q,l,a,w,g,h=>wp_skip ⟨l,g,h⟩
 | .label _,Q,l,a,w,g,h=>wp_label ⟨l,g,h⟩
 | .ret,Q,l,a,w,g,h=>wp_ret ⟨l,g,h⟩
 | .exit i,Q,l,a,w,g,h=>wp_exit ⟨l,g,h⟩
 | .goto i,Q,l,a,w,g,h=>wp_goto ⟨l,g,h⟩
 | .region i ops d,Q,l,a,w,g,h=>by
  cases d with
  |true=>exact iz.out h a g
  |false=>
   refine wpIn_wide.1 (wpIn_region (n:=0) ?_);have:=jJ (r0:=none) (ds:=[]) p (Q:=lift N Q) (λl a w g r=>⟨l,g.fr,r⟩) (λl c a w g r=>⟨l,g.fr,r⟩) ops.toList 0 [] l a w (λj=>by simp) g.QF h;rw[Array.length_toList,<-List.range_eq_range']at this;exact this
 | .seq x y,Q,l,a,w,g,h=>by
  refine wp_seq (wp_mono (eZ p x _ l a w g h) ?_);rintro e u v ⟨q,k,m⟩;cases e with
  |normal=>exact eZ p y Q q u v k m
  |_=>exact⟨q,k,m⟩
 | .cond c x y,Q,l,a,w,g,h=>by
  simp only[WC]at h;split at h
  ·rename_i b s;refine wp_cond_split (g.eval s) (λz=>?_) λA=>?_
   ·exact eZ p x Q l a w g (h.1 z)
   ·exact eZ p y Q l a w g (h.2 A)
  ·exact h.elim
 | .block i c,Q,l,a,w,g,h=>by
  have t:WC P T N c (ij i Q) l w->(Code.block i c).wp P (lift N Q) a w:=λh=>by
   refine wp_block (wp_mono (eZ p c _ l a w g h) ?_);rintro e u v ⟨q,k,m⟩;cases e with
   |exit j=>
    simp only[Exit.inBlock];simp only[ij]at m;by_cases o:j=i
    ·subst o;rw[if_pos rfl];rw[Nat.beq_refl]at m;exact⟨q,k,m⟩
    ·rw[if_neg o];have:Nat.beq j i=false:=by
      cases s:Nat.beq j i with
      |false=>rfl
      |true=>exact absurd (Nat.eq_of_beq_eq_true s) o
     rw[this]at m;exact⟨q,k,m⟩
   |_=>exact⟨q,k,m⟩
  cases c with
  |loop D=>exact iz.out h a g
  |rangeFunc f B C b=>exact iz.out h a g
  |_=>exact t h
 | .loop c,Q,l,a,w,g,h=>iz.out h a g
 | .scope c,Q,l,a,w,g,h=>iz.out h a g
 | .rangeFunc f B C b,Q,l,a,w,g,h=>iz.out h a g
 | .refuse _,_,_,_,_,_,h=>h.elim
def flat:Code->Bool
 | .region _ _ d=>!d
 | .seq x y=>flat x&&flat y
 | .cond _ x y=>flat x&&flat y
 | .block _ c=>flat c
 | .loop _=>false
 | .scope _=>false
 | .rangeFunc _ _ _ _=>false
 |_=>true
def FO(ds:List Deferred)(N:Nat)(Q:QW):Exit->Act->World->Prop:=λe a w=>∃l,na ds N l a/\Q e l w
theorem gZ{P:Program}{T:uY}{N:Nat}{r:Option Nat}{ds:List Deferred}(p:ki P T):∀(c:Code) (Q:QW) (l:L) (a:Act) (w:World),flat c=true->na ds N l a->WC P T N c Q l w->c.wpIn (wd r) 0 P (FO ds N Q) a w
 | .skip,Q,l,a,w,_,g,h=>wpIn_skip ⟨l,g,h⟩
 | .label _,Q,l,a,w,_,g,h=>wpIn_label ⟨l,g,h⟩
 | .ret,Q,l,a,w,_,g,h=>wpIn_ret ⟨l,g,h⟩
 | .exit i,Q,l,a,w,_,g,h=>wpIn_exit ⟨l,g,h⟩
 | .goto i,Q,l,a,w,_,g,h=>wpIn_goto ⟨l,g,h⟩
 | .region i ops d,Q,l,a,w,k,g,h=>by
  cases d with
  |true=>cases k
  |false=>
   refine wpIn_region ?_;have:=jJ (r0:=r) (ds:=ds) p (Q:=FO ds N Q) (λl a w g s=>⟨l,g,s⟩) (λl c a w g s=>⟨l,g,s⟩) ops.toList 0 [] l a w (λj=>by simp) g h;rw[Array.length_toList,<-List.range_eq_range']at this;exact this
 | .seq x y,Q,l,a,w,k,g,h=>by
  simp only[flat,Bool.and_eq_true]at k;refine wpIn_seq (wpIn_mono (gZ p x _ l a w k.1 g h) ?_);rintro e v z ⟨q,m,n⟩;cases e with
  |normal=>exact gZ p y Q q v z k.2 m n
  |_=>exact⟨q,m,n⟩
 | .cond c x y,Q,l,a,w,k,g,h=>by
  simp only[flat,Bool.and_eq_true]at k;simp only[WC]at h;split at h
  ·rename_i b t;refine wpIn_cond_split (g.b.eval t) (λA=>?_) λB=>?_
   ·exact gZ p x Q l a w k.1 g (h.1 A)
   ·exact gZ p y Q l a w k.2 g (h.2 B)
  ·exact h.elim
 | .block i c,Q,l,a,w,k,g,h=>by
  have u:flat c=true->WC P T N c (ij i Q) l w->(Code.block i c).wpIn (wd r) 0 P (FO ds N Q) a w:=λk h=>by
   refine wpIn_block (wpIn_mono (gZ p c _ l a w k g h) ?_);rintro e v z ⟨q,m,n⟩;cases e with
   |exit j=>
    simp only[Exit.inBlock];simp only[ij]at n;by_cases o:j=i
    ·subst o;rw[if_pos rfl];rw[Nat.beq_refl]at n;exact⟨q,m,n⟩
    ·rw[if_neg o];have:Nat.beq j i=false:=by
      cases t:Nat.beq j i with
      |false=>rfl
      |true=>exact absurd (Nat.eq_of_beq_eq_true t) o
     rw[this]at n;exact⟨q,m,n⟩
   |_=>exact⟨q,m,n⟩
  cases c with
  |loop E=>cases k
  |rangeFunc f C D b=>cases k
  |_=>exact u k h
 | .loop c,Q,l,a,w,k,g,h=>by cases k
 | .scope c,Q,l,a,w,k,g,h=>by cases k
 | .rangeFunc f C D b,Q,l,a,w,k,g,h=>by cases k
 | .refuse _,_,_,_,_,_,_,h=>h.elim
def yI(P:Program):List ResultVar->L->World->(List Value->Prop)->Prop
 |[],_,_,k=>k []
 | .tmp t::r,l,w,k=>match lk l t with
  |some v=>yI P r l w λvs=>k (v::vs)
  |none=>False
 | .cell t ty::r,l,w,k=>match lk l t with
  |some (.pointer (some ad))=>∃v,Sem.run P (loadVar ty ad) w=.ok v w/\yI P r l w λvs=>k (v::vs)
  |_=>False
def one(vs:List Value):Value:=match vs with
 |[v]=>v
 |vs=>.tuple vs.toArray
def QR(P:Program)(a:List ResultVar)(R:Ending->World->Prop):QW
 | .normal,l,w=>yI P a l w λvs=>R (.returned (one vs)) w
 | .ret,l,w=>yI P a l w λvs=>R (.returned (one vs)) w
 | .panic c,_,w=>R (.panicked c) w
 |_,_,_=>False
def C9(tm:Array Value):ResultVar->Sem Value
 | .tmp t=>pure (tm.getD t undef)
 | .cell x t=>do loadVar t (<-asAddr (tm.getD x undef))
theorem sS{P:Program}{N:Nat}{a:Act}{w:World}:∀(j:List ResultVar) (l:L) (k:List Value->Prop),Fr N l a->yI P j l w k->∃vs,Sem.run P (j.mapM (C9 a.tmps)) w=.ok vs w/\k vs
 |[],l,k,c,h=>⟨[],by simp[Sem.run_pure],h⟩
 | .tmp t::r,l,k,c,h=>by
  simp only[yI]at h;split at h
  ·rename_i v d;obtain⟨vs,e,f⟩:=sS r l _ c h;have b:C9 a.tmps (.tmp t)=pure v:=congrArg pure (c.at_ t v d);refine⟨v::vs,?_,f⟩;rw[List.mapM_cons,b];simp only[Sem.run_bind,Sem.run_pure,Result.andThen_ok,e]
  ·exact h.elim
 | .cell t g::r,l,k,c,h=>by
  simp only[yI]at h;split at h
  ·rename_i m d;obtain⟨v,n,h⟩:=h;obtain⟨vs,e,f⟩:=sS r l _ c h;have b:a.tmps.getD t undef=.pointer (some m):=c.at_ t _ d;have i:C9 a.tmps (.cell t g)=loadVar g m:=by show(do loadVar g (<-asAddr (a.tmps.getD t undef)))=_;rw[b];rfl
   refine⟨v::vs,?_,f⟩;rw[List.mapM_cons,i];simp only[Sem.run_bind,n,Result.andThen_ok,e,Sem.run_pure]
  ·exact h.elim
theorem sU(fn:Func)(tm:Array Value):results fn tm=(do let vs<-fn.results.mapM (C9 tm);pure (if h:vs.size=1 then vs[0]else .tuple vs)):=by unfold results;congr 1
theorem JZ{P:Program}{fn:Func}{c:Code}{args:List Value}{w:World}{R:Ending->World->Prop}(N:Nat)(h:iz P N c (args.zipIdx.map λp=>(p.2,p.1)) w (QR P fn.results.toList R))(a:Act)(z:a.tmps.size=N)(d:a.defers=[])(sa:∀i v,args.toArray[i]? =some v->a.eval (.tmp i)=v):c.wp P (bodyPost P fn R) a w:=by
 have A:Fr N (args.zipIdx.map λp=>(p.2,p.1)) a:=by
  refine⟨z,d,λt v B=>?_⟩;refine sa t v ?_
  have o:∀(k:List Value) (n:Nat),lk ((k.zipIdx n).map λp=>(p.2,p.1)) t=some v->n<=t/\k[t-n]? =some v:=by
   intro k;induction k with
   |nil=>intro n h;cases h
   |cons x r C=>
    intro n h;simp only[List.zipIdx_cons,List.map_cons,lk]at h;cases l:Nat.beq n t with
    |true=>
     rw[l]at h;have:n=t:=Nat.eq_of_beq_eq_true l;subst this;exact⟨Nat.le_refl _,by simpa using h⟩
    |false=>
     rw[l]at h;have D:n≠t:=Nat.ne_of_beq_eq_false l;obtain⟨u,q⟩:=C (n+1) h;refine⟨by omega,?_⟩;have:t-n=(t-(n+1))+1:=by omega
     rw[this];simpa using q
  have:=(o args 0 B).2;simpa using this
 refine wp_mono (h.out a A) ?_;rintro e s f ⟨E,g,b⟩
 have j:yI P fn.results.toList E f (λm=>R (.returned (one m)) f)->s.defers=[]/\∃v,(results fn s.tmps).run P f=.ok v f/\R (.returned v) f:=λb=>by
  obtain⟨m,u,q⟩:=sS _ _ _ g b;refine⟨g.defers,_,?_,q⟩;rw[sU,Sem.run_bind];have F:Sem.run P (fn.results.mapM (C9 s.tmps)) f=.ok m.toArray f:=by rw[Array.mapM_eq_mapM_toList,Sem.run_map,u];rfl
  rw[F];simp only[Result.andThen_ok,Sem.run_pure];congr 1;rcases m with _|⟨x,_|⟨y,r⟩⟩
  ·rfl
  ·rfl
  ·simp[one]
 cases e with
 |normal=>exact j b
 |ret=>exact j b
 |panic c=>exact⟨g.defers,b⟩
 |exit i=>exact b.elim
 |goto i=>exact b.elim
 |outgrown=>exact b.elim
theorem J0{P:Program}{f:FuncId}{fn:Func}{c:Code}{args:List Value}{w:World}{R:Ending->World->Prop}(N:Nat)
 (b:P.funcs[f]? =some fn)(d:fn.body=some c)(e:fn.ntmps=N)(a:args.length<=N)(h:iz P N c (args.zipIdx.map λp=>(p.2,p.1)) w (QR P fn.results.toList R)):Calls P f args.toArray w R:=
 FK N b d e (JZ N h) (by simpa using a)
theorem Nb{P:Program}{T:uY}(d:ki P T){f:FuncId}{fn:Func}{c:Code}{args:List Value}{w:World}{R:Ending->World->Prop}(N:Nat)
 (e:P.funcs[f]? =some fn)(g:fn.body=some c)(i:fn.ntmps=N)(b:args.length<=N)(h:WC P T N c (QR P fn.results.toList R) (args.zipIdx.map λp=>(p.2,p.1)) w):Calls P f args.toArray w R:=
 J0 N e g i b ⟨λa j=>eZ d c _ _ a w j h⟩
theorem iz.seq{P:Program}{T:uY}(d:ki P T){N:Nat}{x y:Code}{l:L}{w:World}{Q:QW}(h:WC P T N x (JY (λl' w'=>iz P N y l' w' Q) Q) l w):iz P N (.seq x y) l w Q:=⟨λa f=>by
 refine wp_seq (wp_mono (eZ d x _ l a w f h) ?_);rintro e g w' ⟨l',b,c⟩;cases e with
 |normal=>exact c.out g b
 |_=>exact⟨l',b,c⟩⟩
theorem iz.of{P:Program}{T:uY}(b:ki P T){N:Nat}{c:Code}{l:L}{w:World}{Q:QW}(h:WC P T N c Q l w):iz P N c l w Q:=⟨λa d=>eZ b c _ l a w d h⟩
end Go.Proofs.W
