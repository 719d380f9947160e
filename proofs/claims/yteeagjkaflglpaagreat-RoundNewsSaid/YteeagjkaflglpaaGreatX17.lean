/- Laws that the proof needs, part 17. Conditions: none. -/
import Derived.Test.YteeagjkaflglpaaGreatX16
set_option maxRecDepth 100000
set_option maxHeartbeats 8000000
set_option linter.all false
namespace Go.Proofs.W
open Go.RowKit
def kg(G:Gd)(l:List Int):Int:=if eg G=0 then gx G.doors.length l else eg G
def fp(a b:Int):List ce:=[.int .i64 a,.int .i64 b]
def n9{n:Nat}{l:List Int}(h:gx n l=0):∃l':List Nat,l=lU l'/\(∀d∈l',d<n):=by
 have c:∀(l a:List Int),lF n a l=0->∃l':List Nat,l=lU l'/\∀d∈l',d<n:=by
  intro l;induction l with
  |nil=>intro _ _;exact⟨[],rfl,λd b=>by cases b⟩
  |cons x r e=>
   intro a h;simp only[lF]at h;split at h;rename_i f;split at h;omega;obtain⟨l',g,i⟩:=e _ h;simp[jX]at f;refine⟨x.toNat::l',?_,λd b=>?_⟩;simp only[lU,jP,qm];exact⟨by omega,g⟩;rcases eQ.1 b with rfl|b;omega;exact i d b;omega
 exact c l [] h
def ja.FI{w:cd}{a:Option Addr}{l:List Nat}(h:ja w a (lU l)):eO w a l:=λk c=>by obtain⟨b,o,d,e⟩:=h k (by simpa[lU]using c);exact⟨b,o,d,by rw[e];simp[lU]⟩
def tK(G:Gd)(l:List Int):ce:=if kg G l=0 then .tuple #[.agg (fp (dr G (l.map Int.toNat)) (dF G (l.map Int.toNat))).toArray,.int .i64 0]else .tuple #[.agg (fp 0 0).toArray,.int .i64 (kg G l)]
def BN{G:Gd}{B:Option Addr}{dc:Nat}{w:cd}(H:gD w B G.doors)(o:G.doors.length<=100000)(I: -1000000<=G.streets/\G.streets<=1000000){l:List Int}{la:Option Addr}{lc:Nat}(C:ja w la l)(u:l.length<=100000)(J:l.length<=lc):
 Calls V.prog 44 #[gV G B dc,.slice la l.length lc] w (fy λv w'=>v=tK G l/\Ext w w'):=by
 refine go V.func44 Tryz.ntmps44 ?_;refine fo λS T f K L=>eF λM D i N p=>di (i.at_ L) (ck (pT (dc:=dc) (H.ext (f.trans i)) o I (C.ext (f.trans i)) u J) ?_);have q:∀(m:cd),Ext M m->kg G l≠0->∀k:cd->Prop,(∀c,Ext w c->Sem.run V.prog (loadVar 56 ⟨D,0,none⟩) c=.ok (.agg (fp 0 0).toArray) c->k c)->DR V.prog (Instr.storeAt 56 (.pointer (some ⟨D,0,none⟩)) (.agg (fp 0 0).toArray)) m k:=λm d a k O=>
  cZ (d.at_ p) λc P x=>O c (((f.trans i).trans d).cy P (by have:=f.size;omega)) (pQ (fp 0 0) x λj v y=>by rw[cB];show(fp 0 0).toArray[j]? =some v;simpa using y)
 rintro v m ⟨d,⟨n,rfl⟩|⟨n,U,mk,W,rfl,E⟩⟩;have a:kg G l=eg G:=by simp[kg,n]
 refine eG (iR (by simpa using n) (dA (.agg (fp 0 0).toArray) (q m d (by rw[a];exact n) _ λc e z=>⟨_,z,_,rfl,?_,e⟩)));rw[tK,a,cr n];rfl;have a:kg G l=gx G.doors.length l:=by simp[kg,n]
 refine eG ⟨λh=>?_,λh=>?_⟩;have h:¬gx G.doors.length l=0:=cY h;refine dA (.agg (fp 0 0).toArray) (q m d (by rw[a];exact h) _ λc e z=>⟨_,z,_,rfl,?_,e⟩);rw[tK,a,cr h];rfl;have h:gx G.doors.length l=0:=by simpa using h
 obtain⟨b,rfl,r⟩:=n9 h;have Q:(lU b).length=b.length:=by simp[lU]
 have s:=((C.ext (f.trans i)).ext d).FI;have t:(lU b).map Int.toNat=b:=by simp[lU,yw]
 rw[Q]at u⊢;refine dq (zB E.g r u s) λc e=>dq (yf (E.ext e).g r u (s.ext e)) λX F=>?_;refine dA (.agg (fp (dr G b) (dF G b)).toArray) (cZ (F.at_ (e.at_ (d.at_ p))) λY R A=>⟨_,pQ (fp (dr G b) (dF G b)) A λj v y=>by rw[cB];show(fp (dr G b) (dF G b)).toArray[j]? =some v;simpa using y,_,rfl,?_,?_⟩);rw[tK,a,cx h,t];rfl;exact(((f.trans i).trans d).trans (e.trans F)).cy R (by have:=f.size;omega)
def NH:List Dr:=[⟨0,3,5⟩,⟨0,8,2⟩,⟨1,5,4⟩,⟨1,2,6⟩]
def fj:Gd:=⟨2,4,1,40,3,2,NH⟩
def Ku{w:cd}{b:Nat}{ds:List Dr}{t:cg}(h:w.heap[b]? =some (.cells (ds.flatMap dL).toArray t)):gD w (some ⟨b,0,none⟩) ds:=λk a=>by obtain⟨c,d,e⟩:=uI ds k a;exact⟨b,0,rfl,ci h (by rw[cB];simpa using c),ci h (by rw[cB];simpa using d),ci h (by rw[cB];simpa using e)⟩
def NI(w:cd):Calls V.prog 95 #[] w (fy λv w'=>Ext w w'/\∃b,w.heap.size<=b/\v=gV fj (some ⟨b,0,none⟩) 4/\w'.heap[b]? =some (.cells (NH.flatMap dL).toArray 81)):=by
 refine go V.func95 Tryz.ntmps95 ?_;refine eF λq d k e l=>dA (.agg (dL ⟨0,3,5⟩).toArray) (dA (.agg (dL ⟨0,8,2⟩).toArray) (dA (.agg (dL ⟨1,5,4⟩).toArray) (dA (.agg (dL ⟨1,2,6⟩).toArray) (dJ (NH.flatMap dL) 81 λr b m s f=>?_))));refine dA (gV fj (some ⟨b,0,none⟩) 4) (cZ (m.at_ l) λg n c=>?_);have h:g.heap[d]? =some (.cells (gL fj (some ⟨b,0,none⟩) 4).toArray 24):=c.trans (cM (λa=>some (Obj.cells a 24)) (dV (sH 24).toArray (gL fj (some ⟨b,0,none⟩) 4) rfl));have o:Sem.run V.prog (loadVar 24 ⟨d,0,none⟩) g=.ok (gV fj (some ⟨b,0,none⟩) 4) g:=pQ (gL fj (some ⟨b,0,none⟩) 4) h λj v p=>by rw[cB];simpa using p
 clear c;have i:¬(b=d):=by have:=cF.lt_of_heap l;omega
 refine⟨gV fj (some ⟨b,0,none⟩) 4,o,?_⟩;exact⟨_,rfl,(k.trans m).cy n e,b,by have:=k.size;omega,rfl,n.fg f i⟩
structure Ty where
 door:Nat
 shift:Nat
 opened:Bool
def tL(t:Ty):List ce:=[.int .i64 t.door,.int .i64 t.shift,.bool t.opened]
def NJ:List Ty:=[⟨0,0,false⟩,⟨1,0,true⟩,⟨2,1,false⟩]
def Kv(w:cd):Calls V.prog 96 #[] w (fy λv w'=>Ext w w'/\∃b,w.heap.size<=b/\v=.slice (some ⟨b,0,none⟩) 3 3/\w'.heap[b]? =some (.cells (NJ.flatMap tL).toArray 84)):=by refine go V.func96 Tryz.ntmps96 ?_;exact dA (.agg (tL ⟨0,0,false⟩).toArray) (dA (.agg (tL ⟨1,0,true⟩).toArray) (dA (.agg (tL ⟨2,1,false⟩).toArray) (dJ (NJ.flatMap tL) 84 λe b c d a=>⟨_,rfl,c,b,d,rfl,a⟩)))
def Db(b:Int)(a:Option Addr)(l c:Nat)(w:cd):Calls V.prog 97 #[.int .i64 b,.slice a l c] w (fy λv w'=>v=.agg #[.int .i64 b,.slice a l c]/\Ext w w'):=by
 refine go V.func97 Tryz.ntmps97 ?_;refine eF λo g h d i=>dA (.agg ([.int .i64 b,.slice a l c]:List ce).toArray) (cZ i λf k e=>?_);have m:Sem.run V.prog (loadVar 29 ⟨g,0,none⟩) f=.ok (.agg ([.int .i64 b,.slice a l c]:List ce).toArray) f:=pQ _ e λj v n=>by rw[cB];show([.int .i64 b,.slice a l c]:List ce).toArray[j]? =some v;simpa using n
 exact⟨_,m,_,rfl,rfl,h.cy k d⟩
theorem we:∀xs:List Sx,(xs.flatMap kY).length=xs.length*8
 |[]=>rfl
 |x::r=>by have:=we r;simp[kY,this];omega
theorem wh:∀(xs:List Sx) (k:Nat) (a:k<xs.length) (j:Nat) (v:ce),(kY xs[k])[j]? =some v->(xs.flatMap kY)[k*8+j]? =some v
 |x::r,0,_,j,v,h=>by have b:j<(kY x).length:=(gy.1 h).1;simp only[ky,Nat.zero_mul,cB];rw[kz b];exact h
 |x::r,k+1,a,j,v,h=>by have c:=wh r k (by simpa using a) j v (by simpa using h);have d:(kY x).length=8:=rfl;simp only[ky];rw[mQ (by omega),d,show(k+1)*8+j-8=k*8+j by omega];exact c
structure nD(sb:Nat)(xs:List Sx)(w:cd):Prop where
 out:∃cs,w.heap[sb]? =some (.cells cs 166)/\xs.length*8<=cs.size/\∀k (h:k<xs.length) j v,(kY xs[k])[j]? =some v->cs[k*8+j]? =some v
def nD.row{a:Nat}{xs:List Sx}{w:cd}(h:nD a xs w):tI w (some ⟨a,0,none⟩) xs:=λk b=>by obtain⟨f,c,g,d⟩:=h.out;exact⟨a,0,rfl,λj v e=>ci c (by rw[cB];exact d k b j v e)⟩
def nD.ext{a:Nat}{xs:List Sx}{w w':cd}(h:nD a xs w)(e:Ext w w'):nD a xs w':=by obtain⟨b,c,d⟩:=h.out;exact⟨b,e.at_ c,d⟩
def nD.keep{a:Nat}{xs:List Sx}{w w':cd}{F:Nat->Prop}(h:nD a xs w)(k:cN F w w')(b:¬F a):nD a xs w':=by obtain⟨c,d,e⟩:=h.out;exact⟨c,k.fg d b,e⟩
def NK{w:cd}{s:cd->Prop}{f:Nat}{xs:List Sx}(h:nD f xs w){t:cg}(k o:Nat)(F:k<xs.length){a:Nat}(b:a=k*8+o){v:ce}(l:Sx)(G:o+v.cells.size<=8)
 (p:∀j u,(kY l)[j]? =some u->(if o<=j/\j<o+v.cells.size then v.cells.toList[j-o]? else(kY xs[k])[j]?)=some u)
 (q:∀w',cN (λx=>x=f) w w'->nD f (xs.set k l) w'->s w')(r:qC v.cells.toList=true:=by rfl)(y:RG t=some v.cells.size:=by rfl):DR V.prog (Instr.storeAt t (.pointer (some ⟨f,a,none⟩)) v) w s:=by
 subst b;obtain⟨z,A,B,m⟩:=h.out;have H:k*8+8<=z.size:=by have:=oq 8 (show k+1<=xs.length by omega);omega
 refine iA A (by omega) (λw' C g=>q w' C ⟨_,g,by rw[n8];simpa using B,λi D j u c=>?_⟩) (fU r) y;have E:j<8:=(gy.1 c).1;rw[nB _ _ _ _ (by simp;omega)];simp only[Array.length_toList];have d:i<xs.length:=by simpa using D
 by_cases e:i=k;subst e;rw[List.getElem_set_self]at c;have:=p j u c;by_cases n:o<=j/\j<o+v.cells.size;rw[cx n]at this;rw[cx (by omega),show i*8+j-(i*8+o)=j-o by omega];exact this;rw[cr n]at this;rw[cr (by omega)];exact m i d j u this;rw[List.getElem_set_ne (by omega)]at c;rw[cr (by rcases Nat.lt_or_gt_of_ne e with h|h;have:=oq 8 (show i+1<=k by omega);omega;have:=oq 8 (show k+1<=i by omega);omega)];exact m i d j u c
def leave1(xs:List Sx)(d:Nat):List Sx:=match xs[d]? with
 |some x=>xs.set d {x with left:=true}
 |none=>xs
def jb(xs:List Sx)(l:List Nat):List Sx:=l.foldl leave1 xs
def HN(xs:List Sx)(d:Nat):(leave1 xs d).length=xs.length:=by unfold leave1;split<;>simp
theorem pU:∀(l:List Nat) (xs:List Sx),(jb xs l).length=xs.length
 |[],_=>rfl
 |d::r,xs=>(pU r (leave1 xs d)).trans (HN xs d)
def FJ(xs:List Sx)(l:List Nat)(k:Nat)(a:k<l.length):jb xs (l.take (k+1))=leave1 (jb xs (l.take k)) l[k]:=by rw[gP a];simp only[jb,uf,mP,List.foldl_nil]
def tM(n0:Nat)(w:cd)(v:ce)(xs:List Sx):Prop:=(xs=[]/\∃a c,v=.slice a 0 c)\/∃b c,n0<=b/\v=.slice (some ⟨b,0,none⟩) xs.length c/\nD b xs w
def tI.cells{w:cd}{a:Option Addr}{xs:List Sx}(h:tI w a xs):jA w a (xs.flatMap kY):=by
 rcases xs with _|⟨x,r⟩;exact .inl rfl;obtain⟨b,o,rfl,_⟩:=h 0 (by simp);refine .inr ⟨b,o,rfl,λj u f=>?_⟩;have l:j<(x::r).length*8:=by rw[<-we];exact(gy.1 f).1
 have g:j/8<(x::r).length:=by omega
 obtain⟨m,n,e,p⟩:=h (j/8) g;obtain⟨rfl,rfl⟩:b=m/\o=n:=by injection e with e;injection e with q s;exact⟨q,s⟩
 have t:j%8<(kY (x::r)[j/8]).length:=by show j%8<8;omega
 have i:=ew t;have c:=wh (x::r) (j/8) g (j%8) _ i;have k:=p (j%8) _ i;have d:j/8*8+j%8=j:=by omega
 rw[d]at c;rw[f]at c;obtain rfl:=cE c;have:o+j/8*8+j%8=o+j:=by omega
 rw[this]at k;exact k
def tI.rI{w:cd}{xs:List Sx}(h:tI w none xs):xs.length=0:=by rcases xs with _|⟨x,r⟩;rfl;obtain⟨b,o,e,_⟩:=h 0 (by simp);cases e
def uP{xs:List Sx}{a:Option Addr}{c:Nat}{w:cd}(h:tI w a xs)(d:xs.length<=1000000):Calls V.prog 154 #[.slice a xs.length c] w (fy λv w'=>Ext w w'/\tM w.heap.size w' v xs):=by refine(NE a xs.length c (xs.flatMap kY) w (we xs) (λe=>by subst e;exact h.rI) h.cells (λu f=>?_) d).mono ?_;obtain⟨x,_,f⟩:=lJ.1 f;simp[kY]at f;rcases f with rfl|rfl|rfl|rfl|rfl|rfl|rfl|rfl<;>rfl;rintro e w' ⟨v,rfl,g,z,⟨l,rfl⟩|⟨b,m,n,o,rfl,p,q,r,A,s,B⟩⟩;exact⟨_,rfl,g,.inl ⟨l9 l,none,0,rfl⟩⟩;refine⟨_,rfl,g,.inr ⟨b,m,o,rfl,⟨n,p,?_,λk t j v y=>?_⟩⟩⟩;have:(sH 166).length=8:=rfl;rw[this]at q;have:=oq 8 r;omega;have i:=wh xs k t j v y;rw[s _ (gy.1 i).1];exact i
def HQ{wp gp mk ms:Nat}{G:Gd}{xs:List Sx}{f:Int}{w:cd}(h:kU wp gp mk ms G xs f w){l:List Nat}{la:Option Addr}{lc:Nat}(S:eO w la l)(T:∀d∈l,d<xs.length)(L:l.length<=100000):
 Calls V.prog 171 #[.pointer (some ⟨wp,0,none⟩),.slice la l.length lc] w (fy λv w'=>Ext w w'/\∃x,v=.pointer (some ⟨x,0,none⟩)/\kU x gp mk ms G (jb xs l) f w'):=by
 obtain⟨U,W,X,M,Y,Z⟩:=h.at_;have aa:xs.length<=5:=by have:=h.len;have:=h.g.tY.many;omega
 refine go V.func171 Tryz.ntmps171 ?_;refine dP (vs:=[.pointer (some ⟨gp,0,none⟩),.slice U xs.length W,.int .i64 f]) (λj v i=>?_) (eF λw1 B e1 y p=>cZ p λF k2 q=>?_);match j,i with
 |0,i=>cases i;exact X
 |1,i=>cases i;exact M
 |2,i=>cases i;exact Y
 have C:Ext w F:=e1.cy k2 y;refine cu (C.cell M) (ck (uP (Z.ext C) (by omega)) ?_);rintro v w3 ⟨N,O⟩;have ab:=cF.lt_of_heap q;have m:v.oneCell'=true/\v.cells=#[v]:=by obtain⟨_,a,c,rfl⟩|⟨z,c,_,rfl,_⟩:=O<;>exact⟨rfl,rfl⟩
 refine iA (N.at_ q) (by rw[m.2];exact sO rfl) (λH P r=>?_) (by rw[m.2];simpa using m.1) (by rw[m.2];rfl);rw[m.2]at r;have I:H.heap[B]? =some (.cells #[.pointer (some ⟨gp,0,none⟩),v,.int .i64 f] 141):=r;clear r q;have e4:Ext w H:=(C.trans N).cy P y;have J:tM F.heap.size H v xs:=by obtain h|⟨z,c,D,g2,A⟩:=O;exact .inl h;exact .inr ⟨z,c,D,g2,A.keep P (by omega)⟩
 refine cD (ei (n:=l.length) (λk=>[(5,.pointer (some ⟨B,0,none⟩)),(17,.slice la l.length lc),(18,.int .i64 l.length),(19,.int .i64 k)]) (λk w'=>Ext w w'/\w'.heap[B]? =some (.cells #[.pointer (some ⟨gp,0,none⟩),v,.int .i64 f] 141)/\tM F.heap.size w' v (jb xs (l.take k))) ⟨⟨rfl,rfl,rfl,rfl,trivial⟩,e4,I,by simpa[jb]using J⟩ ?_ ?_ ?_);rintro k w' s hJ;exact cV ⟨rfl,rfl,⟨rfl,rfl,rfl,rfl,trivial⟩,hJ⟩;rintro k w' s ⟨e,p,E⟩;obtain⟨b,o,rfl,hc⟩:=(S.ext e) k s;have Q:=T _ (dt s);obtain⟨K,_⟩|⟨z,c,D,rfl,A⟩:=E;have:=cM List.length K;rw[pU]at this;simp at this;subst this;simp at Q;have t:l[k]<(jb xs (l.take k)).length:=by rw[pU];exact Q
 refine dI k s (cu hc (cu (ci p rfl) (fF l[k] 8 t (NK A l[k] 7 t (by omega) {(jb xs (l.take k))[l[k]]with left:=true} (by decide) (λj u i=>?_) (λw5 R g5=>cq ⟨⟨rfl,rfl,rfl,rfl,trivial⟩,e.cy R (by have:=C.size;omega),R.fg p (by omega),?_⟩)))));match j,i with
 |0,i=>exact i
 |1,i=>exact i
 |2,i=>exact i
 |3,i=>exact i
 |4,i=>exact i
 |5,i=>exact i
 |6,i=>exact i
 |7,i=>exact i
 rw[FJ xs l k s];have he:leave1 (jb xs (l.take k)) l[k]=(jb xs (l.take k)).set l[k] {(jb xs (l.take k))[l[k]]with left:=true}:=by unfold leave1;rw[ew t]
 rw[he];exact .inr ⟨z,c,D,by rw[qJ],g5⟩;rintro w' ⟨e,p,E⟩;rw[kX]at E;refine⟨_,rfl,e,B,rfl,h.g.ext e,by rw[pU];exact h.len,h.bf,?_⟩;obtain⟨K,a,c,rfl⟩|⟨z,c,D,rfl,A⟩:=E;rw[K];exact⟨a,c,ci p rfl,ci p rfl,ci p rfl,λk s=>by simp at s⟩;exact⟨_,c,ci p rfl,ci p rfl,ci p rfl,A.row⟩
def FK(s:Nat)(w:cd):Calls V.prog 167 #[.int .i64 s] w (fy λv w'=>v=.bool (decide (s%2=0))/\w'=w):=by refine go V.func167 Tryz.ntmps167 ?_;exact C8 (m:=s) (n:=2) (by omega) (eh ⟨_,rfl,by congr 1;simp;omega,rfl⟩)
def FL(s:Nat)(w:cd):Calls V.prog 168 #[.int .i64 s] w (fy λv w'=>v=.bool (decide (s%2=1))/\w'=w):=by refine go V.func168 Tryz.ntmps168 ?_;exact C8 (m:=s) (n:=2) (by omega) (eh ⟨_,rfl,by congr 1;simp;omega,rfl⟩)
def RN(c:ce)(p:Nat->Bool):Prop:=∃g first a,c=.func (.func g) first a/\(∀b w,Sem.run V.prog (callFunc g b) w=.ok (.enter g b) w)/\∀(n:Nat) w,Calls V.prog g (first.toList++([Value.int .i64 n]++a.toList)).toArray w (fy λv d=>v=.bool (p n)/\d=w)
def pV(p:Nat->Bool):List Nat->Nat->Int
 |[],_=> -1
 |y::r,i=>if p y then i else pV p r (i+1)
def FM(p:Nat->Bool)(l:List Nat)(k:Nat)(a:k<l.length):pV p (l.drop k) k=if p l[k]then(k:Int)else pV p (l.drop (k+1)) (k+1):=by rw[qH a];rfl
theorem zE(p:Nat->Bool):∀(l:List Nat) (i:Nat),decide (0<=pV p l i)=l.any p
 |[],_=>rfl
 |y::r,i=>by
  simp only[pV,List.any_cons];by_cases h:p y=true;simp[h];have h:p y=false:=by simpa using h
  simpa[h]using zE p r (i+1)
def A7{i:ce}{p:Nat->Bool}(m:RN i p)(l:List Nat)(la:Option Addr)(lc:Nat)(w:cd)(q:eO w la l)(j:l.length<=100000):Calls V.prog 195 #[.slice la l.length lc,i] w (fy λv w'=>v=.int .i64 (pV p l 0)/\w'=w):=by obtain⟨g,first,e,rfl,f,r⟩:=m;refine go V.func195 Tryz.ntmps195 ?_;refine cD (ei (n:=l.length) (λk=>[(0,.slice la l.length lc),(1,.func (.func g) first e),(7,.int .i64 l.length),(8,.int .i64 k)]) (λk w'=>w'=w/\pV p l 0=pV p (l.drop k) k) ⟨⟨rfl,rfl,rfl,rfl,trivial⟩,rfl,rfl⟩ ?_ ?_ ?_);rintro k w' d ⟨rfl,a⟩;exact cV ⟨rfl,rfl,⟨rfl,rfl,rfl,rfl,trivial⟩,rfl,a⟩;rintro k w' d ⟨rfl,a⟩;obtain⟨b,o,rfl,c⟩:=q k d;rw[FM p l k d]at a;refine dI k d (cu c (cS (r l[k] w') ⟨λh=>?_,λh=>?_⟩ f));rw[cx h]at a;exact⟨_,rfl,by rw[a];rfl,rfl⟩;rw[h]at a;exact cq ⟨⟨rfl,rfl,rfl,rfl,trivial⟩,rfl,a⟩;rintro w' ⟨rfl,a⟩;exact⟨_,rfl,by rw[a];simp[pV],rfl⟩
def pk{b:ce}{p:Nat->Bool}(c:RN b p)(l:List Nat)(la:Option Addr)(lc:Nat)(w:cd)(d:eO w la l)(a:l.length<=100000):Calls V.prog 166 #[.slice la l.length lc,b] w (fy λv w'=>v=.bool (l.any p)/\w'=w):=by refine go V.func166 Tryz.ntmps166 ?_;exact cS (A7 c l la lc w d a) (n6 ⟨_,rfl,by rw[<-zE p l 0];rfl,rfl⟩)
def Tg:Obj->Bool
 | .map .. =>true
 |_=>false
structure iB(n0:Nat)(w w':cd):Prop where
 os:w'.os=w.os
 tape:w'.tape=w.tape
 output:w'.output=w.output
 size:w.heap.size<=w'.heap.size
 drawn:w.drawn<=w'.drawn
 block:∀b o,w.heap[b]? =some o->(b<n0\/Tg o=false)->w'.heap[b]? =some o
section
variable{n0:Nat}{w w' w0 w1 w2:cd}
def iB.refl(n0:Nat)(w:cd):iB n0 w w:=⟨rfl,rfl,rfl,cz _,cz _,λ_ _ h _=>h⟩
theorem iB.trans{a b c:cd}(h:iB n0 a b)(k:iB n0 b c):iB n0 a c:=
 ⟨k.os.trans h.os,k.tape.trans h.tape,k.output.trans h.output,cJ h.size k.size,cJ h.drawn k.drawn,λx o e d=>k.block x o (h.block x o e d) d⟩
def Ext.gi(h:Ext w w')(n0:Nat):iB n0 w w':=⟨h.os,h.tape,h.output,h.size,h.drawn,λb o a _=>h.at_ a⟩
def iB.ext(h:iB n0 w w')(d:w.heap.size<=n0):Ext w w':=⟨h.os,h.tape,h.output,h.size,h.drawn,λb c=>by have a:w.heap[b]? =some w.heap[b]:=ji c;rw[a];exact h.block b _ a (.inl (by omega))⟩
def iB.from(h:iB n0 w w')(e:Ext w0 w)(a:w0.heap.size<=n0):Ext w0 w':=((e.gi n0).trans h).ext a
def iB.low{m0:Nat}(h:iB n0 w w')(d:m0<=n0):iB m0 w w':=⟨h.os,h.tape,h.output,h.size,h.drawn,λb o a c=>h.block b o a (c.imp (λh=>by omega) id)⟩
def iB.at_(h:iB n0 w w'){b:Nat}{cs:Array ce}{t:cg}{a:Nat×Nat}(c:w.heap[b]? =some (.cells cs t a)):w'.heap[b]? =some (.cells cs t a):=h.block b _ c (.inr rfl)
def iB.cell(h:iB n0 w w'){ad:Addr}{v:ce}(a:w.cell? ad=some v):w'.cell? ad=some v:=by unfold World.cell? at a⊢;split at a;rename_i c t d b;rw[h.at_ b];exact a;cases a
def iB.cy{b:Nat}(h:iB n0 w w1)(k:cN (λx=>x=b) w1 w2)(e:w.heap.size<=b):iB n0 w w2:=
 ⟨k.os.trans h.os,k.tape.trans h.tape,k.output.trans h.output,cJ h.size k.size,cJ h.drawn k.drawn,λx o c d=>by have a:=cF.lt_of_heap c;exact(k.block x (dl a h.size) (by omega)).trans (h.block x o c d)⟩
def iB.iS{c:Nat}{v:ce}{t:cg}{zs e:List ce}{a:Nat}(h:iB n0 w w1)(k:cN (cw v) w1 w2)(f:cA c t zs w1 v a e)(j:w.heap.size<=c):iB n0 w w2:=
 ⟨k.os.trans h.os,k.tape.trans h.tape,k.output.trans h.output,cJ h.size k.size,cJ h.drawn k.drawn,λx o d g=>by have b:=cF.lt_of_heap d;exact(k.block x (dl b h.size) λi=>by have:=(f.blk i).1;omega).trans (h.block x o d g)⟩
def ja.gi{a:Option Addr}{l:List Int}(h:ja w a l)(e:iB n0 w w'):ja w' a l:=λk c=>by obtain⟨b,o,d,f⟩:=h k c;exact⟨b,o,d,e.cell f⟩
def gD.gi{a:Option Addr}{l:List Dr}(h:gD w a l)(e:iB n0 w w'):gD w' a l:=λk c=>by obtain⟨b,o,d,f,g,i⟩:=h k c;exact⟨b,o,d,e.cell f,e.cell g,e.cell i⟩
def nA.gi{a:Nat}{C:Nat->ce}(h:nA a C w)(e:iB n0 w w'):nA a C w':=by obtain⟨b,c,d,f⟩:=h.out;exact⟨b,e.at_ c,d,f⟩
theorem oR.gi{gp mk ms:Nat}{G:Gd}(h:oR gp mk ms G w)(e:iB n0 w w'):oR gp mk ms G w':=by obtain⟨a,b,c,d,f,g⟩:=h.at_;exact⟨⟨a,b,c,d.gi e,f.gi e,e.cell g⟩,h.ok,dl h.mlt e.size,dl h.slt e.size,h.ne,h.gk⟩
def eO.gi{a:Option Addr}{l:List Nat}(h:eO w a l)(e:iB n0 w w'):eO w' a l:=λk c=>by obtain⟨b,o,d,f⟩:=h k c;exact⟨b,o,d,e.cell f⟩
def cA.gi{d:Nat}{t:cg}{zs:List ce}{v:ce}{a:Nat}{f:List ce}(h:cA d t zs w v a f)(e:iB n0 w w'):cA d t zs w' v a f:=by obtain⟨g,h|⟨b,c,i,j,k,l,m⟩⟩:=h;exact⟨g,.inl h⟩;exact⟨g,.inr ⟨b,c,i,j,k,e.at_ l,m⟩⟩
theorem tJ.gi{a:Option Addr}{c:List (List Nat)}(h:tJ w a c)(e:iB n0 w w'):tJ w' a c:=λk d=>by obtain⟨b,o,f,g,i,j,l,m⟩:=h k d;exact⟨b,o,f,g,i,e.cell j,l.gi e,m⟩
theorem eW.gi{a:Nat}{v:ce}{b:List (List Nat)}(h:eW a w v b)(e:iB n0 w w'):eW a w' v b:=by obtain⟨c,d,f,g⟩:=h;refine⟨c,d.gi e,f,λk i=>?_⟩;obtain⟨u,j,l⟩:=g k i;exact⟨u,j,cA.gi l e⟩
def tI.gi{a:Option Addr}{xs:List Sx}(h:tI w a xs)(e:iB n0 w w'):tI w' a xs:=λk c=>by obtain⟨b,o,d,f⟩:=h k c;exact⟨b,o,d,λj v g=>e.cell (f j v g)⟩
theorem kU.gi{wp gp mk ms:Nat}{G:Gd}{xs:List Sx}{a:Int}(h:kU wp gp mk ms G xs a w)(e:iB n0 w w'):kU wp gp mk ms G xs a w':=by obtain⟨b,c,d,f,i,j⟩:=h.at_;exact⟨h.g.gi e,h.len,h.bf,b,c,e.cell d,e.cell f,e.cell i,j.gi e⟩
def jA.gi{a:Option Addr}{c:List ce}(h:jA w a c)(e:iB n0 w w'):jA w' a c:=by rcases h with h|⟨b,o,d,f⟩;exact .inl h;exact .inr ⟨b,o,d,λj u g=>e.cell (f j u g)⟩
def nD.gi{a:Nat}{xs:List Sx}(h:nD a xs w)(e:iB n0 w w'):nD a xs w':=by obtain⟨b,c,d⟩:=h.out;exact⟨b,e.at_ c,d⟩
end
structure kL(key:Nat->ce)(R:Nat->ce->cd->Prop)(r:Nat)(w:cd):Prop where
 out:∃es clock,w.heap[r]? =some (.map es clock)/\∀e∈es.toList,∃s,s<32/\e.key=key s/\R s e.val w
def kL.gi{key:Nat->ce}{R:Nat->ce->cd->Prop}{r n0:Nat}{w w':cd}(h:kL key R r w)(e:iB n0 w w')(c:∀s v,R s v w->R s v w')(a:w'.heap[r]? =w.heap[r]?):kL key R r w':=by obtain⟨d,b,f,g⟩:=h.out;exact⟨d,b,a.trans f,λx i=>by obtain⟨s,j,k,l⟩:=g x i;exact⟨s,j,k,c _ _ l⟩⟩
structure BO(kt:cg)(key:Nat->ce):Prop where
 check:∀e s w,s<32->Sem.run V.prog (Instr.checkKey e 10000 kt (key s)) w=.ok () w
 find:∀s (es:List MapEntry),s<32->(∀e∈es,∃s',s'<32/\e.key=key s')->
  ∃o,(∀w,Sem.run V.prog (Instr.findKey kt (key s) es) w=.ok o w)/\(o=none\/∃j e,es[j]? =some e/\e.key=key s/\o=some (j,e.val))
 stays:∀s w,s<32->Sem.run V.prog (Instr.keyThatStays (key s) (key s)) w=.ok (key s) w
 inj:∀s s',s<32->s'<32->key s=key s'->s=s'
section
variable{w:cd}{k:ce->cd->Prop}{kt et t:cg}{key:Nat->ce}{R:Nat->ce->cd->Prop}{r:Nat}
def tN{es:Array MapEntry}{a:Nat}(h:w.heap[r]? =some (.map es a)):Sem.run V.prog (getObj r) w=.ok (.map es a) w:=by simp[getObj,Sem.run,h]
def Jd(K:BO kt key)(k:Tryz.prog.underlying t=some (.map kt et)){z:ce}(l:∀w,Sem.run V.prog (zeroValue et) w=.ok z w)(h:kL key R r w){s:Nat}(c:s<32):∃a,((∃v,a=.tuple #[v,.bool true]/\R s v w)\/a=.tuple #[z,.bool false])/\∀w1,(∀o,w.heap[r]? =some o->w1.heap[r]? =some o)->Sem.run V.prog (Instr.lookup t (.map (some r)) (key s) true) w1=.ok a w1:=by
 obtain⟨m,d,n,b⟩:=h.out;obtain⟨o,q,u⟩:=K.find s m.toList c λe x=>by obtain⟨f,g,i,_⟩:=b e x;exact⟨f,g,i⟩
 refine⟨.tuple #[(o.map (·.2)).getD z,.bool o.isSome],?_,λw1 y=>?_⟩;rcases u with rfl|⟨j,e,A,B,rfl⟩;exact .inr rfl;obtain⟨f,g,i,C⟩:=b e (nR A);obtain rfl:=K.inj s f c g (B.symm.trans i);exact .inl ⟨_,rfl,C⟩;unfold Instr.lookup;simp only[Sem.run_bind,fZ k,Result.andThen_ok,tN (y _ n),Sem.run_pure,K.check _ s w1 c,q];cases o with
 |none=>simp only[Sem.run_bind,l,Result.andThen_ok,Sem.run_pure,cX,Option.map_none,Option.getD_none,tj]
 |some p=>simp only[Sem.run_bind,Sem.run_pure,Result.andThen_ok,cX,iX,kC,Option.isSome_some]
def Kw(K:BO kt key)(c:Tryz.prog.underlying t=some (.map kt et)){z:ce}(d:∀w,Sem.run V.prog (zeroValue et) w=.ok z w)(h:kL key R r w){s:Nat}(e:s<32) (f:∀v,R s v w->k (.tuple #[v,.bool true]) w)(g:k (.tuple #[z,.bool false]) w):iO V.prog (Instr.lookup t (.map (some r)) (key s) true) w k:=by obtain⟨b,i,a⟩:=Jd K c d h e;refine⟨b,w,a w λ_ h=>h,?_⟩;rcases i with⟨v,rfl,j⟩|rfl;exact f v j;exact g
def uQ{B:cd->Prop}(K:BO kt key)(L:Tryz.prog.underlying t=some (.map kt et))(h:kL key R r w){s:Nat}(m:s<32){v:ce}{n0:Nat}(hn:n0<=r) (N:∀w',iB n0 w w'->(∀s u,R s u w->R s u w')/\R s v w') (O:∀w',iB n0 w w'->(∀b,b≠r->w'.heap[b]? =w.heap[b]?)->kL key R r w'->B w'):DR V.prog (Instr.mapUpdate t (.map (some r)) (key s) v) w B:=by
 obtain⟨g,c,n,p⟩:=h.out;have C:=cF.lt_of_heap n;have f:∀(a:Array MapEntry) (d:Nat),iB n0 w (w.putObj r (.map a d))/\(∀b,b≠r->(w.putObj r (.map a d)).heap[b]? =w.heap[b]?)/\(w.putObj r (.map a d)).heap[r]? =some (.map a d)/\Sem.run V.prog (setObj r (.map a d)) w=.ok () (w.putObj r (.map a d)):=λa d=>by refine⟨⟨rfl,rfl,rfl,by simp,cz _,λb o q k=>?_⟩,λb q=>World.putObj_heap_other q,World.putObj_heap_same C,by simp[setObj,Sem.run,n,World.putObj]⟩;by_cases e:b=r;subst e;rw[n]at q;obtain rfl:=cE q;rcases k with k|k;omega;cases k;exact(World.putObj_heap_other e).trans q
 have y:∀(a:Array MapEntry) (d:Nat),(∀e∈a.toList,e∈g.toList\/(e.key=key s/\e.val=v))->Sem.run V.prog (Instr.mapUpdate t (.map (some r)) (key s) v) w=.ok () (w.putObj r (.map a d))->DR V.prog (Instr.mapUpdate t (.map (some r)) (key s) v) w B:=λa d l z=>by obtain⟨M,P,Q,_⟩:=f a d;obtain⟨S,T⟩:=N _ M;refine⟨_,z,O _ M P ⟨a,d,Q,λe U=>?_⟩⟩;rcases l e U with h|⟨W,X⟩;obtain⟨D,E,F,Y⟩:=p e h;exact⟨D,E,F,S _ _ Y⟩;exact⟨s,m,W,by rw[X];exact T⟩
 obtain⟨o,k,Z⟩:=K.find s g.toList m λe l=>by obtain⟨D,E,F,_⟩:=p e l;exact⟨D,E,F⟩
 rcases Z with rfl|⟨j,e,hj,A,rfl⟩;refine y (g.push {key:=key s,val:=v,born:=c}) (c+1) (λe l=>?_) ?_;simp only[Array.toList_push,gl,fD]at l;rcases l with h|rfl;exact .inl h;exact .inr ⟨rfl,rfl⟩;unfold Instr.mapUpdate;simp only[Sem.run_bind,fZ L,Result.andThen_ok,tN n,K.check _ s w m,k,(f _ _).2.2.2];refine y (g.modify j λe=>{e with key:=key s,val:=v}) c (λx G=>?_) ?_;obtain⟨i,hi,G⟩:=List.getElem_of_mem G;have H:i<g.size:=by simpa using hi
 have:(g.modify j λe=>{e with key:=key s,val:=v})[i]'(by simpa using H)=x:=by rw[<-G];exact(Array.getElem_toList _)
 rw[Array.getElem_modify]at this;split at this;subst this;exact .inr ⟨rfl,rfl⟩;subst this;exact .inl (by simp);have I:=K.stays s w m;have J:g[j]? =some e:=by simpa using hj
 unfold Instr.mapUpdate;simp only[Sem.run_bind,fZ L,Result.andThen_ok,tN n,K.check _ s w m,k,J,iX,kC,A,I,(f _ _).2.2.2]
end
end Go.Proofs.W
namespace Go.Proofs.W
def nE(l:List Nat):Nat->List Nat->List Bool->List (List Nat)
 |0,b,_=>[b]
 |n+1,b,a=>(List.range l.length).flatMap λi=>if a.getD i false then []else nE l n (b++[l.getD i 0]) (a.set i true)
def mv(l:List Nat):List (List Nat):=nE l l.length [] (List.replicate l.length false)
def ed(G:Gd)(b:List Nat×Int)(a:List Nat):List Nat×Int:=if b.2<0\/ik G a<b.2 then(a,ik G a)else b
def eH(G:Gd)(rows:List (List Nat)):List Nat×Int:=rows.foldl (ed G) ([],-1)
def cH(G:Gd)(s:Nat):List Nat:=(eH G (mv (dK s))).1
def jH(G:Gd)(s:Nat):Bool:=decide (dF G (cH G s)<=G.minutes)
def eD(G:Gd)(most:Nat):List Nat->List Nat->Option (List Nat)
 |[],a=>some a
 |d::r,a=>
  match(List.range a.length).findSome? λi=>if jH G (nZ (a.getD i 0) d)then eD G most r (a.set i (nZ (a.getD i 0) d))else none with
  |some b=>some b
  |none=>if a.length<most/\jH G (dB [d])=true then eD G most r (a++[dB [d]])else none
def fJ(G:Gd)(s:Nat):Option (List (List Nat)):=
 if s=0 then some []else((List.range (dK s).length).findSome? λm=>eD G (m+1) (dK s) []).map λa=>a.map (cH G)
end Go.Proofs.W
namespace Go.Proofs.W
open Go.RowKit
theorem NL:Tryz.prog.underlying 181=some (.map 154 27):=by kernel_rfl
theorem NM:Tryz.prog.underlying 180=some (.map 217 220):=by kernel_rfl
def Kx(s:Nat):ce:=.int .u8 s
def oH(s:Nat):ce:=.agg (pS s).toArray
theorem Zn(a0 a b c h d e f g i:Bool)(w:cd):Sem.run V.prog (Op.equal 217 (.agg #[.bool a0,.bool a,.bool b,.bool c,.bool h]) (.agg #[.bool d,.bool e,.bool f,.bool g,.bool i])) w=.ok (a0==d&&(a==e&&(b==f&&(c==g&&h==i)))) w:=by
 by_cases j:a0=d;subst j;by_cases k:a=e;subst k;by_cases l:b=f;subst l;by_cases m:c=g;subst m;cases a0<;>cases a<;>cases b<;>cases c<;>cases h<;>cases i<;>kernel_rfl;cases a0<;>cases a<;>cases b<;>cases c<;>cases g<;>first|exact absurd rfl m|kernel_rfl
 cases a0<;>cases a<;>cases b<;>cases f<;>first|exact absurd rfl l|kernel_rfl
 cases a0<;>cases a<;>cases e<;>first|exact absurd rfl k|kernel_rfl
 cases a0<;>cases d<;>first|exact absurd rfl j|kernel_rfl
theorem RO:∀s:Nat,s<32->∀s':Nat,s'<32->(s.testBit 0==s'.testBit 0&&(s.testBit 1==s'.testBit 1&&(s.testBit 2==s'.testBit 2&&(s.testBit 3==s'.testBit 3&&s.testBit 4==s'.testBit 4))))=decide (s=s'):=by decide+kernel
theorem Qp(s s':Nat)(b:s<32)(a:s'<32)(w:cd):Sem.run V.prog (Op.equal 217 (oH s) (oH s')) w=.ok (decide (s=s')) w:=by rw[<-RO s b s' a];exact Zn _ _ _ _ _ _ _ _ _ _ w
theorem NN{s s':Nat}(b:s<32)(a:s'<32)(h:oH s=oH s'):s=s':=by have:=RO s b s' a;simp only[oH,pS,Value.agg.injEq]at h;have h:=cM Array.toList h;simp only[qm,Value.bool.injEq,and_true]at h;obtain⟨c,d,e,f,g⟩:=h;rw[c,d,e,f,g]at this;simpa using this.symm
theorem Dd:BO 154 Kx:=by
 have f:Tryz.prog.underlying 154=some (.int .u8):=by kernel_rfl
 have g:∀(s:Nat) (a:List MapEntry) (i:Nat),(∀e∈a,∃b,b<32/\e.key=Kx b)->Instr.findNow (.int .u8) (Kx s) a i=some none\/∃j e,a[j]? =some e/\e.key=Kx s/\Instr.findNow (.int .u8) (Kx s) a i=some (some (i+j,e.val)):=by
  intro s a;induction a with
  |nil=>intro i _;exact .inl rfl
  |cons e r q=>
   intro i h;obtain⟨b,_,n⟩:=h e eR;have t:Instr.sameNow (.int .u8) (Kx s) e.key=some ((s:Int)==(b:Int)):=by rw[n];rfl
   unfold Instr.findNow;rw[t];by_cases p:s=b;subst p;exact .inr ⟨0,e,rfl,n,by simp⟩;have:((s:Int)==(b:Int))=false:=by simpa using(λh:(s:Int)=b=>p (by omega))
   rw[this];rcases q (i+1) (λx u=>h x (eI _ u))with d|⟨j,x,d,k,l⟩;exact .inl d;exact .inr ⟨j+1,x,by simpa using d,k,by simp only[l];congr 3;omega⟩
 refine⟨λe s w _=>by kernel_rfl,λs a v m=>?_,λs w v=>?_,λs b _ _ h=>?_⟩;have c:∀o w,Instr.findNow (.int .u8) (Kx s) a 0=some o->Sem.run V.prog (Instr.findKey 154 (Kx s) a) w=.ok o w:=λo w y=>by unfold Instr.findKey;simp only[Sem.run_bind,fZ f,Result.andThen_ok,y,Sem.run_pure]
 rcases g s a 0 m with h|⟨j,e,d,k,l⟩;exact⟨_,λw=>c _ w h,.inl rfl⟩;exact⟨_,λw=>c _ w l,.inr ⟨j,e,d,k,by rw[cB]⟩⟩;unfold Instr.keyThatStays;have:Instr.sameBits 10000 (Kx s) (Kx s)=true:=by simp[Kx,Instr.sameBits]
 rw[cx this,Sem.run_pure];simp only[Kx,Value.int.injEq,true_and]at h;omega
theorem NO:BO 217 oH:=by
 have f:Tryz.prog.underlying 217=some (.array 5 4):=by kernel_rfl
 have n:∀(s:Nat) (a:List MapEntry) (i:Nat),s<32->(∀e∈a,∃b,b<32/\e.key=oH b)->∃o,(∀w,Sem.run V.prog (Instr.findAsking 217 (oH s) a i) w=.ok o w)/\(o=none\/∃j e,a[j]? =some e/\e.key=oH s/\o=some (i+j,e.val)):=by
  intro s a;induction a with
  |nil=>intro i _ _;exact⟨none,λw=>by simp[Instr.findAsking],.inl rfl⟩
  |cons e r z=>
   intro i c h;obtain⟨b,d,m⟩:=h e eR;have p:=λw=>Qp s b c d w;rw[<-m]at p;by_cases g:s=b;subst g;exact⟨some (i,e.val),λw=>by unfold Instr.findAsking;simp only[Sem.run_bind,p,Result.andThen_ok,decide_true,cX,Sem.run_pure],.inr ⟨0,e,rfl,m,rfl⟩⟩
   have step:∀w,Sem.run V.prog (Instr.findAsking 217 (oH s) (e::r) i) w=Sem.run V.prog (Instr.findAsking 217 (oH s) r (i+1)) w:=λw=>by
    conv=>lhs;unfold Instr.findAsking
    simp only[Sem.run_bind,p,Result.andThen_ok,g,decide_false,iq,eo]
   obtain⟨o,q,t⟩:=z (i+1) c λx A=>h x (eI _ A);refine⟨o,λw=>(step w).trans (q w),t.imp (λh=>h) ?_⟩;rintro⟨j,x,u,v,y⟩;exact⟨j+1,x,by simpa using u,v,by rw[y];congr 2;omega⟩
 refine⟨λe s w _=>by kernel_rfl,λs a c k=>?_,λs w c=>?_,λs b c d h=>NN c d h⟩;cases a with
 |nil=>exact⟨none,λw=>by unfold Instr.findKey;simp only[Sem.run_bind,fZ f,Result.andThen_ok,Instr.findNow,Sem.run_pure],.inl rfl⟩
 |cons e r=>
  obtain⟨b,_,m⟩:=k e eR;have B:Instr.findNow (.array 5 4) (oH s) (e::r) 0=none:=by unfold Instr.findNow;rw[m];rfl
  have l:∀w,Sem.run V.prog (Instr.findKey 217 (oH s) (e::r)) w=Sem.run V.prog (Instr.findAsking 217 (oH s) (e::r)) w:=λw=>by unfold Instr.findKey;simp only[Sem.run_bind,fZ f,Result.andThen_ok,B]
  obtain⟨o,q,t⟩:=n s (e::r) 0 c k;refine⟨o,λw=>(l w).trans (q w),t.imp (λh=>h) ?_⟩;rintro⟨j,x,u,v,y⟩;exact⟨j,x,u,v,by rw[y,cB]⟩
 unfold Instr.keyThatStays;have:Instr.sameBits 10000 (oH s) (oH s)=true:=by simp[oH,pS,Instr.sameBits]
 rw[cx this,Sem.run_pure]
def gq(A:Nat->Prop)(w:cd)(a:Option Addr)(l:List Nat):Prop:=∀k (h:k<l.length),∃b o,¬A b/\a=some ⟨b,o,none⟩/\w.cell? ⟨b,o+k,none⟩=some (.int .i64 l[k])
def kZ(A:Nat->Prop)(w:cd)(a:Option Addr)(ls:List (List Nat)):Prop:=∀k (h:k<ls.length),∃b o c d,¬A b/\a=some ⟨b,o,none⟩/\w.cell? ⟨b,o+k,none⟩=some (.slice c ls[k].length d)/\gq A w c ls[k]/\ls[k].length<=d
theorem nF{w:cd}{b o:Nat}{v:ce}(h:w.cell? ⟨b,o,none⟩=some v):b<w.heap.size:=by refine yB λa=>?_;have:w.heap[b]? =none:=mO a;simp[World.cell?,this]at h
section
variable{A A':Nat->Prop}{w w':cd}{a:Option Addr}{l:List Nat}{ls:List (List Nat)}{n0:Nat}
theorem gq.n(h:gq A w a l):eO w a l:=λk c=>by obtain⟨b,o,_,d,e⟩:=h k c;exact⟨b,o,d,e⟩
theorem kZ.rows(h:kZ A w a ls):tJ w a ls:=λk c=>by obtain⟨b,o,d,e,_,f,g,i,j⟩:=h k c;exact⟨b,o,d,e,f,g,i.n,j⟩
theorem gq.go(h:gq A w a l)(e:∀b,A' b->A b\/w.heap.size<=b)(f:∀b o v,¬A b->w.cell? ⟨b,o,none⟩=some v->w'.cell? ⟨b,o,none⟩=some v):gq A' w' a l:=λk g=>by obtain⟨b,o,c,i,d⟩:=h k g;refine⟨b,o,λj=>?_,i,f _ _ _ c d⟩;have:=nF d;rcases e b j with h|h;exact c h;omega
theorem kZ.go(h:kZ A w a ls)(c:∀b,A' b->A b\/w.heap.size<=b)(d:∀b o v,¬A b->w.cell? ⟨b,o,none⟩=some v->w'.cell? ⟨b,o,none⟩=some v):kZ A' w' a ls:=λk g=>by obtain⟨b,o,i,j,e,l,f,m,n⟩:=h k g;refine⟨b,o,i,j,λp=>?_,l,d _ _ _ e f,m.go c d,n⟩;have:=nF f;rcases c b p with h|h;exact e h;omega
theorem gq.gi(h:gq A w a l)(e:iB n0 w w'):gq A w' a l:=h.go (λ_ h=>.inl h) λ_ _ _ _ b=>e.cell b
theorem kZ.gi(h:kZ A w a ls)(e:iB n0 w w'):kZ A w' a ls:=h.go (λ_ h=>.inl h) λ_ _ _ _ b=>e.cell b
theorem gq.more(h:gq A w a l)(c:∀b,A' b->A b\/w.heap.size<=b):gq A' w a l:=h.go c λ_ _ _ _ d=>d
theorem kZ.more(h:kZ A w a ls)(c:∀b,A' b->A b\/w.heap.size<=b):kZ A' w a ls:=h.go c λ_ _ _ _ d=>d
theorem dE.Th{d:Nat}{v:ce}(h:dE d w v l)(f:∀b,A b->b<d):∃a c,v=.slice a l.length c/\gq A w a l/\l.length<=c:=by obtain⟨o,⟨g,rfl⟩|⟨b,c,p,q,rfl,i,r,j,s,m,t⟩⟩:=h;exact⟨none,0,by rw[g],λk e=>by omega,by omega⟩;refine⟨_,c,rfl,λk e=>⟨b,0,λn=>by have:=f b n;omega,rfl,?_⟩,j⟩;refine ci i ?_;rw[cB,m k (by simp[fi];omega)];simp[fi,ew e]
end
def ShR(A:Nat->Prop)(G:Gd)(s:Nat)(v:ce)(w:cd):Prop:=∃a c,v=.slice a (cH G s).length c/\gq A w a (cH G s)/\(cH G s).length<=c
def Ky(A:Nat->Prop)(o:Option (List (List Nat)))(v:ce)(b:Bool)(w:cd):Prop:=match o with
 |none=>v=.slice none 0 0/\b=false
 |some ls=>b=true/\∃a c,v=.slice a ls.length c/\kZ A w a ls/\ls.length<=c
def VO(A:Nat->Prop)(G:Gd)(s:Nat)(v:ce)(w:cd):Prop:=∃u b,v=.agg #[u,.bool b]/\Ky A (fJ G s) u b w
structure ku(A:Nat->Prop)(mk ms:Nat)(G:Gd)(w:cd):Prop where
 s:kL Kx (ShR A G) ms w
 k:kL oH (VO A G) mk w
 ak:¬A mk
 asm:¬A ms
section
variable{A A':Nat->Prop}{w w' w1 w2:cd}{G:Gd}{mk ms n0:Nat}
theorem ShR.go{s:Nat}{v:ce}(h:ShR A G s v w)(d:∀b,A' b->A b\/w.heap.size<=b)(e:∀b o v,¬A b->w.cell? ⟨b,o,none⟩=some v->w'.cell? ⟨b,o,none⟩=some v):ShR A' G s v w':=by obtain⟨a,c,f,g,i⟩:=h;exact⟨a,c,f,g.go d e,i⟩
theorem Ky.go{o:Option (List (List Nat))}{v:ce}{b:Bool}(h:Ky A o v b w)(d:∀b,A' b->A b\/w.heap.size<=b)(e:∀b o v,¬A b->w.cell? ⟨b,o,none⟩=some v->w'.cell? ⟨b,o,none⟩=some v):Ky A' o v b w':=by
 cases o with
 |none=>exact h
 |some ls=>
  obtain⟨f,a,c,g,i,j⟩:=h;exact⟨f,a,c,g,i.go d e,j⟩
theorem VO.go{s:Nat}{v:ce}(h:VO A G s v w)(a:∀b,A' b->A b\/w.heap.size<=b)(c:∀b o v,¬A b->w.cell? ⟨b,o,none⟩=some v->w'.cell? ⟨b,o,none⟩=some v):VO A' G s v w':=by obtain⟨u,b,d,e⟩:=h;exact⟨u,b,d,e.go a c⟩
theorem kL.go{c:Nat->ce}{R d:Nat->ce->cd->Prop}{r:Nat}(h:kL c R r w)(e:∀s v,R s v w->d s v w')(a:∀o,w.heap[r]? =some o->w'.heap[r]? =some o):kL c d r w':=by obtain⟨f,b,g,i⟩:=h.out;exact⟨f,b,a _ g,λx j=>by obtain⟨s,k,l,m⟩:=i x j;exact⟨s,k,l,e _ _ m⟩⟩
theorem kL.lt{a:Nat->ce}{R:Nat->ce->cd->Prop}{r:Nat}(h:kL a R r w):r<w.heap.size:=by obtain⟨d,b,c,_⟩:=h.out;exact cF.lt_of_heap c
theorem ku.go(h:ku A mk ms G w)(d:∀b,A' b->A b\/w.heap.size<=b)(i:∀b o v,¬A b->w.cell? ⟨b,o,none⟩=some v->w'.cell? ⟨b,o,none⟩=some v)(a:∀b o,b=mk\/b=ms->w.heap[b]? =some o->w'.heap[b]? =some o):ku A' mk ms G w':=by have j:=h.k.lt;have ls:=h.s.lt;refine⟨h.s.go (λs v e=>e.go d i) λo f=>a _ _ (.inr rfl) f,h.k.go (λs v e=>e.go d i) λo f=>a _ _ (.inl rfl) f,λg=>?_,λg=>?_⟩;rcases d _ g with c|c;exact h.ak c;omega;rcases d _ g with c|c;exact h.asm c;omega
theorem ku.ext(h:ku A mk ms G w)(e:Ext w w'):ku A mk ms G w':=h.go (λ_ h=>.inl h) (λ_ _ _ _ a=>e.cell a) λb o _ c=>e.at_ c
theorem ku.more(h:ku A mk ms G w)(a:∀b,A' b->A b\/w.heap.size<=b):ku A' mk ms G w:=h.go a (λ_ _ _ _ c=>c) λ_ _ _ h=>h
theorem ku.keep{F:Nat->Prop}(h:ku A mk ms G w)(k:cN F w w')(c:∀b,F b->A b):ku A mk ms G w':=
 h.go (λ_ h=>.inl h) (λb o v d e=>k.ef e λa=>d (c b a)) λb o d f=>k.fg f λa=>by rcases d with rfl|rfl;exact h.ak (c _ a);exact h.asm (c _ a)
end
def MR(n0 mk ms:Nat)(G:Gd)(a b:cd):Prop:=iB n0 a b/\∀A:Nat->Prop,(∀x,A x->x<a.heap.size)->ku A mk ms G a->ku A mk ms G b
section
variable{n0 mk ms:Nat}{G:Gd}{a b c:cd}
theorem MR.refl(a:cd):MR n0 mk ms G a a:=⟨iB.refl _ _,λ_ _ h=>h⟩
theorem MR.trans(h:MR n0 mk ms G a b)(k:MR n0 mk ms G b c):MR n0 mk ms G a c:=⟨h.1.trans k.1,λA d e=>k.2 A (λx f=>dl (d x f) h.1.size) (h.2 A d e)⟩
theorem Ext.mr(h:Ext a b):MR n0 mk ms G a b:=⟨h.gi n0,λA _ c=>c.ext h⟩
theorem WM(n0 mk ms:Nat)(G:Gd):fw (MR n0 mk ms G):=⟨MR.refl,λ_ _ _=>MR.trans,λw=>(Ext.drew w).mr⟩
end
section
variable{w:cd}{k:ce->cd->Prop}
def HT{t e:cg}{zs:List ce}(f:FD t e zs){l c:Nat}(g:l<=c)(j:c<=100000)(h:∀w' a,Ext w w'->w.heap.size<=a->w'.heap[a]? =some (.cells (madeCells zs.toArray (c*zs.length)) e)->k (.slice (some ⟨a,0,none⟩) l c) w'):iO V.prog (Instr.makeSlice t (.int .i64 l) (.int .i64 c)) w k:=by
 obtain⟨m,i,z,d,n,o,p,q,r⟩:=f
 have b:=run_make (P:=V.prog) w t e i z m d n .i64 .i64 (l:Int) (c:Int) (by omega) (by omega) (by
  have:i.bytes*c<=256*100000:=Nat.mul_le_mul q j;have d:((i.bytes:Int)*(c:Int))=((i.bytes*c:Nat):Int):=by simp
  omega) (by omega)
 simp only[ql]at b;rw[o,p]at b;exact⟨_,_,b,h _ w.heap.size (Ext.alloc _ _) (cz _) (eU _ _)⟩
def FN(z:ce)(n:Nat):madeCells #[z] n=Array.replicate n z:=by apply Array.ext;simp[madeCells];intro i a b;simp[madeCells,Nat.mod_one]
def UN:FD 225 4 [.bool false]:=⟨by kernel_rfl,Tryz.t4,_,by kernel_rfl,rfl,by kernel_rfl,by kernel_rfl,by decide+kernel,by decide⟩
def Je{h t e:cg}{z:ce}{r:Array Bool}(s:FD h e [z]){b a l:Nat}{cs:Array ce}(m:w.heap[b]? =some (.cells cs e))(d:a+1<=l)(n:a<cs.size){o c:Nat}{u:ce}(y:w.cell? ⟨o,0,none⟩=some u)(A:u.oneCell'=true)
 (B:∀w',cN (λx=>x=b) w w'->w'.heap[b]? =some (.cells (cs.setIfInBounds a u) e)->k (.slice (some ⟨b,0,none⟩) (a+1) l) w'):wY V.prog (builtin .append #[h,h] t r #[.slice (some ⟨b,0,none⟩) a l,.slice (some ⟨o,0,none⟩) 1 c]) w k:=by
 obtain⟨p,i,E,C,F,G,g,H,I⟩:=s;have g:i.size=1:=g
 have q:=run_append_room_cells (P:=V.prog) w h t e i p C b 0 a l ⟨o,0,none⟩ 1 c [u] (by simp[g]) (λj v f=>by
  match j,f with
  |0,f=>cases f;rw[fL];exact y) (λv D=>by rcases fD.1 D with rfl;exact A) d (λj f=>by
  have:j=0:=by simpa using f
  subst this;simp[World.cell?,m,g,n]) (λj f=>by simp[World.frozen?,m])
 rw[g]at q;simp only[cB,ot]at q;refine⟨_,w.setCells b a [u],?_,B _ (oF _ _ _ _ _ (cN.refl _ w)) (rB [u] w b a cs e (0,0) m)⟩;unfold builtin;simp only[Sem.run_bind,q,Result.andThen_ok,Sem.run_pure]
end
structure E2(r u:Nat)(o1 VC o2 VD:Obj)(a b:cd):Prop where
 k:cN (λx=>x=r\/x=u) a b
 r1:a.heap[r]? =some VC->b.heap[r]? =some VC
 r0:a.heap[r]? =some o1->b.heap[r]? =some o1\/b.heap[r]? =some VC
 u1:a.heap[u]? =some VD->b.heap[u]? =some VD
 u0:a.heap[u]? =some o2->b.heap[u]? =some o2\/b.heap[u]? =some VD
def UO(r u:Nat)(f d g e:Obj):fw (E2 r u f d g e):=
 ⟨λw=>⟨cN.refl _ w,id,.inl,id,.inl⟩,λa b c h k=>⟨h.k.trans k.k (λ_ _ h=>h) λ_ _ h=>h,λx=>k.r1 (h.r1 x),λx=>by
  rcases h.r0 x with y|y;exact k.r0 y;exact .inr (k.r1 y),λx=>k.u1 (h.u1 x),λx=>by
  rcases h.u0 x with y|y;exact k.u0 y;exact .inr (k.u1 y)⟩,λw=>⟨(Ext.drew w).keep _,id,.inl,id,.inl⟩⟩
def E2.UP{r u:Nat}{e c f d:Obj}{a b:cd}(h:Ext a b):E2 r u e c f d a b:=⟨h.keep _,λx=>h.at_ x,λx=>.inl (h.at_ x),λx=>h.at_ x,λx=>.inl (h.at_ x)⟩
def E2.cell{r u:Nat}{e c f d:Obj}{a b:cd}(h:E2 r u e c f d a b){ad:Addr}{v:ce}(g:a.cell? ad=some v)(i:ad.block≠r)(j:ad.block≠u):b.cell? ad=some v:=h.k.ef g (by omega)
def E2.t1{r u:Nat}{f c g e:Obj}{a b:cd}(k:cN (λx=>x=r) a b)(d:r≠u)(h:b.heap[r]? =some c):E2 r u f c g e a b:=
 ⟨k.trans (cN.refl (λ_=>False) b) (λ_ _ h=>.inl h) λ_ _ h=>h.elim,λ_=>h,λ_=>.inr h,λx=>k.fg x (fO d),λx=>.inl (k.fg x (fO d))⟩
def E2.t2{r u:Nat}{f e g c:Obj}{a b:cd}(k:cN (λx=>x=u) a b)(d:r≠u)(h:b.heap[u]? =some c):E2 r u f e g c a b:=
 ⟨k.trans (cN.refl (λ_=>False) b) (λ_ _ h=>.inr h) λ_ _ h=>h.elim,λx=>k.fg x d,λx=>.inl (k.fg x d),λ_=>h,λ_=>.inr h⟩
section
variable{E:cd->cd->Prop}{w:cd}{kx:ce->Prop}{kr kp kl:fW->Prop}{lb ea:Bool}
def wi{t:cg}{ad:Addr}{v:ce}(a:fw E)(c0:∀w1,E w w1->w1.cell? ad=some v)(k:kx v)(b:HB t=some false:=by rfl):zr E E w (λw1 c=>iO V.prog (Instr.loadAt t (.pointer (some ad))) w1 c) kx kr kp lb kl ea:=
 dx v (λw1 e=>cu (c0 w1 e) ⟨rfl,a.refl _⟩ b) k
end
structure A8 where
 (rv lv yv uv gv rb ub lp:Nat)(la:Option Addr)(lc:Nat)
def cK(b:Nat):ce:=.pointer (some ⟨b,0,none⟩)
def A8.mw(e:A8):Array ce:=#[cK e.rv,cK e.lv,cK e.yv,cK e.uv,cK e.gv]
structure WN(e:A8):Prop where
 r:e.rv≠e.lv/\e.rv≠e.yv/\e.rv≠e.uv/\e.rv≠e.gv/\e.rv≠e.rb/\e.rv≠e.ub
 b:e.rb≠e.lv/\e.rb≠e.yv/\e.rb≠e.uv/\e.rb≠e.gv/\e.rb≠e.ub
 u:e.ub≠e.lv/\e.ub≠e.yv/\e.ub≠e.uv/\e.ub≠e.gv
 l:∀b o,e.la=some ⟨b,o,none⟩->b≠e.rv/\b≠e.rb/\b≠e.ub
def iT(a:List Bool):Obj:=.cells (a.map Value.bool).toArray 4
structure Jf(e:A8)(l row:List Nat)(used:List Bool)(w:cd):Prop where
 rv:w.heap[e.rv]? =some (.cells #[.slice (some ⟨e.rb,0,none⟩) row.length l.length] 27)
 lv:w.cell? ⟨e.lv,0,none⟩=some (.slice e.la l.length e.lc)
 yv:w.cell? ⟨e.yv,0,none⟩=some (.func (.yield e.lp) #[] #[])
 uv:w.cell? ⟨e.uv,0,none⟩=some (.slice (some ⟨e.ub,0,none⟩) l.length l.length)
 gv:w.cell? ⟨e.gv,0,none⟩=some (.func (.func 197) #[] e.mw)
 rb:∃cs,w.heap[e.rb]? =some (.cells cs 3)/\cs.size=l.length/\∀j (h:j<row.length),cs[j]? =some (.int .i64 row[j])
 ub:w.heap[e.ub]? =some (iT used)
 ul:used.length=l.length
 row:eO w e.la l
def Jf.keep{e:A8}{l c:List Nat}{a:List Bool}{w w':cd}{F:Nat->Prop}(h:Jf e l c a w)(k:cN F w w')(f:∀b,F b->b≠e.rv/\b≠e.lv/\b≠e.yv/\b≠e.uv/\b≠e.gv/\b≠e.rb/\b≠e.ub/\∀g o,e.la=some ⟨g,o,none⟩->b≠g):Jf e l c a w':=by
 have n:∀b,(b=e.rv\/b=e.lv\/b=e.yv\/b=e.uv\/b=e.gv\/b=e.rb\/b=e.ub)->¬F b:=λb u d=>by have:=f b d;omega
 obtain⟨m,p,q,r⟩:=h.rb;refine⟨k.fg h.rv (n _ (.inl rfl)),k.ef h.lv (n _ (.inr (.inl rfl))),k.ef h.yv (n _ (.inr (.inr (.inl rfl)))),k.ef h.uv (n _ (by simp)),k.ef h.gv (n _ (by simp)),⟨m,k.fg p (n _ (by simp)),q,r⟩,k.fg h.ub (n _ (by simp)),h.ul,λi s=>?_⟩;obtain⟨b,o,j,t⟩:=h.row i s;exact⟨b,o,j,k.ef t λd=>(f _ d).2.2.2.2.2.2.2 _ _ j rfl⟩
def Jf.Ed{e:A8}(g:WN e){l n c:List Nat}{d a:List Bool}{w f:cd}(h:Jf e l n d w)(k:cN (λx=>x=e.rv\/x=e.rb\/x=e.ub) w f)
 (p:f.heap[e.rv]? =some (.cells #[.slice (some ⟨e.rb,0,none⟩) c.length l.length] 27))(q:∃cs,f.heap[e.rb]? =some (.cells cs 3)/\cs.size=l.length/\∀j (h:j<c.length),cs[j]? =some (.int .i64 c[j]))(s:f.heap[e.ub]? =some (iT a))(t:a.length=l.length):Jf e l c a f:=by
 obtain⟨A,B,C,D,E,F⟩:=g.r;obtain⟨G,H,I,J,K⟩:=g.b;obtain⟨L,M,N,O⟩:=g.u;refine⟨p,k.ef h.lv (by show¬(e.lv=_\/e.lv=_\/e.lv=_);omega),k.ef h.yv (by show¬(e.yv=_\/e.yv=_\/e.yv=_);omega),k.ef h.uv (by show¬(e.uv=_\/e.uv=_\/e.uv=_);omega),k.ef h.gv (by show¬(e.gv=_\/e.gv=_\/e.gv=_);omega),q,s,t,λi v=>?_⟩;obtain⟨m,y,o,z⟩:=h.row i v;have:=g.l _ _ o;exact⟨m,y,o,k.ef z (by show¬(m=_\/m=_\/m=_);omega)⟩
def RP{e:A8}{d a f b:Obj}{w w1 c:cd}(e1:E2 e.rb e.ub d a f b w w1)(g:cN (λx=>x=e.rv) w1 c):cN (λx=>x=e.rv\/x=e.rb\/x=e.ub) w c:=
 (e1.k.trans g (λ_ _ h=>.inr h) λ_ _ h=>.inl h)
def wj(l:List Nat)(m:Nat)(b:List Nat)(a:List Bool)(k:Nat):List (List Nat):=(List.range k).flatMap λi=>if a.getD i false then []else nE l m (b++[l.getD i 0]) (a.set i true)
def xh(l:List Nat)(m:Nat)(b:List Nat)(a:List Bool)(k:Nat):wj l m b a (k+1)=wj l m b a k++if a.getD k false then []else nE l m (b++[l.getD k 0]) (a.set k true):=by unfold wj;rw[kA,List.flatMap_append];simp
def FO(e:A8)(l:List Nat)(Y:List (List Nat)->cd->Prop):Prop:=∀i b c w,b.length=l.length->(∀d∈b,d∈l)->Jf e l b c w->Y i w->∃f g a h,Sem.run V.prog (Instr.yield e.lp #[.slice (some ⟨e.rb,0,none⟩) b.length l.length]) w=.ok (.round e.lp f g a h) w/\RoundIn Fence.wide 0 V.prog e.lp f g a h w λk j=>k=.returned (.bool true)/\Jf e l b c j/\Y (i++[b]) j
def De(cs:Array ce)(k:Nat)(v:ce):(cs.setIfInBounds k v).setIfInBounds k v=cs.setIfInBounds k v:=by simp
def FP(a:List Bool)(k:Nat)(b:Bool):((a.map Value.bool).toArray).setIfInBounds k (.bool b)=((a.set k b).map Value.bool).toArray:=by simp[List.map_set]
theorem Jg{e:A8}(N:WN e){l:List Nat}(Z:l.length<=100000){Y:List (List Nat)->cd->Prop}(hY:∀pre a b,Y pre a->cN (λx=>x=e.rv\/x=e.rb\/x=e.ub) a b->Y pre b)(hy:FO e l Y):
 ∀m g c pre w,g.length+m=l.length->(∀d∈g,d∈l)->Jf e l g c w->Y pre w->Calls V.prog 197 e.mw w (fy λv w'=>v=.bool true/\Jf e l g c w'/\Y (pre++nE l m g c) w')
 |m,g,c,pre,w,hm,L,h,O=>by
  obtain⟨o1,o2,o3,o4,o5,o6⟩:=N.r;obtain⟨p1,p2,p3,p4,p5⟩:=N.b;obtain⟨q1,q2,q3,q4⟩:=N.u;have aw:=N.l;refine go V.func197 Tryz.ntmps197 ?_;refine cu (ci h.rv rfl) (cD (cu h.lv (cD (eh ⟨λW=>?_,λW=>?_⟩))));have W:g.length=l.length:=by simp at W;omega
  obtain rfl:m=0:=by omega
  obtain⟨f,ar,ag,au,aa,hR⟩:=hy pre g c w W L h O;refine cu h.yv (cu (ci h.rv rfl) ⟨_,_,_,_,aa,hR.mono ?_⟩);rintro en w' ⟨rfl,I,h2⟩;exact⟨_,rfl,rfl,I,h2⟩;have W:g.length≠l.length:=by simp at W;omega
  obtain⟨m,rfl⟩:∃m',m=m'+1:=⟨m-1,by omega⟩;refine cu h.lv (cD (ei (n:=l.length) (λk=>[(0,cK e.rv),(1,cK e.lv),(2,cK e.yv),(3,cK e.uv),(4,cK e.gv),(17,.slice e.la l.length e.lc),(18,.int .i64 l.length),(19,.int .i64 k)]) (λk w'=>Jf e l g c w'/\Y (pre++wj l m g c k) w') ⟨⟨rfl,rfl,rfl,rfl,rfl,rfl,rfl,rfl,trivial⟩,h,by simpa[wj]using O⟩ ?_ ?_ ?_));rintro k w' P X;exact cV ⟨rfl,rfl,⟨rfl,rfl,rfl,rfl,rfl,rfl,rfl,rfl,trivial⟩,X⟩;rintro k w' P ⟨h,O⟩;obtain⟨b,o,Q,R⟩:=h.row k P;have S:k<c.length:=by rw[h.ul];exact P
  have ah:w'.cell? ⟨e.ub,0+k,none⟩=some (.bool c[k]):=by refine ci h.ub ?_;simp[S]
  have ab:c.getD k false=c[k]:=getD_eq S;have ai:l.getD k 0=l[k]:=getD_eq P;rw[Q];refine dI k P (cu R (cu h.uv (dI k P (cu ah ⟨λhu=>?_,λhu=>?_⟩))));refine cq ⟨⟨rfl,rfl,rfl,rfl,rfl,by rw[<-Q];rfl,rfl,rfl,trivial⟩,h,?_⟩;rw[xh,ab,hu];simpa using O;obtain⟨B,g1,g2,g3⟩:=h.rb;have av:g.length<l.length:=by omega
  have hE:=UO e.rb e.ub (.cells B 3) (.cells (B.setIfInBounds g.length (.int .i64 l[k])) 3) (iT c) (iT (c.set k true));refine cQ hE ?_;refine wi hE (λq p=>p.cell h.uv (by show e.uv≠e.rb;omega) (by show e.uv≠e.ub;omega)) ?_;refine wi hE (λq p=>p.cell (ci h.rv rfl) o5 o6) ?_;refine .rel (λv w=>∃F,v=.slice (some ⟨F,0,none⟩) 1 1/\F≠e.rb/\F≠e.ub/\w.heap[F]? =some (.cells [Value.int .i64 l[k]].toArray 3)) ?_ (λq p=>dJ [Value.int .i64 l[k]] 3 λs F e2 ac hb=>⟨⟨F,rfl,?_,?_,hb⟩,E2.UP e2⟩) ?_;rintro v a b ⟨F,I,h2,h3,h4⟩ p;exact⟨F,I,h2,h3,p.k.fg h4 (by omega)⟩;have:=cF.lt_of_heap g1;have:=p.k.size;omega;have:=cF.lt_of_heap h.ub;have:=p.k.size;omega;refine .rel (λv w=>v=.slice (some ⟨e.rb,0,none⟩) (g.length+1) l.length/\w.heap[e.rb]? =some (.cells (B.setIfInBounds g.length (.int .i64 l[k])) 3)) ?_ ?_ ?_;rintro v a b ⟨I,h2⟩ p;exact⟨I,p.r1 h2⟩;rintro q p v ⟨F,rfl,n1,n2,hb⟩;have t:∀J,q.heap[e.rb]? =some (.cells J 3)->J.size=B.size->J.setIfInBounds g.length (.int .i64 l[k])=B.setIfInBounds g.length (.int .i64 l[k])->wY V.prog (builtin .append #[27,27] 27 (#[Operand.tmp 30,Operand.tmp 32].map λ| .const _=>true|_=>false) #[.slice (some ⟨e.rb,0,none⟩) g.length l.length,.slice (some ⟨F,0,none⟩) 1 1]) q λu s=>(u=.slice (some ⟨e.rb,0,none⟩) (g.length+1) l.length/\s.heap[e.rb]? =some (.cells (B.setIfInBounds g.length (.int .i64 l[k])) 3))/\E2 e.rb e.ub (.cells B 3) (.cells (B.setIfInBounds g.length (.int .i64 l[k])) 3) (iT c) (iT (c.set k true)) q s:=λJ aj ax y=>by refine Je (u:=.int .i64 l[k]) oG aj (by omega) (by omega) (ci hb rfl) rfl λs G i=>?_;rw[y]at i;exact⟨⟨rfl,i⟩,E2.t1 G p5 i⟩
  rcases p.r0 g1 with C|C;exact t B C rfl rfl;exact t _ C (by simp) (De _ _ _);refine .exact (.pointer (some ⟨e.ub,0+k,none⟩)) (λq p v hv=>dI k (by omega) ⟨rfl,hE.refl _⟩) ?_;refine .xd (λ_ w=>w.heap[e.ub]? =some (iT (c.set k true))) (λ_ a b I p=>p.u1 I) (λq p v hv=>?_) ?_
  have t:∀H:List Bool,q.heap[e.ub]? =some (iT H)->H.length=c.length->H.set k true=c.set k true->DR V.prog (Instr.storeAt 4 (.pointer (some ⟨e.ub,0+k,none⟩)) (.bool true)) q λs=>s.heap[e.ub]? =some (iT (c.set k true))/\E2 e.rb e.ub (.cells B 3) (.cells (B.setIfInBounds g.length (.int .i64 l[k])) 3) (iT c) (iT (c.set k true)) q s:=λH T ak y=>by
   refine iA T (by simp[Value.cells];omega) (λs G i=>by
   have i:s.heap[e.ub]? =some (iT (c.set k true)):=by rw[i,iT,<-y,<-FP];simp[fT,Value.cells]
   exact⟨i,E2.t2 G p5 i⟩) (fU rfl)
  rcases p.u0 h.ub with C|C;exact t c C rfl rfl;exact t _ C (by simp) (by simp);intro q p v1 K v2 ac X;obtain⟨rfl,K⟩:v1=.slice (some ⟨e.rb,0,none⟩) (g.length+1) l.length/\q.heap[e.rb]? =some (.cells (B.setIfInBounds g.length (.int .i64 l[k])) 3):=K;replace X:q.heap[e.ub]? =some (iT (c.set k true)):=X;clear ac;have M:=p.k.fg h.rv (by omega);refine cZ M λs G i=>?_;have k3:=RP p G;have hW:Jf e l (g++[l[k]]) (c.set k true) s:=by
   refine h.Ed N k3 (by rw[i];simp[fT,Value.cells]) ⟨_,G.fg K (by omega),by simp[g2],λj hj=>?_⟩ (G.fg X (by omega)) (by simp[h.ul]);rcases eA j g.length with ad|ay;rw[eY (by omega),g3 j ad,lI ad];obtain rfl:j=g.length:=by simp at hj;omega
   rw[jE (by omega)];simp
  have al:Y (pre++wj l m g c k) s:=hY _ _ _ O k3;clear i M G K X p k3;refine cu hW.gv (ck (Jg N Z hY hy m (g++[l[k]]) (c.set k true) _ s (by simp;omega) (λd hd=>by rcases gl.1 hd with hd|hd;exact L d hd;rw[fD.1 hd];exact dt P) hW al) ?_);rintro v w3 ⟨rfl,D,am⟩;obtain⟨E,t1,t2,t3⟩:=D.rb;have z:=UO e.rb e.ub (.cells E 3) (.cells E 3) (iT (c.set k true)) (iT c);have an:(g++[l[k]]).length=g.length+1:=by simp
  have A:=D.rv;rw[an]at A;refine cQ z ?_;refine wi z (λq p=>p.cell D.uv (by show e.uv≠e.rb;omega) (by show e.uv≠e.ub;omega)) ?_;refine wi z (λq p=>p.cell (ci A rfl) o5 o6) ?_;refine wi z (λq p=>p.cell (ci A rfl) o5 o6) ?_;refine VK (.int .i64 ((g.length+1:Nat):Int)) (λq _=>cD ⟨rfl,z.refl _⟩) ?_;refine vX (n:=1) ?_ (by omega) z;refine dx (.slice (some ⟨e.rb,0,none⟩) g.length l.length) (λq _=>n7 g.length (by omega) ⟨rfl,z.refl _⟩ (by omega)) ?_;refine me k (by omega) ?_ rfl rfl z;refine .xd (λ_ w=>w.heap[e.ub]? =some (iT c)) (λ_ a b I p=>p.u1 I) (λq p=>?_) ?_;have ae:c.set k false=c:=by apply List.ext_getElem?;intro j;by_cases hj:j=k;subst hj;simp[S,hu];rw[List.getElem?_set_ne (by omega)]
  have t:∀H:List Bool,q.heap[e.ub]? =some (iT H)->H.length=c.length->H.set k false=c->DR V.prog (Instr.storeAt 4 (.pointer (some ⟨e.ub,0+k,none⟩)) (.bool false)) q λs=>s.heap[e.ub]? =some (iT c)/\E2 e.rb e.ub (.cells E 3) (.cells E 3) (iT (c.set k true)) (iT c) q s:=λH T ak y=>by
   refine iA T (by simp[Value.cells];omega) (λs G i=>by
   have i:s.heap[e.ub]? =some (iT c):=by
    have h4:iT c=.cells ((H.map Value.bool).toArray.setIfInBounds k (.bool false)) 4:=by rw[FP,y];rfl
    rw[i,h4];simp[fT,Value.cells]
   exact⟨i,E2.t2 G p5 i⟩) (fU rfl)
  rcases p.u0 D.ub with C|C;exact t _ C (by simp) (by rw[List.set_set];exact ae);exact t _ C rfl ae;intro w4 e4 U;replace U:w4.heap[e.ub]? =some (iT c):=U;have af:=e4.k.fg A (by omega);refine cZ af λw5 k5 ao=>?_;have k6:=RP e4 k5;have ap:Jf e l g c w5:=D.Ed N k6 (by rw[ao];simp[fT,Value.cells]) ⟨E,k5.fg ((e4.r0 t1).elim id id) (by omega),t2,λj hj=>by rw[t3 j (by simp;omega),lI hj]⟩ (k5.fg U (by omega)) h.ul;have aq:=hY _ _ _ am k6;refine eu (iG rfl (cq ⟨⟨rfl,rfl,rfl,rfl,rfl,by rw[<-Q];rfl,rfl,rfl,trivial⟩,ap,?_⟩));rw[xh,ab,hu,ai];simpa using aq;rintro w' ⟨h,O⟩;exact⟨_,rfl,rfl,h,O⟩
end Go.Proofs.W
