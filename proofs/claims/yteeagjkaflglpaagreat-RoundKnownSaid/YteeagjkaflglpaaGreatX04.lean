/- Laws that the proof needs, part 4. Conditions: none. -/
import Derived.Test.YteeagjkaflglpaaGreatX03
set_option maxRecDepth 100000
set_option maxHeartbeats 8000000
set_option linter.all false
variable{a:Option Go.Addr}{H N:Go.Proofs.W.Gd}{I J:Int}{h:Go.Addr}
namespace Go.Proofs.W
open Go.RowKit
def RO:Obj->Bool
 | .map .. =>true
 |_=>false
structure iV(n0:Nat)(w w':cn):Prop where
 os:w'.os=w.os
 tape:w'.tape=w.tape
 output:w'.output=w.output
 size:w.heap.size<=w'.heap.size
 drawn:w.drawn<=w'.drawn
 block:∀b o,w.heap[b]? =some o->(b<n0\/RO o=false)->w'.heap[b]? =some o
section
variable{n0:Nat}{w w' w0 w1 w2:cn}
def iV.refl(n0:Nat)(w:cn):iV n0 w w:=⟨rfl,rfl,rfl,cJ _,cJ _,λ_ _ h _=>h⟩
theorem iV.trans{a b c:cn}(h:iV n0 a b)(k:iV n0 b c):iV n0 a c:=
 ⟨k.os.trans h.os,k.tape.trans h.tape,k.output.trans h.output,cZ h.size k.size,cZ h.drawn k.drawn,λx o e d=>k.block x o (h.block x o e d) d⟩
def Ext.gG(h:Ext w w')(n0:Nat):iV n0 w w':=⟨h.os,h.tape,h.output,h.size,h.drawn,λb o a _=>h.at_ a⟩
def iV.ext(h:iV n0 w w')(d:w.heap.size<=n0):Ext w w':=⟨h.os,h.tape,h.output,h.size,h.drawn,λb c=>by have a:w.heap[b]? =some w.heap[b]:=iY c;rw[a];exact h.block b _ a (.inl (by omega))⟩
def iV.from(h:iV n0 w w')(e:Ext w0 w)(a:w0.heap.size<=n0):Ext w0 w':=((e.gG n0).trans h).ext a
def iV.low{a:Nat}(h:iV n0 w w')(e:a<=n0):iV a w w':=⟨h.os,h.tape,h.output,h.size,h.drawn,λb o c d=>h.block b o c (d.imp (λh=>by omega) id)⟩
def iV.at_(h:iV n0 w w'){b:Nat}{a:dU}{t:cw}{c:Nat×Nat}(d:w.heap[b]? =some (.cells a t c)):w'.heap[b]? =some (.cells a t c):=h.block b _ d (.inr rfl)
def iV.cell(b:iV n0 w w'){v:cq}(a:w.cell? h=some v):w'.cell? h=some v:=by unfold World.cell? at a⊢;split at a;rename_i d t e c;rw[b.at_ c];exact a;cases a
def iV.cC{b:Nat}(h:iV n0 w w1)(k:cW (λx=>x=b) w1 w2)(e:w.heap.size<=b):iV n0 w w2:=
 ⟨k.os.trans h.os,k.tape.trans h.tape,k.output.trans h.output,cZ h.size k.size,cZ h.drawn k.drawn,λx o c d=>by have a:=cP.lt_of_heap c;exact(k.block x (dE a h.size) (by omega)).trans (h.block x o c d)⟩
def iV.ia{c:Nat}{v:cq}{t:cw}{e f:dr}{a:Nat}(h:iV n0 w w1)(k:cW (cH v) w1 w2)(g:cR c t e w1 v a f)(l:w.heap.size<=c):iV n0 w w2:=
 ⟨k.os.trans h.os,k.tape.trans h.tape,k.output.trans h.output,cZ h.size k.size,cZ h.drawn k.drawn,λx o d i=>by have b:=cP.lt_of_heap d;exact(k.block x (dE b h.size) λj=>by have:=(g.blk j).1;omega).trans (h.block x o d i)⟩
def gF.gG{l:gC}(h:gF w a l)(e:iV n0 w w'):gF w' a l:=λk c=>by obtain⟨b,o,d,f⟩:=h k c;exact⟨b,o,d,e.cell f⟩
def fZ.gG{l:List Dr}(h:fZ w a l)(e:iV n0 w w'):fZ w' a l:=λk c=>by obtain⟨b,o,d,f,g,i⟩:=h k c;exact⟨b,o,d,e.cell f,e.cell g,e.cell i⟩
def nD.gG{a:Nat}{C:Nat->cq}(h:nD a C w)(e:iV n0 w w'):nD a C w':=by obtain⟨b,c,d,f⟩:=h.out;exact⟨b,e.at_ c,d,f⟩
theorem oK.gG{gp mk ms:Nat}(h:oK gp mk ms H w)(e:iV n0 w w'):oK gp mk ms H w':=by obtain⟨a,b,c,d,f,g⟩:=h.at_;exact⟨⟨a,b,c,d.gG e,f.gG e,e.cell g⟩,h.ok,dE h.mlt e.size,dE h.slt e.size,h.ne,h.gk⟩
def fN.gG{l:cz}(h:fN w a l)(e:iV n0 w w'):fN w' a l:=λk c=>by obtain⟨b,o,d,f⟩:=h k c;exact⟨b,o,d,e.cell f⟩
def cR.gG{d:Nat}{t:cw}{f:dr}{v:cq}{a:Nat}{g:dr}(h:cR d t f w v a g)(e:iV n0 w w'):cR d t f w' v a g:=by obtain⟨i,h|⟨b,c,j,k,l,m,n⟩⟩:=h;exact⟨i,.inl h⟩;exact⟨i,.inr ⟨b,c,j,k,l,e.at_ m,n⟩⟩
theorem wM.gG{c:List cz}(h:wM w a c)(e:iV n0 w w'):wM w' a c:=λk d=>by obtain⟨b,o,f,g,i,j,l,m⟩:=h k d;exact⟨b,o,f,g,i,e.cell j,l.gG e,m⟩
theorem gU.gG{a:Nat}{v:cq}{b:List cz}(h:gU a w v b)(e:iV n0 w w'):gU a w' v b:=by obtain⟨c,d,f,g⟩:=h;refine⟨c,d.gG e,f,λk i=>?_⟩;obtain⟨u,j,l⟩:=g k i;exact⟨u,j,cR.gG l e⟩
def tn.gG{c:List Sx}(h:tn w a c)(e:iV n0 w w'):tn w' a c:=λk d=>by obtain⟨b,o,f,g⟩:=h k d;exact⟨b,o,f,λj v i=>e.cell (g j v i)⟩
theorem ll.gG{wp gp mk ms:Nat}{a:List Sx}(h:ll wp gp mk ms H a I w)(e:iV n0 w w'):ll wp gp mk ms H a I w':=by obtain⟨b,c,d,f,i,j⟩:=h.at_;exact⟨h.g.gG e,h.len,h.bf,b,c,e.cell d,e.cell f,e.cell i,j.gG e⟩
def ii.gG{c:dr}(h:ii w a c)(e:iV n0 w w'):ii w' a c:=by rcases h with h|⟨b,o,d,f⟩;exact .inl h;exact .inr ⟨b,o,d,λj u g=>e.cell (f j u g)⟩
def nF.gG{a:Nat}{b:List Sx}(h:nF a b w)(e:iV n0 w w'):nF a b w':=by obtain⟨c,d,f⟩:=h.out;exact⟨c,e.at_ d,f⟩
end
structure kY(key:Nat->cq)(R:Nat->cq->cn->Prop)(r:Nat)(w:cn):Prop where
 out:∃es clock,w.heap[r]? =some (.map es clock)/\∀e∈es.toList,∃s,s<32/\e.key=key s/\R s e.val w
def kY.gG{key:Nat->cq}{R:Nat->nd}{r n0:Nat}{w w':cn}(h:kY key R r w)(e:iV n0 w w')(c:∀s v,R s v w->R s v w')(a:w'.heap[r]? =w.heap[r]?):kY key R r w':=by obtain⟨d,b,f,g⟩:=h.out;exact⟨d,b,a.trans f,λx i=>by obtain⟨s,j,k,l⟩:=g x i;exact⟨s,j,k,c _ _ l⟩⟩
structure AJ(kt:cw)(key:Nat->cq):Prop where
 check:∀e s w,s<32->Sem.run V.prog (Instr.checkKey e 10000 kt (key s)) w=.ok () w
 find:∀s (es:List MapEntry),s<32->(∀e∈es,∃s',s'<32/\e.key=key s')->
  ∃o,(∀w,Sem.run V.prog (Instr.findKey kt (key s) es) w=.ok o w)/\(o=none\/∃j e,es[j]? =some e/\e.key=key s/\o=some (j,e.val))
 stays:∀s w,s<32->Sem.run V.prog (Instr.keyThatStays (key s) (key s)) w=.ok (key s) w
 inj:∀s s',s<32->s'<32->key s=key s'->s=s'
section
variable{w:cn}{k:cq->cn->Prop}{kt et t:cw}{key:Nat->cq}{R:Nat->cq->cn->Prop}{r:Nat}
def tq{b:Array MapEntry}{a:Nat}(h:w.heap[r]? =some (.map b a)):Sem.run V.prog (getObj r) w=.ok (.map b a) w:=by simp[getObj,Sem.run,h]
def Ie(K:AJ kt key)(k:Tryz.prog.underlying t=some (.map kt et)){z:cq}(l:∀w,Sem.run V.prog (zeroValue et) w=.ok z w)(h:kY key R r w){s:Nat}(c:s<32):∃a,((∃v,a=.tuple #[v,.bool true]/\R s v w)\/a=.tuple #[z,.bool false])/\∀w1,(∀o,w.heap[r]? =some o->w1.heap[r]? =some o)->Sem.run V.prog (Instr.lookup t (.map (some r)) (key s) true) w1=.ok a w1:=by
 obtain⟨m,d,n,b⟩:=h.out;obtain⟨o,q,u⟩:=K.find s m.toList c λe x=>by obtain⟨f,g,i,_⟩:=b e x;exact⟨f,g,i⟩
 refine⟨.tuple #[(o.map (·.2)).getD z,.bool o.isSome],?_,λw1 y=>?_⟩;rcases u with rfl|⟨j,e,A,B,rfl⟩;exact .inr rfl;obtain⟨f,g,i,C⟩:=b e (vD A);obtain rfl:=K.inj s f c g (B.symm.trans i);exact .inl ⟨_,rfl,C⟩;unfold Instr.lookup;simp only[Sem.run_bind,gB k,Result.andThen_ok,tq (y _ n),Sem.run_pure,K.check _ s w1 c,q];cases o with
 |none=>simp only[Sem.run_bind,l,Result.andThen_ok,Sem.run_pure,dF,Option.map_none,Option.getD_none,sO]
 |some p=>simp only[Sem.run_bind,Sem.run_pure,Result.andThen_ok,dF,jJ,jI,Option.isSome_some]
def Ju(K:AJ kt key)(c:Tryz.prog.underlying t=some (.map kt et)){z:cq}(d:∀w,Sem.run V.prog (zeroValue et) w=.ok z w)(h:kY key R r w){s:Nat}(e:s<32) (f:∀v,R s v w->k (.tuple #[v,.bool true]) w)(g:k (.tuple #[z,.bool false]) w):jj V.prog (Instr.lookup t (.map (some r)) (key s) true) w k:=by obtain⟨b,i,a⟩:=Ie K c d h e;refine⟨b,w,a w λ_ h=>h,?_⟩;rcases i with⟨v,rfl,j⟩|rfl;exact f v j;exact g
def uq{B:cU}(K:AJ kt key)(L:Tryz.prog.underlying t=some (.map kt et))(h:kY key R r w){s:Nat}(m:s<32){v:cq}{n0:Nat}(hn:n0<=r) (N:∀w',iV n0 w w'->(∀s u,R s u w->R s u w')/\R s v w') (O:∀w',iV n0 w w'->(∀b,b≠r->w'.heap[b]? =w.heap[b]?)->kY key R r w'->B w'):DO V.prog (Instr.mapUpdate t (.map (some r)) (key s) v) w B:=by
 obtain⟨g,c,n,p⟩:=h.out;have C:=cP.lt_of_heap n;have f:∀(a:Array MapEntry) (d:Nat),iV n0 w (w.putObj r (.map a d))/\(∀b,b≠r->(w.putObj r (.map a d)).heap[b]? =w.heap[b]?)/\(w.putObj r (.map a d)).heap[r]? =some (.map a d)/\Sem.run jD (setObj r (.map a d)) w=.ok () (w.putObj r (.map a d)):=λa d=>by refine⟨⟨rfl,rfl,rfl,by simp,cJ _,λb o q k=>?_⟩,λb q=>World.putObj_heap_other q,World.putObj_heap_same C,by simp[setObj,Sem.run,n,World.putObj]⟩;by_cases e:b=r;subst e;rw[n]at q;obtain rfl:=cO q;rcases k with k|k;omega;cases k;exact(World.putObj_heap_other e).trans q
 have y:∀(a:Array MapEntry) (d:Nat),(∀e∈a.toList,e∈g.toList\/(e.key=key s/\e.val=v))->Sem.run jD (Instr.mapUpdate t (.map (some r)) (key s) v) w=.ok () (w.putObj r (.map a d))->DO jD (Instr.mapUpdate t (.map (some r)) (key s) v) w B:=λa d l z=>by obtain⟨M,P,Q,_⟩:=f a d;obtain⟨S,T⟩:=N _ M;refine⟨_,z,O _ M P ⟨a,d,Q,λe U=>?_⟩⟩;rcases l e U with h|⟨W,X⟩;obtain⟨D,E,F,Y⟩:=p e h;exact⟨D,E,F,S _ _ Y⟩;exact⟨s,m,W,by rw[X];exact T⟩
 obtain⟨o,k,Z⟩:=K.find s g.toList m λe l=>by obtain⟨D,E,F,_⟩:=p e l;exact⟨D,E,F⟩
 rcases Z with rfl|⟨j,e,hj,A,rfl⟩;refine y (g.push {key:=key s,val:=v,born:=c}) (c+1) (λe l=>?_) ?_;simp only[Array.toList_push,jH,iJ]at l;rcases l with h|rfl;exact .inl h;exact .inr ⟨rfl,rfl⟩;unfold Instr.mapUpdate;simp only[Sem.run_bind,gB L,Result.andThen_ok,tq n,K.check _ s w m,k,(f _ _).2.2.2];refine y (g.modify j λe=>{e with key:=key s,val:=v}) c (λx G=>?_) ?_;obtain⟨i,hi,G⟩:=List.getElem_of_mem G;have H:i<g.size:=by simpa using hi
 have:(g.modify j λe=>{e with key:=key s,val:=v})[i]'(by simpa using H)=x:=by rw[<-G];exact(Array.getElem_toList _)
 rw[Array.getElem_modify]at this;split at this;subst this;exact .inr ⟨rfl,rfl⟩;subst this;exact .inl (by simp);have I:=K.stays s w m;have J:g[j]? =some e:=by simpa using hj
 unfold Instr.mapUpdate;simp only[Sem.run_bind,gB L,Result.andThen_ok,tq n,K.check _ s w m,k,J,jJ,jI,A,I,(f _ _).2.2.2]
end
end Go.Proofs.W
namespace Go.Proofs.W
def rp(l:cz):Nat->cz->List Bool->List cz
 |0,b,_=>[b]
 |n+1,b,a=>(List.range l.length).flatMap λi=>if a.getD i false then []else rp l n (b++[l.getD i 0]) (a.set i true)
def xj(l:cz):List cz:=rp l l.length [] (List.replicate l.length false)
def ju(G:Gd)(b:cz×Int)(a:cz):cz×Int:=if b.2<0\/GG G a<b.2 then(a,GG G a)else b
def jl(G:Gd)(rows:List cz):cz×Int:=rows.foldl (ju G) ([],-1)
def dX(G:Gd)(s:Nat):cz:=(jl G (xj (fl s))).1
def nG(G:Gd)(s:Nat):Bool:=decide (iU G (dX G s)<=G.minutes)
def fL(G:Gd)(most:Nat):cz->cz->Option cz
 |[],a=>some a
 |d::r,a=>
  match(List.range a.length).findSome? λi=>if nG G (qi (a.getD i 0) d)then fL G most r (a.set i (qi (a.getD i 0) d))else none with
  |some b=>some b
  |none=>if a.length<most/\nG G (io [d])=true then fL G most r (a++[io [d]])else none
def gH(G:Gd)(s:Nat):Option (List cz):=
 if s=0 then some []else((List.range (fl s).length).findSome? λm=>fL G (m+1) (fl s) []).map λa=>a.map (dX G)
end Go.Proofs.W
variable{x y z:cq}
namespace Go.Proofs.W
open Go.RowKit
theorem MG:Tryz.prog.underlying 181=some (.map 154 27):=by kernel_rfl
theorem MH:Tryz.prog.underlying 180=some (.map 217 220):=by kernel_rfl
def Jv(s:Nat):cq:=.int .u8 s
def oD(s:Nat):cq:=.agg (pK s).toArray
theorem Xz(a b c d i e f g h j:Bool)(w:cn):Sem.run V.prog (Op.equal 217 (.agg #[.bool a,.bool b,.bool c,.bool d,.bool i]) (.agg #[.bool e,.bool f,.bool g,.bool h,.bool j])) w=.ok (a==e&&(b==f&&(c==g&&(d==h&&i==j)))) w:=by
 by_cases k:a=e;subst k;by_cases l:b=f;subst l;by_cases m:c=g;subst m;by_cases n:d=h;subst n;cases a<;>cases b<;>cases c<;>cases d<;>cases i<;>cases j<;>kernel_rfl;cases a<;>cases b<;>cases c<;>cases d<;>cases h<;>first|exact absurd rfl n|kernel_rfl
 cases a<;>cases b<;>cases c<;>cases g<;>first|exact absurd rfl m|kernel_rfl
 cases a<;>cases b<;>cases f<;>first|exact absurd rfl l|kernel_rfl
 cases a<;>cases e<;>first|exact absurd rfl k|kernel_rfl
theorem QO:∀s:Nat,s<32->∀a:Nat,a<32->(s.testBit 0==a.testBit 0&&(s.testBit 1==a.testBit 1&&(s.testBit 2==a.testBit 2&&(s.testBit 3==a.testBit 3&&s.testBit 4==a.testBit 4))))=decide (s=a):=by decide+kernel
theorem Ps(s a:Nat)(c:s<32)(b:a<32)(w:cn):Sem.run V.prog (Op.equal 217 (oD s) (oD a)) w=.ok (decide (s=a)) w:=by rw[<-QO s c a b];exact Xz _ _ _ _ _ _ _ _ _ _ w
theorem MI{s a:Nat}(c:s<32)(b:a<32)(h:oD s=oD a):s=a:=by have:=QO s c a b;simp only[oD,pK,Value.agg.injEq]at h;have h:=cT Array.toList h;simp only[pZ,Value.bool.injEq,and_true]at h;obtain⟨d,e,f,g,i⟩:=h;rw[d,e,f,g,i]at this;simpa using this.symm
theorem BP:AJ 154 Jv:=by
 have f:Tryz.prog.underlying 154=some (.int .u8):=by kernel_rfl
 have g:∀(s:Nat) (a:List MapEntry) (i:Nat),(∀e∈a,∃b,b<32/\e.key=Jv b)->Instr.findNow (.int .u8) (Jv s) a i=some none\/∃j e,a[j]? =some e/\e.key=Jv s/\Instr.findNow (.int .u8) (Jv s) a i=some (some (i+j,e.val)):=by
  intro s a;induction a with
  |nil=>intro i _;exact .inl rfl
  |cons e r q=>
   intro i h;obtain⟨b,_,n⟩:=h e iP;have t:Instr.sameNow (.int .u8) (Jv s) e.key=some ((s:Int)==(b:Int)):=by rw[n];rfl
   unfold Instr.findNow;rw[t];by_cases p:s=b;subst p;exact .inr ⟨0,e,rfl,n,by simp⟩;have:((s:Int)==(b:Int))=false:=by simpa using(λh:(s:Int)=b=>p (by omega))
   rw[this];rcases q (i+1) (λx u=>h x (iw _ u))with d|⟨j,x,d,k,l⟩;exact .inl d;exact .inr ⟨j+1,x,by simpa using d,k,by simp only[l];congr 3;omega⟩
 refine⟨λe s w _=>by kernel_rfl,λs a v m=>?_,λs w v=>?_,λs b _ _ h=>?_⟩;have c:∀o w,Instr.findNow (.int .u8) (Jv s) a 0=some o->Sem.run jD (Instr.findKey 154 (Jv s) a) w=.ok o w:=λo w y=>by unfold Instr.findKey;simp only[Sem.run_bind,gB f,Result.andThen_ok,y,Sem.run_pure]
 rcases g s a 0 m with h|⟨j,e,d,k,l⟩;exact⟨_,λw=>c _ w h,.inl rfl⟩;exact⟨_,λw=>c _ w l,.inr ⟨j,e,d,k,by rw[cG]⟩⟩;unfold Instr.keyThatStays;have:Instr.sameBits 10000 (Jv s) (Jv s)=true:=by simp[Jv,Instr.sameBits]
 rw[cB this,Sem.run_pure];simp only[Jv,Value.int.injEq,true_and]at h;omega
theorem MJ:AJ 217 oD:=by
 have f:Tryz.prog.underlying 217=some (.array 5 4):=by kernel_rfl
 have n:∀(s:Nat) (a:List MapEntry) (i:Nat),s<32->(∀e∈a,∃b,b<32/\e.key=oD b)->∃o,(∀w,Sem.run jD (Instr.findAsking 217 (oD s) a i) w=.ok o w)/\(o=none\/∃j e,a[j]? =some e/\e.key=oD s/\o=some (i+j,e.val)):=by
  intro s a;induction a with
  |nil=>intro i _ _;exact⟨none,λw=>by simp[Instr.findAsking],.inl rfl⟩
  |cons e r z=>
   intro i c h;obtain⟨b,d,m⟩:=h e iP;have p:=λw=>Ps s b c d w;rw[<-m]at p;by_cases g:s=b;subst g;exact⟨some (i,e.val),λw=>by unfold Instr.findAsking;simp only[Sem.run_bind,p,Result.andThen_ok,decide_true,dF,Sem.run_pure],.inr ⟨0,e,rfl,m,rfl⟩⟩
   have step:∀w,Sem.run jD (Instr.findAsking 217 (oD s) (e::r) i) w=Sem.run jD (Instr.findAsking 217 (oD s) r (i+1)) w:=λw=>by
    conv=>lhs;unfold Instr.findAsking
    simp only[Sem.run_bind,p,Result.andThen_ok,g,decide_false,ik,eF]
   obtain⟨o,q,t⟩:=z (i+1) c λx A=>h x (iw _ A);refine⟨o,λw=>(step w).trans (q w),t.imp (λh=>h) ?_⟩;rintro⟨j,x,u,v,y⟩;exact⟨j+1,x,by simpa using u,v,by rw[y];congr 2;omega⟩
 refine⟨λe s w _=>by kernel_rfl,λs a c k=>?_,λs w c=>?_,λs b c d h=>MI c d h⟩;cases a with
 |nil=>exact⟨none,λw=>by unfold Instr.findKey;simp only[Sem.run_bind,gB f,Result.andThen_ok,Instr.findNow,Sem.run_pure],.inl rfl⟩
 |cons e r=>
  obtain⟨b,_,m⟩:=k e iP;have B:Instr.findNow (.array 5 4) (oD s) (e::r) 0=none:=by unfold Instr.findNow;rw[m];rfl
  have l:∀w,Sem.run jD (Instr.findKey 217 (oD s) (e::r)) w=Sem.run jD (Instr.findAsking 217 (oD s) (e::r)) w:=λw=>by unfold Instr.findKey;simp only[Sem.run_bind,gB f,Result.andThen_ok,B]
  obtain⟨o,q,t⟩:=n s (e::r) 0 c k;refine⟨o,λw=>(l w).trans (q w),t.imp (λh=>h) ?_⟩;rintro⟨j,x,u,v,y⟩;exact⟨j,x,u,v,by rw[y,cG]⟩
 unfold Instr.keyThatStays;have:Instr.sameBits 10000 (oD s) (oD s)=true:=by simp[oD,pK,Instr.sameBits]
 rw[cB this,Sem.run_pure]
def gO(A:cN)(w:cn)(a:ek)(l:cz):Prop:=∀k (h:k<l.length),∃b o,¬A b/\a=some ⟨b,o,none⟩/\w.cell? ⟨b,o+k,none⟩=some (.int .i64 l[k])
def lz(A:cN)(w:cn)(a:ek)(ls:List cz):Prop:=∀k (h:k<ls.length),∃b o c d,¬A b/\a=some ⟨b,o,none⟩/\w.cell? ⟨b,o+k,none⟩=some (.slice c ls[k].length d)/\gO A w c ls[k]/\ls[k].length<=d
theorem rq{w:cn}{b o:Nat}(h:w.cell? ⟨b,o,none⟩=some x):b<w.heap.size:=by refine xr λa=>?_;have:w.heap[b]? =none:=lT a;simp[World.cell?,this]at h
section
variable{A A':Nat->Prop}{w w':cn}{a:Option Addr}{l:List Nat}{ls:List (List Nat)}{n0:Nat}
theorem gO.n(h:gO A w a l):fN w a l:=λk c=>by obtain⟨b,o,_,d,e⟩:=h k c;exact⟨b,o,d,e⟩
theorem lz.rows(h:lz A w a ls):wM w a ls:=λk c=>by obtain⟨b,o,d,e,_,f,g,i,j⟩:=h k c;exact⟨b,o,d,e,f,g,i.n,j⟩
theorem gO.go(h:gO A w a l)(e:∀b,A' b->A b\/w.heap.size<=b)(f:∀b o v,¬A b->w.cell? ⟨b,o,none⟩=some v->w'.cell? ⟨b,o,none⟩=some v):gO A' w' a l:=λk g=>by obtain⟨b,o,c,i,d⟩:=h k g;refine⟨b,o,λj=>?_,i,f _ _ _ c d⟩;have:=rq d;rcases e b j with h|h;exact c h;omega
theorem lz.go(h:lz A w a ls)(c:∀b,A' b->A b\/w.heap.size<=b)(d:∀b o v,¬A b->w.cell? ⟨b,o,none⟩=some v->w'.cell? ⟨b,o,none⟩=some v):lz A' w' a ls:=λk g=>by obtain⟨b,o,i,j,e,l,f,m,n⟩:=h k g;refine⟨b,o,i,j,λp=>?_,l,d _ _ _ e f,m.go c d,n⟩;have:=rq f;rcases c b p with h|h;exact e h;omega
theorem gO.gG(h:gO A w a l)(e:iV n0 w w'):gO A w' a l:=h.go (λ_ h=>.inl h) λ_ _ _ _ b=>e.cell b
theorem lz.gG(h:lz A w a ls)(e:iV n0 w w'):lz A w' a ls:=h.go (λ_ h=>.inl h) λ_ _ _ _ b=>e.cell b
theorem gO.more(h:gO A w a l)(c:∀b,A' b->A b\/w.heap.size<=b):gO A' w a l:=h.go c λ_ _ _ _ d=>d
theorem lz.more(h:lz A w a ls)(c:∀b,A' b->A b\/w.heap.size<=b):lz A' w a ls:=h.go c λ_ _ _ _ d=>d
theorem fE.RP{d:Nat}(h:fE d w x l)(f:∀b,A b->b<d):∃a c,x=.slice a l.length c/\gO A w a l/\l.length<=c:=by obtain⟨o,⟨g,rfl⟩|⟨b,c,p,q,rfl,i,r,j,s,m,t⟩⟩:=h;exact⟨none,0,by rw[g],λk e=>by omega,by omega⟩;refine⟨_,c,rfl,λk e=>⟨b,0,λn=>by have:=f b n;omega,rfl,?_⟩,j⟩;refine cr i ?_;rw[cG,m k (by simp[jy];omega)];simp[jy,eV e]
end
def ShR(A:cN)(G:Gd)(s:Nat)(v:cq)(w:cn):Prop:=∃a c,v=.slice a (dX G s).length c/\gO A w a (dX G s)/\(dX G s).length<=c
def Jw(A:cN)(o:Option (List cz))(v:cq)(b:Bool)(w:cn):Prop:=match o with
 |none=>v=.slice none 0 0/\b=false
 |some ls=>b=true/\∃a c,v=.slice a ls.length c/\lz A w a ls/\ls.length<=c
def Uv(A:cN)(G:Gd)(s:Nat)(v:cq)(w:cn):Prop:=∃u b,v=.agg #[u,.bool b]/\Jw A (gH G s) u b w
structure kQ(A:Nat->Prop)(mk ms:Nat)(G:Gd)(w:cn):Prop where
 s:kY Jv (ShR A G) ms w
 k:kY oD (Uv A G) mk w
 ak:¬A mk
 asm:¬A ms
section
variable{A A':Nat->Prop}{w w' w1 w2:cn}{G:Gd}{mk ms n0:Nat}
theorem ShR.go{s:Nat}(h:ShR A G s x w)(d:∀b,A' b->A b\/w.heap.size<=b)(e:∀b o x,¬A b->w.cell? ⟨b,o,none⟩=some x->w'.cell? ⟨b,o,none⟩=some x):ShR A' G s x w':=by obtain⟨a,c,f,g,i⟩:=h;exact⟨a,c,f,g.go d e,i⟩
theorem Jw.go{o:Option (List cz)}{b:Bool}(h:Jw A o x b w)(d:∀b,A' b->A b\/w.heap.size<=b)(e:∀b o x,¬A b->w.cell? ⟨b,o,none⟩=some x->w'.cell? ⟨b,o,none⟩=some x):Jw A' o x b w':=by
 cases o with
 |none=>exact h
 |some ls=>
  obtain⟨f,a,c,g,i,j⟩:=h;exact⟨f,a,c,g,i.go d e,j⟩
theorem Uv.go{s:Nat}(h:Uv A G s x w)(a:∀b,A' b->A b\/w.heap.size<=b)(c:∀b o x,¬A b->w.cell? ⟨b,o,none⟩=some x->w'.cell? ⟨b,o,none⟩=some x):Uv A' G s x w':=by obtain⟨u,b,d,e⟩:=h;exact⟨u,b,d,e.go a c⟩
theorem kY.go{c:Nat->cq}{R d:Nat->nd}{r:Nat}(h:kY c R r w)(e:∀s v,R s v w->d s v w')(a:∀o,w.heap[r]? =some o->w'.heap[r]? =some o):kY c d r w':=by obtain⟨f,b,g,i⟩:=h.out;exact⟨f,b,a _ g,λx j=>by obtain⟨s,k,l,m⟩:=i x j;exact⟨s,k,l,e _ _ m⟩⟩
theorem kY.lt{a:Nat->cq}{R:Nat->nd}{r:Nat}(h:kY a R r w):r<w.heap.size:=by obtain⟨d,b,c,_⟩:=h.out;exact cP.lt_of_heap c
theorem kQ.go(h:kQ A mk ms G w)(d:∀b,A' b->A b\/w.heap.size<=b)(i:∀b o v,¬A b->w.cell? ⟨b,o,none⟩=some v->w'.cell? ⟨b,o,none⟩=some v)(a:∀b o,b=mk\/b=ms->w.heap[b]? =some o->w'.heap[b]? =some o):kQ A' mk ms G w':=by have j:=h.k.lt;have ls:=h.s.lt;refine⟨h.s.go (λs v e=>e.go d i) λo f=>a _ _ (.inr rfl) f,h.k.go (λs v e=>e.go d i) λo f=>a _ _ (.inl rfl) f,λg=>?_,λg=>?_⟩;rcases d _ g with c|c;exact h.ak c;omega;rcases d _ g with c|c;exact h.asm c;omega
theorem kQ.ext(h:kQ A mk ms G w)(e:Ext w w'):kQ A mk ms G w':=h.go (λ_ h=>.inl h) (λ_ _ _ _ a=>e.cell a) λb o _ c=>e.at_ c
theorem kQ.more(h:kQ A mk ms G w)(a:∀b,A' b->A b\/w.heap.size<=b):kQ A' mk ms G w:=h.go a (λ_ _ _ _ c=>c) λ_ _ _ h=>h
theorem kQ.keep{F:cN}(h:kQ A mk ms G w)(k:cW F w w')(c:∀b,F b->A b):kQ A mk ms G w':=
 h.go (λ_ h=>.inl h) (λb o v d e=>k.eP e λa=>d (c b a)) λb o d f=>k.fe f λa=>by rcases d with rfl|rfl;exact h.ak (c _ a);exact h.asm (c _ a)
end
def MR(n0 mk ms:Nat)(G:Gd)(a b:cn):Prop:=iV n0 a b/\∀A:cN,(∀x,A x->x<a.heap.size)->kQ A mk ms G a->kQ A mk ms G b
section
variable{n0 mk ms:Nat}{G:Gd}{a b c:cn}
theorem MR.refl(a:cn):MR n0 mk ms G a a:=⟨iV.refl _ _,λ_ _ h=>h⟩
theorem MR.trans(h:MR n0 mk ms G a b)(k:MR n0 mk ms G b c):MR n0 mk ms G a c:=⟨h.1.trans k.1,λA d e=>k.2 A (λx f=>dE (d x f) h.1.size) (h.2 A d e)⟩
theorem Ext.mr(h:Ext a b):MR n0 mk ms G a b:=⟨h.gG n0,λA _ c=>c.ext h⟩
theorem Vh(n0 mk ms:Nat)(G:Gd):fJ (MR n0 mk ms G):=⟨MR.refl,λ_ _ _=>MR.trans,λw=>(Ext.drew w).mr⟩
end
end Go.Proofs.W
variable{m k i j o p s d:Nat}{T U:cw}{O Q:Go.Obj}
namespace Go.Proofs.W
open Go.RowKit
section
variable{w:cn}{k:cq->cn->Prop}
def GK{a:dr}(g:Ef T U a){l c:Nat}(j:l<=c)(m:c<=100000)(h:∀b d,Ext w b->w.heap.size<=d->b.heap[d]? =some (.cells (madeCells a.toArray (c*a.length)) U)->k (.slice (some ⟨d,0,none⟩) l c) b):jj V.prog (Instr.makeSlice T (.int .i64 l) (.int .i64 c)) w k:=by
 obtain⟨n,i,z,f,o,p,q,r,s⟩:=g
 have e:=run_make (P:=jD) w T U i z n f o .i64 .i64 (l:Int) (c:Int) (by omega) (by omega) (by
  have:i.bytes*c<=256*100000:=Nat.mul_le_mul r m;have f:((i.bytes:Int)*(c:Int))=((i.bytes*c:Nat):Int):=by simp
  omega) (by omega)
 simp only[mT]at e;rw[p,q]at e;exact⟨_,_,e,h _ w.me (Ext.alloc _ _) (cJ _) (fp _ _)⟩
def Eu(z:cq)(n:Nat):madeCells #[z] n=Array.replicate n z:=by apply Array.ext;simp[madeCells];intro i a b;simp[madeCells,Nat.mod_one]
def TG:Ef 225 4 [.bool false]:=⟨by kernel_rfl,Tryz.t4,_,by kernel_rfl,rfl,by kernel_rfl,by kernel_rfl,by decide+kernel,by decide⟩
def Ig{e:cw}{z:cq}{s:Array Bool}(t:Ef T e [z]){d:dU}(g:w.heap[m]? =some (.cells d e))(a:i+1<=j)(h:i<d.size){u:cq}(y:w.cell? ⟨o,0,none⟩=some u)(A:u.oneCell'=true)
 (B:∀l,cW (λx=>x=m) w l->l.heap[m]? =some (.cells (d.setIfInBounds i u) e)->k (.slice (some ⟨m,0,none⟩) (i+1) j) l):zV V.prog (builtin .append #[T,T] U s #[.slice (some ⟨m,0,none⟩) i j,.slice (some ⟨o,0,none⟩) 1 p]) w k:=by
 obtain⟨n,r,E,C,F,G,c,H,I⟩:=t;have c:r.size=1:=c
 have q:=run_append_room_cells (P:=jD) w T U e r n C m 0 i j (cY o 0) 1 p [u] (by simp[c]) (λf v b=>by
  match f,b with
  |0,b=>cases b;rw[iB];exact y) (λv D=>by rcases iJ.1 D with rfl;exact A) a (λf b=>by
  have:f=0:=by simpa using b
  subst this;simp[World.cell?,g,c,h]) (λf b=>by simp[World.frozen?,g])
 rw[c]at q;simp only[cG,oi]at q;refine⟨_,w.setCells m i [u],?_,B _ (oC _ _ _ _ _ (cW.refl _ w)) (rh [u] w m i d e (0,0) g)⟩;unfold builtin;simp only[Sem.run_bind,q,Result.andThen_ok,Sem.run_pure]
end
structure E2(r u:Nat)(o1 Uk o2 Ul:Obj)(a b:cn):Prop where
 k:cW (λx=>x=r\/x=u) a b
 r1:a.heap[r]? =some Uk->b.heap[r]? =some Uk
 r0:a.heap[r]? =some o1->b.heap[r]? =some o1\/b.heap[r]? =some Uk
 u1:a.heap[u]? =some Ul->b.heap[u]? =some Ul
 u0:a.heap[u]? =some o2->b.heap[u]? =some o2\/b.heap[u]? =some Ul
def TH(r u:Nat)(f d g e:Obj):fJ (E2 r u f d g e):=
 ⟨λw=>⟨cW.refl _ w,id,.inl,id,.inl⟩,λa b c h k=>⟨h.k.trans k.k (λ_ _ h=>h) λ_ _ h=>h,λx=>k.r1 (h.r1 x),λx=>by
  rcases h.r0 x with y|y;exact k.r0 y;exact .inr (k.r1 y),λx=>k.u1 (h.u1 x),λx=>by
  rcases h.u0 x with y|y;exact k.u0 y;exact .inr (k.u1 y)⟩,λw=>⟨(Ext.drew w).keep _,id,.inl,id,.inl⟩⟩
def E2.TJ{d c:Obj}{a b:cn}(h:Ext a b):E2 m i O Q d c a b:=⟨h.keep _,λx=>h.at_ x,λx=>.inl (h.at_ x),λx=>h.at_ x,λx=>.inl (h.at_ x)⟩
def E2.cell{d c:Obj}{a b:cn}(e:E2 m i O Q d c a b){v:cq}(f:a.cell? h=some v)(g:h.block≠m)(j:h.block≠i):b.cell? h=some v:=e.k.eP f (by omega)
def E2.t1{e d:Obj}{a b:cn}(k:cW (λx=>x=m) a b)(c:m≠i)(h:b.heap[m]? =some Q):E2 m i O Q e d a b:=
 ⟨k.trans (cW.refl (λ_=>False) b) (λ_ _ h=>.inl h) λ_ _ h=>h.elim,λ_=>h,λ_=>.inr h,λx=>k.fe x (gh c),λx=>.inl (k.fe x (gh c))⟩
def E2.t2{e c:Obj}{a b:cn}(k:cW (λx=>x=i) a b)(d:m≠i)(h:b.heap[i]? =some c):E2 m i O Q e c a b:=
 ⟨k.trans (cW.refl (λ_=>False) b) (λ_ _ h=>.inr h) λ_ _ h=>h.elim,λx=>k.fe x d,λx=>.inl (k.fe x d),λ_=>h,λ_=>.inr h⟩
section
variable{E:cn->cn->Prop}{w:cn}{kx:cq->Prop}{kr kp kl:gy->Prop}{lb ea:Bool}
def vk{v:cq}(b:fJ E)(c:∀a,E w a->a.cell? h=some v)(k:kx v)(d:Ec T=some false:=by rfl):vS E E w (λa f=>jj V.prog (Instr.loadAt T (.pointer (some h))) a f) kx kr kp lb kl ea:=
 dx v (λa e=>cu (c a e) ⟨rfl,b.refl _⟩ d) k
end
end Go.Proofs.W
variable{w t e:cn}{A B C:Nat->Prop}{l f:List Nat}
namespace Go.Proofs.W
open Go.RowKit
structure zZ where
 (rv lv yv uv gv rb ub lp:Nat)(la:Option Addr)(lc:Nat)
def cM(b:Nat):cq:=.pointer (some ⟨b,0,none⟩)
def zZ.mG(e:zZ):dU:=#[cM e.rv,cM e.lv,cM e.yv,cM e.uv,cM e.gv]
structure Vi(e:zZ):Prop where
 r:e.rv≠e.lv/\e.rv≠e.yv/\e.rv≠e.uv/\e.rv≠e.gv/\e.rv≠e.rb/\e.rv≠e.ub
 b:e.rb≠e.lv/\e.rb≠e.yv/\e.rb≠e.uv/\e.rb≠e.gv/\e.rb≠e.ub
 u:e.ub≠e.lv/\e.ub≠e.yv/\e.ub≠e.uv/\e.ub≠e.gv
 l:∀b o,e.la=some ⟨b,o,none⟩->b≠e.rv/\b≠e.rb/\b≠e.ub
def jm(a:List Bool):Obj:=.cells (a.map Value.bool).toArray 4
structure Ih(e:zZ)(l row:List Nat)(used:List Bool)(w:cn):Prop where
 rv:w.heap[e.rv]? =some (.cells #[.slice (some ⟨e.rb,0,none⟩) row.length l.length] 27)
 lv:w.cell? ⟨e.lv,0,none⟩=some (.slice e.la l.length e.lc)
 yv:w.cell? ⟨e.yv,0,none⟩=some (.func (.yield e.lp) #[] #[])
 uv:w.cell? ⟨e.uv,0,none⟩=some (.slice (some ⟨e.ub,0,none⟩) l.length l.length)
 gv:w.cell? ⟨e.gv,0,none⟩=some (.func (.func 197) #[] e.mG)
 rb:∃cs,w.heap[e.rb]? =some (.cells cs 3)/\cs.size=l.length/\∀j (h:j<row.length),cs[j]? =some (.int .i64 row[j])
 ub:w.heap[e.ub]? =some (jm used)
 ul:used.length=l.length
 row:fN w e.la l
def Ih.keep{e:zZ}{a:List Bool}(h:Ih e l f a w)(k:cW A w t)(d:∀b,A b->b≠e.rv/\b≠e.lv/\b≠e.yv/\b≠e.uv/\b≠e.gv/\b≠e.rb/\b≠e.ub/\∀g o,e.la=some ⟨g,o,none⟩->b≠g):Ih e l f a t:=by
 have n:∀b,(b=e.rv\/b=e.lv\/b=e.yv\/b=e.uv\/b=e.gv\/b=e.rb\/b=e.ub)->¬A b:=λb v c=>by have:=d b c;omega
 obtain⟨m,p,q,r⟩:=h.rb;refine⟨k.fe h.rv (n _ (.inl rfl)),k.eP h.lv (n _ (.inr (.inl rfl))),k.eP h.yv (n _ (.inr (.inr (.inl rfl)))),k.eP h.uv (n _ (by simp)),k.eP h.gv (n _ (by simp)),⟨m,k.fe p (n _ (by simp)),q,r⟩,k.fe h.ub (n _ (by simp)),h.ul,λi s=>?_⟩;obtain⟨b,o,j,u⟩:=h.row i s;exact⟨b,o,j,k.eP u λc=>(d _ c).2.2.2.2.2.2.2 _ _ j rfl⟩
def Ih.CN{e:zZ}(g:Vi e){c:cz}{d a:List Bool}(h:Ih e l f d w)(k:cW (λx=>x=e.rv\/x=e.rb\/x=e.ub) w t)
 (p:t.heap[e.rv]? =some (.cells #[.slice (some ⟨e.rb,0,none⟩) c.length l.length] 27))(q:∃n,t.heap[e.rb]? =some (.cells n 3)/\n.size=l.length/\∀j (h:j<c.length),n[j]? =some (.int .i64 c[j]))(s:t.heap[e.ub]? =some (jm a))(v:a.length=l.length):Ih e l c a t:=by
 obtain⟨B,C,D,E,F,G⟩:=g.r;obtain⟨H,I,J,K,L⟩:=g.b;obtain⟨M,N,O,P⟩:=g.u;refine⟨p,k.eP h.lv (by show¬(e.lv=_\/e.lv=_\/e.lv=_);omega),k.eP h.yv (by show¬(e.yv=_\/e.yv=_\/e.yv=_);omega),k.eP h.uv (by show¬(e.uv=_\/e.uv=_\/e.uv=_);omega),k.eP h.gv (by show¬(e.gv=_\/e.gv=_\/e.gv=_);omega),q,s,v,λi y=>?_⟩;obtain⟨m,z,o,A⟩:=h.row i y;have:=g.l _ _ o;exact⟨m,z,o,k.eP A (by show¬(m=_\/m=_\/m=_);omega)⟩
def QP{a:zZ}{c b:Obj}(d:E2 a.rb a.ub O Q c b w t)(f:cW (λx=>x=a.rv) t e):cW (λx=>x=a.rv\/x=a.rb\/x=a.ub) w e:=
 (d.k.trans f (λ_ _ h=>.inr h) λ_ _ h=>.inl h)
def vm(l:cz)(m:Nat)(b:cz)(a:List Bool)(k:Nat):List cz:=(List.range k).flatMap λi=>if a.getD i false then []else rp l m (b++[l.getD i 0]) (a.set i true)
def vW(l:cz)(m:Nat)(b:cz)(a:List Bool)(k:Nat):vm l m b a (k+1)=vm l m b a k++if a.getD k false then []else rp l m (b++[l.getD k 0]) (a.set k true):=by unfold vm;rw[oO,List.flatMap_append];simp
def Ev(e:zZ)(l:cz)(Y:List cz->cU):Prop:=∀i b c w,b.length=l.length->(∀d∈b,d∈l)->Ih e l b c w->Y i w->∃f g a h,Sem.run V.prog (Instr.yield e.lp #[.slice (some ⟨e.rb,0,none⟩) b.length l.length]) w=.ok (.round e.lp f g a h) w/\RoundIn Fence.wide 0 V.prog e.lp f g a h w λk j=>k=.returned (.bool true)/\Ih e l b c j/\Y (i++[b]) j
def BQ(a:dU)(k:Nat)(v:cq):(a.setIfInBounds k v).setIfInBounds k v=a.setIfInBounds k v:=by simp
def Ew(a:List Bool)(k:Nat)(b:Bool):((a.map Value.bool).toArray).setIfInBounds k (.bool b)=((a.set k b).map Value.bool).toArray:=by simp[List.map_set]
theorem Ii{e:zZ}(P:Vi e)(aa:l.length<=100000){Y:List (List Nat)->cn->Prop}(hY:∀s a b,Y s a->cW (λx=>x=e.rv\/x=e.rb\/x=e.ub) a b->Y s b)(hy:Ev e l Y):
 ∀m g c s w,g.length+m=l.length->(∀d∈g,d∈l)->Ih e l g c w->Y s w->Calls V.prog 197 e.mG w (fi λv G=>v=.bool true/\Ih e l g c G/\Y (s++rp l m g c) G)
 |m,g,c,s,w,hm,N,h,Q=>by
  obtain⟨o1,o2,o3,o4,o5,o6⟩:=P.r;obtain⟨p1,p2,p3,p4,p5⟩:=P.b;obtain⟨q1,q2,q3,q4⟩:=P.u;have ax:=P.l;refine gd Tryz.func197 Tryz.ntmps197 ?_;refine cu (cr h.rv rfl) (cS (cu h.lv (cS (ff ⟨λZ=>?_,λZ=>?_⟩))));have Z:g.length=l.length:=by simp at Z;omega
  obtain rfl:m=0:=by omega
  obtain⟨f,au,ah,av,ab,hR⟩:=hy s g c w Z N h Q;refine cu h.yv (cu (cr h.rv rfl) ⟨_,_,_,_,ab,hR.mono ?_⟩);rintro en G ⟨rfl,K,h2⟩;exact⟨_,rfl,rfl,K,h2⟩;have Z:g.length≠l.length:=by simp at Z;omega
  obtain⟨m,rfl⟩:∃m',m=m'+1:=⟨m-1,by omega⟩;refine cu h.lv (cS (eE (n:=l.length) (λk=>[(0,cM e.rv),(1,cM e.lv),(2,cM e.yv),(3,cM e.uv),(4,cM e.gv),(17,.slice e.la l.length e.lc),(18,i64 l.length),(19,i64 k)]) (λk G=>Ih e l g c G/\Y (s++vm l m g c k) G) ⟨by trivial,h,by simpa[vm]using Q⟩ ?_ ?_ ?_));rintro k G R hJ;exact du ⟨rfl,rfl,by trivial,hJ⟩;rintro k G R ⟨h,Q⟩;obtain⟨b,o,S,T⟩:=h.row k R;have U:k<c.length:=by rw[h.ul];exact R
  have ai:G.cell? ⟨e.ub,0+k,none⟩=some (.bool c[k]):=by refine cr h.ub ?_;simp[U]
  have ac:c.getD k false=c[k]:=getD_eq U;have aj:l.getD k 0=l[k]:=getD_eq R;rw[S];refine fw k R (cu T (cu h.uv (fw k R (cu ai ⟨λhu=>?_,λhu=>?_⟩))));refine cF ⟨⟨rfl,rfl,rfl,rfl,rfl,by rw[<-S];rfl,rfl,rfl,trivial⟩,h,?_⟩;rw[vW,ac,hu];simpa using Q;obtain⟨C,g1,g2,g3⟩:=h.rb;have aw:g.length<l.length:=by omega
  have hE:=TH e.rb e.ub (.cells C 3) (.cells (C.setIfInBounds g.length (i64 l[k])) 3) (jm c) (jm (c.set k true));refine cX hE ?_;refine vk hE (λq p=>p.cell h.uv (by show e.uv≠e.rb;omega) (by show e.uv≠e.ub;omega)) ?_;refine vk hE (λq p=>p.cell (cr h.rv rfl) o5 o6) ?_;refine .rel (λv w=>∃H,v=.slice (some ⟨H,0,none⟩) 1 1/\H≠e.rb/\H≠e.ub/\w.heap[H]? =some (.cells [Value.int .i64 l[k]].toArray 3)) ?_ (λq p=>eg [Value.int .i64 l[k]] 3 λt H e2 ad hb=>⟨⟨H,rfl,?_,?_,hb⟩,E2.TJ e2⟩) ?_;rintro v a b ⟨H,K,h2,h3,h4⟩ p;exact⟨H,K,h2,h3,p.k.fe h4 (by omega)⟩;have:=cP.lt_of_heap g1;have:=p.k.size;omega;have:=cP.lt_of_heap h.ub;have:=p.k.size;omega;refine .rel (λv w=>v=.slice (some ⟨e.rb,0,none⟩) (g.length+1) l.length/\w.heap[e.rb]? =some (.cells (C.setIfInBounds g.length (i64 l[k])) 3)) ?_ ?_ ?_;rintro v a b ⟨K,h2⟩ p;exact⟨K,p.r1 h2⟩;rintro q p v ⟨H,rfl,n1,n2,hb⟩;have y:∀L,q.heap[e.rb]? =some (.cells L 3)->L.size=C.size->L.setIfInBounds g.length (i64 l[k])=C.setIfInBounds g.length (i64 l[k])->zV V.prog (builtin .append #[27,27] 27 (#[Operand.tmp 30,Operand.tmp 32].map λ| .const _=>true|_=>false) #[.slice (some ⟨e.rb,0,none⟩) g.length l.length,.slice (some ⟨H,0,none⟩) 1 1]) q λu t=>(u=.slice (some ⟨e.rb,0,none⟩) (g.length+1) l.length/\t.heap[e.rb]? =some (.cells (C.setIfInBounds g.length (i64 l[k])) 3))/\E2 e.rb e.ub (.cells C 3) (.cells (C.setIfInBounds g.length (i64 l[k])) 3) (jm c) (jm (c.set k true)) q t:=λL ak ay z=>by refine Ig (u:=i64 l[k]) sg ak (by omega) (by omega) (cr hb rfl) rfl λt I i=>?_;rw[z]at i;exact⟨⟨rfl,i⟩,E2.t1 I p5 i⟩
  rcases p.r0 g1 with D|D;exact y C D rfl rfl;exact y _ D (by simp) (BQ _ _ _);refine .exact (.pointer (some ⟨e.ub,0+k,none⟩)) (λq p v hv=>fw k (by omega) ⟨rfl,hE.refl _⟩) ?_;refine .vT (λ_ w=>w.heap[e.ub]? =some (jm (c.set k true))) (λ_ a b K p=>p.u1 K) (λq p v hv=>?_) ?_
  have y:∀J:List Bool,q.heap[e.ub]? =some (jm J)->J.length=c.length->J.set k true=c.set k true->DO V.prog (Instr.storeAt 4 (.pointer (some ⟨e.ub,0+k,none⟩)) (.bool true)) q λt=>t.heap[e.ub]? =some (jm (c.set k true))/\E2 e.rb e.ub (.cells C 3) (.cells (C.setIfInBounds g.length (i64 l[k])) 3) (jm c) (jm (c.set k true)) q t:=λJ W al z=>by
   refine iT W (by simp[Value.cells];omega) (λt I i=>by
   have i:t.heap[e.ub]? =some (jm (c.set k true)):=by rw[i,jm,<-z,<-Ew];simp[gl,Value.cells]
   exact⟨i,E2.t2 I p5 i⟩) (fK rfl)
  rcases p.u0 h.ub with D|D;exact y c D rfl rfl;exact y _ D (by simp) (by simp);intro q p v1 M v2 ad hJ;obtain⟨rfl,M⟩:v1=.slice (some ⟨e.rb,0,none⟩) (g.length+1) l.length/\q.heap[e.rb]? =some (.cells (C.setIfInBounds g.length (i64 l[k])) 3):=M;replace hJ:q.heap[e.ub]? =some (jm (c.set k true)):=hJ;clear ad;have O:=p.k.fe h.rv (by omega);refine dq O λt I i=>?_;have k3:=QP p I;have hW:Ih e l (g++[l[k]]) (c.set k true) t:=by
   refine h.CN P k3 (by rw[i];simp[gl,Value.cells]) ⟨_,I.fe M (by omega),by simp[g2],λj hj=>?_⟩ (I.fe hJ (by omega)) (by simp[h.ul]);rcases fj j g.length with ae|az;rw[eo (by omega),g3 j ae,nU ae];obtain rfl:j=g.length:=by simp at hj;omega
   rw[kI (by omega)];simp
  have am:Y (s++vm l m g c k) t:=hY _ _ _ Q k3;clear i O I M hJ p k3;refine cu hW.gv (cD (Ii P aa hY hy m (g++[l[k]]) (c.set k true) _ t (by simp;omega) (λd hd=>by rcases jH.1 hd with hd|hd;exact N d hd;rw[iJ.1 hd];exact ef R) hW am) ?_);rintro v w3 ⟨rfl,E,an⟩;obtain⟨F,t1,t2,t3⟩:=E.rb;have A:=TH e.rb e.ub (.cells F 3) (.cells F 3) (jm (c.set k true)) (jm c);have ao:(g++[l[k]]).length=g.length+1:=by simp
  have B:=E.rv;rw[ao]at B;refine cX A ?_;refine vk A (λq p=>p.cell E.uv (by show e.uv≠e.rb;omega) (by show e.uv≠e.ub;omega)) ?_;refine vk A (λq p=>p.cell (cr B rfl) o5 o6) ?_;refine vk A (λq p=>p.cell (cr B rfl) o5 o6) ?_;refine Ur (i64 ((g.length+1:Nat):Int)) (λq _=>cS ⟨rfl,A.refl _⟩) ?_;refine ti (n:=1) ?_ (by omega) A;refine dx (.slice (some ⟨e.rb,0,none⟩) g.length l.length) (λq _=>pF g.length (by omega) ⟨rfl,A.refl _⟩ (by omega)) ?_;refine iK k (by omega) ?_ rfl rfl A;refine .vT (λ_ w=>w.heap[e.ub]? =some (jm c)) (λ_ a b K p=>p.u1 K) (λq p=>?_) ?_;have af:c.set k false=c:=by apply List.ext_getElem?;intro j;by_cases hj:j=k;subst hj;simp[U,hu];rw[List.getElem?_set_ne (by omega)]
  have y:∀J:List Bool,q.heap[e.ub]? =some (jm J)->J.length=c.length->J.set k false=c->DO V.prog (Instr.storeAt 4 (.pointer (some ⟨e.ub,0+k,none⟩)) (.bool false)) q λt=>t.heap[e.ub]? =some (jm c)/\E2 e.rb e.ub (.cells F 3) (.cells F 3) (jm (c.set k true)) (jm c) q t:=λJ W al z=>by
   refine iT W (by simp[Value.cells];omega) (λt I i=>by
   have i:t.heap[e.ub]? =some (jm c):=by
    have h4:jm c=.cells ((J.map Value.bool).toArray.setIfInBounds k (.bool false)) 4:=by rw[Ew,z];rfl
    rw[i,h4];simp[gl,Value.cells]
   exact⟨i,E2.t2 I p5 i⟩) (fK rfl)
  rcases p.u0 E.ub with D|D;exact y _ D (by simp) (by rw[List.set_set];exact af);exact y _ D rfl af;intro w4 e4 X;replace X:w4.heap[e.ub]? =some (jm c):=X;have ag:=e4.k.fe B (by omega);refine dq ag λw5 k5 ap=>?_;have k6:=QP e4 k5;have aq:Ih e l g c w5:=E.CN P k6 (by rw[ap];simp[gl,Value.cells]) ⟨F,k5.fe ((e4.r0 t1).elim id id) (by omega),t2,λj hj=>by rw[t3 j (by simp;omega),nU hj]⟩ (k5.fe X (by omega)) h.ul;have ar:=hY _ _ _ an k6;refine ei (lx rfl (cF ⟨⟨rfl,rfl,rfl,rfl,rfl,by rw[<-S];rfl,rfl,rfl,trivial⟩,aq,?_⟩));rw[vW,ac,hu,aj];simpa using ar;rintro G ⟨h,Q⟩;exact⟨_,rfl,rfl,h,Q⟩
end Go.Proofs.W
variable{W X:Array cq}
namespace Go.Proofs.W
open Go.RowKit
def TK:Obj:=.cells #[.slice none 0 0] 27
structure ZE(n0:Nat)(a b:cn):Prop where
 os:b.os=a.os
 tape:b.tape=a.tape
 output:b.output=a.output
 size:a.heap.size<=b.heap.size
 drawn:a.drawn<=b.drawn
 block:∀x o,a.heap[x]? =some o->b.heap[x]? =some o\/(n0<=x/\o=TK/\∃u,u≠ .slice none 0 0/\b.heap[x]? =some (.cells #[u] 27))
theorem Vj   (n0 : Nat) : fJ    (ZE n0) := by
  refine ⟨fun w => ⟨rfl, rfl, rfl, Nat.le_refl _, Nat.le_refl _, fun x o h => .inl h⟩, fun a b c h k => ⟨k.os.trans h.os, k.tape.trans h.tape, k.output.trans h.output, Nat.le_trans h.size k.size, Nat.le_trans h.drawn k.drawn, fun x o hx => ?_⟩, fun w => ⟨rfl, rfl, rfl, Nat.le_refl _, Nat.le_succ _, fun x o h => .inl h⟩⟩
  rcases h.block x o hx with h1 | ⟨h1, h2, u, h3, h4⟩
  · exact k.block x o h1
  · rcases k.block x _ h4 with h5 | ⟨_, h6, _⟩
    · exact .inr ⟨h1, h2, u, h3, h5⟩
    · exfalso
      unfold TK  at h6
      injection h6 with h6
      apply h3
      have := congrArg (·[0]?) h6
      simpa using this
def Ext.ze(h:Ext w t)(a:Nat):ZE a w t:=⟨h.os,h.tape,h.output,h.size,h.drawn,λx o b=>.inl (h.at_ b)⟩
def ZE.ext(h:ZE m w t)(d:w.heap.size<=m):Ext w t:=⟨h.os,h.tape,h.output,h.size,h.drawn,λx c=>by have a:w.heap[x]? =some w.heap[x]:=iY c;rcases h.block x _ a with b|⟨b,_⟩;rw[b,a];omega⟩
def ZE.at_(h:ZE m w t)(a:w.heap[k]? =some O)(b:O≠TK):t.heap[k]? =some O:=(h.block k O a).elim id λh=>absurd h.2.1 b
def ZE.store{f:Nat}{a b:cn}{x:Nat}{u:cq}(k:cW (λy=>y=x) a b)(h:f<=x)(i:u≠ .slice none 0 0)(c:a.heap[x]? =some TK\/a.heap[x]? =some (.cells #[u] 27))(g:b.heap[x]? =some (.cells #[u] 27)):ZE f a b:=
 ⟨k.os,k.tape,k.output,k.size,k.drawn,λy o d=>by by_cases e:y=x;subst e;rcases c with c|c;rw[d]at c;exact .inr ⟨h,cO c,u,i,g⟩;rw[d]at c;rw[g];exact .inl c.symm;exact .inl (k.fe d e)⟩
def ur(h:T≠U):Obj.cells W T≠ .cells X U:=λe=>by injection e with _ e;exact h e
def Pt(i m:Nat)(F:cN)(Y:(cN)->List cz->cU)(l:cz):Prop:=∀B h c j w,(∀b,B b->m<=b/\b<w.heap.size)->B j->fN w (some ⟨j,0,none⟩) c->c.length=l.length->(∀d∈c,d∈l)->Y B h w->∃f e a g,Sem.run V.prog (Instr.yield i #[.slice (some ⟨j,0,none⟩) c.length l.length]) w=.ok (.round i f e a g) w/\RoundIn Fence.wide 0 V.prog i f e a g w λn k=>n=.returned (.bool true)/\cW F w k/\Y B (h++[c]) k
def Jx(J:l.length<=100000){lc lv lp n0:Nat}{F:Nat->Prop}{Y:(Nat->Prop)->List (List Nat)->cn->Prop}(hn:n0=w.heap.size) (aa:w.cell? ⟨lv,0,none⟩=some (.slice a l.length lc))(ab:fN w a l)(al:∀b o,a=some ⟨b,o,none⟩->b<w.heap.size)(hF:∀b,F b->b<w.heap.size/\b≠lv/\∀b' o,a=some ⟨b',o,none⟩->b≠b') (h0:∀c B,Ext w c->(∀b,B b->n0<=b/\b<c.heap.size)->Y B [] c)(hY:∀B m q b,Y B m q->cW B q b->Y B m b)(hy:Pt lp n0 F Y l):
 Calls V.prog 196 #[.func (.yield lp) #[] #[],cM lv] w (fi λv w'=>∃B,Y B (xj l) w'):=by
 subst hn;have ac:lv<w.heap.size:=rq aa;refine gd Tryz.func196 Tryz.ntmps196 ?_;refine ej λD yv ey aI ad=>?_;have aJ:=cP.lt_of_heap ad;have U:=ey.cell aa;refine hH 8 cV (Vj D.heap.size) (λq b h=>h.ze _) ?_;have ae:∀c,ZE D.heap.size D c->jj V.prog (Instr.loadAt 27 (.pointer (some ⟨lv,0,none⟩))) c λu N=>u=.slice a l.length lc/\Ext c N:=λc n=>cu ((n.ext (cJ _)).cell U) ⟨rfl,Ext.refl _⟩;refine .exact _ ae (.exact (i64 l.length) (λc _=>cS ⟨rfl,Ext.refl _⟩) ?_);refine .rel (λv c=>∃g,v=.slice (some ⟨g,0,none⟩) 0 l.length/\D.heap.size<=g/\c.heap[g]? =some (.cells (Array.replicate l.length (i64 0)) 3)) ?_ (λc n=>GK (l:=0) sg (fV _) J λN W X E A=>⟨⟨W,rfl,cZ n.size E,?_⟩,X⟩) ?_;rintro v q b ⟨g,P,Q,K⟩ n;exact⟨g,P,Q,n.at_ K (ur (by decide))⟩;rw[A];simp[Eu];refine .exact _ ae (.exact (i64 l.length) (λc _=>cS ⟨rfl,Ext.refl _⟩) ?_);refine .rel (λv c=>∃C,v=.slice (some ⟨C,0,none⟩) l.length l.length/\D.heap.size<=C/\c.heap[C]? =some (.cells (Array.replicate l.length (.bool false)) 4)) ?_ (λc n=>GK TG (cJ _) J λN W X E A=>⟨⟨W,rfl,cZ n.size E,?_⟩,X⟩) ?_;rintro v q b ⟨g,P,Q,K⟩ n;exact⟨g,P,Q,n.at_ K (ur (by decide))⟩;rw[A];simp[Eu];refine .Je (λv c=>∃i,v=.pointer (some ⟨i,0,none⟩)/\D.heap.size<=i/\c.heap[i]? =some TK) (λv q b ⟨i,P,Q,K⟩ n=>⟨i,P,Q,n.at_ K⟩) (λc n=>eD λN W X E A=>⟨⟨W,rfl,cZ n.size E,A⟩,X⟩) ?_;refine .rel (λv c=>∃I,v=.pointer (some ⟨I,0,none⟩)/\D.heap.size<=I/\c.heap[I]? =some (.cells #[.slice none 0 0] 225)) ?_ (λc n=>eD λN W X E A=>⟨⟨W,rfl,cZ n.size E,A⟩,X⟩) ?_;rintro v q b ⟨g,P,Q,K⟩ n;exact⟨g,P,Q,n.at_ K (ur (by decide))⟩;refine .vT (λvs c=>∃R i g,vs=[.pointer (some ⟨i,0,none⟩),R,.slice (some ⟨g,0,none⟩) 0 l.length]/\D.heap.size<=i/\c.heap[i]? =some (.cells #[.slice (some ⟨g,0,none⟩) 0 l.length] 27)) ?_ (λc n v3 K R h4 v8 h8=>?_) ?_;rintro vs q b ⟨R,i,g,P,Q,K⟩ n;exact⟨R,i,g,P,Q,n.at_ K⟩;obtain⟨i,rfl,g1,g2⟩:=K;obtain⟨g,rfl,g3,g4⟩:=h8;refine dq g2 λN Z H=>⟨⟨R,i,g,rfl,g1,H⟩,ZE.store Z g1 (λe=>by cases e) (.inl g2) H⟩;intro c n v3 _ R h4 am an v8 h8 hJ;obtain⟨I,rfl,ao,p⟩:∃I,R=.pointer (some ⟨I,0,none⟩)/\D.heap.size<=I/\c.heap[I]? =some (.cells #[.slice none 0 0] 225):=h4;obtain⟨C,rfl,aK,r⟩:∃C,am=.slice (some ⟨C,0,none⟩) l.length l.length/\D.heap.size<=C/\c.heap[C]? =some (.cells (Array.replicate l.length (.bool false)) 4):=an;obtain⟨g,rfl,aL,s⟩:∃g,v8=.slice (some ⟨g,0,none⟩) 0 l.length/\D.heap.size<=g/\c.heap[g]? =some (.cells (Array.replicate l.length (i64 0)) 3):=h8;obtain⟨_,i,ap,G,aM,z⟩:∃R i af,[v3,.pointer (some ⟨I,0,none⟩),.slice (some ⟨g,0,none⟩) 0 l.length]=[.pointer (some ⟨i,0,none⟩),R,.slice (some ⟨af,0,none⟩) 0 l.length]/\D.heap.size<=i/\c.heap[i]? =some (.cells #[.slice (some ⟨af,0,none⟩) 0 l.length] 27):=hJ;simp only[pZ,and_true]at G;obtain⟨rfl,rfl,G⟩:=G;injection G with G;obtain rfl:g=ap:=cT Addr.block (cO G);clear G;have ex:Ext D c:=n.ext (cJ _);clear n;have ne:∀{x y:Nat} {cs aq:Array cq} {t t':cw},c.heap[x]? =some (.cells cs t)->c.heap[y]? =some (.cells aq t')->t≠t'->x≠y:=λhx hy ht e=>by subst e;rw[hx]at hy;exact ur ht (cO hy)
 have d1:=ne z p (by decide);have d2:=ne z s (by decide);have d3:=ne z r (by decide);have d4:=ne p s (by decide);have d5:=ne p r (by decide);have d6:=ne s r (by decide);have su:=cP.lt_of_heap p;refine dq p λN Z H=>?_;have H:N.heap[I]? =some (.cells #[.slice (some ⟨C,0,none⟩) l.length l.length] 225):=H;refine eD λw3 gv e3 aN ag=>dq ag λO k4 ar=>?_;have s2:=Z.size;have au:Ext D N:=ex.cC Z ao;have L:Ext D O:=(au.trans e3).cC k4 (by have:=ex.size;omega);have av:=cP.lt_of_heap z;have aw:=cP.lt_of_heap s;have ax:=cP.lt_of_heap r;have aO:=cP.lt_of_heap p;have S:∀{x:Nat} {o:Obj},N.heap[x]? =some o->O.heap[x]? =some o:=λhx=>k4.fe (e3.at_ hx) (by have:=cP.lt_of_heap hx;omega);have ay:=L.at_ ad;let e:zZ:=⟨i,lv,yv,I,gv,g,C,lp,a,lc⟩;have aG:=ac;have sw:=ey.size;have ok:Vi e:=⟨⟨by show i≠lv;omega,by show i≠yv;omega,d1,by show i≠gv;omega,d2,d3⟩,⟨by show g≠lv;omega,by show g≠yv;omega,gh d4,by show g≠gv;omega,d6⟩,⟨by show C≠lv;omega,by show C≠yv;omega,gh d5,by show C≠gv;omega⟩,λb o A=>by have:=al b o A;show b≠i/\b≠g/\b≠C;omega⟩;have hO:Ih e l [] (List.replicate l.length false) O:=by refine⟨S (Z.fe z d1),L.cell U,cr ay rfl,cr (S H) rfl,cr ar rfl,⟨_,S (Z.fe s (gh d4)),by simp,λj hj=>by simp at hj⟩,?_,by simp,ab.ext (ey.trans L)⟩;have:=S (Z.fe r (gh d5));rw[this];simp[jm]
 let B:Nat->Prop:=λx=>x=i\/x=g\/x=C;have s4:=L.size;have l4:∀{x:Nat},x<c.heap.size->x<O.heap.size:=λhx=>by have:=e3.size;have:=k4.size;omega
 have M:∀b,B b->w.heap.size<=b/\b<O.heap.size:=λb A=>by rcases A with rfl|rfl|rfl;exact⟨by omega,l4 av⟩;exact⟨by omega,l4 aw⟩;exact⟨by omega,l4 ax⟩
 have az:=h0 O B (ey.trans L) M;have aA:∀m q b,(Y B m q/\O.heap.size<=q.heap.size)->cW (λx=>x=e.rv\/x=e.rb\/x=e.ub) q b->(Y B m b/\O.heap.size<=b.heap.size):=λm q b h k=>⟨hY B m q b h.1 k,cZ h.2 k.size⟩;have aB:Ev e l (λm q=>Y B m q/\O.heap.size<=q.heap.size):=by rintro m aC aH wy hr ah hA ⟨aD,aP⟩;obtain⟨cs,g1,g2,g3⟩:=hA.rb;obtain⟨f,ai,T,aj,ak,hR⟩:=hy B m aC g wy (λb A=>⟨(M b A).1,by have:=(M b A).2;omega⟩) (.inr (.inl rfl)) (λk hk=>⟨g,0,rfl,cr g1 (by rw[cG];exact g3 k hk)⟩) hr ah aD;refine⟨f,ai,T,aj,ak,hR.mono ?_⟩;rintro en w' ⟨rfl,hk,aE⟩;refine⟨rfl,hA.keep hk (λb A=>?_),aE,by have:=hk.size;omega⟩;obtain⟨q1,q2,q3⟩:=hF b A;show b≠i/\b≠lv/\b≠yv/\b≠I/\b≠gv/\b≠g/\b≠C/\_;exact⟨by omega,q2,by omega,by omega,by omega,by omega,by omega,q3⟩
 refine cu hO.gv (cD (Ii ok J aA aB l.length [] (List.replicate l.length false) [] O (by simp) (λd hd=>by cases hd) hO ⟨az,cJ _⟩) ?_);rintro v w5 ⟨rfl,_,aF,_⟩;exact⟨_,rfl,B,by simpa[xj]using aF⟩
end Go.Proofs.W
variable{K:dH}
namespace Go.Proofs.W
open Go.RowKit
def Jy(c:Option Addr)(n d:Nat)(w:cn):Calls V.prog 172 #[.slice c n d] w (fi λv e=>Ext w e/\∃a,v=.func (.func 196) #[] #[cM a]/\w.heap.size<=a/\e.heap[a]? =some (.cells #[.slice c n d] 27)):=by refine gd Tryz.func172 Tryz.ntmps172 ?_;exact ej λh a f b g=>⟨_,rfl,f,a,rfl,b,g⟩
section
variable{N:Nat}{r:Option Nat}{ds:List Deferred}{x y:Code}{Q:Exit->Act->cn->Prop}{l:L}{a:Act}{w:cn}
def XA(g:pk ds N l a)(i:flat x=true)(h:WC V.prog Co N x (λe d f=>∀b,pk ds N d b->Q e b f) l w):x.wpIn (wd r) 0 V.prog Q a w:=
 wpIn_mono (kM dj x _ l a w i g h) (by rintro e b f ⟨d,c,j⟩;exact j b c)
def QQ(P:cA)(r:Option Nat)(y:Code)(Q:Exit->Act->cU):Exit->Act->cU
 | .normal,a,w=>y.wpIn (wd r) 0 P Q a w
 |e,a,w=>Q e a w
def wpS(d:pk ds N l a)(f:flat x=true)(h:WC V.prog Co N x (λe g c=>∀b,pk ds N g b->QQ V.prog r y Q e b c) l w):(Code.seq x y).wpIn (wd r) 0 V.prog Q a w:=
 wpIn_seq (wpIn_mono (XA (Q:=QQ jD r y Q) d f h) (by rintro e b c i;cases e<;>exact i))
def XB{j:Nat}{c:Array Oper}{E:cn->cU}(g:pk ds N l a)(i:fJ E)(h:DW V.prog Co N (λ_ _=>False) E E 1000 c.toList w l (λk m=>∀f,pk ds N k f->y.wpIn (wd none) 0 V.prog Q f m) 0 c.toList [] (vU c.toList l) [] [] [] [])(n:lX c N (sF c.toList)=true:=by kernel_rfl):
 (Code.seq (.region j c true) y).wpIn (wd none) 0 V.prog Q a w:=
 wpIn_seq (wpIn_wide.2 (D5 dj (λ_ _ _ _ _ h=>h.elim) i i (λ_ _ h=>h) (by kernel_rfl) n rfl g.b (λl f w e o=>o f ⟨e.b,e.d.trans g.d⟩) h))
end
def Ex{d:Func}{c:Code}{args:dr}{w:cn}{R:Ending->cU}(N:Nat)
 (j:V.prog.funcs[K]? =some d)(b:d.body=some c)(k:d.ntmps=N)(l:args.length<=N)(h:∀a,pk [] N (args.zipIdx.map λp=>(p.2,p.1)) a->c.wpIn (wd none) 0 V.prog (bodyPostM Fence.wide 0 V.prog d R) a w):Calls V.prog K args.toArray w R:=by
 refine callsIn_wide.1 (callsIn_of_wp_marks (n:=0) j b trivial (h _ ⟨⟨?_,λt v m=>?_⟩,rfl⟩));simp[k];omega
 have g:∀(f:dr) (n:Nat),lk ((f.zipIdx n).map λp=>(p.2,p.1)) t=some v->n<=t/\f[t-n]? =some v:=by
  intro f;induction f with
  |nil=>intro n h;cases h
  |cons x r o=>
   intro n h;simp only[List.zipIdx_cons,lq,lk]at h;cases b:Nat.beq n t with
   |true=>
    rw[b]at h;have:n=t:=gM b;subst this;exact⟨cJ _,by simpa using h⟩
   |false=>
    rw[b]at h;have q:n≠t:=uN b;obtain⟨s,e⟩:=o (n+1) h;refine⟨by omega,?_⟩;have:t-n=(t-(n+1))+1:=by omega
    rw[this];simpa using e
 have e:=(g args 0 m).2;rw[Nat.sub_zero]at e;have i:t<args.kq:=(iI.1 e).1;rw[kg];show((args.toArray++Array.replicate (d.ntmps-args.toArray.size) fR)[t]?).getD fR=v;rw[wz (by simpa using i)];simp[e]
def Ij{d:Func}{t N:Nat}{l:L}{a:Act}{ds:List Deferred}{w:cn}(c:d.results=#[.tmp t])(e:pk ds N l a)(f:lk l t=some z):Sem.run V.prog (results d a.tmps) w=.ok z w:=by have g:a.tmps.getD t fR=z:=e.b.at_ t z f;rw[yo,c];simp[Jb,g]
def RQ{c:Func}{t N:Nat}{l:L}{a:Act}{w:cn}{R:Ending->cU}(b:c.results=#[.tmp t])(e:pk [] N l a)(f:lk l t=some z)(g:R (.returned z) w):bodyPostM Fence.wide 0 V.prog c R .ret a w:=by show LeavesInM Fence.wide 0 jD c a.tmps R a.defers .returning w;rw[e.d];exact⟨z,Ij b e f,g⟩
def Ik(D:Nat):Deferred:={target:=.collected D,args:=#[]}
def RR{c:Func}{t N D:Nat}{l:L}{a:Act}{w:cn}{R:Ending->cU}(b:c.results=#[.tmp t])(e:pk [Ik D] N l a)(f:lk l t=some z)(g:w.heap[D]? =some (.deferred (some [])))(h:R (.returned z) (w.putObj D (.deferred none))):bodyPostM Fence.wide 0 V.prog c R .ret a w:=by show LeavesInM Fence.wide 0 jD c a.tmps R a.defers .returning w;rw[e.d];exact⟨by simp,.inl ⟨D,_,rfl,run_takeDeferred g,z,Ij b e f,h⟩⟩
def yI(fn:FuncId)(tmps:Array Value)(p:Tmp)(assign body:Code)(D:Nat)(st:LoopState):Loop:={state:=st,pending:=none,fn,tmps,params:=#[p],assign,body,defers:=D}
theorem Jz{N t p:Nat}{l:L}{a:Act}{w:World}{gf:FuncId}{cap:Array Value}{assign body:Code}{Q:Exit->Act->World->Prop}(hF:pk [] N l a)(hg:lk l t=some (.func (.func gf) #[] cap))(hgo:∀xs w,Sem.run V.prog (callFunc gf xs) w=.ok (.enter gf xs) w){I:World->Prop} (sC:∀fn W1 rc,rc=yI fn a.tmps p assign body w.heap.size .ready->Ext w W1->W1.heap.size=w.heap.size+2->W1.heap[w.heap.size]? =some (.deferred (some []))->W1.heap[w.heap.size+1]? =some (.loop rc)->
  Calls V.prog gf (#[.func (.yield (w.heap.size+1)) #[] #[]]++cap) W1 (fi λv W2=>W2.heap[w.heap.size+1]? =some (.loop rc)/\I W2))
 (TL:∀rc W2 a',W2.heap[w.heap.size+1]? =some (.loop rc)->I W2->pk [Ik w.heap.size] N l a'->Q .normal a' (W2.putObj (w.heap.size+1) (.loop {rc with state:=.exhausted}))):(Code.rangeFunc (.tmp t) #[p] assign body).wpIn (wd none) 0 V.prog Q a w:=by
 have Vk:a.eval (.tmp t)=.func (.func gf) #[] cap:=hF.b.at_ t _ hg;refine wpIn_rangeFunc ?_;intro fn VG;obtain⟨W1,TM⟩:∃W1,(w.alloc (.deferred (some []))).alloc (.loop (yI fn a.tmps p assign body w.heap.size .ready))=W1:=⟨_,rfl⟩;have XC:W1.heap[w.heap.size+1]? =some (.loop (yI fn a.tmps p assign body w.heap.size .ready)):=by rw[<-TM];have:=World.alloc_heap_new (w.alloc (.deferred (some []))) (.loop (yI fn a.tmps p assign body w.heap.size .ready));rwa[World.size_alloc]at this
 have XD:W1.heap[w.heap.size]? =some (.deferred (some [])):=by rw[<-TM];exact(alloc_old _ _ (by simp)).trans (World.alloc_heap_new w _)
 have hE:Ext w W1:=by rw[<-TM];exact(Ext.alloc _ _).trans (Ext.alloc _ _)
 refine⟨w.heap.size+1,[Ik w.heap.size],W1,{target:=.fn (.func gf) cap,args:=#[.func (.yield (w.heap.size+1)) #[] #[]]},W1,gf,#[.func (.yield (w.heap.size+1)) #[] #[]]++cap,W1,?_,?_,λ_ _=>trivial,?_,(λh=>by cases h),?_⟩
 ·rw[<-TM];exact run_enterLoop_outer _ _ _ _ _
 ·simp only[resolve,rangeCall,Vk];simp[go_sem]
 ·simp[invoke,go_sem,hgo]
 ·refine(callsIn_wide.2 (sC fn W1 _ rfl hE (by rw[<-TM];simp) XD XC)).mono ?_;rintro e W2 ⟨v,rfl,hl,hI⟩;have he:=run_endLoop (P:=V.prog) hl (by simp[yI]);refine⟨none,_,he,TL _ W2 _ hl hI ⟨⟨hF.b.size,hF.b.at_⟩,?_⟩⟩;show [Ik w.heap.size]++a.defers=_;rw[hF.d];rfl
theorem Ey{lp fn p D N:Nat}{tmps:Array Value}{assign body:Code}{v:Value}{W:World}{rc:Loop}(XE:rc=yI fn tmps p assign body D .ready)(hl:W.heap[lp]? =some (.loop rc)){l:L}(hF:uK N l ⟨tmps,[]⟩)(hp:p<N){R:World->Prop}(ha:flat assign=true)(hb:flat body=true)
 (h:∀rb W0,W0=W.putObj lp (.loop rb)->W0.heap[lp]? =some (.loop rb)->WC V.prog Co N assign (λe l1 w1=>e=.normal/\w1=W/\WC V.prog Co N body (λe l2 w2=>e=.normal/\w2.heap[lp]? =some (.loop rb)/\R (w2.putObj lp (.loop rc))) l1 W0) (ins N (some p) v l) W):
 ∃f QS Il QT,Sem.run V.prog (Instr.yield lp #[v]) W=.ok (.round lp f QS Il QT) W/\RoundIn Fence.wide 0 V.prog lp f QS Il QT W λen w'=>en=.returned (.bool true)/\R w':=by
 subst XE;have hy:=run_yield (P:=V.prog) (args:=#[v]) hl (by simp[yI]);refine⟨_,_,_,_,hy,roundIn_of_wpIn trivial ?_⟩;have XF:pk [] N (ins N (some p) v l) ⟨tmps.setIfInBounds p v,[]⟩:=⟨hF.put (some p) v (λt ht=>by cases ht;exact hp),rfl⟩;have e0:((yI fn tmps p assign body D .ready).params.zip #[v]).foldl (λ(tmps:Array Value) (x:Tmp×Value)=>tmps.setIfInBounds x.1 x.2) (yI fn tmps p assign body D .ready).tmps=tmps.setIfInBounds p v:=by simp[yI]
 rw[e0];refine wpIn_mono (kM (r:=some lp) dj assign _ _ _ _ ha XF (h (yI fn tmps p assign body D .busy) _ rfl (World.putObj_heap_same (cP.lt_of_heap hl)))) ?_;rintro e a1 w1 ⟨l1,XG,rfl,rfl,TN⟩;refine⟨_,run_beginRound hl rfl,wpIn_mono (kM (r:=some lp) dj body _ l1 a1 _ hb XG TN) ?_⟩;rintro e a2 w2 ⟨l2,Ye,rfl,XH,hR⟩;exact⟨_,_,run_endRound none XH,rfl,hR⟩
def Ext.yJ(h:Ext w t)(o:Obj)(b:w.heap.size<=m):Ext w (t.putObj m o):=
 ⟨h.os,h.tape,h.output,by simpa using h.size,h.drawn,λx a=>(World.putObj_heap_other (by omega)).trans (h.block x a)⟩
def kZ(W:cn)(b:Nat)(o:Obj):cW (λx=>x=b) W (W.putObj b o):=
 ⟨rfl,rfl,rfl,by simp,cJ _,λx _ a=>World.putObj_heap_other a⟩
def oe(d:w.heap[m]? =some Q)(f:∀b t c,Q≠ .cells b t c)(a:w.cell? h=some x):(w.putObj m O).cell? h=some x:=by refine(kZ w m O).eP a λe=>?_;unfold World.cell? at a;rw[e,d]at a;split at a;rename_i b t c g;exact f _ _ _ (cO g);cases a
def oE(G:Gd)(a:List cz)(b:cz):jl G (a++[b])=ju G (jl G a) b:=by simp[jl]
structure RS(G:Gd)(bb lb lp:Nat)(rc:Loop)(W1:cn)(B:Nat->Prop)(pre:List (List Nat))(W:cn):Prop where
 b:∀b,B b->W1.heap.size<=b
 k:cW (λb=>b=bb\/b=lb\/b=lp) W1 W
 l:W.heap[lp]? =some (.loop rc)
 lt:bb<W1.heap.size/\lb<W1.heap.size/\lp<W1.heap.size
 at_:∃a c,W.heap[bb]? =some (.cells #[.slice a (jl G pre).1.length c] 27)/\gO (λx=>B x\/x<W1.heap.size) W a (jl G pre).1/\(jl G pre).1.length<=c/\W.heap[lb]? =some (.cells #[.int .i64 (jl G pre).2] 3)
def RS.keep{n:Loop}{d:List cz}(h:RS H m k i n w B d t)(f:cW B t e):RS H m k i n w B d e:=by
 obtain⟨a,c,q,r,s,u⟩:=h.at_;have j:∀x,x<w.heap.size->¬B x:=λx p g=>by have:=h.b x g;omega
 exact⟨h.b,h.k.trans f (λ_ _ h=>h) (λx p g=>absurd g (j x p)),f.fe h.l (j _ h.lt.2.2),h.lt,a,c,f.fe q (j _ h.lt.1),r.go (λ_ h=>.inl h) (λb o v g y=>f.eP y λz=>g (.inl z)),s,f.fe u (j _ h.lt.2.1)⟩
def kY.all{f:Nat->cq}{F:(cN)->Prop}{R:(cN)->Nat->nd}(K:AJ T f)(q:∃A,F A)(h:∀A,F A->kY f (R A) m w):kY f (λs v w=>∀A,F A->R A s v w) m w:=by
 obtain⟨a,g⟩:=q;obtain⟨k,b,l,r⟩:=(h a g).out;refine⟨k,b,l,λe n=>?_⟩;obtain⟨s,o,p,_⟩:=r e n;refine⟨s,o,p,λA t=>?_⟩;obtain⟨i,c,d,j⟩:=(h A t).out;rw[l]at d;obtain⟨rfl,rfl⟩:k=i/\b=c:=by injection d with d;injection d with u x;exact⟨u,x⟩
 obtain⟨y,z,B,C⟩:=j e n;obtain rfl:=K.inj s y o z (p.symm.trans B);exact C
def BR{gp mk ms n0 s:Nat}{F:(cN)->Prop}(h:oK gp mk ms N w)(au:∃A,F A)(C:∀A,F A->∀b,A b->b<w.heap.size)(hp:∀A,F A->kQ A mk ms N w)(hn:n0<=ms)(hs:s<32)(hd:∀d∈fl s,d<N.doors.length):
 Calls V.prog 129 #[cM gp,.int .u8 s] w (fi λv w'=>iV n0 w w'/\∀A,F A->kQ A mk ms N w'/\ShR A N s v w'):=by
 have av:(fl s).length<=100000:=by have:=l5 s 5;unfold fl;omega
 refine Ex (args:=[cM gp,.int .u8 s]) 46 V.func129 rfl Tryz.ntmps129 (by simp) λa hF=>wpS hF rfl (ej λw1 b2 e1 bj M a1 aM=>?_);have h1:=h.ext e1;have aw:=λA C=>(hp A C).ext e1;refine wpS aM rfl (cu (cr M rfl) (cu h1.Wq (Ju BP MG (z:=jK) (by intro w;kernel_rfl) (kY.all BP au λA C=>(aw A C).s) hs (λv hv=>jZ rfl λa2 af=>RQ rfl af rfl ⟨_,rfl,e1.gG n0,λA C=>⟨aw A C,hv A C⟩⟩) (lx rfl λa2 af=>?_))));refine wpS af rfl (eD λw2 p e2 bk ab a3 aN=>?_);refine wpS aN rfl (eD λw3 n e3 aO ac=>dq ac λw4 k4 ax a4 aP=>?_);have bl:=cP.lt_of_heap ab;have bm:=cP.lt_of_heap ac;have bn:=cP.lt_of_heap M;have e4:Ext w2 w4:=e3.cC k4 aO;have E4:Ext w w4:=(e1.trans e2).trans e4;have ay:sd w4 p #[jK] 27:=e4.at_ ab;have ad:sd w4 n #[i64 (-1)] 3:=ax;refine wpIn_seq<|wpS aP rfl (cD (uk s w4 hs) ?_);rintro bo w5 ⟨e5,az⟩;obtain⟨la,lc,rfl,ag,_⟩:=az.row;refine cD (Jy la (fl s).length lc w5) ?_;rintro fv g ⟨e6,lv,rfl,bp,ae⟩;intro a6 ah;have aA:∀b o,la=some (cY b o)->w4.heap.size<=b/\b<w5.heap.size:=λb o c=>by obtain⟨_,⟨_,h2⟩|⟨b',c',cs,g1,h2,g3,_⟩⟩:=az;injection h2 with h2;rw[h2]at c;cases c;injection h2 with h2;rw[h2]at c;have:=cT Addr.block (cO c);simp only at this;subst this;exact⟨g1,cP.lt_of_heap g3⟩
 have s1:=e1.size;have s2:=e2.size;have s4:=e4.size;have s5:=e5.size;have s6:=e6.size;have l6:lv<g.heap.size:=cP.lt_of_heap ae;have bq:n<w4.heap.size:=cP.lt_of_heap ad;have T:Ext w g:=E4.trans (e5.trans e6);have aB:sd g b2 #[cM gp] 138:=((e2.trans e4).trans (e5.trans e6)).at_ M;have br:p≠n/\p≠b2/\n≠b2:=by have:=e2.size;omega
 refine wpIn_block (Jz ah rfl (by intro _ _;kernel_rfl) (I:=λW2=>∃O G B,Ext g G/\G.heap.size=g.heap.size+2/\G.heap[g.heap.size]? =some (.deferred (some []))/\RS N p n (g.heap.size+1) O G B (xj (fl s)) W2) ?_ ?_);intro fn G O aQ f aC hD hL;have ai:=ag.ext (e6.trans f);have aD:=f.at_ ae;refine(Jx (lv:=lv) (lc:=lc) (lp:=g.heap.size+1) (F:=λb=>b=p\/b=n\/b=g.heap.size+1) (Y:=λB K W=>RS N p n (g.heap.size+1) O G B K W) av rfl (cr aD rfl) ai (λb o c=>?_) (λb c=>?_) (λW2 B U hB=>?_) (λB K a b hy k=>hy.keep k) ?_).mono ?_;have:=aA b o c;omega;refine⟨by omega,by omega,λb' o aR=>?_⟩;have:=aA b' o aR;omega;refine⟨λb c=>(hB b c).1,U.keep _,U.at_ hL,by omega,none,0,?_,λk hk=>by simp[jl]at hk,fV _,?_⟩;exact U.at_ (f.at_ (e6.at_ (e5.at_ ay)));exact U.at_ (f.at_ (e6.at_ (e5.at_ ad)));intro B K L rb W aj aS al bs aE i;have EW:Ext w W:=⟨i.k.os.trans (T.trans f).os,i.k.tape.trans (T.trans f).tape,i.k.output.trans (T.trans f).output,by have:=i.k.size;omega,cZ (T.trans f).drawn i.k.drawn,λx hx=>(i.k.block x (by omega) (by omega)).trans ((T.trans f).block x hx)⟩;obtain⟨ba,bc,g1,g2,g3,g4⟩:=i.at_;obtain⟨q1,q2,q3⟩:=i.lt;have lW:=i.k.size;refine Ey aQ i.l ⟨ah.b.size,ah.b.at_⟩ (by decide) (R:=λw'=>cW (λb=>b=p\/b=n\/b=g.heap.size+1) W w'/\RS N p n (g.heap.size+1) O G B (K++[L]) w') rfl rfl λaF W0 X P=>⟨rfl,rfl,?_⟩;have kB:cW (λx=>x=g.heap.size+1) W W0:=by rw[X];exact kZ _ _ _
 have J:W0.heap.size=W.heap.size:=by rw[X];simp
 have E0:Ext w W0:=by rw[X];exact EW.yJ _ (by omega)
 clear X;have Q:=kB.fe g1 (by omega);have t:=kB.fe g4 (by omega);have aT:sd W0 b2 #[cM gp] 138:=kB.fe (i.k.fe (f.at_ aB) (by omega)) (by omega)
 have am:∀(r:cn) (a':ek) (c':Nat) (y:cz) (D:Int),r.heap[g.heap.size+1]? =some (.loop aF)->sd r p #[.slice a' y.length c'] 27->sd r n #[i64 D] 3->jl N (K++[L])=(y,D)->gO (λx=>B x\/x<G.heap.size) r a' y->y.length<=c'->
  cW (λb=>b=p\/b=n\/b=g.heap.size+1) W0 r->Exit.normal=.normal/\r.heap[g.heap.size+1]? =some (.loop aF)/\cW (λb=>b=p\/b=n\/b=g.heap.size+1) W (r.putObj (g.heap.size+1) (.loop O))/\RS N p n (g.heap.size+1) O G B (K++[L]) (r.putObj (g.heap.size+1) (.loop O)):=λr a' c' y D y1 y2 y3 y4 y5 y6 y7=>by
  have kE:=kZ r (g.heap.size+1) (.loop O);have kW:cW (λb=>b=p\/b=n\/b=g.heap.size+1) W (r.putObj (g.heap.size+1) (.loop O)):=(kB.trans y7 (λ_ _ h=>.inr (.inr h)) λ_ _ h=>h).trans kE (λ_ _ h=>h) λ_ _ h=>.inr (.inr h);refine⟨rfl,y1,kW,i.b,i.k.trans kW (λ_ _ h=>h) λ_ _ h=>h,World.putObj_heap_same (cP.lt_of_heap y1),i.lt,a',c',?_,?_,?_,?_⟩;rw[y4];exact kE.fe y2 (by omega);rw[y4];exact y5.go (λ_ h=>.inl h) λb o v c q=>oe y1 (λ_ _ _ e=>by cases e) q;rw[y4];exact y6;rw[y4];exact kE.fe y3 (by omega)
 have E:fN W0 (Bb rb 0) L:=λk hk=>by
  obtain⟨b,o,z1,z2⟩:=al k hk;have bt:=aj rb aS;have:b=rb:=by have:=cT Addr.block (cO z1);simpa using this.symm
  subst this;exact⟨b,o,z1,kB.eP z2 (by show¬b=_;omega)⟩
 have aU:∀d∈L,d<N.doors.length:=λd aV=>hd d (aE d aV);have aG:L.length<=100000:=by omega
 refine cu (cr aT rfl) (dg (Jn (h.ext E0) aU aG E) (cu (cr t rfl) (du ⟨λaW=>jZ rfl (cD (lL E (by omega)) λuv w7 Z=>?_),λaX=>cu (cr t rfl) (du ⟨λaH=>cD (lL E (by omega)) λuv w7 Z=>?_,λaI=>?_⟩)⟩)));obtain⟨e7,Z⟩:=Z;obtain⟨ua,uc,rfl,an,ao⟩:=fE.RP (A:=λx=>B x\/x<G.heap.size) Z (λb c=>by rcases c with c|c;have:=(aj b c).2;rw[J];exact this;rw[J];omega);refine dq (e7.at_ Q) λw8 k8 ap=>dq (k8.fe (e7.at_ t) (by omega)) λr k9 aq=>?_
 exact am r _ _ _ _ (k9.fe (k8.fe (e7.at_ P) (show¬g.heap.size+1=p by omega)) (show¬g.heap.size+1=n by omega)) (k9.fe ap (show¬p=n by omega)) aq (by rw[oE,ju,cB (.inl (dO aW))]) (an.go (λ_ h=>.inl h) λb o v c q=>k9.eP (k8.eP q (λe=>c (.inr (by have:b=p:=e;show b<_;omega)))) (λe=>c (.inr (by have:b=n:=e;show b<_;omega)))) ao
  ((e7.keep (λb=>b=p\/b=n\/b=g.heap.size+1)).trans (k8.trans k9 (H:=λb=>b=p\/b=n\/b=g.heap.size+1) (λ_ _ h=>.inl h) λ_ _ h=>.inr (.inl h)) (λ_ _ h=>h) λ_ _ h=>h)
 obtain⟨e7,Z⟩:=Z;obtain⟨ua,uc,rfl,an,ao⟩:=fE.RP (A:=λx=>B x\/x<G.heap.size) Z (λb c=>by rcases c with c|c;have:=(aj b c).2;rw[J];exact this;rw[J];omega);refine dq (e7.at_ Q) λw8 k8 ap=>dq (k8.fe (e7.at_ t) (by omega)) λr k9 aq=>?_
 exact am r _ _ _ _ (k9.fe (k8.fe (e7.at_ P) (show¬g.heap.size+1=p by omega)) (show¬g.heap.size+1=n by omega)) (k9.fe ap (show¬p=n by omega)) aq (by rw[oE,ju,cB (.inr (dO aH))]) (an.go (λ_ h=>.inl h) λb o v c q=>k9.eP (k8.eP q (λe=>c (.inr (by have:b=p:=e;show b<_;omega)))) (λe=>c (.inr (by have:b=n:=e;show b<_;omega)))) ao
  ((e7.keep (λb=>b=p\/b=n\/b=g.heap.size+1)).trans (k8.trans k9 (H:=λb=>b=p\/b=n\/b=g.heap.size+1) (λ_ _ h=>.inl h) λ_ _ h=>.inr (.inl h)) (λ_ _ h=>h) λ_ _ h=>h)
 refine am W0 ba bc _ _ P Q t (by rw[oE,ju,cy (by have h1:=ee aX;have h2:=ee aI;omega)]) (g2.go (λ_ h=>.inl h) λb o v c q=>kB.eP q (λe=>c (.inr (by have:b=g.heap.size+1:=e;show b<_;omega)))) g3 (cW.refl _ _);rintro e W2 ⟨v,rfl,B,i⟩;exact⟨_,rfl,i.l,_,G,B,f,aC,hD,i⟩;rintro O W2 a7 aY ⟨bu,G,B,f,aC,hD,i⟩ aZ;have lD:=cP.lt_of_heap hD;obtain⟨q1,q2,q3⟩:=i.lt;obtain⟨ba,bc,g1,g2,g3,g4⟩:=i.at_;have EW:Ext w W2:=⟨i.k.os.trans (T.trans f).os,i.k.tape.trans (T.trans f).tape,i.k.output.trans (T.trans f).output,by have:=i.k.size;omega,cZ (T.trans f).drawn i.k.drawn,λx hx=>(i.k.block x (by omega) (by omega)).trans ((T.trans f).block x hx)⟩;have D2:=i.k.fe hD (by omega);have a0:=i.k.fe (f.at_ aB) (by omega);obtain⟨W3,S⟩:∃W3,W3=W2.putObj (g.heap.size+1) (.loop {O with state:=.exhausted}):=⟨_,rfl⟩;have k3:cW (λx=>x=g.heap.size+1) W2 W3:=by rw[S];exact kZ _ _ _
 have E3:Ext w W3:=by rw[S];exact EW.yJ _ (by omega)
 have a5:gO (λx=>B x\/x<G.heap.size) W3 ba (dX N s):=by rw[S];exact g2.go (λ_ h=>.inl h) λb o v c q=>oe aY (λ_ _ _ e=>by cases e) q
 rw[<-S];clear S;have D3:=k3.fe D2 (by omega);have a8:=k3.fe a0 (by omega);have aJ:=k3.fe g1 (by omega);have h3:=h.ext E3;show Code.wpIn _ _ _ (Code.seq _ _) _ a7 W3;refine XB aZ cV (cK (cr a8 rfl) (cK h3.Wq (cK (cr aJ rfl) λw8 e8=>?_)));have aa:=λA C=>(hp A C).ext (E3.trans e8);have aK:∀A,F A->ShR A N s (.slice ba (dX N s).length bc) w8:=λA j=>⟨ba,bc,rfl,(a5.go (λ_ h=>.inl h) λb o v c q=>e8.cell q).more λb c=>.inl (.inr (by have:=C A j b c;omega)),g3⟩;refine uq BP MG (kY.all BP au λA C=>(aa A C).s) hs hn (λr m=>⟨λs u Z A C=>(Z A C).go (λ_ h=>.inl h) λb o v c q=>m.cell q,λA C=>(aK A C).go (λ_ h=>.inl h) λb o v c q=>m.cell q⟩) λr m9 bd be=>?_;have bf:=h.ne;have ar:∀A,F A->kQ A mk ms N r:=λA j=>⟨be.go (λs v hr=>hr A j) λo ho=>ho,(aa A j).k.go (λs v hr=>hr.go (λ_ h=>.inl h) λb o v c q=>m9.cell q) λo ho=>by rw[bd mk bf];exact ho,(aa A j).ak,(aa A j).asm⟩;have bg:=λA j=>(aK A j).go (A':=A) (λ_ h=>.inl h) (λb o v c q=>m9.cell q);have D9:r.heap[g.heap.size]? =some (.deferred (some [])):=m9.block _ _ (e8.at_ D3) (.inr rfl);have bh:=m9.at_ (e8.at_ aJ);intro a9 bi;refine wpS bi rfl (cu (cr bh rfl) λbv aL=>wpIn_ret (RR rfl aL rfl D9 ⟨_,rfl,?_,λA j=>⟨?_,?_⟩⟩));exact(((E3.trans e8).gG n0).trans m9).cC (kZ _ _ _) (by omega);refine(ar A j).go (λ_ h=>.inl h) (λb o v c q=>oe D9 (λ_ _ _ e=>by cases e) q) λb o c ho=>(World.putObj_heap_other λe=>?_).trans ho;obtain⟨bw,c1,t1,_⟩:=(ar A j).s.out;obtain⟨bx,c2,t2,_⟩:=(ar A j).k.out;rcases c with rfl|rfl;rw[e,D9]at t2;cases t2;rw[e,D9]at t1;cases t1;exact(bg A j).go (λ_ h=>.inl h) λb o v c q=>oe D9 (λ_ _ _ e=>by cases e) q
def vX{gp mk ms n0 s:Nat}(h:oK gp mk ms H w)(c:∀b,A b->b<w.heap.size)(f:kQ A mk ms H w)(l:n0<=ms)(m:s<32)(n:∀d∈fl s,d<H.doors.length):
 Calls V.prog 129 #[cM gp,.int .u8 s] w (fi λv g=>MR n0 mk ms H w g/\∀a,(∀b,a b->b<w.heap.size)->kQ a mk ms H w->ShR a H s v g):=by
 refine(BR (n0:=n0) (F:=λa=>(∀b,a b->b<w.me)/\kQ a mk ms H w) h ⟨A,c,f⟩ (λa h=>h.1) (λa h=>h.2) l m n).mono ?_;rintro e g ⟨v,rfl,o,k⟩;exact⟨v,rfl,⟨o,λa i j=>(k a ⟨i,j⟩).1⟩,λa i j=>(k a ⟨i,j⟩).2⟩
def Ez{gp mk ms n0 s:Nat}(h:oK gp mk ms H w)(c:∀b,A b->b<w.heap.size)(f:kQ A mk ms H w)(i:n0<=ms)(j:s<32)(k:∀d∈fl s,d<H.doors.length):
 Calls V.prog 129 #[cM gp,.int .u8 s] w (fi λv a=>iV n0 w a/\kQ A mk ms H a/\ShR A H s v a):=by
 refine(vX h c f i j k).mono ?_;rintro e a ⟨v,rfl,g,l⟩;exact⟨v,rfl,g.1,g.2 A c f,l A c f⟩
def MA(n0 mk ms:Nat)(G:Gd)(A:cN)(a b:cn):Prop:=iV n0 a b/\(kQ A mk ms G a->kQ A mk ms G b)
def wO(n0 mk ms:Nat)(G:Gd)(A:cN):fJ (MA n0 mk ms G A):=⟨λw=>⟨iV.refl _ _,id⟩,λ_ _ _ h k=>⟨h.1.trans k.1,λa=>k.2 (h.2 a)⟩,λw=>⟨(Ext.drew w).gG n0,λa=>a.ext (Ext.drew w)⟩⟩
def Ext.ma(h:Ext w t)(n0 mk ms:Nat)(G:Gd)(A:cN):MA n0 mk ms G A w t:=⟨h.gG n0,λa=>a.ext h⟩
def ShR.gG{s n0:Nat}(h:ShR A H s x w)(e:iV n0 w t):ShR A H s x t:=h.go (λ_ h=>.inl h) λb o x c a=>e.cell a
def BS:∀d∈dX H s,d∈fl s:=by
 have rows:∀(l:cz) (m:Nat) (b:cz) (a:List Bool),(∀d∈b,d∈l)->∀r∈rp l m b a,∀d∈r,d∈l:=by
  intro l m;induction m with
  |zero=>intro b a e r h;simp only[rp,iJ]at h;subst h;exact e
  |succ m n=>
   intro b a e r h;simp only[rp,sq]at h;obtain⟨i,j,h⟩:=h;split at h;cases h;refine n _ _ (λd c=>?_) r h;rcases jH.1 c with c|c;exact e d c;have j:i<l.kq:=by simpa using j
   rw[iJ.1 c,getD_eq j];exact ef j
 have f:∀(g:List cz) (k:cz×Int),(∀r∈g,∀d∈r,d∈fl s)->(∀d∈k.1,d∈fl s)->∀d∈(g.foldl (ju H) k).1,d∈fl s:=by
  intro g;induction g with
  |nil=>intro k _ h;exact h
  |cons r g n=>
   intro k o p;rw[qa];refine n _ (λx q=>o x (iw _ q)) ?_;unfold ju;split;exact o r iP;exact p
 exact f _ _ (λr e=>rows _ _ _ _ (λd c=>by cases c) r e) λd c=>by cases c
def ut{G:Gd}:(dX G s).length<=5:=by
 have rows:∀(l:cz) (m:Nat) (b:cz) (a:List Bool),∀r∈rp l m b a,r.length=b.length+m:=by
  intro l m;induction m with
  |zero=>intro b a r h;simp only[rp,iJ]at h;subst h;rfl
  |succ m f=>
   intro b a r h;simp only[rp,sq]at h;obtain⟨i,o,h⟩:=h;split at h;cases h;have:=f _ _ r h;simp at this;omega
 have c:∀(d:List cz) (e:cz×Int),(∀r∈d,r.length<=5)->e.1.length<=5->(d.foldl (ju G) e).1.length<=5:=by
  intro d;induction d with
  |nil=>intro e _ h;exact h
  |cons r d f=>
   intro e g j;rw[qa];refine f _ (λx k=>g x (iw _ k)) ?_;unfold ju;split;exact g r iP;exact j
 have p:=l5 s 5;exact c _ _ (λr n=>by have:=rows _ _ _ _ r n;simp[fl]at this⊢;omega) (by simp)
def BT{gp mk ms n0 s:Nat}{G:Gd}(h:oK gp mk ms G w)(m:∀b,A b->b<w.heap.size)(o:kQ A mk ms G w)(p:n0<=ms)(q:s<32)(k:∀d∈fl s,d<G.doors.length):
 Calls V.prog 121 #[cM gp,.int .u8 s] w (fi λv r=>v=.bool (nG G s)/\MA n0 mk ms G A w r):=by
 have g:=wO n0 mk ms G A;refine gd Tryz.func121 Tryz.ntmps121 ?_;refine cX g ?_;refine .rel (ShR A G s) (λv a b h e=>h.gG e.1) (λi f=>cD (Ez (h.gG f.1) (λb t=>dE (m b t) f.1.size) (f.2 o) p q k) λv u ⟨x,y,z⟩=>⟨z,x,λ_=>y⟩) ?_;refine .exact (i64 (iU G (dX G s))) (λi f v l=>?_) ?_;obtain⟨a,c,rfl,B,_⟩:=l;have D:=ut (G:=G) (s:=s);exact dG (BK (h.gG f.1) (λd j=>k d (BS d j)) (by omega) B.n) λu C=>⟨rfl,C.ma _ _ _ _ _⟩;refine vk g (λi f=>(h.gG f.1).c3) (TE ?_ g);rintro i f v l;exact⟨_,rfl,rfl,f⟩
section
variable{w:cn}{k:cq->cn->Prop}
def tailA(a:ek)(c:Nat):ek:=if c=1 then a else a.map (·.add 1)
def Im(j:1<=m)(l:m<=i)(h:k (.slice (tailA a i) (m-1) (i-1)) w)(d:ty T=some ⟨3,1,1,0⟩:=by rfl):jj V.prog (Instr.sliceAt T (.slice a m i) (some (.int .i64 1)) none none) w k:=by
 obtain⟨e,f,g⟩:=re d rfl;refine⟨_,w,?_,h⟩;have b:(1:Int)<=(m:Int):=by omega
 have c:(0:Int)<=(1:Int):=by omega
 unfold Instr.sliceAt Instr.slice;simp only[Sem.run_bind,gB f,Result.andThen_ok,Instr.sliceBounds,Instr.sliceBound,asIntOf,pure_bind,c,b,and_self,dF,Sem.run_pure,lJ g,sO,ik,eF];simp only[Int.toNat_one,Nat.one_mul,tailA]
end
def fN.tail{w:cn}(h:fN w a (m::l))(d:(m::l).length<=i):fN w (tailA a i) l:=λk e=>by
 obtain⟨b,o,f,g⟩:=h (k+1) (by simpa using e);have c:¬i=1:=by simp at d;omega
 refine⟨b,o+1,?_,?_⟩;unfold tailA;rw[cy c,f];simp[iB];rw[show o+1+k=o+(k+1) by omega,g];rfl
def fN.cut{w:cn}(h:fN w a l)(i:Nat):fN w a (l.take i):=λk d=>by
 have c:k<l.length:=by simp at d;omega
 obtain⟨b,o,e,f⟩:=h k c;exact⟨b,o,e,by rw[f];simp⟩
def ML(a:dU):Prop:=∀(j:Nat) (v:cq),a[j]? =some v->∃n:Int,v=Value.int .u8 n
def EB(a:cz):dr:=a.map λn:Nat=>Value.int .u8 n
def EC(w:cn)(a:ek)(c:cz):Prop:=∀k (h:k<c.length),∃b o,a=some ⟨b,o,none⟩/\w.cell? ⟨b,o+k,none⟩=some (.int .u8 c[k])
def EC.gG{w c:cn}{n0:Nat}(h:EC w a l)(e:iV n0 w c):EC c a l:=λk d=>by obtain⟨b,o,f,g⟩:=h k d;exact⟨b,o,f,e.cell g⟩
def vn(f:Nat)(w:cn)(e:cq)(a:cz):Prop:=(a=[]/\e=.slice none 0 0)\/∃d c b,e=.slice (some ⟨d,0,none⟩) a.length c/\a.length<=c/\f<=d/\w.heap[d]? =some (.cells b 154)/\ML b/\a.length<=b.size/\∀k (h:k<a.length),b[k]? =some (.int .u8 a[k])
def vn.gG{w a:cn}{b:cq}{n0:Nat}(h:vn m w b l)(e:iV n0 w a):vn m a b l:=by rcases h with h|⟨d,c,f,g,i,j,k,n⟩;exact .inl h;exact .inr ⟨d,c,f,g,i,j,e.at_ k,n⟩
def vn.row{w:cn}{d:cq}(h:vn m w d l):∃a c,d=.slice a l.length c/\l.length<=c/\EC w a l/\(a=none->l=[]):=by rcases h with⟨rfl,rfl⟩|⟨f,c,o,g,i,p,j,q,r,n⟩;exact⟨none,0,rfl,cJ _,λk b=>by simp at b,λ_=>rfl⟩;exact⟨_,c,g,i,λk b=>⟨f,0,rfl,cr j (by rw[cG];exact n k b)⟩,λe=>by cases e⟩
def BU{w:cn}{v:cq}(h:cR m 154 [.int .u8 0] w v l.length (EB l)):vn m w v l:=by
 obtain⟨y,⟨i,rfl⟩|⟨b,c,n,o,rfl,p,q,r,z,g,s⟩⟩:=h;exact .inl ⟨oL i,rfl⟩;have t:(EB l).length=l.length:=by simp[EB]
 refine .inr ⟨b,c,n,rfl,r,o,p,λj v a=>?_,by simp at q;omega,λk u=>?_⟩;have d:=(eU.1 a).1;rcases fj j (EB l).length with e|f;rw[g j e]at a;obtain⟨x,_,rfl⟩:=mq.1 (vD a);exact⟨_,rfl⟩;rw[s j f d]at a;simp[Nat.mod_one]at a;exact⟨0,a.symm⟩;rw[g k (by omega)];simp[EB,eV u]
def kQ.RU{A:cN}{mk ms gb:Nat}{w:cn}{C:dU}(h:kQ A mk ms H w)(q:w.heap[gb]? =some (.cells C T))(D:ML C):kQ (λx=>A x\/x=gb) mk ms H w:=by
 have E:∀{a:ek} {l:cz},gO A w a l->gO (λx=>A x\/x=gb) w a l:=λf k r=>by obtain⟨b,o,j,g,d⟩:=f k r;refine⟨b,o,λi=>i.elim j λe=>?_,g,d⟩;subst e;simp only[World.cell?,q]at d;obtain⟨n,t⟩:=D _ _ d;cases t
 have I:∀{a:ek} {y:List cz},lz A w a y->lz (λx=>A x\/x=gb) w a y:=λf k r=>by obtain⟨b,o,J,K,j,g,d,m,z⟩:=f k r;refine⟨b,o,J,K,λi=>i.elim j λe=>?_,g,d,E m,z⟩;subst e;simp only[World.cell?,q]at d;obtain⟨n,t⟩:=D _ _ d;cases t
 obtain⟨L,O,F,_⟩:=h.s.out;obtain⟨M,P,G,_⟩:=h.k.out;refine⟨h.s.go (λs v f=>?_) λo B=>B,h.k.go (λs v f=>?_) λo B=>B,λi=>i.elim h.ak λe=>?_,λi=>i.elim h.asm λe=>?_⟩;obtain⟨a,c,g,d,m⟩:=f;exact⟨a,c,g,E d,m⟩;obtain⟨u,b,g,d⟩:=f;refine⟨u,b,g,?_⟩;cases p:gH H s with
 |none=>rw[p]at d;exact d
 |some y=>
  rw[p]at d;obtain⟨j,a,c,m,z,N⟩:=d;exact⟨j,a,c,m,I z,N⟩
 rw[e,q]at G;cases G;rw[e,q]at F;cases F
def kQ.fewer{A a:cN}{mk ms:Nat}{w:cn}(h:kQ a mk ms H w)(c:∀b,A b->a b):kQ A mk ms H w:=h.more λb d=>.inl (c b d)
def nP(G:Gd)(s:Nat):Prop:=s<32/\∀d∈fl s,d<G.doors.length
def MM:∀s:Nat,s<32->∀d:Nat,d<5->∀x∈fl (qi s d),x∈fl s\/x=d:=by decide+kernel
theorem nP.qi(h:nP H s)(a:d<H.doors.length)(c:H.doors.length<=5):nP H (qi s d):=
 ⟨Gj s h.1 d (by omega),λx b=>(MM s h.1 d (by omega) x b).elim (h.2 x) λe=>e▸a⟩
def nP.zero(G:Gd):nP G 0:=⟨by omega,λd a=>by
 have:fl 0=[]:=by decide+kernel
 rw[this]at a;cases a⟩
theorem nP.io{G:Gd}(c:G.doors.length<=5)(a:∀d∈l,d<G.doors.length):nP G (io l):=by
 have b:∀(l:cz) (s:Nat),nP G s->(∀d∈l,d<G.doors.kq)->nP G (setFrom s l):=by
  intro l;induction l with
  |nil=>intro s h _;exact h
  |cons d r e=>intro s h a;exact e _ (h.qi (a d iP) c) λx f=>a x (iw _ f)
 exact b l 0 (nP.zero G) a
def vY{a:Type}{f:Nat->Option a}{k:Nat}{y:a}(g:k<m)(c:∀i,i<k->f i=none)(d:f k=some y):(List.range m).findSome? f=some y:=by obtain⟨b,rfl⟩:∃b,m=k+1+b:=⟨m-(k+1),by omega⟩;rw[List.range_add,oO,List.findSome?_append,List.findSome?_append];have:(List.range k).findSome? f=none:=List.findSome?_eq_none_iff.2 λi e=>c i (by simpa using e);simp[this,d]
def sG{a:Type}{f:Nat->Option a}(b:∀i,i<m->f i=none):(List.range m).findSome? f=none:=List.findSome?_eq_none_iff.2 λi c=>b i (by simpa using c)
def iV.patch{w f h j g:cn}(a:iV m w f)(b:cW (λx=>x=i) f h)(c:iV m h j)(d:cW (λx=>x=i) j g)(n:∀o,f.heap[i]? =some o->g.heap[i]? =some o):iV m w g:=
 ⟨d.os.trans (c.os.trans (b.os.trans a.os)),d.tape.trans (c.tape.trans (b.tape.trans a.tape)),d.output.trans (c.output.trans (b.output.trans a.output)),by have:=a.size;have:=b.size;have:=c.size;have:=d.size;omega,by have:=a.drawn;have:=b.drawn;have:=c.drawn;have:=d.drawn;omega,λx o p k=>by have l:=a.block x o p k;by_cases e:x=i;subst e;exact n o l;exact d.fe (c.block x o (b.fe l e) k) e⟩
end Go.Proofs.W
variable{M Y:List cq}
namespace Go.Proofs.W
open Go.RowKit
def EC.cells{w:cn}{a:ek}{l:cz}(h:EC w a l):ii w a (EB l):=by
 rcases l with _|⟨x,r⟩;exact .inl rfl;obtain⟨b,o,rfl,_⟩:=h 0 (by simp);refine .inr ⟨b,o,rfl,λj u d=>?_⟩;have c:j<(x::r).kq:=by simpa[EB]using(iI.1 d).1
 obtain⟨f,g,e,i⟩:=h j c;obtain⟨rfl,rfl⟩:b=f/\o=g:=by injection e with e;injection e with k m;exact⟨k,m⟩
 rw[i];have:(EB (x::r))[j]? =some (.int .u8 ((x::r)[j]:Nat)):=by simp only[EB,so,eV c];rfl
 rw[this]at d;exact d
def yK{b:cz}{c:Nat}(h:EC w a b)(g:a=none->b=[])(d:b.length<=1000000):Calls V.prog 199 #[.slice a b.length c] w (fi λv f=>Ext w f/\cR w.heap.size 154 [.int .u8 0] f v b.length (EB b)):=
 Mz a b.kq c (EB b) w (by simp[EB]) (λe=>by rw[g e];rfl) h.cells (λu i=>by obtain⟨n,_,rfl⟩:=mq.1 i;rfl) d
def sH(n1:Nat)(w:cn)(a:ek)(c:cz):Prop:=∀k (h:k<c.length),∃b o,n1<=b/\a=some ⟨b,o,none⟩/\w.cell? ⟨b,o+k,none⟩=some (.int .u8 c[k])
def sH.g{n1:Nat}{c:cz}(h:sH n1 w a c):EC w a c:=λk d=>by obtain⟨b,o,_,e,f⟩:=h k d;exact⟨b,o,e,f⟩
def sH.low{n1 c:Nat}{d:cz}(h:sH n1 w a d)(e:c<=n1):sH c w a d:=λk f=>by obtain⟨b,o,g,i,j⟩:=h k f;exact⟨b,o,cZ e g,i,j⟩
def sH.gG{n1 n0:Nat}{c:cz}(h:sH n1 w a c)(e:iV n0 w t):sH n1 t a c:=λk d=>by obtain⟨b,o,f,g,i⟩:=h k d;exact⟨b,o,f,g,e.cell i⟩
def vn.Vl{e:Nat}{b:cz}(h:vn e w x b):∃a c,x=.slice a b.length c/\b.length<=c/\sH e w a b:=by rcases h with⟨rfl,rfl⟩|⟨f,c,n,g,i,j,l,o,p,m⟩;exact⟨none,0,rfl,cJ _,λk d=>by simp at d⟩;exact⟨_,c,g,i,λk d=>⟨f,0,j,rfl,cr l (by rw[cG];exact m k d)⟩⟩
def cR.low{n0 n1:Nat}{a:Nat}(h:cR n0 T M w x a Y)(g:n1<=n0):cR n1 T M w x a Y:=by obtain⟨d,h|⟨b,c,e,i,f⟩⟩:=h;exact⟨d,.inl h⟩;exact⟨d,.inr ⟨b,c,e,by omega,f⟩⟩
def wP(n1:Nat)(o:Option cz)(v:cq)(w:cn):Prop:=match o with
 |some b=>∃a c,v=.tuple #[.slice a b.length c,.bool true]/\sH n1 w a b
 |none=>v=.tuple #[.slice none 0 0,.bool false]
theorem wP.gG{o:Option cz}{n0 n1:Nat}(h:wP n1 o x w)(e:iV n0 w t):wP n1 o x t:=by
 cases o with
 |none=>exact h
 |some b=>
  obtain⟨a,c,d,f⟩:=h;exact⟨a,c,d,f.gG e⟩
structure MX(n0 n1 mk ms:Nat)(G:Gd)(A:Nat->Prop)(a b:cn):Prop where
 os:b.os=a.os
 tape:b.tape=a.tape
 output:b.output=a.output
 size:a.heap.size<=b.heap.size
 drawn:a.drawn<=b.drawn
 block:∀x o,x<n1->a.heap[x]? =some o->(x<n0\/RO o=false)->b.heap[x]? =some o
 m:kQ A mk ms G a->kQ A mk ms G b
section
variable{n0 n1 mk ms:Nat}{G:Gd}{A:Nat->Prop}
def Vm(n0 n1 mk ms:Nat)(G:Gd)(A:cN):fJ (MX n0 n1 mk ms G A):=
 ⟨λw=>⟨rfl,rfl,rfl,cJ _,cJ _,λ_ _ _ h _=>h,id⟩,λa b c h k=>⟨k.os.trans h.os,k.tape.trans h.tape,k.output.trans h.output,cZ h.size k.size,cZ h.drawn k.drawn,λx o e g f=>k.block x o e (h.block x o e g f) f,λd=>k.m (h.m d)⟩,λw=>⟨rfl,rfl,rfl,cJ _,tH _,λ_ _ _ h _=>h,λd=>d.ext (Ext.drew w)⟩⟩
def MA.mx(h:MA n0 mk ms G A w t):MX n0 n1 mk ms G A w t:=⟨h.1.os,h.1.tape,h.1.output,h.1.size,h.1.drawn,λx o _ a b=>h.1.block x o a b,h.2⟩
def MX.gG(h:MX n0 n1 mk ms G A w t)(c:w.heap.size<=n1):iV n0 w t:=⟨h.os,h.tape,h.output,h.size,h.drawn,λx o a b=>h.block x o (by have:=cP.lt_of_heap a;omega) a b⟩
end
theorem vo{gp mk ms n0 most:Nat}{G:Gd}(h:oK gp mk ms G w)(hn:n0<=ms):∀(doors g:cz) (A:cN) (W:ek) (M:Nat) (gv:cq) (J:cn),iV n0 w J->(∀b,A b->b<J.heap.size)->kQ A mk ms G J->fN w W doors->doors.length<=M->(∀d∈doors,d<G.doors.length)->vn w.heap.size J gv g->(∀s∈g,nP G s)->doors.length+g.length<=100->
 Calls V.prog 175 #[cM gp,.slice W doors.length M,gv,.int .i64 most] J (fi λv w'=>MA n0 mk ms G A J w'/\wP J.heap.size (fL G most doors g) v w')
 |[],g,A,W,M,gv,J,hm,hA,hp,hd,F,ag,hg,ah,P=>by obtain⟨a,c,rfl,hc,az,X⟩:=hg.row;refine gd Tryz.func175 Tryz.ntmps175 ?_;refine cS (ff (jZ rfl (cD (yK az X (by simp at P;omega)) λv w1 hv=>?_)));obtain⟨e1,Q⟩:=hv;obtain⟨a1,c1,rfl,_,N⟩:=(BU Q).Vl;exact⟨_,rfl,e1.ma _ _ _ _ _,a1,c1,rfl,N⟩
 |d::r,g,A,W,M,gv,J,hm,hA,hp,hd,F,ag,hg,ah,P=>by
  have h5:=h.uh.many;have aA:d<G.doors.length:=ag d iP;obtain⟨db,aB,aS,C⟩:=hd 0 (by simp);have C:w.cell? (cY db (aB+0))=some (i64 d):=C;obtain⟨ga,gc,aC,a8,_,_⟩:=hg.row;have a9:g.length<=100:=by omega
  let f:Nat->Option cz:=λi=>if nG G (qi (g.getD i 0) d)then fL G most r (g.set i (qi (g.getD i 0) d))else none
  have Y:fL G most (d::r) g=match(List.range g.length).findSome? f with
   |some Z=>some Z
   |none=>if g.length<most/\nG G (io [d])=true then fL G most r (g++[io [d]])else none:=rfl
  refine gd Tryz.func175 Tryz.ntmps175 ?_;rw[aC];refine cS (ff (lx (by simp;omega) ?_));refine cS (eE (n:=g.length) (λk=>[(0,cM gp),(1,.slice W (d::r).length M),(2,.slice ga g.length gc),(3,i64 most),(19,.slice ga g.length gc),(20,i64 g.length),(21,i64 k)]) (λk w'=>MA n0 mk ms G A J w'/\vn w.heap.size w' (.slice ga g.length gc) g/\∀i,i<k->f i=none) ⟨by trivial,(wO _ _ _ _ _).refl J,aC▸hg,λi hi=>by omega⟩ ?_ ?_ ?_);rintro k w' S hJ;exact du ⟨rfl,rfl,by trivial,hJ⟩;rintro k w1 S ⟨D,an,hf⟩;have M1:=hm.trans D.1;obtain⟨X,_⟩|⟨H,c,K,ao,ap,ai,aD,aa,aq,ab⟩:=an;rw[X]at S;simp at S;injection ao with ao _ aE;subst ao;subst aE;have ar:=ah _ (ef S);have au:=ar.qi aA h5;have aF:g.getD k 0=g[k]:=getD_eq S;subst aS;have al:=M1.cell C;refine fw k S (cu (cr aD (by rw[cG];exact ab k S)) (fw 0 (by simp) (cu al (dg (xf _ _ _ ar.1 (by omega)) (cD (BT (h.gG M1) (λb q=>dE (hA b q) D.1.size) (D.2 hp) hn au.1 au.2) ?_)))));rintro v t ⟨rfl,E⟩;have I:=E.1.at_ aD;refine ei ⟨λq=>?_,λq=>?_⟩;have q:nG G (qi g[k] d)=false:=by simpa using q
  refine cF ⟨by trivial,(wO _ _ _ _ _).trans _ _ _ D E,.inr ⟨H,gc,K,rfl,ap,ai,I,aa,aq,ab⟩,λi hi=>?_⟩;rcases fj i k with O|av;exact hf i O;obtain rfl:i=k:=by omega
  simp only[f,aF,q,ik,eF];have q:nG G (qi g[k] d)=true:=by simpa using q
  have aj:f k=fL G most r (g.set k (qi g[k] d)):=by simp only[f,aF,q,dF]
  have aG:=E.1.cell al;have am:(K.setIfInBounds k (.int .u8 (qi g[k] d:Nat))).setIfInBounds k (.int .u8 (g[k]:Nat))=K:=by apply KM;intro j;by_cases T:k=j;subst T;rw[kI (by simp;omega)];exact(ab k S).symm;rw[eo T,eo T]
  refine fw 0 (by simp) (cu aG (dg (xf _ _ _ ar.1 (by omega)) (fw k S (iT I (by simp[Value.cells];omega) (λp k3 ac=>?_) (fK rfl)))));have ac:p.heap[H]? =some (.cells (K.setIfInBounds k (.int .u8 (qi g[k] d:Nat))) 154):=by rw[ac];simp[gl,Value.cells]
  have aT:ML (K.setIfInBounds k (.int .u8 (qi g[k] d:Nat))):=λj v T=>by by_cases e:k=j;subst e;rw[kI (by omega)]at T;exact⟨_,(cO T).symm⟩;rw[eo e]at T;exact aa j v T
  have M3:iV n0 w p:=(M1.trans E.1).cC k3 ai;have aU:kQ (λx=>A x\/x=H) mk ms G p:=((E.2 (D.2 hp)).RU I aa).keep k3 λb q=>.inr q;have aV:=cP.lt_of_heap ac;have aW:vn w.heap.size p (j7 H g.length gc) (g.set k (qi g[k] d)):=by refine .inr ⟨H,gc,_,by rw[xp],by rw[xp];exact ap,ai,ac,aT,by simpa using aq,λj T=>?_⟩;by_cases e:k=j;subst e;rw[kI (by omega),List.getElem_set_self];rw[eo e,List.getElem_set_ne e];exact ab j (by simpa using T)
  have sA:∀b,(A b\/b=H)->b<p.heap.size:=λb q=>q.elim (λh=>by have:=hA b h;have:=D.1.size;have:=E.1.size;have:=k3.size;omega) λe=>e▸aV;refine Im (by simp) F (cD (vo h hn r (g.set k (qi g[k] d)) (λx=>A x\/x=H) (tailA (Bb db aB) M) (M-1) (j7 H g.length gc) p M3 sA aU (hd.tail F) (by simp at F;omega) (λx U=>ag x (iw _ U)) aW (λs R=>?_) (by simp at P⊢;omega)) ?_);rcases tG R with R|rfl;exact ah s R;exact au;rintro v w4 ⟨m4,y⟩;have aH:=m4.1.at_ ac;have back:∀{w5:cn},cW (λx=>x=H) w4 w5->w5.heap[H]? =some (.cells K 154)->MA n0 mk ms G A J w5:=λk5 z=>by refine⟨D.1.trans (iV.patch E.1 k3 m4.1 k5 λo L=>?_),λhp=>?_⟩;rw[I]at L;rw[z,<-L];exact((m4.2 (((E.2 (D.2 hp)).RU I aa).keep k3 λb q=>.inr q)).keep k5 λb q=>.inr q).fewer λb q=>.inl q
  cases L:fL G most r (g.set k (qi g[k] d))with
  |some Z=>
   rw[L]at y aj;obtain⟨oa,oc,rfl,aX⟩:=y;refine fw k S (iT aH (by simp[Value.cells];omega) (λw5 k5 z=>jZ rfl ?_) (fK rfl));have z:w5.heap[H]? =some (.cells K 154):=by
    rw[z];have:gl (K.setIfInBounds k (.int .u8 (qi g[k] d:Nat))) (0+k) (Value.cells (.int .u8 (g[k]:Nat))).toList=(K.setIfInBounds k (.int .u8 (qi g[k] d:Nat))).setIfInBounds k (.int .u8 (g[k]:Nat)):=by simp[gl,Value.cells]
    rw[this,am]
   refine⟨_,rfl,back k5 z,?_⟩;rw[Y,vY S hf aj];refine⟨oa,oc,rfl,λj T=>?_⟩;obtain⟨b,o,x0,x1,x2⟩:=aX j T;have y1:=D.1.size;have y2:=E.1.size;have y3:=k3.size;exact⟨b,o,by omega,x1,k5.eP x2 (by show¬b=H;omega)⟩
  |none=>
   rw[L]at y aj;have y:v=.tuple #[jK,.bool false]:=y;subst y;refine fw k S (iT aH (by simp[Value.cells];omega) (λw5 k5 z=>lx rfl ?_) (fK rfl));have z:w5.heap[H]? =some (.cells K 154):=by
    rw[z];have:gl (K.setIfInBounds k (.int .u8 (qi g[k] d:Nat))) (0+k) (Value.cells (.int .u8 (g[k]:Nat))).toList=(K.setIfInBounds k (.int .u8 (qi g[k] d:Nat))).setIfInBounds k (.int .u8 (g[k]:Nat)):=by simp[gl,Value.cells]
    rw[this,am]
   refine cF ⟨by trivial,back k5 z,.inr ⟨H,gc,K,rfl,ap,ai,z,aa,aq,ab⟩,λi hi=>?_⟩;rcases fj i k with O|av;exact hf i O;obtain rfl:i=k:=by omega
   exact aj
  rintro w1 ⟨D,an,hf⟩;have M1:=hm.trans D.1;have aI:=D.2 hp;have aJ:fL G most (d::r) g=if g.length<most/\nG G (io [d])=true then fL G most r (g++[io [d]])else none:=by rw[Y,sG hf]
  have no:∀t,MA n0 mk ms G A J t->¬(g.length<most/\nG G (io [d])=true)->∃v,Ending.returned (one [jK,.bool false])=.returned v/\MA n0 mk ms G A J t/\wP J.heap.size (fL G most (d::r) g) v t:=λt m aY=>⟨_,rfl,m,by rw[aJ,cy aY];rfl⟩;have ad:=nP.io (G:=G) h5 (l:=[d]) λx U=>by rw[iJ.1 U];exact aA
  have ba:1<=M:=by simp at F;omega
  have N:∀{t},iV n0 w t->fN t W [d]:=λm=>(hd.gG m).cut 1;have ae:∀{t},iV n0 w t->Calls V.prog 122 #[.slice W 1 M] t (fi λv w'=>v=.int .u8 (io [d])/\w'=t):=λm=>rS [d] W M _ (N m) (λx U=>by rw[iJ.1 U];omega) (by simp);refine cS (du ⟨λO=>?_,λav=>lx rfl (no w1 D λU=>?_)⟩);have O:g.length<most:=by simpa using O
  refine pF 1 (by omega) (dg (ae M1) (cD (BT (h.gG M1) (λb q=>dE (hA b q) D.1.size) aI hn ad.1 ad.2) ?_));rintro v t ⟨rfl,E⟩;refine⟨λR=>?_,λR=>no t ((wO _ _ _ _ _).trans _ _ _ D E) λU=>by rw[R]at U;cases U.2⟩;have M2:=M1.trans E.1;have aZ:=E.2 aI;have a0:=an.gG E.1;obtain⟨_,_,aK,_,aL,aM⟩:=a0.row;injection aK with e1 _ e2;subst e1;subst e2;have hE:=wO n0 mk ms G A;refine hH 9 hE (Vm n0 t.heap.size mk ms G A) (λa b h=>h.mx) ?_;have aN:∀{p},MX n0 t.heap.size mk ms G A t p->iV n0 w p:=λe=>M2.trans (e.gG (cJ _));refine .exact (.slice (tailA W M) r.length (M-1)) (λp B=>Im (by simp) F ⟨rfl,hE.refl _⟩)<| .Je (λv p=>cR t.heap.size 154 [.int .u8 0] p v g.length (EB g)) (λv a b Q e=>Q.gG e.1) (λp B=>cD (yK (aL.gG (B.gG (cJ _))) aM (by omega)) λv w4 ⟨e4,Q⟩=>⟨Q.low B.size,e4.ma _ _ _ _ _⟩)<| .exact (.slice W 1 M) (λp B=>pF 1 (by omega) ⟨rfl,hE.refl _⟩)<| .exact (.int .u8 (io [d])) (λp B _ _=>dg (ae (aN B)) ⟨rfl,hE.refl _⟩)<| .Je (λv p=>∃nb,v=j7 nb 1 1/\p.heap[nb]? =some (.cells [Value.int .u8 (io [d]:Nat)].toArray 154)) (λv a b ⟨nb,h1,h2⟩ e=>⟨nb,h1,e.1.at_ h2⟩) (λp B=>eg [Value.int .u8 (io [d]:Nat)] 154 λw4 nb e4 aO q=>⟨⟨nb,rfl,q⟩,e4.ma _ _ _ _ _⟩) ?_;refine .spec (λv p=>cR t.heap.size 154 [.int .u8 0] p v (g.length+1) (EB g++[.int .u8 (io [d]:Nat)])) (λv a b Q e=>Q.gG e.1) (λp B a2 a3 a4 af=>?_) ?_;obtain⟨nb,rfl,aO⟩:∃nb,a2=j7 nb 1 1/\p.heap[nb]? =some (.cells [Value.int .u8 (io [d]:Nat)].toArray 154):=a3;have af:cR t.heap.size 154 [.int .u8 0] p a4 g.length (EB g):=af;refine gq Mw af B.1.size aO (by omega) λv' w4 g1 g2 g3=>⟨g1,g2.os,g2.tape,g2.output,g2.size,g2.drawn,λx o U L hm=>g2.fe L λq=>?_,λaP=>?_⟩;have:=(af.blk q).1;omega;rcases BU af with⟨_,rfl⟩|⟨H,c,K,rfl,_,_,z1,z2,_⟩;exact aP.keep g2 λb q=>by obtain⟨_,_,q⟩:=q;cases q
  refine((aP.RU z1 z2).keep g2 λb q=>.inr ?_).fewer λb q=>.inl q;obtain⟨_,_,q⟩:=q;injection q with q;have:=cT Addr.block (cO q);exact this.symm;refine .late rfl (λv p=>wP t.heap.size (fL G most r (g++[io [d]])) v p) (λv a b Q e=>Q.gG e.1) (λp B ak aw=>?_) ?_;have aw:cR t.heap.size 154 [.int .u8 0] p ak (g.length+1) (EB g++[.int .u8 (io [d]:Nat)]):=aw;have ax:(g++[io [d]]).length=g.length+1:=by simp
  have a5:vn t.heap.size p ak (g++[io [d]]):=BU (by rw[ax];simpa[EB]using aw);have sA:∀b,A b->b<p.heap.size:=λb q=>by have:=hA b q;have:=D.1.size;have:=E.1.size;have:=B.size;omega
  have aQ:vn w.heap.size p ak (g++[io [d]]):=by rcases a5 with h|⟨H,c,K,x1,x2,x3,x4⟩;exact .inl h;exact .inr ⟨H,c,K,x1,x2,by have:=M2.size;omega,x4⟩
  refine cD (vo h hn r (g++[io [d]]) A (tailA W M) (M-1) ak p (aN B) sA (B.m aZ) (hd.tail F) (by simp at F;omega) (λx U=>ag x (iw _ U)) aQ (λs R=>?_) (by simp at P⊢;omega)) λv w4 ⟨m4,y⟩=>⟨?_,m4⟩;rcases jH.1 R with R|R;exact ah s R;rw[iJ.1 R];exact ad;cases L:fL G most r (g++[io [d]])with
  |none=>rw[L]at y;exact y
  |some Z=>
   rw[L]at y;obtain⟨a,c,x1,x2⟩:=y;exact⟨a,c,x1,x2.low B.size⟩
  let o:=fL G most r (g++[io [d]])
  have aR:∀{v p},wP t.heap.size o v p->∃u,v=.tuple #[u,.bool o.isSome]/\wP t.heap.size o (.tuple #[u,.bool o.isSome]) p:=λ{v p} hv=>by
   cases L:o with
   |none=>rw[L]at hv;have hv:v=_:=hv;subst hv;exact⟨_,rfl,rfl⟩
   |some Z=>rw[L]at hv;obtain⟨a,c,rfl,x⟩:=hv;exact⟨_,rfl,a,c,rfl,x⟩
  refine .late rfl (λu p=>wP t.heap.size o (.tuple #[u,.bool o.isSome]) p) (λv a b Q e=>Q.gG e.1) (λp B a6 ay=>?_) ?_;obtain⟨u,rfl,hu⟩:=aR ay;exact⟨hu,hE.refl _⟩;refine .exact (.bool o.isSome) (λp B a6 ay=>?_) ?_;obtain⟨u,rfl,hu⟩:=aR ay;exact⟨rfl,hE.refl _⟩;refine .late rfl (λu p=>wP t.heap.size o (.tuple #[u,.bool o.isSome]) p) (λv a b Q e=>Q.gG e.1) (λp B bb a7=>by intro _ _ _ _ _ _ _ _;exact⟨a7,hE.refl _⟩) ?_;intro p B v8 h8 _ _ _ _ _ _ _ _ _ _;have h8:wP t.heap.size o (.tuple #[v8,.bool o.isSome]) p:=h8;refine⟨_,rfl,⟨D.1.trans (E.1.trans (B.gG (cJ _))),λhp=>B.m (E.2 (D.2 hp))⟩,?_⟩;rw[aJ,cB ⟨O,R⟩];show wP J.heap.size o (.tuple #[v8,.bool o.isSome]) p;cases L:o with
  |none=>rw[L]at h8;exact h8
  |some Z=>
   rw[L]at h8;obtain⟨a,c,x1,x2⟩:=h8;exact⟨a,c,x1,x2.low (by have:=D.1.size;have:=E.1.size;omega)⟩
  have:=ee av;omega
end Go.Proofs.W
variable{P:cA}
namespace Go.Proofs.W
open Go.RowKit
def XI(Q:QW):QW
 | .goto _,_,_=>False
 | .normal,l,w=>Q .normal l w
 | .exit i,l,w=>Q (.exit i) l w
 | .ret,l,w=>Q .ret l w
 | .panic c,l,w=>Q (.panic c) l w
 | .outgrown,l,w=>Q .outgrown l w
def MN{N:Nat}{c:Code}{l:L}{w:cn}{Q:QW}(h:WC V.prog Co N c (XI Q) l w):dM V.prog N (.scope c) l w Q:=by
 refine⟨λa f=>wp_scope_straight (kz (iA dj c _ l a w f h) ?_)⟩;rintro e j k ⟨g,b,d⟩;cases e with
 |goto i=>exact d.elim
 |_=>exact⟨g,b,d⟩
def XJ(a b c d e:Bool)(x y:dw)(w:cn):Sem.run V.prog (do eqGuard .eql 217 x y (.agg #[.bool a,.bool b,.bool c,.bool d,.bool e]) (.agg #[.bool false,.bool false,.bool false,.bool false,.bool false]);binOp .eql 217 (.agg #[.bool a,.bool b,.bool c,.bool d,.bool e]) (.agg #[.bool false,.bool false,.bool false,.bool false,.bool false])) w=.ok (.bool (!(a||b||c||d||e))) w:=by cases a<;>cases b<;>cases c<;>cases d<;>cases e<;>kernel_rfl
def dM.jN{N:Nat}{c:Code}{l l0:L}{w:cn}{Q:QW}(b:Sub l0 l)(h:dM P N c l0 w Q):dM P N c l w Q:=⟨λa d=>h.out a (d.sub b)⟩
def dM.mono{N:Nat}{c:Code}{l:L}{w:cn}{Q d:QW}(f:∀e l w,Q e l w->d e l w)(h:dM P N c l w Q):dM P N c l w d:=⟨λa g=>kz (h.out a g) (by rintro e k m ⟨i,b,j⟩;exact⟨i,b,f _ _ _ j⟩)⟩
def Vn(a:L)(F:cU)(Q:QW):QW
 | .normal,l,w=>Sub a l/\F w
 | .goto i,l,w=>Q (.goto i) l w
 | .exit i,l,w=>Q (.exit i) l w
 | .ret,l,w=>Q .ret l w
 | .panic c,l,w=>Q (.panic c) l w
 | .outgrown,l,w=>Q .outgrown l w
def RV{N:Nat}{c:Code}{l:L}{w:cn}{Q:QW}(a:L)(F:cU)(h:dM P N c l w (Vn a F Q))(b:∀l w,Sub a l->F w->Q .normal l w):dM P N c l w Q:=
 h.mono λe l w h=>by
  cases e with
  |normal=>exact b l w h.1 h.2
  |_=>exact h
def gO.c{A:cN}{w d:cn}{a:ek}{l:cz}(h:gO A w a l)(e:∀b o v,¬A b->w.cell? ⟨b,o,none⟩=some v->d.cell? ⟨b,o,none⟩=some v):gO A d a l:=h.go (λ_ h=>.inl h) e
def yL(A:cN)(e:Nat)(w:cn)(v:cq)(b:List cz):Prop:=∃d,cR e 27 [.slice none 0 0] w v b.length d/\d.length=b.length/\∀k (h:k<b.length),∃a c,d[k]? =some (.slice a b[k].length c)/\gO A w a b[k]/\b[k].length<=c
theorem yL.gG{A:cN}{b n0:Nat}{w d:cn}{f:List cz}(h:yL A b w x f)(e:iV n0 w d):yL A b d x f:=by obtain⟨g,i,j,l⟩:=h;refine⟨g,i.gG e,j,λk m=>?_⟩;obtain⟨a,c,n,o,p⟩:=l k m;exact⟨a,c,n,o.gG e,p⟩
theorem yL.keep{A:cN}{d:Nat}{w e:cn}{f:List cz}{F:cN}(h:yL A d w x f)(k:cW F w e)(g:∀b,F b->A b)(j:∀b,cH x b->¬F b):yL A d e x f:=by obtain⟨l,m,n,p⟩:=h;refine⟨l,m.keep k j,n,λi q=>?_⟩;obtain⟨a,c,r,s,t⟩:=p i q;exact⟨a,c,r,s.c λb o x u v=>k.eP v λy=>u (g b y),t⟩
def yL.out{A A':cN}{i:Nat}{w:cn}{d:List cz}(h:yL A i w x d)(l:∀b,A' b->A b)(e:∀b,A' b->b<i):∃a c,x=.slice a d.length c/\lz A' w a d/\d.length<=c:=by obtain⟨u,⟨v,⟨m,rfl⟩|⟨b,c,y,z,rfl,n,B,o,C,p,D⟩⟩,E,f⟩:=h;exact⟨none,0,by rw[m],λk j=>by omega,by omega⟩;refine⟨_,c,rfl,λk j=>?_,o⟩;obtain⟨a,q,r,s,t⟩:=f k j;exact⟨b,0,a,q,λg=>by have:=e b g;omega,rfl,cr n (by rw[cG,p k (by omega)];exact r),s.more λb g=>.inl (l b g),t⟩
structure MF(F:Nat->Prop)(n0 mk ms:Nat)(G:Gd)(A:Nat->Prop)(a b:cn):Prop where
 os:b.os=a.os
 tape:b.tape=a.tape
 output:b.output=a.output
 size:a.heap.size<=b.heap.size
 drawn:a.drawn<=b.drawn
 block:∀x o,¬F x->a.heap[x]? =some o->(x<n0\/RO o=false)->b.heap[x]? =some o
 m:(∀x,A x->x<a.heap.size)->kQ A mk ms G a->kQ A mk ms G b
section
variable{F:Nat->Prop}{n0 mk ms:Nat}{G:Gd}{A:Nat->Prop}{a b w0:cn}
def GO(F:cN)(n0 mk ms:Nat)(G:Gd)(A:cN):fJ (MF F n0 mk ms G A):=
 ⟨λw=>⟨rfl,rfl,rfl,cJ _,cJ _,λ_ _ _ h _=>h,λ_ h=>h⟩,λa b c h k=>⟨k.os.trans h.os,k.tape.trans h.tape,k.output.trans h.output,cZ h.size k.size,cZ h.drawn k.drawn,λx o d i f=>k.block x o d (h.block x o d i f) f,λg e=>k.m (λx d=>dE (g x d) h.size) (h.m g e)⟩,λw=>⟨rfl,rfl,rfl,cJ _,tH _,λ_ _ _ h _=>h,λ_ e=>e.ext (Ext.drew w)⟩⟩
def MR.mf(h:MR n0 mk ms G a b):MF F n0 mk ms G A a b:=⟨h.1.os,h.1.tape,h.1.output,h.1.size,h.1.drawn,λx o _ c d=>h.1.block x o c d,λe f=>h.2 A e f⟩
def MF.at_(h:MF F n0 mk ms G A a b){x:Nat}{c:Nat×Nat}(d:¬F x)(e:a.heap[x]? =some (.cells W T c)):b.heap[x]? =some (.cells W T c):=h.block x _ d e (.inr rfl)
def MF.cell(d:MF F n0 mk ms G A a b)(e:¬F h.block)(c:a.cell? h=some x):b.cell? h=some x:=by unfold World.cell? at c⊢;split at c;rename_i g t i f;rw[d.at_ e f];exact c;cases c
def MF.after(h:MF F n0 mk ms G A a b)(m:iV n0 w0 a)(e:∀x,F x->w0.heap.size<=x):iV n0 w0 b:=
 ⟨h.os.trans m.os,h.tape.trans m.tape,h.output.trans m.output,cZ m.size h.size,cZ m.drawn h.drawn,λx o c d=>h.block x o (λf=>by have:=e x f;have:=cP.lt_of_heap c;omega) (m.block x o c d) d⟩
def MF.MO(k:cW F a b)(c:∀x,F x->A x):MF F n0 mk ms G A a b:=⟨k.os,k.tape,k.output,k.size,k.drawn,λx o d e _=>k.fe e d,λ_ f=>f.keep k c⟩
end
def TO:∀s:Nat,s<32->(!(s.testBit 0||s.testBit 1||s.testBit 2||s.testBit 3||s.testBit 4))=decide (s=0):=by decide+kernel
end Go.Proofs.W
variable{D E:Bool}
namespace Go.Proofs.W
open Go.RowKit
def Jw.go2{o:Option (List cz)}(h:Jw A o x D w)(a:∀D,B D->A D\/w.heap.size<=D)(b:∀D o x,¬A D->w.cell? ⟨D,o,none⟩=some x->t.cell? ⟨D,o,none⟩=some x):Jw B o x D t:=h.go a b
def yM(a:s≠0):gH H s=((List.range (fl s).length).findSome? λm=>fL H (m+1) (fl s) []).map λb=>b.map (dX H):=by rw[gH,cy a]
def AK(s:Nat):(fl s).length<=5:=l5 s 5
theorem rr(g:H.doors.length<=5){most:Nat}:∀(doors c a:cz),(∀d∈doors,d<H.doors.length)->(∀s∈c,nP H s)->fL H most doors c=some a->(∀s∈a,nP H s)/\a.length<=c.length+doors.length
 |[],c,a,_,e,h=>by simp only[fL,fO]at h;subst h;exact⟨e,by simp⟩
 |d::r,c,a,n,e,h=>by
  have f:=n d iP;have p:∀x∈r,x<H.doors.kq:=λx k=>n x (iw _ k);simp only[fL]at h;split at h;rename_i o q;obtain rfl:=cO h;obtain⟨i,j,l⟩:=KP q;split at l;have j:i<c.kq:=by simpa using j
  have m:nP H (c.getD i 0):=by rw[getD_eq j];exact e _ (ef j)
  have:=rr g r _ _ p (λs b=>by rcases tG b with b|rfl;exact e s b;exact m.qi f g) l;simp only[xp,eI]at this⊢;exact⟨this.1,by omega⟩;cases l;split at h;have:=rr g r _ _ p (λs b=>by rcases jH.1 b with b|b;exact e s b;rw[iJ.1 b];exact nP.io g λx k=>by rw[iJ.1 k];exact f) h;simp only[jA,eI,fB]at this⊢;exact⟨this.1,by omega⟩;cases h
def yN{gp mk ms n0 s:Nat}(h:oK gp mk ms H w)(hA:∀b,A b->b<w.heap.size)(hp:kQ A mk ms H w)(aU:n0<=mk)(hn:n0<=ms)(hs:nP H s):
 Calls V.prog 130 #[cM gp,.int .u8 s] w (fi λv B=>MA n0 mk ms H A w B/\∃u b,v=.tuple #[u,.bool b]/\Jw A (gH H s) u b B):=by
 have h5:=h.uh.many;refine gd Tryz.func130 Tryz.ntmps130 ?_;refine MN ?_;refine cD (Jp s w hs.1) ?_;rintro v w1 ⟨rfl,e1⟩;refine eD λw2 Q e2 bo aB=>dq aB λw3 k3 C=>?_;have C:w3.heap[Q]? =some (.cells (pK s).toArray 217):=C.trans (cT (λa=>some (Obj.cells a 217)) (dC (pm 217).toArray (pK s) rfl));have E3:Ext w w3:=(e1.trans e2).cC k3 (by have:=e1.size;omega);have ar:∀{B},B.heap[Q]? =some (.cells (pK s).toArray 217)->∀{k:cq->cn->Prop},k (oD s) B->jj V.prog (Instr.loadAt 217 (.pointer (some ⟨Q,0,none⟩))) B k:=λd k hk=>dJ (vs:=pK s) (λj v hj=>by rw[cG];exact cr d (by simpa using hj)) hk;refine ar C (dS (.agg #[.bool false,.bool false,.bool false,.bool false,.bool false]) ?_);refine⟨_,w3,XJ _ _ _ _ _ _ _ w3,?_⟩;rw[TO s hs.1];refine⟨λh0=>?_,λh0=>?_⟩;have h0:s=0:=dO h0;subst h0;exact⟨_,rfl,E3.ma _ _ _ _ _,_,_,rfl,rfl,none,0,rfl,λk hk=>by simp at hk,cJ _⟩;have h0:s≠0:=ee h0;have h3:=h.ext E3;have aV:=hp.ext E3;obtain⟨aW,am,an⟩:=Ie MJ MH (z:=.agg #[.slice none 0 0,.bool false]) (by intro w;kernel_rfl) aV.k hs.1;have aX:∃u b ok,aW=.tuple #[.agg #[u,.bool b],.bool ok]/\u.oneCell'=true/\((ok=true/\Jw A (gH H s) u b w3)\/ok=false):=by
  rcases am with⟨v,rfl,u,b,rfl,hw⟩|rfl;refine⟨u,b,true,rfl,?_,.inl ⟨rfl,hw⟩⟩;cases aC:gH H s with
  |none=>rw[aC]at hw;rw[hw.1];rfl
  |some ls=>rw[aC]at hw;obtain⟨_,a,c,rfl,_⟩:=hw;rfl
  exact⟨_,_,false,rfl,rfl,.inr rfl⟩
 obtain⟨u,b,ok,rfl,aY,aD⟩:=aX;have aZ:ri [u,.bool b]=true:=by simp only[ri,aY];rfl
 have bp:Q<w3.heap.size:=cP.lt_of_heap C;refine hH 10 cV (iF (λx=>w3.heap.size<=x)) (λa b h=>h.keep _) ?_;have ah:∀{U},cW (λx=>w3.heap.size<=x) w3 U->Ext w3 U:=λe=>e.ext λb d f=>by omega
 refine .exact (.map (some mk)) (λU e4=>cu ((ah e4).cell h3.Wp) ⟨rfl,Ext.refl _⟩) (.exact (oD s) (λU e4=>ar ((ah e4).at_ C) ⟨rfl,Ext.refl _⟩) (.exact _ (λU e4=>⟨_,_,an U λo ho=>(ah e4).at_ ho,rfl,Ext.refl _⟩) ?_));refine .Je (λv U=>∃r,v=.pointer (some ⟨r,0,none⟩)/\w3.heap.size<=r/\U.heap[r]? =some (.cells (pm 220).toArray 220)) (λv a b ⟨r,h1,h2,h3⟩ e=>⟨r,h1,h2,e.at_ h3⟩) (λU e4=>eD λw5 r e5 ai d=>⟨⟨r,rfl,cZ e4.size ai,d⟩,e5⟩) ?_;refine .vT (λvs U=>∃r,vs=[.pointer (some ⟨r,0,none⟩)]/\w3.heap.size<=r/\U.heap[r]? =some (.cells #[u,.bool b] 220)) (λvs a b ⟨r,h1,h2,h3⟩ e=>⟨r,h1,h2,e.at_ h3⟩) (λU e4 v7 h7=>?_) ?_;obtain⟨r,rfl,g1,g2⟩:=h7;exact iT g2 (qb rfl) (λw5 k5 a0=>⟨⟨r,rfl,g1,a0⟩,k5.trans (cW.refl (λ_=>False) w5) (λx _ f=>by subst f;exact g1) λ_ _ h=>h.elim⟩) (fK aZ);intro U e4 v7 _ hJ;obtain⟨bq,aE,g1,g2⟩:=hJ;simp only[pZ,and_true]at aE;subst aE;have W:=ah e4;refine⟨λhk=>?_,λhk=>?_⟩;refine cX cV (cK (cr g2 rfl) (cK (cr g2 rfl) λw5 e5=>?_));have hw:=aD.elim (λh=>h.2) λh=>by rw[hk]at h;cases h
 exact⟨_,rfl,((E3.trans W).trans e5).ma _ _ _ _ _,u,b,rfl,hw.go2 (λ_ h=>.inl h) λb o v d F=>(W.trans e5).cell F⟩;clear aD am an;refine eD λw5 p e5 br R=>?_;have R:w5.heap[p]? =some (.cells #[.slice none 0 0,.bool false] 220):=R;have E5:Ext w w5:=(E3.trans W).trans e5;have bs:=cP.lt_of_heap R;have s3:=E3.size;have bt:=W.size;have ao:=(W.trans e5).at_ C;have a1:kQ (λx=>A x\/x=p) mk ms H w5:=((hp.ext (E3.trans W)).more (A':=λx=>A x\/x=p) λx f=>f.imp id λe=>by omega).ext e5;refine cD (uk s w5 hs.1) ?_;rintro lv w6 ⟨e6,a2⟩;obtain⟨la,lc,rfl,a3,bu⟩:=a2.row;have bv:=AK s;refine cS ?_;refine RV [(0,cM gp),(6,cM Q),(9,cM p)] (λB=>MA n0 mk ms H A w B/\B.heap[Q]? =some (.cells (pK s).toArray 217)/\∃u b,B.heap[p]? =some (.cells #[u,.bool b] 220)/\Jw A (gH H s) u b B) ?_ ?_;refine eE (n:=(fl s).length) (λk=>[(0,cM gp),(1,.int .u8 s),(6,cM Q),(9,cM p),(36,i64 (fl s).length),(37,i64 k)]) (λk B=>iV n0 w B/\kQ (λx=>A x\/x=p) mk ms H B/\B.heap[Q]? =some (.cells (pK s).toArray 217)/\B.heap[p]? =some (.cells #[.slice none 0 0,.bool false] 220)/\∀i,i<k->fL H (i+1) (fl s) []=none) ⟨by trivial,(E5.trans e6).gG n0,a1.ext e6,e6.at_ ao,e6.at_ R,λi hi=>by omega⟩ ?_ ?_ ?_;rintro k B hk hJ;exact du ⟨rfl,rfl,by trivial,hJ⟩;rintro k w7 hk ⟨m7,aa,D,t,I⟩;refine cD (uk s w7 hs.1) ?_;rintro bw w8 ⟨K,a4⟩;obtain⟨da,dc,rfl,au,a5⟩:=a4.row;have m8:=m7.trans (K.gG n0);have L:=aa.ext K;refine cF ?_;have av:∀b,(A b\/b=p)->b<w8.heap.size:=λb d=>d.elim (λd=>by have:=hA b d;have:=m8.size;omega) λe=>e▸cP.lt_of_heap (K.at_ t);have aF:=vo (most:=k+1) (h.gG m8) hn (fl s) [] (λx=>A x\/x=p) da dc (.slice none 0 0) w8 (iV.refl _ _) av L au a5 hs.2 (.inl ⟨rfl,rfl⟩) (λx f=>by cases f) (by simp;omega);rw[show((k+1:Nat):Int)=(k:Int)+1 by omega]at aF;refine cD aF ?_;rintro v w9 ⟨S,X⟩;cases ho:fL H (k+1) (fl s) []with
 |none=>
  rw[ho]at X;have X:v=.tuple #[.slice none 0 0,.bool false]:=X;subst X;refine ei (jZ rfl (cF ⟨by trivial,m8.trans S.1,S.2 L,S.1.at_ (K.at_ D),S.1.at_ (K.at_ t),λi hi=>?_⟩));rcases fj i k with aj|aG;exact I i aj;obtain rfl:i=k:=by omega
  exact ho
 |some E=>
  rw[ho]at X;obtain⟨ga,gc,rfl,a6⟩:=X;refine ei (lx rfl (cS ?_));obtain⟨aH,aI⟩:=rr h5 (fl s) [] E hs.2 (λx f=>by cases f) ho;have aI:E.length<=5:=by simp at aI;omega
  have s5:=e6.size;have s8:=m8.size;have s9:=S.1.size;have bm:p<w8.heap.size:=cP.lt_of_heap (K.at_ t);have bn:Q<w8.heap.size:=cP.lt_of_heap (K.at_ D);have aJ:Q≠p:=by have:=cP.lt_of_heap ao;have:=cP.lt_of_heap C;omega
  have aw:∀b,¬cH (.slice none 0 0) b:=λb d=>by obtain⟨_,_,d⟩:=d;cases d
  refine gT (n:=E.length) (λj v=>[(0,cM gp),(6,cM Q),(9,cM p),(51,.slice ga E.length gc),(52,i64 E.length),(53,i64 j)]) (λj v B=>iV n0 w B/\w9.heap.size<=B.heap.size/\kQ (λx=>(A x\/x=p)\/cH v x) mk ms H B/\B.heap[Q]? =some (.cells (pK s).toArray 217)/\B.heap[p]? =some (.cells #[v,.bool false] 220)/\yL (λx=>(A x\/x=p)\/cH v x) w9.heap.size B v ((E.take j).map (dX H))/\∀k (h:k<E.length),∃b o,(w8.heap.size<=b/\b<w9.heap.size)/\ga=some ⟨b,o,none⟩/\B.cell? ⟨b,o+k,none⟩=some (.int .u8 E[k])) (.slice none 0 0) ⟨by trivial,m8.trans S.1,cJ _,(S.2 L).more λb d=>d.elim .inl λd=>absurd d (aw b),S.1.at_ (K.at_ D),S.1.at_ (K.at_ t),⟨[],cR.nil _ _ _ _,rfl,λk hk=>by simp at hk⟩,λi hi=>?_⟩ ?_ ?_ ?_;obtain⟨b,o,x0,x1,x2⟩:=a6 i hi;exact⟨b,o,⟨x0,rq x2⟩,x1,x2⟩;rintro j v M hj hJ;exact du ⟨rfl,rfl,by trivial,hJ⟩;rintro j v M hj ⟨ax,a7,N,P,J,G,ab⟩;obtain⟨gb,bx,bz,aK,a8⟩:=ab j hj;have f:=aH _ (ef hj);have y:∀b,cH v b->w9.heap.size<=b/\b<M.heap.size:=λb d=>by obtain⟨us,Y,_⟩:=G;exact Y.blk d
  have T:∀b,((A b\/b=p)\/cH v b)->b<M.heap.size:=λb d=>d.elim (λd=>by have:=av b d;omega) λd=>(y b d).2;subst aK;refine fw j hj (cu a8 ?_);refine hH 6 (Vh n0 mk ms H) (GO (cH v) n0 mk ms H (λx=>(A x\/x=p)\/cH v x)) (λa b h=>h.mf) ?_;have aL:¬cH v p:=λd=>by have:=(y p d).1;omega
  have a9:¬cH v Q:=λd=>by have:=(y Q d).1;omega
  have aM:∀{g},MF (cH v) n0 mk ms H (λx=>(A x\/x=p)\/cH v x) M g->iV n0 w g:=λe=>e.after ax λx f=>by have:=(y x f).1;omega
  refine .exact v (λg q=>cu (cr (q.at_ aL J) rfl) ⟨rfl,MR.refl _⟩) ?_;refine .rel (λu g=>ShR (λx=>(A x\/x=p)\/cH v x) H E[j] u g) (λu a b hu e=>hu.go (λ_ h=>.inl h) λb o x d F=>e.cell (λhf=>d (.inr hf)) F) (λg q=>?_) ?_;have ac:∀b,((A b\/b=p)\/cH v b)->b<g.heap.size:=λb d=>dE (T b d) q.size;exact cD (vX (h.gG (aM q)) ac (q.m T N) hn f.1 f.2) λu ad ⟨ba,bb⟩=>⟨bb _ ac (q.m T N),ba⟩;refine .rel (λx g=>∃r u,x=.slice (some ⟨r,0,none⟩) 1 1/\M.heap.size<=r/\g.heap[r]? =some (.cells [u].toArray 27)/\ShR (λx=>(A x\/x=p)\/cH v x) H E[j] u g) (λx a b ⟨r,u,h1,h2,h3,h4⟩ e=>⟨r,u,h1,h2,e.at_ (λhf=>by have:=(y r hf).2;omega) h3,h4.go (λ_ h=>.inl h) λb o x d F=>e.cell (λhf=>d (.inr hf)) F⟩) (λg q u hu=>?_) ?_;obtain⟨a,c,rfl,Y,F⟩:=hu;refine eg [.slice a (dX H E[j]).length c] 27 (λad r aN ai d=>⟨⟨r,_,rfl,cZ q.size ai,d,a,c,rfl,Y.c λb o x _ f=>aN.cell f,F⟩,aN.mr⟩) ?_;intro w;kernel_rfl;refine .spec (λv' g=>(∀x,((A x\/x=p)\/cH v' x)->x<g.heap.size)/\kQ (λx=>(A x\/x=p)\/cH v' x) mk ms H g/\yL (λx=>(A x\/x=p)\/cH v' x) w9.heap.size g v' ((E.take j).map (dX H)++[dX H E[j]])) (λv' a b ⟨h1,h2,h3⟩ e=>⟨λx f=>dE (h1 x f) e.1.size,e.2 _ h1 h2,h3.gG e.1⟩) (λg q aO bc bd bA=>?_) ?_;obtain⟨r,u,rfl,ai,aP,ua,uc,rfl,be,bf⟩:∃r u,aO=.slice (some ⟨r,0,none⟩) 1 1/\M.heap.size<=r/\g.heap[r]? =some (.cells [u].toArray 27)/\ShR (λx=>(A x\/x=p)\/cH v x) H E[j] u g:=bc;obtain⟨us,Y,aQ,bg⟩:=G.gG q.1;have bB:((E.take j).map (dX H)).length<=5:=by simp;omega
  have ae:=q.2 _ T N;refine gq Pi Y (by have:=q.1.size;omega) aP (by omega) (λv' ad g1 g2 g3=>⟨⟨λx f=>?_,?_,us++[.slice ua (dX H E[j]).length uc],by simpa using g1,by simp[aQ],λi hi=>?_⟩,MF.MO g2 λx f=>.inr f⟩) rfl (by simp[ri,Value.oneCell']);rcases f with f|f;have:=av x f;have:=q.1.size;have:=g2.size;omega;exact(g1.blk f).2;exact((ae.more (A':=λx=>((A x\/x=p)\/cH v x)\/cH v' x) λx f=>f.elim .inl λf=>(g3 x f).elim (λh=>.inl (.inr h)) .inr).keep g2 λx f=>.inl (.inr f)).fewer λx f=>f.elim (λh=>.inl (.inl h)) .inr;have up:∀{a:Option Addr} {l:List Nat},gO (λx=>(A x\/x=p)\/cH v x) g a l->gO (λx=>(A x\/x=p)\/cH v' x) ad a l:=λhn=>by have h1:gO (λx=>((A x\/x=p)\/cH v x)\/cH v' x) ad _ _:=(hn.more (A':=λx=>((A x\/x=p)\/cH v x)\/cH v' x) λx f=>f.elim .inl λf=>(g3 x f).elim (λh=>.inl (.inr h)) .inr).c λb o x d F=>g2.eP F λhf=>d (.inl (.inr hf));exact h1.more λx f=>.inl (f.elim (λh=>.inl (.inl h)) .inr)
  rcases fj i ((E.take j).map (dX H)).length with aj|aG;obtain⟨a,c,x1,x2,x3⟩:=bg i aj;rw[nU aj];exact⟨a,c,by rw[nT (by omega)];exact x1,up x2,x3⟩;obtain rfl:i=((E.take j).map (dX H)).length:=by simp at hi aG⊢;omega
  refine⟨ua,uc,by rw[oM (by omega)];simp[aQ],?_,?_⟩;simp only[vA (cJ _),mZ,oN];exact up be;simp only[vA (cJ _),mZ,oN];exact bf;intro g q af bh aO _ bd _;obtain⟨ac,ae,O⟩:(∀x,((A x\/x=p)\/cH af x)->x<g.heap.size)/\kQ (λx=>(A x\/x=p)\/cH af x) mk ms H g/\yL (λx=>(A x\/x=p)\/cH af x) w9.heap.size g af ((E.take j).map (dX H)++[dX H E[j]]):=bh;have aR:∃a l c,af=.slice a l c:=by obtain⟨us,Y,_⟩:=O;obtain⟨a,c,rfl,_⟩:=Y.len;exact⟨a,_,c,rfl⟩
  obtain⟨va,vl,vc,rfl⟩:=aR;have ay:∀b,cH (.slice va vl vc) b->w9.heap.size<=b:=λb d=>by obtain⟨us,Y,_⟩:=O;exact(Y.blk d).1
  refine iT (q.at_ aL J) (qb rfl) (λad Z aS=>cF ⟨.slice va vl vc,by trivial,(aM q).cC Z (by omega),by have:=q.size;have:=Z.size;omega,ae.keep Z (λx f=>.inl (.inr f)),Z.fe (q.at_ a9 P) aJ,aS,?_,λi hi=>?_⟩) (fK rfl);have ht:(E.take (j+1)).map (dX H)=(E.take j).map (dX H)++[dX H E[j]]:=by rw[jc hj,vB];rfl
  rw[ht];exact O.keep Z (λx f=>.inl (.inr f)) λx f az=>by have:=ay x f;have:x=p:=az;omega
  obtain⟨b,o,x0,x1,x2⟩:=ab i hi;exact⟨b,o,x0,x1,Z.eP (q.cell (λhf=>by have:=(y b hf).1;omega) x2) (by show¬b=p;omega)⟩;rintro v M ⟨ax,a7,N,P,J,G,ab⟩;rw[mW]at G;refine iT J (qb rfl) (λg al ag=>?_) (fK rfl);have ag:g.heap[p]? =some (.cells #[v,.bool true] 220):=ag;have y:∀b,cH v b->w9.heap.size<=b:=λb d=>by obtain⟨us,Y,_⟩:=G;exact(Y.blk d).1
  have O:=G.keep al (λx f=>.inl (.inr f)) λx f az=>by have:=y x f;have:x=p:=az;omega
  obtain⟨a,c,hv,hl,F⟩:=O.out (A':=A) (λb d=>.inl (.inl d)) λb d=>by have:=hA b d;omega
  refine⟨by trivial,⟨ax.cC al (by omega),λ_=>(N.keep al λx f=>.inl (.inr f)).fewer λb d=>.inl (.inl d)⟩,al.fe P aJ,v,true,ag,?_⟩;rw[yM h0,vY hk I ho];exact⟨rfl,a,c,hv,hl,F⟩
 rintro w7 ⟨m7,aa,D,t,I⟩;refine⟨by trivial,⟨m7,λ_=>aa.fewer λb d=>.inl d⟩,D,_,_,t,?_⟩;rw[yM h0,sG I];exact⟨rfl,rfl⟩;rintro l w7 aT ⟨m7,D,u7,b7,t,bi⟩;have h7:=h.gG m7.1;have aa:=m7.2 hp;refine dM.jN aT (cX cV (cK h7.Wp (dx (oD s) (λw8 K=>ar (K.at_ D) ⟨rfl,Ext.refl _⟩) (dx (.agg #[u7,.bool b7]) (λw8 K=>dJ (vs:=[u7,.bool b7]) (λj v hj=>by rw[cG];exact cr (K.at_ t) (by simpa using hj)) ⟨rfl,Ext.refl _⟩) λw8 K=>?_))));have ap:Jw A (gH H s) u7 b7 w8:=bi.go2 (λ_ h=>.inl h) λb o v d F=>K.cell F;have L:=aa.ext K;refine uq MJ MH L.k hs.1 aU (λw9 m=>⟨λs u hu=>hu.go (λ_ h=>.inl h) λb o v d F=>m.cell F,u7,b7,rfl,ap.go2 (λ_ h=>.inl h) λb o v d F=>m.cell F⟩) λw9 S bj bk=>?_;have bl:kQ A mk ms H w9:=⟨L.s.go (λs v Y=>Y.go (λ_ h=>.inl h) λb o v d F=>S.cell F) λo ho=>by rw[bj ms (gh h.ne)];exact ho,bk,L.ak,L.asm⟩;have aq:=S.at_ (K.at_ t);refine cX cV (cK (cr aq rfl) (cK (cr aq rfl) λM aA=>?_));exact⟨_,rfl,⟨m7.1.trans ((K.gG n0).trans (S.trans (aA.gG n0))),λ_=>bl.ext aA⟩,u7,b7,rfl,ap.go2 (λ_ h=>.inl h) λb o v d F=>aA.cell (S.cell F)⟩
structure Tq where
 door:Int
 shift:Int
 opened:Bool
def nQ(t:Tq):dr:=[.int .i64 t.door,.int .i64 t.shift,.bool t.opened]
def ja(w:cn)(a:ek)(l:List Tq):Prop:=∀k (h:k<l.length),∃b o,a=some ⟨b,o,none⟩/\∀j v,(nQ l[k])[j]? =some v->w.cell? ⟨b,o+k*3+j,none⟩=some v
def ja.ext{l:List Tq}(h:ja w a l)(e:Ext w t):ja t a l:=λk c=>by obtain⟨b,o,d,f⟩:=h k c;exact⟨b,o,d,λj v g=>e.cell (f j v g)⟩
def lM:Sx:=⟨0,0,0,false,false,false,false,false⟩
def nH(G:Gd):List Sx->Int->List Tq->Int×List Sx
 |b,_,[]=>(0,b)
 |b,a,t::r=>
  if kP t.door 0 ((G.doors.length:Int)-1)&&kP t.shift 0 (2*G.days-1)then
   if t.shift<a then(5,[])
   else if nO (b.getD t.door.toNat lM) (t.shift.toNat/2)then(4,[])
   else if eZ G.tries (b.getD t.door.toNat lM)then(12,[])
   else nH G (b.set t.door.toNat (gm (b.getD t.door.toNat lM) t.shift.toNat t.opened)) t.shift r
  else(3,[])
def fQ(G:Gd)(l:List Tq):Int×List Sx:=nH G (List.replicate G.doors.length lM) 0 l
def tD(k:Nat)(x:Sx):Prop:=(0<=x.tries/\x.tries<=k)/\(0<=x.mornings/\x.mornings<=k)/\0<=x.evenings/\x.evenings<=k
def tD.QU{x:Sx}(h:tD k x)(s:Nat)(o:Bool):tD (k+1) (gm x s o):=by obtain⟨a,b,c⟩:=h;unfold gm tD;refine⟨by constructor<;>simp only<;>omega,?_,?_⟩;constructor<;>simp only<;>split<;>omega;simp only;split<;>omega
def tD.up{x:Sx}(h:tD k x):tD (k+1) x:=by obtain⟨a,b,c⟩:=h;refine⟨⟨a.1,by omega⟩,⟨b.1,by omega⟩,c.1,by omega⟩
def MP(f:w.heap[m]? =some (.cells (madeCells (pm 166).toArray (k*8)) 166)):nF m (List.replicate k lM) w:=by
 refine⟨_,f,by simp[madeCells],λa g j v b=>?_⟩;have c:j<8:=(iI.1 b).1;have h:a<k:=by simpa using g
 have d:a*8+j<k*8:=by have:=qy 8 (show a+1<=k by omega);omega
 have i:(pm 166).toArray.size=8:=rfl;have l:(a*8+j)%8=j:=by omega
 have e:(madeCells (pm 166).toArray (k*8))[a*8+j]? =(pm 166)[j]? :=by
  unfold madeCells;rw[qw,iY (by simpa using d)];simp only[Array.getElem_range,jJ,i,l];match j,c with
  |0,_=>rfl
  |1,_=>rfl
  |2,_=>rfl
  |3,_=>rfl
  |4,_=>rfl
  |5,_=>rfl
  |6,_=>rfl
  |7,_=>rfl
 rw[e];simp only[List.getElem_replicate]at b;exact b
def TP(G:Gd)(l:List Tq)(b:Nat)(v:cq)(w:cn):Prop:=
 ((fQ G l).1≠0/\v=.tuple #[.slice none 0 0,.int .i64 (fQ G l).1])\/
 ((fQ G l).1=0/\(fQ G l).2.length=G.doors.length/\(∀x∈(fQ G l).2,tD l.length x)/\∃a,b<=a/\v=.tuple #[.slice (some ⟨a,0,none⟩) G.doors.length G.doors.length,.int .i64 0]/\nF a (fQ G l).2 w)
def JA(G:Gd)(a:List Sx)(b:Int)(l:List Tq)(k:Nat)(c:k<l.length):nH G a b (l.drop k)=(if kP l[k].door 0 ((G.doors.length:Int)-1)&&kP l[k].shift 0 (2*G.days-1)then
 if l[k].shift<b then(5,[])
 else if nO (a.getD l[k].door.toNat lM) (l[k].shift.toNat/2)then(4,[])
 else if eZ G.tries (a.getD l[k].door.toNat lM)then(12,[])
 else nH G (a.set l[k].door.toNat (gm (a.getD l[k].door.toNat lM) l[k].shift.toNat l[k].opened)) l[k].shift (l.drop (k+1))
 else(3,[])):=by
 rw[sn c];rfl
def RX{gp mk ms:Nat}(h:oK gp mk ms H w){l:List Tq}{lc:Nat}(hr:ja w a l)(aw:l.length<=100000):
 Calls V.prog 137 #[cM gp,.slice a l.length lc] w (fi λv m=>Ext w m/\TP H l w.heap.size v m):=by
 have Q:=h.uh;have af:=Q.days;have h5:=Q.many;obtain⟨da,dc,h6,ax⟩:=h.c6;refine gd Tryz.func137 Tryz.ntmps137 ?_;refine cu h6 (cS (GK Mt (cJ _) (by omega) λw1 y e1 R S=>?_));have ag:=MP S
 refine cS (gT (n:=l.length) (λk (G:List Sx×Int)=>[(0,cM gp),(6,.slice (some ⟨y,0,none⟩) H.doors.length H.doors.length),(7,i64 G.2),(17,.slice a l.length lc),(18,i64 l.length),(19,i64 k)])
  (λk G m=>Ext w m/\nF y G.1 m/\G.1.length=H.doors.length/\(∀x∈G.1,tD k x)/\fQ H l=nH H G.1 G.2 (l.drop k)) (List.replicate H.doors.length lM,0) ⟨by trivial,e1,ag,by simp,λx T=>?_,rfl⟩ ?_ ?_ ?_)
 rw[List.eq_of_mem_replicate T];simp[tD,lM];rintro k G m hk U;exact du ⟨rfl,rfl,by trivial,U⟩;rintro k ⟨g,bf⟩ w2 hk ⟨e2,p,F,A,f⟩;simp only at p F A f⊢;obtain⟨b,o,rfl,hc⟩:=(hr.ext e2) k hk;rw[JA H g bf l k hk]at f;refine eN k 3 hk (dJ (vs:=nQ l[k]) hc (eD λw3 tb e3 ah W=>dq W λw4 k4 q=>?_));have q:w4.heap[tb]? =some (.cells (nQ l[k]).toArray 84):=q;have ay:y<w2.heap.size:=by obtain⟨_,X,_⟩:=p.out;exact cP.lt_of_heap X
 have e4:Ext w2 w4:=e3.cC k4 ah;have E4:=e2.trans e4;have Y:=p.ext e4;have h4:=h.ext E4;have ne:¬(tb=y):=by omega
 obtain⟨az,aA,ai,_⟩:=h4.c6;have B:∀(m:cn) (c:Int),Ext w4 m->fQ H l=(c,[])->c≠0->∃v,Ending.returned (one [.slice none 0 0,i64 c])=.returned v/\Ext w m/\TP H l w.heap.size v m:=λm c e hc h0=>⟨_,rfl,E4.trans e,.inl ⟨by rw[hc];exact h0,by rw[hc];rfl⟩⟩;refine cX cV (cK (cr q rfl) (cK ai (Ur _ (λw e=>cS ⟨rfl,Ext.refl _⟩) (ti (iC cV _ (λw e=>eY _ _ _ w) (kF λw5 Z=>⟨λI=>jZ I ?_,λI=>?_⟩))))));exact B w5 3 Z (by rw[f,cy];simp at I;simp[I]) (by omega);have I:kP l[k].door 0 ((H.doors.length:Int)-1)=true:=by simpa using I
 refine cX cV (cK (cr (Z.at_ q) rfl) (iC cV _ (λw e=>last_at (h4.ext (Z.trans e))) (iC cV _ (λw e=>eY _ _ _ w) (kF λw6 e6=>⟨λt=>?_,λt=>?_⟩))));exact B w6 3 (Z.trans e6) (by rw[f,cy];simp at t;simp[t]) (by omega);have t:kP l[k].shift 0 (2*H.days-1)=true:=by simpa using t
 rw[cB (by rw[I,t];rfl)]at f;simp only[kP,dW,iQ]at I t;obtain⟨d,hd⟩:∃d:Nat,l[k].door=(d:Int):=⟨l[k].door.toNat,by omega⟩;obtain⟨s,hs⟩:∃s:Nat,l[k].shift=(s:Int):=⟨l[k].shift.toNat,by omega⟩;have C:d<g.length:=by omega
 have aj:s<6:=by omega
 have D:=Z.trans e6;have z:w6.heap[tb]? =some (.cells #[i64 d,i64 s,.bool l[k].opened] 84):=by rw[D.at_ q,nQ,hd,hs]
 have J:=Y.ext D;have ak:g.getD d lM=g[d]:=getD_eq C;rw[hd,hs]at f;simp only[mT,ak]at f;refine cu (cr z rfl) (du ⟨λal=>?_,λam=>?_⟩);exact B w6 5 D (by rw[f,cB (dO al)]) (by omega);rw[cy (ee am)]at f
 have aa:∀{m},nF y g m->m.cell? ⟨y,0+d*8+4+s/2,none⟩=some (.bool (nO g[d] (s/2))):=λhS=>by
  obtain⟨cs,X,y2,y3⟩:=hS.out;refine cr X ?_;have an:s/2=0\/s/2=1\/s/2=2:=by omega
  rw[show 0+d*8+4+s/2=d*8+(4+s/2) by omega];refine y3 d C (4+s/2) _ ?_;rcases an with e|e|e<;>rw[e]<;>rfl
 refine cX cV (cK (cr z rfl) (cK (cr z rfl) (dx (i64 ((s/2:Nat):Int)) (λw1 _=>kG (n:=2) (by omega) (by omega) ⟨rfl,Ext.refl _⟩) (gE d 8 (by omega) (dx (.pointer (some ⟨y,0+d*8+4+s/2,none⟩)) (λw1 _=>xg 3 (by omega) ⟨rfl,Ext.refl _⟩) (cK (aa J) λw7 e7=>⟨λN=>?_,λN=>?_⟩))))));exact B w7 4 (D.trans e7) (by rw[f,cB N]) (by omega);rw[cy (by rw[N];simp)]at f;have O:=D.trans e7;have K:=J.ext e7;have L:=e7.at_ z;have ab:∀{m},nF y g m->∀j v,(ly g[d])[j]? =some v->m.cell? ⟨y,0+d*8+j,none⟩=some v:=λhS j v hj=>by obtain⟨cs,X,y2,y3⟩:=hS.out;exact cr X (by rw[cG];exact y3 d C j v hj)
 refine cu (cr L rfl) (eN d 8 (by omega) (dJ (vs:=ly g[d]) (ab K) (dG (um (h4.ext O) g[d]) λw8 e8=>⟨λP=>?_,λP=>?_⟩)));exact B w8 12 (O.trans e8) (by rw[f,cB P]) (by omega);rw[cy (by rw[P];simp)]at f;have ao:=O.trans e8;have M:=K.ext e8;have ac:=e8.at_ L;have ad:=A _ (ef C);have ap:(0<=g[d].tries/\g[d].tries<=1000000)/\(0<=g[d].mornings/\g[d].mornings<=1000000)/\0<=g[d].evenings/\g[d].evenings<=1000000:=by obtain⟨z1,z2,z3⟩:=ad;omega
 refine hH 16 cV (iF (λx=>x=y)) (λaB b h=>h.keep _) ?_;have E:∀{r},cW (λx=>x=y) w8 r->r.heap[tb]? =some (.cells #[i64 d,i64 s,.bool l[k].opened] 84):=λe=>e.fe ac ne;refine .exact (i64 d) (λr i=>cu (cr (E i) rfl) ⟨rfl,Ext.refl _⟩) (.exact (i64 d) (λr i=>cu (cr (E i) rfl) ⟨rfl,Ext.refl _⟩) ?_);refine .exact _ (λr i=>eN d 8 (by omega) ⟨rfl,Ext.refl _⟩) (.BD rfl (.agg (ly g[d]).toArray) (λr i=>dJ (vs:=ly g[d]) (ab (M.ext i)) ⟨rfl,Ext.refl _⟩) ?_);refine .exact (i64 s) (λr i=>cu (cr (E i) rfl) ⟨rfl,Ext.refl _⟩) (.exact (.bool l[k].opened) (λr i=>cu (cr (E i) rfl) ⟨rfl,Ext.refl _⟩) ?_);refine .exact (.agg (ly (gm g[d] s l[k].opened)).toArray) (λr i=>dG (AH g[d] s l[k].opened r aj ap) λaq ar=>⟨rfl,ar⟩) ?_;refine .exact (i64 s) (λr i=>cu (cr (E i) rfl) ⟨rfl,Ext.refl _⟩) (.exact _ (λr i=>eN d 8 (by omega) ⟨rfl,Ext.refl _⟩) ?_);refine .vT (λ_ r=>nF y (g.set d (gm g[d] s l[k].opened)) r) (λ_ aB b hS e=>hS.ext e) (λr i=>?_) ?_;refine ME (M.ext i) d 0 C (by omega) (gm g[d] s l[k].opened) (qb rfl) (λj u hj=>?_) (λaq au ae=>⟨ae,au⟩);have av:j<8:=(iI.1 hj).1;rw[cB ⟨fV _,av⟩];exact hj;intro r i U;have U:nF y (g.set d (gm g[d] s l[k].opened)) r:=U;refine cF ⟨(g.set d (gm g[d] s l[k].opened),(s:Int)),by trivial,?_,U,by simpa using F,λx T=>?_,f⟩;exact(E4.trans ao).cC i R;rcases tG T with T|rfl;exact(A x T).up;exact ad.QU s _;rintro⟨g,bf⟩ w2 ⟨e2,p,F,A,f⟩;have f:fQ H l=(0,g):=by rw[f];simp[nH]
 refine⟨_,rfl,e2,.inr ⟨by rw[f],by rw[f];exact F,by rw[f];exact A,y,?_,rfl,by rw[f];exact p⟩⟩;exact R
def jQ(G:Gd)(l:List Tq):Int:=if dK G=0 then(fQ G l).1 else dK G
def dZ(l:List Tq):Int:=match l.getLast? with
 |some t=>t.shift
 |none=>0
theorem Io:∀{l:List Tq} {c:List Sx} {b:Int},(nH H c b l).1=0->∀t∈l,(0<=t.door/\t.door<H.doors.length)/\0<=t.shift/\t.shift<=2*H.days-1
 |t::r,c,b,h,x,a=>by simp only[nH]at h;split at h;rename_i d;simp only[kP,dW,iQ]at d;split at h;simp at h;split at h;simp at h;split at h;simp at h;rcases eO.1 a with rfl|a;omega;exact Io h x a;simp at h
def JB(a:H.Ok){l:List Tq}(h:(fQ H l).1=0):0<=dZ l/\dZ l<=5:=by unfold dZ;split;rename_i t b;have:=Io h t (List.mem_of_getLast? b);have:=a.days;omega;omega
structure ED(w:cn)(wp gp mk ms:Nat)(G:Gd)(xs:List Sx)(bf:Int)(w':cn):Prop where
 k:ll wp gp mk ms G xs bf w'
 g:wN w gp mk ms G w'
 lo:w.heap.size<=wp
theorem ED.ext{wp gp mk ms:Nat}{a:List Sx}(h:ED w wp gp mk ms H a I t)(b:Ext t e):ED w wp gp mk ms H a I e:=⟨h.k.ext b,h.g.ext b,h.lo⟩
theorem ED.low{wp gp mk ms:Nat}{a:List Sx}(h:ED w wp gp mk ms H a I e)(b:Ext t w):ED t wp gp mk ms H a I e:=⟨h.k,h.g.low b,cZ b.size h.lo⟩
def MQ(w:cn)(G:Gd)(l:List Tq)(v:cq)(b:cn):Prop:=
 (jQ G l≠0/\v=.tuple #[.pointer none,.int .i64 (jQ G l)])\/(jQ G l=0/\∃a c mk d,v=.tuple #[cM a,.int .i64 0]/\ED w a c mk d G (fQ G l).2 (dZ l) b/\∀x∈(fQ G l).2,tD l.length x)
def mP{dc:Nat}(W:fZ w a H.doors)(p:H.doors.length<=100000){l:List Tq}{P:Option Addr}(Q:ja w P l)(D:l.length<=100000):
 Calls V.prog 125 #[gV H a dc,.slice P l.length m] w (fi λv R=>Ext w R/\MQ w H l v R):=by
 refine gd Tryz.func125 Tryz.ntmps125 ?_;refine ej λw1 gb e X Y=>dA Y (cD (AI (dc:=dc) (W.ext e) p) ?_);rintro v Z ⟨q,⟨i,rfl⟩|⟨i,r,mk,S,rfl,C⟩⟩;exact fD (jZ (by simpa using i) ⟨_,rfl,e.trans q,.inl ⟨by rw[jQ,cy i];exact i,by rw[jQ,cy i];rfl⟩⟩);have f:jQ H l=(fQ H l).1:=by rw[jQ,cB i]
 refine fD (lx (by simp) (cD (RX C.g (Q.ext (e.trans q)) D) ?_));rintro v w3 ⟨s,⟨t,rfl⟩|⟨t,u,E,j,aa,rfl,T⟩⟩;exact fD (jZ (by simpa using t) ⟨_,rfl,(e.trans q).trans s,.inl ⟨by rw[f];exact t,by rw[f];rfl⟩⟩);have F:=(e.trans q).trans s;have s1:=e.size;have s2:=q.size;have s3:=s.size;refine fD (lx (by simp) (dS (.agg #[cM r,.slice (some ⟨j,0,none⟩) H.doors.length H.doors.length,i64 0]) (ej λU x k ab d=>?_)));have d:U.heap[x]? =some (.cells #[cM r,.slice (some ⟨j,0,none⟩) H.doors.length H.doors.length,i64 0] 141):=d;have G:=(C.ext (s.trans k)).low e;have y:=T.ext k;have I:=JB C.g.uh t;have ac:j<w3.heap.size:=by obtain⟨_,y1,_⟩:=T.out;exact cP.lt_of_heap y1
 have z:∀c,Ext w c->wN w r mk S H c->nF j (fQ H l).2 c->c.heap[x]? =some (.cells #[cM r,.slice (some ⟨j,0,none⟩) H.doors.length H.doors.length,i64 (dZ l)] 141)->∃v,Ending.returned (one [cM x,i64 0])=.returned v/\Ext w c/\MQ w H l v c:=λc J A K h=>
  ⟨_,rfl,J,.inr ⟨by rw[f];exact t,x,r,mk,S,rfl,⟨⟨A.g,u,I,_,H.doors.length,cr h rfl,by rw[u];exact cr h rfl,cr h rfl,K.row⟩,A,by omega⟩,E⟩⟩
 refine cS (lZ ⟨λn=>?_,λn=>?_⟩);have n:0<l.length:=by simpa using n
 have L:l.length-1<l.length:=by omega
 obtain⟨b,o,rfl,hc⟩:=(Q.ext (F.trans k)) (l.length-1) L;have M:dZ l=l[l.length-1].shift:=by unfold dZ;rw[List.getLast?_eq_getElem?,eV L]
 refine cS (fx (eN (l.length-1) 3 L (cu (hc 1 _ rfl) (dq d λc N O=>?_)) (by omega)));have B:¬(j=x):=by omega
 have J:Ext w c:=(F.trans k).cC N (by omega);have e5:Ext Z c:=(s.trans k).cC N (by omega);exact z c J ((C.ext e5).low e) (y.keep N B) (by rw[O,M];rfl);have n:l=[]:=oL (by simpa using n);subst n;exact z U (F.trans k) G y d
structure Du where
 tries:Int
 morning:Bool
 evening:Bool
def FE(b:Bool):Int:=if b then 1 else 0
def qn(G:Gd)(x:Sx):Bool:=decide (2<=G.tries)&&decide (x.mornings=0)
def si(G:Gd)(x:Sx):Bool:=decide (2<=G.tries)&&decide (x.evenings=0)
def BV(G:Gd)(x:Sx):Int:=max (G.tries-x.tries) 0
def fT(G:Gd)(x:Sx):Du:=⟨max (BV G x) (FE (qn G x)+FE (si G x)),qn G x,si G x⟩
def nR(d:Nat)(u:Du):dr:=[.int .i64 d,.int .i64 u.tries,.bool u.morning,.bool u.evening]
def jY(m e:Bool)(k:Nat):Int:=if k=0 then 0 else if k=1 then FE m else FE m+FE e
def MS{wp gp mk ms:Nat}{c:List Sx}(h:ll wp gp mk ms H c I w)(hd:d<c.length)(ad:tD 100000 c[d]):
 Calls V.prog 133 #[cM wp,.int .i64 d] w (fi λv u=>v=.agg (nR d (fT H c[d])).toArray/\Ext w u):=by
 obtain⟨sa,sc,h1,t,h3,h4⟩:=h.at_;have Q:=h.g.uh;have ht:=Q.tries;have ao:=Q.days;obtain⟨b,o,rfl,hc⟩:=h4 d hd;refine gd Tryz.func133 Tryz.ntmps133 ?_;refine eD λw1 E e1 R S=>?_;refine cu (e1.cell t) (eN d 8 hd (dJ (vs:=ly c[d]) (λj v A=>e1.cell (hc j v A)) (eD λw2 xb e2 T i=>dq i λU k3 W=>?_)));have i:U.heap[xb]? =some (.cells (ly c[d]).toArray 166):=W.trans (cT (λa=>some (Obj.cells a 166)) (dC (pm 166).toArray (ly c[d]) rfl));clear W;have E3:Ext w U:=(e1.trans e2).cC k3 (by have:=e1.size;omega);have C:U.heap[E]? =some (.cells (pm 101).toArray 101):=(e2.cC k3 T).at_ S;have ae:=h.g.ext E3;have af:=E3.cell h1;obtain⟨y1,y2,y3⟩:=ad;refine cX cV (cK af (cK ae.c5 (cK (cr i rfl) (ti (Ur (i64 (BV H c[d])) (λX _=>rj ⟨rfl,Ext.refl _⟩) (dx (.agg #[i64 d,i64 (BV H c[d]),.bool false,.bool false]) (λX _=>dS _ ⟨rfl,Ext.refl _⟩) ?_))))));refine .rel (λv X=>∃p,v=.pointer (some ⟨p,0,none⟩)/\U.heap.size<=p/\X.heap[p]? =some (.cells (pm 101).toArray 101)) (λv a b ⟨nb,h1,t,h3⟩ e=>⟨nb,h1,t,e.at_ h3⟩) (λX e4=>eD λY nb e5 ag Z=>⟨⟨nb,rfl,cZ e4.size ag,Z⟩,e5⟩) ?_;rintro X e4 v ⟨p,rfl,ah,aa⟩;refine dq aa λY k5 ab=>?_;have D:Y.heap[p]? =some (.cells #[i64 d,i64 (BV H c[d]),.bool false,.bool false] 101):=ab;clear ab;have F:Ext U Y:=e4.cC k5 ah;have E5:=E3.trans F;have ai:=h.g.ext E5;have aj:=E5.cell h1;have ak:=F.at_ i;have ac:=F.at_ C;have ap:=cP.lt_of_heap i;have aq:=cP.lt_of_heap C;have s3:=E3.size;refine cu aj (cu ai.c5 (yz ⟨λt=>?_,λt=>?_⟩));have t:2<=H.tries:=dO t;have hM:qn H c[d]=decide (c[d].mornings=0):=by simp[qn,t]
 have hE:si H c[d]=decide (c[d].evenings=0):=by simp[si,t]
 refine hH 7 cV (iF (λx=>x=p)) (λa b h=>h.keep _) ?_;have xc:∀{z},cW (λx=>x=p) Y z->z.heap[xb]? =some (.cells (ly c[d]).toArray 166):=λe=>e.fe ak (by omega);refine .exact _ (λz G=>cu (cr (xc G) rfl) ⟨rfl,Ext.refl _⟩) (.exact _ (λz _=>ff ⟨rfl,Ext.refl _⟩) (.exact _ (λz G=>cu (cr (xc G) rfl) ⟨rfl,Ext.refl _⟩) (.exact _ (λz _=>ff ⟨rfl,Ext.refl _⟩) ?_)));refine .vT (λ_ z=>z.heap[p]? =some (.cells #[i64 d,i64 (BV H c[d]),.bool (qn H c[d]),.bool false] 101)) (λ_ a b h e=>e.at_ h) (λz G=>dq (G.at_ D) λJ k7 B=>⟨by rw[B,hM];rfl,k7⟩) ?_;intro z G hJ;have hJ:z.heap[p]? =some (.cells #[i64 d,i64 (BV H c[d]),.bool (qn H c[d]),.bool false] 101):=hJ;refine dq hJ λJ k7 B=>?_;have f:J.heap[p]? =some (.cells #[i64 d,i64 (BV H c[d]),.bool (qn H c[d]),.bool (si H c[d])] 101):=by rw[B,hE];rfl
 have kk:=G.trans k7 (λ_ _ h=>h) λ_ _ h=>h;have E6:Ext w J:=E5.cC kk (by omega);have K:=kk.fe ac (by omega);clear B hJ;refine cu (cr f rfl) (cu (cr f rfl) (eg [.bool (qn H c[d]),.bool (si H c[d])] 4 (λJ Z L al l=>cS (eE (n:=2) (λk=>[(4,cM E),(6,cM p),(7,i64 (jY (qn H c[d]) (si H c[d]) k)),(52,.slice (some ⟨Z,0,none⟩) 2 2),(53,i64 2),(54,i64 k)]) (λ_ u=>u=J) ⟨by trivial,rfl⟩ ?_ ?_ ?_))));rintro k u hk rfl;exact du ⟨rfl,rfl,by trivial,rfl⟩;rintro k u hk rfl;have M:∀(x y:Bool) (k:Nat),0<=jY x y k/\jY x y k<=2:=λx y k=>by cases x<;>cases y<;>(unfold jY FE;split<;>(try split)<;>decide)
 have am:=M (qn H c[d]) (si H c[d]) k;obtain rfl|rfl:k=0\/k=1:=by omega
 refine fw 0 (by omega) (cu (cr l rfl) ⟨λq=>cF (cF ⟨⟨rfl,rfl,?_,rfl,rfl,rfl,trivial⟩,rfl⟩),λq=>cF ⟨⟨rfl,rfl,?_,rfl,rfl,rfl,trivial⟩,rfl⟩⟩);show some _=some _;simp[jY,FE,q];show some _=some _;simp[jY,FE,q];refine fw 1 (by omega) (cu (cr l rfl) ⟨λq=>cF (cF ⟨⟨rfl,rfl,?_,rfl,rfl,rfl,trivial⟩,rfl⟩),λq=>cF ⟨⟨rfl,rfl,?_,rfl,rfl,rfl,trivial⟩,rfl⟩⟩);show some _=some _;simp[jY,FE,q];show some _=some _;simp[jY,FE,q];rintro u rfl;have m:=L.at_ f;have N:=L.at_ K;refine cu (cr m rfl) (rj (dq m λw8 k8 r=>?_));have r:w8.heap[p]? =some (.cells (nR d (fT H c[d])).toArray 101):=r;have an:=cP.lt_of_heap f;have O:=k8.fe N (by omega);refine dJ (vs:=nR d (fT H c[d])) (λj v A=>by rw[cG];exact cr r (by simpa using A)) (dq O λP k9 s=>?_);have s:P.heap[E]? =some (.cells (nR d (fT H c[d])).toArray 101):=s.trans (cT (λa=>some (Obj.cells a 101)) (dC (pm 101).toArray (nR d (fT H c[d])) rfl));have hl:Sem.run V.prog (loadVar 101 ⟨E,0,none⟩) P=.ok (.agg (nR d (fT H c[d])).toArray) P:=kH (nR d (fT H c[d])) s λj v A=>by rw[cG];simpa using A
 exact⟨_,hl,_,rfl,rfl,((E6.trans L).cC k8 (by omega)).cC k9 R⟩;have t:¬2<=H.tries:=ee t;have hM:qn H c[d]=false:=by simp[qn,t]
 have hE:si H c[d]=false:=by simp[si,t]
 have f:Y.heap[p]? =some (.cells #[i64 d,i64 (BV H c[d]),.bool (qn H c[d]),.bool (si H c[d])] 101):=by rw[D,hM,hE]
 have E6:=E5;have K:=ac;refine cu (cr f rfl) (cu (cr f rfl) (eg [.bool (qn H c[d]),.bool (si H c[d])] 4 (λJ Z L al l=>cS (eE (n:=2) (λk=>[(4,cM E),(6,cM p),(7,i64 (jY (qn H c[d]) (si H c[d]) k)),(52,.slice (some ⟨Z,0,none⟩) 2 2),(53,i64 2),(54,i64 k)]) (λ_ u=>u=J) ⟨by trivial,rfl⟩ ?_ ?_ ?_))));rintro k u hk rfl;exact du ⟨rfl,rfl,by trivial,rfl⟩;rintro k u hk rfl;have M:∀(x y:Bool) (k:Nat),0<=jY x y k/\jY x y k<=2:=λx y k=>by cases x<;>cases y<;>(unfold jY FE;split<;>(try split)<;>decide)
 have am:=M (qn H c[d]) (si H c[d]) k;obtain rfl|rfl:k=0\/k=1:=by omega
 refine fw 0 (by omega) (cu (cr l rfl) ⟨λq=>cF (cF ⟨⟨rfl,rfl,?_,rfl,rfl,rfl,trivial⟩,rfl⟩),λq=>cF ⟨⟨rfl,rfl,?_,rfl,rfl,rfl,trivial⟩,rfl⟩⟩);show some _=some _;simp[jY,FE,q];show some _=some _;simp[jY,FE,q];refine fw 1 (by omega) (cu (cr l rfl) ⟨λq=>cF (cF ⟨⟨rfl,rfl,?_,rfl,rfl,rfl,trivial⟩,rfl⟩),λq=>cF ⟨⟨rfl,rfl,?_,rfl,rfl,rfl,trivial⟩,rfl⟩⟩);show some _=some _;simp[jY,FE,q];show some _=some _;simp[jY,FE,q];rintro u rfl;have m:=L.at_ f;have N:=L.at_ K;refine cu (cr m rfl) (rj (dq m λw8 k8 r=>?_));have r:w8.heap[p]? =some (.cells (nR d (fT H c[d])).toArray 101):=r;have an:=cP.lt_of_heap f;have O:=k8.fe N (by omega);refine dJ (vs:=nR d (fT H c[d])) (λj v A=>by rw[cG];exact cr r (by simpa using A)) (dq O λP k9 s=>?_);have s:P.heap[E]? =some (.cells (nR d (fT H c[d])).toArray 101):=s.trans (cT (λa=>some (Obj.cells a 101)) (dC (pm 101).toArray (nR d (fT H c[d])) rfl));have hl:Sem.run V.prog (loadVar 101 ⟨E,0,none⟩) P=.ok (.agg (nR d (fT H c[d])).toArray) P:=kH (nR d (fT H c[d])) s λj v A=>by rw[cG];simpa using A
 exact⟨_,hl,_,rfl,rfl,((E6.trans L).cC k8 (by omega)).cC k9 R⟩
def o9(x:Sx)(l:cz)(s:Nat):Bool:=nO x (s/2)||(decide (0<l.length)&&decide (l.getLast?.getD 0/2=s/2))
def vp(u:Du)(l:cz):Bool:=(l.any (λs=>decide (s%2=0))||!u.morning)&&(l.any (λs=>decide (s%2=1))||!u.evening)
def kh(L:Nat)(x:Sx)(u:Du):Nat->cz->Nat->List cz
 |0,_,_=>[]
 |f+1,l,a=>if(l.length:Int)=u.tries then(if vp u l then [l]else [])else(List.range (L-a)).flatMap λi=>if o9 x l (a+i)then []else kh L x u f (l++[a+i]) (a+i+1)
def eS(G:Gd):Nat:=(2*G.days).toNat
def fX(G:Gd)(x:Sx)(a:Nat):List cz:=kh (eS G) x (fT G x) (eS G+1) [] a
def og(L:Nat)(x:Sx)(u:Du)(f:Nat)(l:cz)(a k:Nat):List cz:=(List.range k).flatMap λi=>if o9 x l (a+i)then []else kh L x u f (l++[a+i]) (a+i+1)
def pP(L:Nat)(x:Sx)(u:Du)(f:Nat)(l:cz)(a k:Nat):og L x u f l a (k+1)=og L x u f l a k++if o9 x l (a+k)then []else kh L x u f (l++[a+k]) (a+k+1):=by unfold og;rw[oO,List.flatMap_append];simp
def GL(w:cn)(v:cq)(l:cz):Prop:=(l=[]/\v=.slice none 0 0)\/∃b c a,v=.slice (some ⟨b,0,none⟩) l.length c/\l.length<=c/\w.heap[b]? =some (.cells a 3)/\a.size=c/\∀k (h:k<l.length),a[k]? =some (.int .i64 l[k])
def GL.row(h:GL w x l):∃a c,x=.slice a l.length c/\fN w a l/\l.length<=c:=by rcases h with⟨rfl,rfl⟩|⟨b,c,i,rfl,e,f,j,g⟩;exact⟨none,0,rfl,λk d=>by simp at d,cJ _⟩;exact⟨_,c,rfl,λk d=>⟨b,0,rfl,cr f (by rw[cG];exact g k d)⟩,e⟩
def GL.keep(h:GL w x l)(k:cW A w t)(d:∀b,cH x b->¬A b):GL t x l:=by rcases h with h|⟨b,c,e,a,f,g,i⟩;exact .inl h;exact .inr ⟨b,c,e,a,f,k.fe g (d b ⟨_,_,a⟩),i⟩
def GL.blk(h:GL w x l)(a:cH x m):m<w.heap.size:=by obtain⟨_,_,a⟩:=a;rcases h with⟨_,rfl⟩|⟨d,c,e,rfl,f,b,_⟩;cases a;injection a with a;have:=cT Addr.block (cO a);simp only at this;subst this;exact cP.lt_of_heap b
structure EA(lv:cq)(o o':Obj)(a b:cn):Prop where
 k:cW (cH lv) a b
 n:∀x ox,cH lv x->a.heap[x]? =some ox->b.heap[x]? =some ox\/(ox=o/\b.heap[x]? =some o')
def RY(i:cq)(o j:Obj):fJ (EA i o j):=by refine⟨λw=>⟨cW.refl _ w,λ_ _ _ h=>.inl h⟩,λa b c h k=>⟨h.k.trans k.k (λ_ _ h=>h) λ_ _ h=>h,λx e f l=>?_⟩,λw=>⟨(Ext.drew w).keep _,λx e _ h=>.inl h⟩⟩;rcases h.n x e f l with d|⟨d,m⟩;exact k.n x e f d;rcases k.n x _ f m with g|⟨g,p⟩;exact .inr ⟨d,g⟩;exact .inr ⟨d,p⟩
def Ext.ea(h:Ext w t)(a:cq)(o b:Obj):EA a o b w t:=⟨h.keep _,λx d _ c=>.inl (h.at_ c)⟩
def GM(a:Nat)(d:cq)(e:Obj)(l:cz)(v:cq)(w:cn):Prop:=
 (∃b c,cH d b/\v=.slice (some ⟨b,0,none⟩) l.length c/\w.heap[b]? =some e/\GL w v l)\/(∃b c,a<=b/\v=.slice (some ⟨b,0,none⟩) l.length c/\GL w v l)
def xk{M:nd}{U:Array Bool}{o:Obj}{w0:cn}(W:GL w x l)(X:∀b,cH x b->w.heap[b]? =some o)(N:m<=w.heap.size)(O:l.length<=1000)(p:w.heap[k]? =some (.cells [Value.int .i64 s].toArray 3))(G:Obj)(H:∀b r,cH x b->o=.cells r 3->G=.cells (r.setIfInBounds l.length (.int .i64 s)) 3) (I:∀v n,GM m x G (l++[s]) v n->EA x o G w n->M v n):zV V.prog (builtin .append #[27,27] T U #[x,.slice (some ⟨k,0,none⟩) 1 i]) w M:=by
 have Y:=sg;obtain⟨Z,Q,z,h2,h3,h4,E,h6,h7⟩:=Y;have E:Q.size=1:=E;rcases W with⟨rfl,rfl⟩|⟨b,g,r,rfl,aa,F,J,d⟩;refine gq sg (cR.nil m 3 [i64 0] w) N p (by omega) λv' n g1 g2 g3=>?_;have K:∀t,¬cH jK t:=λt a=>by obtain⟨_,_,a⟩:=a;cases a
 refine I v' n (.inr ?_) ⟨g2,λt ox a _=>absurd a (K t)⟩;obtain⟨h0,⟨ab,_⟩|⟨b,R,r,q1,rfl,q3,q4,q5,q6,q7,q8⟩⟩:=g1;omega;refine⟨b,R,q1,rfl,.inr ⟨b,R,r,rfl,by simpa using q5,q3,by simpa using q4,λj c=>?_⟩⟩;obtain rfl:j=0:=by simp at c;omega
 rw[q7 0 (by simp)];rfl;have y:=X b ⟨_,_,rfl⟩;rw[F]at y;obtain rfl:=cO y;have A:=H b r ⟨_,_,rfl⟩ rfl;by_cases e:l.length+1<=g;refine Ig (u:=i64 s) sg F e (by omega) (cr p rfl) rfl λn k' q=>I _ n (.inl ⟨b,g,⟨_,_,rfl⟩,by simp,by rw[q,A],.inr ⟨b,g,_,by simp,by simpa using e,q,by simpa using J,λj c=>?_⟩⟩) ⟨k'.trans (cW.refl (λ_=>False) n) (λt _ a=>by subst a;exact⟨_,_,rfl⟩) λ_ _ h=>h.elim,λt ox a B=>?_⟩;rcases fj j l.length with f|C;rw[eo (by omega),d j f,nU f];obtain rfl:j=l.length:=by simp at c;omega
 rw[kI (by omega)];simp;obtain⟨_,_,a⟩:=a;injection a with a;have:=cT Addr.block (cO a);simp only at this;subst this;rw[F]at B;exact .inr ⟨(cO B).symm,by rw[q,A]⟩
 have hr:=run_append_grow (P:=V.prog) w 27 T 3 Q z Z h2 h3 (cY b 0) l.length g (jy l) (by simp[E,jy]) (λj u c=>by
  rw[Addr.add_lit];simp only[World.cell?,F,cG];have D:j<l.length:=by simpa[jy]using(iI.1 c).1
  rw[d j D];have:(jy l)[j]? =some (i64 (l[j]:Nat)):=by simp[jy,eV D]
  rw[this]at c;simpa using c) (cY k 0) 1 i [i64 s] (by simp[E]) (λj v c=>by
  match j,c with
  |0,c=>cases c;rw[iB];exact cr p rfl) (by omega) (by omega) (growslice_fits (by omega) (cZ (Nat.mul_le_mul (show l.length+1<=1000000 by omega) h6) (by decide)))
 have C:=grownCap_ge w (l.length+1) g 3;have L:z.cells.size=1:=by rw[h4];rfl
 refine⟨_,w.drew.alloc (.cells ((jy l).toArray++#[Value.int .i64 s]++Builtin.zeroCells z.cells (grownCap w (l.length+1) g 3-(l.length+1))) 3),?_,I (j7 w.heap.size (l.length+1) (grownCap w (l.length+1) g 3)) _ (.inr ⟨w.heap.size,grownCap w (l.length+1) g 3,N,by simp,.inr ⟨w.heap.size,grownCap w (l.length+1) g 3,_,by simp,by simpa using C,fp w.drew _,?_,λj c=>?_⟩⟩) (((Ext.drew w).trans (Ext.alloc _ _)).ea _ _ _)⟩;unfold builtin;simp only[Sem.run_bind,hr,Result.andThen_ok,Sem.run_pure];simp only[Ac,gK,size_zeroCells,L,jy,jA,tF,eI,fB,oi];omega;have ac:j<l.length+1:=by simpa using c
 rw[wz (by simp[jy];omega)];rcases fj j l.length with f|S;simp[jy,nT,f,eV f];obtain rfl:j=l.length:=by omega
 simp[jy]
def Pu(s a:Nat):Bool:=(List.range 5).all λd=>!s.testBit d||a.testBit d
def pQ(G:Gd)(a s:Nat):Int:=if Pu s a then(match gH G s with
 |some b=>(b.length:Int)
 |none=> -1)else-1
def iD(G:Gd)(a k:Nat):gC:=(List.range 32).map λs=>if s<k then pQ G a s else 0
def mH(G:Gd)(b:List Sx)(a k:Nat):List (List cz):=((dn G.tries b).take k).map λd=>fX G (b.getD d lM) a
def jo(G:Gd)(b:List Sx)(a:Nat):ep:=⟨dn G.tries b,(dn G.tries b).map λd=>fX G (b.getD d lM) a,iD G (io (dn G.tries b)) (2^b.length)⟩
theorem AL{x:Sx}{u:Du}:∀{f:Nat} {l:cz} {a:Nat} {c:cz},c∈kh m x u f l a->c.length<=l.length+f/\∀s∈c,s∈l\/s<m
 |0,l,a,c,h=>by cases h
 |f+1,l,a,c,h=>by simp only[kh]at h;split at h;split at h;rw[iJ.1 h];exact⟨by omega,λs d=>.inl d⟩;cases h;obtain⟨i,e,h⟩:=sq.1 h;have e:=gR.1 e;split at h;cases h;obtain⟨g,j⟩:=AL h;simp only[jA,eI,fB]at g;refine⟨by omega,λs d=>?_⟩;rcases j s d with b|b;rcases jH.1 b with b|b;exact .inl b;rw[iJ.1 b];exact .inr (by omega);exact .inr b
theorem Ip:∀(n:Nat),((List.range n).map λi=>2^(n-1-i)).sum+1=2^n
 |0=>rfl
 |n+1=>by
  have b:=Ip n;rw[List.range_succ_eq_map,lq,List.sum_cons,List.map_map];have e:(List.range n).map ((λi=>2^(n+1-1-i))∘Nat.succ)=(List.range n).map λi=>2^(n-1-i):=by refine List.map_congr_left λi a=>?_;have:=gR.1 a;simp only[Function.comp];congr 1;omega
  rw[e];have:n+1-1-0=n:=by omega
  rw[this,Nat.pow_succ];omega
theorem MT{a:Type}{f g:a->Nat}:∀(l:List a),(∀x∈l,f x<=g x)->(l.map f).sum<=(l.map g).sum
 |[],_=>cJ _
 |x::r,h=>by simp only[lq,List.sum_cons];exact Nat.add_le_add (h x iP) (MT r λy b=>h y (iw _ b))
theorem yO{L:Nat}{x:Sx}{u:Du}:∀(f:Nat) (l:cz) (a:Nat),(kh L x u f l a).length<=2^(L-a)
 |0,l,a=>fV _
 |f+1,l,a=>by
  have c:1<=2^(L-a):=Nat.one_le_two_pow;simp only[kh];split;split;exact c;exact fV _;rw[List.length_flatMap];have d:((List.range (L-a)).map λi=>(if o9 x l (a+i)then([]:List cz)else kh L x u f (l++[a+i]) (a+i+1)).length).sum<=((List.range (L-a)).map λi=>2^(L-a-1-i)).sum:=MT _ λi b=>by have b:=gR.1 b;split;exact fV _;have:=yO (L:=L) (x:=x) (u:=u) f (l++[a+i]) (a+i+1);rwa[show L-(a+i+1)=L-a-1-i by omega]at this
  have:=Ip (L-a);omega
def yP(h:H.Ok):eS H<=6:=by have:=h.days;unfold eS;omega
def rT(h:H.Ok)(x:Sx)(a:Nat):(fX H x a).length<=64/\∀l∈fX H x a,l.length<=7/\∀s∈l,s<6:=by have g:=yP h;refine⟨?_,λl d=>?_⟩;have:=yO (L:=eS H) (x:=x) (u:=fT H x) (eS H+1) [] a;have b:2^(eS H-a)<=2^6:=Nat.pow_le_pow_right (by omega) (by omega);exact cZ this b;obtain⟨e,b⟩:=AL d;simp only[fB]at e;refine⟨by omega,λs f=>?_⟩;rcases b s f with c|c;cases c;omega
def kO{a:List Sx}(h:d∈dn I a):d<a.length:=by obtain⟨b,_⟩:=xq.1 h;exact gR.1 b
def EE(T:Int)(a:List Sx):(dn T a).Nodup:=(List.nodup_range).filter _
def lN(T:Int)(a:List Sx):(dn T a).length<=a.length:=pJ T a a.kq
theorem ry{most:Nat}:∀{doors b a:cz},fL H most doors b=some a->a.length<=b.length+doors.length
 |[],b,a,h=>by simp only[fL,fO]at h;subst h;simp
 |d::r,b,a,h=>by simp only[fL]at h;split at h;rename_i o e;obtain rfl:=cO h;obtain⟨i,f,c⟩:=KP e;split at c;have:=ry c;simp only[xp,eI]at this⊢;omega;cases c;split at h;have:=ry h;simp only[jA,eI,fB]at this⊢;omega;cases h
def pR{a:List cz}(h:gH H s=some a):a.length<=5:=by unfold gH at h;split at h;obtain rfl:=cO h;simp;obtain⟨d,b,rfl⟩:=il.1 h;obtain⟨m,_,c⟩:=KP b;have:=ry c;have:=AK s;simp only[fB,tF]at*;omega
def JC(G:Gd)(a s:Nat): -1<=pQ G a s/\pQ G a s<=5:=by unfold pQ;split;split;rename_i b h;have:=pR h;omega;omega;omega
def BW(G:Gd)(a k s:Nat)(b:s<32):(iD G a k).getD s 0=if s<k then pQ G a s else 0:=by unfold iD;rw[jG,so,List.getElem?_range b];rfl
def uu(G:Gd)(a k:Nat):(iD G a k).length=32:=by simp[iD]
def EF{e:List Sx}(h:H.Ok)(f:e.length=H.doors.length)(a:Nat):(jo H e a).Ok:=by have n:=h.many;have g:=lN H.tries e;refine⟨by simp[jo],by simp only[jo];omega,EE _ _,λd j=>by have:=kO j;omega,λi b=>?_,λi b l f=>?_,λi b l f s k=>?_,uu _ _ _,λc m=>?_,?_⟩;obtain⟨d,_,rfl⟩:=mq.1 b;have:=(rT h (e.getD d lM) a).1;omega;obtain⟨d,_,rfl⟩:=mq.1 b;have:=((rT h (e.getD d lM) a).2 l f).1;omega;obtain⟨d,_,rfl⟩:=mq.1 b;exact((rT h (e.getD d lM) a).2 l f).2 s k;obtain⟨s,_,rfl⟩:=mq.1 m;split;exact JC _ _ _;omega;show(iD H _ _).getD 0 0=0;rw[BW _ _ _ _ (by omega),cB (Nat.two_pow_pos _)];rfl
def ki(A:cN)(d:Nat)(w:cn)(v:cq)(a:List cz):Prop:=∃c:dr,cR d 27 [.slice none 0 0] w v a.length c/\c.length=a.length/\∀k (h:k<a.length),∃u,c[k]? =some u/\fE d w u a[k]/\∀b,cH u b->¬A b
def ki.own{a:List cz}(h:ki A m w x a):gU m w x a:=by obtain⟨b,c,d,e⟩:=h;exact⟨b,c,d,λk f=>by obtain⟨u,g,i,_⟩:=e k f;exact⟨u,g,i⟩⟩
theorem ki.keep{a:List cz}(h:ki A m w x a)(k:cW B w t)(f:∀b,cH x b->¬B b)(g:∀u l b,fE m w u l->cH u b->¬A b->¬B b):ki A m t x a:=by obtain⟨j,n,o,p⟩:=h;refine⟨j,n.keep k f,o,λi q=>?_⟩;obtain⟨u,r,c,d⟩:=p i q;exact⟨u,r,cR.keep c k λb e=>g u _ b c e (d b e),d⟩
def ki.ext{a:List cz}(h:ki A m w x a)(e:Ext w t):ki A m t x a:=h.keep (e.keep λ_=>False) (λ_ _ h=>h) λ_ _ _ _ _ _ h=>h
def ki.more{A A':cN}{a:List cz}(h:ki A m w x a)(e:∀b,A' b->A b\/w.heap.size<=b):ki A' m w x a:=by obtain⟨f,g,j,k⟩:=h;refine⟨f,g,j,λi l=>?_⟩;obtain⟨u,n,c,o⟩:=k i l;refine⟨u,n,c,λb d p=>?_⟩;rcases e b p with h|h;exact o b d h;have:=(cR.blk c d).2;omega
def GL.c3(h:GL w x l)(a:cH x m):∃b,w.heap[m]? =some (.cells b 3):=by obtain⟨_,_,a⟩:=a;rcases h with⟨_,rfl⟩|⟨e,c,b,rfl,f,d,_⟩;cases a;injection a with a;have:=cT Addr.block (cO a);simp only at this;subst this;exact⟨b,d⟩
def cR.c_(h:cR m T M w x k Y)(a:cH x i):∃b,w.heap[i]? =some (.cells b T):=by obtain⟨_,_,a⟩:=a;obtain⟨_,⟨_,rfl⟩|⟨e,c,b,_,rfl,d,_⟩⟩:=h;cases a;injection a with a;have:=cT Addr.block (cO a);simp only at this;subst this;exact⟨b,d⟩
def ki.SF{a:List cz}(h:ki A m w x a)(b:cH x k):∃c,w.heap[k]? =some (.cells c 27):=by obtain⟨e,d,_⟩:=h;exact d.c_ b
def fS(h:w.heap[m]? =some (.cells W T))(a:w.heap[m]? =some (.cells X U))(b:T≠U):False:=by rw[h]at a;injection a with a;injection a with _ a;exact b a
def mI{b a l c l' c':Nat}(h:cH (.slice (some ⟨b,0,none⟩) l c) a):a=b:=by obtain⟨_,_,h⟩:=h;injection h with h;exact(cT Addr.block (cO h)).symm
structure LS(n0 m db ob wb xb gb:Nat):Prop where
 lo:n0<=ob/\n0<=m
 d:db<m/\db≠ob
 o:ob<m
 w:wb<m/\wb≠ob
 x:xb<m/\xb≠ob
 g:gb<m/\gb≠ob
def Iq(a b c d e:Nat):cq:=.func (.func 165) #[] #[cM a,cM b,cM c,cM d,cM e]
structure LC(w0:cn)(wp d:Nat)(u:Du)(db ob wb xb gb:Nat)(w:cn):Prop where
 e:Ext w0 w
 b1:w.heap[db]? =some (.cells (nR d u).toArray 101)
 b3:w.heap[wb]? =some (.cells #[cM wp] 133)
 b4:w.heap[xb]? =some (.cells #[.int .i64 d] 3)
 b5:w.heap[gb]? =some (.cells #[Iq db ob wb xb gb] 209)
def LC.keep{u:Du}(h:LC w k d u i j o p s t)(S:LS w.heap.size m i j o p s)(c:cW A t e)(n:∀b,b<t.heap.size->A b->b=j\/m<=b):LC w k d u i j o p s e:=by
 have a:∀{b:Nat} {q:Obj},t.heap[b]? =some q->b<m->b≠j->¬A b:=λf v r l=>by rcases n _ (cP.lt_of_heap f) l with h|h;exact r h;omega
 have y:=h.e.size;refine⟨⟨c.os.trans h.e.os,c.tape.trans h.e.tape,c.output.trans h.e.output,cZ h.e.size c.size,cZ h.e.drawn c.drawn,λb f=>(c.block b (by omega) λl=>?_).trans (h.e.block b f)⟩,c.fe h.b1 (a h.b1 S.d.1 S.d.2),c.fe h.b3 (a h.b3 S.w.1 S.w.2),c.fe h.b4 (a h.b4 S.x.1 S.x.2),c.fe h.b5 (a h.b5 S.g.1 S.g.2)⟩;have:=S.lo;rcases n _ (by omega) l with h|h<;>omega
def RZ(a:Nat)(d:cq)(e:Obj)(l:cz)(v:cq)(w:cn):Prop:=
 (∃b c k,d=.slice (some ⟨b,0,none⟩) k c/\v=.slice (some ⟨b,0,none⟩) l.length c/\w.heap[b]? =some e/\GL w v l)\/(∃b c,a<=b/\v=.slice (some ⟨b,0,none⟩) l.length c/\GL w v l)
def RZ.ea(h:RZ m x Q l y w)(e:EA x O Q w t)(j:∀a,cH x a->a<m):RZ m x Q l y t:=by
 rcases h with⟨a,c,k,rfl,rfl,d,o⟩|⟨a,c,p,rfl,d⟩;have g:t.heap[a]? =some Q:=by rcases e.n a _ ⟨_,_,rfl⟩ d with h|h;exact h;exact h.2
 refine .inl ⟨a,c,k,rfl,rfl,g,?_⟩;rcases o with⟨b,f⟩|⟨q,c',r,b,f,i,s,u⟩;cases f;refine .inr ⟨q,c',r,b,f,?_,s,u⟩;injection b with b;have:=cT Addr.block (cO b);simp only at this;subst this;rw[d]at i;rw[g];exact i;exact .inr ⟨a,c,p,rfl,d.keep e.k λv z A=>by have:=j v A;have:=mI (l':=0) (c':=0) z;omega⟩
def GL.ea(h:GL w x l)(e:EA x O Q w t)(d:∀a b,cH x a->O=.cells b 3->Q=.cells (b.setIfInBounds l.length (.int .i64 s)) 3):GL t x l:=by rcases h with h|⟨a,c,b,rfl,f,m,i,j⟩;exact .inl h;rcases e.n a _ ⟨_,_,rfl⟩ m with h|⟨h,g⟩;exact .inr ⟨a,c,b,rfl,f,h,i,j⟩;rw[d a b ⟨_,_,rfl⟩ h.symm]at g;refine .inr ⟨a,c,_,rfl,f,g,by simpa using i,λk o=>?_⟩;rw[eo (by omega)];exact j k o
def MU{O:nd}{Q:Array Bool}{o q:Obj}(B:GL w x l)(a:∀b,cH x b->w.heap[b]? =some o\/w.heap[b]? =some q)(I:m<=w.heap.size)(j:l.length<=1000)(y:w.heap[k]? =some (.cells [Value.int .i64 s].toArray 3))(r:∀b z,cH x b->o=.cells z 3->q=.cells (z.setIfInBounds l.length (.int .i64 s)) 3) (F:∀b,cH x b->∃z,o=.cells z 3) (J:∀v c,RZ m x q (l++[s]) v c->EA x o q w c->O v c):zV V.prog (builtin .append #[27,27] T Q #[x,.slice (some ⟨k,0,none⟩) 1 i]) w O:=by
 have conv:∀v c,GM m x q (l++[s]) v c->GL w x l->RZ m x q (l++[s]) v c:=λv c h g=>by
  rcases h with⟨b,i,f,rfl,C,D⟩|h;rcases g with⟨_,rfl⟩|⟨K,c',z,rfl,g2,P,g4,g5⟩;obtain⟨_,_,f⟩:=f;cases f;have:=mI (l':=0) (c':=0) f;subst this;have R:i=c':=by
   rcases D with⟨D,_⟩|⟨b2,c2,L,e,q2,A,q4,q5⟩;simp at D;injection e with S e2 U;have:=cT Addr.block (cO S);simp only at this;subst this;subst U;rw[C]at A;obtain⟨p,d⟩:=F b ⟨_,_,rfl⟩;have H:=r b p ⟨_,_,rfl⟩ d;have A:=cO A;rw[H]at A;injection A with A;have W:L.size=p.size:=by rw[<-A];simp
   rcases a b ⟨_,_,rfl⟩with a|a;rw[P,d]at a;have a:=cO a;injection a with a;subst a;omega;rw[P,H]at a;have a:=cO a;injection a with a;have:z.size=p.size:=by rw[a];simp
   omega
  subst R;exact .inl ⟨b,i,l.kq,rfl,rfl,C,D⟩;exact .inr h
 by_cases f:∃b,cH x b;obtain⟨b,f⟩:=f;obtain⟨p,d⟩:=F b f;rcases a b f with h|h;refine xk (w0:=w) B (λK t=>?_) I j y q r λv c G E=>J v c (conv v c G B) E;obtain⟨_,_,e⟩:=f;obtain⟨_,_,u⟩:=t;rw[e]at u;injection u with u;have:=cT Addr.block (cO u);simp only at this;subst this;exact h;have H:=r b p f d;refine xk (o:=q) (w0:=w) B (λK t=>?_) I j y q (λK z t e=>?_) λv c G E=>J v c (conv v c G B) ⟨E.k,λX Y Z M=>?_⟩;obtain⟨_,_,e⟩:=f;obtain⟨_,_,u⟩:=t;rw[e]at u;injection u with u;have:=cT Addr.block (cO u);simp only at this;subst this;exact h;rw[H]at e⊢;injection e with e;subst e;simp;rcases E.n X Y Z M with C|⟨C,D⟩;exact .inl C;exact .inl (by rw[D,C]);have N:∀b,¬cH x b:=λb h=>f ⟨b,h⟩;exact xk (o:=o) (w0:=w) B (λb h=>absurd h (N b)) I j y q r λv c G E=>J v c (conv v c G B) E
def GP(L:Nat)(x:Sx)(u:Du)(f:Nat)(l:cz)(a:Nat)(h:¬(l.length:Int)=u.tries):kh L x u (f+1) l a=og L x u f l a (L-a):=by simp only[kh,cy h,og]
def EG(h:0<l.length):l.getLast?.getD 0=l[l.length-1]:=by rw[List.getLast?_eq_getElem?,eV (by omega)];rfl
theorem GL.v(h:GL w x l)(d:0<l.length):∃b c a,x=.slice (some ⟨b,0,none⟩) l.length c/\l.length<=c/\w.heap[b]? =some (.cells a 3)/\a.size=c/\∀k (h:k<l.length),a[k]? =some (.int .i64 l[k]):=by rcases h with⟨rfl,_⟩|h;simp at d;exact h
def EH(h:cH x m)(a:cH x k):k=m:=by obtain⟨_,_,rfl⟩:=h;exact mI (l':=0) (c':=0) a
def MV(L:Nat)(x:Sx)(u:Du)(f:Nat)(l:cz)(a:Nat)(h:k<=m):(og L x u f l a k).length<=(og L x u f l a m).length:=by
 induction m with
 |zero=>obtain rfl:k=0:=by omega
        exact cJ _
 |succ m b=>
  rcases fj k (m+1)with c|d;rw[pP,jA];have:=b (by omega);omega;obtain rfl:k=m+1:=by omega
  exact cJ _
def MW(A:cN)(m e:Nat)(f g:cq)(l:cz)(d:List cz)(w c:cn):Prop:=
 cW (λb=>b=e\/cH g b\/cH f b) w c/\GL c f l/\∃a,c.heap[e]? =some (.cells #[a] 66)/\(∀b,cH a b->cH g b\/w.heap.size<=b)/\ki A m c a d
theorem yQ{wp gp mk ms m d db ob wb xb gb:Nat}{r:List Sx}(hW:ll wp gp mk ms H r I w)(hd:d<r.length)(S:LS w.heap.size m db ob wb xb gb):∀(f:Nat) (l:List Nat) (j:Nat) (lv R:cq) (ls:List (List Nat)) (A:Nat->Prop) (z:cn),eS H+1<=j+f->l.length<=j->j<=eS H->(∀s∈l,s<6)->LC w wp d (fT H r[d]) db ob wb xb gb z->GL z lv l->(∀b,cH lv b->m<=b/\A b)->(∀b,A b->b<z.heap.size)->m<=z.heap.size->z.heap[ob]? =some (.cells #[R] 66)->ki A m z R ls->(∀b,cH R b->m<=b)->ls.length+(kh (eS H) r[d] (fT H r[d]) f l j).length<=100000->
  Calls V.prog 165 #[lv,.int .i64 j,cM db,cM ob,cM wb,cM xb,cM gb] z (fi λv G=>MW A m ob lv R l (ls++kh (eS H) r[d] (fT H r[d]) f l j) z G)
 |0,l,j,lv,R,ls,A,z,J,aX,aY,_,_,_,_,_,_,_,_,_,_=>by omega
 |f+1,l,j,lv,R,ls,A,z,J,aX,aY,aG,hC,hL,aa,hA,aA,ah,ho,aH,U=>by
  have aI:=hW.g.uh;have aZ:=aI.days;have bk:=yP aI;have a0:(eS H:Int)=2*H.days:=by unfold eS;omega
  have bm:l.length<=6:=by omega
  obtain⟨D,E,rfl,ai,a1⟩:=hL.row;have ae:∀b,(cH R b\/cH (.slice D l.length E) b)->b≠ob:=λb q e=>by subst e;have:=S.o;rcases q with q|q;have:=aH _ q;omega;have:=(aa _ q).1;omega
  refine gd Tryz.func165 Tryz.ntmps165 ?_;refine cS (cu (cr hC.b1 rfl) (ff ⟨λh=>?_,λh=>?_⟩));have h:(l.length:Int)=(fT H r[d]).tries:=dO h;have hg:kh (eS H) r[d] (fT H r[d]) (f+1) l j=if vp (fT H r[d]) l then [l]else []:=by simp only[kh,cB h]
  rw[hg]at U⊢;have same:∀G,Ext z G->vp (fT H r[d]) l=false->MW A m ob (.slice D l.length E) R l (ls++(if vp (fT H r[d]) l then [l]else [])) z G:=λG e J=>by rw[J,cy (by simp),List.append_nil];exact⟨e.keep _,hL.keep (e.keep λ_=>False) λ_ _ h=>h,R,e.at_ ah,λb q=>.inl q,ho.ext e⟩
  refine dg (o8 (p:=λs=>decide (s%2=0)) ⟨167,#[],#[],rfl,by intro _ _;kernel_rfl,λn z=>Ep n z⟩ l D E z ai (by omega)) ?_;refine dg (o8 (p:=λs=>decide (s%2=1)) ⟨168,#[],#[],rfl,by intro _ _;kernel_rfl,λn z=>Er n z⟩ l D E z ai (by omega)) ?_
  have take:∀{Q:QW} {l0:L},Sub [(0,.slice D l.length E),(3,cM ob)] l0->vp (fT H r[d]) l=true->(∀l' G,MW A m ob (.slice D l.length E) R l (ls++(if vp (fT H r[d]) l then [l]else [])) z G->Q .normal l' G)->dM V.prog 86 (fU Tryz.f165 4) l0 z Q:=λ{Q l0} hs aJ hq=>by
   rw[cB aJ]at hq U;refine dM.jN hs ?_;clear hs;have aK:∀{b:Nat},cH R b->¬cH (.slice D l.length E) b:=λq W=>by obtain⟨cs,g1⟩:=ho.SF q;obtain⟨aj,g2⟩:=hL.c3 W;exact fS g1 g2 (by decide)
   have aw:¬cH R ob:=λq=>ae ob (.inl q) rfl;have ad:∀b,cH R b->b<z.heap.size:=λb q=>by obtain⟨cs,g1⟩:=ho.SF q;exact cP.lt_of_heap g1
   refine hH 4 cV (iF (cH R)) (λa b h=>h.keep _) ?_;refine .exact R (λX e1=>cu (cr (e1.fe ah aw) rfl) ⟨rfl,Ext.refl _⟩) ?_;refine .rel (λu X=>fE z.heap.size X u l) (λu a b hu e=>cR.keep hu e λx Y aB=>by have:=(cR.blk hu Y).1;have:=ad x aB;omega) (λX e1=>?_) ?_
   have a3:fN X D l:=λk hk=>by
    obtain⟨b,o,rfl,hc⟩:=ai k hk;obtain⟨b2,c2,aL,F,_,_,_,_⟩:=hL.v (by omega);injection F with F;obtain⟨rfl,rfl⟩:b=b2/\o=0:=by injection F with F;injection F with T e4;exact⟨T,e4⟩
    exact⟨_,_,rfl,e1.eP hc λJ=>aK J ⟨_,_,rfl⟩⟩
   exact cD (lL a3 (by omega)) λu y ⟨F,hu⟩=>⟨hu.low e1.size,F⟩;refine .rel (λx X=>∃K u,x=.slice (some ⟨K,0,none⟩) 1 1/\z.heap.size<=K/\X.heap[K]? =some (.cells [u].toArray 27)/\fE z.heap.size X u l) (λx a b ⟨K,u,O,C,P,h4⟩ e=>⟨K,u,O,C,e.fe P (λJ=>by have:=ad K J;omega),cR.keep h4 e λx Y aB=>by have:=(cR.blk h4 Y).1;have:=ad x aB;omega⟩) (λX e1 u hu=>?_) ?_;refine eg [u] 27 (λy K F ak q=>⟨⟨K,u,rfl,cZ e1.size ak,q,cR.ext hu F⟩,F⟩) ?_;obtain⟨a2,c2,rfl,_⟩:=fE.row hu;intro z;kernel_rfl;refine .spec (λv X=>ki A m X v (ls++[l])/\∀b,cH v b->cH R b\/z.heap.size<=b) (λv a b ⟨O,C⟩ e=>⟨O.ext e,C⟩) (λX e1 aM a4 a5 bn=>?_) ?_;obtain⟨K,u,rfl,ak,al,hu⟩:∃K u,aM=.slice (some ⟨K,0,none⟩) 1 1/\z.heap.size<=K/\X.heap[K]? =some (.cells [u].toArray 27)/\fE z.heap.size X u l:=a4;obtain⟨us,hr,aN,a6⟩:=ho.ext e1;have aO:u.oneCell'=true:=by obtain⟨a,c,rfl,_⟩:=fE.row hu;rfl
   refine gq Pi hr (cZ aA e1.size) al (by simp only[eI,fB]at U;omega) (λv' y g1 g2 g3=>⟨⟨⟨us++[u],by simpa using g1,by simp[aN],λi hi=>?_⟩,λb q=>(g3 b q).imp id λh=>cZ e1.size h⟩,g2⟩) rfl (by simp[ri,aO]);rcases fj i ls.length with ab|aP;obtain⟨x,x1,x2,x3⟩:=a6 i ab;refine⟨x,by rw[nT (by omega)];exact x1,?_,x3⟩;rw[nU ab];exact cR.keep x2 g2 (kN x2 hr (by decide));obtain rfl:i=ls.length:=by simp at hi;omega
   refine⟨u,by rw[oM (by omega)];simp[aN],?_,λb q ha=>?_⟩;simp only[vA (cJ _),mZ,oN];exact cR.keep (fE.low hu aA) g2 (kN hu hr (by decide));have:=(cR.blk hu q).1;have:=hA b ha;omega;rintro X e1 bo ⟨aQ,ax⟩ aM _ a5 _;obtain⟨a9,c9,rfl,_,_⟩:=aQ.own.row;refine dq (e1.fe ah aw) λy k2 a7=>hq _ _ ⟨e1.trans k2 (λx _ Y=>.inr (.inl Y)) (λx _ Y=>.inl Y),(hL.keep e1 λb q W=>aK W q).keep k2 λb q e=>ae b (.inr q) e,_,a7,ax,aQ.keep k2 (λb q e=>?_) λu x b hu q _ e=>?_⟩;rcases ax b q with h|h;exact ae b (.inl h) e;have:=cP.lt_of_heap ah;omega;have:=(cR.blk hu q).1;have:=S.o;omega
  refine⟨λO=>?_,λO=>?_⟩;refine jZ rfl ⟨λC=>?_,λC=>?_⟩;exact jZ rfl (take (by trivial) (by unfold vp;rw[O,C];rfl) λl' G h=>⟨_,rfl,h⟩);refine cu (cr hC.b1 rfl) (ei ⟨λP=>?_,λP=>?_⟩);exact take (by trivial) (by unfold vp;rw[O,C,P];rfl) λl' G h=>⟨_,rfl,h⟩;exact⟨_,rfl,same _ (Ext.refl _) (by unfold vp;rw[C,Bool.false_or,P,Bool.and_false])⟩;refine cu (cr hC.b1 rfl) (ei ⟨λP=>?_,λP=>?_⟩);refine⟨λC=>?_,λC=>?_⟩;exact jZ rfl (take (by trivial) (by unfold vp;rw[O,C,P];rfl) λl' G h=>⟨_,rfl,h⟩);refine cu (cr hC.b1 rfl) (ei ⟨λh4=>?_,λh4=>?_⟩);exact take (by trivial) (by unfold vp;rw[O,C,P,h4];rfl) λl' G h=>⟨_,rfl,h⟩;exact⟨_,rfl,same _ (Ext.refl _) (by unfold vp;rw[C,Bool.false_or,h4,Bool.and_false])⟩;exact lx rfl ⟨_,rfl,same _ (Ext.refl _) (by unfold vp;rw[O,Bool.false_or,P,Bool.false_and])⟩;have h:¬(l.length:Int)=(fT H r[d]).tries:=ee h;rw[GP _ _ _ _ _ _ h]at U⊢
  refine fW (eS H-j) (λk (_:cq)=>[(0,.slice D l.length E),(1,i64 j),(2,cM db),(3,cM ob),(4,cM wb),(5,cM xb),(6,cM gb),(11,i64 (j+k:Nat))])
   (λk aC G=>LC w wp d (fT H r[d]) db ob wb xb gb G/\GL G (.slice D l.length E) l/\cW (λb=>b=ob\/cH R b\/cH (.slice D l.length E) b) z G/\G.heap[ob]? =some (.cells #[aC] 66)/\(∀b,cH aC b->cH R b\/z.heap.size<=b)/\ki A m G aC (ls++og (eS H) r[d] (fT H r[d]) f l j k)) R ⟨by trivial,hC,hL,cW.refl _ _,ah,λb q=>.inl q,by simpa[og]using ho⟩ ?_
  rintro k M X hk ⟨af,ar,k1,am,Z,aD⟩;have aR:=hW.ext af.e;obtain⟨sa,sc,g1,g2,g3,g4⟩:=aR.at_;refine cu (cr af.b3 rfl) (cu g1 (dg (last_at aR.g) (ue ⟨λan=>?_,λan=>?_⟩)));have ab:k<eS H-j:=by have:=dO an;omega
  obtain⟨b,o,rfl,hc⟩:=g4 d hd;have a8:j+k<6:=by omega
  have ba:(j+k)/2<3:=by omega
  have aS:X.cell? ⟨b,o+d*8+4+(j+k)/2,none⟩=some (.bool (nO r[d] ((j+k)/2))):=by
   have:(ly r[d])[4+(j+k)/2]? =some (.bool (nO r[d] ((j+k)/2))):=by
    obtain h0|h0|h0:(j+k)/2=0\/(j+k)/2=1\/(j+k)/2=2:=by omega
    all_goals rw[h0];rfl
   have:=hc _ _ this;rwa[<-vF]at this
  have skip:∀y,Ext X y->o9 r[d] l (j+k)=true->LC w wp d (fT H r[d]) db ob wb xb gb y/\GL y (.slice D l.length E) l/\cW (λb=>b=ob\/cH R b\/cH (.slice D l.length E) b) z y/\y.heap[ob]? =some (.cells #[M] 66)/\(∀b,cH M b->cH R b\/z.heap.size<=b)/\ki A m y M (ls++og (eS H) r[d] (fT H r[d]) f l j (k+1)):=λy F hs=>by refine⟨af.keep S (F.keep λ_=>False) λ_ _ h=>h.elim,ar.keep (F.keep λ_=>False) λ_ _ h=>h,k1.trans (F.keep λ_=>False) (λ_ _ h=>h) λ_ _ h=>h.elim,F.at_ am,Z,?_⟩;rw[pP,cB hs,List.append_nil];exact aD.ext F
  refine cX cV (cK (cr af.b3 rfl) (cK g2 (cK (cr af.b4 rfl) (dx (i64 ((j+k)/2:Nat)) (λy _=>kG (n:=2) (by omega) (by omega) ⟨rfl,Ext.refl _⟩) (gE d 8 hd (dx (.pointer (some ⟨b,o+d*8+4+(j+k)/2,none⟩)) (λy _=>xg 3 ba ⟨rfl,Ext.refl _⟩) (cK aS ⟨λO=>?_,λO=>?_⟩)))))));exactλy F=>jZ rfl (cF ⟨ab,M,by trivial,skip y F (by simp[o9,O])⟩)
  have aT:∀{Q:QW} {l0:L} {y:cn},Sub [(0,.slice D l.length E),(1,i64 j),(2,cM db),(3,cM ob),(4,cM wb),(5,cM xb),(6,cM gb),(11,i64 (j+k:Nat))] l0->Ext X y->o9 r[d] l (j+k)=false->(∀ao N ac G,(∃B,LC w wp d (fT H r[d]) db ob wb xb gb G/\GL G (.slice D l.length E) l/\cW (λb=>b=ob\/cH R b\/cH (.slice D l.length E) b) z G/\G.heap[ob]? =some (.cells #[B] 66)/\(∀b,cH B b->cH R b\/z.heap.size<=b)/\ki A m G B (ls++og (eS H) r[d] (fT H r[d]) f l j (k+1)))->Q .normal ((85,ao)::(82,N)::(81,ac)::(84,i64 ((j+k:Nat)+1))::(83,i64 (j+k:Nat))::(80,i64 (j+k:Nat))::(79,.slice D l.length E)::(78,Iq db ob wb xb gb)::[(0,.slice D l.length E),(1,i64 j),(2,cM db),(3,cM ob),(4,cM wb),(5,cM xb),(6,cM gb),(11,i64 (j+k:Nat))]) G)->dM V.prog 86 (fU Tryz.f165 9) l0 y Q:=λ{Q l0 y} hs F aU hq=>by
   refine dM.jN hs ?_;clear hs skip;have aE:=af.keep S (F.keep λ_=>False) λ_ _ h=>h.elim;have ag:GL y (.slice D l.length E) l:=ar.keep (F.keep λ_=>False) λ_ _ h=>h;have k2:=k1.trans (F.keep λ_=>False) (λ_ _ h=>h) λ_ _ h=>h.elim;have aV:=F.at_ am;have au:=aD.ext F;have s2:z.heap.size<=y.heap.size:=k2.size;have ay:∀b,cH M b->m<=b:=λb q=>(Z b q).elim (aH b) λh=>cZ aA h;have ap:∀b,cH (.slice D l.length E) b->b<y.heap.size:=λb q=>ag.blk q;have ad:∀b,cH M b->b<y.heap.size:=λb q=>by obtain⟨cs,h⟩:=au.SF q;exact cP.lt_of_heap h
   obtain⟨o1,bb,bc⟩:∃o1:Obj,(∀b,cH (.slice D l.length E) b->y.heap[b]? =some o1)/\∀b,cH (.slice D l.length E) b->∃cs,o1=.cells cs 3:=by by_cases Y:∃b,cH (.slice D l.length E) b;obtain⟨b,q⟩:=Y;obtain⟨cs,bd⟩:=ag.c3 q;exact⟨.cells cs 3,λb' W=>by rw[EH q W];exact bd,λ_ _=>⟨cs,rfl⟩⟩;exact⟨.cells #[] 3,λb q=>absurd ⟨b,q⟩ Y,λb q=>absurd ⟨b,q⟩ Y⟩
   obtain⟨o2,av⟩:∃o2:Obj,∀b cs,cH (.slice D l.length E) b->o1=.cells cs 3->o2=.cells (cs.setIfInBounds l.length (i64 (j+k:Nat))) 3:=by
    cases o1 with
    |cells cs t fz=>exact⟨.cells (cs.setIfInBounds l.length (i64 (j+k:Nat))) 3,λb aj _ e=>by injection e with e;rw[e]⟩
    |_=>exact⟨.cells #[] 3,λb aj _ e=>by cases e⟩
   have f9:∀{b},(b=ob\/cH M b\/cH (.slice D l.length E) b\/y.heap.size<=b)->b=ob\/m<=b:=λ{b} h=>by rcases h with h|h|h|h;exact .inl h;exact .inr (ay _ h);exact .inr (aa _ h).1;exact .inr (by omega)
   refine hH 7 (RY (.slice D l.length E) o1 o2) (iF (λb=>b=ob\/cH M b\/cH (.slice D l.length E) b\/y.heap.size<=b)) (λa b h=>h.k.trans (cW.refl (λ_=>False) b) (λx _ Y=>.inr (.inr (.inl Y))) λ_ _ h=>h.elim) ?_;refine .exact (Iq db ob wb xb gb) (λw3 T=>cu (cr (T.fe aE.b5 λJ=>by have:=S.g;rcases f9 J with h|h<;>omega) rfl) ⟨rfl,(RY _ _ _).refl _⟩) ?_;refine .Je (λv w3=>∃K,v=.slice (some ⟨K,0,none⟩) 1 1/\y.heap.size<=K/\w3.heap[K]? =some (.cells [Value.int .i64 (j+k:Nat)].toArray 3)) (λv a b ⟨K,O,C,P⟩ e=>⟨K,O,C,e.k.fe P λJ=>by have:=ap K J;omega⟩) (λw3 T=>eg [i64 (j+k:Nat)] 3 λw4 K e4 ak q=>⟨⟨K,rfl,cZ T.size ak,q⟩,e4.ea _ _ _⟩) ?_;refine .early rfl (RZ y.heap.size (.slice D l.length E) o2 (l++[j+k])) (λv a b h e=>h.ea e ap) (λw3 T ac be=>?_) ?_;obtain⟨K,rfl,ak,al⟩:∃K,ac=.slice (some ⟨K,0,none⟩) 1 1/\y.heap.size<=K/\w3.heap[K]? =some (.cells [Value.int .i64 (j+k:Nat)].toArray 3):=be;exact MU (ag.ea T av) (λb q=>(T.n b o1 q (bb b q)).imp id (·.2)) T.k.size (by omega) al av bc λv w4 O C=>⟨O,C⟩;refine .exact (i64 ((j+k:Nat)+1)) (λw3 _=>cF (m:=(j+k:Nat)) (n:=1) ⟨rfl,(RY _ _ _).refl _⟩) ?_
   refine .spec (λv w3=>GL w3 (.slice D l.length E) l/\∃B,w3.heap[ob]? =some (.cells #[B] 66)/\(∀b,cH B b->cH M b\/y.heap.size<=b)/\ki A m w3 B ((ls++og (eS H) r[d] (fT H r[d]) f l j k)++kh (eS H) r[d] (fT H r[d]) f (l++[j+k]) (j+k+1)))
    (λv a b ⟨O,B,C,P,h4⟩ e=>⟨O.ea e av,B,e.k.fe C λJ=>ae ob (.inr J) rfl,P,h4.keep e.k (λb q W=>by obtain⟨cs,q1⟩:=h4.SF q;obtain⟨aj,q2⟩:=O.c3 W;exact fS q1 q2 (by decide)) λu x b hu q ha J=>ha (aa b J).2⟩) (λw3 T N aq=>?_) ?_
   have aq:RZ y.heap.size (.slice D l.length E) o2 (l++[j+k]) N w3:=aq;have az:GL w3 N (l++[j+k]):=by rcases aq with⟨_,_,_,_,_,_,h⟩|⟨_,_,_,_,h⟩<;>exact h
   have aF:∀b,cH N b->cH (.slice D l.length E) b\/y.heap.size<=b:=λb q=>by rcases aq with⟨b',c',k',q1,rfl,_⟩|⟨b',c',q1,rfl,_⟩;exact .inl (by rw[q1,mI (l':=0) (c':=0) q];exact⟨_,_,rfl⟩);exact .inr (by rw[mI (l':=0) (c':=0) q];exact q1)
   have bf:=aE.keep S T.k λb _ J=>.inr (aa b J).1;have bg:ki (λb=>A b\/cH N b) m w3 M (ls++og (eS H) r[d] (fT H r[d]) f l j k):=by have O:=au.more (A':=λb=>A b\/cH N b) λb q=>q.elim .inl λq=>(aF b q).imp (λh=>(aa b h).2) id;exact O.keep T.k (λb q W=>by obtain⟨cs,q1⟩:=au.SF q;obtain⟨aj,q2⟩:=ag.c3 W;exact fS q1 q2 (by decide)) λu x b hu q ha J=>ha (.inl (aa b J).2)
   have bp:(l++[j+k]).length=l.length+1:=by simp
   have aW:(if o9 r[d] l (j+k)then []else kh (eS H) r[d] (fT H r[d]) f (l++[j+k]) (j+k+1))=kh (eS H) r[d] (fT H r[d]) f (l++[j+k]) (j+k+1):=by rw[aU];rfl
   have an:=MV (eS H) r[d] (fT H r[d]) f l j (show k+1<=eS H-j by omega);rw[pP,aW,jA]at an;have ih:=yQ hW hd S f (l++[j+k]) (j+k+1) N M (ls++og (eS H) r[d] (fT H r[d]) f l j k) (λb=>A b\/cH N b) w3 (by omega) (by omega) (by omega) (λs hs=>by rcases jH.1 hs with hs|hs;exact aG s hs;rw[iJ.1 hs];exact a8) bf az (λb q=>⟨(aF b q).elim (λh=>(aa b h).1) λh=>by omega,.inr q⟩) (λb q=>q.elim (λh=>by have:=hA b h;have:=T.k.size;omega) λh=>az.blk h) (by have:=T.k.size;omega) (T.k.fe aV λJ=>ae ob (.inr J) rfl) bg ay (by rw[jA];omega);refine cD ih ?_;rintro v w4 ⟨kk,bh,B,q1,q2,q3⟩;refine⟨⟨?_,B,q1,λb q=>(q2 b q).imp id λh=>cZ T.k.size h,q3.more λb q=>.inl (.inl q)⟩,kk.trans (cW.refl (λ_=>False) w4) (λx _ Y=>?_) λ_ _ h=>h.elim⟩;rcases aq with⟨b',c',k',q4,rfl,q5,_⟩|⟨b',c',q4,rfl,_⟩;injection q4 with q4 q6 q7;subst q4 q6 q7;obtain⟨b2,c2,aL,z1,z2,z3,z4,z5⟩:=bh.v (by omega);injection z1 with z1 _ z6;have:=cT Addr.block (cO z1);simp only at this;subst this;subst z6;refine .inr ⟨_,_,aL,rfl,a1,z3,z4,λi hi=>?_⟩;have:=z5 i (by omega);rwa[nU hi]at this;refine(ag.ea T av).keep kk λb q J=>?_;rcases J with h|h|h;exact ae b (.inr q) h;obtain⟨cs,x1⟩:=au.SF h;obtain⟨aj,x2⟩:=ag.c3 q;exact fS x1 x2 (by decide);have:=ap b q;have:=mI (l':=0) (c':=0) h;omega;rcases Y with h|h|h;exact .inl h;exact .inr (.inl h);exact .inr (.inr (aF x h));rintro w3 T ao ⟨O,B,C,P,h4⟩ N _ ac _;refine hq ao N ac w3 ⟨B,aE.keep S T λb _ J=>f9 J,O,k2.trans T (λx _ Y=>Y) λx Y J=>?_,C,λb q=>?_,?_⟩;rcases J with h|h|h|h;exact .inl h;rcases Z x h with h|h;exact .inr (.inl h);omega;exact .inr (.inr h);omega;rcases P b q with h|h;exact Z b h;exact .inr (by omega);rw[pP,aU,<-List.append_assoc];exact h4
  refine kX (yA ⟨λC=>?_,λC=>?_⟩);have C:0<l.length:=by simpa using C
  obtain⟨bl,c,cs,e,q1,q2,q3,q4⟩:=ar.v C;injection e with e bq bi;subst e;subst bi;have bj:=q4 (l.length-1) (by omega);have br:=aG _ (ef (show l.length-1<l.length by omega));refine kX (ti (iK (l.length-1) (by omega) (cK (v:=i64 (l[l.length-1]:Nat)) (cr q2 (by rw[cG];exact bj)) (dx (i64 (l[l.length-1]/2:Nat)) (λy _=>kG (n:=2) (by omega) (by omega) ⟨rfl,Ext.refl _⟩) (dx (i64 ((j+k)/2:Nat)) (λy _=>kG (n:=2) (by omega) (by omega) ⟨rfl,Ext.refl _⟩) (Ed λy F=>⟨λP=>?_,λP=>?_⟩)))) (by omega)));have P:l[l.length-1]/2=(j+k)/2:=Int.ofNat.inj (dO P);exact cF ⟨ab,M,by trivial,skip y F (by simp[o9,C,EG C,P])⟩;have P:¬l[l.length-1]/2=(j+k)/2:=λe=>ee P (by rw[e]);exact aT (by trivial) F (by simp[o9,O,C,EG C,P]) λao N ac G ⟨B,hJ⟩=>cF ⟨ab,B,by trivial,hJ⟩;have C:¬0<l.length:=by simpa using C
  exactλy F=>lx rfl (aT (by trivial) F (by simp[o9,O,C]) λao N ac G ⟨B,hJ⟩=>cF ⟨ab,B,by trivial,hJ⟩);have aP:k=eS H-j:=by have:=ee an;omega
  subst aP;exact⟨_,rfl,k1,ar,M,am,Z,aD⟩
def Ext.yR(h:Ext w t)(k:cW A t e)(c:∀b,A b->w.heap.size<=b):Ext w e:=
 ⟨k.os.trans h.os,k.tape.trans h.tape,k.output.trans h.output,cZ h.size k.size,cZ h.drawn k.drawn,λx a=>(k.block x (dE a h.size) λd=>by have:=c x d;omega).trans (h.block x a)⟩
theorem gU.low{a:List cz}(h:gU m w x a)(b:k<=m):gU k w x a:=by obtain⟨c,d,e,f⟩:=h;exact⟨c,d.low b,e,λg i=>by obtain⟨u,j,l⟩:=f g i;exact⟨u,j,l.low b⟩⟩
def EI{wp gp mk ms:Nat}{o:List Sx}(h:ll wp gp mk ms H o I w)(L:d<o.length)(F:tD 100000 o[d])(U:m<=eS H):
 Calls V.prog 120 #[cM wp,.int .i64 d,.int .i64 m] w (fi λv M=>Ext w M/\gU w.heap.size M v (fX H o[d] m)):=by
 have t:=h.g.uh;have W:=yP t;refine gd Tryz.func120 Tryz.ntmps120 ?_;refine ej λX A G Y e=>ej λN B u O f=>?_;have e:X.heap[A]? =some (.cells #[cM wp] 133):=e;have f:N.heap[B]? =some (.cells #[i64 d] 3):=f;refine cu (cr (u.at_ e) rfl) (cu (cr f rfl) (cD (MS (h.ext (G.trans u)) L F) ?_));rintro v w3 ⟨rfl,P⟩;refine eD λw4 C Z J x=>dq x λQ k5 j=>?_;have j:Q.heap[C]? =some (.cells (nR d (fT H o[d])).toArray 101):=j.trans (cT (λa=>some (Obj.cells a 101)) (dC (pm 101).toArray (nR d (fT H o[d])) rfl));have p:Ext N Q:=P.trans (Z.cC k5 J);have aa:=cP.lt_of_heap e;have ab:=cP.lt_of_heap f;have ac:=cP.lt_of_heap j;refine eD λR D y ad l=>eD λw7 E e7 K z=>dq z λq k8 i=>?_;have l:R.heap[D]? =some (.cells #[.slice none 0 0] 66):=l;have ae:=cP.lt_of_heap l;have i:q.heap[E]? =some (.cells #[Iq C D A B E] 209):=i;have af:=cP.lt_of_heap i;have r:Ext R q:=e7.cC k8 K;have s1:=G.size;have s2:=u.size;have s3:=P.size;have s5:=p.size;have s6:=y.size;have s8:=r.size;have S:LS w.heap.size q.heap.size C D A B E:=⟨by omega,by omega,by omega,by omega,by omega,by omega⟩;have T:Ext w q:=((G.trans u).trans p).trans (y.trans r);have hC:LC w wp d (fT H o[d]) C D A B E q:=⟨T,(y.trans r).at_ j,((u.trans p).trans (y.trans r)).at_ e,(p.trans (y.trans r)).at_ f,i⟩;have c:∀b,¬cH (.slice none 0 0) b:=λb n=>by obtain⟨_,_,n⟩:=n;cases n
 have n:=(rT t o[d] m).1;have hg:=yQ h L S (eS H+1) [] m (.slice none 0 0) (.slice none 0 0) [] (λ_=>False) q (by omega) (fV _) U (λs hs=>by cases hs) hC (.inl ⟨rfl,rfl⟩) (λb n=>absurd n (c b)) (λb n=>n.elim) (cJ _) (r.at_ l) ⟨[],cR.nil _ _ _ _,rfl,λk hk=>by simp at hk⟩ (λb n=>absurd n (c b)) (by show 0+(fX H o[d] m).length<=100000;omega);refine cu (cr i rfl) (cD hg ?_);rintro v w9 ⟨k9,_,ov,q1,q2,q3⟩;refine cu (cr q1 rfl) ⟨_,rfl,T.yR k9 λb n=>?_,q3.own.low (by omega)⟩;rcases n with h|h|h;omega;exact absurd h (c b);exact absurd h (c b)
theorem Vo:Ef 64 66 [.slice none 0 0]:=⟨by kernel_rfl,Tryz.t66,_,by kernel_rfl,rfl,by kernel_rfl,by kernel_rfl,by decide+kernel,by decide⟩
theorem gU.keep{n0:Nat}{w w':cn}{v:cq}{e:List cz}{F:cN}(h:gU n0 w v e)(k:cW F w w')(f:∀b a t,F b->w.heap[b]? =some (.cells a t)->t=27\/t=3->False):gU n0 w' v e:=by obtain⟨l,g,m,n⟩:=h;refine⟨l,g.keep k λb c d=>?_,m,λi o=>?_⟩;obtain⟨a,q⟩:=g.c_ c;exact f b a 27 d q (.inl rfl);obtain⟨u,p,j⟩:=n i o;refine⟨u,p,cR.keep j k λb c d=>?_⟩;obtain⟨a,q⟩:=cR.c_ j c;exact f b a 3 d q (.inr rfl)
theorem gU.QV{n0:Nat}{w w':cn}{v:cq}{c:List cz}{F:cN}(h:gU n0 w v c)(k:cW F w w')(d:∀b,n0<=b->¬F b):gU n0 w' v c:=by obtain⟨g,e,j,l⟩:=h;refine⟨g,e.keep k λb a=>d b (e.blk a).1,j,λi m=>?_⟩;obtain⟨u,n,f⟩:=l i m;exact⟨u,n,cR.keep f k λb a=>d b (cR.blk f a).1⟩
def jp(n0:Nat)(w:cn)(v:cq)(lss:List (List cz)):Prop:=∃a:dr,cR n0 66 [.slice none 0 0] w v lss.length a/\a.length=lss.length/\∀k (h:k<lss.length),∃u,a[k]? =some u/\gU n0 w u lss[k]
section
variable{n0:Nat}{w w':cn}{v:cq}{lss:List (List (List Nat))}
theorem jp.ext(h:jp n0 w v lss)(e:Ext w w'):jp n0 w' v lss:=by obtain⟨a,b,c,d⟩:=h;refine⟨a,b.ext e,c,λk f=>?_⟩;obtain⟨u,g,i⟩:=d k f;exact⟨u,g,i.ext e⟩
theorem jp.gG{m:Nat}(h:jp n0 w v lss)(e:iV m w w'):jp n0 w' v lss:=by obtain⟨a,b,c,d⟩:=h;refine⟨a,b.gG e,c,λk f=>?_⟩;obtain⟨u,g,i⟩:=d k f;exact⟨u,g,i.gG e⟩
theorem jp.keep{F:cN}(h:jp n0 w v lss)(k:cW F w w')(d:∀b a t,F b->w.heap[b]? =some (.cells a t)->t=66\/t=27\/t=3->False):jp n0 w' v lss:=by obtain⟨f,e,g,j⟩:=h;refine⟨f,e.keep k λb c l=>?_,g,λi m=>?_⟩;obtain⟨a,q⟩:=e.c_ c;exact d b a 66 l q (.inl rfl);obtain⟨u,n,o⟩:=j i m;exact⟨u,n,o.keep k λb a t c p r=>d b a t c p (.inr r)⟩
theorem jp.v_(h:jp n0 w v lss):∃a c,v=.slice a lss.length c:=by obtain⟨d,b,_⟩:=h;obtain⟨a,c,e,_⟩:=b.len;exact⟨a,c,e⟩
theorem jp.nil(n0:Nat)(w:cn):jp n0 w (.slice none 0 0) []:=⟨[],cR.nil _ _ _ _,rfl,λk a=>by simp at a⟩
end
theorem MY{w:cn}{k:nd}{z:Array Bool}{n0:Nat}{v:cq}{lss:List (List cz)}(h:jp n0 w v lss)(m:n0<=w.heap.size){b c:Nat}{u:cq}{o:List cz}(p:gU n0 w u o)(e:w.heap[b]? =some (.cells [u].toArray 66))(f:lss.length+1<=1000000) (A:∀g w',jp n0 w' g (lss++[o])->cW (cH v) w w'->(∀b,cH g b->n0<=b)->k g w'):zV V.prog (builtin .append #[64,64] T z #[v,.slice (some ⟨b,0,none⟩) 1 c]) w k:=by
 obtain⟨B,r,s,C⟩:=h;have j:u.oneCell'=true:=by obtain⟨a,c,rfl,_⟩:=p.row;rfl
 have d:∀b t T,cH v b->sd w b t T->T=27\/T=3->False:=λb t T e D E=>by obtain⟨F,q⟩:=r.c_ e;exact fS q D (by rcases E with rfl|rfl<;>decide)
 refine gq Vo r m e f (λg w' y n K=>A g w' ⟨B++[u],by simpa using y,by simp[s],λi G=>?_⟩ n λb e=>(y.blk e).1) rfl (by simp[ri,j]);rcases fj i lss.length with l|H;obtain⟨x,I,J⟩:=C i l;refine⟨x,by rw[nT (by omega)];exact I,?_⟩;rw[nU l];exact J.keep n d;obtain rfl:i=lss.length:=by simp at G;omega
 refine⟨u,by rw[oM (by omega)];simp[s],?_⟩;simp only[vA (cJ _),mZ,oN];exact p.keep n d
def EJ(n0:Nat)(w:cn)(b:Nat):Prop:=n0<=b/\∃a t c,w.heap[b]? =some (.cells a t c)
theorem cR.NY{a:Type}{n0:Nat}{z:cq}{w:cn}{v:cq}{d:dr}{l:List a}{E:cn->cq->a->Prop}(h:cR n0 T [z] w v l.length d)(j:∀k (h:k<l.length),∃u,d[k]? =some u/\E w u l[k]):jk (EJ n0 w) E z T w v l:=by obtain⟨m,⟨n,rfl⟩|⟨b,c,e,o,rfl,f,g,p,x,q,r⟩⟩:=h;exact .inl ⟨oL n,rfl⟩;simp only[eI,fB,oi,cG]at m g;refine .inr ⟨b,c,e,(0,0),⟨o,e,T,(0,0),f⟩,rfl,f,g,p,λk i=>?_,λk i y=>?_⟩;obtain⟨u,s,t⟩:=j k i;exact⟨u,by rw[q k (by omega)];exact s,t⟩;rw[r k (by omega) (by omega)];simp[Nat.mod_one]
theorem fE.NY{n0:Nat}{w:cn}{v:cq}{l:cz}(h:fE n0 w v l):uZ (EJ n0 w) w v l:=cR.NY h λk a=>⟨i64 l[k],by simp[jy,eV a],rfl⟩
theorem gU.NY{n0:Nat}{w:cn}{v:cq}{a:List cz}(h:gU n0 w v a):xX (EJ n0 w) w v a:=by obtain⟨g,b,i,c⟩:=h;exact cR.NY b λk d=>by obtain⟨u,e,f⟩:=c k d;exact⟨u,e,f.NY⟩
theorem jp.NY{n0:Nat}{w:cn}{v:cq}{lss:List (List cz)}(h:jp n0 w v lss):tW (EJ n0 w) w v lss:=by obtain⟨f,a,g,b⟩:=h;exact cR.NY a λk c=>by obtain⟨u,d,e⟩:=b k c;exact⟨u,d,e.NY⟩
theorem yS(b c d:cq)(a:gC):(dt b c d a).size=3+a.length:=by simp[dt];omega
theorem z0(a b c:cq)(d:gC)(k:Nat)(v:Int):(dt a b c d).setIfInBounds (3+k) (.int .i64 v)=dt a b c (d.set k v):=by unfold dt;rw[show 3+k=k+1+1+1 by omega];simp[List.map_set]
theorem yT(a b d u:cq)(c:gC):(dt a b d c).setIfInBounds 2 u=dt a b u c:=by unfold dt;simp
theorem z7(G:Gd)(a:Nat):iD G a 0=List.replicate 32 0:=by unfold iD;simp only[Nat.not_lt_zero,eF];rfl
theorem oF(G:Gd)(a k:Nat)(c:k<32):iD G a (k+1)=(iD G a k).set k (pQ G a k):=by
 apply List.ext_getElem?;intro i;unfold iD;rw[List.getElem?_set,so,so];simp only[tF,List.length_range];rcases fj i 32 with b|b;rw[List.getElem?_range b];by_cases e:k=i;subst e;simp[c];simp only[e,eF,jJ];have:(i<k+1)=(i<k):=by apply propext;omega
 simp[this];rw[Hs (by simpa using b)];have:¬k=i:=by omega
 simp[this]
theorem EK:∀s:Nat,s<32->∀a:Nat,a<32->(decide (b8 .andNot s a=0))=Pu s a:=by decide+kernel
theorem Pw:∀n:Nat,n<=5->IntKind.u8.wrap (1*2^n)=((2^n:Nat):Int):=by decide+kernel
theorem TQ:∀n:Nat,n<=5->∀s:Nat,s<2^n->s<32/\∀d∈fl s,d<n:=by decide+kernel
theorem BX{w:cn}{k:nd}{x y:dw}{m n:Nat}(b:m+n<256)(h:k (.int .u8 ((m+n:Nat):Int)) w):jj V.prog (do eqGuard .add T x y (.int .u8 m) (.int .u8 n);binOp .add T (.int .u8 m) (.int .u8 n)) w k:=by refine⟨_,w,?_,h⟩;go_simp;have a:IntKind.u8.signed=false:=rfl;unfold IntKind.wrap;simp[IntKind.bits,a];omega
theorem Ir{f:IntKind}{t b o:Nat}{w:cn}{k:nd}(a n:Nat)(m:a<n)(h:k (.pointer (some ⟨b,o+a,none⟩)) w)(g:I=(a:Nat):=by rfl)(i:ty t=some ⟨2,n,1,n⟩:=by rfl):jj V.prog (Instr.indexAt t (.pointer (some ⟨b,o,none⟩)) (.int f I)) w k:=by
 subst g;obtain⟨e,j,l⟩:=Eb i rfl;refine⟨_,w,?_,h⟩;have c:(a:Int)<(n:Int):=by omega
 have d:(0:Int)<=(a:Int):=by omega
 unfold Instr.indexAt;simp only[asIntOf,Instr.sureAddr,pure_bind,Sem.run_bind,gB j,Result.andThen_ok,Sem.run_pure,d,c,and_self,dF,lJ l,mT,iB,oi]
theorem QX{w:cn}{s:cU}{b:Nat}{e f g:cq}{c:gC}{k:Nat}{v:Int}(i:w.heap[b]? =some (.cells (dt e f g c) 207))(m:k<c.length)(h:∀w',cW (λx=>x=b) w w'->w'.heap[b]? =some (.cells (dt e f g (c.set k v)) 207)->s w'):DO V.prog (Instr.storeAt 3 (.pointer (some ⟨b,3+k,none⟩)) (.int .i64 v)) w s:=
 iT i (by rw[yS];show 3+k+1<=_;omega) (λw' j d=>h w' j (d.trans (cT (λa=>some (Obj.cells a 207)) (z0 _ _ _ _ _ _)))) (fK (l:=[i64 v]) rfl)
def MZ(a:cq)(w:cn):Calls V.prog 186 #[a] w (fi λv b=>v=a/\b=w):=by refine gd Tryz.func186 Tryz.ntmps186 ?_;exact⟨_,rfl,rfl,rfl⟩
def R2:gC:=List.replicate 32 0
def yU{wp gp mk ms n0:Nat}{f:List Sx}(h:ll wp gp mk ms H f I w)(hA:∀b,A b->b<w.heap.size)(hp:kQ A mk ms H w)(ax:n0<=mk)(ay:n0<=ms)(az:∀x∈f,tD 100000 x)(P:k<=eS H):
 Calls V.prog 162 #[cM wp,.int .i64 k] w (fi λv D=>MA n0 mk ms H A w D/\∃s,v=cM s/\fg (EJ w.heap.size D) s (jo H f k) D):=by
 have ak:=h.g.uh;have h5:=ak.many;have al:=h.len;refine gd Tryz.func162 Tryz.ntmps162 ?_;refine dg (MZ _ _) (cD (xh h) ?_);rintro ov w1 ⟨e1,am⟩;have aI:=lN H.tries f;obtain⟨L,Q,rfl,_,aK⟩:=am.row;refine dS (.agg (dt (cM wp) (.slice L (dn H.tries f).length Q) (.slice none 0 0) R2)) (ej λw2 s e2 aL E=>?_);have E:w2.heap[s]? =some (.cells (dt (cM wp) (.slice L (dn H.tries f).length Q) (.slice none 0 0) R2) 207):=E;refine cu (cr E rfl) (cS ?_);obtain⟨O,hO⟩:∃O,O=Value.slice L (dn H.tries f).length Q:=⟨_,rfl⟩;have aJ:(dn H.tries f).length<=5:=by omega
 have s1:=e1.size;have E2:=e1.trans e2;refine gT (n:=(dn H.tries f).length) (λi v=>[(0,cM wp),(1,i64 k),(5,cM s),(21,.slice L (dn H.tries f).length Q),(22,i64 (dn H.tries f).length),(23,i64 i)]) (λi v D=>Ext w D/\fE w.heap.size D O (dn H.tries f)/\D.heap[s]? =some (.cells (dt (cM wp) O v R2) 207)/\jp w.heap.size D v (mH H f k i)) (.slice none 0 0) ⟨by trivial,E2,by rw[hO];exact am.ext e2,by rw[hO];exact E,by simpa[mH]using jp.nil _ _⟩ ?_ ?_ ?_;rintro i v M hk hJ;exact du ⟨rfl,rfl,by trivial,hJ⟩;rintro i v M hk ⟨e3,B,j,C⟩;have R:fN M L (dn H.tries f):=by obtain⟨a,c,q1,q2,_⟩:=B.row;rw[hO]at q1;injection q1 with q1;rw[q1];exact q2
 obtain⟨b,o,rfl,hc⟩:=R i hk;have F:=kO (ef hk);obtain⟨d,hd⟩:∃d,d=(dn H.tries f)[i]:=⟨_,rfl⟩;rw[<-hd]at hc F;refine fw i hk (cu hc ?_);have S:∀b,cH v b->w.heap.size<=b/\b<M.heap.size:=λb l=>by obtain⟨us,hr,_⟩:=C;exact hr.blk l
 have ad:¬cH v s:=λl=>by obtain⟨us,hr,_⟩:=C;obtain⟨cs,q⟩:=hr.c_ l;exact fS q j (by decide)
 refine hH 10 cV (iF (cH v)) (λa b h=>h.keep _) ?_;refine .exact v (λy G=>cu (cr (G.fe j ad) rfl) ⟨rfl,Ext.refl _⟩) ?_;refine .rel (λu y=>gU M.heap.size y u (fX H f[d] k)) (λu a b hu e=>hu.QV e λx T ae=>by have:=(S x ae).2;omega) (λy G=>?_) ?_;have aA:Ext w y:=e3.yR G λx T=>(S x T).1;exact cD (EI (h.ext aA) F (az _ (ef F)) P) λu w5 ⟨e5,hu⟩=>⟨hu.low G.size,e5⟩;refine .rel (λx y=>∃N u,x=.slice (some ⟨N,0,none⟩) 1 1/\M.heap.size<=N/\y.heap[N]? =some (.cells [u].toArray 66)/\gU M.heap.size y u (fX H f[d] k)) (λx a b ⟨N,u,h1,h2,h3,h4⟩ e=>⟨N,u,h1,h2,e.fe h3 (λP=>by have:=(S N P).2;omega),h4.QV e λx T ae=>by have:=(S x ae).2;omega⟩) (λy G u hu=>?_) ?_;refine eg [u] 66 (λw5 N e5 an l=>⟨⟨N,u,rfl,cZ G.size an,l,gU.ext hu e5⟩,e5⟩) ?_;obtain⟨a2,c2,rfl,_⟩:=gU.row hu;intro w;kernel_rfl;refine .spec (λv' y=>jp w.heap.size y v' (mH H f k (i+1))) (λv a b h1 e=>h1.ext e) (λy G ao aB aC aM=>?_) ?_;obtain⟨N,u,rfl,an,ap,hu⟩:∃N u,ao=.slice (some ⟨N,0,none⟩) 1 1/\M.heap.size<=N/\y.heap[N]? =some (.cells [u].toArray 66)/\gU M.heap.size y u (fX H f[d] k):=aB;refine MY (C.ext G) (by have:=e3.size;have:=G.size;omega) (hu.low e3.size) ap (by simp[mH];omega) λv' w5 g1 g2 _=>⟨?_,g2⟩;have:mH H f k (i+1)=mH H f k i++[fX H f[d] k]:=by unfold mH;rw[jc hk,vB,lq,vC,<-hd,getD_eq F]
 rw[this];exact g1;rintro y G aN aq ao _ aC _;obtain⟨a9,c9,rfl⟩:=jp.v_ aq;refine dq (G.fe j ad) λw5 k5 aD=>cF ⟨_,by trivial,(e3.yR G λx T=>(S x T).1).cC k5 (by omega),?_,aD.trans (cT (λa=>some (Obj.cells a 207)) (yT _ _ _ _ _)),aq.keep k5 λb cs t l hc ht=>?_⟩;refine cR.keep (cR.keep B G λb l P=>?_) k5 λb l P=>?_;obtain⟨us,hr,_⟩:=C;obtain⟨cs,q⟩:=hr.c_ P;obtain⟨ar,q'⟩:=cR.c_ B l;exact fS q q' (by decide);subst P;obtain⟨ar,q'⟩:=cR.c_ B l;exact fS j q' (by decide);subst l;exact fS (G.fe j ad) hc (by rcases ht with rfl|rfl|rfl<;>decide);rintro v M ⟨e3,B,j,C⟩;subst hO;have U:jp w.heap.size M v (jo H f k).lists:=by
  have:mH H f k (dn H.tries f).length=(jo H f k).lists:=by unfold mH jo;rw[mW]
  rw[<-this];exact C
 clear C;have R:fN M L (dn H.tries f):=by obtain⟨a,c,q1,q2,_⟩:=B.row;injection q1 with q1;rw[q1];exact q2
 have h3:=h.ext e3;obtain⟨sa,sc,g1,g2,g3,g4⟩:=h3.at_;obtain⟨da,dc,d1,d2⟩:=h3.g.c6;refine cu (cr j rfl) (dg (rS (dn H.tries f) L Q M R (λd hd=>by have:=kO hd;omega) (by omega)) (cu g1 (cu d1 (cS (RL (by omega) ?_)))));rw[Pw _ h5];have aO:2^H.doors.length<=32:=Nat.pow_le_pow_right (by omega) h5;obtain⟨p,W⟩:∃p,p=io (dn H.tries f):=⟨_,rfl⟩;rw[<-W];have J:p<32:=by rw[W];exact tl _ 0 (by omega) λd hd=>by have:=kO hd;omega
 have aP:=cP.lt_of_heap j;have s3:=e3.size;have aE:kQ (λx=>A x\/x=s) mk ms H M:=(hp.more (A':=λx=>A x\/x=s) λb l=>l.imp id λh=>by omega).ext e3;refine eE (n:=2^H.doors.length) (λi=>[(0,cM wp),(5,cM s),(8,.int .u8 p),(55,.int .u8 (2^H.doors.length:Nat)),(56,.int .u8 i)]) (λi D=>iV n0 w D/\kQ (λx=>A x\/x=s) mk ms H D/\fE w.heap.size D (.slice L (dn H.tries f).length Q) (dn H.tries f)/\D.heap[s]? =some (.cells (dt (cM wp) (.slice L (dn H.tries f).length Q) v (iD H p i)) 207)/\jp w.heap.size D v (jo H f k).lists) ⟨by trivial,e3.gG n0,aE,B,by rw[z7];exact j,U⟩ ?_ ?_ ?_;rintro i y hk hJ;exact du ⟨rfl,rfl,by trivial,hJ⟩;rintro i y hk ⟨m4,af,ag,z,U⟩;have r:i<32:=by omega
 have aQ:=uu H p i;refine Ir i 32 r (QX z (by omega) λw5 k5 X=>?_);have Y:∀{a b:cn},cW (λx=>x=s) a b->a.heap[s]? =some (.cells (dt (cM wp) (.slice L (dn H.tries f).length Q) v (iD H p i)) 207)\/a.heap[s]? =some (.cells (dt (cM wp) (.slice L (dn H.tries f).length Q) v ((iD H p i).set i (-1))) 207)->fE w.heap.size a (.slice L (dn H.tries f).length Q) (dn H.tries f)->jp w.heap.size a v (jo H f k).lists->fE w.heap.size b (.slice L (dn H.tries f).length Q) (dn H.tries f)/\jp w.heap.size b v (jo H f k).lists:=λkk l ha hl=>by refine⟨cR.keep ha kk λx T P=>?_,hl.keep kk λx cs t P hc ht=>?_⟩;obtain⟨ar,q'⟩:=cR.c_ ha T;subst P;rcases l with l|l<;>exact fS l q' (by decide);subst P;rcases l with l|l<;>exact fS l hc (by rcases ht with rfl|rfl|rfl<;>decide)
 obtain⟨ah,ai⟩:=Y k5 (.inl z) ag U;have m5:iV n0 w w5:=m4.cC k5 (by omega);have aj:=af.keep k5 λx T=>.inr T;refine Pn _ rfl (fD ⟨λhn=>?_,λhn=>?_⟩);have K:Pu i p=false:=by rw[<-EK i r p J];simpa using hn
 refine BX (m:=i) (n:=1) (by omega) ⟨by trivial,m5,aj,ah,?_,ai⟩;rw[oF _ _ _ r,pQ,K];exact X;have K:Pu i p=true:=by rw[<-EK i r p J];simpa using hn
 have au:=h.gG m5;obtain⟨aR,aS,z1,z2,z3,z4⟩:=au.at_;have aF:∀b,(A b\/b=s)->b<w5.heap.size:=λb l=>l.elim (λl=>by have:=hA b l;have:=m5.size;omega) λe=>by subst e;exact cP.lt_of_heap X
 refine cu z1 (cD (yN au.g aF aj ax ay (TQ _ h5 i hk)) ?_);rintro v6 w6 ⟨m6,u,b,rfl,aa⟩;have av:=m5.trans m6.1;have aw:=m6.2 aj;have Z:=m6.1.at_ X;cases ab:gH H i with
 |none=>
  rw[ab]at aa;obtain⟨rfl,rfl⟩:=aa;refine lx rfl (BX (m:=i) (n:=1) (by omega) ⟨by trivial,av,aw,cR.gG ah m6.1,?_,ai.gG m6.1⟩);rw[oF _ _ _ r,pQ,K,ab];exact Z
 |some ls=>
  rw[ab]at aa;obtain⟨rfl,a,c,rfl,_,_⟩:=aa;refine jZ rfl (cS (Ir i 32 r (QX Z (by rw[xp];omega) λw7 k7 ac=>BX (m:=i) (n:=1) (by omega) ?_)));obtain⟨aG,aH⟩:=Y k7 (.inr Z) (cR.gG ah m6.1) (ai.gG m6.1);refine⟨by trivial,av.cC k7 (by omega),aw.keep k7 λx T=>.inr T,aG,?_,aH⟩;rw[oF _ _ _ r,pQ,K,ab];rw[List.set_set]at ac;exact ac
 rintro y ⟨m4,af,ag,z,U⟩;refine⟨_,rfl,⟨m4,λ_=>af.fewer λb l=>.inl l⟩,s,rfl,EF ak al k,⟨by omega,_,_,_,z⟩,cM wp,_,v,(0,0),.inr ⟨_,rfl⟩,?_,ag.NY,U.NY⟩;rw[z,W,<-al];rfl
end Go.Proofs.W
variable{R:Go.cP.dm}
namespace Go.Proofs.W
open Go.Conc Go.cP Go.cP.Cr Go.cP.Wg Go.RowKit Go.Conc.Lib Go.ConcR.Gen
open Go.ConcN Go.ConcN.Gen
open Go.ConcR (KK wgBlock WgAt stA smA mk DC0)
abbrev LF:List Nat:=[193,194]
def Vp:LF.all (okF LF true (λ_=>false))=true:=by kernel_rfl
def rU{l:gC}(h:(fP l m)[i]? =some x):∃n,x=.int .i64 n:=by
 have a:x∈(l.map (Value.int .i64)++List.replicate (m-l.kq) (Value.int .i64 0)):=by have:=mo h;simpa[fP]using this
 rcases jH.1 a with a|a;obtain⟨b,_,rfl⟩:=mq.1 a;exact⟨b,rfl⟩;exact⟨0,List.eq_of_mem_replicate a⟩
def M0(h:∀(i:Nat) v,W[i]? =some v->∃n,v=.int .i64 n):fc R W W:=
 ⟨rfl,λi v c a b=>by rw[a]at b;cases b;obtain⟨n,rfl⟩:=h i v a;exact .int _ _⟩
def Is(h:∀(i:Nat) v,W[i]? =some v->∃n,v=.int .i64 n)(a:fc R W X):X=W:=by refine Array.ext a.size.symm λi c d=>?_;have b:W[i]? =some W[i]:=iY d;have e:X[i]? =some X[i]:=iY c;have:=a.at_ i _ _ b e;obtain⟨n,f⟩:=h i _ b;rw[f]at this⊢;revert this;generalize X[i]=x;intro this;cases this;rfl
def QY(w:cn)(o:cN)(b:Nat):Prop:=o b/\∃l c a,LV a/\w.heap[b]? =some (.cells (fP l c) 3 a)
def wQ(w:cn)(A:Nat)(o:cN)(b:Nat):Prop:=b=A\/QY w o b
theorem dp.slice{w:cn}{o:cN}{s:Sp}{y:SV}{a:dm}(h:dp o w s y)(e:∀b,QY w o b->a.r b b/\a.sh b=none):VR a (.slice y.sa y.sl y.sc) (.slice y.sa y.sl y.sc):=by
 cases s with
 |none=>
  have:y=⟨none,0,0,0,0,false⟩:=h;subst this;exact .fF _ _
 |some s=>
  obtain⟨l,m,k⟩:=s;obtain⟨_,_,_,_,⟨_,c,_⟩|⟨_,d,c,f,_,_,g,i,j⟩⟩:=h;rw[c];exact .fF _ _;rw[f];obtain⟨n,p⟩:=e d ⟨c,l,y.sc,g,i,j⟩;exact .slice _ _ (.of _ _ n p)
def GQ{n:List Sp}{a:List SV}(t:A m)(u:∀b,C b->A b)(J:a.length=n.length)(f:w.heap[m]? =some (.cells W 199))(x:W.size=k*4)(K:a.length=k) (y:∀j (h:j<a.length),W[4*j]? =some (.slice a[j].sa a[j].sl a[j].sc)/\W[4*j+1]? =some (.int .i64 a[j].m)/\W[4*j+2]? =some (.int .i64 a[j].k)/\W[4*j+3]? =some (.bool a[j].b))
 (z:∀j (h:j<a.length) (L:j<n.length),dp C w n[j] a[j]):uS (oW LF (λ_=>false) (wQ w m C)) w w A B:=by
 refine⟨HR.of (λ_=>rfl) λb D o=>?_,λb D o=>?_⟩;obtain⟨rfl,p⟩:=o;rcases p with rfl|⟨g,l,c,M,E,q⟩;refine⟨_,_,f,f,.cells ⟨rfl,λi v N d r=>?_⟩ λ_ h=>h⟩;rw[d]at r;cases r;have O:i<W.size:=(eU.1 d).1;have s:i/4<a.length:=by omega
 obtain⟨F,G,H,I⟩:=y (i/4) s;have:i=4*(i/4)\/i=4*(i/4)+1\/i=4*(i/4)+2\/i=4*(i/4)+3:=by omega
 rcases this with e|e|e|e;rw[e,F]at d;cases d;exact(z _ s (by omega)).slice λb g=>⟨⟨rfl,.inr g⟩,rfl⟩;rw[e,G]at d;cases d;exact .int _ _;rw[e,H]at d;cases d;exact .int _ _;rw[e,I]at d;cases d;exact .bool _;exact⟨_,_,q,q,.cells (M0 λi v h=>rU h) λ_ h=>h⟩;obtain⟨rfl,p⟩:=o;rcases p with rfl|⟨g,_⟩;exact .inl t;exact .inl (u _ g)
def VR.Px{e:dm}(n:dm.Le R e){y:SV}(p:VR R (.slice y.sa y.sl y.sc) (.slice y.sa y.sl y.sc))(h:VR e y.val x):x=y.val:=by
 unfold SV.val at h;cases h with
 | @agg _ d o q=>
  have r:fc e #[.slice y.sa y.sl y.sc,i64 y.m,i64 y.k,.bool y.b] d:=⟨o,q⟩;have s:d.size=4:=o.symm
  have f:∀i (j:i<4),VR e (#[Value.slice y.sa y.sl y.sc,i64 y.m,i64 y.k,.bool y.b][i]'(by simpa using j)) (d[i]'(by omega)):=λi j=>
   r.at_ i _ _ (iY (by simpa using j)) (iY (by omega))
  have t:d[0]'(by omega)=.slice y.sa y.sl y.sc:=by
   have h:=f 0 (by omega);simp only[List.getElem_toArray,oN]at h;have g:=p.mono n;revert h g;generalize d[0]=z;generalize y.sa=a;intro h g;cases a with
   |none=>cases h;rfl
   |some a=>
    cases h with
    | @slice a C l c h=>
     cases g with
     |slice l c u=>
      rw[u.eq h rfl]
  have v:d[1]'(by omega)=i64 y.m:=by have h:=f 1 (by omega);simp only[List.getElem_toArray,Ht,oN]at h;revert h;generalize d[1]=z;intro h;cases h;rfl
  have w:d[2]'(by omega)=i64 y.k:=by have h:=f 2 (by omega);simp only[List.getElem_toArray,Ht,oN]at h;revert h;generalize d[2]=z;intro h;cases h;rfl
  have A:d[3]'(by omega)=.bool y.b:=by have h:=f 3 (by omega);simp only[List.getElem_toArray,Ht,oN]at h;revert h;generalize d[3]=z;intro h;cases h;rfl
  have:d=#[.slice y.sa y.sl y.sc,i64 y.m,i64 y.k,.bool y.b]:=by
   refine Array.ext (by simp[s]) λi j B=>?_;have:i=0\/i=1\/i=2\/i=3:=by omega
   rcases this with rfl|rfl|rfl|rfl;exact t;exact v;exact w;exact A
  rw[this];rfl
def GR(w:cn)(A:Nat)(o:cN)(y:SV)(x:cq)(a:cn):Prop:=x=y.val/\∀b,wQ w A o b->a.heap[b]? =w.heap[b]?
def M4{Wg A n:Nat}{own rd o:cN}{cs:dU}{B:List Sp}{a:List SV}{pl:Addr}{caller:Frame}{cl:List Frame}(hA:own A)(ho:∀b,o b->own b)(hl:a.length=B.length) (u:w.heap[A]? =some (.cells cs 199))(O:cs.size=n*4)(hn:a.length=n)(C:n<=65536) (hc:∀j (h:j<a.length),cs[4*j]? =some (.slice a[j].sa a[j].sl a[j].sc)/\cs[4*j+1]? =some (.int .i64 a[j].m)/\cs[4*j+2]? =some (.int .i64 a[j].k)/\cs[4*j+3]? =some (.bool a[j].b)) (ha:∀j (h:j<a.length) (h':j<B.length),dp o w B[j] a[j]):
 Wy PR 241 Wg true rd (λP g D=>g=G (caller.finish (di a).val) cl/\(∀b,own b->P b)/\dp (λb=>o b/\P b) D (oA B) (di a)) own
  (G (Frame.enter PR 193 #[.slice (some ⟨A,0,none⟩) n n,.func (.func 194) #[.pointer (some pl)] #[]] .normal) (caller::cl)) w:=by
 have hG:Go.cP.Good jD (oW LF (λ_=>false) (wQ w A o)):=Au Vp (by decide);have d:uS (oW LF (λ_=>false) (wQ w A o)) w w own rd:=GQ hA ho hl u O hn hc ha;have f:=Dm a B hl ha;have E:fc (oW LF (λ_=>false) (wQ w A o)) #[.tuple #[]] #[.pointer (some pl)]:=fc.one (.Bd rfl pl);have F:fc (oW LF (λ_=>false) (wQ w A o)) #[] #[]:=fc.nil
 have H:fc (oW LF (λ_=>false) (wQ w A o)) #[j7 A n n,.func (.func 194) #[.tuple #[]] #[]] #[j7 A n n,.func (.func 194) #[.pointer (some pl)] #[]]:=
  fc.KY (.slice _ _ (.mk _ _ ⟨rfl,.inl rfl⟩)) (.func rfl E.size E.at_ F.size F.at_)
 have hS:(oW LF (λ_=>false) (wQ w A o)).S 193=true:=by show LF.contains 193=true;decide
 have t:Go.cP.Reach jD (Go.cP.Left jD 193 (GR w A o (di a))) ⟨Frame.enter jD 193 #[j7 A n n,.func (.func 194) #[.tuple #[]] #[]] .normal,[floor],w⟩:=by
  refine qF (λx D T h=>h) (qK hG (λ_=>rfl) hS H d) λT hT=>?_;have I:A<w.me:=lt_of_heap u;subst hn;refine(I3 (.tuple #[]) A a (cQ w T) C I λj hj=>?_).mono ?_;obtain⟨c0,c1,c2,c3⟩:=hc j hj;have e:∀k v,cs[k]? =some v->(cQ w T).cell? (cY A k)=some v:=λk v h=>by show(match w.heap[A]? with|some (.cells cs _ _)=>_|_=>_)=_;rw[u];exact h
  rw[show j*4=4*j by omega];exact⟨e _ _ c0,e _ _ c1,e _ _ c2,e _ _ c3⟩;rintro e D ⟨rfl,Q⟩;refine⟨_,rfl,rfl,λb N=>Q.block b ?_⟩;show b<w.me;rcases N with rfl|⟨_,_,_,_,_,hw⟩;exact I;exact lt_of_heap hw
 have c:=HT (U:=λ_=>True) (λ_ _ _ _ _ _=>trivial) (ty:=241) (Wg:=Wg) (main:=true) (caller:=caller) (cs:=cl) (own:=own) (rd:=rd) hG (λ_=>rfl) hS V.func193 (R:=GR w A o (di a)) (λx D T h=>h) H t d;have c:Wy PR 241 Wg true rd (Out (λ_=>True) (GR w A o (di a)) rd (oW LF (λ_=>false) (wQ w A o)) caller cl) own (G (Frame.enter PR 193 #[j7 A n n,.func (.func 194) #[.pointer (some pl)] #[]] .normal) (caller::cl)) w:=by have e:V.prog.it (oW LF (λ_=>false) (wQ w A o)).fs=PR:=OZ;rw[e]at c;exact c
 refine(Wy.QB c).bind λP g D h=>nZ λw1 hr=>?_;obtain⟨⟨ρ,x,x',v,rfl,⟨hx,p⟩,hv,z,W,_⟩,J⟩:=h;subst hx;have X:VR (oW LF (λ_=>false) (wQ w A o)) (.slice (di a).sa (di a).sl (di a).sc) (.slice (di a).sa (di a).sl (di a).sc):=f.slice λb Q=>⟨⟨rfl,.inr Q⟩,rfl⟩;obtain rfl:=VR.Px z X hv;refine⟨rfl,J,?_⟩;have K:=W.rely hr;revert f;generalize di a=y at p⊢;generalize oA B=s;intro f;cases s with
 |none=>exact f
 |some s=>
  obtain⟨l,m,k⟩:=s;obtain⟨q1,q2,q3,q4,Y|⟨Y,q,Z,q7,q8,aa,fz,q9,L⟩⟩:=f;exact⟨q1,q2,q3,q4,.inl Y⟩;have N:wQ w A o q:=.inr ⟨Z,l,y.sc,fz,q9,L⟩;obtain⟨ob,ac,k1,k2,k3⟩:=K.heap.obj q q (z.r _ _ ⟨rfl,N⟩);replace k3:=k3.obj (by rw[<-z.g];rfl);rw[p q N,L]at k1;cases k1;cases k3 with
  | @cells _ ad _ _ ab kv kf=>
   have:=Is (λi v h=>rU h) kv;subst this;exact⟨q1,q2,q3,q4,.inr ⟨Y,q,⟨Z,J _ (ho _ Z)⟩,q7,q8,aa,ab,λM h=>q9 M (kf M h),k2⟩⟩
end Go.Proofs.W
variable{Z:cx}
namespace Go.Proofs.W
open Go.Conc Go.cP Go.cP.Cr Go.cP.Wg Go.RowKit Go.Conc.Lib Go.ConcR.Gen
open Go.ConcN Go.ConcN.Gen
open Go.ConcR (KK wgBlock WgAt stA smA mk DC0)
structure KL(pc rc A pb:Nat)(o own:Nat->Prop)(ss:List Sp)(ys:List SV)(cs:Array cq)(w:cn):Prop where
 p:w.cell? ⟨pc,0,none⟩=some (.pointer (some ⟨pb,0,none⟩))
 r:w.heap[rc]? =some (eh (di []))
 a:w.heap[A]? =some (.cells cs 199)
 s:∀j (h:j<ys.length) (h':j<ss.length),dp o w ss[j] ys[j]
def dp.rely{own rd o:cN}{L:cU}{s:Sp}{y:SV}(p:dT own rd L w t)(q:∀b,o b->own b)(h:dp o w s y):dp o t s y:=by
 cases s with
 |none=>exact h
 |some s=>
  obtain⟨l,m,k⟩:=s;obtain⟨f,g,i,j,a|⟨a,c,n,r,u,d,v,x,e⟩⟩:=h;exact⟨f,g,i,j,.inl a⟩;exact⟨f,g,i,j,.inr ⟨a,c,n,r,u,d,v,x,p.obj (.inl (q _ n)) e⟩⟩
def dp.mono{s:Sp}{y:SV}(n:∀b,A b->B b)(h:dp A w s y):dp B w s y:=by
 cases s with
 |none=>exact h
 |some s=>
  obtain⟨l,m,k⟩:=s;obtain⟨f,g,i,j,a|⟨a,c,o,p,q,d,r,t,e⟩⟩:=h;exact⟨f,g,i,j,.inl a⟩;exact⟨f,g,i,j,.inr ⟨a,c,n _ o,p,q,d,r,t,e⟩⟩
def dp.same{s:Sp}{y:SV}(o:∀b,A b->t.heap[b]? =w.heap[b]?)(h:dp A w s y):dp A t s y:=by
 cases s with
 |none=>exact h
 |some s=>
  obtain⟨l,m,k⟩:=s;obtain⟨f,g,i,j,a|⟨a,c,n,p,q,d,r,u,e⟩⟩:=h;exact⟨f,g,i,j,.inl a⟩;exact⟨f,g,i,j,.inr ⟨a,c,n,p,q,d,r,u,(o _ n).trans e⟩⟩
theorem KL.rely{f g A pb:Nat}{o own rd:cN}{L:cU}{ss:List Sp}{ys:List SV}{cs:dU}(d:rd f)(e:own g)(i:own A)(k:∀b,o b->own b):nN own rd L (KL f g A pb o own ss ys cs):=λ_ _ c h=>
 ⟨c.cell (.inr d) h.p,c.obj (.inl e) h.r,c.obj (.inl i) h.a,λj d l=>(h.s j d l).rely c k⟩
def Vq(o:cN)(e:List Sp)(d:List SV)(a:Frame)(f:List Frame):gW:=λc g w=>g=G (a.finish (di d).val) f/\dp (λb=>o b/\c b) w (oA e) (di d)
def Wy.Vr{rd X:cN}{S:gW}(h:Wy P T m D (λb=>rd b\/X b) S A Z w):
 Wy P T m D rd (λo Z j=>∃q,S q Z j/\∀b,o b↔q b\/X b) (λb=>A b\/X b) Z w:=by
 obtain⟨B,h⟩:=h
 have g:∀{A:cN} {w i:cn},dT (λb=>A b\/X b) rd (Lv T m) w i->dT A (λb=>rd b\/X b) (Lv T m) w i:=λc=>
  ⟨c.tape,c.os,c.output,c.size,λb k u=>c.heap b k (u.elim (λh=>.inl (.inl h)) λh=>h.elim .inr λh=>.inl (.inr h)),c.live⟩
 induction h with
 | @here _ A _ _ h=>exact nZ λi c=>⟨A,h i (g c),λb=>mS⟩
 | @step _ A _ _ v x C y=>
  refine kT v λi c=>?_;obtain⟨s,j,t,f,e,d⟩:=x i (g c);refine⟨s,j,t,λb=>f b\/X b,e,⟨d.tape,d.os,d.output,d.size,λb=>?_,λb k l=>d.same b k λh=>l (.inl h),λe z=>?_⟩,y i s j t f (g c) e d⟩;constructor;rintro(h|h);exact((d.owns b).1 h).imp .inl id;exact .inl (.inr h);rintro((h|h)|h);exact .inl ((d.owns b).2 (.inl h));exact .inr h;exact .inl ((d.owns b).2 (.inr h));rcases d.evs e z with⟨a,n,rfl,h⟩|⟨r,n,rfl,h⟩|rfl;refine .inl ⟨a,n,rfl,?_⟩;rcases h with h|⟨h,p|p⟩|h;exact .inl (.inl h);exact .inr (.inl ⟨h,p⟩);exact .inl (.inr p);exact .inr (.inr h);exact .inr (.inl ⟨r,n,rfl,h.imp .inl id⟩);exact .inr (.inr rfl)
def JD{e:qO}{m:I4}{Z d oc Wg Ch n pb A:Nat}{rd own o:cN}{ss:List Sp}{ys:List SV}{cs:dU}{caller:Frame}{cl:List Frame}(K:e.x2=.pointer (some ⟨d,0,none⟩))(h1:rd Z)(M:own d)(hA:own A)(ho:∀b,o b->own b)(F:¬o d)(N:A≠d) (hl:ys.length=ss.length)(aa:cs.size=n*4)(hn:ys.length=n)(O:n<=65536) (I:∀j (h:j<ys.length),cs[4*j]? =some (.slice ys[j].sa ys[j].sl ys[j].sc)/\cs[4*j+1]? =some (.int .i64 ys[j].m)/\cs[4*j+2]? =some (.int .i64 ys[j].k)/\cs[4*j+3]? =some (.bool ys[j].b)) (x7 ab ac ad ae af ag ah ai:cq):WK PR 241 Wg true rd (Vq o ss ys caller cl) own (KL Z d A pb o own ss ys cs) (HX e m Z oc Wg Ch n A x7 ab ac ad ae af ag ah ai (caller::cl)):=by
 have i:=KL.rely (pb:=pb) (ss:=ss) (ys:=ys) (cs:=cs) (L:=Lv 241 Wg) h1 M hA ho;simp only[HX,lG,Av,xS];refine WK.val (v:=?_) i rfl rfl (by k_ne) (λw=>?_) (λw=>?_) ?_;rotate_left;go_simp;rfl;go_simp;walk_nrm;refine WK.ctl i rfl (λ_=>cE)<|WK.ctl i rfl (λ_=>cI)<|WK.ctl i rfl (λ_=>stepG_cond (t:=false) rfl) ?_;simp only[ik,eF];refine WK.ctl i rfl (λ_=>stepG_exit rfl)<|WK.ctl i rfl (λ_=>cI)<|WK.ctl i rfl (λ_=>gi) ?_;simp only[Ao,gK,eI,fB,Nat.reduceAdd,cG,List.range,List.range.loop];refine WK.val (v:=?_) i rfl rfl (by k_ne) (λw=>?_) (λw=>?_) ?_;rotate_left;go_simp;rfl;go_simp;walk_nrm;refine WK.load (v:=dI pb) i rfl rfl (by k_ne) (λw q=>?_) (λw q e z=>?_) ?_;have I:=(λw q=>q.p) w q;go_simp;have I:=(λw q=>q.p) w q;simp[go_sem,I]at z;exact .inl ⟨_,_,z,.inr (.inl ⟨rfl,h1⟩)⟩;walk_nrm;refine WK.val (v:=?_) i rfl rfl (by k_ne) (λw=>?_) (λw=>?_) ?_;rotate_left;go_simp;rfl;go_simp;walk_nrm;refine WK.enter (f:=193) (fn:=Tryz.f193) i rfl rfl (by k_ne) rfl Tryz.func193 rfl rfl ?_;simp only[List.map_toArray,lq,vC];intro w q;have P:own=λb=>(own b/\b≠d)\/b=d:=funext λb=>propext ⟨λh=>(Classical.em (b=d)).elim .inr λh'=>.inl ⟨h,h'⟩,λh=>h.elim (·.1) λe=>e▸M⟩
 have H:∀T,Wy PR 241 Wg true rd (λU g V=>∃J:cN,((g=G (T.finish (di ys).val) (caller::cl)/\(∀b,(own b/\b≠d)->J b)/\dp (λb=>o b/\J b) V (oA ss) (di ys))/\∀b,b=d->V.heap[b]? =w.heap[b]?)/\∀b,U b↔J b\/b=d) own
  (G (Frame.enter PR 193 #[j7 A n n,.func (.func 194) #[dI pb] #[]] .normal) (T::caller::cl)) w:=λT=>by
  have:=Wy.Vr (X:=λb=>b=d) (rd:=rd) (Wy.keep (B:=λb=>b=d) (λb C=>by subst C;exact⟨.inr rfl,λh=>h.2 rfl,lt_of_heap q.r⟩) (M4 (rd:=λb=>rd b\/b=d) (own:=λb=>own b/\b≠d) (Wg:=Wg) (A:=A) (n:=n) (pl:=(cY pb 0)) ⟨hA,N⟩ (λb C=>⟨ho b C,λe=>F (e▸C)⟩) hl q.a aa hn O I q.s (cl:=caller::cl) (caller:=T)));exact(λ(X:cN) (e:X=λb=>(own b/\b≠d)\/b=d)=>by rw[e];exact this:∀X:cN,(X=λb=>(own b/\b≠d)\/b=d)->Wy PR 241 Wg true rd _ X _ w) own P
 refine(H _).bind ?_;rintro U g w1 ⟨J,⟨⟨rfl,ak,E⟩,Q⟩,y⟩;rw[Frame.finish_at];have aj:w1.heap[d]? =some (eh (di [])):=(Q d rfl).trans q.r
 have u:∀s,nN U rd (Lv 241 Wg) λw=>w.heap[d]? =some (eh s)/\dp (λb=>o b/\J b) w (oA ss) (di ys):=λs w w1 Y h=>
  ⟨Y.obj (.inl ((y d).2 (.inr rfl))) h.1,h.2.rely Y λb C=>(y b).2 (.inl C.2)⟩
 refine WK.write (bl:=d) (W:=λw V=>V.heap[d]? =some (eh (di ys))) (u (di [])) rfl rfl (by k_ne) ((y d).2 (.inr rfl)) (λw q=>?_) (λw q e z=>?_) ?_ w1 ⟨aj,E⟩;obtain⟨c0,c1,c2,c3,f0,f1,f2,f3⟩:=dY q.1;have hp:=kK (s:=di ys) q.1;refine⟨jd w d (di ys),?_,rfl,rfl,rfl,pB _ _ _,λc I=>oV _ _ _ I,hp⟩;simp only[SV.val,jd];go_simp;obtain⟨c0,c1,c2,c3,f0,f1,f2,f3⟩:=dY q.1;simp only[SV.val]at z;have D:∀(w:cn) (D:Array Event) (a:Addr) (m:Mode) (x:ek) (l c:Nat),(store a (.slice x l c) m).events PR w D=storedEv PR w D a (.slice x l c) m:=λw D a m x l c=>events_store PR w D a _ m rfl;have eb:∀(w:cn) (D:Array Event) (a:Addr) (m:Mode) (x:Bool),(store a (.bool x) m).events PR w D=storedEv PR w D a (.bool x) m:=λw D a m x=>events_store PR w D a _ m rfl;simp[go_sem,D,eb,K,c0,c1,c2,c3,f0,f1,f2,f3]at z;have R:U d:=(y d).2 (.inr rfl);rcases z with z|z|z|z<;>exact .inl ⟨_,_,z,.inl R⟩;refine WK.mono (K':=λw=>w.heap[d]? =some (eh (di ys))/\dp (λb=>o b/\J b) w (oA ss) (di ys)) ?_ ?_;rotate_left;rintro w ⟨w2,w3,q,hW,hs,S,Y⟩;refine u _ _ _ Y ⟨hW,q.2.same λb C=>S b λe=>F (e▸C.1)⟩;walk_nrm;refine WK.ctl (u _) rfl (λ_=>cE)<|LU (u _) (λw h=>h.1) ((y d).2 (.inr rfl)) (by simp[K]) rfl ?_;refine WK.stop (u _) λw h=>⟨rfl,h.2.mono λb C=>⟨C.1,(y b).2 (.inl C.2)⟩⟩
end Go.Proofs.W
variable{S:cn->Prop}
namespace Go.Proofs.W
open Go.Conc Go.cP Go.cP.Cr Go.cP.Wg Go.RowKit Go.Conc.Lib Go.ConcR.Gen
open Go.ConcN Go.ConcN.Gen
open Go.ConcR (KK wgBlock WgAt stA smA mk DC0)
def Py(e:qO)(b c d f h n:Nat)(i:cN)(Q:cU)(j:Nat->(cN)->cn->cq->Prop)(k:List Frame):gW:=λa g w=>∃m A,Tn e m b c d f A h n i Q j k a g w
def GS{e:qO}{H:Nat->(cN)->cn->cq->Prop}{I:List Frame}(R:p<=65536)(M:A k)(J:A i)(N:qP A S)(T:xU H) (O f l n q r t u y z B C D E F:cq):
 WK PR 241 j true A (nX PR 241 j o p A (Dd H) (Py e k i j o s p A S H I) qQ p (λ_=>false)) (λx=>cL x\/x=d) (KA k i j o d s A S (·=madeCells mj.cells (p*4)))
  (G (kD.at (xS e k i j p O (.slice (some ⟨d,0,none⟩) p p) undef f l n q r t u y z B C D E F (.slice (some ⟨d,0,none⟩) p p) undef undef undef undef undef undef undef undef undef undef) [.code (nw.seq kU)]) I):=by
 have a:nN (λx=>cL x\/x=d) A (Lv 241 j) (KA k i j o d s A S (·=madeCells mj.cells (p*4))):=KA.rely M J (.inr rfl) N;refine WK.ctl a rfl (λ_=>cI) ?_;unfold nw;refine WK.ctl a rfl (λ_=>cI)<|WK.ctl a rfl (λ_=>gi) ?_;simp only[uW,xS,gK,eI,fB,Nat.reduceAdd,cG,List.range,List.range.loop];refine WK.load (v:=.chan (some o)) a rfl rfl (by k_ne) (λw b=>?_) (λw b e P=>?_) ?_;have Q:=(λw b=>b.s.k.o) w b;go_simp;have Q:=(λw b=>b.s.k.o) w b;simp[go_sem,Q]at P;exact .inl ⟨_,_,P,.inr (.inl ⟨rfl,J⟩)⟩;walk_nrm;refine WK.ctl a rfl (λ_=>cE)<|WK.ctl a rfl (λ_=>qz)<|WK.ctl a rfl (λ_=>stepG_loop)<|WK.mono (K':=KR k i j o d s p A S H (λx=>cL x\/x=d) (λ_=>false)) ?_ ?_
 exact hears (e:=e) (m:=⟨O,f,l,n,q,r,t,u,y,z,B,C,D,E,F,j7 d p p⟩) (λU g w h=>⟨_,d,h⟩) R M J N T p (λ_=>false) _ fR fR fR fR fR fR fR fR fR fR (by
  have:qR (λ_=>false) p=0:=by
   have:∀c,qR (λ_=>false) c=0:=λc=>by
    induction c with
    |zero=>rfl
    |succ c V=>
     have:qR (λ_=>false) (c+1)=qR (λ_=>false) c+0:=rfl;rw[this,V]
   exact this p
  omega)
 rintro w ⟨W,⟨I,X,rfl⟩,K,L⟩;exact⟨W,⟨_,X,size_madeCells _ _,λY _ h=>by cases h⟩,.inr rfl,K,L⟩
def BY{e:qO}{m o c Ch n p L C O:Nat}{Q:cU}{rd:cN}{Pv:Nat->(cN)->cn->cq->Prop}{cs:List Frame}(y:n<=65536)(t:rd m)(u:rd o)(q:¬rd c)(v:qP rd Q)(P:xU Pv)(R:0<L) (S:∀w,Q w->LM p h L C a n O w)(B:rd p)(D:rd h.block)
 (d:∀i E w,i<n->KW m E o c Ch ⟨p,0,none⟩ i (λw=>Q w/\∀b,rd b->b<w.heap.size) w->Wy PR 241 c false (λb=>rd b\/b=E) (Sends PR 241 c Ch (Dd Pv) i) cL (born PR (call188 m E o c)) w):
 WK PR 241 c true rd (Sr c Ch n rd (Dd Pv) (Py e m o c Ch p n rd Q Pv cs) n) cL (KS m o c Ch ⟨p,0,none⟩ rd Q) (G (kD.at (mD e m o c n 0 undef undef undef undef undef undef) [.code fI,.inLoop fI,.inBlock 0,.code iM]) cs):=by
 have T:=Rw (e:=e) (cs:=cs) (pl:=(cY p 0)) (Q:=Q) (val:=Dd Pv) (End:=Py e m o c Ch p n rd Q Pv cs) (Nat.lt_of_le_of_lt y (by decide)) t u q v d (λx f g j k l=>
  Da (z:=qQ) t u q v (λx r f g j k l s=>Gb y t u v R S B D x r f g j k l s λA F H I J K M N=>GS y t u v P x r f g j k l s F H I J K M N) x f g j k l) n (cJ _) fR fR fR fR fR fR
 rwa[mZ]at T
def yV(a:cn)(B:cN)(w:cn):Prop:=∀b,B b->w.heap[b]? =a.heap[b]?
def M5(h:∀b,B b->A b):qP A (yV w B):=λ_ _ c d b a=>(c b (h b a)).trans (d b a)
def vq{w0:cn}{B rd:cN}(h:∀b,B b->rd b)(c:∀b,B b->b<w0.heap.size):wD rd (yV w0 B):=λw i _ g e b a=>by have d:=c b a;have f:=e b a;rw[iY d]at f;exact(g b (lt_of_heap f) (h b a)).trans (e b a)
def Dk.same{f:ek}(b:B m)(c:B h.block)(d:Dk m a k i h j o f p s t)(w:cn)(e:yV t B w):Dk m a k i h j o f p s w:=
 ⟨(gA (e m b)).trans d.f1,(gA (e m b)).trans d.ls.f2,(gA (e _ c)).trans d.ls.l0⟩
def JE(a:Nat->Sp)(j:Nat)(b:cN)(w:cn)(v:cq):Prop:=∃y:SV,v=y.val/\dp b w (a j) y
def M6(a:Nat->Sp):xU (JE a):=λ_ _ _ _ _ b ⟨y,c,d⟩=>⟨y,c,d.same b⟩
def R3(b:Nat->Sp)(j:Nat)(o:cN)(w:cn)(v:cq):Prop:=∃a:cN,(∀x,a x->o x/\x<w.heap.size)/\JE b j a w v
theorem It{a:Type}(P:Nat->a->Prop):∀n,(∀j,j<n->∃y,P j y)->∃l:List a,l.length=n/\∀j (h:j<l.length),P j l[j]
 |0,_=>⟨[],rfl,λj h=>by cases h⟩
 |n+1,h=>by
  obtain⟨l,b,d⟩:=It P n λj c=>h j (by omega);obtain⟨y,e⟩:=h n (by omega);refine⟨l++[y],by simp[b],λj c=>?_⟩;rw[List.getElem_append];split;exact d j _;have:j=n:=by simp at c;omega
  subst this;simpa[b]using e
def GT(c:cn)(B:cN)(d n:Nat)(e:Nat->Sp):Prop:=∀(a:cN) (f i:Nat),i<n->(∀b,B b->a b)->Qz a f ⟨d,0,none⟩ i (yV c B) (R3 e i)
def JF{X B:cN}{gs:Array cx}{sl:Option (Nat×Nat)}{t:Trace}{q:Nat->Nat}{pb on oc1 L C n c0:Nat}{oa a0:ek}{la:Addr}{M:Nat->Sp}{caller:Frame}{cl:List Frame} (O:∀b,B b->b<w.heap.size/\¬X b)(aA:0<on)(hL:0<L)(aa:Dk pb oa on oc1 la L C a0 n c0 w)(P:B pb)(R:B la.block)(hn:n<=65536)(W:GT w B pb n M) (f:Df PR X gs (G (Frame.enter PR 163 #[.pointer (some ⟨pb,0,none⟩)] .normal) (caller::cl)) w t q):∃(N:Nat) (ab:Array cx) (H:cn) (aB:Option (Nat×Nat)) (t':Trace) (q':Nat->Nat) (X' o:cN) (y:SV),runNT PR N (crowd gs w sl) t=(.next (crowd ab H aB),t')/\Df PR X' ab (G (caller.finish y.val) cl) H t' q'/\(H.tape=w.tape/\H.os=w.os/\H.output=w.output)/\w.heap.size<=H.heap.size/\(∀b,b<w.heap.size->H.heap[b]? =w.heap[b]?)/\dp o H (oA ((List.range n).map M)) y/\(∀b,o b->w.heap.size<=b/\b<H.heap.size/\¬X' b)/\∀b,X' b->X b\/w.heap.size<=b:=by
 have ac:∀(Wg:Nat) (w:cn) (d:Nat),Lv 241 Wg w->Lv 241 Wg (w.at d):=λ_ _ _ h=>h;have ad:wD B (yV w B):=vq (λ_ h=>h) λb f=>(O b f).1;obtain⟨τ,h1⟩:=LR (cs:=caller::cl) ad aA hL (λU hq=>aa.same P R U hq) P R (λb f=>(O b f).1) w ⟨(λx I=>by cases I),List.Pairwise.nil,(λx I=>by cases I),cJ _,λ_ _=>rfl⟩;obtain⟨N1,aT,U,aD,t1,q1,aR,a1,r1,b1,⟨e,J,rc,oc,Wg,Ch,c,rfl,aE,F,aS⟩,u,aU⟩:=sZ (ac 0) (λo g w h=>by obtain⟨_,_,_,_,_,_,_,rfl,_⟩:=h;rfl) h1 gs sl t q f λb f=>by rcases f with f|f;exact f.elim;exact⟨(O b f).2,(O b f).1⟩
 have aW:=F.at_ (Wg,wgBlock 241 0 0) (by simp);have ao:=F.at_ (oc,Obj.cells #[.chan (some Ch)] 232) (by simp);have aC:=F.at_ (Ch,Obj.chan 0 #[] false c c false) (by simp);have ar:=F.at_ (rc,Obj.cells #[jK,i64 0,i64 0,.bool false] 199) (by simp);have ap:=F.at_ (J,Obj.cells #[dI pb] 200) (by simp);have lW:=F.lo (Wg,wgBlock 241 0 0) (by simp);have lo:=F.lo (oc,Obj.cells #[.chan (some Ch)] 232) (by simp);have lC:=F.lo (Ch,Obj.chan 0 #[] false c c false) (by simp);have lr:=F.lo (rc,Obj.cells #[jK,i64 0,i64 0,.bool false] 199) (by simp);have lp:=F.lo (J,Obj.cells #[dI pb] 200) (by simp);have V:=F.inc;simp only[lq,vC,List.pairwise_cons,eO,mu,jW,forall_eq_or_imp,forall_eq]at V;obtain⟨⟨i1,i2,i3,i4⟩,⟨i5,i6,i7⟩,⟨i8,i9⟩,aF,_⟩:=V;simp only at aW ao aC ar ap lW lo lC lr lp i1 i2 i3 i4 i5 i6 i7 i8 i9 aF;have r:∀b,X b->b<w.heap.size:=f.low;have ae:w.heap.size<=U.heap.size:=u.size;have aG:¬(B Wg\/Wg=J\/Wg=oc):=by rintro(h|h|h);have:=(O _ h).1;omega;omega;omega
 have aH:=BY (e:=e) (cs:=caller::cl) (Ch:=Ch) (rd:=λb=>B b\/b=J\/b=oc) (Pv:=JE M) hn (.inr (.inl rfl)) (.inr (.inr rfl)) aG (M5 λ_ h=>.inl h) (M6 M) hL (λU hq=>(aa.same P R U hq).ls) (.inl P) (.inl R)
  λi ic H hi hk=>worker (k:=i) (rd:=λb=>(B b\/b=J\/b=oc)\/b=ic) (Q:=yV w B) (Sc:=R3 M i) (val:=Dd (JE M)) (.inl (.inr (.inl rfl))) (.inr rfl) (.inl (.inr (.inr rfl)))
   (vq (λ_ h=>.inl (.inl h)) λb f=>(O b f).1) (W _ Wg i hi λ_ h=>.inl (.inl h)) (λo w a l c m n s h=>by obtain⟨oj,h1,h2⟩:=h;exact⟨a,l,c,m,n,s,oj,rfl,h1,h2⟩) H ⟨hk.p,hk.i,hk.o,hk.live,hk.q.1⟩
 have hS:ow PR 241 Wg Ch n (λb=>B b\/b=J\/b=oc) (Dd (JE M)) (Py e J oc Wg Ch pb n (λb=>B b\/b=J\/b=oc) (yV w B) (JE M) (caller::cl)) n cL
  (G (kD.at (mD e J oc Wg n 0 undef undef undef undef undef undef) [.code fI,.inLoop fI,.inBlock 0,.code iM]) (caller::cl)) U:=by
  rw[Ap];refine aH U ⟨⟨by simp[World.cell?,ap],by simp[World.cell?,ao],λb f=>?_,F.q⟩,⟨0,0,aW⟩⟩;rcases f with f|rfl|rfl;exact dE (O b f).1 ae;exact lt_of_heap ap;exact lt_of_heap ao
 obtain⟨N2,m2,t2,r2,af,w2,aI,a2,q2,z,rfl,aJ,⟨m,A,x7,ag,ah,ai,aj,ak,al,am,an,rfl,Y⟩,aK,aL,S,D,aq,K,au⟩:=phase (sl:=aD) (by omega) b1.at0 b1.leavers b1.past (λb f=>by rcases f with f|rfl|rfl;have:=(O b f).1;exact⟨by omega,(O b f).2,by omega,by omega⟩;exact⟨lt_of_heap ap,λI=>by have:=r _ I;omega,by omega,by omega⟩;exact⟨lt_of_heap ao,λI=>by have:=r _ I;omega,by omega,by omega⟩) (by omega:Wg≠Ch) (λI=>by have:=r _ I;omega) (λI=>by have:=r _ I;omega) aW aC hS;obtain⟨cs,hA,aM,av⟩:=Y.a
 obtain⟨ys,aw,hP⟩:=It (λj (y:SV)=>(cs[4*j]? =some (.slice y.sa y.sl y.sc)/\cs[4*j+1]? =some (i64 y.m)/\cs[4*j+2]? =some (i64 y.k)/\cs[4*j+3]? =some (.bool y.b))/\
  dp (λb=>z b/\b≠A) w2 (M j) y) n λj hj=>by
  obtain⟨sa,sl,sc,mm,k,b,oj,g1,g2,g3,g4,g5,y,hy,hs⟩:=av j hj rfl;obtain⟨ya,yl,yc,ym,yk,yb⟩:=y;simp only[nx,SV.val]at hy;injection hy with hy;simp at hy;obtain⟨⟨rfl,rfl,rfl⟩,rfl,rfl,rfl⟩:=hy;exact⟨_,⟨g2,g3,g4,g5⟩,hs.mono λb f=>⟨(g1 b f).1,(g1 b f).2.1⟩⟩
 have aN:rc<U.heap.size:=lt_of_heap ar;have ax:¬z rc:=λh=>by have:=(S _ h).1;omega
 have ay:=Y.oa
 have Z:=JD (e:=e) (m:=m) (pb:=pb) (Ch:=Ch) (oc:=oc) (rd:=λb=>B b\/b=J\/b=oc) (own:=λb=>z b\/b=rc) (o:=λb=>z b/\b≠A) (ss:=(List.range n).map M) (ys:=ys) (cs:=cs) (caller:=caller) (cl:=cl) (Wg:=Wg) aE (.inr (.inl rfl)) (.inr rfl) (.inl ay)
  (λb f=>.inl f.1) (λh=>ax h.1) (λe=>ax (e▸ay)) (by simp[aw]) aM aw hn (λj hj=>(hP j hj).1) x7 ag ah ai aj ak al am an w2
  ⟨Y.s.k.p,(D rc aN (by omega) (by omega)).trans ar,hA,λj h1 h2=>by simpa using(hP j h1).2⟩
 obtain⟨aV,h3⟩:=Z;have b2:Df PR (λb=>b=Wg\/b=Ch\/X b) af (HX e m J oc Wg Ch n A x7 ag ah ai aj ak al am an (caller::cl)) w2 t2 q2:=⟨aJ,rfl,aK,aL,λb f=>by rcases f with rfl|rfl|f;exact au;have:=lt_of_heap aC;omega;have:=r b f;omega⟩;obtain⟨N3,aO,w3,aP,t3,q3,az,a3,r3,b3,⟨rfl,T⟩,v,aQ⟩:=sZ (ac Wg) (λo g w h=>by obtain⟨rfl,_⟩:=h;rfl) h3 af aI t2 q2 b2 λb f=>by rcases f with(f|rfl)|f|rfl|rfl;have:=S b f;exact⟨by rintro(h|h|h);exact this.2.2.1 h;exact this.2.2.2 h;have:=r b h;omega,this.2.1⟩;exact⟨by rintro(h|h|h);omega;omega;have:=r _ h;omega,by omega⟩;have:=O b f;exact⟨by rintro(h|h|h);omega;omega;exact this.2 h,by omega⟩;have:=lt_of_heap ap;exact⟨by rintro(h|h|h);omega;omega;have:=r _ h;omega,by omega⟩;have:=lt_of_heap ao;exact⟨by rintro(h|h|h);omega;omega;have:=r _ h;omega,by omega⟩
 refine⟨N1+(N2+N3),aO,w3,aP,t3,q3,λb=>b=Wg\/b=Ch\/X b,λb=>(z b/\b≠A)/\az b,di ys,Go.cP.runNT_add r1 (Go.cP.runNT_add r2 r3),b3,⟨v.tape.trans (K.1.trans u.tape),v.os.trans (K.2.1.trans u.os),v.output.trans (K.2.2.trans u.output)⟩,
  cZ ae (cZ aq v.size),λb E=>?_,T,λb E=>?_,λb E=>?_⟩
 rw[v.heap b (by omega) (by rintro(h|h);have:=(S b h).1;omega;omega),D b (by omega) (by omega) (by omega),u.heap b E (λh=>h.elim)];have h2:=S b E.1.1;have h3:=aQ b (.inl E.2);exact⟨by omega,h3.2,h3.1⟩;rcases E with rfl|rfl|h;exact .inr lW;exact .inr lC;exact .inl h
def M9(w:cn):(Instr.build 199 #[(3,.bool true)]).run PR w=.ok (.agg #[.slice none 0 0,.int .i64 0,.int .i64 0,.bool true]) w:=by kernel_rfl
def JG(w:cn):(Instr.build 199 #[(3,.bool true)]).events PR w #[]=#[]:=by kernel_rfl
def JH{o B m0:Nat}{Q:cU}{rd:cN}{caller:Frame}{cl:List Frame}(A:wD rd Q) (M:∀w,Q w->w.cell? ⟨o,1,none⟩=some (.slice a 0 B))(F:rd o)(H:∀b,rd b->b<m0):
 WK PR 241 0 true rd (λ_ g _=>g=G (caller.finish (SV.mk none 0 0 0 0 true).val) cl) cL (KO [] Q m0) (G (Frame.enter PR 163 #[.pointer (some ⟨o,0,none⟩)] .normal) (caller::cl)):=by
 rw[Dl];have N:∀x∈([]:List (Nat×Obj)),cL x.1:=λx p=>by cases p
 have C:=KO.rely (Q:=Q) (m0:=m0) (rd:=rd) (own:=cL) (L:=Lv 241 0) N A;simp only[tR,O0];refine WK.ctl C rfl (λ_=>cI)<|WK.ctl C rfl (λ_=>gi) ?_;simp only[xO,gK,eI,fB,Nat.reduceAdd,cG,List.range,List.range.loop];refine WK.Gg (f:=λn=>dI n) (ob:=.cells #[dI o] 200) N A rfl rfl (by k_ne) (λw i=>?_) (λw i e j=>?_) λr _ _=>?_
 ·go_simp;first|done|rfl
 simp[go_sem]at j;walk_nrm;have Y:∀x∈[(r,Obj.cells #[dI o] 200)],(λx=>cL x\/x=r) x.1:=λx p=>by rw[iJ.1 p];exact .inr rfl
 refine WK.Gg (f:=λn=>dI n) (ob:=.cells #[jK,i64 0,i64 0,.bool false] 199) Y A rfl rfl (by k_ne) (λw i=>?_) (λw i e j=>?_) λs _ _=>?_
 ·go_simp;first|done|rfl
 simp[go_sem]at j;walk_nrm;have O:∀x∈[(s,Obj.cells #[jK,i64 0,i64 0,.bool false] 199),(r,Obj.cells #[dI o] 200)],(λx=>(cL x\/x=r)\/x=s) x.1:=λx p=>by rcases eO.1 p with rfl|p;exact .inr rfl;rw[iJ.1 p];exact .inl (.inr rfl)
 have d:=KO.rely (m0:=m0) (L:=Lv 241 0) (own:=λx=>(cL x\/x=r)\/x=s) O A;have D:∀w,KO [(s,Obj.cells #[jK,i64 0,i64 0,.bool false] 199),(r,Obj.cells #[dI o] 200)] Q m0 w->w.cell? (cY r 0)=some (dI o):=λw i=>by have:=i.at_ (r,Obj.cells #[dI o] 200) (by simp);simp[World.cell?,this]
 refine WK.ctl d rfl (λ_=>cE)<|WK.ctl d rfl (λ_=>cI)<|WK.ctl d rfl (λ_=>cI)<|WK.ctl d rfl (λ_=>gi) ?_;simp only[xP,gK,eI,fB,Nat.reduceAdd,cG,List.range,List.range.loop];refine WK.load (v:=dI o) d rfl rfl (by k_ne) (λw i=>?_) (λw i e j=>?_) ?_;have k:=(D) w i;go_simp;have k:=(D) w i;simp[go_sem,k]at j;exact .inl ⟨_,_,j,.inl (.inl (.inr rfl))⟩;walk_nrm;refine WK.val (v:=?_) d rfl rfl (by k_ne) (λw=>?_) (λw=>?_) ?_;rotate_left;go_simp;rfl;go_simp;walk_nrm;refine WK.val (v:=?_) d rfl rfl (by k_ne) (λw=>?_) (λw=>?_) ?_;rotate_left;go_simp;rfl;go_simp;walk_nrm;refine WK.load (v:=.slice a 0 B) d rfl rfl (by k_ne) (λw i=>?_) (λw i e j=>?_) ?_;have k:=(λw i=>M w i.q) w i;go_simp;have k:=(λw i=>M w i.q) w i;simp[go_sem,k]at j;exact .inl ⟨_,_,j,.inr (.inl ⟨rfl,F⟩)⟩;walk_nrm;refine WK.val (v:=?_) d rfl rfl (by k_ne) (λw=>?_) (λw=>?_) ?_;rotate_left;go_simp;rfl;go_simp;walk_nrm;refine WK.val (v:=.bool true) d rfl rfl (by k_ne) (λw=>?_) (λw=>?_) ?_;go_simp;simp[go_sem];walk_nrm;refine WK.ctl d rfl (λ_=>cE)<|WK.ctl d rfl (λ_=>stepG_cond (t:=true) rfl) ?_;simp only[dF];refine WK.ctl d rfl (λ_=>cI)<|WK.ctl d rfl (λ_=>gi) ?_;simp only[C5,gK,eI,fB,Nat.reduceAdd,cG,List.range,List.range.loop];have I:=M9;have J:=JG;refine WK.val (v:=.agg #[jK,i64 0,i64 0,.bool true]) d rfl rfl (by k_ne) (λw=>?_) (λw=>?_) ?_
 ·go_simp;first|done|rfl|simp only[I]
 simp[go_sem,J];walk_nrm;refine WK.LQ (pre:=[]) (ob:=eh (di [])) (ob':=eh (SV.mk none 0 0 0 0 true)) O A (λb E K=>?_) rfl rfl (by k_ne) (λw i=>?_) (λw i e j=>?_) ?_
 ·have:=H b K;rcases E with(E|E)|E;exact E;all_goals omega
 have k:=i.at_ (s,eh (di [])) (by simp);obtain⟨P,R,S,T,U,V,W,X⟩:=dY k;refine⟨jd w s ⟨none,0,0,0,0,true⟩,?_,rfl,rfl,rfl,pB _ _ _,λc k=>oV _ _ _ k,kK k⟩;simp only[jd];go_simp;have k:=i.at_ (s,eh (di [])) (by simp);obtain⟨P,R,S,T,U,V,W,X⟩:=dY k;have u:∀(w:cn) (u:Array Event) (z:Addr) (m:Mode) (x:ek) (l c:Nat),(store z (.slice x l c) m).events PR w u=storedEv PR w u z (.slice x l c) m:=λw u z m x l c=>events_store PR w u z _ m rfl;have Z:∀(w:cn) (u:Array Event) (z:Addr) (m:Mode) (x:Bool),(store z (.bool x) m).events PR w u=storedEv PR w u z (.bool x) m:=λw u z m x=>events_store PR w u z _ m rfl;simp[go_sem,u,Z,P,R,S,T,U,V,W,X]at j;rcases j with j|j|j|j<;>exact .inl ⟨_,_,j,.inl (.inr rfl)⟩;walk_nrm;have h3:∀x∈[(s,eh (SV.mk none 0 0 0 0 true)),(r,Obj.cells #[dI o] 200)],(λx=>(cL x\/x=r)\/x=s) x.1:=λx p=>by rcases eO.1 p with rfl|p;exact .inr rfl;rw[iJ.1 p];exact .inl (.inr rfl)
 have y:=KO.rely (m0:=m0) (L:=Lv 241 0) (own:=λx=>(cL x\/x=r)\/x=s) h3 A;exact WK.ctl y rfl (λ_=>cE)<|LU y (λw h=>h.at_ (s,eh (SV.mk none 0 0 0 0 true)) (by simp)) (.inr rfl) (by simp) rfl<|WK.stop y λw h=>rfl
def GU{l:Array cx}{sl:Option (Nat×Nat)}{t:Trace}{q:Nat->Nat}{caller:Frame}{cl:List Frame} (f:m<w.heap.size/\¬A m)(z:w.cell? ⟨m,1,none⟩=some (.slice a 0 k))(e:Df PR A l (G (Frame.enter PR 163 #[.pointer (some ⟨m,0,none⟩)] .normal) (caller::cl)) w t q):∃(N:Nat) (j:Array cx) (i:cn) (n:Option (Nat×Nat)) (u:Trace) (C:Nat->Nat),runNT PR N (crowd l w sl) t=(.next (crowd j i n),u)/\Df PR A j (G (caller.finish (SV.mk none 0 0 0 0 true).val) cl) i u C/\(i.tape=w.tape/\i.os=w.os/\i.output=w.output)/\w.heap.size<=i.heap.size/\(∀b,b<w.heap.size->i.heap[b]? =w.heap[b]?):=by
 obtain⟨M,D⟩:=JH (caller:=caller) (cl:=cl) (vq (B:=λb=>b=m) (rd:=λb=>b=m) (w0:=w) (λ_ h=>h) λb e=>e▸f.1) (λv E=>(gA (E m rfl)).trans z) rfl (λb e=>e▸f.1) w ⟨(λx p=>by cases p),List.Pairwise.nil,(λx p=>by cases p),cJ _,λ_ _=>rfl⟩;obtain⟨F,r,v,s,H,I,y,O,J,K,rfl,c,L⟩:=sZ (λw d h=>h) (λo g w h=>by rw[h];rfl) D l sl t q e λb e=>by rcases e with e|rfl;exact e.elim;exact⟨f.2,f.1⟩
 exact⟨F,r,v,s,H,I,J,K,⟨c.tape,c.os,c.output⟩,c.size,λb e=>c.heap b e λh=>h.elim⟩
end Go.Proofs.W
namespace Go.cP
open Go.Conc
section
variable{P:cA}{fs:Array Func}{w0:cn}
def CL.ends{Q:nd}{Post:nd}{c:pt}{s:Array cx}{w:cn}{sl:Option (Nat×Nat)}{t:Trace}{q:Nat->Nat} (h:CL P fs w0 R A c s Z w t q)(hs:Left P K Q c.fr c.cl c.v){r:Func}{j:Tmp}(k:P.funcs[K]? =some r)(u:r.results=#[.tmp j])(z:R.hole K=false)(C:(P.it fs).inits.idxOf? K=none) (f:∀x S d,Q x c.v->VR R x S->Post S (w.at d)):∃N last o E T,runNT (P.it fs) (N+1) (crowd s w sl) t=(.ended o E,T)/\runN (P.it fs) N (crowd s w sl)=.next last/\Go.step (P.it fs) last=.ended o E/\Go.Conc.Good (P.it fs) Post last o E T:=by
 obtain⟨h1,F,x,h3,H,h5,h6,ab,U,l⟩:=hs;rw[F,k]at U;obtain rfl:=cO U;have a:dQ P R c.fr Z.frame:=by
  have e:=h.gor.fr;generalize a:(G c.fr c.cl).frame=fr at e;generalize V:Z.frame=b at e;cases e with
  |fr k=>subst a;exact k
  | @hole g hS hh xs ac W=>
   have:c.fr=Frame.enter P g xs .normal:=a;rw[this]at H;cases H
 obtain⟨b,ad,ae,af,ag⟩:=Z;obtain⟨I,ah,e1,J,hX⟩:=h.gor.callers;have X:=h.gor.st.2;have Y:=h.gor.dy.2;have e5:=h.gor.of.2;simp only at J X Y e5 a;have p:c.cl=I++[floor]:=e1;rw[h1]at p;have L:I=[]:=by
  cases I with
  |nil=>rfl
  |cons y ys=>simp at p
 subst L;cases hX;simp only[List.append_nil]at J;subst J X Y e5;have m2:b.mode=.returning:=by have i:=a.mode;rw[H]at i;generalize b.mode=m at i⊢;cases i;rfl
 have d2:b.defers=[]:=by have i:=a.defers;rw[h5]at i;generalize b.defers=m at i⊢;cases i;rfl
 have k2:b.kind=.normal:=a.kind▸h6;have f2:b.fn=K:=a.fn▸F;have g2:(P.it fs).funcs[K]? =some r:=by obtain⟨ai,c2,j1,_,_,j4⟩:=h.good.two.fn K (F▸a.fnS.1);rw[j4 z]at k;rw[<-h.same];show R.fs[K]? =_;rw[j1,k]
 have r2:∀M,results r M=Pure.pure (M.getD j fR):=by intro M;simp[results,u]
 have W:x=c.fr.tmps.getD j fR:=by rw[r2]at l;simp only[Sem.run_pure]at l;injection l with l;exact l.symm
 have O:VR R x (b.tmps.getD j fR):=by rw[W];exact a.tmps.getD .undef j
 refine beside_ends (Shun:=nW A) (B:=w.me) (D:=λ_ _ _=>False) (n:=0) (λ_ _ _ h=>h.elim) h.at0 h.leavers h.past ?_;rintro aa ⟨d,rfl⟩;refine⟨rfl,b.tmps.getD j fR,#[],?_,by simp,f x _ d h3 O⟩;simp[stepG,unwind,doReturn,m2,d2,k2,f2,g2,r2,C,lB,seen];rfl
end
end Go.cP
