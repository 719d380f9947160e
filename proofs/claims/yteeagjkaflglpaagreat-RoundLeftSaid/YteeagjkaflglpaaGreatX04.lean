/- Laws that the proof needs, part 4. Conditions: none. -/
import Derived.Test.YteeagjkaflglpaaGreatX03
set_option maxRecDepth 100000
set_option maxHeartbeats 8000000
set_option linter.all false
variable{a:Option Go.Addr}{H N:Go.Proofs.W.Gd}{I J:Int}{h:Go.Addr}
namespace Go.Proofs.W
open Go.RowKit
def Tg:Obj->Bool
 | .map .. =>true
 |_=>false
structure iB(n0:Nat)(w w':cd):Prop where
 os:w'.os=w.os
 tape:w'.tape=w.tape
 output:w'.output=w.output
 size:w.heap.size<=w'.heap.size
 drawn:w.drawn<=w'.drawn
 block:∀b o,w.heap[b]? =some o->(b<n0\/Tg o=false)->w'.heap[b]? =some o
section
variable{n0:Nat}{w w' w0 w1 w2:cd}
def iB.refl(n0:Nat)(w:cd):iB n0 w w:=⟨rfl,rfl,rfl,cz _,cz _,λ_ _ h _=>h⟩
theorem iB.trans{a b c:cd}(h:iB n0 a b)(k:iB n0 b c):iB n0 a c:=
 ⟨k.os.trans h.os,k.tape.trans h.tape,k.output.trans h.output,cJ h.size k.size,cJ h.drawn k.drawn,λx o e d=>k.block x o (h.block x o e d) d⟩
def Ext.gi(h:Ext w w')(n0:Nat):iB n0 w w':=⟨h.os,h.tape,h.output,h.size,h.drawn,λb o a _=>h.at_ a⟩
def iB.ext(h:iB n0 w w')(d:w.heap.size<=n0):Ext w w':=⟨h.os,h.tape,h.output,h.size,h.drawn,λb c=>by have a:w.heap[b]? =some w.heap[b]:=ji c;rw[a];exact h.block b _ a (.inl (by omega))⟩
def iB.from(h:iB n0 w w')(e:Ext w0 w)(a:w0.heap.size<=n0):Ext w0 w':=((e.gi n0).trans h).ext a
def iB.low{a:Nat}(h:iB n0 w w')(e:a<=n0):iB a w w':=⟨h.os,h.tape,h.output,h.size,h.drawn,λb o c d=>h.block b o c (d.imp (λh=>by omega) id)⟩
def iB.at_(h:iB n0 w w'){b:Nat}{a:Array ce}{t:cg}{c:Nat×Nat}(d:w.heap[b]? =some (.cells a t c)):w'.heap[b]? =some (.cells a t c):=h.block b _ d (.inr rfl)
def iB.cell(b:iB n0 w w'){v:ce}(a:w.cell? h=some v):w'.cell? h=some v:=by unfold World.cell? at a⊢;split at a;rename_i d t e c;rw[b.at_ c];exact a;cases a
def iB.cy{b:Nat}(h:iB n0 w w1)(k:cN (λx=>x=b) w1 w2)(e:w.heap.size<=b):iB n0 w w2:=
 ⟨k.os.trans h.os,k.tape.trans h.tape,k.output.trans h.output,cJ h.size k.size,cJ h.drawn k.drawn,λx o c d=>by have a:=cF.lt_of_heap c;exact(k.block x (dl a h.size) (by omega)).trans (h.block x o c d)⟩
def iB.iS{c:Nat}{v:ce}{t:cg}{e f:List ce}{a:Nat}(h:iB n0 w w1)(k:cN (cw v) w1 w2)(g:cA c t e w1 v a f)(l:w.heap.size<=c):iB n0 w w2:=
 ⟨k.os.trans h.os,k.tape.trans h.tape,k.output.trans h.output,cJ h.size k.size,cJ h.drawn k.drawn,λx o d i=>by have b:=cF.lt_of_heap d;exact(k.block x (dl b h.size) λj=>by have:=(g.blk j).1;omega).trans (h.block x o d i)⟩
def ja.gi{l:List Int}(h:ja w a l)(e:iB n0 w w'):ja w' a l:=λk c=>by obtain⟨b,o,d,f⟩:=h k c;exact⟨b,o,d,e.cell f⟩
def gD.gi{l:List Dr}(h:gD w a l)(e:iB n0 w w'):gD w' a l:=λk c=>by obtain⟨b,o,d,f,g,i⟩:=h k c;exact⟨b,o,d,e.cell f,e.cell g,e.cell i⟩
def nA.gi{a:Nat}{C:Nat->ce}(h:nA a C w)(e:iB n0 w w'):nA a C w':=by obtain⟨b,c,d,f⟩:=h.out;exact⟨b,e.at_ c,d,f⟩
theorem oR.gi{gp mk ms:Nat}(h:oR gp mk ms H w)(e:iB n0 w w'):oR gp mk ms H w':=by obtain⟨a,b,c,d,f,g⟩:=h.at_;exact⟨⟨a,b,c,d.gi e,f.gi e,e.cell g⟩,h.ok,dl h.mlt e.size,dl h.slt e.size,h.ne,h.gk⟩
def eO.gi{l:List Nat}(h:eO w a l)(e:iB n0 w w'):eO w' a l:=λk c=>by obtain⟨b,o,d,f⟩:=h k c;exact⟨b,o,d,e.cell f⟩
def cA.gi{d:Nat}{t:cg}{f:List ce}{v:ce}{a:Nat}{g:List ce}(h:cA d t f w v a g)(e:iB n0 w w'):cA d t f w' v a g:=by obtain⟨i,h|⟨b,c,j,k,l,m,n⟩⟩:=h;exact⟨i,.inl h⟩;exact⟨i,.inr ⟨b,c,j,k,l,e.at_ m,n⟩⟩
theorem tJ.gi{c:List (List Nat)}(h:tJ w a c)(e:iB n0 w w'):tJ w' a c:=λk d=>by obtain⟨b,o,f,g,i,j,l,m⟩:=h k d;exact⟨b,o,f,g,i,e.cell j,l.gi e,m⟩
theorem eW.gi{a:Nat}{v:ce}{b:List (List Nat)}(h:eW a w v b)(e:iB n0 w w'):eW a w' v b:=by obtain⟨c,d,f,g⟩:=h;refine⟨c,d.gi e,f,λk i=>?_⟩;obtain⟨u,j,l⟩:=g k i;exact⟨u,j,cA.gi l e⟩
def tI.gi{c:List Sx}(h:tI w a c)(e:iB n0 w w'):tI w' a c:=λk d=>by obtain⟨b,o,f,g⟩:=h k d;exact⟨b,o,f,λj v i=>e.cell (g j v i)⟩
theorem kU.gi{wp gp mk ms:Nat}{a:List Sx}(h:kU wp gp mk ms H a I w)(e:iB n0 w w'):kU wp gp mk ms H a I w':=by obtain⟨b,c,d,f,i,j⟩:=h.at_;exact⟨h.g.gi e,h.len,h.bf,b,c,e.cell d,e.cell f,e.cell i,j.gi e⟩
def jA.gi{c:List ce}(h:jA w a c)(e:iB n0 w w'):jA w' a c:=by rcases h with h|⟨b,o,d,f⟩;exact .inl h;exact .inr ⟨b,o,d,λj u g=>e.cell (f j u g)⟩
def nD.gi{a:Nat}{b:List Sx}(h:nD a b w)(e:iB n0 w w'):nD a b w':=by obtain⟨c,d,f⟩:=h.out;exact⟨c,e.at_ d,f⟩
end
structure kL(key:Nat->ce)(R:Nat->ce->cd->Prop)(r:Nat)(w:cd):Prop where
 out:∃es clock,w.heap[r]? =some (.map es clock)/\∀e∈es.toList,∃s,s<32/\e.key=key s/\R s e.val w
def kL.gi{key:Nat->ce}{R:Nat->ce->cd->Prop}{r n0:Nat}{w w':cd}(h:kL key R r w)(e:iB n0 w w')(c:∀s v,R s v w->R s v w')(a:w'.heap[r]? =w.heap[r]?):kL key R r w':=by obtain⟨d,b,f,g⟩:=h.out;exact⟨d,b,a.trans f,λx i=>by obtain⟨s,j,k,l⟩:=g x i;exact⟨s,j,k,c _ _ l⟩⟩
structure BO(kt:cg)(key:Nat->ce):Prop where
 check:∀e s w,s<32->Sem.run V.prog (Instr.checkKey e 10000 kt (key s)) w=.ok () w
 find:∀s (es:List MapEntry),s<32->(∀e∈es,∃s',s'<32/\e.key=key s')->
  ∃o,(∀w,Sem.run V.prog (Instr.findKey kt (key s) es) w=.ok o w)/\(o=none\/∃j e,es[j]? =some e/\e.key=key s/\o=some (j,e.val))
 stays:∀s w,s<32->Sem.run V.prog (Instr.keyThatStays (key s) (key s)) w=.ok (key s) w
 inj:∀s s',s<32->s'<32->key s=key s'->s=s'
section
variable{w:cd}{k:ce->cd->Prop}{kt et t:cg}{key:Nat->ce}{R:Nat->ce->cd->Prop}{r:Nat}
def tN{b:Array MapEntry}{a:Nat}(h:w.heap[r]? =some (.map b a)):Sem.run V.prog (getObj r) w=.ok (.map b a) w:=by simp[getObj,Sem.run,h]
def Jd(K:BO kt key)(k:Tryz.prog.underlying t=some (.map kt et)){z:ce}(l:∀w,Sem.run V.prog (zeroValue et) w=.ok z w)(h:kL key R r w){s:Nat}(c:s<32):∃a,((∃v,a=.tuple #[v,.bool true]/\R s v w)\/a=.tuple #[z,.bool false])/\∀w1,(∀o,w.heap[r]? =some o->w1.heap[r]? =some o)->Sem.run V.prog (Instr.lookup t (.map (some r)) (key s) true) w1=.ok a w1:=by
 obtain⟨m,d,n,b⟩:=h.out;obtain⟨o,q,u⟩:=K.find s m.toList c λe x=>by obtain⟨f,g,i,_⟩:=b e x;exact⟨f,g,i⟩
 refine⟨.tuple #[(o.map (·.2)).getD z,.bool o.isSome],?_,λw1 y=>?_⟩;rcases u with rfl|⟨j,e,A,B,rfl⟩;exact .inr rfl;obtain⟨f,g,i,C⟩:=b e (nR A);obtain rfl:=K.inj s f c g (B.symm.trans i);exact .inl ⟨_,rfl,C⟩;unfold Instr.lookup;simp only[Sem.run_bind,fZ k,Result.andThen_ok,tN (y _ n),Sem.run_pure,K.check _ s w1 c,q];cases o with
 |none=>simp only[Sem.run_bind,l,Result.andThen_ok,Sem.run_pure,cX,Option.map_none,Option.getD_none,tj]
 |some p=>simp only[Sem.run_bind,Sem.run_pure,Result.andThen_ok,cX,iX,kC,Option.isSome_some]
def Kw(K:BO kt key)(c:Tryz.prog.underlying t=some (.map kt et)){z:ce}(d:∀w,Sem.run V.prog (zeroValue et) w=.ok z w)(h:kL key R r w){s:Nat}(e:s<32) (f:∀v,R s v w->k (.tuple #[v,.bool true]) w)(g:k (.tuple #[z,.bool false]) w):iO V.prog (Instr.lookup t (.map (some r)) (key s) true) w k:=by obtain⟨b,i,a⟩:=Jd K c d h e;refine⟨b,w,a w λ_ h=>h,?_⟩;rcases i with⟨v,rfl,j⟩|rfl;exact f v j;exact g
def uQ{B:cd->Prop}(K:BO kt key)(L:Tryz.prog.underlying t=some (.map kt et))(h:kL key R r w){s:Nat}(m:s<32){v:ce}{n0:Nat}(hn:n0<=r) (N:∀w',iB n0 w w'->(∀s u,R s u w->R s u w')/\R s v w') (O:∀w',iB n0 w w'->(∀b,b≠r->w'.heap[b]? =w.heap[b]?)->kL key R r w'->B w'):DR V.prog (Instr.mapUpdate t (.map (some r)) (key s) v) w B:=by
 obtain⟨g,c,n,p⟩:=h.out;have C:=cF.lt_of_heap n;have f:∀(a:Array MapEntry) (d:Nat),iB n0 w (w.putObj r (.map a d))/\(∀b,b≠r->(w.putObj r (.map a d)).heap[b]? =w.heap[b]?)/\(w.putObj r (.map a d)).heap[r]? =some (.map a d)/\Sem.run V.prog (setObj r (.map a d)) w=.ok () (w.putObj r (.map a d)):=λa d=>by refine⟨⟨rfl,rfl,rfl,by simp,cz _,λb o q k=>?_⟩,λb q=>World.putObj_heap_other q,World.putObj_heap_same C,by simp[setObj,Sem.run,n,World.putObj]⟩;by_cases e:b=r;subst e;rw[n]at q;obtain rfl:=cE q;rcases k with k|k;omega;cases k;exact(World.putObj_heap_other e).trans q
 have y:∀(a:Array MapEntry) (d:Nat),(∀e∈a.toList,e∈g.toList\/(e.key=key s/\e.val=v))->Sem.run V.prog (Instr.mapUpdate t (.map (some r)) (key s) v) w=.ok () (w.putObj r (.map a d))->DR V.prog (Instr.mapUpdate t (.map (some r)) (key s) v) w B:=λa d l z=>by obtain⟨M,P,Q,_⟩:=f a d;obtain⟨S,T⟩:=N _ M;refine⟨_,z,O _ M P ⟨a,d,Q,λe U=>?_⟩⟩;rcases l e U with h|⟨W,X⟩;obtain⟨D,E,F,Y⟩:=p e h;exact⟨D,E,F,S _ _ Y⟩;exact⟨s,m,W,by rw[X];exact T⟩
 obtain⟨o,k,Z⟩:=K.find s g.toList m λe l=>by obtain⟨D,E,F,_⟩:=p e l;exact⟨D,E,F⟩
 rcases Z with rfl|⟨j,e,hj,A,rfl⟩;refine y (g.push {key:=key s,val:=v,born:=c}) (c+1) (λe l=>?_) ?_;simp only[Array.toList_push,gl,fD]at l;rcases l with h|rfl;exact .inl h;exact .inr ⟨rfl,rfl⟩;unfold Instr.mapUpdate;simp only[Sem.run_bind,fZ L,Result.andThen_ok,tN n,K.check _ s w m,k,(f _ _).2.2.2];refine y (g.modify j λe=>{e with key:=key s,val:=v}) c (λx G=>?_) ?_;obtain⟨i,hi,G⟩:=List.getElem_of_mem G;have H:i<g.size:=by simpa using hi
 have:(g.modify j λe=>{e with key:=key s,val:=v})[i]'(by simpa using H)=x:=by rw[<-G];exact(Array.getElem_toList _)
 rw[Array.getElem_modify]at this;split at this;subst this;exact .inr ⟨rfl,rfl⟩;subst this;exact .inl (by simp);have I:=K.stays s w m;have J:g[j]? =some e:=by simpa using hj
 unfold Instr.mapUpdate;simp only[Sem.run_bind,fZ L,Result.andThen_ok,tN n,K.check _ s w m,k,J,iX,kC,A,I,(f _ _).2.2.2]
end
end Go.Proofs.W
namespace Go.Proofs.W
def nE(l:List Nat):Nat->List Nat->List Bool->List (List Nat)
 |0,b,_=>[b]
 |n+1,b,a=>(List.range l.length).flatMap λi=>if a.getD i false then []else nE l n (b++[l.getD i 0]) (a.set i true)
def mv(l:List Nat):List (List Nat):=nE l l.length [] (List.replicate l.length false)
def ed(G:Gd)(b:List Nat×Int)(a:List Nat):List Nat×Int:=if b.2<0\/ik G a<b.2 then(a,ik G a)else b
def eH(G:Gd)(rows:List (List Nat)):List Nat×Int:=rows.foldl (ed G) ([],-1)
def cH(G:Gd)(s:Nat):List Nat:=(eH G (mv (dK s))).1
def jH(G:Gd)(s:Nat):Bool:=decide (dF G (cH G s)<=G.minutes)
def eD(G:Gd)(most:Nat):List Nat->List Nat->Option (List Nat)
 |[],a=>some a
 |d::r,a=>
  match(List.range a.length).findSome? λi=>if jH G (nZ (a.getD i 0) d)then eD G most r (a.set i (nZ (a.getD i 0) d))else none with
  |some b=>some b
  |none=>if a.length<most/\jH G (dB [d])=true then eD G most r (a++[dB [d]])else none
def fJ(G:Gd)(s:Nat):Option (List (List Nat)):=
 if s=0 then some []else((List.range (dK s).length).findSome? λm=>eD G (m+1) (dK s) []).map λa=>a.map (cH G)
end Go.Proofs.W
variable{x y z:ce}
namespace Go.Proofs.W
open Go.RowKit
theorem NL:Tryz.prog.underlying 181=some (.map 154 27):=by kernel_rfl
theorem NM:Tryz.prog.underlying 180=some (.map 217 220):=by kernel_rfl
def Kx(s:Nat):ce:=.int .u8 s
def oH(s:Nat):ce:=.agg (pS s).toArray
theorem Zn(a b c d i e f g h j:Bool)(w:cd):Sem.run V.prog (Op.equal 217 (.agg #[.bool a,.bool b,.bool c,.bool d,.bool i]) (.agg #[.bool e,.bool f,.bool g,.bool h,.bool j])) w=.ok (a==e&&(b==f&&(c==g&&(d==h&&i==j)))) w:=by
 by_cases k:a=e;subst k;by_cases l:b=f;subst l;by_cases m:c=g;subst m;by_cases n:d=h;subst n;cases a<;>cases b<;>cases c<;>cases d<;>cases i<;>cases j<;>kernel_rfl;cases a<;>cases b<;>cases c<;>cases d<;>cases h<;>first|exact absurd rfl n|kernel_rfl
 cases a<;>cases b<;>cases c<;>cases g<;>first|exact absurd rfl m|kernel_rfl
 cases a<;>cases b<;>cases f<;>first|exact absurd rfl l|kernel_rfl
 cases a<;>cases e<;>first|exact absurd rfl k|kernel_rfl
theorem RO:∀s:Nat,s<32->∀a:Nat,a<32->(s.testBit 0==a.testBit 0&&(s.testBit 1==a.testBit 1&&(s.testBit 2==a.testBit 2&&(s.testBit 3==a.testBit 3&&s.testBit 4==a.testBit 4))))=decide (s=a):=by decide+kernel
theorem Qp(s a:Nat)(c:s<32)(b:a<32)(w:cd):Sem.run V.prog (Op.equal 217 (oH s) (oH a)) w=.ok (decide (s=a)) w:=by rw[<-RO s c a b];exact Zn _ _ _ _ _ _ _ _ _ _ w
theorem NN{s a:Nat}(c:s<32)(b:a<32)(h:oH s=oH a):s=a:=by have:=RO s c a b;simp only[oH,pS,Value.agg.injEq]at h;have h:=cM Array.toList h;simp only[qm,Value.bool.injEq,and_true]at h;obtain⟨d,e,f,g,i⟩:=h;rw[d,e,f,g,i]at this;simpa using this.symm
theorem Dd:BO 154 Kx:=by
 have f:Tryz.prog.underlying 154=some (.int .u8):=by kernel_rfl
 have g:∀(s:Nat) (a:List MapEntry) (i:Nat),(∀e∈a,∃b,b<32/\e.key=Kx b)->Instr.findNow (.int .u8) (Kx s) a i=some none\/∃j e,a[j]? =some e/\e.key=Kx s/\Instr.findNow (.int .u8) (Kx s) a i=some (some (i+j,e.val)):=by
  intro s a;induction a with
  |nil=>intro i _;exact .inl rfl
  |cons e r q=>
   intro i h;obtain⟨b,_,n⟩:=h e eR;have t:Instr.sameNow (.int .u8) (Kx s) e.key=some ((s:Int)==(b:Int)):=by rw[n];rfl
   unfold Instr.findNow;rw[t];by_cases p:s=b;subst p;exact .inr ⟨0,e,rfl,n,by simp⟩;have:((s:Int)==(b:Int))=false:=by simpa using(λh:(s:Int)=b=>p (by omega))
   rw[this];rcases q (i+1) (λx u=>h x (eI _ u))with d|⟨j,x,d,k,l⟩;exact .inl d;exact .inr ⟨j+1,x,by simpa using d,k,by simp only[l];congr 3;omega⟩
 refine⟨λe s w _=>by kernel_rfl,λs a v m=>?_,λs w v=>?_,λs b _ _ h=>?_⟩;have c:∀o w,Instr.findNow (.int .u8) (Kx s) a 0=some o->Sem.run V.prog (Instr.findKey 154 (Kx s) a) w=.ok o w:=λo w y=>by unfold Instr.findKey;simp only[Sem.run_bind,fZ f,Result.andThen_ok,y,Sem.run_pure]
 rcases g s a 0 m with h|⟨j,e,d,k,l⟩;exact⟨_,λw=>c _ w h,.inl rfl⟩;exact⟨_,λw=>c _ w l,.inr ⟨j,e,d,k,by rw[cB]⟩⟩;unfold Instr.keyThatStays;have:Instr.sameBits 10000 (Kx s) (Kx s)=true:=by simp[Kx,Instr.sameBits]
 rw[cx this,Sem.run_pure];simp only[Kx,Value.int.injEq,true_and]at h;omega
theorem NO:BO 217 oH:=by
 have f:Tryz.prog.underlying 217=some (.array 5 4):=by kernel_rfl
 have n:∀(s:Nat) (a:List MapEntry) (i:Nat),s<32->(∀e∈a,∃b,b<32/\e.key=oH b)->∃o,(∀w,Sem.run V.prog (Instr.findAsking 217 (oH s) a i) w=.ok o w)/\(o=none\/∃j e,a[j]? =some e/\e.key=oH s/\o=some (i+j,e.val)):=by
  intro s a;induction a with
  |nil=>intro i _ _;exact⟨none,λw=>by simp[Instr.findAsking],.inl rfl⟩
  |cons e r z=>
   intro i c h;obtain⟨b,d,m⟩:=h e eR;have p:=λw=>Qp s b c d w;rw[<-m]at p;by_cases g:s=b;subst g;exact⟨some (i,e.val),λw=>by unfold Instr.findAsking;simp only[Sem.run_bind,p,Result.andThen_ok,decide_true,cX,Sem.run_pure],.inr ⟨0,e,rfl,m,rfl⟩⟩
   have step:∀w,Sem.run V.prog (Instr.findAsking 217 (oH s) (e::r) i) w=Sem.run V.prog (Instr.findAsking 217 (oH s) r (i+1)) w:=λw=>by
    conv=>lhs;unfold Instr.findAsking
    simp only[Sem.run_bind,p,Result.andThen_ok,g,decide_false,iq,eo]
   obtain⟨o,q,t⟩:=z (i+1) c λx A=>h x (eI _ A);refine⟨o,λw=>(step w).trans (q w),t.imp (λh=>h) ?_⟩;rintro⟨j,x,u,v,y⟩;exact⟨j+1,x,by simpa using u,v,by rw[y];congr 2;omega⟩
 refine⟨λe s w _=>by kernel_rfl,λs a c k=>?_,λs w c=>?_,λs b c d h=>NN c d h⟩;cases a with
 |nil=>exact⟨none,λw=>by unfold Instr.findKey;simp only[Sem.run_bind,fZ f,Result.andThen_ok,Instr.findNow,Sem.run_pure],.inl rfl⟩
 |cons e r=>
  obtain⟨b,_,m⟩:=k e eR;have B:Instr.findNow (.array 5 4) (oH s) (e::r) 0=none:=by unfold Instr.findNow;rw[m];rfl
  have l:∀w,Sem.run V.prog (Instr.findKey 217 (oH s) (e::r)) w=Sem.run V.prog (Instr.findAsking 217 (oH s) (e::r)) w:=λw=>by unfold Instr.findKey;simp only[Sem.run_bind,fZ f,Result.andThen_ok,B]
  obtain⟨o,q,t⟩:=n s (e::r) 0 c k;refine⟨o,λw=>(l w).trans (q w),t.imp (λh=>h) ?_⟩;rintro⟨j,x,u,v,y⟩;exact⟨j,x,u,v,by rw[y,cB]⟩
 unfold Instr.keyThatStays;have:Instr.sameBits 10000 (oH s) (oH s)=true:=by simp[oH,pS,Instr.sameBits]
 rw[cx this,Sem.run_pure]
def gq(A:Nat->Prop)(w:cd)(a:Option Addr)(l:List Nat):Prop:=∀k (h:k<l.length),∃b o,¬A b/\a=some ⟨b,o,none⟩/\w.cell? ⟨b,o+k,none⟩=some (.int .i64 l[k])
def kZ(A:Nat->Prop)(w:cd)(a:Option Addr)(ls:List (List Nat)):Prop:=∀k (h:k<ls.length),∃b o c d,¬A b/\a=some ⟨b,o,none⟩/\w.cell? ⟨b,o+k,none⟩=some (.slice c ls[k].length d)/\gq A w c ls[k]/\ls[k].length<=d
theorem nF{w:cd}{b o:Nat}(h:w.cell? ⟨b,o,none⟩=some x):b<w.heap.size:=by refine yB λa=>?_;have:w.heap[b]? =none:=mO a;simp[World.cell?,this]at h
section
variable{A A':Nat->Prop}{w w':cd}{a:Option Addr}{l:List Nat}{ls:List (List Nat)}{n0:Nat}
theorem gq.n(h:gq A w a l):eO w a l:=λk c=>by obtain⟨b,o,_,d,e⟩:=h k c;exact⟨b,o,d,e⟩
theorem kZ.rows(h:kZ A w a ls):tJ w a ls:=λk c=>by obtain⟨b,o,d,e,_,f,g,i,j⟩:=h k c;exact⟨b,o,d,e,f,g,i.n,j⟩
theorem gq.go(h:gq A w a l)(e:∀b,A' b->A b\/w.heap.size<=b)(f:∀b o v,¬A b->w.cell? ⟨b,o,none⟩=some v->w'.cell? ⟨b,o,none⟩=some v):gq A' w' a l:=λk g=>by obtain⟨b,o,c,i,d⟩:=h k g;refine⟨b,o,λj=>?_,i,f _ _ _ c d⟩;have:=nF d;rcases e b j with h|h;exact c h;omega
theorem kZ.go(h:kZ A w a ls)(c:∀b,A' b->A b\/w.heap.size<=b)(d:∀b o v,¬A b->w.cell? ⟨b,o,none⟩=some v->w'.cell? ⟨b,o,none⟩=some v):kZ A' w' a ls:=λk g=>by obtain⟨b,o,i,j,e,l,f,m,n⟩:=h k g;refine⟨b,o,i,j,λp=>?_,l,d _ _ _ e f,m.go c d,n⟩;have:=nF f;rcases c b p with h|h;exact e h;omega
theorem gq.gi(h:gq A w a l)(e:iB n0 w w'):gq A w' a l:=h.go (λ_ h=>.inl h) λ_ _ _ _ b=>e.cell b
theorem kZ.gi(h:kZ A w a ls)(e:iB n0 w w'):kZ A w' a ls:=h.go (λ_ h=>.inl h) λ_ _ _ _ b=>e.cell b
theorem gq.more(h:gq A w a l)(c:∀b,A' b->A b\/w.heap.size<=b):gq A' w a l:=h.go c λ_ _ _ _ d=>d
theorem kZ.more(h:kZ A w a ls)(c:∀b,A' b->A b\/w.heap.size<=b):kZ A' w a ls:=h.go c λ_ _ _ _ d=>d
theorem dE.Th{d:Nat}(h:dE d w x l)(f:∀b,A b->b<d):∃a c,x=.slice a l.length c/\gq A w a l/\l.length<=c:=by obtain⟨o,⟨g,rfl⟩|⟨b,c,p,q,rfl,i,r,j,s,m,t⟩⟩:=h;exact⟨none,0,by rw[g],λk e=>by omega,by omega⟩;refine⟨_,c,rfl,λk e=>⟨b,0,λn=>by have:=f b n;omega,rfl,?_⟩,j⟩;refine ci i ?_;rw[cB,m k (by simp[fi];omega)];simp[fi,ew e]
end
def ShR(A:Nat->Prop)(G:Gd)(s:Nat)(v:ce)(w:cd):Prop:=∃a c,v=.slice a (cH G s).length c/\gq A w a (cH G s)/\(cH G s).length<=c
def Ky(A:Nat->Prop)(o:Option (List (List Nat)))(v:ce)(b:Bool)(w:cd):Prop:=match o with
 |none=>v=.slice none 0 0/\b=false
 |some ls=>b=true/\∃a c,v=.slice a ls.length c/\kZ A w a ls/\ls.length<=c
def VO(A:Nat->Prop)(G:Gd)(s:Nat)(v:ce)(w:cd):Prop:=∃u b,v=.agg #[u,.bool b]/\Ky A (fJ G s) u b w
structure ku(A:Nat->Prop)(mk ms:Nat)(G:Gd)(w:cd):Prop where
 s:kL Kx (ShR A G) ms w
 k:kL oH (VO A G) mk w
 ak:¬A mk
 asm:¬A ms
section
variable{A A':Nat->Prop}{w w' w1 w2:cd}{G:Gd}{mk ms n0:Nat}
theorem ShR.go{s:Nat}(h:ShR A G s x w)(d:∀b,A' b->A b\/w.heap.size<=b)(e:∀b o x,¬A b->w.cell? ⟨b,o,none⟩=some x->w'.cell? ⟨b,o,none⟩=some x):ShR A' G s x w':=by obtain⟨a,c,f,g,i⟩:=h;exact⟨a,c,f,g.go d e,i⟩
theorem Ky.go{o:Option (List (List Nat))}{b:Bool}(h:Ky A o x b w)(d:∀b,A' b->A b\/w.heap.size<=b)(e:∀b o x,¬A b->w.cell? ⟨b,o,none⟩=some x->w'.cell? ⟨b,o,none⟩=some x):Ky A' o x b w':=by
 cases o with
 |none=>exact h
 |some ls=>
  obtain⟨f,a,c,g,i,j⟩:=h;exact⟨f,a,c,g,i.go d e,j⟩
theorem VO.go{s:Nat}(h:VO A G s x w)(a:∀b,A' b->A b\/w.heap.size<=b)(c:∀b o x,¬A b->w.cell? ⟨b,o,none⟩=some x->w'.cell? ⟨b,o,none⟩=some x):VO A' G s x w':=by obtain⟨u,b,d,e⟩:=h;exact⟨u,b,d,e.go a c⟩
theorem kL.go{c:Nat->ce}{R d:Nat->ce->cd->Prop}{r:Nat}(h:kL c R r w)(e:∀s v,R s v w->d s v w')(a:∀o,w.heap[r]? =some o->w'.heap[r]? =some o):kL c d r w':=by obtain⟨f,b,g,i⟩:=h.out;exact⟨f,b,a _ g,λx j=>by obtain⟨s,k,l,m⟩:=i x j;exact⟨s,k,l,e _ _ m⟩⟩
theorem kL.lt{a:Nat->ce}{R:Nat->ce->cd->Prop}{r:Nat}(h:kL a R r w):r<w.heap.size:=by obtain⟨d,b,c,_⟩:=h.out;exact cF.lt_of_heap c
theorem ku.go(h:ku A mk ms G w)(d:∀b,A' b->A b\/w.heap.size<=b)(i:∀b o v,¬A b->w.cell? ⟨b,o,none⟩=some v->w'.cell? ⟨b,o,none⟩=some v)(a:∀b o,b=mk\/b=ms->w.heap[b]? =some o->w'.heap[b]? =some o):ku A' mk ms G w':=by have j:=h.k.lt;have ls:=h.s.lt;refine⟨h.s.go (λs v e=>e.go d i) λo f=>a _ _ (.inr rfl) f,h.k.go (λs v e=>e.go d i) λo f=>a _ _ (.inl rfl) f,λg=>?_,λg=>?_⟩;rcases d _ g with c|c;exact h.ak c;omega;rcases d _ g with c|c;exact h.asm c;omega
theorem ku.ext(h:ku A mk ms G w)(e:Ext w w'):ku A mk ms G w':=h.go (λ_ h=>.inl h) (λ_ _ _ _ a=>e.cell a) λb o _ c=>e.at_ c
theorem ku.more(h:ku A mk ms G w)(a:∀b,A' b->A b\/w.heap.size<=b):ku A' mk ms G w:=h.go a (λ_ _ _ _ c=>c) λ_ _ _ h=>h
theorem ku.keep{F:Nat->Prop}(h:ku A mk ms G w)(k:cN F w w')(c:∀b,F b->A b):ku A mk ms G w':=
 h.go (λ_ h=>.inl h) (λb o v d e=>k.ef e λa=>d (c b a)) λb o d f=>k.fg f λa=>by rcases d with rfl|rfl;exact h.ak (c _ a);exact h.asm (c _ a)
end
def MR(n0 mk ms:Nat)(G:Gd)(a b:cd):Prop:=iB n0 a b/\∀A:Nat->Prop,(∀x,A x->x<a.heap.size)->ku A mk ms G a->ku A mk ms G b
section
variable{n0 mk ms:Nat}{G:Gd}{a b c:cd}
theorem MR.refl(a:cd):MR n0 mk ms G a a:=⟨iB.refl _ _,λ_ _ h=>h⟩
theorem MR.trans(h:MR n0 mk ms G a b)(k:MR n0 mk ms G b c):MR n0 mk ms G a c:=⟨h.1.trans k.1,λA d e=>k.2 A (λx f=>dl (d x f) h.1.size) (h.2 A d e)⟩
theorem Ext.mr(h:Ext a b):MR n0 mk ms G a b:=⟨h.gi n0,λA _ c=>c.ext h⟩
theorem WM(n0 mk ms:Nat)(G:Gd):fw (MR n0 mk ms G):=⟨MR.refl,λ_ _ _=>MR.trans,λw=>(Ext.drew w).mr⟩
end
end Go.Proofs.W
variable{m k i j o p s d:Nat}{T U:cg}{O Q:Go.Obj}
namespace Go.Proofs.W
open Go.RowKit
section
variable{w:cd}{k:ce->cd->Prop}
def HT{a:List ce}(g:FD T U a){l c:Nat}(j:l<=c)(m:c<=100000)(h:∀b d,Ext w b->w.heap.size<=d->b.heap[d]? =some (.cells (madeCells a.toArray (c*a.length)) U)->k (.slice (some ⟨d,0,none⟩) l c) b):iO V.prog (Instr.makeSlice T (.int .i64 l) (.int .i64 c)) w k:=by
 obtain⟨n,i,z,f,o,p,q,r,s⟩:=g
 have e:=run_make (P:=V.prog) w T U i z n f o .i64 .i64 (l:Int) (c:Int) (by omega) (by omega) (by
  have:i.bytes*c<=256*100000:=Nat.mul_le_mul r m;have f:((i.bytes:Int)*(c:Int))=((i.bytes*c:Nat):Int):=by simp
  omega) (by omega)
 simp only[ql]at e;rw[p,q]at e;exact⟨_,_,e,h _ w.heap.size (Ext.alloc _ _) (cz _) (eU _ _)⟩
def FN(z:ce)(n:Nat):madeCells #[z] n=Array.replicate n z:=by apply Array.ext;simp[madeCells];intro i a b;simp[madeCells,Nat.mod_one]
def UN:FD 225 4 [.bool false]:=⟨by kernel_rfl,Tryz.t4,_,by kernel_rfl,rfl,by kernel_rfl,by kernel_rfl,by decide+kernel,by decide⟩
def Je{e:cg}{z:ce}{s:Array Bool}(t:FD T e [z]){d:Array ce}(g:w.heap[m]? =some (.cells d e))(a:i+1<=j)(h:i<d.size){u:ce}(y:w.cell? ⟨o,0,none⟩=some u)(A:u.oneCell'=true)
 (B:∀l,cN (λx=>x=m) w l->l.heap[m]? =some (.cells (d.setIfInBounds i u) e)->k (.slice (some ⟨m,0,none⟩) (i+1) j) l):wY V.prog (builtin .append #[T,T] U s #[.slice (some ⟨m,0,none⟩) i j,.slice (some ⟨o,0,none⟩) 1 p]) w k:=by
 obtain⟨n,r,E,C,F,G,c,H,I⟩:=t;have c:r.size=1:=c
 have q:=run_append_room_cells (P:=V.prog) w T U e r n C m 0 i j ⟨o,0,none⟩ 1 p [u] (by simp[c]) (λf v b=>by
  match f,b with
  |0,b=>cases b;rw[fL];exact y) (λv D=>by rcases fD.1 D with rfl;exact A) a (λf b=>by
  have:f=0:=by simpa using b
  subst this;simp[World.cell?,g,c,h]) (λf b=>by simp[World.frozen?,g])
 rw[c]at q;simp only[cB,ot]at q;refine⟨_,w.setCells m i [u],?_,B _ (oF _ _ _ _ _ (cN.refl _ w)) (rB [u] w m i d e (0,0) g)⟩;unfold builtin;simp only[Sem.run_bind,q,Result.andThen_ok,Sem.run_pure]
end
structure E2(r u:Nat)(o1 VC o2 VD:Obj)(a b:cd):Prop where
 k:cN (λx=>x=r\/x=u) a b
 r1:a.heap[r]? =some VC->b.heap[r]? =some VC
 r0:a.heap[r]? =some o1->b.heap[r]? =some o1\/b.heap[r]? =some VC
 u1:a.heap[u]? =some VD->b.heap[u]? =some VD
 u0:a.heap[u]? =some o2->b.heap[u]? =some o2\/b.heap[u]? =some VD
def UO(r u:Nat)(f d g e:Obj):fw (E2 r u f d g e):=
 ⟨λw=>⟨cN.refl _ w,id,.inl,id,.inl⟩,λa b c h k=>⟨h.k.trans k.k (λ_ _ h=>h) λ_ _ h=>h,λx=>k.r1 (h.r1 x),λx=>by
  rcases h.r0 x with y|y;exact k.r0 y;exact .inr (k.r1 y),λx=>k.u1 (h.u1 x),λx=>by
  rcases h.u0 x with y|y;exact k.u0 y;exact .inr (k.u1 y)⟩,λw=>⟨(Ext.drew w).keep _,id,.inl,id,.inl⟩⟩
def E2.UP{d c:Obj}{a b:cd}(h:Ext a b):E2 m i O Q d c a b:=⟨h.keep _,λx=>h.at_ x,λx=>.inl (h.at_ x),λx=>h.at_ x,λx=>.inl (h.at_ x)⟩
def E2.cell{d c:Obj}{a b:cd}(e:E2 m i O Q d c a b){v:ce}(f:a.cell? h=some v)(g:h.block≠m)(j:h.block≠i):b.cell? h=some v:=e.k.ef f (by omega)
def E2.t1{e d:Obj}{a b:cd}(k:cN (λx=>x=m) a b)(c:m≠i)(h:b.heap[m]? =some Q):E2 m i O Q e d a b:=
 ⟨k.trans (cN.refl (λ_=>False) b) (λ_ _ h=>.inl h) λ_ _ h=>h.elim,λ_=>h,λ_=>.inr h,λx=>k.fg x (fO c),λx=>.inl (k.fg x (fO c))⟩
def E2.t2{e c:Obj}{a b:cd}(k:cN (λx=>x=i) a b)(d:m≠i)(h:b.heap[i]? =some c):E2 m i O Q e c a b:=
 ⟨k.trans (cN.refl (λ_=>False) b) (λ_ _ h=>.inr h) λ_ _ h=>h.elim,λx=>k.fg x d,λx=>.inl (k.fg x d),λ_=>h,λ_=>.inr h⟩
section
variable{E:cd->cd->Prop}{w:cd}{kx:ce->Prop}{kr kp kl:fW->Prop}{lb ea:Bool}
def wi{v:ce}(b:fw E)(c:∀a,E w a->a.cell? h=some v)(k:kx v)(d:HB T=some false:=by rfl):zr E E w (λa f=>iO V.prog (Instr.loadAt T (.pointer (some h))) a f) kx kr kp lb kl ea:=
 dx v (λa e=>cu (c a e) ⟨rfl,b.refl _⟩ d) k
end
end Go.Proofs.W
variable{w t e:cd}{A B C:Nat->Prop}{l f:List Nat}
namespace Go.Proofs.W
open Go.RowKit
structure A8 where
 (rv lv yv uv gv rb ub lp:Nat)(la:Option Addr)(lc:Nat)
def cK(b:Nat):ce:=.pointer (some ⟨b,0,none⟩)
def A8.mw(e:A8):Array ce:=#[cK e.rv,cK e.lv,cK e.yv,cK e.uv,cK e.gv]
structure WN(e:A8):Prop where
 r:e.rv≠e.lv/\e.rv≠e.yv/\e.rv≠e.uv/\e.rv≠e.gv/\e.rv≠e.rb/\e.rv≠e.ub
 b:e.rb≠e.lv/\e.rb≠e.yv/\e.rb≠e.uv/\e.rb≠e.gv/\e.rb≠e.ub
 u:e.ub≠e.lv/\e.ub≠e.yv/\e.ub≠e.uv/\e.ub≠e.gv
 l:∀b o,e.la=some ⟨b,o,none⟩->b≠e.rv/\b≠e.rb/\b≠e.ub
def iT(a:List Bool):Obj:=.cells (a.map Value.bool).toArray 4
structure Jf(e:A8)(l row:List Nat)(used:List Bool)(w:cd):Prop where
 rv:w.heap[e.rv]? =some (.cells #[.slice (some ⟨e.rb,0,none⟩) row.length l.length] 27)
 lv:w.cell? ⟨e.lv,0,none⟩=some (.slice e.la l.length e.lc)
 yv:w.cell? ⟨e.yv,0,none⟩=some (.func (.yield e.lp) #[] #[])
 uv:w.cell? ⟨e.uv,0,none⟩=some (.slice (some ⟨e.ub,0,none⟩) l.length l.length)
 gv:w.cell? ⟨e.gv,0,none⟩=some (.func (.func 197) #[] e.mw)
 rb:∃cs,w.heap[e.rb]? =some (.cells cs 3)/\cs.size=l.length/\∀j (h:j<row.length),cs[j]? =some (.int .i64 row[j])
 ub:w.heap[e.ub]? =some (iT used)
 ul:used.length=l.length
 row:eO w e.la l
def Jf.keep{e:A8}{a:List Bool}(h:Jf e l f a w)(k:cN A w t)(d:∀b,A b->b≠e.rv/\b≠e.lv/\b≠e.yv/\b≠e.uv/\b≠e.gv/\b≠e.rb/\b≠e.ub/\∀g o,e.la=some ⟨g,o,none⟩->b≠g):Jf e l f a t:=by
 have n:∀b,(b=e.rv\/b=e.lv\/b=e.yv\/b=e.uv\/b=e.gv\/b=e.rb\/b=e.ub)->¬A b:=λb v c=>by have:=d b c;omega
 obtain⟨m,p,q,r⟩:=h.rb;refine⟨k.fg h.rv (n _ (.inl rfl)),k.ef h.lv (n _ (.inr (.inl rfl))),k.ef h.yv (n _ (.inr (.inr (.inl rfl)))),k.ef h.uv (n _ (by simp)),k.ef h.gv (n _ (by simp)),⟨m,k.fg p (n _ (by simp)),q,r⟩,k.fg h.ub (n _ (by simp)),h.ul,λi s=>?_⟩;obtain⟨b,o,j,u⟩:=h.row i s;exact⟨b,o,j,k.ef u λc=>(d _ c).2.2.2.2.2.2.2 _ _ j rfl⟩
def Jf.Ed{e:A8}(g:WN e){c:List Nat}{d a:List Bool}(h:Jf e l f d w)(k:cN (λx=>x=e.rv\/x=e.rb\/x=e.ub) w t)
 (p:t.heap[e.rv]? =some (.cells #[.slice (some ⟨e.rb,0,none⟩) c.length l.length] 27))(q:∃n,t.heap[e.rb]? =some (.cells n 3)/\n.size=l.length/\∀j (h:j<c.length),n[j]? =some (.int .i64 c[j]))(s:t.heap[e.ub]? =some (iT a))(v:a.length=l.length):Jf e l c a t:=by
 obtain⟨B,C,D,E,F,G⟩:=g.r;obtain⟨H,I,J,K,L⟩:=g.b;obtain⟨M,N,O,P⟩:=g.u;refine⟨p,k.ef h.lv (by show¬(e.lv=_\/e.lv=_\/e.lv=_);omega),k.ef h.yv (by show¬(e.yv=_\/e.yv=_\/e.yv=_);omega),k.ef h.uv (by show¬(e.uv=_\/e.uv=_\/e.uv=_);omega),k.ef h.gv (by show¬(e.gv=_\/e.gv=_\/e.gv=_);omega),q,s,v,λi y=>?_⟩;obtain⟨m,z,o,A⟩:=h.row i y;have:=g.l _ _ o;exact⟨m,z,o,k.ef A (by show¬(m=_\/m=_\/m=_);omega)⟩
def RP{a:A8}{c b:Obj}(d:E2 a.rb a.ub O Q c b w t)(f:cN (λx=>x=a.rv) t e):cN (λx=>x=a.rv\/x=a.rb\/x=a.ub) w e:=
 (d.k.trans f (λ_ _ h=>.inr h) λ_ _ h=>.inl h)
def wj(l:List Nat)(m:Nat)(b:List Nat)(a:List Bool)(k:Nat):List (List Nat):=(List.range k).flatMap λi=>if a.getD i false then []else nE l m (b++[l.getD i 0]) (a.set i true)
def xh(l:List Nat)(m:Nat)(b:List Nat)(a:List Bool)(k:Nat):wj l m b a (k+1)=wj l m b a k++if a.getD k false then []else nE l m (b++[l.getD k 0]) (a.set k true):=by unfold wj;rw[kA,List.flatMap_append];simp
def FO(e:A8)(l:List Nat)(Y:List (List Nat)->cd->Prop):Prop:=∀i b c w,b.length=l.length->(∀d∈b,d∈l)->Jf e l b c w->Y i w->∃f g a h,Sem.run V.prog (Instr.yield e.lp #[.slice (some ⟨e.rb,0,none⟩) b.length l.length]) w=.ok (.round e.lp f g a h) w/\RoundIn Fence.wide 0 V.prog e.lp f g a h w λk j=>k=.returned (.bool true)/\Jf e l b c j/\Y (i++[b]) j
def De(a:Array ce)(k:Nat)(v:ce):(a.setIfInBounds k v).setIfInBounds k v=a.setIfInBounds k v:=by simp
def FP(a:List Bool)(k:Nat)(b:Bool):((a.map Value.bool).toArray).setIfInBounds k (.bool b)=((a.set k b).map Value.bool).toArray:=by simp[List.map_set]
theorem Jg{e:A8}(P:WN e)(aa:l.length<=100000){Y:List (List Nat)->cd->Prop}(hY:∀s a b,Y s a->cN (λx=>x=e.rv\/x=e.rb\/x=e.ub) a b->Y s b)(hy:FO e l Y):
 ∀m g c s w,g.length+m=l.length->(∀d∈g,d∈l)->Jf e l g c w->Y s w->Calls V.prog 197 e.mw w (fy λv G=>v=.bool true/\Jf e l g c G/\Y (s++nE l m g c) G)
 |m,g,c,s,w,hm,N,h,Q=>by
  obtain⟨o1,o2,o3,o4,o5,o6⟩:=P.r;obtain⟨p1,p2,p3,p4,p5⟩:=P.b;obtain⟨q1,q2,q3,q4⟩:=P.u;have ax:=P.l;refine go V.func197 Tryz.ntmps197 ?_;refine cu (ci h.rv rfl) (cD (cu h.lv (cD (eh ⟨λZ=>?_,λZ=>?_⟩))));have Z:g.length=l.length:=by simp at Z;omega
  obtain rfl:m=0:=by omega
  obtain⟨f,au,ah,av,ab,hR⟩:=hy s g c w Z N h Q;refine cu h.yv (cu (ci h.rv rfl) ⟨_,_,_,_,ab,hR.mono ?_⟩);rintro en G ⟨rfl,K,h2⟩;exact⟨_,rfl,rfl,K,h2⟩;have Z:g.length≠l.length:=by simp at Z;omega
  obtain⟨m,rfl⟩:∃m',m=m'+1:=⟨m-1,by omega⟩;refine cu h.lv (cD (ei (n:=l.length) (λk=>[(0,cK e.rv),(1,cK e.lv),(2,cK e.yv),(3,cK e.uv),(4,cK e.gv),(17,.slice e.la l.length e.lc),(18,.int .i64 l.length),(19,.int .i64 k)]) (λk G=>Jf e l g c G/\Y (s++wj l m g c k) G) ⟨⟨rfl,rfl,rfl,rfl,rfl,rfl,rfl,rfl,trivial⟩,h,by simpa[wj]using Q⟩ ?_ ?_ ?_));rintro k G R hJ;exact cV ⟨rfl,rfl,⟨rfl,rfl,rfl,rfl,rfl,rfl,rfl,rfl,trivial⟩,hJ⟩;rintro k G R ⟨h,Q⟩;obtain⟨b,o,S,T⟩:=h.row k R;have U:k<c.length:=by rw[h.ul];exact R
  have ai:G.cell? ⟨e.ub,0+k,none⟩=some (.bool c[k]):=by refine ci h.ub ?_;simp[U]
  have ac:c.getD k false=c[k]:=getD_eq U;have aj:l.getD k 0=l[k]:=getD_eq R;rw[S];refine dI k R (cu T (cu h.uv (dI k R (cu ai ⟨λhu=>?_,λhu=>?_⟩))));refine cq ⟨⟨rfl,rfl,rfl,rfl,rfl,by rw[<-S];rfl,rfl,rfl,trivial⟩,h,?_⟩;rw[xh,ac,hu];simpa using Q;obtain⟨C,g1,g2,g3⟩:=h.rb;have aw:g.length<l.length:=by omega
  have hE:=UO e.rb e.ub (.cells C 3) (.cells (C.setIfInBounds g.length (.int .i64 l[k])) 3) (iT c) (iT (c.set k true));refine cQ hE ?_;refine wi hE (λq p=>p.cell h.uv (by show e.uv≠e.rb;omega) (by show e.uv≠e.ub;omega)) ?_;refine wi hE (λq p=>p.cell (ci h.rv rfl) o5 o6) ?_;refine .rel (λv w=>∃H,v=.slice (some ⟨H,0,none⟩) 1 1/\H≠e.rb/\H≠e.ub/\w.heap[H]? =some (.cells [Value.int .i64 l[k]].toArray 3)) ?_ (λq p=>dJ [Value.int .i64 l[k]] 3 λt H e2 ad hb=>⟨⟨H,rfl,?_,?_,hb⟩,E2.UP e2⟩) ?_;rintro v a b ⟨H,K,h2,h3,h4⟩ p;exact⟨H,K,h2,h3,p.k.fg h4 (by omega)⟩;have:=cF.lt_of_heap g1;have:=p.k.size;omega;have:=cF.lt_of_heap h.ub;have:=p.k.size;omega;refine .rel (λv w=>v=.slice (some ⟨e.rb,0,none⟩) (g.length+1) l.length/\w.heap[e.rb]? =some (.cells (C.setIfInBounds g.length (.int .i64 l[k])) 3)) ?_ ?_ ?_;rintro v a b ⟨K,h2⟩ p;exact⟨K,p.r1 h2⟩;rintro q p v ⟨H,rfl,n1,n2,hb⟩;have y:∀L,q.heap[e.rb]? =some (.cells L 3)->L.size=C.size->L.setIfInBounds g.length (.int .i64 l[k])=C.setIfInBounds g.length (.int .i64 l[k])->wY V.prog (builtin .append #[27,27] 27 (#[Operand.tmp 30,Operand.tmp 32].map λ| .const _=>true|_=>false) #[.slice (some ⟨e.rb,0,none⟩) g.length l.length,.slice (some ⟨H,0,none⟩) 1 1]) q λu t=>(u=.slice (some ⟨e.rb,0,none⟩) (g.length+1) l.length/\t.heap[e.rb]? =some (.cells (C.setIfInBounds g.length (.int .i64 l[k])) 3))/\E2 e.rb e.ub (.cells C 3) (.cells (C.setIfInBounds g.length (.int .i64 l[k])) 3) (iT c) (iT (c.set k true)) q t:=λL ak ay z=>by refine Je (u:=.int .i64 l[k]) oG ak (by omega) (by omega) (ci hb rfl) rfl λt I i=>?_;rw[z]at i;exact⟨⟨rfl,i⟩,E2.t1 I p5 i⟩
  rcases p.r0 g1 with D|D;exact y C D rfl rfl;exact y _ D (by simp) (De _ _ _);refine .exact (.pointer (some ⟨e.ub,0+k,none⟩)) (λq p v hv=>dI k (by omega) ⟨rfl,hE.refl _⟩) ?_;refine .xd (λ_ w=>w.heap[e.ub]? =some (iT (c.set k true))) (λ_ a b K p=>p.u1 K) (λq p v hv=>?_) ?_
  have y:∀J:List Bool,q.heap[e.ub]? =some (iT J)->J.length=c.length->J.set k true=c.set k true->DR V.prog (Instr.storeAt 4 (.pointer (some ⟨e.ub,0+k,none⟩)) (.bool true)) q λt=>t.heap[e.ub]? =some (iT (c.set k true))/\E2 e.rb e.ub (.cells C 3) (.cells (C.setIfInBounds g.length (.int .i64 l[k])) 3) (iT c) (iT (c.set k true)) q t:=λJ W al z=>by
   refine iA W (by simp[Value.cells];omega) (λt I i=>by
   have i:t.heap[e.ub]? =some (iT (c.set k true)):=by rw[i,iT,<-z,<-FP];simp[fT,Value.cells]
   exact⟨i,E2.t2 I p5 i⟩) (fU rfl)
  rcases p.u0 h.ub with D|D;exact y c D rfl rfl;exact y _ D (by simp) (by simp);intro q p v1 M v2 ad hJ;obtain⟨rfl,M⟩:v1=.slice (some ⟨e.rb,0,none⟩) (g.length+1) l.length/\q.heap[e.rb]? =some (.cells (C.setIfInBounds g.length (.int .i64 l[k])) 3):=M;replace hJ:q.heap[e.ub]? =some (iT (c.set k true)):=hJ;clear ad;have O:=p.k.fg h.rv (by omega);refine cZ O λt I i=>?_;have k3:=RP p I;have hW:Jf e l (g++[l[k]]) (c.set k true) t:=by
   refine h.Ed P k3 (by rw[i];simp[fT,Value.cells]) ⟨_,I.fg M (by omega),by simp[g2],λj hj=>?_⟩ (I.fg hJ (by omega)) (by simp[h.ul]);rcases eA j g.length with ae|az;rw[eY (by omega),g3 j ae,lI ae];obtain rfl:j=g.length:=by simp at hj;omega
   rw[jE (by omega)];simp
  have am:Y (s++wj l m g c k) t:=hY _ _ _ Q k3;clear i O I M hJ p k3;refine cu hW.gv (ck (Jg P aa hY hy m (g++[l[k]]) (c.set k true) _ t (by simp;omega) (λd hd=>by rcases gl.1 hd with hd|hd;exact N d hd;rw[fD.1 hd];exact dt R) hW am) ?_);rintro v w3 ⟨rfl,E,an⟩;obtain⟨F,t1,t2,t3⟩:=E.rb;have A:=UO e.rb e.ub (.cells F 3) (.cells F 3) (iT (c.set k true)) (iT c);have ao:(g++[l[k]]).length=g.length+1:=by simp
  have B:=E.rv;rw[ao]at B;refine cQ A ?_;refine wi A (λq p=>p.cell E.uv (by show e.uv≠e.rb;omega) (by show e.uv≠e.ub;omega)) ?_;refine wi A (λq p=>p.cell (ci B rfl) o5 o6) ?_;refine wi A (λq p=>p.cell (ci B rfl) o5 o6) ?_;refine VK (.int .i64 ((g.length+1:Nat):Int)) (λq _=>cD ⟨rfl,A.refl _⟩) ?_;refine vX (n:=1) ?_ (by omega) A;refine dx (.slice (some ⟨e.rb,0,none⟩) g.length l.length) (λq _=>n7 g.length (by omega) ⟨rfl,A.refl _⟩ (by omega)) ?_;refine me k (by omega) ?_ rfl rfl A;refine .xd (λ_ w=>w.heap[e.ub]? =some (iT c)) (λ_ a b K p=>p.u1 K) (λq p=>?_) ?_;have af:c.set k false=c:=by apply List.ext_getElem?;intro j;by_cases hj:j=k;subst hj;simp[U,hu];rw[List.getElem?_set_ne (by omega)]
  have y:∀J:List Bool,q.heap[e.ub]? =some (iT J)->J.length=c.length->J.set k false=c->DR V.prog (Instr.storeAt 4 (.pointer (some ⟨e.ub,0+k,none⟩)) (.bool false)) q λt=>t.heap[e.ub]? =some (iT c)/\E2 e.rb e.ub (.cells F 3) (.cells F 3) (iT (c.set k true)) (iT c) q t:=λJ W al z=>by
   refine iA W (by simp[Value.cells];omega) (λt I i=>by
   have i:t.heap[e.ub]? =some (iT c):=by
    have h4:iT c=.cells ((J.map Value.bool).toArray.setIfInBounds k (.bool false)) 4:=by rw[FP,z];rfl
    rw[i,h4];simp[fT,Value.cells]
   exact⟨i,E2.t2 I p5 i⟩) (fU rfl)
  rcases p.u0 E.ub with D|D;exact y _ D (by simp) (by rw[List.set_set];exact af);exact y _ D rfl af;intro w4 e4 X;replace X:w4.heap[e.ub]? =some (iT c):=X;have ag:=e4.k.fg B (by omega);refine cZ ag λw5 k5 ap=>?_;have k6:=RP e4 k5;have aq:Jf e l g c w5:=E.Ed P k6 (by rw[ap];simp[fT,Value.cells]) ⟨F,k5.fg ((e4.r0 t1).elim id id) (by omega),t2,λj hj=>by rw[t3 j (by simp;omega),lI hj]⟩ (k5.fg X (by omega)) h.ul;have ar:=hY _ _ _ an k6;refine eu (iG rfl (cq ⟨⟨rfl,rfl,rfl,rfl,rfl,by rw[<-S];rfl,rfl,rfl,trivial⟩,aq,?_⟩));rw[xh,ac,hu,aj];simpa using ar;rintro G ⟨h,Q⟩;exact⟨_,rfl,rfl,h,Q⟩
end Go.Proofs.W
variable{W X:Array ce}
namespace Go.Proofs.W
open Go.RowKit
def UQ:Obj:=.cells #[.slice none 0 0] 27
structure ZE(n0:Nat)(a b:cd):Prop where
 os:b.os=a.os
 tape:b.tape=a.tape
 output:b.output=a.output
 size:a.heap.size<=b.heap.size
 drawn:a.drawn<=b.drawn
 block:∀x o,a.heap[x]? =some o->b.heap[x]? =some o\/(n0<=x/\o=UQ/\∃u,u≠ .slice none 0 0/\b.heap[x]? =some (.cells #[u] 27))
theorem WO   (n0 : Nat) : fw    (ZE n0) := by
  refine ⟨fun w => ⟨rfl, rfl, rfl, Nat.le_refl _, Nat.le_refl _, fun x o h => .inl h⟩, fun a b c h k => ⟨k.os.trans h.os, k.tape.trans h.tape, k.output.trans h.output, Nat.le_trans h.size k.size, Nat.le_trans h.drawn k.drawn, fun x o hx => ?_⟩, fun w => ⟨rfl, rfl, rfl, Nat.le_refl _, Nat.le_succ _, fun x o h => .inl h⟩⟩
  rcases h.block x o hx with h1 | ⟨h1, h2, u, h3, h4⟩
  · exact k.block x o h1
  · rcases k.block x _ h4 with h5 | ⟨_, h6, _⟩
    · exact .inr ⟨h1, h2, u, h3, h5⟩
    · exfalso
      unfold UQ  at h6
      injection h6 with h6
      apply h3
      have := congrArg (·[0]?) h6
      simpa using this
def Ext.ze(h:Ext w t)(a:Nat):ZE a w t:=⟨h.os,h.tape,h.output,h.size,h.drawn,λx o b=>.inl (h.at_ b)⟩
def ZE.ext(h:ZE m w t)(d:w.heap.size<=m):Ext w t:=⟨h.os,h.tape,h.output,h.size,h.drawn,λx c=>by have a:w.heap[x]? =some w.heap[x]:=ji c;rcases h.block x _ a with b|⟨b,_⟩;rw[b,a];omega⟩
def ZE.at_(h:ZE m w t)(a:w.heap[k]? =some O)(b:O≠UQ):t.heap[k]? =some O:=(h.block k O a).elim id λh=>absurd h.2.1 b
def ZE.store{f:Nat}{a b:cd}{x:Nat}{u:ce}(k:cN (λy=>y=x) a b)(h:f<=x)(i:u≠ .slice none 0 0)(c:a.heap[x]? =some UQ\/a.heap[x]? =some (.cells #[u] 27))(g:b.heap[x]? =some (.cells #[u] 27)):ZE f a b:=
 ⟨k.os,k.tape,k.output,k.size,k.drawn,λy o d=>by by_cases e:y=x;subst e;rcases c with c|c;rw[d]at c;exact .inr ⟨h,cE c,u,i,g⟩;rw[d]at c;rw[g];exact .inl c.symm;exact .inl (k.fg d e)⟩
def uR(h:T≠U):Obj.cells W T≠ .cells X U:=λe=>by injection e with _ e;exact h e
def Qq(i m:Nat)(F:Nat->Prop)(Y:(Nat->Prop)->List (List Nat)->cd->Prop)(l:List Nat):Prop:=∀B h c j w,(∀b,B b->m<=b/\b<w.heap.size)->B j->eO w (some ⟨j,0,none⟩) c->c.length=l.length->(∀d∈c,d∈l)->Y B h w->∃f e a g,Sem.run V.prog (Instr.yield i #[.slice (some ⟨j,0,none⟩) c.length l.length]) w=.ok (.round i f e a g) w/\RoundIn Fence.wide 0 V.prog i f e a g w λn k=>n=.returned (.bool true)/\cN F w k/\Y B (h++[c]) k
def Kz(J:l.length<=100000){lc lv lp n0:Nat}{F:Nat->Prop}{Y:(Nat->Prop)->List (List Nat)->cd->Prop}(hn:n0=w.heap.size) (aa:w.cell? ⟨lv,0,none⟩=some (.slice a l.length lc))(ab:eO w a l)(al:∀b o,a=some ⟨b,o,none⟩->b<w.heap.size)(hF:∀b,F b->b<w.heap.size/\b≠lv/\∀b' o,a=some ⟨b',o,none⟩->b≠b') (h0:∀c B,Ext w c->(∀b,B b->n0<=b/\b<c.heap.size)->Y B [] c)(hY:∀B m q b,Y B m q->cN B q b->Y B m b)(hy:Qq lp n0 F Y l):
 Calls V.prog 196 #[.func (.yield lp) #[] #[],cK lv] w (fy λv w'=>∃B,Y B (mv l) w'):=by
 subst hn;have ac:lv<w.heap.size:=nF aa;refine go V.func196 Tryz.ntmps196 ?_;refine fo λD yv ey aI ad=>?_;have aJ:=cF.lt_of_heap ad;have U:=ey.cell aa;refine fV 8 cO (WO D.heap.size) (λq b h=>h.ze _) ?_;have ae:∀c,ZE D.heap.size D c->iO V.prog (Instr.loadAt 27 (.pointer (some ⟨lv,0,none⟩))) c λu N=>u=.slice a l.length lc/\Ext c N:=λc n=>cu ((n.ext (cz _)).cell U) ⟨rfl,Ext.refl _⟩;refine .exact _ ae (.exact (.int .i64 l.length) (λc _=>cD ⟨rfl,Ext.refl _⟩) ?_);refine .rel (λv c=>∃g,v=.slice (some ⟨g,0,none⟩) 0 l.length/\D.heap.size<=g/\c.heap[g]? =some (.cells (Array.replicate l.length (.int .i64 0)) 3)) ?_ (λc n=>HT (l:=0) oG (fN _) J λN W X E A=>⟨⟨W,rfl,cJ n.size E,?_⟩,X⟩) ?_;rintro v q b ⟨g,P,Q,K⟩ n;exact⟨g,P,Q,n.at_ K (uR (by decide))⟩;rw[A];simp[FN];refine .exact _ ae (.exact (.int .i64 l.length) (λc _=>cD ⟨rfl,Ext.refl _⟩) ?_);refine .rel (λv c=>∃C,v=.slice (some ⟨C,0,none⟩) l.length l.length/\D.heap.size<=C/\c.heap[C]? =some (.cells (Array.replicate l.length (.bool false)) 4)) ?_ (λc n=>HT UN (cz _) J λN W X E A=>⟨⟨W,rfl,cJ n.size E,?_⟩,X⟩) ?_;rintro v q b ⟨g,P,Q,K⟩ n;exact⟨g,P,Q,n.at_ K (uR (by decide))⟩;rw[A];simp[FN];refine .Kg (λv c=>∃i,v=.pointer (some ⟨i,0,none⟩)/\D.heap.size<=i/\c.heap[i]? =some UQ) (λv q b ⟨i,P,Q,K⟩ n=>⟨i,P,Q,n.at_ K⟩) (λc n=>eF λN W X E A=>⟨⟨W,rfl,cJ n.size E,A⟩,X⟩) ?_;refine .rel (λv c=>∃I,v=.pointer (some ⟨I,0,none⟩)/\D.heap.size<=I/\c.heap[I]? =some (.cells #[.slice none 0 0] 225)) ?_ (λc n=>eF λN W X E A=>⟨⟨W,rfl,cJ n.size E,A⟩,X⟩) ?_;rintro v q b ⟨g,P,Q,K⟩ n;exact⟨g,P,Q,n.at_ K (uR (by decide))⟩;refine .xd (λvs c=>∃R i g,vs=[.pointer (some ⟨i,0,none⟩),R,.slice (some ⟨g,0,none⟩) 0 l.length]/\D.heap.size<=i/\c.heap[i]? =some (.cells #[.slice (some ⟨g,0,none⟩) 0 l.length] 27)) ?_ (λc n v3 K R h4 v8 h8=>?_) ?_;rintro vs q b ⟨R,i,g,P,Q,K⟩ n;exact⟨R,i,g,P,Q,n.at_ K⟩;obtain⟨i,rfl,g1,g2⟩:=K;obtain⟨g,rfl,g3,g4⟩:=h8;refine cZ g2 λN Z H=>⟨⟨R,i,g,rfl,g1,H⟩,ZE.store Z g1 (λe=>by cases e) (.inl g2) H⟩;intro c n v3 _ R h4 am an v8 h8 hJ;obtain⟨I,rfl,ao,p⟩:∃I,R=.pointer (some ⟨I,0,none⟩)/\D.heap.size<=I/\c.heap[I]? =some (.cells #[.slice none 0 0] 225):=h4;obtain⟨C,rfl,aK,r⟩:∃C,am=.slice (some ⟨C,0,none⟩) l.length l.length/\D.heap.size<=C/\c.heap[C]? =some (.cells (Array.replicate l.length (.bool false)) 4):=an;obtain⟨g,rfl,aL,s⟩:∃g,v8=.slice (some ⟨g,0,none⟩) 0 l.length/\D.heap.size<=g/\c.heap[g]? =some (.cells (Array.replicate l.length (.int .i64 0)) 3):=h8;obtain⟨_,i,ap,G,aM,z⟩:∃R i af,[v3,.pointer (some ⟨I,0,none⟩),.slice (some ⟨g,0,none⟩) 0 l.length]=[.pointer (some ⟨i,0,none⟩),R,.slice (some ⟨af,0,none⟩) 0 l.length]/\D.heap.size<=i/\c.heap[i]? =some (.cells #[.slice (some ⟨af,0,none⟩) 0 l.length] 27):=hJ;simp only[qm,and_true]at G;obtain⟨rfl,rfl,G⟩:=G;injection G with G;obtain rfl:g=ap:=cM Addr.block (cE G);clear G;have ex:Ext D c:=n.ext (cz _);clear n;have ne:∀{x y:Nat} {cs aq:Array ce} {t t':cg},c.heap[x]? =some (.cells cs t)->c.heap[y]? =some (.cells aq t')->t≠t'->x≠y:=λhx hy ht e=>by subst e;rw[hx]at hy;exact uR ht (cE hy)
 have d1:=ne z p (by decide);have d2:=ne z s (by decide);have d3:=ne z r (by decide);have d4:=ne p s (by decide);have d5:=ne p r (by decide);have d6:=ne s r (by decide);have su:=cF.lt_of_heap p;refine cZ p λN Z H=>?_;have H:N.heap[I]? =some (.cells #[.slice (some ⟨C,0,none⟩) l.length l.length] 225):=H;refine eF λw3 gv e3 aN ag=>cZ ag λO k4 ar=>?_;have s2:=Z.size;have au:Ext D N:=ex.cy Z ao;have L:Ext D O:=(au.trans e3).cy k4 (by have:=ex.size;omega);have av:=cF.lt_of_heap z;have aw:=cF.lt_of_heap s;have ax:=cF.lt_of_heap r;have aO:=cF.lt_of_heap p;have S:∀{x:Nat} {o:Obj},N.heap[x]? =some o->O.heap[x]? =some o:=λhx=>k4.fg (e3.at_ hx) (by have:=cF.lt_of_heap hx;omega);have ay:=L.at_ ad;let e:A8:=⟨i,lv,yv,I,gv,g,C,lp,a,lc⟩;have aG:=ac;have sw:=ey.size;have ok:WN e:=⟨⟨by show i≠lv;omega,by show i≠yv;omega,d1,by show i≠gv;omega,d2,d3⟩,⟨by show g≠lv;omega,by show g≠yv;omega,fO d4,by show g≠gv;omega,d6⟩,⟨by show C≠lv;omega,by show C≠yv;omega,fO d5,by show C≠gv;omega⟩,λb o A=>by have:=al b o A;show b≠i/\b≠g/\b≠C;omega⟩;have hO:Jf e l [] (List.replicate l.length false) O:=by refine⟨S (Z.fg z d1),L.cell U,ci ay rfl,ci (S H) rfl,ci ar rfl,⟨_,S (Z.fg s (fO d4)),by simp,λj hj=>by simp at hj⟩,?_,by simp,ab.ext (ey.trans L)⟩;have:=S (Z.fg r (fO d5));rw[this];simp[iT]
 let B:Nat->Prop:=λx=>x=i\/x=g\/x=C;have s4:=L.size;have l4:∀{x:Nat},x<c.heap.size->x<O.heap.size:=λhx=>by have:=e3.size;have:=k4.size;omega
 have M:∀b,B b->w.heap.size<=b/\b<O.heap.size:=λb A=>by rcases A with rfl|rfl|rfl;exact⟨by omega,l4 av⟩;exact⟨by omega,l4 aw⟩;exact⟨by omega,l4 ax⟩
 have az:=h0 O B (ey.trans L) M;have aA:∀m q b,(Y B m q/\O.heap.size<=q.heap.size)->cN (λx=>x=e.rv\/x=e.rb\/x=e.ub) q b->(Y B m b/\O.heap.size<=b.heap.size):=λm q b h k=>⟨hY B m q b h.1 k,cJ h.2 k.size⟩;have aB:FO e l (λm q=>Y B m q/\O.heap.size<=q.heap.size):=by rintro m aC aH wy hr ah hA ⟨aD,aP⟩;obtain⟨cs,g1,g2,g3⟩:=hA.rb;obtain⟨f,ai,T,aj,ak,hR⟩:=hy B m aC g wy (λb A=>⟨(M b A).1,by have:=(M b A).2;omega⟩) (.inr (.inl rfl)) (λk hk=>⟨g,0,rfl,ci g1 (by rw[cB];exact g3 k hk)⟩) hr ah aD;refine⟨f,ai,T,aj,ak,hR.mono ?_⟩;rintro en w' ⟨rfl,hk,aE⟩;refine⟨rfl,hA.keep hk (λb A=>?_),aE,by have:=hk.size;omega⟩;obtain⟨q1,q2,q3⟩:=hF b A;show b≠i/\b≠lv/\b≠yv/\b≠I/\b≠gv/\b≠g/\b≠C/\_;exact⟨by omega,q2,by omega,by omega,by omega,by omega,by omega,q3⟩
 refine cu hO.gv (ck (Jg ok J aA aB l.length [] (List.replicate l.length false) [] O (by simp) (λd hd=>by cases hd) hO ⟨az,cz _⟩) ?_);rintro v w5 ⟨rfl,_,aF,_⟩;exact⟨_,rfl,B,by simpa[mv]using aF⟩
end Go.Proofs.W
variable{K:cm}
namespace Go.Proofs.W
open Go.RowKit
def KD(c:Option Addr)(n d:Nat)(w:cd):Calls V.prog 172 #[.slice c n d] w (fy λv e=>Ext w e/\∃a,v=.func (.func 196) #[] #[cK a]/\w.heap.size<=a/\e.heap[a]? =some (.cells #[.slice c n d] 27)):=by refine go V.func172 Tryz.ntmps172 ?_;exact fo λh a f b g=>⟨_,rfl,f,a,rfl,b,g⟩
section
variable{N:Nat}{r:Option Nat}{ds:List Deferred}{x y:Code}{Q:Exit->Act->cd->Prop}{l:L}{a:Act}{w:cd}
def Zo(g:rp ds N l a)(i:flat x=true)(h:WC V.prog Hy N x (λe d f=>∀b,rp ds N d b->Q e b f) l w):x.wpIn (wd r) 0 V.prog Q a w:=
 wpIn_mono (j8 jG x _ l a w i g h) (by rintro e b f ⟨d,c,j⟩;exact j b c)
def RQ(P:cf)(r:Option Nat)(y:Code)(Q:Exit->Act->cd->Prop):Exit->Act->cd->Prop
 | .normal,a,w=>y.wpIn (wd r) 0 P Q a w
 |e,a,w=>Q e a w
def wpS(d:rp ds N l a)(f:flat x=true)(h:WC V.prog Hy N x (λe g c=>∀b,rp ds N g b->RQ V.prog r y Q e b c) l w):(Code.seq x y).wpIn (wd r) 0 V.prog Q a w:=
 wpIn_seq (wpIn_mono (Zo (Q:=RQ V.prog r y Q) d f h) (by rintro e b c i;cases e<;>exact i))
def Zp{j:Nat}{c:Array Oper}{E:cd->cd->Prop}(g:rp ds N l a)(i:fw E)(h:DW V.prog Hy N (λ_ _=>False) E E 1000 c.toList w l (λk m=>∀f,rp ds N k f->y.wpIn (wd none) 0 V.prog Q f m) 0 c.toList [] (xe c.toList l) [] [] [] [])(n:lN c N (sV c.toList)=true:=by kernel_rfl):
 (Code.seq (.region j c true) y).wpIn (wd none) 0 V.prog Q a w:=
 wpIn_seq (wpIn_wide.2 (Fx jG (λ_ _ _ _ _ h=>h.elim) i i (λ_ _ h=>h) (by kernel_rfl) n rfl g.b (λl f w e o=>o f ⟨e.b,e.d.trans g.d⟩) h))
end
def FQ{d:Func}{c:Code}{args:List ce}{w:cd}{R:Ending->cd->Prop}(N:Nat)
 (j:V.prog.funcs[K]? =some d)(b:d.body=some c)(k:d.ntmps=N)(l:args.length<=N)(h:∀a,rp [] N (args.zipIdx.map λp=>(p.2,p.1)) a->c.wpIn (wd none) 0 V.prog (bodyPostM Fence.wide 0 V.prog d R) a w):Calls V.prog K args.toArray w R:=by
 refine callsIn_wide.1 (callsIn_of_wp_marks (n:=0) j b trivial (h _ ⟨⟨?_,λt v m=>?_⟩,rfl⟩));simp[k];omega
 have g:∀(f:List ce) (n:Nat),lk ((f.zipIdx n).map λp=>(p.2,p.1)) t=some v->n<=t/\f[t-n]? =some v:=by
  intro f;induction f with
  |nil=>intro n h;cases h
  |cons x r o=>
   intro n h;simp only[List.zipIdx_cons,jP,lk]at h;cases b:Nat.beq n t with
   |true=>
    rw[b]at h;have:n=t:=gE b;subst this;exact⟨cz _,by simpa using h⟩
   |false=>
    rw[b]at h;have q:n≠t:=vH b;obtain⟨s,e⟩:=o (n+1) h;refine⟨by omega,?_⟩;have:t-n=(t-(n+1))+1:=by omega
    rw[this];simpa using e
 have e:=(g args 0 m).2;rw[Nat.sub_zero]at e;have i:t<args.length:=(gy.1 e).1;rw[kH];show((args.toArray++Array.replicate (d.ntmps-args.toArray.size) undef)[t]?).getD undef=v;rw[vG (by simpa using i)];simp[e]
def Jh{d:Func}{t N:Nat}{l:L}{a:Act}{ds:List Deferred}{w:cd}(c:d.results=#[.tmp t])(e:rp ds N l a)(f:lk l t=some z):Sem.run V.prog (results d a.tmps) w=.ok z w:=by have g:a.tmps.getD t undef=z:=e.b.at_ t z f;rw[zn,c];simp[Kd,g]
def Ti{c:Func}{t N:Nat}{l:L}{a:Act}{w:cd}{R:Ending->cd->Prop}(b:c.results=#[.tmp t])(e:rp [] N l a)(f:lk l t=some z)(g:R (.returned z) w):bodyPostM Fence.wide 0 V.prog c R .ret a w:=by show LeavesInM Fence.wide 0 V.prog c a.tmps R a.defers .returning w;rw[e.d];exact⟨z,Jh b e f,g⟩
def Ji(D:Nat):Deferred:={target:=.collected D,args:=#[]}
def Tj{c:Func}{t N D:Nat}{l:L}{a:Act}{w:cd}{R:Ending->cd->Prop}(b:c.results=#[.tmp t])(e:rp [Ji D] N l a)(f:lk l t=some z)(g:w.heap[D]? =some (.deferred (some [])))(h:R (.returned z) (w.putObj D (.deferred none))):bodyPostM Fence.wide 0 V.prog c R .ret a w:=by show LeavesInM Fence.wide 0 V.prog c a.tmps R a.defers .returning w;rw[e.d];exact⟨by simp,.inl ⟨D,_,rfl,run_takeDeferred g,z,Jh b e f,h⟩⟩
def zF(fn:FuncId)(tmps:Array Value)(p:Tmp)(assign body:Code)(D:Nat)(st:LoopState):Loop:={state:=st,pending:=none,fn,tmps,params:=#[p],assign,body,defers:=D}
theorem KE{N t p:Nat}{l:L}{a:Act}{w:World}{gf:FuncId}{cap:Array Value}{assign body:Code}{Q:Exit->Act->World->Prop}(hF:rp [] N l a)(hg:lk l t=some (.func (.func gf) #[] cap))(hgo:∀xs w,Sem.run V.prog (callFunc gf xs) w=.ok (.enter gf xs) w){I:World->Prop} (wX:∀fn W1 rc,rc=zF fn a.tmps p assign body w.heap.size .ready->Ext w W1->W1.heap.size=w.heap.size+2->W1.heap[w.heap.size]? =some (.deferred (some []))->W1.heap[w.heap.size+1]? =some (.loop rc)->
  Calls V.prog gf (#[.func (.yield (w.heap.size+1)) #[] #[]]++cap) W1 (fy λv W2=>W2.heap[w.heap.size+1]? =some (.loop rc)/\I W2))
 (UR:∀rc W2 a',W2.heap[w.heap.size+1]? =some (.loop rc)->I W2->rp [Ji w.heap.size] N l a'->Q .normal a' (W2.putObj (w.heap.size+1) (.loop {rc with state:=.exhausted}))):(Code.rangeFunc (.tmp t) #[p] assign body).wpIn (wd none) 0 V.prog Q a w:=by
 have RR:a.eval (.tmp t)=.func (.func gf) #[] cap:=hF.b.at_ t _ hg;refine wpIn_rangeFunc ?_;intro fn TR;obtain⟨W1,US⟩:∃W1,(w.alloc (.deferred (some []))).alloc (.loop (zF fn a.tmps p assign body w.heap.size .ready))=W1:=⟨_,rfl⟩;have Zq:W1.heap[w.heap.size+1]? =some (.loop (zF fn a.tmps p assign body w.heap.size .ready)):=by rw[<-US];have:=World.alloc_heap_new (w.alloc (.deferred (some []))) (.loop (zF fn a.tmps p assign body w.heap.size .ready));rwa[World.size_alloc]at this
 have Zr:W1.heap[w.heap.size]? =some (.deferred (some [])):=by rw[<-US];exact(alloc_old _ _ (by simp)).trans (World.alloc_heap_new w _)
 have hE:Ext w W1:=by rw[<-US];exact(Ext.alloc _ _).trans (Ext.alloc _ _)
 refine⟨w.heap.size+1,[Ji w.heap.size],W1,{target:=.fn (.func gf) cap,args:=#[.func (.yield (w.heap.size+1)) #[] #[]]},W1,gf,#[.func (.yield (w.heap.size+1)) #[] #[]]++cap,W1,?_,?_,λ_ _=>trivial,?_,(λh=>by cases h),?_⟩
 ·rw[<-US];exact run_enterLoop_outer _ _ _ _ _
 ·simp only[resolve,rangeCall,RR];simp[go_sem]
 ·simp[invoke,go_sem,hgo]
 ·refine(callsIn_wide.2 (wX fn W1 _ rfl hE (by rw[<-US];simp) Zr Zq)).mono ?_;rintro e W2 ⟨v,rfl,hl,hI⟩;have he:=run_endLoop (P:=V.prog) hl (by simp[zF]);refine⟨none,_,he,UR _ W2 _ hl hI ⟨⟨hF.b.size,hF.b.at_⟩,?_⟩⟩;show [Ji w.heap.size]++a.defers=_;rw[hF.d];rfl
theorem FR{lp fn p D N:Nat}{tmps:Array Value}{assign body:Code}{v:Value}{W:World}{rc:Loop}(Zs:rc=zF fn tmps p assign body D .ready)(hl:W.heap[lp]? =some (.loop rc)){l:L}(hF:vE N l ⟨tmps,[]⟩)(hp:p<N){R:World->Prop}(ha:flat assign=true)(hb:flat body=true)
 (h:∀rb W0,W0=W.putObj lp (.loop rb)->W0.heap[lp]? =some (.loop rb)->WC V.prog Hy N assign (λe l1 w1=>e=.normal/\w1=W/\WC V.prog Hy N body (λe l2 w2=>e=.normal/\w2.heap[lp]? =some (.loop rb)/\R (w2.putObj lp (.loop rc))) l1 W0) (ins N (some p) v l) W):
 ∃f RS Jj RU,Sem.run V.prog (Instr.yield lp #[v]) W=.ok (.round lp f RS Jj RU) W/\RoundIn Fence.wide 0 V.prog lp f RS Jj RU W λen w'=>en=.returned (.bool true)/\R w':=by
 subst Zs;have hy:=run_yield (P:=V.prog) (args:=#[v]) hl (by simp[zF]);refine⟨_,_,_,_,hy,roundIn_of_wpIn trivial ?_⟩;have Zt:rp [] N (ins N (some p) v l) ⟨tmps.setIfInBounds p v,[]⟩:=⟨hF.put (some p) v (λt ht=>by cases ht;exact hp),rfl⟩;have e0:((zF fn tmps p assign body D .ready).params.zip #[v]).foldl (λ(tmps:Array Value) (x:Tmp×Value)=>tmps.setIfInBounds x.1 x.2) (zF fn tmps p assign body D .ready).tmps=tmps.setIfInBounds p v:=by simp[zF]
 rw[e0];refine wpIn_mono (j8 (r:=some lp) jG assign _ _ _ _ ha Zt (h (zF fn tmps p assign body D .busy) _ rfl (World.putObj_heap_same (cF.lt_of_heap hl)))) ?_;rintro e a1 w1 ⟨l1,Zu,rfl,rfl,UT⟩;refine⟨_,run_beginRound hl rfl,wpIn_mono (j8 (r:=some lp) jG body _ l1 a1 _ hb Zu UT) ?_⟩;rintro e a2 w2 ⟨l2,mN,rfl,Zv,hR⟩;exact⟨_,_,run_endRound none Zv,rfl,hR⟩
def Ext.zH(h:Ext w t)(o:Obj)(b:w.heap.size<=m):Ext w (t.putObj m o):=
 ⟨h.os,h.tape,h.output,by simpa using h.size,h.drawn,λx a=>(World.putObj_heap_other (by omega)).trans (h.block x a)⟩
def kM(W:cd)(b:Nat)(o:Obj):cN (λx=>x=b) W (W.putObj b o):=
 ⟨rfl,rfl,rfl,by simp,cz _,λx _ a=>World.putObj_heap_other a⟩
def od(d:w.heap[m]? =some Q)(f:∀b t c,Q≠ .cells b t c)(a:w.cell? h=some x):(w.putObj m O).cell? h=some x:=by refine(kM w m O).ef a λe=>?_;unfold World.cell? at a;rw[e,d]at a;split at a;rename_i b t c g;exact f _ _ _ (cE g);cases a
def oI(G:Gd)(a:List (List Nat))(b:List Nat):eH G (a++[b])=ed G (eH G a) b:=by simp[eH]
structure Tk(G:Gd)(bb lb lp:Nat)(rc:Loop)(W1:cd)(B:Nat->Prop)(pre:List (List Nat))(W:cd):Prop where
 b:∀b,B b->W1.heap.size<=b
 k:cN (λb=>b=bb\/b=lb\/b=lp) W1 W
 l:W.heap[lp]? =some (.loop rc)
 lt:bb<W1.heap.size/\lb<W1.heap.size/\lp<W1.heap.size
 at_:∃a c,W.heap[bb]? =some (.cells #[.slice a (eH G pre).1.length c] 27)/\gq (λx=>B x\/x<W1.heap.size) W a (eH G pre).1/\(eH G pre).1.length<=c/\W.heap[lb]? =some (.cells #[.int .i64 (eH G pre).2] 3)
def Tk.keep{n:Loop}{d:List (List Nat)}(h:Tk H m k i n w B d t)(f:cN B t e):Tk H m k i n w B d e:=by
 obtain⟨a,c,q,r,s,u⟩:=h.at_;have j:∀x,x<w.heap.size->¬B x:=λx p g=>by have:=h.b x g;omega
 exact⟨h.b,h.k.trans f (λ_ _ h=>h) (λx p g=>absurd g (j x p)),f.fg h.l (j _ h.lt.2.2),h.lt,a,c,f.fg q (j _ h.lt.1),r.go (λ_ h=>.inl h) (λb o v g y=>f.ef y λz=>g (.inl z)),s,f.fg u (j _ h.lt.2.1)⟩
def kL.all{d:Nat->ce}{F:(Nat->Prop)->Prop}{R:(Nat->Prop)->Nat->ce->cd->Prop}(K:BO T d)(p:∃A,F A)(h:∀A,F A->kL d (R A) m w):kL d (λs v w=>∀A,F A->R A s v w) m w:=by
 obtain⟨q,f⟩:=p;obtain⟨j,a,k,r⟩:=(h q f).out;refine⟨j,a,k,λe l=>?_⟩;obtain⟨s,n,o,_⟩:=r e l;refine⟨s,n,o,λA t=>?_⟩;obtain⟨g,b,c,i⟩:=(h A t).out;rw[k]at c;obtain⟨rfl,rfl⟩:j=g/\a=b:=by injection c with c;injection c with u x;exact⟨u,x⟩
 obtain⟨y,z,B,C⟩:=i e l;obtain rfl:=K.inj s y n z (o.symm.trans B);exact C
def Df{gp mk ms n0 s:Nat}{F:(Nat->Prop)->Prop}(h:oR gp mk ms N w)(au:∃A,F A)(C:∀A,F A->∀b,A b->b<w.heap.size)(hp:∀A,F A->ku A mk ms N w)(hn:n0<=ms)(hs:s<32)(hd:∀d∈dK s,d<N.doors.length):
 Calls V.prog 129 #[cK gp,.int .u8 s] w (fy λv w'=>iB n0 w w'/\∀A,F A->ku A mk ms N w'/\ShR A N s v w'):=by
 have av:(dK s).length<=100000:=by have:=j9 s 5;unfold dK;omega
 refine FQ (args:=[cK gp,.int .u8 s]) 46 V.func129 rfl Tryz.ntmps129 (by simp) λa hF=>?_;refine wpS hF rfl (fo λw1 b2 e1 bj M a1 aM=>?_);have h1:=h.ext e1;have aw:=λA C=>(hp A C).ext e1;refine wpS aM rfl (cu (ci M rfl) (cu h1.X9 (Kw Dd NL (z:=.slice none 0 0) (by intro w;kernel_rfl) (kL.all Dd au λA C=>(aw A C).s) hs (λv hv=>iR rfl λa2 af=>Ti rfl af rfl ⟨_,rfl,e1.gi n0,λA C=>⟨aw A C,hv A C⟩⟩) (iG rfl λa2 af=>?_))));refine wpS af rfl (eF λw2 p e2 bk ab a3 aN=>?_);refine wpS aN rfl (eF λw3 n e3 aO ac=>cZ ac λw4 k4 ax a4 aP=>?_);have bl:=cF.lt_of_heap ab;have bm:=cF.lt_of_heap ac;have bn:=cF.lt_of_heap M;have e4:Ext w2 w4:=e3.cy k4 aO;have E4:Ext w w4:=(e1.trans e2).trans e4;have ay:w4.heap[p]? =some (.cells #[.slice none 0 0] 27):=e4.at_ ab;have ad:w4.heap[n]? =some (.cells #[.int .i64 (-1)] 3):=ax;refine wpIn_seq ?_;refine wpS aP rfl (ck (uK s w4 hs) ?_);rintro bo w5 ⟨e5,az⟩;obtain⟨la,lc,rfl,ag,_⟩:=az.row;refine ck (KD la (dK s).length lc w5) ?_;rintro fv g ⟨e6,lv,rfl,bp,ae⟩;intro a6 ah;have aA:∀b o,la=some ⟨b,o,none⟩->w4.heap.size<=b/\b<w5.heap.size:=λb o c=>by obtain⟨_,⟨_,h2⟩|⟨b',c',cs,g1,h2,g3,_⟩⟩:=az;injection h2 with h2;rw[h2]at c;cases c;injection h2 with h2;rw[h2]at c;have:=cM Addr.block (cE c);simp only at this;subst this;exact⟨g1,cF.lt_of_heap g3⟩
 have s1:=e1.size;have s2:=e2.size;have s4:=e4.size;have s5:=e5.size;have s6:=e6.size;have l6:lv<g.heap.size:=cF.lt_of_heap ae;have bq:n<w4.heap.size:=cF.lt_of_heap ad;have T:Ext w g:=E4.trans (e5.trans e6);have aB:g.heap[b2]? =some (.cells #[cK gp] 138):=((e2.trans e4).trans (e5.trans e6)).at_ M;have br:p≠n/\p≠b2/\n≠b2:=by have:=e2.size;omega
 refine wpIn_block (KE ah rfl (by intro _ _;kernel_rfl) (I:=λW2=>∃O G B,Ext g G/\G.heap.size=g.heap.size+2/\G.heap[g.heap.size]? =some (.deferred (some []))/\Tk N p n (g.heap.size+1) O G B (mv (dK s)) W2) ?_ ?_);intro fn G O aQ f aC hD hL;have ai:=ag.ext (e6.trans f);have aD:=f.at_ ae;refine(Kz (lv:=lv) (lc:=lc) (lp:=g.heap.size+1) (F:=λb=>b=p\/b=n\/b=g.heap.size+1) (Y:=λB K W=>Tk N p n (g.heap.size+1) O G B K W) av rfl (ci aD rfl) ai (λb o c=>?_) (λb c=>?_) (λW2 B U hB=>?_) (λB K a b hy k=>hy.keep k) ?_).mono ?_;have:=aA b o c;omega;refine⟨by omega,by omega,λb' o aR=>?_⟩;have:=aA b' o aR;omega;refine⟨λb c=>(hB b c).1,U.keep _,U.at_ hL,by omega,none,0,?_,λk hk=>by simp[eH]at hk,fN _,?_⟩;exact U.at_ (f.at_ (e6.at_ (e5.at_ ay)));exact U.at_ (f.at_ (e6.at_ (e5.at_ ad)));intro B K L rb W aj aS al bs aE i;have EW:Ext w W:=⟨i.k.os.trans (T.trans f).os,i.k.tape.trans (T.trans f).tape,i.k.output.trans (T.trans f).output,by have:=i.k.size;omega,cJ (T.trans f).drawn i.k.drawn,λx hx=>(i.k.block x (by omega) (by omega)).trans ((T.trans f).block x hx)⟩;obtain⟨ba,bc,g1,g2,g3,g4⟩:=i.at_;obtain⟨q1,q2,q3⟩:=i.lt;have lW:=i.k.size;refine FR aQ i.l ⟨ah.b.size,ah.b.at_⟩ (by decide) (R:=λw'=>cN (λb=>b=p\/b=n\/b=g.heap.size+1) W w'/\Tk N p n (g.heap.size+1) O G B (K++[L]) w') rfl rfl λaF W0 X P=>⟨rfl,rfl,?_⟩;have kB:cN (λx=>x=g.heap.size+1) W W0:=by rw[X];exact kM _ _ _
 have J:W0.heap.size=W.heap.size:=by rw[X];simp
 have E0:Ext w W0:=by rw[X];exact EW.zH _ (by omega)
 clear X;have Q:=kB.fg g1 (by omega);have t:=kB.fg g4 (by omega);have aT:W0.heap[b2]? =some (.cells #[cK gp] 138):=kB.fg (i.k.fg (f.at_ aB) (by omega)) (by omega)
 have am:∀(r:cd) (a':Option Addr) (c':Nat) (y:List Nat) (D:Int),r.heap[g.heap.size+1]? =some (.loop aF)->r.heap[p]? =some (.cells #[.slice a' y.length c'] 27)->r.heap[n]? =some (.cells #[.int .i64 D] 3)->eH N (K++[L])=(y,D)->gq (λx=>B x\/x<G.heap.size) r a' y->y.length<=c'->
  cN (λb=>b=p\/b=n\/b=g.heap.size+1) W0 r->Exit.normal=.normal/\r.heap[g.heap.size+1]? =some (.loop aF)/\cN (λb=>b=p\/b=n\/b=g.heap.size+1) W (r.putObj (g.heap.size+1) (.loop O))/\Tk N p n (g.heap.size+1) O G B (K++[L]) (r.putObj (g.heap.size+1) (.loop O)):=λr a' c' y D y1 y2 y3 y4 y5 y6 y7=>by
  have kE:=kM r (g.heap.size+1) (.loop O);have kW:cN (λb=>b=p\/b=n\/b=g.heap.size+1) W (r.putObj (g.heap.size+1) (.loop O)):=(kB.trans y7 (λ_ _ h=>.inr (.inr h)) λ_ _ h=>h).trans kE (λ_ _ h=>h) λ_ _ h=>.inr (.inr h);refine⟨rfl,y1,kW,i.b,i.k.trans kW (λ_ _ h=>h) λ_ _ h=>h,World.putObj_heap_same (cF.lt_of_heap y1),i.lt,a',c',?_,?_,?_,?_⟩;rw[y4];exact kE.fg y2 (by omega);rw[y4];exact y5.go (λ_ h=>.inl h) λb o v c q=>od y1 (λ_ _ _ e=>by cases e) q;rw[y4];exact y6;rw[y4];exact kE.fg y3 (by omega)
 have E:eO W0 (some ⟨rb,0,none⟩) L:=λk hk=>by
  obtain⟨b,o,z1,z2⟩:=al k hk;have bt:=aj rb aS;have:b=rb:=by have:=cM Addr.block (cE z1);simpa using this.symm
  subst this;exact⟨b,o,z1,kB.ef z2 (by show¬b=_;omega)⟩
 have aU:∀d∈L,d<N.doors.length:=λd aV=>hd d (aE d aV);have aG:L.length<=100000:=by omega
 refine cu (ci aT rfl) (cS (Kq (h.ext E0) aU aG E) (cu (ci t rfl) (cV ⟨λaW=>iR rfl (ck (lx E (by omega)) λuv w7 Z=>?_),λaX=>cu (ci t rfl) (cV ⟨λaH=>ck (lx E (by omega)) λuv w7 Z=>?_,λaI=>?_⟩)⟩)));obtain⟨e7,Z⟩:=Z;obtain⟨ua,uc,rfl,an,ao⟩:=dE.Th (A:=λx=>B x\/x<G.heap.size) Z (λb c=>by rcases c with c|c;have:=(aj b c).2;rw[J];exact this;rw[J];omega);refine cZ (e7.at_ Q) λw8 k8 ap=>cZ (k8.fg (e7.at_ t) (by omega)) λr k9 aq=>?_
 exact am r _ _ _ _ (k9.fg (k8.fg (e7.at_ P) (show¬g.heap.size+1=p by omega)) (show¬g.heap.size+1=n by omega)) (k9.fg ap (show¬p=n by omega)) aq (by rw[oI,ed,cx (.inl (cY aW))]) (an.go (λ_ h=>.inl h) λb o v c q=>k9.ef (k8.ef q (λe=>c (.inr (by have:b=p:=e;show b<_;omega)))) (λe=>c (.inr (by have:b=n:=e;show b<_;omega)))) ao
  ((e7.keep (λb=>b=p\/b=n\/b=g.heap.size+1)).trans (k8.trans k9 (H:=λb=>b=p\/b=n\/b=g.heap.size+1) (λ_ _ h=>.inl h) λ_ _ h=>.inr (.inl h)) (λ_ _ h=>h) λ_ _ h=>h)
 obtain⟨e7,Z⟩:=Z;obtain⟨ua,uc,rfl,an,ao⟩:=dE.Th (A:=λx=>B x\/x<G.heap.size) Z (λb c=>by rcases c with c|c;have:=(aj b c).2;rw[J];exact this;rw[J];omega);refine cZ (e7.at_ Q) λw8 k8 ap=>cZ (k8.fg (e7.at_ t) (by omega)) λr k9 aq=>?_
 exact am r _ _ _ _ (k9.fg (k8.fg (e7.at_ P) (show¬g.heap.size+1=p by omega)) (show¬g.heap.size+1=n by omega)) (k9.fg ap (show¬p=n by omega)) aq (by rw[oI,ed,cx (.inr (cY aH))]) (an.go (λ_ h=>.inl h) λb o v c q=>k9.ef (k8.ef q (λe=>c (.inr (by have:b=p:=e;show b<_;omega)))) (λe=>c (.inr (by have:b=n:=e;show b<_;omega)))) ao
  ((e7.keep (λb=>b=p\/b=n\/b=g.heap.size+1)).trans (k8.trans k9 (H:=λb=>b=p\/b=n\/b=g.heap.size+1) (λ_ _ h=>.inl h) λ_ _ h=>.inr (.inl h)) (λ_ _ h=>h) λ_ _ h=>h)
 refine am W0 ba bc _ _ P Q t (by rw[oI,ed,cr (by have h1:=dQ aX;have h2:=dQ aI;omega)]) (g2.go (λ_ h=>.inl h) λb o v c q=>kB.ef q (λe=>c (.inr (by have:b=g.heap.size+1:=e;show b<_;omega)))) g3 (cN.refl _ _);rintro e W2 ⟨v,rfl,B,i⟩;exact⟨_,rfl,i.l,_,G,B,f,aC,hD,i⟩;rintro O W2 a7 aY ⟨bu,G,B,f,aC,hD,i⟩ aZ;have lD:=cF.lt_of_heap hD;obtain⟨q1,q2,q3⟩:=i.lt;obtain⟨ba,bc,g1,g2,g3,g4⟩:=i.at_;have EW:Ext w W2:=⟨i.k.os.trans (T.trans f).os,i.k.tape.trans (T.trans f).tape,i.k.output.trans (T.trans f).output,by have:=i.k.size;omega,cJ (T.trans f).drawn i.k.drawn,λx hx=>(i.k.block x (by omega) (by omega)).trans ((T.trans f).block x hx)⟩;have D2:=i.k.fg hD (by omega);have a0:=i.k.fg (f.at_ aB) (by omega);obtain⟨W3,S⟩:∃W3,W3=W2.putObj (g.heap.size+1) (.loop {O with state:=.exhausted}):=⟨_,rfl⟩;have k3:cN (λx=>x=g.heap.size+1) W2 W3:=by rw[S];exact kM _ _ _
 have E3:Ext w W3:=by rw[S];exact EW.zH _ (by omega)
 have a5:gq (λx=>B x\/x<G.heap.size) W3 ba (cH N s):=by rw[S];exact g2.go (λ_ h=>.inl h) λb o v c q=>od aY (λ_ _ _ e=>by cases e) q
 rw[<-S];clear S;have D3:=k3.fg D2 (by omega);have a8:=k3.fg a0 (by omega);have aJ:=k3.fg g1 (by omega);have h3:=h.ext E3;show Code.wpIn _ _ _ (Code.seq _ _) _ a7 W3;refine Zp aZ cO (cG (ci a8 rfl) (cG h3.X9 (cG (ci aJ rfl) λw8 e8=>?_)));have aa:=λA C=>(hp A C).ext (E3.trans e8);have aK:∀A,F A->ShR A N s (.slice ba (cH N s).length bc) w8:=λA j=>⟨ba,bc,rfl,(a5.go (λ_ h=>.inl h) λb o v c q=>e8.cell q).more λb c=>.inl (.inr (by have:=C A j b c;omega)),g3⟩;refine uQ Dd NL (kL.all Dd au λA C=>(aa A C).s) hs hn (λr m=>⟨λs u Z A C=>(Z A C).go (λ_ h=>.inl h) λb o v c q=>m.cell q,λA C=>(aK A C).go (λ_ h=>.inl h) λb o v c q=>m.cell q⟩) λr m9 bd be=>?_;have bf:=h.ne;have ar:∀A,F A->ku A mk ms N r:=λA j=>⟨be.go (λs v hr=>hr A j) λo ho=>ho,(aa A j).k.go (λs v hr=>hr.go (λ_ h=>.inl h) λb o v c q=>m9.cell q) λo ho=>by rw[bd mk bf];exact ho,(aa A j).ak,(aa A j).asm⟩;have bg:=λA j=>(aK A j).go (A':=A) (λ_ h=>.inl h) (λb o v c q=>m9.cell q);have D9:r.heap[g.heap.size]? =some (.deferred (some [])):=m9.block _ _ (e8.at_ D3) (.inr rfl);have bh:=m9.at_ (e8.at_ aJ);intro a9 bi;refine wpS bi rfl (cu (ci bh rfl) λbv aL=>wpIn_ret (Tj rfl aL rfl D9 ⟨_,rfl,?_,λA j=>⟨?_,?_⟩⟩));exact(((E3.trans e8).gi n0).trans m9).cy (kM _ _ _) (by omega);refine(ar A j).go (λ_ h=>.inl h) (λb o v c q=>od D9 (λ_ _ _ e=>by cases e) q) λb o c ho=>(World.putObj_heap_other λe=>?_).trans ho;obtain⟨bw,c1,t1,_⟩:=(ar A j).s.out;obtain⟨bx,c2,t2,_⟩:=(ar A j).k.out;rcases c with rfl|rfl;rw[e,D9]at t2;cases t2;rw[e,D9]at t1;cases t1;exact(bg A j).go (λ_ h=>.inl h) λb o v c q=>od D9 (λ_ _ _ e=>by cases e) q
def xi{gp mk ms n0 s:Nat}(h:oR gp mk ms H w)(c:∀b,A b->b<w.heap.size)(f:ku A mk ms H w)(l:n0<=ms)(m:s<32)(n:∀d∈dK s,d<H.doors.length):
 Calls V.prog 129 #[cK gp,.int .u8 s] w (fy λv g=>MR n0 mk ms H w g/\∀a,(∀b,a b->b<w.heap.size)->ku a mk ms H w->ShR a H s v g):=by
 refine(Df (n0:=n0) (F:=λa=>(∀b,a b->b<w.heap.size)/\ku a mk ms H w) h ⟨A,c,f⟩ (λa h=>h.1) (λa h=>h.2) l m n).mono ?_;rintro e g ⟨v,rfl,o,k⟩;exact⟨v,rfl,⟨o,λa i j=>(k a ⟨i,j⟩).1⟩,λa i j=>(k a ⟨i,j⟩).2⟩
def xj{gp mk ms n0 s:Nat}(h:oR gp mk ms H w)(c:∀b,A b->b<w.heap.size)(f:ku A mk ms H w)(i:n0<=ms)(j:s<32)(k:∀d∈dK s,d<H.doors.length):
 Calls V.prog 129 #[cK gp,.int .u8 s] w (fy λv a=>iB n0 w a/\ku A mk ms H a/\ShR A H s v a):=by
 refine(xi h c f i j k).mono ?_;rintro e a ⟨v,rfl,g,l⟩;exact⟨v,rfl,g.1,g.2 A c f,l A c f⟩
def MA(n0 mk ms:Nat)(G:Gd)(A:Nat->Prop)(a b:cd):Prop:=iB n0 a b/\(ku A mk ms G a->ku A mk ms G b)
def xP(n0 mk ms:Nat)(G:Gd)(A:Nat->Prop):fw (MA n0 mk ms G A):=⟨λw=>⟨iB.refl _ _,id⟩,λ_ _ _ h k=>⟨h.1.trans k.1,λa=>k.2 (h.2 a)⟩,λw=>⟨(Ext.drew w).gi n0,λa=>a.ext (Ext.drew w)⟩⟩
def Ext.ma(h:Ext w t)(n0 mk ms:Nat)(G:Gd)(A:Nat->Prop):MA n0 mk ms G A w t:=⟨h.gi n0,λa=>a.ext h⟩
def ShR.gi{s n0:Nat}(h:ShR A H s x w)(e:iB n0 w t):ShR A H s x t:=h.go (λ_ h=>.inl h) λb o x c a=>e.cell a
def Dg:∀d∈cH H s,d∈dK s:=by
 have rows:∀(l:List Nat) (m:Nat) (b:List Nat) (a:List Bool),(∀d∈b,d∈l)->∀r∈nE l m b a,∀d∈r,d∈l:=by
  intro l m;induction m with
  |zero=>intro b a e r h;simp only[nE,fD]at h;subst h;exact e
  |succ m n=>
   intro b a e r h;simp only[nE,lJ]at h;obtain⟨i,j,h⟩:=h;split at h;cases h;refine n _ _ (λd c=>?_) r h;rcases gl.1 c with c|c;exact e d c;have j:i<l.length:=by simpa using j
   rw[fD.1 c,getD_eq j];exact dt j
 have f:∀(g:List (List Nat)) (k:List Nat×Int),(∀r∈g,∀d∈r,d∈dK s)->(∀d∈k.1,d∈dK s)->∀d∈(g.foldl (ed H) k).1,d∈dK s:=by
  intro g;induction g with
  |nil=>intro k _ h;exact h
  |cons r g n=>
   intro k o p;rw[mP];refine n _ (λx q=>o x (eI _ q)) ?_;unfold ed;split;exact o r eR;exact p
 exact f _ _ (λr e=>rows _ _ _ _ (λd c=>by cases c) r e) λd c=>by cases c
def my{G:Gd}:(cH G s).length<=5:=by
 have rows:∀(l:List Nat) (m:Nat) (b:List Nat) (a:List Bool),∀r∈nE l m b a,r.length=b.length+m:=by
  intro l m;induction m with
  |zero=>intro b a r h;simp only[nE,fD]at h;subst h;rfl
  |succ m f=>
   intro b a r h;simp only[nE,lJ]at h;obtain⟨i,o,h⟩:=h;split at h;cases h;have:=f _ _ r h;simp at this;omega
 have c:∀(d:List (List Nat)) (e:List Nat×Int),(∀r∈d,r.length<=5)->e.1.length<=5->(d.foldl (ed G) e).1.length<=5:=by
  intro d;induction d with
  |nil=>intro e _ h;exact h
  |cons r d f=>
   intro e g j;rw[mP];refine f _ (λx k=>g x (eI _ k)) ?_;unfold ed;split;exact g r eR;exact j
 have p:=j9 s 5;exact c _ _ (λr n=>by have:=rows _ _ _ _ r n;simp[dK]at this⊢;omega) (by simp)
def Dh{gp mk ms n0 s:Nat}{G:Gd}(h:oR gp mk ms G w)(m:∀b,A b->b<w.heap.size)(o:ku A mk ms G w)(p:n0<=ms)(q:s<32)(k:∀d∈dK s,d<G.doors.length):
 Calls V.prog 121 #[cK gp,.int .u8 s] w (fy λv r=>v=.bool (jH G s)/\MA n0 mk ms G A w r):=by
 have g:=xP n0 mk ms G A;refine go V.func121 Tryz.ntmps121 ?_;refine cQ g ?_;refine .rel (ShR A G s) (λv a b h e=>h.gi e.1) (λi f=>ck (xj (h.gi f.1) (λb t=>dl (m b t) f.1.size) (f.2 o) p q k) λv u ⟨x,y,z⟩=>⟨z,x,λ_=>y⟩) ?_;refine .exact (.int .i64 (dF G (cH G s))) (λi f v l=>?_) ?_;obtain⟨a,c,rfl,B,_⟩:=l;have D:=my (G:=G) (s:=s);exact dq (yf (h.gi f.1) (λd j=>k d (Dg d j)) (by omega) B.n) λu C=>⟨rfl,C.ma _ _ _ _ _⟩;refine wi g (λi f=>(h.gi f.1).c3) (RI ?_ g);rintro i f v l;exact⟨_,rfl,rfl,f⟩
section
variable{w:cd}{k:ce->cd->Prop}
def tailA(a:Option Addr)(c:Nat):Option Addr:=if c=1 then a else a.map (·.add 1)
def Jk(j:1<=m)(l:m<=i)(h:k (.slice (tailA a i) (m-1) (i-1)) w)(d:ty T=some ⟨3,1,1,0⟩:=by rfl):iO V.prog (Instr.sliceAt T (.slice a m i) (some (.int .i64 1)) none none) w k:=by
 obtain⟨e,f,g⟩:=rA d rfl;refine⟨_,w,?_,h⟩;have b:(1:Int)<=(m:Int):=by omega
 have c:(0:Int)<=(1:Int):=by omega
 unfold Instr.sliceAt Instr.slice;simp only[Sem.run_bind,fZ f,Result.andThen_ok,Instr.sliceBounds,Instr.sliceBound,asIntOf,pure_bind,c,b,and_self,cX,Sem.run_pure,lq g,tj,iq,eo];simp only[Int.toNat_one,Nat.one_mul,tailA]
end
def eO.tail{w:cd}(h:eO w a (m::l))(d:(m::l).length<=i):eO w (tailA a i) l:=λk e=>by
 obtain⟨b,o,f,g⟩:=h (k+1) (by simpa using e);have c:¬i=1:=by simp at d;omega
 refine⟨b,o+1,?_,?_⟩;unfold tailA;rw[cr c,f];simp[fL];rw[show o+1+k=o+(k+1) by omega,g];rfl
def eO.cut{w:cd}(h:eO w a l)(i:Nat):eO w a (l.take i):=λk d=>by
 have c:k<l.length:=by simp at d;omega
 obtain⟨b,o,e,f⟩:=h k c;exact⟨b,o,e,by rw[f];simp⟩
def NP(a:Array ce):Prop:=∀(j:Nat) (v:ce),a[j]? =some v->∃n:Int,v=Value.int .u8 n
def FT(a:List Nat):List ce:=a.map λn:Nat=>Value.int .u8 n
def FU(w:cd)(a:Option Addr)(c:List Nat):Prop:=∀k (h:k<c.length),∃b o,a=some ⟨b,o,none⟩/\w.cell? ⟨b,o+k,none⟩=some (.int .u8 c[k])
def FU.gi{w c:cd}{n0:Nat}(h:FU w a l)(e:iB n0 w c):FU c a l:=λk d=>by obtain⟨b,o,f,g⟩:=h k d;exact⟨b,o,f,e.cell g⟩
def wl(f:Nat)(w:cd)(e:ce)(a:List Nat):Prop:=(a=[]/\e=.slice none 0 0)\/∃d c b,e=.slice (some ⟨d,0,none⟩) a.length c/\a.length<=c/\f<=d/\w.heap[d]? =some (.cells b 154)/\NP b/\a.length<=b.size/\∀k (h:k<a.length),b[k]? =some (.int .u8 a[k])
def wl.gi{w a:cd}{b:ce}{n0:Nat}(h:wl m w b l)(e:iB n0 w a):wl m a b l:=by rcases h with h|⟨d,c,f,g,i,j,k,n⟩;exact .inl h;exact .inr ⟨d,c,f,g,i,j,e.at_ k,n⟩
def wl.row{w:cd}{d:ce}(h:wl m w d l):∃a c,d=.slice a l.length c/\l.length<=c/\FU w a l/\(a=none->l=[]):=by rcases h with⟨rfl,rfl⟩|⟨f,c,o,g,i,p,j,q,r,n⟩;exact⟨none,0,rfl,cz _,λk b=>by simp at b,λ_=>rfl⟩;exact⟨_,c,g,i,λk b=>⟨f,0,rfl,ci j (by rw[cB];exact n k b)⟩,λe=>by cases e⟩
def Di{w:cd}{v:ce}(h:cA m 154 [.int .u8 0] w v l.length (FT l)):wl m w v l:=by
 obtain⟨y,⟨i,rfl⟩|⟨b,c,n,o,rfl,p,q,r,z,g,s⟩⟩:=h;exact .inl ⟨l9 i,rfl⟩;have t:(FT l).length=l.length:=by simp[FT]
 refine .inr ⟨b,c,n,rfl,r,o,p,λj v a=>?_,by simp at q;omega,λk u=>?_⟩;have d:=(eP.1 a).1;rcases eA j (FT l).length with e|f;rw[g j e]at a;obtain⟨x,_,rfl⟩:=jj.1 (nR a);exact⟨_,rfl⟩;rw[s j f d]at a;simp[Nat.mod_one]at a;exact⟨0,a.symm⟩;rw[g k (by omega)];simp[FT,ew u]
def ku.Tl{A:Nat->Prop}{mk ms gb:Nat}{w:cd}{C:Array ce}(h:ku A mk ms H w)(q:w.heap[gb]? =some (.cells C T))(D:NP C):ku (λx=>A x\/x=gb) mk ms H w:=by
 have E:∀{a:Option Addr} {l:List Nat},gq A w a l->gq (λx=>A x\/x=gb) w a l:=λf k r=>by obtain⟨b,o,j,g,d⟩:=f k r;refine⟨b,o,λi=>i.elim j λe=>?_,g,d⟩;subst e;simp only[World.cell?,q]at d;obtain⟨n,t⟩:=D _ _ d;cases t
 have I:∀{a:Option Addr} {y:List (List Nat)},kZ A w a y->kZ (λx=>A x\/x=gb) w a y:=λf k r=>by obtain⟨b,o,J,K,j,g,d,m,z⟩:=f k r;refine⟨b,o,J,K,λi=>i.elim j λe=>?_,g,d,E m,z⟩;subst e;simp only[World.cell?,q]at d;obtain⟨n,t⟩:=D _ _ d;cases t
 obtain⟨L,O,F,_⟩:=h.s.out;obtain⟨M,P,G,_⟩:=h.k.out;refine⟨h.s.go (λs v f=>?_) λo B=>B,h.k.go (λs v f=>?_) λo B=>B,λi=>i.elim h.ak λe=>?_,λi=>i.elim h.asm λe=>?_⟩;obtain⟨a,c,g,d,m⟩:=f;exact⟨a,c,g,E d,m⟩;obtain⟨u,b,g,d⟩:=f;refine⟨u,b,g,?_⟩;cases p:fJ H s with
 |none=>rw[p]at d;exact d
 |some y=>
  rw[p]at d;obtain⟨j,a,c,m,z,N⟩:=d;exact⟨j,a,c,m,I z,N⟩
 rw[e,q]at G;cases G;rw[e,q]at F;cases F
def ku.fewer{A a:Nat->Prop}{mk ms:Nat}{w:cd}(h:ku a mk ms H w)(c:∀b,A b->a b):ku A mk ms H w:=h.more λb d=>.inl (c b d)
def lP(G:Gd)(s:Nat):Prop:=s<32/\∀d∈dK s,d<G.doors.length
def NQ:∀s:Nat,s<32->∀d:Nat,d<5->∀x∈dK (nZ s d),x∈dK s\/x=d:=by decide+kernel
theorem lP.nZ(h:lP H s)(a:d<H.doors.length)(c:H.doors.length<=5):lP H (nZ s d):=
 ⟨Hj s h.1 d (by omega),λx b=>(NQ s h.1 d (by omega) x b).elim (h.2 x) λe=>e▸a⟩
def lP.zero(G:Gd):lP G 0:=⟨by omega,λd a=>by
 have:dK 0=[]:=by decide+kernel
 rw[this]at a;cases a⟩
theorem lP.dB{G:Gd}(c:G.doors.length<=5)(a:∀d∈l,d<G.doors.length):lP G (dB l):=by
 have b:∀(l:List Nat) (s:Nat),lP G s->(∀d∈l,d<G.doors.length)->lP G (setFrom s l):=by
  intro l;induction l with
  |nil=>intro s h _;exact h
  |cons d r e=>intro s h a;exact e _ (h.nZ (a d eR) c) λx f=>a x (eI _ f)
 exact b l 0 (lP.zero G) a
def rJ{a:Type}{f:Nat->Option a}{k:Nat}{y:a}(g:k<m)(c:∀i,i<k->f i=none)(d:f k=some y):(List.range m).findSome? f=some y:=by obtain⟨b,rfl⟩:∃b,m=k+1+b:=⟨m-(k+1),by omega⟩;rw[List.range_add,kA,List.findSome?_append,List.findSome?_append];have:(List.range k).findSome? f=none:=List.findSome?_eq_none_iff.2 λi e=>c i (by simpa using e);simp[this,d]
def sX{a:Type}{f:Nat->Option a}(b:∀i,i<m->f i=none):(List.range m).findSome? f=none:=List.findSome?_eq_none_iff.2 λi c=>b i (by simpa using c)
def iB.patch{w f h j g:cd}(a:iB m w f)(b:cN (λx=>x=i) f h)(c:iB m h j)(d:cN (λx=>x=i) j g)(n:∀o,f.heap[i]? =some o->g.heap[i]? =some o):iB m w g:=
 ⟨d.os.trans (c.os.trans (b.os.trans a.os)),d.tape.trans (c.tape.trans (b.tape.trans a.tape)),d.output.trans (c.output.trans (b.output.trans a.output)),by have:=a.size;have:=b.size;have:=c.size;have:=d.size;omega,by have:=a.drawn;have:=b.drawn;have:=c.drawn;have:=d.drawn;omega,λx o p k=>by have l:=a.block x o p k;by_cases e:x=i;subst e;exact n o l;exact d.fg (c.block x o (b.fg l e) k) e⟩
end Go.Proofs.W
variable{M Y:List ce}
namespace Go.Proofs.W
open Go.RowKit
def FU.cells{w:cd}{a:Option Addr}{l:List Nat}(h:FU w a l):jA w a (FT l):=by
 rcases l with _|⟨x,r⟩;exact .inl rfl;obtain⟨b,o,rfl,_⟩:=h 0 (by simp);refine .inr ⟨b,o,rfl,λj u d=>?_⟩;have c:j<(x::r).length:=by simpa[FT]using(gy.1 d).1
 obtain⟨f,g,e,i⟩:=h j c;obtain⟨rfl,rfl⟩:b=f/\o=g:=by injection e with e;injection e with k m;exact⟨k,m⟩
 rw[i];have:(FT (x::r))[j]? =some (.int .u8 ((x::r)[j]:Nat)):=by simp only[FT,mR,ew c];rfl
 rw[this]at d;exact d
def zI{b:List Nat}{c:Nat}(h:FU w a b)(g:a=none->b=[])(d:b.length<=1000000):Calls V.prog 199 #[.slice a b.length c] w (fy λv f=>Ext w f/\cA w.heap.size 154 [.int .u8 0] f v b.length (FT b)):=
 NG a b.length c (FT b) w (by simp[FT]) (λe=>by rw[g e];rfl) h.cells (λu i=>by obtain⟨n,_,rfl⟩:=jj.1 i;rfl) d
def sY(n1:Nat)(w:cd)(a:Option Addr)(c:List Nat):Prop:=∀k (h:k<c.length),∃b o,n1<=b/\a=some ⟨b,o,none⟩/\w.cell? ⟨b,o+k,none⟩=some (.int .u8 c[k])
def sY.g{n1:Nat}{c:List Nat}(h:sY n1 w a c):FU w a c:=λk d=>by obtain⟨b,o,_,e,f⟩:=h k d;exact⟨b,o,e,f⟩
def sY.low{n1 c:Nat}{d:List Nat}(h:sY n1 w a d)(e:c<=n1):sY c w a d:=λk f=>by obtain⟨b,o,g,i,j⟩:=h k f;exact⟨b,o,cJ e g,i,j⟩
def sY.gi{n1 n0:Nat}{c:List Nat}(h:sY n1 w a c)(e:iB n0 w t):sY n1 t a c:=λk d=>by obtain⟨b,o,f,g,i⟩:=h k d;exact⟨b,o,f,g,e.cell i⟩
def wl.WP{e:Nat}{b:List Nat}(h:wl e w x b):∃a c,x=.slice a b.length c/\b.length<=c/\sY e w a b:=by rcases h with⟨rfl,rfl⟩|⟨f,c,n,g,i,j,l,o,p,m⟩;exact⟨none,0,rfl,cz _,λk d=>by simp at d⟩;exact⟨_,c,g,i,λk d=>⟨f,0,j,rfl,ci l (by rw[cB];exact m k d)⟩⟩
def cA.low{n0 n1:Nat}{a:Nat}(h:cA n0 T M w x a Y)(g:n1<=n0):cA n1 T M w x a Y:=by obtain⟨d,h|⟨b,c,e,i,f⟩⟩:=h;exact⟨d,.inl h⟩;exact⟨d,.inr ⟨b,c,e,by omega,f⟩⟩
def xQ(n1:Nat)(o:Option (List Nat))(v:ce)(w:cd):Prop:=match o with
 |some b=>∃a c,v=.tuple #[.slice a b.length c,.bool true]/\sY n1 w a b
 |none=>v=.tuple #[.slice none 0 0,.bool false]
theorem xQ.gi{o:Option (List Nat)}{n0 n1:Nat}(h:xQ n1 o x w)(e:iB n0 w t):xQ n1 o x t:=by
 cases o with
 |none=>exact h
 |some b=>
  obtain⟨a,c,d,f⟩:=h;exact⟨a,c,d,f.gi e⟩
structure MX(n0 n1 mk ms:Nat)(G:Gd)(A:Nat->Prop)(a b:cd):Prop where
 os:b.os=a.os
 tape:b.tape=a.tape
 output:b.output=a.output
 size:a.heap.size<=b.heap.size
 drawn:a.drawn<=b.drawn
 block:∀x o,x<n1->a.heap[x]? =some o->(x<n0\/Tg o=false)->b.heap[x]? =some o
 m:ku A mk ms G a->ku A mk ms G b
section
variable{n0 n1 mk ms:Nat}{G:Gd}{A:Nat->Prop}
def WQ(n0 n1 mk ms:Nat)(G:Gd)(A:Nat->Prop):fw (MX n0 n1 mk ms G A):=
 ⟨λw=>⟨rfl,rfl,rfl,cz _,cz _,λ_ _ _ h _=>h,id⟩,λa b c h k=>⟨k.os.trans h.os,k.tape.trans h.tape,k.output.trans h.output,cJ h.size k.size,cJ h.drawn k.drawn,λx o e g f=>k.block x o e (h.block x o e g f) f,λd=>k.m (h.m d)⟩,λw=>⟨rfl,rfl,rfl,cz _,sP _,λ_ _ _ h _=>h,λd=>d.ext (Ext.drew w)⟩⟩
def MA.mx(h:MA n0 mk ms G A w t):MX n0 n1 mk ms G A w t:=⟨h.1.os,h.1.tape,h.1.output,h.1.size,h.1.drawn,λx o _ a b=>h.1.block x o a b,h.2⟩
def MX.gi(h:MX n0 n1 mk ms G A w t)(c:w.heap.size<=n1):iB n0 w t:=⟨h.os,h.tape,h.output,h.size,h.drawn,λx o a b=>h.block x o (by have:=cF.lt_of_heap a;omega) a b⟩
end
theorem wm{gp mk ms n0 most:Nat}{G:Gd}(h:oR gp mk ms G w)(hn:n0<=ms):∀(doors g:List Nat) (A:Nat->Prop) (W:Option Addr) (M:Nat) (gv:ce) (J:cd),iB n0 w J->(∀b,A b->b<J.heap.size)->ku A mk ms G J->eO w W doors->doors.length<=M->(∀d∈doors,d<G.doors.length)->wl w.heap.size J gv g->(∀s∈g,lP G s)->doors.length+g.length<=100->
 Calls V.prog 175 #[cK gp,.slice W doors.length M,gv,.int .i64 most] J (fy λv w'=>MA n0 mk ms G A J w'/\xQ J.heap.size (eD G most doors g) v w')
 |[],g,A,W,M,gv,J,hm,hA,hp,hd,F,ag,hg,ah,P=>by obtain⟨a,c,rfl,hc,az,X⟩:=hg.row;refine go V.func175 Tryz.ntmps175 ?_;refine cD (eh (iR rfl (ck (zI az X (by simp at P;omega)) λv w1 hv=>?_)));obtain⟨e1,Q⟩:=hv;obtain⟨a1,c1,rfl,_,N⟩:=(Di Q).WP;exact⟨_,rfl,e1.ma _ _ _ _ _,a1,c1,rfl,N⟩
 |d::r,g,A,W,M,gv,J,hm,hA,hp,hd,F,ag,hg,ah,P=>by
  have h5:=h.tY.many;have aA:d<G.doors.length:=ag d eR;obtain⟨db,aB,aS,C⟩:=hd 0 (by simp);have C:w.cell? ⟨db,aB+0,none⟩=some (.int .i64 d):=C;obtain⟨ga,gc,aC,a8,_,_⟩:=hg.row;have a9:g.length<=100:=by omega
  let f:Nat->Option (List Nat):=λi=>if jH G (nZ (g.getD i 0) d)then eD G most r (g.set i (nZ (g.getD i 0) d))else none
  have Y:eD G most (d::r) g=match(List.range g.length).findSome? f with
   |some Z=>some Z
   |none=>if g.length<most/\jH G (dB [d])=true then eD G most r (g++[dB [d]])else none:=rfl
  refine go V.func175 Tryz.ntmps175 ?_;rw[aC];refine cD (eh (iG (by simp;omega) ?_));refine cD (ei (n:=g.length) (λk=>[(0,cK gp),(1,.slice W (d::r).length M),(2,.slice ga g.length gc),(3,.int .i64 most),(19,.slice ga g.length gc),(20,.int .i64 g.length),(21,.int .i64 k)]) (λk w'=>MA n0 mk ms G A J w'/\wl w.heap.size w' (.slice ga g.length gc) g/\∀i,i<k->f i=none) ⟨⟨rfl,rfl,rfl,rfl,rfl,rfl,rfl,trivial⟩,(xP _ _ _ _ _).refl J,aC▸hg,λi hi=>by omega⟩ ?_ ?_ ?_);rintro k w' S hJ;exact cV ⟨rfl,rfl,⟨rfl,rfl,rfl,rfl,rfl,rfl,rfl,trivial⟩,hJ⟩;rintro k w1 S ⟨D,an,hf⟩;have M1:=hm.trans D.1;obtain⟨X,_⟩|⟨H,c,K,ao,ap,ai,aD,aa,aq,ab⟩:=an;rw[X]at S;simp at S;injection ao with ao _ aE;subst ao;subst aE;have ar:=ah _ (dt S);have au:=ar.nZ aA h5;have aF:g.getD k 0=g[k]:=getD_eq S;subst aS;have al:=M1.cell C;refine dI k S (cu (ci aD (by rw[cB];exact ab k S)) (dI 0 (by simp) (cu al (cS (yg _ _ _ ar.1 (by omega)) (ck (Dh (h.gi M1) (λb q=>dl (hA b q) D.1.size) (D.2 hp) hn au.1 au.2) ?_)))));rintro v t ⟨rfl,E⟩;have I:=E.1.at_ aD;refine eu ⟨λq=>?_,λq=>?_⟩;have q:jH G (nZ g[k] d)=false:=by simpa using q
  refine cq ⟨⟨rfl,rfl,rfl,rfl,rfl,rfl,rfl,trivial⟩,(xP _ _ _ _ _).trans _ _ _ D E,.inr ⟨H,gc,K,rfl,ap,ai,I,aa,aq,ab⟩,λi hi=>?_⟩;rcases eA i k with O|av;exact hf i O;obtain rfl:i=k:=by omega
  simp only[f,aF,q,iq,eo];have q:jH G (nZ g[k] d)=true:=by simpa using q
  have aj:f k=eD G most r (g.set k (nZ g[k] d)):=by simp only[f,aF,q,cX]
  have aG:=E.1.cell al;have am:(K.setIfInBounds k (.int .u8 (nZ g[k] d:Nat))).setIfInBounds k (.int .u8 (g[k]:Nat))=K:=by apply L1;intro j;by_cases T:k=j;subst T;rw[jE (by simp;omega)];exact(ab k S).symm;rw[eY T,eY T]
  refine dI 0 (by simp) (cu aG (cS (yg _ _ _ ar.1 (by omega)) (dI k S (iA I (by simp[Value.cells];omega) (λp k3 ac=>?_) (fU rfl)))));have ac:p.heap[H]? =some (.cells (K.setIfInBounds k (.int .u8 (nZ g[k] d:Nat))) 154):=by rw[ac];simp[fT,Value.cells]
  have aT:NP (K.setIfInBounds k (.int .u8 (nZ g[k] d:Nat))):=λj v T=>by by_cases e:k=j;subst e;rw[jE (by omega)]at T;exact⟨_,(cE T).symm⟩;rw[eY e]at T;exact aa j v T
  have M3:iB n0 w p:=(M1.trans E.1).cy k3 ai;have aU:ku (λx=>A x\/x=H) mk ms G p:=((E.2 (D.2 hp)).Tl I aa).keep k3 λb q=>.inr q;have aV:=cF.lt_of_heap ac;have aW:wl w.heap.size p (.slice (some ⟨H,0,none⟩) g.length gc) (g.set k (nZ g[k] d)):=by refine .inr ⟨H,gc,_,by rw[qJ],by rw[qJ];exact ap,ai,ac,aT,by simpa using aq,λj T=>?_⟩;by_cases e:k=j;subst e;rw[jE (by omega),List.getElem_set_self];rw[eY e,List.getElem_set_ne e];exact ab j (by simpa using T)
  have sA:∀b,(A b\/b=H)->b<p.heap.size:=λb q=>q.elim (λh=>by have:=hA b h;have:=D.1.size;have:=E.1.size;have:=k3.size;omega) λe=>e▸aV;refine Jk (by simp) F (ck (wm h hn r (g.set k (nZ g[k] d)) (λx=>A x\/x=H) (tailA (some ⟨db,aB,none⟩) M) (M-1) (.slice (some ⟨H,0,none⟩) g.length gc) p M3 sA aU (hd.tail F) (by simp at F;omega) (λx U=>ag x (eI _ U)) aW (λs R=>?_) (by simp at P⊢;omega)) ?_);rcases oS R with R|rfl;exact ah s R;exact au;rintro v w4 ⟨m4,y⟩;have aH:=m4.1.at_ ac;have back:∀{w5:cd},cN (λx=>x=H) w4 w5->w5.heap[H]? =some (.cells K 154)->MA n0 mk ms G A J w5:=λk5 z=>by refine⟨D.1.trans (iB.patch E.1 k3 m4.1 k5 λo L=>?_),λhp=>?_⟩;rw[I]at L;rw[z,<-L];exact((m4.2 (((E.2 (D.2 hp)).Tl I aa).keep k3 λb q=>.inr q)).keep k5 λb q=>.inr q).fewer λb q=>.inl q
  cases L:eD G most r (g.set k (nZ g[k] d))with
  |some Z=>
   rw[L]at y aj;obtain⟨oa,oc,rfl,aX⟩:=y;refine dI k S (iA aH (by simp[Value.cells];omega) (λw5 k5 z=>iR rfl ?_) (fU rfl));have z:w5.heap[H]? =some (.cells K 154):=by
    rw[z];have:fT (K.setIfInBounds k (.int .u8 (nZ g[k] d:Nat))) (0+k) (Value.cells (.int .u8 (g[k]:Nat))).toList=(K.setIfInBounds k (.int .u8 (nZ g[k] d:Nat))).setIfInBounds k (.int .u8 (g[k]:Nat)):=by simp[fT,Value.cells]
    rw[this,am]
   refine⟨_,rfl,back k5 z,?_⟩;rw[Y,rJ S hf aj];refine⟨oa,oc,rfl,λj T=>?_⟩;obtain⟨b,o,x0,x1,x2⟩:=aX j T;have y1:=D.1.size;have y2:=E.1.size;have y3:=k3.size;exact⟨b,o,by omega,x1,k5.ef x2 (by show¬b=H;omega)⟩
  |none=>
   rw[L]at y aj;have y:v=.tuple #[.slice none 0 0,.bool false]:=y;subst y;refine dI k S (iA aH (by simp[Value.cells];omega) (λw5 k5 z=>iG rfl ?_) (fU rfl));have z:w5.heap[H]? =some (.cells K 154):=by
    rw[z];have:fT (K.setIfInBounds k (.int .u8 (nZ g[k] d:Nat))) (0+k) (Value.cells (.int .u8 (g[k]:Nat))).toList=(K.setIfInBounds k (.int .u8 (nZ g[k] d:Nat))).setIfInBounds k (.int .u8 (g[k]:Nat)):=by simp[fT,Value.cells]
    rw[this,am]
   refine cq ⟨⟨rfl,rfl,rfl,rfl,rfl,rfl,rfl,trivial⟩,back k5 z,.inr ⟨H,gc,K,rfl,ap,ai,z,aa,aq,ab⟩,λi hi=>?_⟩;rcases eA i k with O|av;exact hf i O;obtain rfl:i=k:=by omega
   exact aj
  rintro w1 ⟨D,an,hf⟩;have M1:=hm.trans D.1;have aI:=D.2 hp;have aJ:eD G most (d::r) g=if g.length<most/\jH G (dB [d])=true then eD G most r (g++[dB [d]])else none:=by rw[Y,sX hf]
  have no:∀t,MA n0 mk ms G A J t->¬(g.length<most/\jH G (dB [d])=true)->∃v,Ending.returned (one [.slice none 0 0,.bool false])=.returned v/\MA n0 mk ms G A J t/\xQ J.heap.size (eD G most (d::r) g) v t:=λt m aY=>⟨_,rfl,m,by rw[aJ,cr aY];rfl⟩;have ad:=lP.dB (G:=G) h5 (l:=[d]) λx U=>by rw[fD.1 U];exact aA
  have ba:1<=M:=by simp at F;omega
  have N:∀{t},iB n0 w t->eO t W [d]:=λm=>(hd.gi m).cut 1;have ae:∀{t},iB n0 w t->Calls V.prog 122 #[.slice W 1 M] t (fy λv w'=>v=.int .u8 (dB [d])/\w'=t):=λm=>pj [d] W M _ (N m) (λx U=>by rw[fD.1 U];omega) (by simp);refine cD (cV ⟨λO=>?_,λav=>iG rfl (no w1 D λU=>?_)⟩);have O:g.length<most:=by simpa using O
  refine n7 1 (by omega) (cS (ae M1) (ck (Dh (h.gi M1) (λb q=>dl (hA b q) D.1.size) aI hn ad.1 ad.2) ?_));rintro v t ⟨rfl,E⟩;refine⟨λR=>?_,λR=>no t ((xP _ _ _ _ _).trans _ _ _ D E) λU=>by rw[R]at U;cases U.2⟩;have M2:=M1.trans E.1;have aZ:=E.2 aI;have a0:=an.gi E.1;obtain⟨_,_,aK,_,aL,aM⟩:=a0.row;injection aK with e1 _ e2;subst e1;subst e2;have hE:=xP n0 mk ms G A;refine fV 9 hE (WQ n0 t.heap.size mk ms G A) (λa b h=>h.mx) ?_;have aN:∀{p},MX n0 t.heap.size mk ms G A t p->iB n0 w p:=λe=>M2.trans (e.gi (cz _));refine .exact (.slice (tailA W M) r.length (M-1)) (λp B=>Jk (by simp) F ⟨rfl,hE.refl _⟩) ?_;refine .Kg (λv p=>cA t.heap.size 154 [.int .u8 0] p v g.length (FT g)) (λv a b Q e=>Q.gi e.1) (λp B=>ck (zI (aL.gi (B.gi (cz _))) aM (by omega)) λv w4 ⟨e4,Q⟩=>⟨Q.low B.size,e4.ma _ _ _ _ _⟩) ?_;refine .exact (.slice W 1 M) (λp B=>n7 1 (by omega) ⟨rfl,hE.refl _⟩) ?_;refine .exact (.int .u8 (dB [d])) (λp B _ _=>cS (ae (aN B)) ⟨rfl,hE.refl _⟩) ?_;refine .Kg (λv p=>∃nb,v=.slice (some ⟨nb,0,none⟩) 1 1/\p.heap[nb]? =some (.cells [Value.int .u8 (dB [d]:Nat)].toArray 154)) (λv a b ⟨nb,h1,h2⟩ e=>⟨nb,h1,e.1.at_ h2⟩) (λp B=>dJ [Value.int .u8 (dB [d]:Nat)] 154 λw4 nb e4 aO q=>⟨⟨nb,rfl,q⟩,e4.ma _ _ _ _ _⟩) ?_;refine .spec (λv p=>cA t.heap.size 154 [.int .u8 0] p v (g.length+1) (FT g++[.int .u8 (dB [d]:Nat)])) (λv a b Q e=>Q.gi e.1) (λp B a2 a3 a4 af=>?_) ?_;obtain⟨nb,rfl,aO⟩:∃nb,a2=.slice (some ⟨nb,0,none⟩) 1 1/\p.heap[nb]? =some (.cells [Value.int .u8 (dB [d]:Nat)].toArray 154):=a3;have af:cA t.heap.size 154 [.int .u8 0] p a4 g.length (FT g):=af;refine fP ND af B.1.size aO (by omega) λv' w4 g1 g2 g3=>⟨g1,g2.os,g2.tape,g2.output,g2.size,g2.drawn,λx o U L hm=>g2.fg L λq=>?_,λaP=>?_⟩;have:=(af.blk q).1;omega;rcases Di af with⟨_,rfl⟩|⟨H,c,K,rfl,_,_,z1,z2,_⟩;exact aP.keep g2 λb q=>by obtain⟨_,_,q⟩:=q;cases q
  refine((aP.Tl z1 z2).keep g2 λb q=>.inr ?_).fewer λb q=>.inl q;obtain⟨_,_,q⟩:=q;injection q with q;have:=cM Addr.block (cE q);exact this.symm;refine .late rfl (λv p=>xQ t.heap.size (eD G most r (g++[dB [d]])) v p) (λv a b Q e=>Q.gi e.1) (λp B ak aw=>?_) ?_;have aw:cA t.heap.size 154 [.int .u8 0] p ak (g.length+1) (FT g++[.int .u8 (dB [d]:Nat)]):=aw;have ax:(g++[dB [d]]).length=g.length+1:=by simp
  have a5:wl t.heap.size p ak (g++[dB [d]]):=Di (by rw[ax];simpa[FT]using aw);have sA:∀b,A b->b<p.heap.size:=λb q=>by have:=hA b q;have:=D.1.size;have:=E.1.size;have:=B.size;omega
  have aQ:wl w.heap.size p ak (g++[dB [d]]):=by rcases a5 with h|⟨H,c,K,x1,x2,x3,x4⟩;exact .inl h;exact .inr ⟨H,c,K,x1,x2,by have:=M2.size;omega,x4⟩
  refine ck (wm h hn r (g++[dB [d]]) A (tailA W M) (M-1) ak p (aN B) sA (B.m aZ) (hd.tail F) (by simp at F;omega) (λx U=>ag x (eI _ U)) aQ (λs R=>?_) (by simp at P⊢;omega)) λv w4 ⟨m4,y⟩=>⟨?_,m4⟩;rcases gl.1 R with R|R;exact ah s R;rw[fD.1 R];exact ad;cases L:eD G most r (g++[dB [d]])with
  |none=>rw[L]at y;exact y
  |some Z=>
   rw[L]at y;obtain⟨a,c,x1,x2⟩:=y;exact⟨a,c,x1,x2.low B.size⟩
  let o:=eD G most r (g++[dB [d]])
  have aR:∀{v p},xQ t.heap.size o v p->∃u,v=.tuple #[u,.bool o.isSome]/\xQ t.heap.size o (.tuple #[u,.bool o.isSome]) p:=λ{v p} hv=>by
   cases L:o with
   |none=>rw[L]at hv;have hv:v=_:=hv;subst hv;exact⟨_,rfl,rfl⟩
   |some Z=>rw[L]at hv;obtain⟨a,c,rfl,x⟩:=hv;exact⟨_,rfl,a,c,rfl,x⟩
  refine .late rfl (λu p=>xQ t.heap.size o (.tuple #[u,.bool o.isSome]) p) (λv a b Q e=>Q.gi e.1) (λp B a6 ay=>?_) ?_;obtain⟨u,rfl,hu⟩:=aR ay;exact⟨hu,hE.refl _⟩;refine .exact (.bool o.isSome) (λp B a6 ay=>?_) ?_;obtain⟨u,rfl,hu⟩:=aR ay;exact⟨rfl,hE.refl _⟩;refine .late rfl (λu p=>xQ t.heap.size o (.tuple #[u,.bool o.isSome]) p) (λv a b Q e=>Q.gi e.1) (λp B bb a7=>by intro _ _ _ _ _ _ _ _;exact⟨a7,hE.refl _⟩) ?_;intro p B v8 h8 _ _ _ _ _ _ _ _ _ _;have h8:xQ t.heap.size o (.tuple #[v8,.bool o.isSome]) p:=h8;refine⟨_,rfl,⟨D.1.trans (E.1.trans (B.gi (cz _))),λhp=>B.m (E.2 (D.2 hp))⟩,?_⟩;rw[aJ,cx ⟨O,R⟩];show xQ J.heap.size o (.tuple #[v8,.bool o.isSome]) p;cases L:o with
  |none=>rw[L]at h8;exact h8
  |some Z=>
   rw[L]at h8;obtain⟨a,c,x1,x2⟩:=h8;exact⟨a,c,x1,x2.low (by have:=D.1.size;have:=E.1.size;omega)⟩
  have:=dQ av;omega
end Go.Proofs.W
variable{P:cf}
namespace Go.Proofs.W
open Go.RowKit
def Zw(Q:QW):QW
 | .goto _,_,_=>False
 | .normal,l,w=>Q .normal l w
 | .exit i,l,w=>Q (.exit i) l w
 | .ret,l,w=>Q .ret l w
 | .panic c,l,w=>Q (.panic c) l w
 | .outgrown,l,w=>Q .outgrown l w
def NR{N:Nat}{c:Code}{l:L}{w:cd}{Q:QW}(h:WC V.prog Hy N c (Zw Q) l w):kq V.prog N (.scope c) l w Q:=by
 refine⟨λa f=>wp_scope_straight (lV (hZ jG c _ l a w f h) ?_)⟩;rintro e j k ⟨g,b,d⟩;cases e with
 |goto i=>exact d.elim
 |_=>exact⟨g,b,d⟩
def Zx(a b c d e:Bool)(x y:dj)(w:cd):Sem.run V.prog (do eqGuard .eql 217 x y (.agg #[.bool a,.bool b,.bool c,.bool d,.bool e]) (.agg #[.bool false,.bool false,.bool false,.bool false,.bool false]);binOp .eql 217 (.agg #[.bool a,.bool b,.bool c,.bool d,.bool e]) (.agg #[.bool false,.bool false,.bool false,.bool false,.bool false])) w=.ok (.bool (!(a||b||c||d||e))) w:=by cases a<;>cases b<;>cases c<;>cases d<;>cases e<;>kernel_rfl
def kq.qA{N:Nat}{c:Code}{l l0:L}{w:cd}{Q:QW}(b:Sub l0 l)(h:kq P N c l0 w Q):kq P N c l w Q:=⟨λa d=>h.out a (d.sub b)⟩
def kq.mono{N:Nat}{c:Code}{l:L}{w:cd}{Q d:QW}(f:∀e l w,Q e l w->d e l w)(h:kq P N c l w Q):kq P N c l w d:=⟨λa g=>lV (h.out a g) (by rintro e k m ⟨i,b,j⟩;exact⟨i,b,f _ _ _ j⟩)⟩
def WS(a:L)(F:cd->Prop)(Q:QW):QW
 | .normal,l,w=>Sub a l/\F w
 | .goto i,l,w=>Q (.goto i) l w
 | .exit i,l,w=>Q (.exit i) l w
 | .ret,l,w=>Q .ret l w
 | .panic c,l,w=>Q (.panic c) l w
 | .outgrown,l,w=>Q .outgrown l w
def Tm{N:Nat}{c:Code}{l:L}{w:cd}{Q:QW}(a:L)(F:cd->Prop)(h:kq P N c l w (WS a F Q))(b:∀l w,Sub a l->F w->Q .normal l w):kq P N c l w Q:=
 h.mono λe l w h=>by
  cases e with
  |normal=>exact b l w h.1 h.2
  |_=>exact h
def gq.c{A:Nat->Prop}{w d:cd}{a:Option Addr}{l:List Nat}(h:gq A w a l)(e:∀b o v,¬A b->w.cell? ⟨b,o,none⟩=some v->d.cell? ⟨b,o,none⟩=some v):gq A d a l:=h.go (λ_ h=>.inl h) e
def zJ(A:Nat->Prop)(e:Nat)(w:cd)(v:ce)(b:List (List Nat)):Prop:=∃d,cA e 27 [.slice none 0 0] w v b.length d/\d.length=b.length/\∀k (h:k<b.length),∃a c,d[k]? =some (.slice a b[k].length c)/\gq A w a b[k]/\b[k].length<=c
theorem zJ.gi{A:Nat->Prop}{b n0:Nat}{w d:cd}{f:List (List Nat)}(h:zJ A b w x f)(e:iB n0 w d):zJ A b d x f:=by obtain⟨g,i,j,l⟩:=h;refine⟨g,i.gi e,j,λk m=>?_⟩;obtain⟨a,c,n,o,p⟩:=l k m;exact⟨a,c,n,o.gi e,p⟩
theorem zJ.keep{A:Nat->Prop}{d:Nat}{w e:cd}{f:List (List Nat)}{F:Nat->Prop}(h:zJ A d w x f)(k:cN F w e)(g:∀b,F b->A b)(j:∀b,cw x b->¬F b):zJ A d e x f:=by obtain⟨l,m,n,p⟩:=h;refine⟨l,m.keep k j,n,λi q=>?_⟩;obtain⟨a,c,r,s,t⟩:=p i q;exact⟨a,c,r,s.c λb o x u v=>k.ef v λy=>u (g b y),t⟩
def zJ.out{A A':Nat->Prop}{i:Nat}{w:cd}{d:List (List Nat)}(h:zJ A i w x d)(l:∀b,A' b->A b)(e:∀b,A' b->b<i):∃a c,x=.slice a d.length c/\kZ A' w a d/\d.length<=c:=by obtain⟨u,⟨v,⟨m,rfl⟩|⟨b,c,y,z,rfl,n,B,o,C,p,D⟩⟩,E,f⟩:=h;exact⟨none,0,by rw[m],λk j=>by omega,by omega⟩;refine⟨_,c,rfl,λk j=>?_,o⟩;obtain⟨a,q,r,s,t⟩:=f k j;exact⟨b,0,a,q,λg=>by have:=e b g;omega,rfl,ci n (by rw[cB,p k (by omega)];exact r),s.more λb g=>.inl (l b g),t⟩
structure MF(F:Nat->Prop)(n0 mk ms:Nat)(G:Gd)(A:Nat->Prop)(a b:cd):Prop where
 os:b.os=a.os
 tape:b.tape=a.tape
 output:b.output=a.output
 size:a.heap.size<=b.heap.size
 drawn:a.drawn<=b.drawn
 block:∀x o,¬F x->a.heap[x]? =some o->(x<n0\/Tg o=false)->b.heap[x]? =some o
 m:(∀x,A x->x<a.heap.size)->ku A mk ms G a->ku A mk ms G b
section
variable{F:Nat->Prop}{n0 mk ms:Nat}{G:Gd}{A:Nat->Prop}{a b w0:cd}
def HU(F:Nat->Prop)(n0 mk ms:Nat)(G:Gd)(A:Nat->Prop):fw (MF F n0 mk ms G A):=
 ⟨λw=>⟨rfl,rfl,rfl,cz _,cz _,λ_ _ _ h _=>h,λ_ h=>h⟩,λa b c h k=>⟨k.os.trans h.os,k.tape.trans h.tape,k.output.trans h.output,cJ h.size k.size,cJ h.drawn k.drawn,λx o d i f=>k.block x o d (h.block x o d i f) f,λg e=>k.m (λx d=>dl (g x d) h.size) (h.m g e)⟩,λw=>⟨rfl,rfl,rfl,cz _,sP _,λ_ _ _ h _=>h,λ_ e=>e.ext (Ext.drew w)⟩⟩
def MR.mf(h:MR n0 mk ms G a b):MF F n0 mk ms G A a b:=⟨h.1.os,h.1.tape,h.1.output,h.1.size,h.1.drawn,λx o _ c d=>h.1.block x o c d,λe f=>h.2 A e f⟩
def MF.at_(h:MF F n0 mk ms G A a b){x:Nat}{c:Nat×Nat}(d:¬F x)(e:a.heap[x]? =some (.cells W T c)):b.heap[x]? =some (.cells W T c):=h.block x _ d e (.inr rfl)
def MF.cell(d:MF F n0 mk ms G A a b)(e:¬F h.block)(c:a.cell? h=some x):b.cell? h=some x:=by unfold World.cell? at c⊢;split at c;rename_i g t i f;rw[d.at_ e f];exact c;cases c
def MF.after(h:MF F n0 mk ms G A a b)(m:iB n0 w0 a)(e:∀x,F x->w0.heap.size<=x):iB n0 w0 b:=
 ⟨h.os.trans m.os,h.tape.trans m.tape,h.output.trans m.output,cJ m.size h.size,cJ m.drawn h.drawn,λx o c d=>h.block x o (λf=>by have:=e x f;have:=cF.lt_of_heap c;omega) (m.block x o c d) d⟩
def MF.NS(k:cN F a b)(c:∀x,F x->A x):MF F n0 mk ms G A a b:=⟨k.os,k.tape,k.output,k.size,k.drawn,λx o d e _=>k.fg e d,λ_ f=>f.keep k c⟩
end
def UU:∀s:Nat,s<32->(!(s.testBit 0||s.testBit 1||s.testBit 2||s.testBit 3||s.testBit 4))=decide (s=0):=by decide+kernel
end Go.Proofs.W
variable{D E:Bool}
namespace Go.Proofs.W
open Go.RowKit
def Ky.go2{o:Option (List (List Nat))}(h:Ky A o x D w)(a:∀D,B D->A D\/w.heap.size<=D)(b:∀D o x,¬A D->w.cell? ⟨D,o,none⟩=some x->t.cell? ⟨D,o,none⟩=some x):Ky B o x D t:=h.go a b
def zK(a:s≠0):fJ H s=((List.range (dK s).length).findSome? λm=>eD H (m+1) (dK s) []).map λb=>b.map (cH H):=by rw[fJ,cr a]
def sj(s:Nat):(dK s).length<=5:=j9 s 5
theorem rK(g:H.doors.length<=5){most:Nat}:∀(doors c a:List Nat),(∀d∈doors,d<H.doors.length)->(∀s∈c,lP H s)->eD H most doors c=some a->(∀s∈a,lP H s)/\a.length<=c.length+doors.length
 |[],c,a,_,e,h=>by simp only[eD,fI]at h;subst h;exact⟨e,by simp⟩
 |d::r,c,a,n,e,h=>by
  have f:=n d eR;have p:∀x∈r,x<H.doors.length:=λx k=>n x (eI _ k);simp only[eD]at h;split at h;rename_i o q;obtain rfl:=cE h;obtain⟨i,j,l⟩:=L6 q;split at l;have j:i<c.length:=by simpa using j
  have m:lP H (c.getD i 0):=by rw[getD_eq j];exact e _ (dt j)
  have:=rK g r _ _ p (λs b=>by rcases oS b with b|rfl;exact e s b;exact m.nZ f g) l;simp only[qJ,dW]at this⊢;exact⟨this.1,by omega⟩;cases l;split at h;have:=rK g r _ _ p (λs b=>by rcases gl.1 b with b|b;exact e s b;rw[fD.1 b];exact lP.dB g λx k=>by rw[fD.1 k];exact f) h;simp only[fX,dW,fC]at this⊢;exact⟨this.1,by omega⟩;cases h
def zM{gp mk ms n0 s:Nat}(h:oR gp mk ms H w)(hA:∀b,A b->b<w.heap.size)(hp:ku A mk ms H w)(aU:n0<=mk)(hn:n0<=ms)(hs:lP H s):
 Calls V.prog 130 #[cK gp,.int .u8 s] w (fy λv B=>MA n0 mk ms H A w B/\∃u b,v=.tuple #[u,.bool b]/\Ky A (fJ H s) u b B):=by
 have h5:=h.tY.many;refine go V.func130 Tryz.ntmps130 ?_;refine NR ?_;refine ck (Ks s w hs.1) ?_;rintro v w1 ⟨rfl,e1⟩;refine eF λw2 Q e2 bo aB=>cZ aB λw3 k3 C=>?_;have C:w3.heap[Q]? =some (.cells (pS s).toArray 217):=C.trans (cM (λa=>some (Obj.cells a 217)) (dV (sH 217).toArray (pS s) rfl));have E3:Ext w w3:=(e1.trans e2).cy k3 (by have:=e1.size;omega);have ar:∀{B},B.heap[Q]? =some (.cells (pS s).toArray 217)->∀{k:ce->cd->Prop},k (oH s) B->iO V.prog (Instr.loadAt 217 (.pointer (some ⟨Q,0,none⟩))) B k:=λd k hk=>dP (vs:=pS s) (λj v hj=>by rw[cB];exact ci d (by simpa using hj)) hk;refine ar C (dA (.agg #[.bool false,.bool false,.bool false,.bool false,.bool false]) ?_);refine⟨_,w3,Zx _ _ _ _ _ _ _ w3,?_⟩;rw[UU s hs.1];refine⟨λh0=>?_,λh0=>?_⟩;have h0:s=0:=cY h0;subst h0;exact⟨_,rfl,E3.ma _ _ _ _ _,_,_,rfl,rfl,none,0,rfl,λk hk=>by simp at hk,cz _⟩;have h0:s≠0:=dQ h0;have h3:=h.ext E3;have aV:=hp.ext E3;obtain⟨aW,am,an⟩:=Jd NO NM (z:=.agg #[.slice none 0 0,.bool false]) (by intro w;kernel_rfl) aV.k hs.1;have aX:∃u b ok,aW=.tuple #[.agg #[u,.bool b],.bool ok]/\u.oneCell'=true/\((ok=true/\Ky A (fJ H s) u b w3)\/ok=false):=by
  rcases am with⟨v,rfl,u,b,rfl,hw⟩|rfl;refine⟨u,b,true,rfl,?_,.inl ⟨rfl,hw⟩⟩;cases aC:fJ H s with
  |none=>rw[aC]at hw;rw[hw.1];rfl
  |some ls=>rw[aC]at hw;obtain⟨_,a,c,rfl,_⟩:=hw;rfl
  exact⟨_,_,false,rfl,rfl,.inr rfl⟩
 obtain⟨u,b,ok,rfl,aY,aD⟩:=aX;have aZ:qC [u,.bool b]=true:=by simp only[qC,aY];rfl
 have bp:Q<w3.heap.size:=cF.lt_of_heap C;refine fV 10 cO (gu (λx=>w3.heap.size<=x)) (λa b h=>h.keep _) ?_;have ah:∀{U},cN (λx=>w3.heap.size<=x) w3 U->Ext w3 U:=λe=>e.ext λb d f=>by omega
 refine .exact (.map (some mk)) (λU e4=>cu ((ah e4).cell h3.X8) ⟨rfl,Ext.refl _⟩) (.exact (oH s) (λU e4=>ar ((ah e4).at_ C) ⟨rfl,Ext.refl _⟩) (.exact _ (λU e4=>⟨_,_,an U λo ho=>(ah e4).at_ ho,rfl,Ext.refl _⟩) ?_));refine .Kg (λv U=>∃r,v=.pointer (some ⟨r,0,none⟩)/\w3.heap.size<=r/\U.heap[r]? =some (.cells (sH 220).toArray 220)) (λv a b ⟨r,h1,h2,h3⟩ e=>⟨r,h1,h2,e.at_ h3⟩) (λU e4=>eF λw5 r e5 ai d=>⟨⟨r,rfl,cJ e4.size ai,d⟩,e5⟩) ?_;refine .xd (λvs U=>∃r,vs=[.pointer (some ⟨r,0,none⟩)]/\w3.heap.size<=r/\U.heap[r]? =some (.cells #[u,.bool b] 220)) (λvs a b ⟨r,h1,h2,h3⟩ e=>⟨r,h1,h2,e.at_ h3⟩) (λU e4 v7 h7=>?_) ?_;obtain⟨r,rfl,g1,g2⟩:=h7;exact iA g2 (sO rfl) (λw5 k5 a0=>⟨⟨r,rfl,g1,a0⟩,k5.trans (cN.refl (λ_=>False) w5) (λx _ f=>by subst f;exact g1) λ_ _ h=>h.elim⟩) (fU aZ);intro U e4 v7 _ hJ;obtain⟨bq,aE,g1,g2⟩:=hJ;simp only[qm,and_true]at aE;subst aE;have W:=ah e4;refine⟨λhk=>?_,λhk=>?_⟩;refine cQ cO (cG (ci g2 rfl) (cG (ci g2 rfl) λw5 e5=>?_));have hw:=aD.elim (λh=>h.2) λh=>by rw[hk]at h;cases h
 exact⟨_,rfl,((E3.trans W).trans e5).ma _ _ _ _ _,u,b,rfl,hw.go2 (λ_ h=>.inl h) λb o v d F=>(W.trans e5).cell F⟩;clear aD am an;refine eF λw5 p e5 br R=>?_;have R:w5.heap[p]? =some (.cells #[.slice none 0 0,.bool false] 220):=R;have E5:Ext w w5:=(E3.trans W).trans e5;have bs:=cF.lt_of_heap R;have s3:=E3.size;have bt:=W.size;have ao:=(W.trans e5).at_ C;have a1:ku (λx=>A x\/x=p) mk ms H w5:=((hp.ext (E3.trans W)).more (A':=λx=>A x\/x=p) λx f=>f.imp id λe=>by omega).ext e5;refine ck (uK s w5 hs.1) ?_;rintro lv w6 ⟨e6,a2⟩;obtain⟨la,lc,rfl,a3,bu⟩:=a2.row;have bv:=sj s;refine cD ?_;refine Tm [(0,cK gp),(6,cK Q),(9,cK p)] (λB=>MA n0 mk ms H A w B/\B.heap[Q]? =some (.cells (pS s).toArray 217)/\∃u b,B.heap[p]? =some (.cells #[u,.bool b] 220)/\Ky A (fJ H s) u b B) ?_ ?_;refine ei (n:=(dK s).length) (λk=>[(0,cK gp),(1,.int .u8 s),(6,cK Q),(9,cK p),(36,.int .i64 (dK s).length),(37,.int .i64 k)]) (λk B=>iB n0 w B/\ku (λx=>A x\/x=p) mk ms H B/\B.heap[Q]? =some (.cells (pS s).toArray 217)/\B.heap[p]? =some (.cells #[.slice none 0 0,.bool false] 220)/\∀i,i<k->eD H (i+1) (dK s) []=none) ⟨⟨rfl,rfl,rfl,rfl,rfl,rfl,trivial⟩,(E5.trans e6).gi n0,a1.ext e6,e6.at_ ao,e6.at_ R,λi hi=>by omega⟩ ?_ ?_ ?_;rintro k B hk hJ;exact cV ⟨rfl,rfl,⟨rfl,rfl,rfl,rfl,rfl,rfl,trivial⟩,hJ⟩;rintro k w7 hk ⟨m7,aa,D,t,I⟩;refine ck (uK s w7 hs.1) ?_;rintro bw w8 ⟨K,a4⟩;obtain⟨da,dc,rfl,au,a5⟩:=a4.row;have m8:=m7.trans (K.gi n0);have L:=aa.ext K;refine cq ?_;have av:∀b,(A b\/b=p)->b<w8.heap.size:=λb d=>d.elim (λd=>by have:=hA b d;have:=m8.size;omega) λe=>e▸cF.lt_of_heap (K.at_ t);have aF:=wm (most:=k+1) (h.gi m8) hn (dK s) [] (λx=>A x\/x=p) da dc (.slice none 0 0) w8 (iB.refl _ _) av L au a5 hs.2 (.inl ⟨rfl,rfl⟩) (λx f=>by cases f) (by simp;omega);rw[show((k+1:Nat):Int)=(k:Int)+1 by omega]at aF;refine ck aF ?_;rintro v w9 ⟨S,X⟩;cases ho:eD H (k+1) (dK s) []with
 |none=>
  rw[ho]at X;have X:v=.tuple #[.slice none 0 0,.bool false]:=X;subst X;refine eu (iR rfl (cq ⟨⟨rfl,rfl,rfl,rfl,rfl,rfl,trivial⟩,m8.trans S.1,S.2 L,S.1.at_ (K.at_ D),S.1.at_ (K.at_ t),λi hi=>?_⟩));rcases eA i k with aj|aG;exact I i aj;obtain rfl:i=k:=by omega
  exact ho
 |some E=>
  rw[ho]at X;obtain⟨ga,gc,rfl,a6⟩:=X;refine eu (iG rfl (cD ?_));obtain⟨aH,aI⟩:=rK h5 (dK s) [] E hs.2 (λx f=>by cases f) ho;have aI:E.length<=5:=by simp at aI;omega
  have s5:=e6.size;have s8:=m8.size;have s9:=S.1.size;have bm:p<w8.heap.size:=cF.lt_of_heap (K.at_ t);have bn:Q<w8.heap.size:=cF.lt_of_heap (K.at_ D);have aJ:Q≠p:=by have:=cF.lt_of_heap ao;have:=cF.lt_of_heap C;omega
  have aw:∀b,¬cw (.slice none 0 0) b:=λb d=>by obtain⟨_,_,d⟩:=d;cases d
  refine gC (n:=E.length) (λj v=>[(0,cK gp),(6,cK Q),(9,cK p),(51,.slice ga E.length gc),(52,.int .i64 E.length),(53,.int .i64 j)]) (λj v B=>iB n0 w B/\w9.heap.size<=B.heap.size/\ku (λx=>(A x\/x=p)\/cw v x) mk ms H B/\B.heap[Q]? =some (.cells (pS s).toArray 217)/\B.heap[p]? =some (.cells #[v,.bool false] 220)/\zJ (λx=>(A x\/x=p)\/cw v x) w9.heap.size B v ((E.take j).map (cH H))/\∀k (h:k<E.length),∃b o,(w8.heap.size<=b/\b<w9.heap.size)/\ga=some ⟨b,o,none⟩/\B.cell? ⟨b,o+k,none⟩=some (.int .u8 E[k])) (.slice none 0 0) ⟨⟨rfl,rfl,rfl,rfl,rfl,rfl,trivial⟩,m8.trans S.1,cz _,(S.2 L).more λb d=>d.elim .inl λd=>absurd d (aw b),S.1.at_ (K.at_ D),S.1.at_ (K.at_ t),⟨[],cA.nil _ _ _ _,rfl,λk hk=>by simp at hk⟩,λi hi=>?_⟩ ?_ ?_ ?_;obtain⟨b,o,x0,x1,x2⟩:=a6 i hi;exact⟨b,o,⟨x0,nF x2⟩,x1,x2⟩;rintro j v M hj hJ;exact cV ⟨rfl,rfl,⟨rfl,rfl,rfl,rfl,rfl,rfl,trivial⟩,hJ⟩;rintro j v M hj ⟨ax,a7,N,P,J,G,ab⟩;obtain⟨gb,bx,bz,aK,a8⟩:=ab j hj;have f:=aH _ (dt hj);have y:∀b,cw v b->w9.heap.size<=b/\b<M.heap.size:=λb d=>by obtain⟨us,Y,_⟩:=G;exact Y.blk d
  have T:∀b,((A b\/b=p)\/cw v b)->b<M.heap.size:=λb d=>d.elim (λd=>by have:=av b d;omega) λd=>(y b d).2;subst aK;refine dI j hj (cu a8 ?_);refine fV 6 (WM n0 mk ms H) (HU (cw v) n0 mk ms H (λx=>(A x\/x=p)\/cw v x)) (λa b h=>h.mf) ?_;have aL:¬cw v p:=λd=>by have:=(y p d).1;omega
  have a9:¬cw v Q:=λd=>by have:=(y Q d).1;omega
  have aM:∀{g},MF (cw v) n0 mk ms H (λx=>(A x\/x=p)\/cw v x) M g->iB n0 w g:=λe=>e.after ax λx f=>by have:=(y x f).1;omega
  refine .exact v (λg q=>cu (ci (q.at_ aL J) rfl) ⟨rfl,MR.refl _⟩) ?_;refine .rel (λu g=>ShR (λx=>(A x\/x=p)\/cw v x) H E[j] u g) (λu a b hu e=>hu.go (λ_ h=>.inl h) λb o x d F=>e.cell (λhf=>d (.inr hf)) F) (λg q=>?_) ?_;have ac:∀b,((A b\/b=p)\/cw v b)->b<g.heap.size:=λb d=>dl (T b d) q.size;exact ck (xi (h.gi (aM q)) ac (q.m T N) hn f.1 f.2) λu ad ⟨ba,bb⟩=>⟨bb _ ac (q.m T N),ba⟩;refine .rel (λx g=>∃r u,x=.slice (some ⟨r,0,none⟩) 1 1/\M.heap.size<=r/\g.heap[r]? =some (.cells [u].toArray 27)/\ShR (λx=>(A x\/x=p)\/cw v x) H E[j] u g) (λx a b ⟨r,u,h1,h2,h3,h4⟩ e=>⟨r,u,h1,h2,e.at_ (λhf=>by have:=(y r hf).2;omega) h3,h4.go (λ_ h=>.inl h) λb o x d F=>e.cell (λhf=>d (.inr hf)) F⟩) (λg q u hu=>?_) ?_;obtain⟨a,c,rfl,Y,F⟩:=hu;refine dJ [.slice a (cH H E[j]).length c] 27 (λad r aN ai d=>⟨⟨r,_,rfl,cJ q.size ai,d,a,c,rfl,Y.c λb o x _ f=>aN.cell f,F⟩,aN.mr⟩) ?_;intro w;kernel_rfl;refine .spec (λv' g=>(∀x,((A x\/x=p)\/cw v' x)->x<g.heap.size)/\ku (λx=>(A x\/x=p)\/cw v' x) mk ms H g/\zJ (λx=>(A x\/x=p)\/cw v' x) w9.heap.size g v' ((E.take j).map (cH H)++[cH H E[j]])) (λv' a b ⟨h1,h2,h3⟩ e=>⟨λx f=>dl (h1 x f) e.1.size,e.2 _ h1 h2,h3.gi e.1⟩) (λg q aO bc bd bA=>?_) ?_;obtain⟨r,u,rfl,ai,aP,ua,uc,rfl,be,bf⟩:∃r u,aO=.slice (some ⟨r,0,none⟩) 1 1/\M.heap.size<=r/\g.heap[r]? =some (.cells [u].toArray 27)/\ShR (λx=>(A x\/x=p)\/cw v x) H E[j] u g:=bc;obtain⟨us,Y,aQ,bg⟩:=G.gi q.1;have bB:((E.take j).map (cH H)).length<=5:=by simp;omega
  have ae:=q.2 _ T N;refine fP Nt Y (by have:=q.1.size;omega) aP (by omega) (λv' ad g1 g2 g3=>⟨⟨λx f=>?_,?_,us++[.slice ua (cH H E[j]).length uc],by simpa using g1,by simp[aQ],λi hi=>?_⟩,MF.NS g2 λx f=>.inr f⟩) rfl (by simp[qC,Value.oneCell']);rcases f with f|f;have:=av x f;have:=q.1.size;have:=g2.size;omega;exact(g1.blk f).2;exact((ae.more (A':=λx=>((A x\/x=p)\/cw v x)\/cw v' x) λx f=>f.elim .inl λf=>(g3 x f).elim (λh=>.inl (.inr h)) .inr).keep g2 λx f=>.inl (.inr f)).fewer λx f=>f.elim (λh=>.inl (.inl h)) .inr;have up:∀{a:Option Addr} {l:List Nat},gq (λx=>(A x\/x=p)\/cw v x) g a l->gq (λx=>(A x\/x=p)\/cw v' x) ad a l:=λhn=>by have h1:gq (λx=>((A x\/x=p)\/cw v x)\/cw v' x) ad _ _:=(hn.more (A':=λx=>((A x\/x=p)\/cw v x)\/cw v' x) λx f=>f.elim .inl λf=>(g3 x f).elim (λh=>.inl (.inr h)) .inr).c λb o x d F=>g2.ef F λhf=>d (.inl (.inr hf));exact h1.more λx f=>.inl (f.elim (λh=>.inl (.inl h)) .inr)
  rcases eA i ((E.take j).map (cH H)).length with aj|aG;obtain⟨a,c,x1,x2,x3⟩:=bg i aj;rw[lI aj];exact⟨a,c,by rw[kz (by omega)];exact x1,up x2,x3⟩;obtain rfl:i=((E.take j).map (cH H)).length:=by simp at hi aG⊢;omega
  refine⟨ua,uc,by rw[mQ (by omega)];simp[aQ],?_,?_⟩;simp only[qI (cz _),lf,mS];exact up be;simp only[qI (cz _),lf,mS];exact bf;intro g q af bh aO _ bd _;obtain⟨ac,ae,O⟩:(∀x,((A x\/x=p)\/cw af x)->x<g.heap.size)/\ku (λx=>(A x\/x=p)\/cw af x) mk ms H g/\zJ (λx=>(A x\/x=p)\/cw af x) w9.heap.size g af ((E.take j).map (cH H)++[cH H E[j]]):=bh;have aR:∃a l c,af=.slice a l c:=by obtain⟨us,Y,_⟩:=O;obtain⟨a,c,rfl,_⟩:=Y.len;exact⟨a,_,c,rfl⟩
  obtain⟨va,vl,vc,rfl⟩:=aR;have ay:∀b,cw (.slice va vl vc) b->w9.heap.size<=b:=λb d=>by obtain⟨us,Y,_⟩:=O;exact(Y.blk d).1
  refine iA (q.at_ aL J) (sO rfl) (λad Z aS=>cq ⟨.slice va vl vc,⟨rfl,rfl,rfl,rfl,rfl,rfl,trivial⟩,(aM q).cy Z (by omega),by have:=q.size;have:=Z.size;omega,ae.keep Z (λx f=>.inl (.inr f)),Z.fg (q.at_ a9 P) aJ,aS,?_,λi hi=>?_⟩) (fU rfl);have ht:(E.take (j+1)).map (cH H)=(E.take j).map (cH H)++[cH H E[j]]:=by rw[gP hj,nQ];rfl
  rw[ht];exact O.keep Z (λx f=>.inl (.inr f)) λx f az=>by have:=ay x f;have:x=p:=az;omega
  obtain⟨b,o,x0,x1,x2⟩:=ab i hi;exact⟨b,o,x0,x1,Z.ef (q.cell (λhf=>by have:=(y b hf).1;omega) x2) (by show¬b=p;omega)⟩;rintro v M ⟨ax,a7,N,P,J,G,ab⟩;rw[kX]at G;refine iA J (sO rfl) (λg al ag=>?_) (fU rfl);have ag:g.heap[p]? =some (.cells #[v,.bool true] 220):=ag;have y:∀b,cw v b->w9.heap.size<=b:=λb d=>by obtain⟨us,Y,_⟩:=G;exact(Y.blk d).1
  have O:=G.keep al (λx f=>.inl (.inr f)) λx f az=>by have:=y x f;have:x=p:=az;omega
  obtain⟨a,c,hv,hl,F⟩:=O.out (A':=A) (λb d=>.inl (.inl d)) λb d=>by have:=hA b d;omega
  refine⟨⟨rfl,rfl,rfl,trivial⟩,⟨ax.cy al (by omega),λ_=>(N.keep al λx f=>.inl (.inr f)).fewer λb d=>.inl (.inl d)⟩,al.fg P aJ,v,true,ag,?_⟩;rw[zK h0,rJ hk I ho];exact⟨rfl,a,c,hv,hl,F⟩
 rintro w7 ⟨m7,aa,D,t,I⟩;refine⟨⟨rfl,rfl,rfl,trivial⟩,⟨m7,λ_=>aa.fewer λb d=>.inl d⟩,D,_,_,t,?_⟩;rw[zK h0,sX I];exact⟨rfl,rfl⟩;rintro l w7 aT ⟨m7,D,u7,b7,t,bi⟩;have h7:=h.gi m7.1;have aa:=m7.2 hp;refine kq.qA aT (cQ cO (cG h7.X8 (dx (oH s) (λw8 K=>ar (K.at_ D) ⟨rfl,Ext.refl _⟩) (dx (.agg #[u7,.bool b7]) (λw8 K=>dP (vs:=[u7,.bool b7]) (λj v hj=>by rw[cB];exact ci (K.at_ t) (by simpa using hj)) ⟨rfl,Ext.refl _⟩) λw8 K=>?_))));have ap:Ky A (fJ H s) u7 b7 w8:=bi.go2 (λ_ h=>.inl h) λb o v d F=>K.cell F;have L:=aa.ext K;refine uQ NO NM L.k hs.1 aU (λw9 m=>⟨λs u hu=>hu.go (λ_ h=>.inl h) λb o v d F=>m.cell F,u7,b7,rfl,ap.go2 (λ_ h=>.inl h) λb o v d F=>m.cell F⟩) λw9 S bj bk=>?_;have bl:ku A mk ms H w9:=⟨L.s.go (λs v Y=>Y.go (λ_ h=>.inl h) λb o v d F=>S.cell F) λo ho=>by rw[bj ms (fO h.ne)];exact ho,bk,L.ak,L.asm⟩;have aq:=S.at_ (K.at_ t);refine cQ cO (cG (ci aq rfl) (cG (ci aq rfl) λM aA=>?_));exact⟨_,rfl,⟨m7.1.trans ((K.gi n0).trans (S.trans (aA.gi n0))),λ_=>bl.ext aA⟩,u7,b7,rfl,ap.go2 (λ_ h=>.inl h) λb o v d F=>aA.cell (S.cell F)⟩
structure Tq where
 door:Int
 shift:Int
 opened:Bool
def Pc(t:Tq):List ce:=[.int .i64 t.door,.int .i64 t.shift,.bool t.opened]
def sI(w:cd)(a:Option Addr)(l:List Tq):Prop:=∀k (h:k<l.length),∃b o,a=some ⟨b,o,none⟩/\∀j v,(Pc l[k])[j]? =some v->w.cell? ⟨b,o+k*3+j,none⟩=some v
def sI.ext{l:List Tq}(h:sI w a l)(e:Ext w t):sI t a l:=λk c=>by obtain⟨b,o,d,f⟩:=h k c;exact⟨b,o,d,λj v g=>e.cell (f j v g)⟩
def oe:Sx:=⟨0,0,0,false,false,false,false,false⟩
def rL(G:Gd):List Sx->Int->List Tq->Int×List Sx
 |b,_,[]=>(0,b)
 |b,a,t::r=>
  if jX t.door 0 ((G.doors.length:Int)-1)&&jX t.shift 0 (2*G.days-1)then
   if t.shift<a then(5,[])
   else if tH (b.getD t.door.toNat oe) (t.shift.toNat/2)then(4,[])
   else if gA G.tries (b.getD t.door.toNat oe)then(12,[])
   else rL G (b.set t.door.toNat (iJ (b.getD t.door.toNat oe) t.shift.toNat t.opened)) t.shift r
  else(3,[])
def gO(G:Gd)(l:List Tq):Int×List Sx:=rL G (List.replicate G.doors.length oe) 0 l
def tZ(k:Nat)(x:Sx):Prop:=(0<=x.tries/\x.tries<=k)/\(0<=x.mornings/\x.mornings<=k)/\0<=x.evenings/\x.evenings<=k
def tZ.RV{x:Sx}(h:tZ k x)(s:Nat)(o:Bool):tZ (k+1) (iJ x s o):=by obtain⟨a,b,c⟩:=h;unfold iJ tZ;refine⟨by constructor<;>simp only<;>omega,?_,?_⟩;constructor<;>simp only<;>split<;>omega;simp only;split<;>omega
def tZ.up{x:Sx}(h:tZ k x):tZ (k+1) x:=by obtain⟨a,b,c⟩:=h;refine⟨⟨a.1,by omega⟩,⟨b.1,by omega⟩,c.1,by omega⟩
def NT(f:w.heap[m]? =some (.cells (madeCells (sH 166).toArray (k*8)) 166)):nD m (List.replicate k oe) w:=by
 refine⟨_,f,by simp[madeCells],λa g j v b=>?_⟩;have c:j<8:=(gy.1 b).1;have h:a<k:=by simpa using g
 have d:a*8+j<k*8:=by have:=oq 8 (show a+1<=k by omega);omega
 have i:(sH 166).toArray.size=8:=rfl;have l:(a*8+j)%8=j:=by omega
 have e:(madeCells (sH 166).toArray (k*8))[a*8+j]? =(sH 166)[j]? :=by
  unfold madeCells;rw[qF,ji (by simpa using d)];simp only[Array.getElem_range,iX,i,l];match j,c with
  |0,_=>rfl
  |1,_=>rfl
  |2,_=>rfl
  |3,_=>rfl
  |4,_=>rfl
  |5,_=>rfl
  |6,_=>rfl
  |7,_=>rfl
 rw[e];simp only[List.getElem_replicate]at b;exact b
def UV(G:Gd)(l:List Tq)(b:Nat)(v:ce)(w:cd):Prop:=
 ((gO G l).1≠0/\v=.tuple #[.slice none 0 0,.int .i64 (gO G l).1])\/
 ((gO G l).1=0/\(gO G l).2.length=G.doors.length/\(∀x∈(gO G l).2,tZ l.length x)/\∃a,b<=a/\v=.tuple #[.slice (some ⟨a,0,none⟩) G.doors.length G.doors.length,.int .i64 0]/\nD a (gO G l).2 w)
def KF(G:Gd)(a:List Sx)(b:Int)(l:List Tq)(k:Nat)(c:k<l.length):rL G a b (l.drop k)=(if jX l[k].door 0 ((G.doors.length:Int)-1)&&jX l[k].shift 0 (2*G.days-1)then
 if l[k].shift<b then(5,[])
 else if tH (a.getD l[k].door.toNat oe) (l[k].shift.toNat/2)then(4,[])
 else if gA G.tries (a.getD l[k].door.toNat oe)then(12,[])
 else rL G (a.set l[k].door.toNat (iJ (a.getD l[k].door.toNat oe) l[k].shift.toNat l[k].opened)) l[k].shift (l.drop (k+1))
 else(3,[])):=by
 rw[qH c];rfl
def Tn{gp mk ms:Nat}(h:oR gp mk ms H w){l:List Tq}{lc:Nat}(hr:sI w a l)(aw:l.length<=100000):
 Calls V.prog 137 #[cK gp,.slice a l.length lc] w (fy λv m=>Ext w m/\UV H l w.heap.size v m):=by
 have Q:=h.tY;have af:=Q.days;have h5:=Q.many;obtain⟨da,dc,h6,ax⟩:=h.c6;refine go V.func137 Tryz.ntmps137 ?_;refine cu h6 (cD (HT NC (cz _) (by omega) λw1 y e1 R S=>?_));have ag:=NT S
 refine cD (gC (n:=l.length) (λk (G:List Sx×Int)=>[(0,cK gp),(6,.slice (some ⟨y,0,none⟩) H.doors.length H.doors.length),(7,.int .i64 G.2),(17,.slice a l.length lc),(18,.int .i64 l.length),(19,.int .i64 k)])
  (λk G m=>Ext w m/\nD y G.1 m/\G.1.length=H.doors.length/\(∀x∈G.1,tZ k x)/\gO H l=rL H G.1 G.2 (l.drop k)) (List.replicate H.doors.length oe,0) ⟨⟨rfl,rfl,rfl,rfl,rfl,rfl,trivial⟩,e1,ag,by simp,λx T=>?_,rfl⟩ ?_ ?_ ?_)
 rw[List.eq_of_mem_replicate T];simp[tZ,oe];rintro k G m hk U;exact cV ⟨rfl,rfl,⟨rfl,rfl,rfl,rfl,rfl,rfl,trivial⟩,U⟩;rintro k ⟨g,bf⟩ w2 hk ⟨e2,p,F,A,f⟩;simp only at p F A f⊢;obtain⟨b,o,rfl,hc⟩:=(hr.ext e2) k hk;rw[KF H g bf l k hk]at f;refine fF k 3 hk (dP (vs:=Pc l[k]) hc (eF λw3 tb e3 ah W=>cZ W λw4 k4 q=>?_));have q:w4.heap[tb]? =some (.cells (Pc l[k]).toArray 84):=q;have ay:y<w2.heap.size:=by obtain⟨_,X,_⟩:=p.out;exact cF.lt_of_heap X
 have e4:Ext w2 w4:=e3.cy k4 ah;have E4:=e2.trans e4;have Y:=p.ext e4;have h4:=h.ext E4;have ne:¬(tb=y):=by omega
 obtain⟨az,aA,ai,_⟩:=h4.c6;have B:∀(m:cd) (c:Int),Ext w4 m->gO H l=(c,[])->c≠0->∃v,Ending.returned (one [.slice none 0 0,.int .i64 c])=.returned v/\Ext w m/\UV H l w.heap.size v m:=λm c e hc h0=>⟨_,rfl,E4.trans e,.inl ⟨by rw[hc];exact h0,by rw[hc];rfl⟩⟩;refine cQ cO (cG (ci q rfl) (cG ai (VK _ (λw e=>cD ⟨rfl,Ext.refl _⟩) (vX (ia cO _ (λw e=>ej _ _ _ w) (rE λw5 Z=>⟨λI=>iR I ?_,λI=>?_⟩))))));exact B w5 3 Z (by rw[f,cr];simp at I;simp[I]) (by omega);have I:jX l[k].door 0 ((H.doors.length:Int)-1)=true:=by simpa using I
 refine cQ cO (cG (ci (Z.at_ q) rfl) (ia cO _ (λw e=>last_at (h4.ext (Z.trans e))) (ia cO _ (λw e=>ej _ _ _ w) (rE λw6 e6=>⟨λt=>?_,λt=>?_⟩))));exact B w6 3 (Z.trans e6) (by rw[f,cr];simp at t;simp[t]) (by omega);have t:jX l[k].shift 0 (2*H.days-1)=true:=by simpa using t
 rw[cx (by rw[I,t];rfl)]at f;simp only[jX,ez,jk]at I t;obtain⟨d,hd⟩:∃d:Nat,l[k].door=(d:Int):=⟨l[k].door.toNat,by omega⟩;obtain⟨s,hs⟩:∃s:Nat,l[k].shift=(s:Int):=⟨l[k].shift.toNat,by omega⟩;have C:d<g.length:=by omega
 have aj:s<6:=by omega
 have D:=Z.trans e6;have z:w6.heap[tb]? =some (.cells #[.int .i64 d,.int .i64 s,.bool l[k].opened] 84):=by rw[D.at_ q,Pc,hd,hs]
 have J:=Y.ext D;have ak:g.getD d oe=g[d]:=getD_eq C;rw[hd,hs]at f;simp only[ql,ak]at f;refine cu (ci z rfl) (cV ⟨λal=>?_,λam=>?_⟩);exact B w6 5 D (by rw[f,cx (cY al)]) (by omega);rw[cr (dQ am)]at f
 have aa:∀{m},nD y g m->m.cell? ⟨y,0+d*8+4+s/2,none⟩=some (.bool (tH g[d] (s/2))):=λhS=>by
  obtain⟨cs,X,y2,y3⟩:=hS.out;refine ci X ?_;have an:s/2=0\/s/2=1\/s/2=2:=by omega
  rw[show 0+d*8+4+s/2=d*8+(4+s/2) by omega];refine y3 d C (4+s/2) _ ?_;rcases an with e|e|e<;>rw[e]<;>rfl
 refine cQ cO (cG (ci z rfl) (cG (ci z rfl) (dx (.int .i64 ((s/2:Nat):Int)) (λw1 _=>rG (n:=2) (by omega) (by omega) ⟨rfl,Ext.refl _⟩) (kK d 8 (by omega) (dx (.pointer (some ⟨y,0+d*8+4+s/2,none⟩)) (λw1 _=>yh 3 (by omega) ⟨rfl,Ext.refl _⟩) (cG (aa J) λw7 e7=>⟨λN=>?_,λN=>?_⟩))))));exact B w7 4 (D.trans e7) (by rw[f,cx N]) (by omega);rw[cr (by rw[N];simp)]at f;have O:=D.trans e7;have K:=J.ext e7;have L:=e7.at_ z;have ab:∀{m},nD y g m->∀j v,(kY g[d])[j]? =some v->m.cell? ⟨y,0+d*8+j,none⟩=some v:=λhS j v hj=>by obtain⟨cs,X,y2,y3⟩:=hS.out;exact ci X (by rw[cB];exact y3 d C j v hj)
 refine cu (ci L rfl) (fF d 8 (by omega) (dP (vs:=kY g[d]) (ab K) (dq (uL (h4.ext O) g[d]) λw8 e8=>⟨λP=>?_,λP=>?_⟩)));exact B w8 12 (O.trans e8) (by rw[f,cx P]) (by omega);rw[cr (by rw[P];simp)]at f;have ao:=O.trans e8;have M:=K.ext e8;have ac:=e8.at_ L;have ad:=A _ (dt C);have ap:(0<=g[d].tries/\g[d].tries<=1000000)/\(0<=g[d].mornings/\g[d].mornings<=1000000)/\0<=g[d].evenings/\g[d].evenings<=1000000:=by obtain⟨z1,z2,z3⟩:=ad;omega
 refine fV 16 cO (gu (λx=>x=y)) (λaB b h=>h.keep _) ?_;have E:∀{r},cN (λx=>x=y) w8 r->r.heap[tb]? =some (.cells #[.int .i64 d,.int .i64 s,.bool l[k].opened] 84):=λe=>e.fg ac ne;refine .exact (.int .i64 d) (λr i=>cu (ci (E i) rfl) ⟨rfl,Ext.refl _⟩) (.exact (.int .i64 d) (λr i=>cu (ci (E i) rfl) ⟨rfl,Ext.refl _⟩) ?_);refine .exact _ (λr i=>fF d 8 (by omega) ⟨rfl,Ext.refl _⟩) (.C3 rfl (.agg (kY g[d]).toArray) (λr i=>dP (vs:=kY g[d]) (ab (M.ext i)) ⟨rfl,Ext.refl _⟩) ?_);refine .exact (.int .i64 s) (λr i=>cu (ci (E i) rfl) ⟨rfl,Ext.refl _⟩) (.exact (.bool l[k].opened) (λr i=>cu (ci (E i) rfl) ⟨rfl,Ext.refl _⟩) ?_);refine .exact (.agg (kY (iJ g[d] s l[k].opened)).toArray) (λr i=>dq (BM g[d] s l[k].opened r aj ap) λaq ar=>⟨rfl,ar⟩) ?_;refine .exact (.int .i64 s) (λr i=>cu (ci (E i) rfl) ⟨rfl,Ext.refl _⟩) (.exact _ (λr i=>fF d 8 (by omega) ⟨rfl,Ext.refl _⟩) ?_);refine .xd (λ_ r=>nD y (g.set d (iJ g[d] s l[k].opened)) r) (λ_ aB b hS e=>hS.ext e) (λr i=>?_) ?_;refine NK (M.ext i) d 0 C (by omega) (iJ g[d] s l[k].opened) (sO rfl) (λj u hj=>?_) (λaq au ae=>⟨ae,au⟩);have av:j<8:=(gy.1 hj).1;rw[cx ⟨fN _,av⟩];exact hj;intro r i U;have U:nD y (g.set d (iJ g[d] s l[k].opened)) r:=U;refine cq ⟨(g.set d (iJ g[d] s l[k].opened),(s:Int)),⟨rfl,rfl,rfl,rfl,rfl,rfl,trivial⟩,?_,U,by simpa using F,λx T=>?_,f⟩;exact(E4.trans ao).cy i R;rcases oS T with T|rfl;exact(A x T).up;exact ad.RV s _;rintro⟨g,bf⟩ w2 ⟨e2,p,F,A,f⟩;have f:gO H l=(0,g):=by rw[f];simp[rL]
 refine⟨_,rfl,e2,.inr ⟨by rw[f],by rw[f];exact F,by rw[f];exact A,y,?_,rfl,by rw[f];exact p⟩⟩;exact R
def wn(G:Gd)(l:List Tq):Int:=if eg G=0 then(gO G l).1 else eg G
def iK(l:List Tq):Int:=match l.getLast? with
 |some t=>t.shift
 |none=>0
theorem Jl:∀{l:List Tq} {c:List Sx} {b:Int},(rL H c b l).1=0->∀t∈l,(0<=t.door/\t.door<H.doors.length)/\0<=t.shift/\t.shift<=2*H.days-1
 |t::r,c,b,h,x,a=>by simp only[rL]at h;split at h;rename_i d;simp only[jX,ez,jk]at d;split at h;simp at h;split at h;simp at h;split at h;simp at h;rcases eQ.1 a with rfl|a;omega;exact Jl h x a;simp at h
def KG(a:H.Ok){l:List Tq}(h:(gO H l).1=0):0<=iK l/\iK l<=5:=by unfold iK;split;rename_i t b;have:=Jl h t (List.mem_of_getLast? b);have:=a.days;omega;omega
structure FV(w:cd)(wp gp mk ms:Nat)(G:Gd)(xs:List Sx)(bf:Int)(w':cd):Prop where
 k:kU wp gp mk ms G xs bf w'
 g:xO w gp mk ms G w'
 lo:w.heap.size<=wp
theorem FV.ext{wp gp mk ms:Nat}{a:List Sx}(h:FV w wp gp mk ms H a I t)(b:Ext t e):FV w wp gp mk ms H a I e:=⟨h.k.ext b,h.g.ext b,h.lo⟩
theorem FV.low{wp gp mk ms:Nat}{a:List Sx}(h:FV w wp gp mk ms H a I e)(b:Ext t w):FV t wp gp mk ms H a I e:=⟨h.k,h.g.low b,cJ b.size h.lo⟩
def NU(w:cd)(G:Gd)(l:List Tq)(v:ce)(b:cd):Prop:=
 (wn G l≠0/\v=.tuple #[.pointer none,.int .i64 (wn G l)])\/(wn G l=0/\∃a c mk d,v=.tuple #[cK a,.int .i64 0]/\FV w a c mk d G (gO G l).2 (iK l) b/\∀x∈(gO G l).2,tZ l.length x)
def wo{dc:Nat}(W:gD w a H.doors)(p:H.doors.length<=100000)(X: -1000000<=H.streets/\H.streets<=1000000){l:List Tq}{P:Option Addr}(Q:sI w P l)(D:l.length<=100000):
 Calls V.prog 125 #[gV H a dc,.slice P l.length m] w (fy λv R=>Ext w R/\NU w H l v R):=by
 refine go V.func125 Tryz.ntmps125 ?_;refine fo λw1 gb e Y Z=>di Z (ck (vZ (dc:=dc) (W.ext e) p X) ?_);rintro v w2 ⟨q,⟨i,rfl⟩|⟨i,r,mk,S,rfl,C⟩⟩;exact eG (iR (by simpa using i) ⟨_,rfl,e.trans q,.inl ⟨by rw[wn,cr i];exact i,by rw[wn,cr i];rfl⟩⟩);have f:wn H l=(gO H l).1:=by rw[wn,cx i]
 refine eG (iG (by simp) (ck (Tn C.g (Q.ext (e.trans q)) D) ?_));rintro v w3 ⟨s,⟨t,rfl⟩|⟨t,u,E,j,aa,rfl,T⟩⟩;exact eG (iR (by simpa using t) ⟨_,rfl,(e.trans q).trans s,.inl ⟨by rw[f];exact t,by rw[f];rfl⟩⟩);have F:=(e.trans q).trans s;have s1:=e.size;have s2:=q.size;have s3:=s.size;refine eG (iG (by simp) (dA (.agg #[cK r,.slice (some ⟨j,0,none⟩) H.doors.length H.doors.length,.int .i64 0]) (fo λU x k ab d=>?_)));have d:U.heap[x]? =some (.cells #[cK r,.slice (some ⟨j,0,none⟩) H.doors.length H.doors.length,.int .i64 0] 141):=d;have G:=(C.ext (s.trans k)).low e;have y:=T.ext k;have I:=KG C.g.tY t;have ac:j<w3.heap.size:=by obtain⟨_,y1,_⟩:=T.out;exact cF.lt_of_heap y1
 have z:∀c,Ext w c->xO w r mk S H c->nD j (gO H l).2 c->c.heap[x]? =some (.cells #[cK r,.slice (some ⟨j,0,none⟩) H.doors.length H.doors.length,.int .i64 (iK l)] 141)->∃v,Ending.returned (one [cK x,.int .i64 0])=.returned v/\Ext w c/\NU w H l v c:=λc J A K h=>
  ⟨_,rfl,J,.inr ⟨by rw[f];exact t,x,r,mk,S,rfl,⟨⟨A.g,u,I,_,H.doors.length,ci h rfl,by rw[u];exact ci h rfl,ci h rfl,K.row⟩,A,by omega⟩,E⟩⟩
 refine cD (ny ⟨λn=>?_,λn=>?_⟩);have n:0<l.length:=by simpa using n
 have L:l.length-1<l.length:=by omega
 obtain⟨b,o,rfl,hc⟩:=(Q.ext (F.trans k)) (l.length-1) L;have M:iK l=l[l.length-1].shift:=by unfold iK;rw[List.getLast?_eq_getElem?,ew L]
 refine cD (fx (fF (l.length-1) 3 L (cu (hc 1 _ rfl) (cZ d λc N O=>?_)) (by omega)));have B:¬(j=x):=by omega
 have J:Ext w c:=(F.trans k).cy N (by omega);have e5:Ext w2 c:=(s.trans k).cy N (by omega);exact z c J ((C.ext e5).low e) (y.keep N B) (by rw[O,M];rfl);have n:l=[]:=l9 (by simpa using n);subst n;exact z U (F.trans k) G y d
structure Du where
 tries:Int
 morning:Bool
 evening:Bool
def FW(b:Bool):Int:=if b then 1 else 0
def sJ(G:Gd)(x:Sx):Bool:=decide (2<=G.tries)&&decide (x.mornings=0)
def uS(G:Gd)(x:Sx):Bool:=decide (2<=G.tries)&&decide (x.evenings=0)
def FX(G:Gd)(x:Sx):Int:=max (G.tries-x.tries) 0
def fQ(G:Gd)(x:Sx):Du:=⟨max (FX G x) (FW (sJ G x)+FW (uS G x)),sJ G x,uS G x⟩
def qE(d:Nat)(u:Du):List ce:=[.int .i64 d,.int .i64 u.tries,.bool u.morning,.bool u.evening]
def jL(m e:Bool)(k:Nat):Int:=if k=0 then 0 else if k=1 then FW m else FW m+FW e
def NV{wp gp mk ms:Nat}{c:List Sx}(h:kU wp gp mk ms H c I w)(hd:d<c.length)(ad:tZ 100000 c[d]):
 Calls V.prog 133 #[cK wp,.int .i64 d] w (fy λv u=>v=.agg (qE d (fQ H c[d])).toArray/\Ext w u):=by
 obtain⟨sa,sc,h1,t,h3,h4⟩:=h.at_;have Q:=h.g.tY;have ht:=Q.tries;have ao:=Q.days;obtain⟨b,o,rfl,hc⟩:=h4 d hd;refine go V.func133 Tryz.ntmps133 ?_;refine eF λw1 E e1 R S=>?_;refine cu (e1.cell t) (fF d 8 hd (dP (vs:=kY c[d]) (λj v A=>e1.cell (hc j v A)) (eF λw2 xb e2 T i=>cZ i λU k3 W=>?_)));have i:U.heap[xb]? =some (.cells (kY c[d]).toArray 166):=W.trans (cM (λa=>some (Obj.cells a 166)) (dV (sH 166).toArray (kY c[d]) rfl));clear W;have E3:Ext w U:=(e1.trans e2).cy k3 (by have:=e1.size;omega);have C:U.heap[E]? =some (.cells (sH 101).toArray 101):=(e2.cy k3 T).at_ S;have ae:=h.g.ext E3;have af:=E3.cell h1;obtain⟨y1,y2,y3⟩:=ad;refine cQ cO (cG af (cG ae.c5 (cG (ci i rfl) (vX (VK (.int .i64 (FX H c[d])) (λX _=>rD ⟨rfl,Ext.refl _⟩) (dx (.agg #[.int .i64 d,.int .i64 (FX H c[d]),.bool false,.bool false]) (λX _=>dA _ ⟨rfl,Ext.refl _⟩) ?_))))));refine .rel (λv X=>∃p,v=.pointer (some ⟨p,0,none⟩)/\U.heap.size<=p/\X.heap[p]? =some (.cells (sH 101).toArray 101)) (λv a b ⟨nb,h1,t,h3⟩ e=>⟨nb,h1,t,e.at_ h3⟩) (λX e4=>eF λY nb e5 ag Z=>⟨⟨nb,rfl,cJ e4.size ag,Z⟩,e5⟩) ?_;rintro X e4 v ⟨p,rfl,ah,aa⟩;refine cZ aa λY k5 ab=>?_;have D:Y.heap[p]? =some (.cells #[.int .i64 d,.int .i64 (FX H c[d]),.bool false,.bool false] 101):=ab;clear ab;have F:Ext U Y:=e4.cy k5 ah;have E5:=E3.trans F;have ai:=h.g.ext E5;have aj:=E5.cell h1;have ak:=F.at_ i;have ac:=F.at_ C;have ap:=cF.lt_of_heap i;have aq:=cF.lt_of_heap C;have s3:=E3.size;refine cu aj (cu ai.c5 (n6 ⟨λt=>?_,λt=>?_⟩));have t:2<=H.tries:=cY t;have hM:sJ H c[d]=decide (c[d].mornings=0):=by simp[sJ,t]
 have hE:uS H c[d]=decide (c[d].evenings=0):=by simp[uS,t]
 refine fV 7 cO (gu (λx=>x=p)) (λa b h=>h.keep _) ?_;have xc:∀{z},cN (λx=>x=p) Y z->z.heap[xb]? =some (.cells (kY c[d]).toArray 166):=λe=>e.fg ak (by omega);refine .exact _ (λz G=>cu (ci (xc G) rfl) ⟨rfl,Ext.refl _⟩) (.exact _ (λz _=>eh ⟨rfl,Ext.refl _⟩) (.exact _ (λz G=>cu (ci (xc G) rfl) ⟨rfl,Ext.refl _⟩) (.exact _ (λz _=>eh ⟨rfl,Ext.refl _⟩) ?_)));refine .xd (λ_ z=>z.heap[p]? =some (.cells #[.int .i64 d,.int .i64 (FX H c[d]),.bool (sJ H c[d]),.bool false] 101)) (λ_ a b h e=>e.at_ h) (λz G=>cZ (G.at_ D) λJ k7 B=>⟨by rw[B,hM];rfl,k7⟩) ?_;intro z G hJ;have hJ:z.heap[p]? =some (.cells #[.int .i64 d,.int .i64 (FX H c[d]),.bool (sJ H c[d]),.bool false] 101):=hJ;refine cZ hJ λJ k7 B=>?_;have f:J.heap[p]? =some (.cells #[.int .i64 d,.int .i64 (FX H c[d]),.bool (sJ H c[d]),.bool (uS H c[d])] 101):=by rw[B,hE];rfl
 have kk:=G.trans k7 (λ_ _ h=>h) λ_ _ h=>h;have E6:Ext w J:=E5.cy kk (by omega);have K:=kk.fg ac (by omega);clear B hJ;refine cu (ci f rfl) (cu (ci f rfl) (dJ [.bool (sJ H c[d]),.bool (uS H c[d])] 4 (λJ Z L al l=>cD (ei (n:=2) (λk=>[(4,cK E),(6,cK p),(7,.int .i64 (jL (sJ H c[d]) (uS H c[d]) k)),(52,.slice (some ⟨Z,0,none⟩) 2 2),(53,.int .i64 2),(54,.int .i64 k)]) (λ_ u=>u=J) ⟨⟨rfl,rfl,rfl,rfl,rfl,rfl,trivial⟩,rfl⟩ ?_ ?_ ?_))));rintro k u hk rfl;exact cV ⟨rfl,rfl,⟨rfl,rfl,rfl,rfl,rfl,rfl,trivial⟩,rfl⟩;rintro k u hk rfl;have M:∀(x y:Bool) (k:Nat),0<=jL x y k/\jL x y k<=2:=λx y k=>by cases x<;>cases y<;>(unfold jL FW;split<;>(try split)<;>decide)
 have am:=M (sJ H c[d]) (uS H c[d]) k;obtain rfl|rfl:k=0\/k=1:=by omega
 refine dI 0 (by omega) (cu (ci l rfl) ⟨λq=>cq (cq ⟨⟨rfl,rfl,?_,rfl,rfl,rfl,trivial⟩,rfl⟩),λq=>cq ⟨⟨rfl,rfl,?_,rfl,rfl,rfl,trivial⟩,rfl⟩⟩);show some _=some _;simp[jL,FW,q];show some _=some _;simp[jL,FW,q];refine dI 1 (by omega) (cu (ci l rfl) ⟨λq=>cq (cq ⟨⟨rfl,rfl,?_,rfl,rfl,rfl,trivial⟩,rfl⟩),λq=>cq ⟨⟨rfl,rfl,?_,rfl,rfl,rfl,trivial⟩,rfl⟩⟩);show some _=some _;simp[jL,FW,q];show some _=some _;simp[jL,FW,q];rintro u rfl;have m:=L.at_ f;have N:=L.at_ K;refine cu (ci m rfl) (rD (cZ m λw8 k8 r=>?_));have r:w8.heap[p]? =some (.cells (qE d (fQ H c[d])).toArray 101):=r;have an:=cF.lt_of_heap f;have O:=k8.fg N (by omega);refine dP (vs:=qE d (fQ H c[d])) (λj v A=>by rw[cB];exact ci r (by simpa using A)) (cZ O λP k9 s=>?_);have s:P.heap[E]? =some (.cells (qE d (fQ H c[d])).toArray 101):=s.trans (cM (λa=>some (Obj.cells a 101)) (dV (sH 101).toArray (qE d (fQ H c[d])) rfl));have hl:Sem.run V.prog (loadVar 101 ⟨E,0,none⟩) P=.ok (.agg (qE d (fQ H c[d])).toArray) P:=pQ (qE d (fQ H c[d])) s λj v A=>by rw[cB];simpa using A
 exact⟨_,hl,_,rfl,rfl,((E6.trans L).cy k8 (by omega)).cy k9 R⟩;have t:¬2<=H.tries:=dQ t;have hM:sJ H c[d]=false:=by simp[sJ,t]
 have hE:uS H c[d]=false:=by simp[uS,t]
 have f:Y.heap[p]? =some (.cells #[.int .i64 d,.int .i64 (FX H c[d]),.bool (sJ H c[d]),.bool (uS H c[d])] 101):=by rw[D,hM,hE]
 have E6:=E5;have K:=ac;refine cu (ci f rfl) (cu (ci f rfl) (dJ [.bool (sJ H c[d]),.bool (uS H c[d])] 4 (λJ Z L al l=>cD (ei (n:=2) (λk=>[(4,cK E),(6,cK p),(7,.int .i64 (jL (sJ H c[d]) (uS H c[d]) k)),(52,.slice (some ⟨Z,0,none⟩) 2 2),(53,.int .i64 2),(54,.int .i64 k)]) (λ_ u=>u=J) ⟨⟨rfl,rfl,rfl,rfl,rfl,rfl,trivial⟩,rfl⟩ ?_ ?_ ?_))));rintro k u hk rfl;exact cV ⟨rfl,rfl,⟨rfl,rfl,rfl,rfl,rfl,rfl,trivial⟩,rfl⟩;rintro k u hk rfl;have M:∀(x y:Bool) (k:Nat),0<=jL x y k/\jL x y k<=2:=λx y k=>by cases x<;>cases y<;>(unfold jL FW;split<;>(try split)<;>decide)
 have am:=M (sJ H c[d]) (uS H c[d]) k;obtain rfl|rfl:k=0\/k=1:=by omega
 refine dI 0 (by omega) (cu (ci l rfl) ⟨λq=>cq (cq ⟨⟨rfl,rfl,?_,rfl,rfl,rfl,trivial⟩,rfl⟩),λq=>cq ⟨⟨rfl,rfl,?_,rfl,rfl,rfl,trivial⟩,rfl⟩⟩);show some _=some _;simp[jL,FW,q];show some _=some _;simp[jL,FW,q];refine dI 1 (by omega) (cu (ci l rfl) ⟨λq=>cq (cq ⟨⟨rfl,rfl,?_,rfl,rfl,rfl,trivial⟩,rfl⟩),λq=>cq ⟨⟨rfl,rfl,?_,rfl,rfl,rfl,trivial⟩,rfl⟩⟩);show some _=some _;simp[jL,FW,q];show some _=some _;simp[jL,FW,q];rintro u rfl;have m:=L.at_ f;have N:=L.at_ K;refine cu (ci m rfl) (rD (cZ m λw8 k8 r=>?_));have r:w8.heap[p]? =some (.cells (qE d (fQ H c[d])).toArray 101):=r;have an:=cF.lt_of_heap f;have O:=k8.fg N (by omega);refine dP (vs:=qE d (fQ H c[d])) (λj v A=>by rw[cB];exact ci r (by simpa using A)) (cZ O λP k9 s=>?_);have s:P.heap[E]? =some (.cells (qE d (fQ H c[d])).toArray 101):=s.trans (cM (λa=>some (Obj.cells a 101)) (dV (sH 101).toArray (qE d (fQ H c[d])) rfl));have hl:Sem.run V.prog (loadVar 101 ⟨E,0,none⟩) P=.ok (.agg (qE d (fQ H c[d])).toArray) P:=pQ (qE d (fQ H c[d])) s λj v A=>by rw[cB];simpa using A
 exact⟨_,hl,_,rfl,rfl,((E6.trans L).cy k8 (by omega)).cy k9 R⟩
def og(x:Sx)(l:List Nat)(s:Nat):Bool:=tH x (s/2)||(decide (0<l.length)&&decide (l.getLast?.getD 0/2=s/2))
def wq(u:Du)(l:List Nat):Bool:=(l.any (λs=>decide (s%2=0))||!u.morning)&&(l.any (λs=>decide (s%2=1))||!u.evening)
def jI(L:Nat)(x:Sx)(u:Du):Nat->List Nat->Nat->List (List Nat)
 |0,_,_=>[]
 |f+1,l,a=>if(l.length:Int)=u.tries then(if wq u l then [l]else [])else(List.range (L-a)).flatMap λi=>if og x l (a+i)then []else jI L x u f (l++[a+i]) (a+i+1)
def fB(G:Gd):Nat:=(2*G.days).toNat
def il(G:Gd)(x:Sx)(a:Nat):List (List Nat):=jI (fB G) x (fQ G x) (fB G+1) [] a
def oh(L:Nat)(x:Sx)(u:Du)(f:Nat)(l:List Nat)(a k:Nat):List (List Nat):=(List.range k).flatMap λi=>if og x l (a+i)then []else jI L x u f (l++[a+i]) (a+i+1)
def pW(L:Nat)(x:Sx)(u:Du)(f:Nat)(l:List Nat)(a k:Nat):oh L x u f l a (k+1)=oh L x u f l a k++if og x l (a+k)then []else jI L x u f (l++[a+k]) (a+k+1):=by unfold oh;rw[kA,List.flatMap_append];simp
def GL(w:cd)(v:ce)(l:List Nat):Prop:=(l=[]/\v=.slice none 0 0)\/∃b c a,v=.slice (some ⟨b,0,none⟩) l.length c/\l.length<=c/\w.heap[b]? =some (.cells a 3)/\a.size=c/\∀k (h:k<l.length),a[k]? =some (.int .i64 l[k])
def GL.row(h:GL w x l):∃a c,x=.slice a l.length c/\eO w a l/\l.length<=c:=by rcases h with⟨rfl,rfl⟩|⟨b,c,i,rfl,e,f,j,g⟩;exact⟨none,0,rfl,λk d=>by simp at d,cz _⟩;exact⟨_,c,rfl,λk d=>⟨b,0,rfl,ci f (by rw[cB];exact g k d)⟩,e⟩
def GL.keep(h:GL w x l)(k:cN A w t)(d:∀b,cw x b->¬A b):GL t x l:=by rcases h with h|⟨b,c,e,a,f,g,i⟩;exact .inl h;exact .inr ⟨b,c,e,a,f,k.fg g (d b ⟨_,_,a⟩),i⟩
def GL.blk(h:GL w x l)(a:cw x m):m<w.heap.size:=by obtain⟨_,_,a⟩:=a;rcases h with⟨_,rfl⟩|⟨d,c,e,rfl,f,b,_⟩;cases a;injection a with a;have:=cM Addr.block (cE a);simp only at this;subst this;exact cF.lt_of_heap b
structure EA(lv:ce)(o o':Obj)(a b:cd):Prop where
 k:cN (cw lv) a b
 n:∀x ox,cw lv x->a.heap[x]? =some ox->b.heap[x]? =some ox\/(ox=o/\b.heap[x]? =some o')
def To(i:ce)(o j:Obj):fw (EA i o j):=by refine⟨λw=>⟨cN.refl _ w,λ_ _ _ h=>.inl h⟩,λa b c h k=>⟨h.k.trans k.k (λ_ _ h=>h) λ_ _ h=>h,λx e f l=>?_⟩,λw=>⟨(Ext.drew w).keep _,λx e _ h=>.inl h⟩⟩;rcases h.n x e f l with d|⟨d,m⟩;exact k.n x e f d;rcases k.n x _ f m with g|⟨g,p⟩;exact .inr ⟨d,g⟩;exact .inr ⟨d,p⟩
def Ext.ea(h:Ext w t)(a:ce)(o b:Obj):EA a o b w t:=⟨h.keep _,λx d _ c=>.inl (h.at_ c)⟩
def GM(a:Nat)(d:ce)(e:Obj)(l:List Nat)(v:ce)(w:cd):Prop:=
 (∃b c,cw d b/\v=.slice (some ⟨b,0,none⟩) l.length c/\w.heap[b]? =some e/\GL w v l)\/(∃b c,a<=b/\v=.slice (some ⟨b,0,none⟩) l.length c/\GL w v l)
def yn{M:ce->cd->Prop}{U:Array Bool}{o:Obj}{w0:cd}(W:GL w x l)(X:∀b,cw x b->w.heap[b]? =some o)(N:m<=w.heap.size)(O:l.length<=1000)(p:w.heap[k]? =some (.cells [Value.int .i64 s].toArray 3))(G:Obj)(H:∀b r,cw x b->o=.cells r 3->G=.cells (r.setIfInBounds l.length (.int .i64 s)) 3) (I:∀v n,GM m x G (l++[s]) v n->EA x o G w n->M v n):wY V.prog (builtin .append #[27,27] T U #[x,.slice (some ⟨k,0,none⟩) 1 i]) w M:=by
 have Y:=oG;obtain⟨Z,Q,z,h2,h3,h4,E,h6,h7⟩:=Y;have E:Q.size=1:=E;rcases W with⟨rfl,rfl⟩|⟨b,g,r,rfl,aa,F,J,d⟩;refine fP oG (cA.nil m 3 [.int .i64 0] w) N p (by omega) λv' n g1 g2 g3=>?_;have K:∀t,¬cw (.slice none 0 0) t:=λt a=>by obtain⟨_,_,a⟩:=a;cases a
 refine I v' n (.inr ?_) ⟨g2,λt ox a _=>absurd a (K t)⟩;obtain⟨h0,⟨ab,_⟩|⟨b,R,r,q1,rfl,q3,q4,q5,q6,q7,q8⟩⟩:=g1;omega;refine⟨b,R,q1,rfl,.inr ⟨b,R,r,rfl,by simpa using q5,q3,by simpa using q4,λj c=>?_⟩⟩;obtain rfl:j=0:=by simp at c;omega
 rw[q7 0 (by simp)];rfl;have y:=X b ⟨_,_,rfl⟩;rw[F]at y;obtain rfl:=cE y;have A:=H b r ⟨_,_,rfl⟩ rfl;by_cases e:l.length+1<=g;refine Je (u:=.int .i64 s) oG F e (by omega) (ci p rfl) rfl λn k' q=>I _ n (.inl ⟨b,g,⟨_,_,rfl⟩,by simp,by rw[q,A],.inr ⟨b,g,_,by simp,by simpa using e,q,by simpa using J,λj c=>?_⟩⟩) ⟨k'.trans (cN.refl (λ_=>False) n) (λt _ a=>by subst a;exact⟨_,_,rfl⟩) λ_ _ h=>h.elim,λt ox a B=>?_⟩;rcases eA j l.length with f|C;rw[eY (by omega),d j f,lI f];obtain rfl:j=l.length:=by simp at c;omega
 rw[jE (by omega)];simp;obtain⟨_,_,a⟩:=a;injection a with a;have:=cM Addr.block (cE a);simp only at this;subst this;rw[F]at B;exact .inr ⟨(cE B).symm,by rw[q,A]⟩
 have hr:=run_append_grow (P:=V.prog) w 27 T 3 Q z Z h2 h3 ⟨b,0,none⟩ l.length g (fi l) (by simp[E,fi]) (λj u c=>by
  rw[Addr.add_lit];simp only[World.cell?,F,cB];have D:j<l.length:=by simpa[fi]using(gy.1 c).1
  rw[d j D];have:(fi l)[j]? =some (.int .i64 (l[j]:Nat)):=by simp[fi,ew D]
  rw[this]at c;simpa using c) ⟨k,0,none⟩ 1 i [.int .i64 s] (by simp[E]) (λj v c=>by
  match j,c with
  |0,c=>cases c;rw[fL];exact ci p rfl) (by omega) (by omega) (growslice_fits (by omega) (cJ (Nat.mul_le_mul (show l.length+1<=1000000 by omega) h6) (by decide)))
 have C:=grownCap_ge w (l.length+1) g 3;have L:z.cells.size=1:=by rw[h4];rfl
 refine⟨_,w.drew.alloc (.cells ((fi l).toArray++#[Value.int .i64 s]++Builtin.zeroCells z.cells (grownCap w (l.length+1) g 3-(l.length+1))) 3),?_,I (.slice (some ⟨w.heap.size,0,none⟩) (l.length+1) (grownCap w (l.length+1) g 3)) _ (.inr ⟨w.heap.size,grownCap w (l.length+1) g 3,N,by simp,.inr ⟨w.heap.size,grownCap w (l.length+1) g 3,_,by simp,by simpa using C,eU w.drew _,?_,λj c=>?_⟩⟩) (((Ext.drew w).trans (Ext.alloc _ _)).ea _ _ _)⟩;unfold builtin;simp only[Sem.run_bind,hr,Result.andThen_ok,Sem.run_pure];simp only[wL,iP,size_zeroCells,L,fi,fX,kV,dW,fC,ot];omega;have ac:j<l.length+1:=by simpa using c
 rw[vG (by simp[fi];omega)];rcases eA j l.length with f|S;simp[fi,kz,f,ew f];obtain rfl:j=l.length:=by omega
 simp[fi]
def Qr(s a:Nat):Bool:=(List.range 5).all λd=>!s.testBit d||a.testBit d
def pX(G:Gd)(a s:Nat):Int:=if Qr s a then(match fJ G s with
 |some b=>(b.length:Int)
 |none=> -1)else-1
def ie(G:Gd)(a k:Nat):List Int:=(List.range 32).map λs=>if s<k then pX G a s else 0
def mz(G:Gd)(b:List Sx)(a k:Nat):List (List (List Nat)):=((cW G.tries b).take k).map λd=>il G (b.getD d oe) a
def iU(G:Gd)(b:List Sx)(a:Nat):dR:=⟨cW G.tries b,(cW G.tries b).map λd=>il G (b.getD d oe) a,ie G (dB (cW G.tries b)) (2^b.length)⟩
theorem BP{x:Sx}{u:Du}:∀{f:Nat} {l:List Nat} {a:Nat} {c:List Nat},c∈jI m x u f l a->c.length<=l.length+f/\∀s∈c,s∈l\/s<m
 |0,l,a,c,h=>by cases h
 |f+1,l,a,c,h=>by simp only[jI]at h;split at h;split at h;rw[fD.1 h];exact⟨by omega,λs d=>.inl d⟩;cases h;obtain⟨i,e,h⟩:=lJ.1 h;have e:=eJ.1 e;split at h;cases h;obtain⟨g,j⟩:=BP h;simp only[fX,dW,fC]at g;refine⟨by omega,λs d=>?_⟩;rcases j s d with b|b;rcases gl.1 b with b|b;exact .inl b;rw[fD.1 b];exact .inr (by omega);exact .inr b
theorem Jm:∀(n:Nat),((List.range n).map λi=>2^(n-1-i)).sum+1=2^n
 |0=>rfl
 |n+1=>by
  have b:=Jm n;rw[List.range_succ_eq_map,jP,List.sum_cons,List.map_map];have e:(List.range n).map ((λi=>2^(n+1-1-i))∘Nat.succ)=(List.range n).map λi=>2^(n-1-i):=by refine List.map_congr_left λi a=>?_;have:=eJ.1 a;simp only[Function.comp];congr 1;omega
  rw[e];have:n+1-1-0=n:=by omega
  rw[this,Nat.pow_succ];omega
theorem NW{a:Type}{f g:a->Nat}:∀(l:List a),(∀x∈l,f x<=g x)->(l.map f).sum<=(l.map g).sum
 |[],_=>cz _
 |x::r,h=>by simp only[jP,List.sum_cons];exact Nat.add_le_add (h x eR) (NW r λy b=>h y (eI _ b))
theorem zN{L:Nat}{x:Sx}{u:Du}:∀(f:Nat) (l:List Nat) (a:Nat),(jI L x u f l a).length<=2^(L-a)
 |0,l,a=>fN _
 |f+1,l,a=>by
  have c:1<=2^(L-a):=Nat.one_le_two_pow;simp only[jI];split;split;exact c;exact fN _;rw[List.length_flatMap];have d:((List.range (L-a)).map λi=>(if og x l (a+i)then([]:List (List Nat))else jI L x u f (l++[a+i]) (a+i+1)).length).sum<=((List.range (L-a)).map λi=>2^(L-a-1-i)).sum:=NW _ λi b=>by have b:=eJ.1 b;split;exact fN _;have:=zN (L:=L) (x:=x) (u:=u) f (l++[a+i]) (a+i+1);rwa[show L-(a+i+1)=L-a-1-i by omega]at this
  have:=Jm (L-a);omega
def zO(h:H.Ok):fB H<=6:=by have:=h.days;unfold fB;omega
def sn(h:H.Ok)(x:Sx)(a:Nat):(il H x a).length<=64/\∀l∈il H x a,l.length<=7/\∀s∈l,s<6:=by have g:=zO h;refine⟨?_,λl d=>?_⟩;have:=zN (L:=fB H) (x:=x) (u:=fQ H x) (fB H+1) [] a;have b:2^(fB H-a)<=2^6:=Nat.pow_le_pow_right (by omega) (by omega);exact cJ this b;obtain⟨e,b⟩:=BP d;simp only[fC]at e;refine⟨by omega,λs f=>?_⟩;rcases b s f with c|c;cases c;omega
def kh{a:List Sx}(h:d∈cW I a):d<a.length:=by obtain⟨b,_⟩:=ug.1 h;exact eJ.1 b
def FY(T:Int)(a:List Sx):(cW T a).Nodup:=(List.nodup_range).filter _
def pm(T:Int)(a:List Sx):(cW T a).length<=a.length:=zD T a a.length
theorem rM{most:Nat}:∀{doors b a:List Nat},eD H most doors b=some a->a.length<=b.length+doors.length
 |[],b,a,h=>by simp only[eD,fI]at h;subst h;simp
 |d::r,b,a,h=>by simp only[eD]at h;split at h;rename_i o e;obtain rfl:=cE h;obtain⟨i,f,c⟩:=L6 e;split at c;have:=rM c;simp only[qJ,dW]at this⊢;omega;cases c;split at h;have:=rM h;simp only[fX,dW,fC]at this⊢;omega;cases h
def pY{a:List (List Nat)}(h:fJ H s=some a):a.length<=5:=by unfold fJ at h;split at h;obtain rfl:=cE h;simp;obtain⟨d,b,rfl⟩:=ij.1 h;obtain⟨m,_,c⟩:=L6 b;have:=rM c;have:=sj s;simp only[fC,kV]at*;omega
def KH(G:Gd)(a s:Nat): -1<=pX G a s/\pX G a s<=5:=by unfold pX;split;split;rename_i b h;have:=pY h;omega;omega;omega
def Dj(G:Gd)(a k s:Nat)(b:s<32):(ie G a k).getD s 0=if s<k then pX G a s else 0:=by unfold ie;rw[gU,mR,List.getElem?_range b];rfl
def uT(G:Gd)(a k:Nat):(ie G a k).length=32:=by simp[ie]
def FZ{e:List Sx}(h:H.Ok)(f:e.length=H.doors.length)(a:Nat):(iU H e a).Ok:=by have n:=h.many;have g:=pm H.tries e;refine⟨by simp[iU],by simp only[iU];omega,FY _ _,λd j=>by have:=kh j;omega,λi b=>?_,λi b l f=>?_,λi b l f s k=>?_,uT _ _ _,λc m=>?_,?_⟩;obtain⟨d,_,rfl⟩:=jj.1 b;have:=(sn h (e.getD d oe) a).1;omega;obtain⟨d,_,rfl⟩:=jj.1 b;have:=((sn h (e.getD d oe) a).2 l f).1;omega;obtain⟨d,_,rfl⟩:=jj.1 b;exact((sn h (e.getD d oe) a).2 l f).2 s k;obtain⟨s,_,rfl⟩:=jj.1 m;split;exact KH _ _ _;omega;show(ie H _ _).getD 0 0=0;rw[Dj _ _ _ _ (by omega),cx (Nat.two_pow_pos _)];rfl
def jR(A:Nat->Prop)(d:Nat)(w:cd)(v:ce)(a:List (List Nat)):Prop:=∃c:List ce,cA d 27 [.slice none 0 0] w v a.length c/\c.length=a.length/\∀k (h:k<a.length),∃u,c[k]? =some u/\dE d w u a[k]/\∀b,cw u b->¬A b
def jR.own{a:List (List Nat)}(h:jR A m w x a):eW m w x a:=by obtain⟨b,c,d,e⟩:=h;exact⟨b,c,d,λk f=>by obtain⟨u,g,i,_⟩:=e k f;exact⟨u,g,i⟩⟩
theorem jR.keep{a:List (List Nat)}(h:jR A m w x a)(k:cN B w t)(f:∀b,cw x b->¬B b)(g:∀u l b,dE m w u l->cw u b->¬A b->¬B b):jR A m t x a:=by obtain⟨j,n,o,p⟩:=h;refine⟨j,n.keep k f,o,λi q=>?_⟩;obtain⟨u,r,c,d⟩:=p i q;exact⟨u,r,cA.keep c k λb e=>g u _ b c e (d b e),d⟩
def jR.ext{a:List (List Nat)}(h:jR A m w x a)(e:Ext w t):jR A m t x a:=h.keep (e.keep λ_=>False) (λ_ _ h=>h) λ_ _ _ _ _ _ h=>h
def jR.more{A A':Nat->Prop}{a:List (List Nat)}(h:jR A m w x a)(e:∀b,A' b->A b\/w.heap.size<=b):jR A' m w x a:=by obtain⟨f,g,j,k⟩:=h;refine⟨f,g,j,λi l=>?_⟩;obtain⟨u,n,c,o⟩:=k i l;refine⟨u,n,c,λb d p=>?_⟩;rcases e b p with h|h;exact o b d h;have:=(cA.blk c d).2;omega
def GL.c3(h:GL w x l)(a:cw x m):∃b,w.heap[m]? =some (.cells b 3):=by obtain⟨_,_,a⟩:=a;rcases h with⟨_,rfl⟩|⟨e,c,b,rfl,f,d,_⟩;cases a;injection a with a;have:=cM Addr.block (cE a);simp only at this;subst this;exact⟨b,d⟩
def cA.c_(h:cA m T M w x k Y)(a:cw x i):∃b,w.heap[i]? =some (.cells b T):=by obtain⟨_,_,a⟩:=a;obtain⟨_,⟨_,rfl⟩|⟨e,c,b,_,rfl,d,_⟩⟩:=h;cases a;injection a with a;have:=cM Addr.block (cE a);simp only at this;subst this;exact⟨b,d⟩
def jR.TZ{a:List (List Nat)}(h:jR A m w x a)(b:cw x k):∃c,w.heap[k]? =some (.cells c 27):=by obtain⟨e,d,_⟩:=h;exact d.c_ b
def eX(h:w.heap[m]? =some (.cells W T))(a:w.heap[m]? =some (.cells X U))(b:T≠U):False:=by rw[h]at a;injection a with a;injection a with _ a;exact b a
def mA{b a l c l' c':Nat}(h:cw (.slice (some ⟨b,0,none⟩) l c) a):a=b:=by obtain⟨_,_,h⟩:=h;injection h with h;exact(cM Addr.block (cE h)).symm
structure LS(n0 m db ob wb xb gb:Nat):Prop where
 lo:n0<=ob/\n0<=m
 d:db<m/\db≠ob
 o:ob<m
 w:wb<m/\wb≠ob
 x:xb<m/\xb≠ob
 g:gb<m/\gb≠ob
def Jn(a b c d e:Nat):ce:=.func (.func 165) #[] #[cK a,cK b,cK c,cK d,cK e]
structure LC(w0:cd)(wp d:Nat)(u:Du)(db ob wb xb gb:Nat)(w:cd):Prop where
 e:Ext w0 w
 b1:w.heap[db]? =some (.cells (qE d u).toArray 101)
 b3:w.heap[wb]? =some (.cells #[cK wp] 133)
 b4:w.heap[xb]? =some (.cells #[.int .i64 d] 3)
 b5:w.heap[gb]? =some (.cells #[Jn db ob wb xb gb] 209)
def LC.keep{u:Du}(h:LC w k d u i j o p s t)(S:LS w.heap.size m i j o p s)(a:cN A t e)(n:∀b,b<t.heap.size->A b->b=j\/m<=b):LC w k d u i j o p s e:=by
 have c:∀{b:Nat} {q:Obj},t.heap[b]? =some q->b<m->b≠j->¬A b:=λf v r l=>by rcases n _ (cF.lt_of_heap f) l with h|h;exact r h;omega
 have y:=h.e.size;refine⟨⟨a.os.trans h.e.os,a.tape.trans h.e.tape,a.output.trans h.e.output,cJ h.e.size a.size,cJ h.e.drawn a.drawn,λb f=>(a.block b (by omega) λl=>?_).trans (h.e.block b f)⟩,a.fg h.b1 (c h.b1 S.d.1 S.d.2),a.fg h.b3 (c h.b3 S.w.1 S.w.2),a.fg h.b4 (c h.b4 S.x.1 S.x.2),a.fg h.b5 (c h.b5 S.g.1 S.g.2)⟩;have:=S.lo;rcases n _ (by omega) l with h|h<;>omega
def Tr(a:Nat)(d:ce)(e:Obj)(l:List Nat)(v:ce)(w:cd):Prop:=
 (∃b c k,d=.slice (some ⟨b,0,none⟩) k c/\v=.slice (some ⟨b,0,none⟩) l.length c/\w.heap[b]? =some e/\GL w v l)\/(∃b c,a<=b/\v=.slice (some ⟨b,0,none⟩) l.length c/\GL w v l)
def Tr.ea(h:Tr m x Q l y w)(e:EA x O Q w t)(j:∀a,cw x a->a<m):Tr m x Q l y t:=by
 rcases h with⟨a,c,k,rfl,rfl,d,o⟩|⟨a,c,p,rfl,d⟩;have g:t.heap[a]? =some Q:=by rcases e.n a _ ⟨_,_,rfl⟩ d with h|h;exact h;exact h.2
 refine .inl ⟨a,c,k,rfl,rfl,g,?_⟩;rcases o with⟨b,f⟩|⟨q,c',r,b,f,i,s,u⟩;cases f;refine .inr ⟨q,c',r,b,f,?_,s,u⟩;injection b with b;have:=cM Addr.block (cE b);simp only at this;subst this;rw[d]at i;rw[g];exact i;exact .inr ⟨a,c,p,rfl,d.keep e.k λv z A=>by have:=j v A;have:=mA (l':=0) (c':=0) z;omega⟩
def GL.ea(h:GL w x l)(e:EA x O Q w t)(d:∀a b,cw x a->O=.cells b 3->Q=.cells (b.setIfInBounds l.length (.int .i64 s)) 3):GL t x l:=by rcases h with h|⟨a,c,b,rfl,f,m,i,j⟩;exact .inl h;rcases e.n a _ ⟨_,_,rfl⟩ m with h|⟨h,g⟩;exact .inr ⟨a,c,b,rfl,f,h,i,j⟩;rw[d a b ⟨_,_,rfl⟩ h.symm]at g;refine .inr ⟨a,c,_,rfl,f,g,by simpa using i,λk o=>?_⟩;rw[eY (by omega)];exact j k o
def NX{O:ce->cd->Prop}{Q:Array Bool}{o q:Obj}(B:GL w x l)(a:∀b,cw x b->w.heap[b]? =some o\/w.heap[b]? =some q)(I:m<=w.heap.size)(j:l.length<=1000)(y:w.heap[k]? =some (.cells [Value.int .i64 s].toArray 3))(r:∀b z,cw x b->o=.cells z 3->q=.cells (z.setIfInBounds l.length (.int .i64 s)) 3) (F:∀b,cw x b->∃z,o=.cells z 3) (J:∀v c,Tr m x q (l++[s]) v c->EA x o q w c->O v c):wY V.prog (builtin .append #[27,27] T Q #[x,.slice (some ⟨k,0,none⟩) 1 i]) w O:=by
 have conv:∀v c,GM m x q (l++[s]) v c->GL w x l->Tr m x q (l++[s]) v c:=λv c h g=>by
  rcases h with⟨b,i,f,rfl,C,D⟩|h;rcases g with⟨_,rfl⟩|⟨K,c',z,rfl,g2,P,g4,g5⟩;obtain⟨_,_,f⟩:=f;cases f;have:=mA (l':=0) (c':=0) f;subst this;have R:i=c':=by
   rcases D with⟨D,_⟩|⟨b2,c2,L,e,q2,A,q4,q5⟩;simp at D;injection e with S e2 U;have:=cM Addr.block (cE S);simp only at this;subst this;subst U;rw[C]at A;obtain⟨p,d⟩:=F b ⟨_,_,rfl⟩;have H:=r b p ⟨_,_,rfl⟩ d;have A:=cE A;rw[H]at A;injection A with A;have W:L.size=p.size:=by rw[<-A];simp
   rcases a b ⟨_,_,rfl⟩with a|a;rw[P,d]at a;have a:=cE a;injection a with a;subst a;omega;rw[P,H]at a;have a:=cE a;injection a with a;have:z.size=p.size:=by rw[a];simp
   omega
  subst R;exact .inl ⟨b,i,l.length,rfl,rfl,C,D⟩;exact .inr h
 by_cases f:∃b,cw x b;obtain⟨b,f⟩:=f;obtain⟨p,d⟩:=F b f;rcases a b f with h|h;refine yn (w0:=w) B (λK t=>?_) I j y q r λv c G E=>J v c (conv v c G B) E;obtain⟨_,_,e⟩:=f;obtain⟨_,_,u⟩:=t;rw[e]at u;injection u with u;have:=cM Addr.block (cE u);simp only at this;subst this;exact h;have H:=r b p f d;refine yn (o:=q) (w0:=w) B (λK t=>?_) I j y q (λK z t e=>?_) λv c G E=>J v c (conv v c G B) ⟨E.k,λX Y Z M=>?_⟩;obtain⟨_,_,e⟩:=f;obtain⟨_,_,u⟩:=t;rw[e]at u;injection u with u;have:=cM Addr.block (cE u);simp only at this;subst this;exact h;rw[H]at e⊢;injection e with e;subst e;simp;rcases E.n X Y Z M with C|⟨C,D⟩;exact .inl C;exact .inl (by rw[D,C]);have N:∀b,¬cw x b:=λb h=>f ⟨b,h⟩;exact yn (o:=o) (w0:=w) B (λb h=>absurd h (N b)) I j y q r λv c G E=>J v c (conv v c G B) E
def HV(L:Nat)(x:Sx)(u:Du)(f:Nat)(l:List Nat)(a:Nat)(h:¬(l.length:Int)=u.tries):jI L x u (f+1) l a=oh L x u f l a (L-a):=by simp only[jI,cr h,oh]
def F0(h:0<l.length):l.getLast?.getD 0=l[l.length-1]:=by rw[List.getLast?_eq_getElem?,ew (by omega)];rfl
theorem GL.v(h:GL w x l)(d:0<l.length):∃b c a,x=.slice (some ⟨b,0,none⟩) l.length c/\l.length<=c/\w.heap[b]? =some (.cells a 3)/\a.size=c/\∀k (h:k<l.length),a[k]? =some (.int .i64 l[k]):=by rcases h with⟨rfl,_⟩|h;simp at d;exact h
def F1(h:cw x m)(a:cw x k):k=m:=by obtain⟨_,_,rfl⟩:=h;exact mA (l':=0) (c':=0) a
def NY(L:Nat)(x:Sx)(u:Du)(f:Nat)(l:List Nat)(a:Nat)(h:k<=m):(oh L x u f l a k).length<=(oh L x u f l a m).length:=by
 induction m with
 |zero=>obtain rfl:k=0:=by omega
        exact cz _
 |succ m b=>
  rcases eA k (m+1)with c|d;rw[pW,fX];have:=b (by omega);omega;obtain rfl:k=m+1:=by omega
  exact cz _
def NZ(A:Nat->Prop)(m e:Nat)(f g:ce)(l:List Nat)(d:List (List Nat))(w c:cd):Prop:=
 cN (λb=>b=e\/cw g b\/cw f b) w c/\GL c f l/\∃a,c.heap[e]? =some (.cells #[a] 66)/\(∀b,cw a b->cw g b\/w.heap.size<=b)/\jR A m c a d
theorem zP{wp gp mk ms m d db ob wb xb gb:Nat}{r:List Sx}(hW:kU wp gp mk ms H r I w)(hd:d<r.length)(S:LS w.heap.size m db ob wb xb gb):∀(f:Nat) (l:List Nat) (j:Nat) (lv R:ce) (ls:List (List Nat)) (A:Nat->Prop) (z:cd),fB H+1<=j+f->l.length<=j->j<=fB H->(∀s∈l,s<6)->LC w wp d (fQ H r[d]) db ob wb xb gb z->GL z lv l->(∀b,cw lv b->m<=b/\A b)->(∀b,A b->b<z.heap.size)->m<=z.heap.size->z.heap[ob]? =some (.cells #[R] 66)->jR A m z R ls->(∀b,cw R b->m<=b)->ls.length+(jI (fB H) r[d] (fQ H r[d]) f l j).length<=100000->
  Calls V.prog 165 #[lv,.int .i64 j,cK db,cK ob,cK wb,cK xb,cK gb] z (fy λv G=>NZ A m ob lv R l (ls++jI (fB H) r[d] (fQ H r[d]) f l j) z G)
 |0,l,j,lv,R,ls,A,z,J,aX,aY,_,_,_,_,_,_,_,_,_,_=>by omega
 |f+1,l,j,lv,R,ls,A,z,J,aX,aY,aG,hC,hL,aa,hA,aA,ah,ho,aH,U=>by
  have aI:=hW.g.tY;have aZ:=aI.days;have bk:=zO aI;have a0:(fB H:Int)=2*H.days:=by unfold fB;omega
  have bm:l.length<=6:=by omega
  obtain⟨D,E,rfl,ai,a1⟩:=hL.row;have ae:∀b,(cw R b\/cw (.slice D l.length E) b)->b≠ob:=λb q e=>by subst e;have:=S.o;rcases q with q|q;have:=aH _ q;omega;have:=(aa _ q).1;omega
  refine go V.func165 Tryz.ntmps165 ?_;refine cD (cu (ci hC.b1 rfl) (eh ⟨λh=>?_,λh=>?_⟩));have h:(l.length:Int)=(fQ H r[d]).tries:=cY h;have hg:jI (fB H) r[d] (fQ H r[d]) (f+1) l j=if wq (fQ H r[d]) l then [l]else []:=by simp only[jI,cx h]
  rw[hg]at U⊢;have same:∀G,Ext z G->wq (fQ H r[d]) l=false->NZ A m ob (.slice D l.length E) R l (ls++(if wq (fQ H r[d]) l then [l]else [])) z G:=λG e J=>by rw[J,cr (by simp),List.append_nil];exact⟨e.keep _,hL.keep (e.keep λ_=>False) λ_ _ h=>h,R,e.at_ ah,λb q=>.inl q,ho.ext e⟩
  refine cS (pk (p:=λs=>decide (s%2=0)) ⟨167,#[],#[],rfl,by intro _ _;kernel_rfl,λn z=>FK n z⟩ l D E z ai (by omega)) ?_;refine cS (pk (p:=λs=>decide (s%2=1)) ⟨168,#[],#[],rfl,by intro _ _;kernel_rfl,λn z=>FL n z⟩ l D E z ai (by omega)) ?_
  have take:∀{Q:QW} {l0:L},Sub [(0,.slice D l.length E),(3,cK ob)] l0->wq (fQ H r[d]) l=true->(∀l' G,NZ A m ob (.slice D l.length E) R l (ls++(if wq (fQ H r[d]) l then [l]else [])) z G->Q .normal l' G)->kq V.prog 86 (fH Tryz.f165 4) l0 z Q:=λ{Q l0} hs aJ hq=>by
   rw[cx aJ]at hq U;refine kq.qA hs ?_;clear hs;have aK:∀{b:Nat},cw R b->¬cw (.slice D l.length E) b:=λq W=>by obtain⟨cs,g1⟩:=ho.TZ q;obtain⟨aj,g2⟩:=hL.c3 W;exact eX g1 g2 (by decide)
   have aw:¬cw R ob:=λq=>ae ob (.inl q) rfl;have ad:∀b,cw R b->b<z.heap.size:=λb q=>by obtain⟨cs,g1⟩:=ho.TZ q;exact cF.lt_of_heap g1
   refine fV 4 cO (gu (cw R)) (λa b h=>h.keep _) ?_;refine .exact R (λX e1=>cu (ci (e1.fg ah aw) rfl) ⟨rfl,Ext.refl _⟩) ?_;refine .rel (λu X=>dE z.heap.size X u l) (λu a b hu e=>cA.keep hu e λx Y aB=>by have:=(cA.blk hu Y).1;have:=ad x aB;omega) (λX e1=>?_) ?_
   have a3:eO X D l:=λk hk=>by
    obtain⟨b,o,rfl,hc⟩:=ai k hk;obtain⟨b2,c2,aL,F,_,_,_,_⟩:=hL.v (by omega);injection F with F;obtain⟨rfl,rfl⟩:b=b2/\o=0:=by injection F with F;injection F with T e4;exact⟨T,e4⟩
    exact⟨_,_,rfl,e1.ef hc λJ=>aK J ⟨_,_,rfl⟩⟩
   exact ck (lx a3 (by omega)) λu y ⟨F,hu⟩=>⟨hu.low e1.size,F⟩;refine .rel (λx X=>∃K u,x=.slice (some ⟨K,0,none⟩) 1 1/\z.heap.size<=K/\X.heap[K]? =some (.cells [u].toArray 27)/\dE z.heap.size X u l) (λx a b ⟨K,u,O,C,P,h4⟩ e=>⟨K,u,O,C,e.fg P (λJ=>by have:=ad K J;omega),cA.keep h4 e λx Y aB=>by have:=(cA.blk h4 Y).1;have:=ad x aB;omega⟩) (λX e1 u hu=>?_) ?_;refine dJ [u] 27 (λy K F ak q=>⟨⟨K,u,rfl,cJ e1.size ak,q,cA.ext hu F⟩,F⟩) ?_;obtain⟨a2,c2,rfl,_⟩:=dE.row hu;intro z;kernel_rfl;refine .spec (λv X=>jR A m X v (ls++[l])/\∀b,cw v b->cw R b\/z.heap.size<=b) (λv a b ⟨O,C⟩ e=>⟨O.ext e,C⟩) (λX e1 aM a4 a5 bn=>?_) ?_;obtain⟨K,u,rfl,ak,al,hu⟩:∃K u,aM=.slice (some ⟨K,0,none⟩) 1 1/\z.heap.size<=K/\X.heap[K]? =some (.cells [u].toArray 27)/\dE z.heap.size X u l:=a4;obtain⟨us,hr,aN,a6⟩:=ho.ext e1;have aO:u.oneCell'=true:=by obtain⟨a,c,rfl,_⟩:=dE.row hu;rfl
   refine fP Nt hr (cJ aA e1.size) al (by simp only[dW,fC]at U;omega) (λv' y g1 g2 g3=>⟨⟨⟨us++[u],by simpa using g1,by simp[aN],λi hi=>?_⟩,λb q=>(g3 b q).imp id λh=>cJ e1.size h⟩,g2⟩) rfl (by simp[qC,aO]);rcases eA i ls.length with ab|aP;obtain⟨x,x1,x2,x3⟩:=a6 i ab;refine⟨x,by rw[kz (by omega)];exact x1,?_,x3⟩;rw[lI ab];exact cA.keep x2 g2 (gd x2 hr (by decide));obtain rfl:i=ls.length:=by simp at hi;omega
   refine⟨u,by rw[mQ (by omega)];simp[aN],?_,λb q ha=>?_⟩;simp only[qI (cz _),lf,mS];exact cA.keep (dE.low hu aA) g2 (gd hu hr (by decide));have:=(cA.blk hu q).1;have:=hA b ha;omega;rintro X e1 bo ⟨aQ,ax⟩ aM _ a5 _;obtain⟨a9,c9,rfl,_,_⟩:=aQ.own.row;refine cZ (e1.fg ah aw) λy k2 a7=>hq _ _ ⟨e1.trans k2 (λx _ Y=>.inr (.inl Y)) (λx _ Y=>.inl Y),(hL.keep e1 λb q W=>aK W q).keep k2 λb q e=>ae b (.inr q) e,_,a7,ax,aQ.keep k2 (λb q e=>?_) λu x b hu q _ e=>?_⟩;rcases ax b q with h|h;exact ae b (.inl h) e;have:=cF.lt_of_heap ah;omega;have:=(cA.blk hu q).1;have:=S.o;omega
  refine⟨λO=>?_,λO=>?_⟩;refine iR rfl ⟨λC=>?_,λC=>?_⟩;exact iR rfl (take ⟨rfl,rfl,trivial⟩ (by unfold wq;rw[O,C];rfl) λl' G h=>⟨_,rfl,h⟩);refine cu (ci hC.b1 rfl) (eu ⟨λP=>?_,λP=>?_⟩);exact take ⟨rfl,rfl,trivial⟩ (by unfold wq;rw[O,C,P];rfl) λl' G h=>⟨_,rfl,h⟩;exact⟨_,rfl,same _ (Ext.refl _) (by unfold wq;rw[C,Bool.false_or,P,Bool.and_false])⟩;refine cu (ci hC.b1 rfl) (eu ⟨λP=>?_,λP=>?_⟩);refine⟨λC=>?_,λC=>?_⟩;exact iR rfl (take ⟨rfl,rfl,trivial⟩ (by unfold wq;rw[O,C,P];rfl) λl' G h=>⟨_,rfl,h⟩);refine cu (ci hC.b1 rfl) (eu ⟨λh4=>?_,λh4=>?_⟩);exact take ⟨rfl,rfl,trivial⟩ (by unfold wq;rw[O,C,P,h4];rfl) λl' G h=>⟨_,rfl,h⟩;exact⟨_,rfl,same _ (Ext.refl _) (by unfold wq;rw[C,Bool.false_or,h4,Bool.and_false])⟩;exact iG rfl ⟨_,rfl,same _ (Ext.refl _) (by unfold wq;rw[O,Bool.false_or,P,Bool.false_and])⟩;have h:¬(l.length:Int)=(fQ H r[d]).tries:=dQ h;rw[HV _ _ _ _ _ _ h]at U⊢
  refine dZ (fB H-j) (λk (_:ce)=>[(0,.slice D l.length E),(1,.int .i64 j),(2,cK db),(3,cK ob),(4,cK wb),(5,cK xb),(6,cK gb),(11,.int .i64 (j+k:Nat))])
   (λk aC G=>LC w wp d (fQ H r[d]) db ob wb xb gb G/\GL G (.slice D l.length E) l/\cN (λb=>b=ob\/cw R b\/cw (.slice D l.length E) b) z G/\G.heap[ob]? =some (.cells #[aC] 66)/\(∀b,cw aC b->cw R b\/z.heap.size<=b)/\jR A m G aC (ls++oh (fB H) r[d] (fQ H r[d]) f l j k)) R ⟨⟨rfl,rfl,rfl,rfl,rfl,rfl,rfl,rfl,trivial⟩,hC,hL,cN.refl _ _,ah,λb q=>.inl q,by simpa[oh]using ho⟩ ?_
  rintro k M X hk ⟨af,ar,k1,am,Z,aD⟩;have aR:=hW.ext af.e;obtain⟨sa,sc,g1,g2,g3,g4⟩:=aR.at_;refine cu (ci af.b3 rfl) (cu g1 (cS (last_at aR.g) (sW ⟨λan=>?_,λan=>?_⟩)));have ab:k<fB H-j:=by have:=cY an;omega
  obtain⟨b,o,rfl,hc⟩:=g4 d hd;have a8:j+k<6:=by omega
  have ba:(j+k)/2<3:=by omega
  have aS:X.cell? ⟨b,o+d*8+4+(j+k)/2,none⟩=some (.bool (tH r[d] ((j+k)/2))):=by
   have:(kY r[d])[4+(j+k)/2]? =some (.bool (tH r[d] ((j+k)/2))):=by
    obtain h0|h0|h0:(j+k)/2=0\/(j+k)/2=1\/(j+k)/2=2:=by omega
    all_goals rw[h0];rfl
   have:=hc _ _ this;rwa[<-yz]at this
  have skip:∀y,Ext X y->og r[d] l (j+k)=true->LC w wp d (fQ H r[d]) db ob wb xb gb y/\GL y (.slice D l.length E) l/\cN (λb=>b=ob\/cw R b\/cw (.slice D l.length E) b) z y/\y.heap[ob]? =some (.cells #[M] 66)/\(∀b,cw M b->cw R b\/z.heap.size<=b)/\jR A m y M (ls++oh (fB H) r[d] (fQ H r[d]) f l j (k+1)):=λy F hs=>by refine⟨af.keep S (F.keep λ_=>False) λ_ _ h=>h.elim,ar.keep (F.keep λ_=>False) λ_ _ h=>h,k1.trans (F.keep λ_=>False) (λ_ _ h=>h) λ_ _ h=>h.elim,F.at_ am,Z,?_⟩;rw[pW,cx hs,List.append_nil];exact aD.ext F
  refine cQ cO (cG (ci af.b3 rfl) (cG g2 (cG (ci af.b4 rfl) (dx (.int .i64 ((j+k)/2:Nat)) (λy _=>rG (n:=2) (by omega) (by omega) ⟨rfl,Ext.refl _⟩) (kK d 8 hd (dx (.pointer (some ⟨b,o+d*8+4+(j+k)/2,none⟩)) (λy _=>yh 3 ba ⟨rfl,Ext.refl _⟩) (cG aS ⟨λO=>?_,λO=>?_⟩)))))));exactλy F=>iR rfl (cq ⟨ab,M,⟨rfl,rfl,rfl,rfl,rfl,rfl,rfl,rfl,trivial⟩,skip y F (by simp[og,O])⟩)
  have aT:∀{Q:QW} {l0:L} {y:cd},Sub [(0,.slice D l.length E),(1,.int .i64 j),(2,cK db),(3,cK ob),(4,cK wb),(5,cK xb),(6,cK gb),(11,.int .i64 (j+k:Nat))] l0->Ext X y->og r[d] l (j+k)=false->(∀ao N ac G,(∃B,LC w wp d (fQ H r[d]) db ob wb xb gb G/\GL G (.slice D l.length E) l/\cN (λb=>b=ob\/cw R b\/cw (.slice D l.length E) b) z G/\G.heap[ob]? =some (.cells #[B] 66)/\(∀b,cw B b->cw R b\/z.heap.size<=b)/\jR A m G B (ls++oh (fB H) r[d] (fQ H r[d]) f l j (k+1)))->Q .normal ((85,ao)::(82,N)::(81,ac)::(84,.int .i64 ((j+k:Nat)+1))::(83,.int .i64 (j+k:Nat))::(80,.int .i64 (j+k:Nat))::(79,.slice D l.length E)::(78,Jn db ob wb xb gb)::[(0,.slice D l.length E),(1,.int .i64 j),(2,cK db),(3,cK ob),(4,cK wb),(5,cK xb),(6,cK gb),(11,.int .i64 (j+k:Nat))]) G)->kq V.prog 86 (fH Tryz.f165 9) l0 y Q:=λ{Q l0 y} hs F aU hq=>by
   refine kq.qA hs ?_;clear hs skip;have aE:=af.keep S (F.keep λ_=>False) λ_ _ h=>h.elim;have ag:GL y (.slice D l.length E) l:=ar.keep (F.keep λ_=>False) λ_ _ h=>h;have k2:=k1.trans (F.keep λ_=>False) (λ_ _ h=>h) λ_ _ h=>h.elim;have aV:=F.at_ am;have au:=aD.ext F;have s2:z.heap.size<=y.heap.size:=k2.size;have ay:∀b,cw M b->m<=b:=λb q=>(Z b q).elim (aH b) λh=>cJ aA h;have ap:∀b,cw (.slice D l.length E) b->b<y.heap.size:=λb q=>ag.blk q;have ad:∀b,cw M b->b<y.heap.size:=λb q=>by obtain⟨cs,h⟩:=au.TZ q;exact cF.lt_of_heap h
   obtain⟨o1,bb,bc⟩:∃o1:Obj,(∀b,cw (.slice D l.length E) b->y.heap[b]? =some o1)/\∀b,cw (.slice D l.length E) b->∃cs,o1=.cells cs 3:=by by_cases Y:∃b,cw (.slice D l.length E) b;obtain⟨b,q⟩:=Y;obtain⟨cs,bd⟩:=ag.c3 q;exact⟨.cells cs 3,λb' W=>by rw[F1 q W];exact bd,λ_ _=>⟨cs,rfl⟩⟩;exact⟨.cells #[] 3,λb q=>absurd ⟨b,q⟩ Y,λb q=>absurd ⟨b,q⟩ Y⟩
   obtain⟨o2,av⟩:∃o2:Obj,∀b cs,cw (.slice D l.length E) b->o1=.cells cs 3->o2=.cells (cs.setIfInBounds l.length (.int .i64 (j+k:Nat))) 3:=by
    cases o1 with
    |cells cs t fz=>exact⟨.cells (cs.setIfInBounds l.length (.int .i64 (j+k:Nat))) 3,λb aj _ e=>by injection e with e;rw[e]⟩
    |_=>exact⟨.cells #[] 3,λb aj _ e=>by cases e⟩
   have f9:∀{b},(b=ob\/cw M b\/cw (.slice D l.length E) b\/y.heap.size<=b)->b=ob\/m<=b:=λ{b} h=>by rcases h with h|h|h|h;exact .inl h;exact .inr (ay _ h);exact .inr (aa _ h).1;exact .inr (by omega)
   refine fV 7 (To (.slice D l.length E) o1 o2) (gu (λb=>b=ob\/cw M b\/cw (.slice D l.length E) b\/y.heap.size<=b)) (λa b h=>h.k.trans (cN.refl (λ_=>False) b) (λx _ Y=>.inr (.inr (.inl Y))) λ_ _ h=>h.elim) ?_;refine .exact (Jn db ob wb xb gb) (λw3 T=>cu (ci (T.fg aE.b5 λJ=>by have:=S.g;rcases f9 J with h|h<;>omega) rfl) ⟨rfl,(To _ _ _).refl _⟩) ?_;refine .Kg (λv w3=>∃K,v=.slice (some ⟨K,0,none⟩) 1 1/\y.heap.size<=K/\w3.heap[K]? =some (.cells [Value.int .i64 (j+k:Nat)].toArray 3)) (λv a b ⟨K,O,C,P⟩ e=>⟨K,O,C,e.k.fg P λJ=>by have:=ap K J;omega⟩) (λw3 T=>dJ [.int .i64 (j+k:Nat)] 3 λw4 K e4 ak q=>⟨⟨K,rfl,cJ T.size ak,q⟩,e4.ea _ _ _⟩) ?_;refine .early rfl (Tr y.heap.size (.slice D l.length E) o2 (l++[j+k])) (λv a b h e=>h.ea e ap) (λw3 T ac be=>?_) ?_;obtain⟨K,rfl,ak,al⟩:∃K,ac=.slice (some ⟨K,0,none⟩) 1 1/\y.heap.size<=K/\w3.heap[K]? =some (.cells [Value.int .i64 (j+k:Nat)].toArray 3):=be;exact NX (ag.ea T av) (λb q=>(T.n b o1 q (bb b q)).imp id (·.2)) T.k.size (by omega) al av bc λv w4 O C=>⟨O,C⟩;refine .exact (.int .i64 ((j+k:Nat)+1)) (λw3 _=>cq (m:=(j+k:Nat)) (n:=1) ⟨rfl,(To _ _ _).refl _⟩) ?_
   refine .spec (λv w3=>GL w3 (.slice D l.length E) l/\∃B,w3.heap[ob]? =some (.cells #[B] 66)/\(∀b,cw B b->cw M b\/y.heap.size<=b)/\jR A m w3 B ((ls++oh (fB H) r[d] (fQ H r[d]) f l j k)++jI (fB H) r[d] (fQ H r[d]) f (l++[j+k]) (j+k+1)))
    (λv a b ⟨O,B,C,P,h4⟩ e=>⟨O.ea e av,B,e.k.fg C λJ=>ae ob (.inr J) rfl,P,h4.keep e.k (λb q W=>by obtain⟨cs,q1⟩:=h4.TZ q;obtain⟨aj,q2⟩:=O.c3 W;exact eX q1 q2 (by decide)) λu x b hu q ha J=>ha (aa b J).2⟩) (λw3 T N aq=>?_) ?_
   have aq:Tr y.heap.size (.slice D l.length E) o2 (l++[j+k]) N w3:=aq;have az:GL w3 N (l++[j+k]):=by rcases aq with⟨_,_,_,_,_,_,h⟩|⟨_,_,_,_,h⟩<;>exact h
   have aF:∀b,cw N b->cw (.slice D l.length E) b\/y.heap.size<=b:=λb q=>by rcases aq with⟨b',c',k',q1,rfl,_⟩|⟨b',c',q1,rfl,_⟩;exact .inl (by rw[q1,mA (l':=0) (c':=0) q];exact⟨_,_,rfl⟩);exact .inr (by rw[mA (l':=0) (c':=0) q];exact q1)
   have bf:=aE.keep S T.k λb _ J=>.inr (aa b J).1;have bg:jR (λb=>A b\/cw N b) m w3 M (ls++oh (fB H) r[d] (fQ H r[d]) f l j k):=by have O:=au.more (A':=λb=>A b\/cw N b) λb q=>q.elim .inl λq=>(aF b q).imp (λh=>(aa b h).2) id;exact O.keep T.k (λb q W=>by obtain⟨cs,q1⟩:=au.TZ q;obtain⟨aj,q2⟩:=ag.c3 W;exact eX q1 q2 (by decide)) λu x b hu q ha J=>ha (.inl (aa b J).2)
   have bp:(l++[j+k]).length=l.length+1:=by simp
   have aW:(if og r[d] l (j+k)then []else jI (fB H) r[d] (fQ H r[d]) f (l++[j+k]) (j+k+1))=jI (fB H) r[d] (fQ H r[d]) f (l++[j+k]) (j+k+1):=by rw[aU];rfl
   have an:=NY (fB H) r[d] (fQ H r[d]) f l j (show k+1<=fB H-j by omega);rw[pW,aW,fX]at an;have ih:=zP hW hd S f (l++[j+k]) (j+k+1) N M (ls++oh (fB H) r[d] (fQ H r[d]) f l j k) (λb=>A b\/cw N b) w3 (by omega) (by omega) (by omega) (λs hs=>by rcases gl.1 hs with hs|hs;exact aG s hs;rw[fD.1 hs];exact a8) bf az (λb q=>⟨(aF b q).elim (λh=>(aa b h).1) λh=>by omega,.inr q⟩) (λb q=>q.elim (λh=>by have:=hA b h;have:=T.k.size;omega) λh=>az.blk h) (by have:=T.k.size;omega) (T.k.fg aV λJ=>ae ob (.inr J) rfl) bg ay (by rw[fX];omega);refine ck ih ?_;rintro v w4 ⟨kk,bh,B,q1,q2,q3⟩;refine⟨⟨?_,B,q1,λb q=>(q2 b q).imp id λh=>cJ T.k.size h,q3.more λb q=>.inl (.inl q)⟩,kk.trans (cN.refl (λ_=>False) w4) (λx _ Y=>?_) λ_ _ h=>h.elim⟩;rcases aq with⟨b',c',k',q4,rfl,q5,_⟩|⟨b',c',q4,rfl,_⟩;injection q4 with q4 q6 q7;subst q4 q6 q7;obtain⟨b2,c2,aL,z1,z2,z3,z4,z5⟩:=bh.v (by omega);injection z1 with z1 _ z6;have:=cM Addr.block (cE z1);simp only at this;subst this;subst z6;refine .inr ⟨_,_,aL,rfl,a1,z3,z4,λi hi=>?_⟩;have:=z5 i (by omega);rwa[lI hi]at this;refine(ag.ea T av).keep kk λb q J=>?_;rcases J with h|h|h;exact ae b (.inr q) h;obtain⟨cs,x1⟩:=au.TZ h;obtain⟨aj,x2⟩:=ag.c3 q;exact eX x1 x2 (by decide);have:=ap b q;have:=mA (l':=0) (c':=0) h;omega;rcases Y with h|h|h;exact .inl h;exact .inr (.inl h);exact .inr (.inr (aF x h));rintro w3 T ao ⟨O,B,C,P,h4⟩ N _ ac _;refine hq ao N ac w3 ⟨B,aE.keep S T λb _ J=>f9 J,O,k2.trans T (λx _ Y=>Y) λx Y J=>?_,C,λb q=>?_,?_⟩;rcases J with h|h|h|h;exact .inl h;rcases Z x h with h|h;exact .inr (.inl h);omega;exact .inr (.inr h);omega;rcases P b q with h|h;exact Z b h;exact .inr (by omega);rw[pW,aU,<-List.append_assoc];exact h4
  refine jW (FB ⟨λC=>?_,λC=>?_⟩);have C:0<l.length:=by simpa using C
  obtain⟨bl,c,cs,e,q1,q2,q3,q4⟩:=ar.v C;injection e with e bq bi;subst e;subst bi;have bj:=q4 (l.length-1) (by omega);have br:=aG _ (dt (show l.length-1<l.length by omega));refine jW (vX (me (l.length-1) (by omega) (cG (v:=.int .i64 (l[l.length-1]:Nat)) (ci q2 (by rw[cB];exact bj)) (dx (.int .i64 (l[l.length-1]/2:Nat)) (λy _=>rG (n:=2) (by omega) (by omega) ⟨rfl,Ext.refl _⟩) (dx (.int .i64 ((j+k)/2:Nat)) (λy _=>rG (n:=2) (by omega) (by omega) ⟨rfl,Ext.refl _⟩) (Ja λy F=>⟨λP=>?_,λP=>?_⟩)))) (by omega)));have P:l[l.length-1]/2=(j+k)/2:=Int.ofNat.inj (cY P);exact cq ⟨ab,M,⟨rfl,rfl,rfl,rfl,rfl,rfl,rfl,rfl,trivial⟩,skip y F (by simp[og,C,F0 C,P])⟩;have P:¬l[l.length-1]/2=(j+k)/2:=λe=>dQ P (by rw[e]);exact aT ⟨rfl,rfl,rfl,rfl,rfl,rfl,rfl,rfl,trivial⟩ F (by simp[og,O,C,F0 C,P]) λao N ac G ⟨B,hJ⟩=>cq ⟨ab,B,⟨rfl,rfl,rfl,rfl,rfl,rfl,rfl,rfl,trivial⟩,hJ⟩;have C:¬0<l.length:=by simpa using C
  exactλy F=>iG rfl (aT ⟨rfl,rfl,rfl,rfl,rfl,rfl,rfl,rfl,trivial⟩ F (by simp[og,O,C]) λao N ac G ⟨B,hJ⟩=>cq ⟨ab,B,⟨rfl,rfl,rfl,rfl,rfl,rfl,rfl,rfl,trivial⟩,hJ⟩);have aP:k=fB H-j:=by have:=dQ an;omega
  subst aP;exact⟨_,rfl,k1,ar,M,am,Z,aD⟩
def Ext.qu(h:Ext w t)(k:cN A t e)(c:∀b,A b->w.heap.size<=b):Ext w e:=
 ⟨k.os.trans h.os,k.tape.trans h.tape,k.output.trans h.output,cJ h.size k.size,cJ h.drawn k.drawn,λx a=>(k.block x (dl a h.size) λd=>by have:=c x d;omega).trans (h.block x a)⟩
theorem eW.low{a:List (List Nat)}(h:eW m w x a)(b:k<=m):eW k w x a:=by obtain⟨c,d,e,f⟩:=h;exact⟨c,d.low b,e,λg i=>by obtain⟨u,j,l⟩:=f g i;exact⟨u,j,l.low b⟩⟩
def F2{wp gp mk ms:Nat}{o:List Sx}(h:kU wp gp mk ms H o I w)(L:d<o.length)(F:tZ 100000 o[d])(U:m<=fB H):
 Calls V.prog 120 #[cK wp,.int .i64 d,.int .i64 m] w (fy λv M=>Ext w M/\eW w.heap.size M v (il H o[d] m)):=by
 have t:=h.g.tY;have W:=zO t;refine go V.func120 Tryz.ntmps120 ?_;refine fo λX A G Y e=>fo λN B u O f=>?_;have e:X.heap[A]? =some (.cells #[cK wp] 133):=e;have f:N.heap[B]? =some (.cells #[.int .i64 d] 3):=f;refine cu (ci (u.at_ e) rfl) (cu (ci f rfl) (ck (NV (h.ext (G.trans u)) L F) ?_));rintro v w3 ⟨rfl,P⟩;refine eF λw4 C Z J x=>cZ x λQ k5 j=>?_;have j:Q.heap[C]? =some (.cells (qE d (fQ H o[d])).toArray 101):=j.trans (cM (λa=>some (Obj.cells a 101)) (dV (sH 101).toArray (qE d (fQ H o[d])) rfl));have p:Ext N Q:=P.trans (Z.cy k5 J);have aa:=cF.lt_of_heap e;have ab:=cF.lt_of_heap f;have ac:=cF.lt_of_heap j;refine eF λR D y ad l=>eF λw7 E e7 K z=>cZ z λq k8 i=>?_;have l:R.heap[D]? =some (.cells #[.slice none 0 0] 66):=l;have ae:=cF.lt_of_heap l;have i:q.heap[E]? =some (.cells #[Jn C D A B E] 209):=i;have af:=cF.lt_of_heap i;have r:Ext R q:=e7.cy k8 K;have s1:=G.size;have s2:=u.size;have s3:=P.size;have s5:=p.size;have s6:=y.size;have s8:=r.size;have S:LS w.heap.size q.heap.size C D A B E:=⟨by omega,by omega,by omega,by omega,by omega,by omega⟩;have T:Ext w q:=((G.trans u).trans p).trans (y.trans r);have hC:LC w wp d (fQ H o[d]) C D A B E q:=⟨T,(y.trans r).at_ j,((u.trans p).trans (y.trans r)).at_ e,(p.trans (y.trans r)).at_ f,i⟩;have c:∀b,¬cw (.slice none 0 0) b:=λb n=>by obtain⟨_,_,n⟩:=n;cases n
 have n:=(sn t o[d] m).1;have hg:=zP h L S (fB H+1) [] m (.slice none 0 0) (.slice none 0 0) [] (λ_=>False) q (by omega) (fN _) U (λs hs=>by cases hs) hC (.inl ⟨rfl,rfl⟩) (λb n=>absurd n (c b)) (λb n=>n.elim) (cz _) (r.at_ l) ⟨[],cA.nil _ _ _ _,rfl,λk hk=>by simp at hk⟩ (λb n=>absurd n (c b)) (by show 0+(il H o[d] m).length<=100000;omega);refine cu (ci i rfl) (ck hg ?_);rintro v w9 ⟨k9,_,ov,q1,q2,q3⟩;refine cu (ci q1 rfl) ⟨_,rfl,T.qu k9 λb n=>?_,q3.own.low (by omega)⟩;rcases n with h|h|h;omega;exact absurd h (c b);exact absurd h (c b)
theorem UW:FD 64 66 [.slice none 0 0]:=⟨by kernel_rfl,Tryz.t66,_,by kernel_rfl,rfl,by kernel_rfl,by kernel_rfl,by decide+kernel,by decide⟩
theorem eW.keep{n0:Nat}{w w':cd}{v:ce}{e:List (List Nat)}{F:Nat->Prop}(h:eW n0 w v e)(k:cN F w w')(f:∀b a t,F b->w.heap[b]? =some (.cells a t)->t=27\/t=3->False):eW n0 w' v e:=by obtain⟨l,g,m,n⟩:=h;refine⟨l,g.keep k λb c d=>?_,m,λi o=>?_⟩;obtain⟨a,q⟩:=g.c_ c;exact f b a 27 d q (.inl rfl);obtain⟨u,p,j⟩:=n i o;refine⟨u,p,cA.keep j k λb c d=>?_⟩;obtain⟨a,q⟩:=cA.c_ j c;exact f b a 3 d q (.inr rfl)
theorem eW.RX{n0:Nat}{w w':cd}{v:ce}{c:List (List Nat)}{F:Nat->Prop}(h:eW n0 w v c)(k:cN F w w')(d:∀b,n0<=b->¬F b):eW n0 w' v c:=by obtain⟨g,e,j,l⟩:=h;refine⟨g,e.keep k λb a=>d b (e.blk a).1,j,λi m=>?_⟩;obtain⟨u,n,f⟩:=l i m;exact⟨u,n,cA.keep f k λb a=>d b (cA.blk f a).1⟩
def iV(n0:Nat)(w:cd)(v:ce)(lss:List (List (List Nat))):Prop:=∃a:List ce,cA n0 66 [.slice none 0 0] w v lss.length a/\a.length=lss.length/\∀k (h:k<lss.length),∃u,a[k]? =some u/\eW n0 w u lss[k]
section
variable{n0:Nat}{w w':cd}{v:ce}{lss:List (List (List Nat))}
theorem iV.ext(h:iV n0 w v lss)(e:Ext w w'):iV n0 w' v lss:=by obtain⟨a,b,c,d⟩:=h;refine⟨a,b.ext e,c,λk f=>?_⟩;obtain⟨u,g,i⟩:=d k f;exact⟨u,g,i.ext e⟩
theorem iV.gi{m:Nat}(h:iV n0 w v lss)(e:iB m w w'):iV n0 w' v lss:=by obtain⟨a,b,c,d⟩:=h;refine⟨a,b.gi e,c,λk f=>?_⟩;obtain⟨u,g,i⟩:=d k f;exact⟨u,g,i.gi e⟩
theorem iV.keep{F:Nat->Prop}(h:iV n0 w v lss)(k:cN F w w')(d:∀b a t,F b->w.heap[b]? =some (.cells a t)->t=66\/t=27\/t=3->False):iV n0 w' v lss:=by obtain⟨f,e,g,j⟩:=h;refine⟨f,e.keep k λb c l=>?_,g,λi m=>?_⟩;obtain⟨a,q⟩:=e.c_ c;exact d b a 66 l q (.inl rfl);obtain⟨u,n,o⟩:=j i m;exact⟨u,n,o.keep k λb a t c p r=>d b a t c p (.inr r)⟩
theorem iV.v_(h:iV n0 w v lss):∃a c,v=.slice a lss.length c:=by obtain⟨d,b,_⟩:=h;obtain⟨a,c,e,_⟩:=b.len;exact⟨a,c,e⟩
theorem iV.nil(n0:Nat)(w:cd):iV n0 w (.slice none 0 0) []:=⟨[],cA.nil _ _ _ _,rfl,λk a=>by simp at a⟩
end
theorem N0{w:cd}{k:ce->cd->Prop}{z:Array Bool}{n0:Nat}{v:ce}{lss:List (List (List Nat))}(h:iV n0 w v lss)(m:n0<=w.heap.size){b c:Nat}{u:ce}{o:List (List Nat)}(p:eW n0 w u o)(e:w.heap[b]? =some (.cells [u].toArray 66))(f:lss.length+1<=1000000) (A:∀g w',iV n0 w' g (lss++[o])->cN (cw v) w w'->(∀b,cw g b->n0<=b)->k g w'):wY V.prog (builtin .append #[64,64] T z #[v,.slice (some ⟨b,0,none⟩) 1 c]) w k:=by
 obtain⟨B,r,s,C⟩:=h;have j:u.oneCell'=true:=by obtain⟨a,c,rfl,_⟩:=p.row;rfl
 have d:∀b t T,cw v b->w.heap[b]? =some (.cells t T)->T=27\/T=3->False:=λb t T e D E=>by obtain⟨F,q⟩:=r.c_ e;exact eX q D (by rcases E with rfl|rfl<;>decide)
 refine fP UW r m e f (λg w' y n K=>A g w' ⟨B++[u],by simpa using y,by simp[s],λi G=>?_⟩ n λb e=>(y.blk e).1) rfl (by simp[qC,j]);rcases eA i lss.length with l|H;obtain⟨x,I,J⟩:=C i l;refine⟨x,by rw[kz (by omega)];exact I,?_⟩;rw[lI l];exact J.keep n d;obtain rfl:i=lss.length:=by simp at G;omega
 refine⟨u,by rw[mQ (by omega)];simp[s],?_⟩;simp only[qI (cz _),lf,mS];exact p.keep n d
def F3(n0:Nat)(w:cd)(b:Nat):Prop:=n0<=b/\∃a t c,w.heap[b]? =some (.cells a t c)
theorem cA.Pd{a:Type}{n0:Nat}{z:ce}{w:cd}{v:ce}{d:List ce}{l:List a}{E:cd->ce->a->Prop}(h:cA n0 T [z] w v l.length d)(j:∀k (h:k<l.length),∃u,d[k]? =some u/\E w u l[k]):iQ (F3 n0 w) E z T w v l:=by obtain⟨m,⟨n,rfl⟩|⟨b,c,e,o,rfl,f,g,p,x,q,r⟩⟩:=h;exact .inl ⟨l9 n,rfl⟩;simp only[dW,fC,ot,cB]at m g;refine .inr ⟨b,c,e,(0,0),⟨o,e,T,(0,0),f⟩,rfl,f,g,p,λk i=>?_,λk i y=>?_⟩;obtain⟨u,s,t⟩:=j k i;exact⟨u,by rw[q k (by omega)];exact s,t⟩;rw[r k (by omega) (by omega)];simp[Nat.mod_one]
theorem dE.Pd{n0:Nat}{w:cd}{v:ce}{l:List Nat}(h:dE n0 w v l):vT (F3 n0 w) w v l:=cA.Pd h λk a=>⟨.int .i64 l[k],by simp[fi,ew a],rfl⟩
theorem eW.Pd{n0:Nat}{w:cd}{v:ce}{a:List (List Nat)}(h:eW n0 w v a):zb (F3 n0 w) w v a:=by obtain⟨g,b,i,c⟩:=h;exact cA.Pd b λk d=>by obtain⟨u,e,f⟩:=c k d;exact⟨u,e,f.Pd⟩
theorem iV.Pd{n0:Nat}{w:cd}{v:ce}{lss:List (List (List Nat))}(h:iV n0 w v lss):uC (F3 n0 w) w v lss:=by obtain⟨f,a,g,b⟩:=h;exact cA.Pd a λk c=>by obtain⟨u,d,e⟩:=b k c;exact⟨u,d,e.Pd⟩
theorem zQ(b c d:ce)(a:List Int):(dg b c d a).size=3+a.length:=by simp[dg];omega
theorem A9(a b c:ce)(d:List Int)(k:Nat)(v:Int):(dg a b c d).setIfInBounds (3+k) (.int .i64 v)=dg a b c (d.set k v):=by unfold dg;rw[show 3+k=k+1+1+1 by omega];simp[List.map_set]
theorem zR(a b d u:ce)(c:List Int):(dg a b d c).setIfInBounds 2 u=dg a b u c:=by unfold dg;simp
theorem Ba(G:Gd)(a:Nat):ie G a 0=List.replicate 32 0:=by unfold ie;simp only[Nat.not_lt_zero,eo];rfl
theorem oJ(G:Gd)(a k:Nat)(c:k<32):ie G a (k+1)=(ie G a k).set k (pX G a k):=by
 apply List.ext_getElem?;intro i;unfold ie;rw[List.getElem?_set,mR,mR];simp only[kV,List.length_range];rcases eA i 32 with b|b;rw[List.getElem?_range b];by_cases e:k=i;subst e;simp[c];simp only[e,eo,iX];have:(i<k+1)=(i<k):=by apply propext;omega
 simp[this];rw[IA (by simpa using b)];have:¬k=i:=by omega
 simp[this]
theorem F4:∀s:Nat,s<32->∀a:Nat,a<32->(decide (b8 .andNot s a=0))=Qr s a:=by decide+kernel
theorem Qs:∀n:Nat,n<=5->IntKind.u8.wrap (1*2^n)=((2^n:Nat):Int):=by decide+kernel
theorem UX:∀n:Nat,n<=5->∀s:Nat,s<2^n->s<32/\∀d∈dK s,d<n:=by decide+kernel
theorem Dk{w:cd}{k:ce->cd->Prop}{x y:dj}{m n:Nat}(b:m+n<256)(h:k (.int .u8 ((m+n:Nat):Int)) w):iO V.prog (do eqGuard .add T x y (.int .u8 m) (.int .u8 n);binOp .add T (.int .u8 m) (.int .u8 n)) w k:=by refine⟨_,w,?_,h⟩;go_simp;have a:IntKind.u8.signed=false:=rfl;unfold IntKind.wrap;simp[IntKind.bits,a];omega
theorem Jo{f:IntKind}{t b o:Nat}{w:cd}{k:ce->cd->Prop}(a n:Nat)(m:a<n)(h:k (.pointer (some ⟨b,o+a,none⟩)) w)(g:I=(a:Nat):=by rfl)(i:ty t=some ⟨2,n,1,n⟩:=by rfl):iO V.prog (Instr.indexAt t (.pointer (some ⟨b,o,none⟩)) (.int f I)) w k:=by
 subst g;obtain⟨e,j,l⟩:=FA i rfl;refine⟨_,w,?_,h⟩;have c:(a:Int)<(n:Int):=by omega
 have d:(0:Int)<=(a:Int):=by omega
 unfold Instr.indexAt;simp only[asIntOf,Instr.sureAddr,pure_bind,Sem.run_bind,fZ j,Result.andThen_ok,Sem.run_pure,d,c,and_self,cX,lq l,ql,fL,ot]
theorem RY{w:cd}{s:cd->Prop}{b:Nat}{e f g:ce}{c:List Int}{k:Nat}{v:Int}(i:w.heap[b]? =some (.cells (dg e f g c) 207))(m:k<c.length)(h:∀w',cN (λx=>x=b) w w'->w'.heap[b]? =some (.cells (dg e f g (c.set k v)) 207)->s w'):DR V.prog (Instr.storeAt 3 (.pointer (some ⟨b,3+k,none⟩)) (.int .i64 v)) w s:=
 iA i (by rw[zQ];show 3+k+1<=_;omega) (λw' j d=>h w' j (d.trans (cM (λa=>some (Obj.cells a 207)) (A9 _ _ _ _ _ _)))) (fU (l:=[.int .i64 v]) rfl)
def N4(a:ce)(w:cd):Calls V.prog 186 #[a] w (fy λv b=>v=a/\b=w):=by refine go V.func186 Tryz.ntmps186 ?_;exact⟨_,rfl,rfl,rfl⟩
def Ts:List Int:=List.replicate 32 0
def zS{wp gp mk ms n0:Nat}{f:List Sx}(h:kU wp gp mk ms H f I w)(hA:∀b,A b->b<w.heap.size)(hp:ku A mk ms H w)(ax:n0<=mk)(ay:n0<=ms)(az:∀x∈f,tZ 100000 x)(P:k<=fB H):
 Calls V.prog 162 #[cK wp,.int .i64 k] w (fy λv D=>MA n0 mk ms H A w D/\∃s,v=cK s/\eV (F3 w.heap.size D) s (iU H f k) D):=by
 have ak:=h.g.tY;have h5:=ak.many;have al:=h.len;refine go V.func162 Tryz.ntmps162 ?_;refine cS (N4 _ _) (ck (yi h) ?_);rintro ov w1 ⟨e1,am⟩;have aI:=pm H.tries f;obtain⟨L,Q,rfl,_,aK⟩:=am.row;refine dA (.agg (dg (cK wp) (.slice L (cW H.tries f).length Q) (.slice none 0 0) Ts)) (fo λw2 s e2 aL E=>?_);have E:w2.heap[s]? =some (.cells (dg (cK wp) (.slice L (cW H.tries f).length Q) (.slice none 0 0) Ts) 207):=E;refine cu (ci E rfl) (cD ?_);obtain⟨O,hO⟩:∃O,O=Value.slice L (cW H.tries f).length Q:=⟨_,rfl⟩;have aJ:(cW H.tries f).length<=5:=by omega
 have s1:=e1.size;have E2:=e1.trans e2;refine gC (n:=(cW H.tries f).length) (λi v=>[(0,cK wp),(1,.int .i64 k),(5,cK s),(21,.slice L (cW H.tries f).length Q),(22,.int .i64 (cW H.tries f).length),(23,.int .i64 i)]) (λi v D=>Ext w D/\dE w.heap.size D O (cW H.tries f)/\D.heap[s]? =some (.cells (dg (cK wp) O v Ts) 207)/\iV w.heap.size D v (mz H f k i)) (.slice none 0 0) ⟨⟨rfl,rfl,rfl,rfl,rfl,rfl,trivial⟩,E2,by rw[hO];exact am.ext e2,by rw[hO];exact E,by simpa[mz]using iV.nil _ _⟩ ?_ ?_ ?_;rintro i v M hk hJ;exact cV ⟨rfl,rfl,⟨rfl,rfl,rfl,rfl,rfl,rfl,trivial⟩,hJ⟩;rintro i v M hk ⟨e3,B,j,C⟩;have R:eO M L (cW H.tries f):=by obtain⟨a,c,q1,q2,_⟩:=B.row;rw[hO]at q1;injection q1 with q1;rw[q1];exact q2
 obtain⟨b,o,rfl,hc⟩:=R i hk;have F:=kh (dt hk);obtain⟨d,hd⟩:∃d,d=(cW H.tries f)[i]:=⟨_,rfl⟩;rw[<-hd]at hc F;refine dI i hk (cu hc ?_);have S:∀b,cw v b->w.heap.size<=b/\b<M.heap.size:=λb l=>by obtain⟨us,hr,_⟩:=C;exact hr.blk l
 have ad:¬cw v s:=λl=>by obtain⟨us,hr,_⟩:=C;obtain⟨cs,q⟩:=hr.c_ l;exact eX q j (by decide)
 refine fV 10 cO (gu (cw v)) (λa b h=>h.keep _) ?_;refine .exact v (λy G=>cu (ci (G.fg j ad) rfl) ⟨rfl,Ext.refl _⟩) ?_;refine .rel (λu y=>eW M.heap.size y u (il H f[d] k)) (λu a b hu e=>hu.RX e λx T ae=>by have:=(S x ae).2;omega) (λy G=>?_) ?_;have aA:Ext w y:=e3.qu G λx T=>(S x T).1;exact ck (F2 (h.ext aA) F (az _ (dt F)) P) λu w5 ⟨e5,hu⟩=>⟨hu.low G.size,e5⟩;refine .rel (λx y=>∃N u,x=.slice (some ⟨N,0,none⟩) 1 1/\M.heap.size<=N/\y.heap[N]? =some (.cells [u].toArray 66)/\eW M.heap.size y u (il H f[d] k)) (λx a b ⟨N,u,h1,h2,h3,h4⟩ e=>⟨N,u,h1,h2,e.fg h3 (λP=>by have:=(S N P).2;omega),h4.RX e λx T ae=>by have:=(S x ae).2;omega⟩) (λy G u hu=>?_) ?_;refine dJ [u] 66 (λw5 N e5 an l=>⟨⟨N,u,rfl,cJ G.size an,l,eW.ext hu e5⟩,e5⟩) ?_;obtain⟨a2,c2,rfl,_⟩:=eW.row hu;intro w;kernel_rfl;refine .spec (λv' y=>iV w.heap.size y v' (mz H f k (i+1))) (λv a b h1 e=>h1.ext e) (λy G ao aB aC aM=>?_) ?_;obtain⟨N,u,rfl,an,ap,hu⟩:∃N u,ao=.slice (some ⟨N,0,none⟩) 1 1/\M.heap.size<=N/\y.heap[N]? =some (.cells [u].toArray 66)/\eW M.heap.size y u (il H f[d] k):=aB;refine N0 (C.ext G) (by have:=e3.size;have:=G.size;omega) (hu.low e3.size) ap (by simp[mz];omega) λv' w5 g1 g2 _=>⟨?_,g2⟩;have:mz H f k (i+1)=mz H f k i++[il H f[d] k]:=by unfold mz;rw[gP hk,nQ,jP,qK,<-hd,getD_eq F]
 rw[this];exact g1;rintro y G aN aq ao _ aC _;obtain⟨a9,c9,rfl⟩:=iV.v_ aq;refine cZ (G.fg j ad) λw5 k5 aD=>cq ⟨_,⟨rfl,rfl,rfl,rfl,rfl,rfl,trivial⟩,(e3.qu G λx T=>(S x T).1).cy k5 (by omega),?_,aD.trans (cM (λa=>some (Obj.cells a 207)) (zR _ _ _ _ _)),aq.keep k5 λb cs t l hc ht=>?_⟩;refine cA.keep (cA.keep B G λb l P=>?_) k5 λb l P=>?_;obtain⟨us,hr,_⟩:=C;obtain⟨cs,q⟩:=hr.c_ P;obtain⟨ar,q'⟩:=cA.c_ B l;exact eX q q' (by decide);subst P;obtain⟨ar,q'⟩:=cA.c_ B l;exact eX j q' (by decide);subst l;exact eX (G.fg j ad) hc (by rcases ht with rfl|rfl|rfl<;>decide);rintro v M ⟨e3,B,j,C⟩;subst hO;have U:iV w.heap.size M v (iU H f k).lists:=by
  have:mz H f k (cW H.tries f).length=(iU H f k).lists:=by unfold mz iU;rw[kX]
  rw[<-this];exact C
 clear C;have R:eO M L (cW H.tries f):=by obtain⟨a,c,q1,q2,_⟩:=B.row;injection q1 with q1;rw[q1];exact q2
 have h3:=h.ext e3;obtain⟨sa,sc,g1,g2,g3,g4⟩:=h3.at_;obtain⟨da,dc,d1,d2⟩:=h3.g.c6;refine cu (ci j rfl) (cS (pj (cW H.tries f) L Q M R (λd hd=>by have:=kh hd;omega) (by omega)) (cu g1 (cu d1 (cD (Te (by omega) ?_)))));rw[Qs _ h5];have aO:2^H.doors.length<=32:=Nat.pow_le_pow_right (by omega) h5;obtain⟨p,W⟩:∃p,p=dB (cW H.tries f):=⟨_,rfl⟩;rw[<-W];have J:p<32:=by rw[W];exact pP _ 0 (by omega) λd hd=>by have:=kh hd;omega
 have aP:=cF.lt_of_heap j;have s3:=e3.size;have aE:ku (λx=>A x\/x=s) mk ms H M:=(hp.more (A':=λx=>A x\/x=s) λb l=>l.imp id λh=>by omega).ext e3;refine ei (n:=2^H.doors.length) (λi=>[(0,cK wp),(5,cK s),(8,.int .u8 p),(55,.int .u8 (2^H.doors.length:Nat)),(56,.int .u8 i)]) (λi D=>iB n0 w D/\ku (λx=>A x\/x=s) mk ms H D/\dE w.heap.size D (.slice L (cW H.tries f).length Q) (cW H.tries f)/\D.heap[s]? =some (.cells (dg (cK wp) (.slice L (cW H.tries f).length Q) v (ie H p i)) 207)/\iV w.heap.size D v (iU H f k).lists) ⟨⟨rfl,rfl,rfl,rfl,rfl,trivial⟩,e3.gi n0,aE,B,by rw[Ba];exact j,U⟩ ?_ ?_ ?_;rintro i y hk hJ;exact cV ⟨rfl,rfl,⟨rfl,rfl,rfl,rfl,rfl,trivial⟩,hJ⟩;rintro i y hk ⟨m4,af,ag,z,U⟩;have r:i<32:=by omega
 have aQ:=uT H p i;refine Jo i 32 r (RY z (by omega) λw5 k5 X=>?_);have Y:∀{a b:cd},cN (λx=>x=s) a b->a.heap[s]? =some (.cells (dg (cK wp) (.slice L (cW H.tries f).length Q) v (ie H p i)) 207)\/a.heap[s]? =some (.cells (dg (cK wp) (.slice L (cW H.tries f).length Q) v ((ie H p i).set i (-1))) 207)->dE w.heap.size a (.slice L (cW H.tries f).length Q) (cW H.tries f)->iV w.heap.size a v (iU H f k).lists->dE w.heap.size b (.slice L (cW H.tries f).length Q) (cW H.tries f)/\iV w.heap.size b v (iU H f k).lists:=λkk l ha hl=>by refine⟨cA.keep ha kk λx T P=>?_,hl.keep kk λx cs t P hc ht=>?_⟩;obtain⟨ar,q'⟩:=cA.c_ ha T;subst P;rcases l with l|l<;>exact eX l q' (by decide);subst P;rcases l with l|l<;>exact eX l hc (by rcases ht with rfl|rfl|rfl<;>decide)
 obtain⟨ah,ai⟩:=Y k5 (.inl z) ag U;have m5:iB n0 w w5:=m4.cy k5 (by omega);have aj:=af.keep k5 λx T=>.inr T;refine Qk _ rfl (eG ⟨λhn=>?_,λhn=>?_⟩);have K:Qr i p=false:=by rw[<-F4 i r p J];simpa using hn
 refine Dk (m:=i) (n:=1) (by omega) ⟨⟨rfl,rfl,rfl,rfl,rfl,trivial⟩,m5,aj,ah,?_,ai⟩;rw[oJ _ _ _ r,pX,K];exact X;have K:Qr i p=true:=by rw[<-F4 i r p J];simpa using hn
 have au:=h.gi m5;obtain⟨aR,aS,z1,z2,z3,z4⟩:=au.at_;have aF:∀b,(A b\/b=s)->b<w5.heap.size:=λb l=>l.elim (λl=>by have:=hA b l;have:=m5.size;omega) λe=>by subst e;exact cF.lt_of_heap X
 refine cu z1 (ck (zM au.g aF aj ax ay (UX _ h5 i hk)) ?_);rintro v6 w6 ⟨m6,u,b,rfl,aa⟩;have av:=m5.trans m6.1;have aw:=m6.2 aj;have Z:=m6.1.at_ X;cases ab:fJ H i with
 |none=>
  rw[ab]at aa;obtain⟨rfl,rfl⟩:=aa;refine iG rfl (Dk (m:=i) (n:=1) (by omega) ⟨⟨rfl,rfl,rfl,rfl,rfl,trivial⟩,av,aw,cA.gi ah m6.1,?_,ai.gi m6.1⟩);rw[oJ _ _ _ r,pX,K,ab];exact Z
 |some ls=>
  rw[ab]at aa;obtain⟨rfl,a,c,rfl,_,_⟩:=aa;refine iR rfl (cD (Jo i 32 r (RY Z (by rw[qJ];omega) λw7 k7 ac=>Dk (m:=i) (n:=1) (by omega) ?_)));obtain⟨aG,aH⟩:=Y k7 (.inr Z) (cA.gi ah m6.1) (ai.gi m6.1);refine⟨⟨rfl,rfl,rfl,rfl,rfl,trivial⟩,av.cy k7 (by omega),aw.keep k7 λx T=>.inr T,aG,?_,aH⟩;rw[oJ _ _ _ r,pX,K,ab];rw[List.set_set]at ac;exact ac
 rintro y ⟨m4,af,ag,z,U⟩;refine⟨_,rfl,⟨m4,λ_=>af.fewer λb l=>.inl l⟩,s,rfl,FZ ak al k,⟨by omega,_,_,_,z⟩,cK wp,_,v,(0,0),.inr ⟨_,rfl⟩,?_,ag.Pd,U.Pd⟩;rw[z,W,<-al];rfl
end Go.Proofs.W
variable{R:Go.cF.cR}
namespace Go.Proofs.W
open Go.Conc Go.cF Go.cF.Cr Go.cF.Wg Go.RowKit Go.Conc.Lib Go.ConcR.Gen
open Go.ConcN Go.ConcN.Gen
open Go.ConcR (KK wgBlock WgAt stA smA mk DC0)
abbrev LF:List Nat:=[193,194]
def WU:LF.all (okF LF true (λ_=>false))=true:=by kernel_rfl
def so{l:List Int}(h:(fE l m)[i]? =some x):∃n,x=.int .i64 n:=by
 have a:x∈(l.map (Value.int .i64)++List.replicate (m-l.length) (Value.int .i64 0)):=by have:=l7 h;simpa[fE]using this
 rcases gl.1 a with a|a;obtain⟨b,_,rfl⟩:=jj.1 a;exact⟨b,rfl⟩;exact⟨0,List.eq_of_mem_replicate a⟩
def N5(h:∀(i:Nat) v,W[i]? =some v->∃n,v=.int .i64 n):eT R W W:=
 ⟨rfl,λi v c a b=>by rw[a]at b;cases b;obtain⟨n,rfl⟩:=h i v a;exact .int _ _⟩
def Jp(h:∀(i:Nat) v,W[i]? =some v->∃n,v=.int .i64 n)(a:eT R W X):X=W:=by refine Array.ext a.size.symm λi c d=>?_;have b:W[i]? =some W[i]:=ji d;have e:X[i]? =some X[i]:=ji c;have:=a.at_ i _ _ b e;obtain⟨n,f⟩:=h i _ b;rw[f]at this⊢;revert this;generalize X[i]=x;intro this;cases this;rfl
def RZ(w:cd)(o:Nat->Prop)(b:Nat):Prop:=o b/\∃l c a,MY a/\w.heap[b]? =some (.cells (fE l c) 3 a)
def xR(w:cd)(A:Nat)(o:Nat->Prop)(b:Nat):Prop:=b=A\/RZ w o b
theorem cU.slice{w:cd}{o:Nat->Prop}{s:Sp}{y:SV}{a:cR}(h:cU o w s y)(e:∀b,RZ w o b->a.r b b/\a.sh b=none):VR a (.slice y.sa y.sl y.sc) (.slice y.sa y.sl y.sc):=by
 cases s with
 |none=>
  have:y=⟨none,0,0,0,0,false⟩:=h;subst this;exact .fc _ _
 |some s=>
  obtain⟨l,m,k⟩:=s;obtain⟨_,_,_,_,⟨_,c,_⟩|⟨_,d,c,f,_,_,g,i,j⟩⟩:=h;rw[c];exact .fc _ _;rw[f];obtain⟨n,p⟩:=e d ⟨c,l,y.sc,g,i,j⟩;exact .slice _ _ (.of _ _ n p)
def HW{n:List Sp}{a:List SV}(t:A m)(u:∀b,C b->A b)(J:a.length=n.length)(f:w.heap[m]? =some (.cells W 199))(x:W.size=k*4)(K:a.length=k) (y:∀j (h:j<a.length),W[4*j]? =some (.slice a[j].sa a[j].sl a[j].sc)/\W[4*j+1]? =some (.int .i64 a[j].m)/\W[4*j+2]? =some (.int .i64 a[j].k)/\W[4*j+3]? =some (.bool a[j].b))
 (z:∀j (h:j<a.length) (L:j<n.length),cU C w n[j] a[j]):vM (o8 LF (λ_=>false) (xR w m C)) w w A B:=by
 refine⟨HR.of (λ_=>rfl) λb D o=>?_,λb D o=>?_⟩;obtain⟨rfl,p⟩:=o;rcases p with rfl|⟨g,l,c,M,E,q⟩;refine⟨_,_,f,f,.cells ⟨rfl,λi v N d r=>?_⟩ λ_ h=>h⟩;rw[d]at r;cases r;have O:i<W.size:=(eP.1 d).1;have s:i/4<a.length:=by omega
 obtain⟨F,G,H,I⟩:=y (i/4) s;have:i=4*(i/4)\/i=4*(i/4)+1\/i=4*(i/4)+2\/i=4*(i/4)+3:=by omega
 rcases this with e|e|e|e;rw[e,F]at d;cases d;exact(z _ s (by omega)).slice λb g=>⟨⟨rfl,.inr g⟩,rfl⟩;rw[e,G]at d;cases d;exact .int _ _;rw[e,H]at d;cases d;exact .int _ _;rw[e,I]at d;cases d;exact .bool _;exact⟨_,_,q,q,.cells (N5 λi v h=>so h) λ_ h=>h⟩;obtain⟨rfl,p⟩:=o;rcases p with rfl|⟨g,_⟩;exact .inl t;exact .inl (u _ g)
def VR.Qt{e:cR}(n:cR.Le R e){y:SV}(p:VR R (.slice y.sa y.sl y.sc) (.slice y.sa y.sl y.sc))(h:VR e y.val x):x=y.val:=by
 unfold SV.val at h;cases h with
 | @agg _ d o q=>
  have r:eT e #[.slice y.sa y.sl y.sc,.int .i64 y.m,.int .i64 y.k,.bool y.b] d:=⟨o,q⟩;have s:d.size=4:=o.symm
  have f:∀i (j:i<4),VR e (#[Value.slice y.sa y.sl y.sc,.int .i64 y.m,.int .i64 y.k,.bool y.b][i]'(by simpa using j)) (d[i]'(by omega)):=λi j=>
   r.at_ i _ _ (ji (by simpa using j)) (ji (by omega))
  have t:d[0]'(by omega)=.slice y.sa y.sl y.sc:=by
   have h:=f 0 (by omega);simp only[List.getElem_toArray,mS]at h;have g:=p.mono n;revert h g;generalize d[0]=z;generalize y.sa=a;intro h g;cases a with
   |none=>cases h;rfl
   |some a=>
    cases h with
    | @slice a C l c h=>
     cases g with
     |slice l c u=>
      rw[(u.block h).2.1 rfl]
  have v:d[1]'(by omega)=.int .i64 y.m:=by have h:=f 1 (by omega);simp only[List.getElem_toArray,IC,mS]at h;revert h;generalize d[1]=z;intro h;cases h;rfl
  have w:d[2]'(by omega)=.int .i64 y.k:=by have h:=f 2 (by omega);simp only[List.getElem_toArray,IC,mS]at h;revert h;generalize d[2]=z;intro h;cases h;rfl
  have A:d[3]'(by omega)=.bool y.b:=by have h:=f 3 (by omega);simp only[List.getElem_toArray,IC,mS]at h;revert h;generalize d[3]=z;intro h;cases h;rfl
  have:d=#[.slice y.sa y.sl y.sc,.int .i64 y.m,.int .i64 y.k,.bool y.b]:=by
   refine Array.ext (by simp[s]) λi j B=>?_;have:i=0\/i=1\/i=2\/i=3:=by omega
   rcases this with rfl|rfl|rfl|rfl;exact t;exact v;exact w;exact A
  rw[this];rfl
def HX(w:cd)(A:Nat)(o:Nat->Prop)(y:SV)(x:ce)(a:cd):Prop:=x=y.val/\∀b,xR w A o b->a.heap[b]? =w.heap[b]?
def N6{Wg A n:Nat}{own rd o:Nat->Prop}{cs:Array ce}{B:List Sp}{a:List SV}{pl:Addr}{caller:Frame}{cl:List Frame}(hA:own A)(ho:∀b,o b->own b)(hl:a.length=B.length) (u:w.heap[A]? =some (.cells cs 199))(O:cs.size=n*4)(hn:a.length=n)(C:n<=65536) (hc:∀j (h:j<a.length),cs[4*j]? =some (.slice a[j].sa a[j].sl a[j].sc)/\cs[4*j+1]? =some (.int .i64 a[j].m)/\cs[4*j+2]? =some (.int .i64 a[j].k)/\cs[4*j+3]? =some (.bool a[j].b)) (ha:∀j (h:j<a.length) (h':j<B.length),cU o w B[j] a[j]):
 Wy PR 241 Wg true rd (λP g D=>g=G (caller.finish (cP a).val) cl/\(∀b,own b->P b)/\cU (λb=>o b/\P b) D (oC B) (cP a)) own
  (G (Frame.enter PR 193 #[.slice (some ⟨A,0,none⟩) n n,.func (.func 194) #[.pointer (some pl)] #[]] .normal) (caller::cl)) w:=by
 have hG:Go.cF.Good V.prog (o8 LF (λ_=>false) (xR w A o)):=Bw WU (by decide);have d:vM (o8 LF (λ_=>false) (xR w A o)) w w own rd:=HW hA ho hl u O hn hc ha;have f:=EO a B hl ha;have E:eT (o8 LF (λ_=>false) (xR w A o)) #[.tuple #[]] #[.pointer (some pl)]:=eT.one (.CB rfl pl);have F:eT (o8 LF (λ_=>false) (xR w A o)) #[] #[]:=eT.nil
 have H:eT (o8 LF (λ_=>false) (xR w A o)) #[.slice (some ⟨A,0,none⟩) n n,.func (.func 194) #[.tuple #[]] #[]] #[.slice (some ⟨A,0,none⟩) n n,.func (.func 194) #[.pointer (some pl)] #[]]:=
  eT.L9 (.slice _ _ (.mk _ _ ⟨rfl,.inl rfl⟩)) (.func rfl E.size E.at_ F.size F.at_)
 have hS:(o8 LF (λ_=>false) (xR w A o)).S 193=true:=by show LF.contains 193=true;decide
 have t:Go.cF.Reach V.prog (Go.cF.Left V.prog 193 (HX w A o (cP a))) ⟨Frame.enter V.prog 193 #[.slice (some ⟨A,0,none⟩) n n,.func (.func 194) #[.tuple #[]] #[]] .normal,[floor],w⟩:=by
  refine qT (λx D T h=>h) (qY hG (λ_=>rfl) hS H d) λT hT=>?_;have I:A<w.heap.size:=lt_of_heap u;subst hn;refine(J5 (.tuple #[]) A a (cI w T) C I λj hj=>?_).mono ?_;obtain⟨c0,c1,c2,c3⟩:=hc j hj;have e:∀k v,cs[k]? =some v->(cI w T).cell? ⟨A,k,none⟩=some v:=λk v h=>by show(match w.heap[A]? with|some (.cells cs _ _)=>_|_=>_)=_;rw[u];exact h
  rw[show j*4=4*j by omega];exact⟨e _ _ c0,e _ _ c1,e _ _ c2,e _ _ c3⟩;rintro e D ⟨rfl,Q⟩;refine⟨_,rfl,rfl,λb N=>Q.block b ?_⟩;show b<w.heap.size;rcases N with rfl|⟨_,_,_,_,_,hw⟩;exact I;exact lt_of_heap hw
 have c:=IR (U:=λ_=>True) (λ_ _ _ _ _ _=>trivial) (ty:=241) (Wg:=Wg) (main:=true) (caller:=caller) (cs:=cl) (own:=own) (rd:=rd) hG (λ_=>rfl) hS V.func193 (R:=HX w A o (cP a)) (λx D T h=>h) H t d;have c:Wy PR 241 Wg true rd (Out (λ_=>True) (HX w A o (cP a)) rd (o8 LF (λ_=>false) (xR w A o)) caller cl) own (G (Frame.enter PR 193 #[.slice (some ⟨A,0,none⟩) n n,.func (.func 194) #[.pointer (some pl)] #[]] .normal) (caller::cl)) w:=by have e:V.prog.ir (o8 LF (λ_=>false) (xR w A o)).fs=PR:=PZ;rw[e]at c;exact c
 refine(Wy.Ru c).bind λP g D h=>nX λw1 hr=>?_;obtain⟨⟨ρ,x,x',v,rfl,⟨hx,p⟩,hv,z,W,_⟩,J⟩:=h;subst hx;have X:VR (o8 LF (λ_=>false) (xR w A o)) (.slice (cP a).sa (cP a).sl (cP a).sc) (.slice (cP a).sa (cP a).sl (cP a).sc):=f.slice λb Q=>⟨⟨rfl,.inr Q⟩,rfl⟩;obtain rfl:=VR.Qt z X hv;refine⟨rfl,J,?_⟩;have K:=W.rely hr;revert f;generalize cP a=y at p⊢;generalize oC B=s;intro f;cases s with
 |none=>exact f
 |some s=>
  obtain⟨l,m,k⟩:=s;obtain⟨q1,q2,q3,q4,Y|⟨Y,q,Z,q7,q8,aa,fz,q9,L⟩⟩:=f;exact⟨q1,q2,q3,q4,.inl Y⟩;have N:xR w A o q:=.inr ⟨Z,l,y.sc,fz,q9,L⟩;obtain⟨ob,ac,k1,k2,k3⟩:=K.heap.obj q q (z.r _ _ ⟨rfl,N⟩);replace k3:=k3.obj (by rw[<-z.g];rfl);rw[p q N,L]at k1;cases k1;cases k3 with
  | @cells _ ad _ _ ab kv kf=>
   have:=Jp (λi v h=>so h) kv;subst this;exact⟨q1,q2,q3,q4,.inr ⟨Y,q,⟨Z,J _ (ho _ Z)⟩,q7,q8,aa,ab,λM h=>q9 M (kf M h),k2⟩⟩
end Go.Proofs.W
variable{Z:cj}
namespace Go.Proofs.W
open Go.Conc Go.cF Go.cF.Cr Go.cF.Wg Go.RowKit Go.Conc.Lib Go.ConcR.Gen
open Go.ConcN Go.ConcN.Gen
open Go.ConcR (KK wgBlock WgAt stA smA mk DC0)
structure KL(pc rc A pb:Nat)(o own:Nat->Prop)(ss:List Sp)(ys:List SV)(cs:Array ce)(w:cd):Prop where
 p:w.cell? ⟨pc,0,none⟩=some (.pointer (some ⟨pb,0,none⟩))
 r:w.heap[rc]? =some (dO (cP []))
 a:w.heap[A]? =some (.cells cs 199)
 s:∀j (h:j<ys.length) (h':j<ss.length),cU o w ss[j] ys[j]
def cU.rely{own rd o:Nat->Prop}{L:cd->Prop}{s:Sp}{y:SV}(p:dG own rd L w t)(q:∀b,o b->own b)(h:cU o w s y):cU o t s y:=by
 cases s with
 |none=>exact h
 |some s=>
  obtain⟨l,m,k⟩:=s;obtain⟨f,g,i,j,a|⟨a,c,n,r,u,d,v,x,e⟩⟩:=h;exact⟨f,g,i,j,.inl a⟩;exact⟨f,g,i,j,.inr ⟨a,c,n,r,u,d,v,x,p.obj (.inl (q _ n)) e⟩⟩
def cU.mono{s:Sp}{y:SV}(n:∀b,A b->B b)(h:cU A w s y):cU B w s y:=by
 cases s with
 |none=>exact h
 |some s=>
  obtain⟨l,m,k⟩:=s;obtain⟨f,g,i,j,a|⟨a,c,o,p,q,d,r,t,e⟩⟩:=h;exact⟨f,g,i,j,.inl a⟩;exact⟨f,g,i,j,.inr ⟨a,c,n _ o,p,q,d,r,t,e⟩⟩
def cU.same{s:Sp}{y:SV}(o:∀b,A b->t.heap[b]? =w.heap[b]?)(h:cU A w s y):cU A t s y:=by
 cases s with
 |none=>exact h
 |some s=>
  obtain⟨l,m,k⟩:=s;obtain⟨f,g,i,j,a|⟨a,c,n,p,q,d,r,u,e⟩⟩:=h;exact⟨f,g,i,j,.inl a⟩;exact⟨f,g,i,j,.inr ⟨a,c,n,p,q,d,r,u,(o _ n).trans e⟩⟩
theorem KL.rely{f g A pb:Nat}{o own rd:Nat->Prop}{L:cd->Prop}{ss:List Sp}{ys:List SV}{cs:Array ce}(d:rd f)(e:own g)(i:own A)(k:∀b,o b->own b):nN own rd L (KL f g A pb o own ss ys cs):=λ_ _ c h=>
 ⟨c.cell (.inr d) h.p,c.obj (.inl e) h.r,c.obj (.inl i) h.a,λj d l=>(h.s j d l).rely c k⟩
def WV(o:Nat->Prop)(e:List Sp)(d:List SV)(a:Frame)(f:List Frame):gF:=λc g w=>g=G (a.finish (cP d).val) f/\cU (λb=>o b/\c b) w (oC e) (cP d)
def Wy.WW{rd X:Nat->Prop}{S:gF}(h:Wy P T m D (λb=>rd b\/X b) S A Z w):
 Wy P T m D rd (λo Z j=>∃q,S q Z j/\∀b,o b↔q b\/X b) (λb=>A b\/X b) Z w:=by
 obtain⟨B,h⟩:=h
 have g:∀{A:Nat->Prop} {w i:cd},dG (λb=>A b\/X b) rd (Lv T m) w i->dG A (λb=>rd b\/X b) (Lv T m) w i:=λc=>
  ⟨c.tape,c.os,c.output,c.size,λb k u=>c.heap b k (u.elim (λh=>.inl (.inl h)) λh=>h.elim .inr λh=>.inl (.inr h)),c.live⟩
 induction h with
 | @here _ A _ _ h=>exact nX λi c=>⟨A,h i (g c),λb=>l8⟩
 | @step _ A _ _ v x C y=>
  refine kF v λi c=>?_;obtain⟨s,j,t,f,e,d⟩:=x i (g c);refine⟨s,j,t,λb=>f b\/X b,e,⟨d.tape,d.os,d.output,d.size,λb=>?_,λb k l=>d.same b k λh=>l (.inl h),λe z=>?_⟩,y i s j t f (g c) e d⟩;constructor;rintro(h|h);exact((d.owns b).1 h).imp .inl id;exact .inl (.inr h);rintro((h|h)|h);exact .inl ((d.owns b).2 (.inl h));exact .inr h;exact .inl ((d.owns b).2 (.inr h));rcases d.evs e z with⟨a,n,rfl,h⟩|⟨r,n,rfl,h⟩|rfl;refine .inl ⟨a,n,rfl,?_⟩;rcases h with h|⟨h,p|p⟩|h;exact .inl (.inl h);exact .inr (.inl ⟨h,p⟩);exact .inl (.inr p);exact .inr (.inr h);exact .inr (.inl ⟨r,n,rfl,h.imp .inl id⟩);exact .inr (.inr rfl)
def KJ{e:rh}{m:J6}{Z d oc Wg Ch n pb A:Nat}{rd own o:Nat->Prop}{ss:List Sp}{ys:List SV}{cs:Array ce}{caller:Frame}{cl:List Frame}(K:e.x2=.pointer (some ⟨d,0,none⟩))(h1:rd Z)(M:own d)(hA:own A)(ho:∀b,o b->own b)(F:¬o d)(N:A≠d) (hl:ys.length=ss.length)(aa:cs.size=n*4)(hn:ys.length=n)(O:n<=65536) (I:∀j (h:j<ys.length),cs[4*j]? =some (.slice ys[j].sa ys[j].sl ys[j].sc)/\cs[4*j+1]? =some (.int .i64 ys[j].m)/\cs[4*j+2]? =some (.int .i64 ys[j].k)/\cs[4*j+3]? =some (.bool ys[j].b)) (x7 ab ac ad ae af ag ah ai:ce):WK PR 241 Wg true rd (WV o ss ys caller cl) own (KL Z d A pb o own ss ys cs) (IV e m Z oc Wg Ch n A x7 ab ac ad ae af ag ah ai (caller::cl)):=by
 have i:=KL.rely (pb:=pb) (ss:=ss) (ys:=ys) (cs:=cs) (L:=Lv 241 Wg) h1 M hA ho;simp only[IV,lj,Bx,yY];refine WK.val (v:=?_) i rfl rfl (by k_ne) (λw=>?_) (λw=>?_) ?_;rotate_left;go_simp;rfl;go_simp;walk_nrm;refine WK.ctl i rfl (λ_=>iH) ?_;refine WK.ctl i rfl (λ_=>iv) ?_;refine WK.ctl i rfl (λ_=>stepG_cond (t:=false) rfl) ?_;simp only[iq,eo];refine WK.ctl i rfl (λ_=>stepG_exit rfl) ?_;refine WK.ctl i rfl (λ_=>iv) ?_;refine WK.ctl i rfl (λ_=>jl) ?_;simp only[Br,iP,dW,fC,Nat.reduceAdd,cB,List.range,List.range.loop];refine WK.val (v:=?_) i rfl rfl (by k_ne) (λw=>?_) (λw=>?_) ?_;rotate_left;go_simp;rfl;go_simp;walk_nrm;refine WK.load (v:=.pointer (some ⟨pb,0,none⟩)) i rfl rfl (by k_ne) (λw q=>?_) (λw q e z=>?_) ?_;have I:=(λw q=>q.p) w q;go_simp;have I:=(λw q=>q.p) w q;simp[go_sem,I]at z;exact .inl ⟨_,_,z,.inr (.inl ⟨rfl,h1⟩)⟩;walk_nrm;refine WK.val (v:=?_) i rfl rfl (by k_ne) (λw=>?_) (λw=>?_) ?_;rotate_left;go_simp;rfl;go_simp;walk_nrm;refine WK.enter (f:=193) (fn:=Tryz.f193) i rfl rfl (by k_ne) rfl Tryz.func193 rfl rfl ?_;simp only[List.map_toArray,jP,qK];intro w q;have P:own=λb=>(own b/\b≠d)\/b=d:=funext λb=>propext ⟨λh=>(Classical.em (b=d)).elim .inr λh'=>.inl ⟨h,h'⟩,λh=>h.elim (·.1) λe=>e▸M⟩
 have H:∀T,Wy PR 241 Wg true rd (λU g V=>∃J:Nat->Prop,((g=G (T.finish (cP ys).val) (caller::cl)/\(∀b,(own b/\b≠d)->J b)/\cU (λb=>o b/\J b) V (oC ss) (cP ys))/\∀b,b=d->V.heap[b]? =w.heap[b]?)/\∀b,U b↔J b\/b=d) own
  (G (Frame.enter PR 193 #[.slice (some ⟨A,0,none⟩) n n,.func (.func 194) #[.pointer (some ⟨pb,0,none⟩)] #[]] .normal) (T::caller::cl)) w:=λT=>by
  have:=Wy.WW (X:=λb=>b=d) (rd:=rd) (Wy.keep (B:=λb=>b=d) (λb C=>by subst C;exact⟨.inr rfl,λh=>h.2 rfl,lt_of_heap q.r⟩) (N6 (rd:=λb=>rd b\/b=d) (own:=λb=>own b/\b≠d) (Wg:=Wg) (A:=A) (n:=n) (pl:=⟨pb,0,none⟩) ⟨hA,N⟩ (λb C=>⟨ho b C,λe=>F (e▸C)⟩) hl q.a aa hn O I q.s (cl:=caller::cl) (caller:=T)));exact(λ(X:Nat->Prop) (e:X=λb=>(own b/\b≠d)\/b=d)=>by rw[e];exact this:∀X:Nat->Prop,(X=λb=>(own b/\b≠d)\/b=d)->Wy PR 241 Wg true rd _ X _ w) own P
 refine(H _).bind ?_;rintro U g w1 ⟨J,⟨⟨rfl,ak,E⟩,Q⟩,y⟩;rw[Frame.finish_at];have aj:w1.heap[d]? =some (dO (cP [])):=(Q d rfl).trans q.r
 have u:∀s,nN U rd (Lv 241 Wg) λw=>w.heap[d]? =some (dO s)/\cU (λb=>o b/\J b) w (oC ss) (cP ys):=λs w w1 Y h=>
  ⟨Y.obj (.inl ((y d).2 (.inr rfl))) h.1,h.2.rely Y λb C=>(y b).2 (.inl C.2)⟩
 refine WK.write (bl:=d) (W:=λw V=>V.heap[d]? =some (dO (cP ys))) (u (cP [])) rfl rfl (by k_ne) ((y d).2 (.inr rfl)) (λw q=>?_) (λw q e z=>?_) ?_ w1 ⟨aj,E⟩;obtain⟨c0,c1,c2,c3,f0,f1,f2,f3⟩:=dM q.1;have hp:=jZ (s:=cP ys) q.1;refine⟨gY w d (cP ys),?_,rfl,rfl,rfl,pH _ _ _,λc I=>oZ _ _ _ I,hp⟩;simp only[SV.val,gY];go_simp;obtain⟨c0,c1,c2,c3,f0,f1,f2,f3⟩:=dM q.1;simp only[SV.val]at z;have D:∀(w:cd) (D:Array Event) (a:Addr) (m:Mode) (x:Option Addr) (l c:Nat),(store a (.slice x l c) m).events PR w D=storedEv PR w D a (.slice x l c) m:=λw D a m x l c=>events_store PR w D a _ m rfl;have eb:∀(w:cd) (D:Array Event) (a:Addr) (m:Mode) (x:Bool),(store a (.bool x) m).events PR w D=storedEv PR w D a (.bool x) m:=λw D a m x=>events_store PR w D a _ m rfl;simp[go_sem,D,eb,K,c0,c1,c2,c3,f0,f1,f2,f3]at z;have R:U d:=(y d).2 (.inr rfl);rcases z with z|z|z|z<;>exact .inl ⟨_,_,z,.inl R⟩;refine WK.mono (K':=λw=>w.heap[d]? =some (dO (cP ys))/\cU (λb=>o b/\J b) w (oC ss) (cP ys)) ?_ ?_;rotate_left;rintro w ⟨w2,w3,q,hW,hs,S,Y⟩;refine u _ _ _ Y ⟨hW,q.2.same λb C=>S b λe=>F (e▸C.1)⟩;walk_nrm;refine WK.ctl (u _) rfl (λ_=>iH) ?_;refine MW (u _) (λw h=>h.1) ((y d).2 (.inr rfl)) (by simp[K]) rfl ?_;refine WK.stop (u _) λw h=>⟨rfl,h.2.mono λb C=>⟨C.1,(y b).2 (.inl C.2)⟩⟩
end Go.Proofs.W
variable{S:cd->Prop}
namespace Go.Proofs.W
open Go.Conc Go.cF Go.cF.Cr Go.cF.Wg Go.RowKit Go.Conc.Lib Go.ConcR.Gen
open Go.ConcN Go.ConcN.Gen
open Go.ConcR (KK wgBlock WgAt stA smA mk DC0)
def Qu(e:rh)(b c d f h n:Nat)(i:Nat->Prop)(Q:cd->Prop)(j:Nat->(Nat->Prop)->cd->ce->Prop)(k:List Frame):gF:=λa g w=>∃m A,Uy e m b c d f A h n i Q j k a g w
def HY{e:rh}{H:Nat->(Nat->Prop)->cd->ce->Prop}{I:List Frame}(R:p<=65536)(M:A k)(J:A i)(N:ri A S)(T:y8 H) (O f l n q r t u y z B C D E F:ce):
 WK PR 241 j true A (nV PR 241 j o p A (EG H) (Qu e k i j o s p A S H I) rj p (λ_=>false)) (λx=>cC x\/x=d) (KA k i j o d s A S (·=madeCells lY.cells (p*4)))
  (G (jV.at (yY e k i j p O (.slice (some ⟨d,0,none⟩) p p) undef f l n q r t u y z B C D E F (.slice (some ⟨d,0,none⟩) p p) undef undef undef undef undef undef undef undef undef undef) [.code (nk.seq kG)]) I):=by
 have a:nN (λx=>cC x\/x=d) A (Lv 241 j) (KA k i j o d s A S (·=madeCells lY.cells (p*4))):=KA.rely M J (.inr rfl) N;refine WK.ctl a rfl (λ_=>iv) ?_;unfold nk;refine WK.ctl a rfl (λ_=>iv) ?_;refine WK.ctl a rfl (λ_=>jl) ?_;simp only[vQ,yY,iP,dW,fC,Nat.reduceAdd,cB,List.range,List.range.loop];refine WK.load (v:=.chan (some o)) a rfl rfl (by k_ne) (λw b=>?_) (λw b e P=>?_) ?_;have Q:=(λw b=>b.s.k.o) w b;go_simp;have Q:=(λw b=>b.s.k.o) w b;simp[go_sem,Q]at P;exact .inl ⟨_,_,P,.inr (.inl ⟨rfl,J⟩)⟩;walk_nrm;refine WK.ctl a rfl (λ_=>iH) ?_;refine WK.ctl a rfl (λ_=>GI) ?_;refine WK.ctl a rfl (λ_=>stepG_loop) ?_;refine WK.mono (K':=KR k i j o d s p A S H (λx=>cC x\/x=d) (λ_=>false)) ?_ ?_
 exact hears (e:=e) (m:=⟨O,f,l,n,q,r,t,u,y,z,B,C,D,E,F,.slice (some ⟨d,0,none⟩) p p⟩) (λU g w h=>⟨_,d,h⟩) R M J N T p (λ_=>false) _ undef undef undef undef undef undef undef undef undef undef (by
  have:rl (λ_=>false) p=0:=by
   have:∀c,rl (λ_=>false) c=0:=λc=>by
    induction c with
    |zero=>rfl
    |succ c V=>
     have:rl (λ_=>false) (c+1)=rl (λ_=>false) c+0:=rfl;rw[this,V]
   exact this p
  omega)
 rintro w ⟨W,⟨I,X,rfl⟩,K,L⟩;exact⟨W,⟨_,X,size_madeCells _ _,λY _ h=>by cases h⟩,.inr rfl,K,L⟩
def Dl{e:rh}{m o c Ch n p L C O:Nat}{Q:cd->Prop}{rd:Nat->Prop}{Pv:Nat->(Nat->Prop)->cd->ce->Prop}{cs:List Frame}(y:n<=65536)(t:rd m)(u:rd o)(q:¬rd c)(v:ri rd Q)(P:y8 Pv)(R:0<L) (S:∀w,Q w->MP p h L C a n O w)(B:rd p)(D:rd h.block)
 (d:∀i E w,i<n->KW m E o c Ch ⟨p,0,none⟩ i (λw=>Q w/\∀b,rd b->b<w.heap.size) w->Wy PR 241 c false (λb=>rd b\/b=E) (Sends PR 241 c Ch (EG Pv) i) cC (born PR (call188 m E o c)) w):
 WK PR 241 c true rd (Sr c Ch n rd (EG Pv) (Qu e m o c Ch p n rd Q Pv cs) n) cC (KS m o c Ch ⟨p,0,none⟩ rd Q) (G (jV.at (mn e m o c n 0 undef undef undef undef undef undef) [.code fu,.inLoop fu,.inBlock 0,.code it]) cs):=by
 have T:=SX (e:=e) (cs:=cs) (pl:=⟨p,0,none⟩) (Q:=Q) (val:=EG Pv) (End:=Qu e m o c Ch p n rd Q Pv cs) (Nat.lt_of_le_of_lt y (by decide)) t u q v d (λx f g j k l=>
  ED (z:=rj) t u q v (λx r f g j k l s=>Hd y t u v R S B D x r f g j k l s λA F H I J K M N=>HY y t u v P x r f g j k l s F H I J K M N) x f g j k l) n (cz _) undef undef undef undef undef undef
 rwa[lf]at T
def zT(a:cd)(B:Nat->Prop)(w:cd):Prop:=∀b,B b->w.heap[b]? =a.heap[b]?
def N7(h:∀b,B b->A b):ri A (zT w B):=λ_ _ c d b a=>(c b (h b a)).trans (d b a)
def wu{w0:cd}{B rd:Nat->Prop}(h:∀b,B b->rd b)(c:∀b,B b->b<w0.heap.size):xH rd (zT w0 B):=λw i _ g e b a=>by have d:=c b a;have f:=e b a;rw[ji d]at f;exact(g b (lt_of_heap f) (h b a)).trans (e b a)
def EM.same{f:Option Addr}(b:B m)(c:B h.block)(d:EM m a k i h j o f p s t)(w:cd)(e:zT t B w):EM m a k i h j o f p s w:=
 ⟨(fY (e m b)).trans d.f1,(fY (e m b)).trans d.ls.f2,(fY (e _ c)).trans d.ls.l0⟩
def KM(a:Nat->Sp)(j:Nat)(b:Nat->Prop)(w:cd)(v:ce):Prop:=∃y:SV,v=y.val/\cU b w (a j) y
def N8(a:Nat->Sp):y8 (KM a):=λ_ _ _ _ _ b ⟨y,c,d⟩=>⟨y,c,d.same b⟩
def Tt(b:Nat->Sp)(j:Nat)(o:Nat->Prop)(w:cd)(v:ce):Prop:=∃a:Nat->Prop,(∀x,a x->o x/\x<w.heap.size)/\KM b j a w v
theorem Jq{a:Type}(P:Nat->a->Prop):∀n,(∀j,j<n->∃y,P j y)->∃l:List a,l.length=n/\∀j (h:j<l.length),P j l[j]
 |0,_=>⟨[],rfl,λj h=>by cases h⟩
 |n+1,h=>by
  obtain⟨l,b,d⟩:=Jq P n λj c=>h j (by omega);obtain⟨y,e⟩:=h n (by omega);refine⟨l++[y],by simp[b],λj c=>?_⟩;rw[List.getElem_append];split;exact d j _;have:j=n:=by simp at c;omega
  subst this;simpa[b]using e
def HZ(c:cd)(B:Nat->Prop)(d n:Nat)(e:Nat->Sp):Prop:=∀(a:Nat->Prop) (f i:Nat),i<n->(∀b,B b->a b)->Rs a f ⟨d,0,none⟩ i (zT c B) (Tt e i)
def KN{X B:Nat->Prop}{gs:Array cj}{sl:Option (Nat×Nat)}{t:Trace}{q:Nat->Nat}{pb on oc1 L C n c0:Nat}{oa a0:Option Addr}{la:Addr}{M:Nat->Sp}{caller:Frame}{cl:List Frame} (O:∀b,B b->b<w.heap.size/\¬X b)(aA:0<on)(hL:0<L)(aa:EM pb oa on oc1 la L C a0 n c0 w)(P:B pb)(R:B la.block)(hn:n<=65536)(W:HZ w B pb n M) (f:EH PR X gs (G (Frame.enter PR 163 #[.pointer (some ⟨pb,0,none⟩)] .normal) (caller::cl)) w t q):∃(N:Nat) (ab:Array cj) (H:cd) (aB:Option (Nat×Nat)) (t':Trace) (q':Nat->Nat) (X' o:Nat->Prop) (y:SV),runNT PR N (crowd gs w sl) t=(.next (crowd ab H aB),t')/\EH PR X' ab (G (caller.finish y.val) cl) H t' q'/\(H.tape=w.tape/\H.os=w.os/\H.output=w.output)/\w.heap.size<=H.heap.size/\(∀b,b<w.heap.size->H.heap[b]? =w.heap[b]?)/\cU o H (oC ((List.range n).map M)) y/\(∀b,o b->w.heap.size<=b/\b<H.heap.size/\¬X' b)/\∀b,X' b->X b\/w.heap.size<=b:=by
 have ac:∀(Wg:Nat) (w:cd) (d:Nat),Lv 241 Wg w->Lv 241 Wg (w.at d):=λ_ _ _ h=>h;have ad:xH B (zT w B):=wu (λ_ h=>h) λb f=>(O b f).1;obtain⟨τ,h1⟩:=MV (cs:=caller::cl) ad aA hL (λU hq=>aa.same P R U hq) P R (λb f=>(O b f).1) w ⟨(λx I=>by cases I),List.Pairwise.nil,(λx I=>by cases I),cz _,λ_ _=>rfl⟩;obtain⟨N1,aT,U,aD,t1,q1,aR,a1,r1,b1,⟨e,J,rc,oc,Wg,Ch,c,rfl,aE,F,aS⟩,u,aU⟩:=tz (ac 0) (λo g w h=>by obtain⟨_,_,_,_,_,_,_,rfl,_⟩:=h;rfl) h1 gs sl t q f λb f=>by rcases f with f|f;exact f.elim;exact⟨(O b f).2,(O b f).1⟩
 have aW:=F.at_ (Wg,wgBlock 241 0 0) (by simp);have ao:=F.at_ (oc,Obj.cells #[.chan (some Ch)] 232) (by simp);have aC:=F.at_ (Ch,Obj.chan 0 #[] false c c false) (by simp);have ar:=F.at_ (rc,Obj.cells #[.slice none 0 0,.int .i64 0,.int .i64 0,.bool false] 199) (by simp);have ap:=F.at_ (J,Obj.cells #[.pointer (some ⟨pb,0,none⟩)] 200) (by simp);have lW:=F.lo (Wg,wgBlock 241 0 0) (by simp);have lo:=F.lo (oc,Obj.cells #[.chan (some Ch)] 232) (by simp);have lC:=F.lo (Ch,Obj.chan 0 #[] false c c false) (by simp);have lr:=F.lo (rc,Obj.cells #[.slice none 0 0,.int .i64 0,.int .i64 0,.bool false] 199) (by simp);have lp:=F.lo (J,Obj.cells #[.pointer (some ⟨pb,0,none⟩)] 200) (by simp);have V:=F.inc;simp only[jP,qK,List.pairwise_cons,eQ,sN,ou,forall_eq_or_imp,forall_eq]at V;obtain⟨⟨i1,i2,i3,i4⟩,⟨i5,i6,i7⟩,⟨i8,i9⟩,aF,_⟩:=V;simp only at aW ao aC ar ap lW lo lC lr lp i1 i2 i3 i4 i5 i6 i7 i8 i9 aF;have r:∀b,X b->b<w.heap.size:=f.low;have ae:w.heap.size<=U.heap.size:=u.size;have aG:¬(B Wg\/Wg=J\/Wg=oc):=by rintro(h|h|h);have:=(O _ h).1;omega;omega;omega
 have aH:=Dl (e:=e) (cs:=caller::cl) (Ch:=Ch) (rd:=λb=>B b\/b=J\/b=oc) (Pv:=KM M) hn (.inr (.inl rfl)) (.inr (.inr rfl)) aG (N7 λ_ h=>.inl h) (N8 M) hL (λU hq=>(aa.same P R U hq).ls) (.inl P) (.inl R)
  λi ic H hi hk=>worker (k:=i) (rd:=λb=>(B b\/b=J\/b=oc)\/b=ic) (Q:=zT w B) (Sc:=Tt M i) (val:=EG (KM M)) (.inl (.inr (.inl rfl))) (.inr rfl) (.inl (.inr (.inr rfl)))
   (wu (λ_ h=>.inl (.inl h)) λb f=>(O b f).1) (W _ Wg i hi λ_ h=>.inl (.inl h)) (λo w a l c m n s h=>by obtain⟨oj,h1,h2⟩:=h;exact⟨a,l,c,m,n,s,oj,rfl,h1,h2⟩) H ⟨hk.p,hk.i,hk.o,hk.live,hk.q.1⟩
 have hS:oz PR 241 Wg Ch n (λb=>B b\/b=J\/b=oc) (EG (KM M)) (Qu e J oc Wg Ch pb n (λb=>B b\/b=J\/b=oc) (zT w B) (KM M) (caller::cl)) n cC
  (G (jV.at (mn e J oc Wg n 0 undef undef undef undef undef undef) [.code fu,.inLoop fu,.inBlock 0,.code it]) (caller::cl)) U:=by
  rw[Bs];refine aH U ⟨⟨by simp[World.cell?,ap],by simp[World.cell?,ao],λb f=>?_,F.q⟩,⟨0,0,aW⟩⟩;rcases f with f|rfl|rfl;exact dl (O b f).1 ae;exact lt_of_heap ap;exact lt_of_heap ao
 obtain⟨N2,m2,t2,r2,af,w2,aI,a2,q2,z,rfl,aJ,⟨m,A,x7,ag,ah,ai,aj,ak,al,am,an,rfl,Y⟩,aK,aL,S,D,aq,K,au⟩:=phase (sl:=aD) (by omega) b1.at0 b1.leavers b1.past (λb f=>by rcases f with f|rfl|rfl;have:=(O b f).1;exact⟨by omega,(O b f).2,by omega,by omega⟩;exact⟨lt_of_heap ap,λI=>by have:=r _ I;omega,by omega,by omega⟩;exact⟨lt_of_heap ao,λI=>by have:=r _ I;omega,by omega,by omega⟩) (by omega:Wg≠Ch) (λI=>by have:=r _ I;omega) (λI=>by have:=r _ I;omega) aW aC hS;obtain⟨cs,hA,aM,av⟩:=Y.a
 obtain⟨ys,aw,hP⟩:=Jq (λj (y:SV)=>(cs[4*j]? =some (.slice y.sa y.sl y.sc)/\cs[4*j+1]? =some (.int .i64 y.m)/\cs[4*j+2]? =some (.int .i64 y.k)/\cs[4*j+3]? =some (.bool y.b))/\
  cU (λb=>z b/\b≠A) w2 (M j) y) n λj hj=>by
  obtain⟨sa,sl,sc,mm,k,b,oj,g1,g2,g3,g4,g5,y,hy,hs⟩:=av j hj rfl;obtain⟨ya,yl,yc,ym,yk,yb⟩:=y;simp only[nm,SV.val]at hy;injection hy with hy;simp at hy;obtain⟨⟨rfl,rfl,rfl⟩,rfl,rfl,rfl⟩:=hy;exact⟨_,⟨g2,g3,g4,g5⟩,hs.mono λb f=>⟨(g1 b f).1,(g1 b f).2.1⟩⟩
 have aN:rc<U.heap.size:=lt_of_heap ar;have ax:¬z rc:=λh=>by have:=(S _ h).1;omega
 have ay:=Y.oa
 have Z:=KJ (e:=e) (m:=m) (pb:=pb) (Ch:=Ch) (oc:=oc) (rd:=λb=>B b\/b=J\/b=oc) (own:=λb=>z b\/b=rc) (o:=λb=>z b/\b≠A) (ss:=(List.range n).map M) (ys:=ys) (cs:=cs) (caller:=caller) (cl:=cl) (Wg:=Wg) aE (.inr (.inl rfl)) (.inr rfl) (.inl ay)
  (λb f=>.inl f.1) (λh=>ax h.1) (λe=>ax (e▸ay)) (by simp[aw]) aM aw hn (λj hj=>(hP j hj).1) x7 ag ah ai aj ak al am an w2
  ⟨Y.s.k.p,(D rc aN (by omega) (by omega)).trans ar,hA,λj h1 h2=>by simpa using(hP j h1).2⟩
 obtain⟨aV,h3⟩:=Z;have b2:EH PR (λb=>b=Wg\/b=Ch\/X b) af (IV e m J oc Wg Ch n A x7 ag ah ai aj ak al am an (caller::cl)) w2 t2 q2:=⟨aJ,rfl,aK,aL,λb f=>by rcases f with rfl|rfl|f;exact au;have:=lt_of_heap aC;omega;have:=r b f;omega⟩;obtain⟨N3,aO,w3,aP,t3,q3,az,a3,r3,b3,⟨rfl,T⟩,v,aQ⟩:=tz (ac Wg) (λo g w h=>by obtain⟨rfl,_⟩:=h;rfl) h3 af aI t2 q2 b2 λb f=>by rcases f with(f|rfl)|f|rfl|rfl;have:=S b f;exact⟨by rintro(h|h|h);exact this.2.2.1 h;exact this.2.2.2 h;have:=r b h;omega,this.2.1⟩;exact⟨by rintro(h|h|h);omega;omega;have:=r _ h;omega,by omega⟩;have:=O b f;exact⟨by rintro(h|h|h);omega;omega;exact this.2 h,by omega⟩;have:=lt_of_heap ap;exact⟨by rintro(h|h|h);omega;omega;have:=r _ h;omega,by omega⟩;have:=lt_of_heap ao;exact⟨by rintro(h|h|h);omega;omega;have:=r _ h;omega,by omega⟩
 refine⟨N1+(N2+N3),aO,w3,aP,t3,q3,λb=>b=Wg\/b=Ch\/X b,λb=>(z b/\b≠A)/\az b,cP ys,Go.cF.runNT_add r1 (Go.cF.runNT_add r2 r3),b3,⟨v.tape.trans (K.1.trans u.tape),v.os.trans (K.2.1.trans u.os),v.output.trans (K.2.2.trans u.output)⟩,
  cJ ae (cJ aq v.size),λb E=>?_,T,λb E=>?_,λb E=>?_⟩
 rw[v.heap b (by omega) (by rintro(h|h);have:=(S b h).1;omega;omega),D b (by omega) (by omega) (by omega),u.heap b E (λh=>h.elim)];have h2:=S b E.1.1;have h3:=aQ b (.inl E.2);exact⟨by omega,h3.2,h3.1⟩;rcases E with rfl|rfl|h;exact .inr lW;exact .inr lC;exact .inl h
def N9(w:cd):(Instr.build 199 #[(3,.bool true)]).run PR w=.ok (.agg #[.slice none 0 0,.int .i64 0,.int .i64 0,.bool true]) w:=by kernel_rfl
def KP(w:cd):(Instr.build 199 #[(3,.bool true)]).events PR w #[]=#[]:=by kernel_rfl
def KQ{o B m0:Nat}{Q:cd->Prop}{rd:Nat->Prop}{caller:Frame}{cl:List Frame}(A:xH rd Q) (M:∀w,Q w->w.cell? ⟨o,1,none⟩=some (.slice a 0 B))(F:rd o)(H:∀b,rd b->b<m0):
 WK PR 241 0 true rd (λ_ g _=>g=G (caller.finish (SV.mk none 0 0 0 0 true).val) cl) cC (KO [] Q m0) (G (Frame.enter PR 163 #[.pointer (some ⟨o,0,none⟩)] .normal) (caller::cl)):=by
 rw[EN];have N:∀x∈([]:List (Nat×Obj)),cC x.1:=λx p=>by cases p
 have C:=KO.rely (Q:=Q) (m0:=m0) (rd:=rd) (own:=cC) (L:=Lv 241 0) N A;simp only[ux,P0];refine WK.ctl C rfl (λ_=>iv) ?_;refine WK.ctl C rfl (λ_=>jl) ?_;simp only[yU,iP,dW,fC,Nat.reduceAdd,cB,List.range,List.range.loop];refine WK.Hh (f:=λn=>.pointer (some ⟨n,0,none⟩)) (ob:=.cells #[.pointer (some ⟨o,0,none⟩)] 200) N A rfl rfl (by k_ne) (λw i=>?_) (λw i e j=>?_) λr _ _=>?_
 ·go_simp;first|done|rfl
 simp[go_sem]at j;walk_nrm;have Y:∀x∈[(r,Obj.cells #[.pointer (some ⟨o,0,none⟩)] 200)],(λx=>cC x\/x=r) x.1:=λx p=>by rw[fD.1 p];exact .inr rfl
 refine WK.Hh (f:=λn=>.pointer (some ⟨n,0,none⟩)) (ob:=.cells #[.slice none 0 0,.int .i64 0,.int .i64 0,.bool false] 199) Y A rfl rfl (by k_ne) (λw i=>?_) (λw i e j=>?_) λs _ _=>?_
 ·go_simp;first|done|rfl
 simp[go_sem]at j;walk_nrm;have O:∀x∈[(s,Obj.cells #[.slice none 0 0,.int .i64 0,.int .i64 0,.bool false] 199),(r,Obj.cells #[.pointer (some ⟨o,0,none⟩)] 200)],(λx=>(cC x\/x=r)\/x=s) x.1:=λx p=>by rcases eQ.1 p with rfl|p;exact .inr rfl;rw[fD.1 p];exact .inl (.inr rfl)
 have d:=KO.rely (m0:=m0) (L:=Lv 241 0) (own:=λx=>(cC x\/x=r)\/x=s) O A;have D:∀w,KO [(s,Obj.cells #[.slice none 0 0,.int .i64 0,.int .i64 0,.bool false] 199),(r,Obj.cells #[.pointer (some ⟨o,0,none⟩)] 200)] Q m0 w->w.cell? ⟨r,0,none⟩=some (.pointer (some ⟨o,0,none⟩)):=λw i=>by have:=i.at_ (r,Obj.cells #[.pointer (some ⟨o,0,none⟩)] 200) (by simp);simp[World.cell?,this]
 refine WK.ctl d rfl (λ_=>iH) ?_;refine WK.ctl d rfl (λ_=>iv) ?_;refine WK.ctl d rfl (λ_=>iv) ?_;refine WK.ctl d rfl (λ_=>jl) ?_;simp only[yV,iP,dW,fC,Nat.reduceAdd,cB,List.range,List.range.loop];refine WK.load (v:=.pointer (some ⟨o,0,none⟩)) d rfl rfl (by k_ne) (λw i=>?_) (λw i e j=>?_) ?_;have k:=(D) w i;go_simp;have k:=(D) w i;simp[go_sem,k]at j;exact .inl ⟨_,_,j,.inl (.inl (.inr rfl))⟩;walk_nrm;refine WK.val (v:=?_) d rfl rfl (by k_ne) (λw=>?_) (λw=>?_) ?_;rotate_left;go_simp;rfl;go_simp;walk_nrm;refine WK.val (v:=?_) d rfl rfl (by k_ne) (λw=>?_) (λw=>?_) ?_;rotate_left;go_simp;rfl;go_simp;walk_nrm;refine WK.load (v:=.slice a 0 B) d rfl rfl (by k_ne) (λw i=>?_) (λw i e j=>?_) ?_;have k:=(λw i=>M w i.q) w i;go_simp;have k:=(λw i=>M w i.q) w i;simp[go_sem,k]at j;exact .inl ⟨_,_,j,.inr (.inl ⟨rfl,F⟩)⟩;walk_nrm;refine WK.val (v:=?_) d rfl rfl (by k_ne) (λw=>?_) (λw=>?_) ?_;rotate_left;go_simp;rfl;go_simp;walk_nrm;refine WK.val (v:=.bool true) d rfl rfl (by k_ne) (λw=>?_) (λw=>?_) ?_;go_simp;simp[go_sem];walk_nrm;refine WK.ctl d rfl (λ_=>iH) ?_;refine WK.ctl d rfl (λ_=>stepG_cond (t:=true) rfl) ?_;simp only[cX];refine WK.ctl d rfl (λ_=>iv) ?_;refine WK.ctl d rfl (λ_=>jl) ?_;simp only[Ex,iP,dW,fC,Nat.reduceAdd,cB,List.range,List.range.loop];have I:=N9;have J:=KP;refine WK.val (v:=.agg #[.slice none 0 0,.int .i64 0,.int .i64 0,.bool true]) d rfl rfl (by k_ne) (λw=>?_) (λw=>?_) ?_
 ·go_simp;first|done|rfl|simp only[I]
 simp[go_sem,J];walk_nrm;refine WK.MU (pre:=[]) (ob:=dO (cP [])) (ob':=dO (SV.mk none 0 0 0 0 true)) O A (λb E K=>?_) rfl rfl (by k_ne) (λw i=>?_) (λw i e j=>?_) ?_
 ·have:=H b K;rcases E with(E|E)|E;exact E;all_goals omega
 have k:=i.at_ (s,dO (cP [])) (by simp);obtain⟨P,R,S,T,U,V,W,X⟩:=dM k;refine⟨gY w s ⟨none,0,0,0,0,true⟩,?_,rfl,rfl,rfl,pH _ _ _,λc k=>oZ _ _ _ k,jZ k⟩;simp only[gY];go_simp;have k:=i.at_ (s,dO (cP [])) (by simp);obtain⟨P,R,S,T,U,V,W,X⟩:=dM k;have u:∀(w:cd) (u:Array Event) (z:Addr) (m:Mode) (x:Option Addr) (l c:Nat),(store z (.slice x l c) m).events PR w u=storedEv PR w u z (.slice x l c) m:=λw u z m x l c=>events_store PR w u z _ m rfl;have Z:∀(w:cd) (u:Array Event) (z:Addr) (m:Mode) (x:Bool),(store z (.bool x) m).events PR w u=storedEv PR w u z (.bool x) m:=λw u z m x=>events_store PR w u z _ m rfl;simp[go_sem,u,Z,P,R,S,T,U,V,W,X]at j;rcases j with j|j|j|j<;>exact .inl ⟨_,_,j,.inl (.inr rfl)⟩;walk_nrm;have h3:∀x∈[(s,dO (SV.mk none 0 0 0 0 true)),(r,Obj.cells #[.pointer (some ⟨o,0,none⟩)] 200)],(λx=>(cC x\/x=r)\/x=s) x.1:=λx p=>by rcases eQ.1 p with rfl|p;exact .inr rfl;rw[fD.1 p];exact .inl (.inr rfl)
 have y:=KO.rely (m0:=m0) (L:=Lv 241 0) (own:=λx=>(cC x\/x=r)\/x=s) h3 A;refine WK.ctl y rfl (λ_=>iH) ?_;refine MW y (λw h=>h.at_ (s,dO (SV.mk none 0 0 0 0 true)) (by simp)) (.inr rfl) (by simp) rfl ?_;exact WK.stop y λw h=>rfl
def H0{l:Array cj}{sl:Option (Nat×Nat)}{t:Trace}{q:Nat->Nat}{caller:Frame}{cl:List Frame} (f:m<w.heap.size/\¬A m)(z:w.cell? ⟨m,1,none⟩=some (.slice a 0 k))(e:EH PR A l (G (Frame.enter PR 163 #[.pointer (some ⟨m,0,none⟩)] .normal) (caller::cl)) w t q):∃(N:Nat) (j:Array cj) (i:cd) (n:Option (Nat×Nat)) (u:Trace) (C:Nat->Nat),runNT PR N (crowd l w sl) t=(.next (crowd j i n),u)/\EH PR A j (G (caller.finish (SV.mk none 0 0 0 0 true).val) cl) i u C/\(i.tape=w.tape/\i.os=w.os/\i.output=w.output)/\w.heap.size<=i.heap.size/\(∀b,b<w.heap.size->i.heap[b]? =w.heap[b]?):=by
 obtain⟨M,D⟩:=KQ (caller:=caller) (cl:=cl) (wu (B:=λb=>b=m) (rd:=λb=>b=m) (w0:=w) (λ_ h=>h) λb e=>e▸f.1) (λv E=>(fY (E m rfl)).trans z) rfl (λb e=>e▸f.1) w ⟨(λx p=>by cases p),List.Pairwise.nil,(λx p=>by cases p),cz _,λ_ _=>rfl⟩;obtain⟨F,r,v,s,H,I,y,O,J,K,rfl,c,L⟩:=tz (λw d h=>h) (λo g w h=>by rw[h];rfl) D l sl t q e λb e=>by rcases e with e|rfl;exact e.elim;exact⟨f.2,f.1⟩
 exact⟨F,r,v,s,H,I,J,K,⟨c.tape,c.os,c.output⟩,c.size,λb e=>c.heap b e λh=>h.elim⟩
end Go.Proofs.W
namespace Go.cF
open Go.Conc
section
variable{P:cf}{fs:Array Func}{w0:cd}
def Eb.ends{Q:ce->cd->Prop}{Post:ce->cd->Prop}{c:pA}{s:Array cj}{w:cd}{sl:Option (Nat×Nat)}{t:Trace}{q:Nat->Nat} (h:Eb P fs w0 R A c s Z w t q)(hs:Left P K Q c.fr c.cl c.v){r:Func}{j:Tmp}(k:P.funcs[K]? =some r)(u:r.results=#[.tmp j])(z:R.hole K=false)(C:(P.ir fs).inits.idxOf? K=none) (f:∀x S d,Q x c.v->VR R x S->Post S (w.at d)):∃N last o E T,runNT (P.ir fs) (N+1) (crowd s w sl) t=(.ended o E,T)/\runN (P.ir fs) N (crowd s w sl)=.next last/\Go.step (P.ir fs) last=.ended o E/\Go.Conc.Good (P.ir fs) Post last o E T:=by
 obtain⟨h1,F,x,h3,H,h5,h6,ab,U,l⟩:=hs;rw[F,k]at U;obtain rfl:=cE U;have a:dC P R c.fr Z.frame:=by
  have e:=h.gor.fr;generalize a:(G c.fr c.cl).frame=fr at e;generalize V:Z.frame=b at e;cases e with
  |fr k=>subst a;exact k
  | @hole g hS hh xs ac W=>
   have:c.fr=Frame.enter P g xs .normal:=a;rw[this]at H;cases H
 obtain⟨b,ad,ae,af,ag⟩:=Z;obtain⟨I,ah,e1,J,hX⟩:=h.gor.callers;have X:=h.gor.st.2;have Y:=h.gor.dy.2;have e5:=h.gor.of.2;simp only at J X Y e5 a;have p:c.cl=I++[floor]:=e1;rw[h1]at p;have L:I=[]:=by
  cases I with
  |nil=>rfl
  |cons y ys=>simp at p
 subst L;cases hX;simp only[List.append_nil]at J;subst J X Y e5;have m2:b.mode=.returning:=by have i:=a.mode;rw[H]at i;generalize b.mode=m at i⊢;cases i;rfl
 have d2:b.defers=[]:=by have i:=a.defers;rw[h5]at i;generalize b.defers=m at i⊢;cases i;rfl
 have k2:b.kind=.normal:=a.kind▸h6;have f2:b.fn=K:=a.fn▸F;have g2:(P.ir fs).funcs[K]? =some r:=by obtain⟨ai,c2,j1,_,_,j4⟩:=h.good.two.fn K (F▸a.fnS.1);rw[j4 z]at k;rw[<-h.same];show R.fs[K]? =_;rw[j1,k]
 have r2:∀M,results r M=Pure.pure (M.getD j undef):=by intro M;simp[results,u]
 have W:x=c.fr.tmps.getD j undef:=by rw[r2]at l;simp only[Sem.run_pure]at l;injection l with l;exact l.symm
 have O:VR R x (b.tmps.getD j undef):=by rw[W];exact a.tmps.getD .undef j
 refine beside_ends (Shun:=nU A) (B:=w.heap.size) (D:=λ_ _ _=>False) (n:=0) (λ_ _ _ h=>h.elim) h.at0 h.leavers h.past ?_;rintro aa ⟨d,rfl⟩;refine⟨rfl,b.tmps.getD j undef,#[],?_,by simp,f x _ d h3 O⟩;simp[stepG,unwind,doReturn,m2,d2,k2,f2,g2,r2,C,mU,seen];rfl
end
end Go.cF
