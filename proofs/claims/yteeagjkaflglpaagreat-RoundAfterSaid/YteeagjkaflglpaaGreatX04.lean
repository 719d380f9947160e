/- Laws that the proof needs, part 4. Conditions: none. -/
import Derived.Test.YteeagjkaflglpaaGreatX03
set_option maxRecDepth 100000
set_option maxHeartbeats 8000000
set_option linter.all false
variable{a:Option Go.Addr}{H N:Go.Proofs.W.Gd}{I J:Int}{h:Go.Addr}
namespace Go.Proofs.W
open Go.RowKit
def Re:Obj->Bool
 | .map .. =>true
 |_=>false
structure jb(n0:Nat)(w w':dg):Prop where
 os:w'.os=w.os
 tape:w'.tape=w.tape
 output:w'.output=w.output
 size:w.heap.size<=w'.heap.size
 drawn:w.drawn<=w'.drawn
 block:∀b o,w.heap[b]? =some o->(b<n0\/Re o=false)->w'.heap[b]? =some o
section
variable{n0:Nat}{w w' w0 w1 w2:dg}
def jb.refl(n0:Nat)(w:dg):jb n0 w w:=⟨rfl,rfl,rfl,dC _,dC _,λ_ _ h _=>h⟩
theorem jb.trans{a b c:dg}(h:jb n0 a b)(k:jb n0 b c):jb n0 a c:=
 ⟨k.os.trans h.os,k.tape.trans h.tape,k.output.trans h.output,dS h.size k.size,dS h.drawn k.drawn,λx o e d=>k.block x o (h.block x o e d) d⟩
def Ext.hH(h:Ext w w')(n0:Nat):jb n0 w w':=⟨h.os,h.tape,h.output,h.size,h.drawn,λb o a _=>h.at_ a⟩
def jb.ext(h:jb n0 w w')(d:w.heap.size<=n0):Ext w w':=⟨h.os,h.tape,h.output,h.size,h.drawn,λb c=>by have a:w.heap[b]? =some w.heap[b]:=jp c;rw[a];exact h.block b _ a (.inl (by omega))⟩
def jb.from(h:jb n0 w w')(e:Ext w0 w)(a:w0.heap.size<=n0):Ext w0 w':=((e.hH n0).trans h).ext a
def jb.low{a:Nat}(h:jb n0 w w')(e:a<=n0):jb a w w':=⟨h.os,h.tape,h.output,h.size,h.drawn,λb o c d=>h.block b o c (d.imp (λh=>by omega) id)⟩
def jb.at_(h:jb n0 w w'){b:Nat}{a:Array di}{t:dn}{c:Nat×Nat}(d:w.heap[b]? =some (.cells a t c)):w'.heap[b]? =some (.cells a t c):=h.block b _ d (.inr rfl)
def jb.cell(b:jb n0 w w'){v:di}(a:w.cell? h=some v):w'.cell? h=some v:=by unfold World.cell? at a⊢;split at a;rename_i d t e c;rw[b.at_ c];exact a;cases a
def jb.dz{b:Nat}(h:jb n0 w w1)(k:dP (λx=>x=b) w1 w2)(e:w.heap.size<=b):jb n0 w w2:=
 ⟨k.os.trans h.os,k.tape.trans h.tape,k.output.trans h.output,dS h.size k.size,dS h.drawn k.drawn,λx o c d=>by have a:=dG.lt_of_heap c;exact(k.block x (eh a h.size) (by omega)).trans (h.block x o c d)⟩
def jb.iZ{c:Nat}{v:di}{t:dn}{e f:List di}{a:Nat}(h:jb n0 w w1)(k:dP (dw v) w1 w2)(g:dM c t e w1 v a f)(l:w.heap.size<=c):jb n0 w w2:=
 ⟨k.os.trans h.os,k.tape.trans h.tape,k.output.trans h.output,dS h.size k.size,dS h.drawn k.drawn,λx o d i=>by have b:=dG.lt_of_heap d;exact(k.block x (eh b h.size) λj=>by have:=(g.blk j).1;omega).trans (h.block x o d i)⟩
def iz.hH{l:List Int}(h:iz w a l)(e:jb n0 w w'):iz w' a l:=λk c=>by obtain⟨b,o,d,f⟩:=h k c;exact⟨b,o,d,e.cell f⟩
def iv.hH{l:List Dr}(h:iv w a l)(e:jb n0 w w'):iv w' a l:=λk c=>by obtain⟨b,o,d,f,g,i⟩:=h k c;exact⟨b,o,d,e.cell f,e.cell g,e.cell i⟩
def nJ.hH{a:Nat}{C:Nat->di}(h:nJ a C w)(e:jb n0 w w'):nJ a C w':=by obtain⟨b,c,d,f⟩:=h.out;exact⟨b,e.at_ c,d,f⟩
theorem oN.hH{gp mk ms:Nat}(h:oN gp mk ms H w)(e:jb n0 w w'):oN gp mk ms H w':=by obtain⟨a,b,c,d,f,g⟩:=h.at_;exact⟨⟨a,b,c,d.hH e,f.hH e,e.cell g⟩,h.ok,eh h.mlt e.size,eh h.slt e.size,h.ne,h.gk⟩
def gi.hH{l:List Nat}(h:gi w a l)(e:jb n0 w w'):gi w' a l:=λk c=>by obtain⟨b,o,d,f⟩:=h k c;exact⟨b,o,d,e.cell f⟩
def dM.hH{d:Nat}{t:dn}{f:List di}{v:di}{a:Nat}{g:List di}(h:dM d t f w v a g)(e:jb n0 w w'):dM d t f w' v a g:=by obtain⟨i,h|⟨b,c,j,k,l,m,n⟩⟩:=h;exact⟨i,.inl h⟩;exact⟨i,.inr ⟨b,c,j,k,l,e.at_ m,n⟩⟩
theorem wJ.hH{c:List (List Nat)}(h:wJ w a c)(e:jb n0 w w'):wJ w' a c:=λk d=>by obtain⟨b,o,f,g,i,j,l,m⟩:=h k d;exact⟨b,o,f,g,i,e.cell j,l.hH e,m⟩
theorem jr.hH{a:Nat}{v:di}{b:List (List Nat)}(h:jr a w v b)(e:jb n0 w w'):jr a w' v b:=by obtain⟨c,d,f,g⟩:=h;refine⟨c,d.hH e,f,λk i=>?_⟩;obtain⟨u,j,l⟩:=g k i;exact⟨u,j,dM.hH l e⟩
def tn.hH{c:List Sx}(h:tn w a c)(e:jb n0 w w'):tn w' a c:=λk d=>by obtain⟨b,o,f,g⟩:=h k d;exact⟨b,o,f,λj v i=>e.cell (g j v i)⟩
theorem lz.hH{wp gp mk ms:Nat}{a:List Sx}(h:lz wp gp mk ms H a I w)(e:jb n0 w w'):lz wp gp mk ms H a I w':=by obtain⟨b,c,d,f,i,j⟩:=h.at_;exact⟨h.g.hH e,h.len,h.bf,b,c,e.cell d,e.cell f,e.cell i,j.hH e⟩
def iu.hH{c:List di}(h:iu w a c)(e:jb n0 w w'):iu w' a c:=by rcases h with h|⟨b,o,d,f⟩;exact .inl h;exact .inr ⟨b,o,d,λj u g=>e.cell (f j u g)⟩
def nO.hH{a:Nat}{b:List Sx}(h:nO a b w)(e:jb n0 w w'):nO a b w':=by obtain⟨c,d,f⟩:=h.out;exact⟨c,e.at_ d,f⟩
end
structure lh(key:Nat->di)(R:Nat->di->dg->Prop)(r:Nat)(w:dg):Prop where
 out:∃es clock,w.heap[r]? =some (.map es clock)/\∀e∈es.toList,∃s,s<32/\e.key=key s/\R s e.val w
def lh.hH{key:Nat->di}{R:Nat->di->dg->Prop}{r n0:Nat}{w w':dg}(h:lh key R r w)(e:jb n0 w w')(c:∀s v,R s v w->R s v w')(a:w'.heap[r]? =w.heap[r]?):lh key R r w':=by obtain⟨d,b,f,g⟩:=h.out;exact⟨d,b,a.trans f,λx i=>by obtain⟨s,j,k,l⟩:=g x i;exact⟨s,j,k,c _ _ l⟩⟩
structure AE(kt:dn)(key:Nat->di):Prop where
 check:∀e s w,s<32->Sem.run V.prog (Instr.checkKey e 10000 kt (key s)) w=.ok () w
 find:∀s (es:List MapEntry),s<32->(∀e∈es,∃s',s'<32/\e.key=key s')->
  ∃o,(∀w,Sem.run V.prog (Instr.findKey kt (key s) es) w=.ok o w)/\(o=none\/∃j e,es[j]? =some e/\e.key=key s/\o=some (j,e.val))
 stays:∀s w,s<32->Sem.run V.prog (Instr.keyThatStays (key s) (key s)) w=.ok (key s) w
 inj:∀s s',s<32->s'<32->key s=key s'->s=s'
section
variable{w:dg}{k:di->dg->Prop}{kt et t:dn}{key:Nat->di}{R:Nat->di->dg->Prop}{r:Nat}
def tt{b:Array MapEntry}{a:Nat}(h:w.heap[r]? =some (.map b a)):Sem.run V.prog (getObj r) w=.ok (.map b a) w:=by simp[getObj,Sem.run,h]
def HI(K:AE kt key)(k:Tryz.prog.underlying t=some (.map kt et)){z:di}(l:∀w,Sem.run V.prog (zeroValue et) w=.ok z w)(h:lh key R r w){s:Nat}(c:s<32):∃a,((∃v,a=.tuple #[v,.bool true]/\R s v w)\/a=.tuple #[z,.bool false])/\∀w1,(∀o,w.heap[r]? =some o->w1.heap[r]? =some o)->Sem.run V.prog (Instr.lookup t (.map (some r)) (key s) true) w1=.ok a w1:=by
 obtain⟨m,d,n,b⟩:=h.out;obtain⟨o,q,u⟩:=K.find s m.toList c λe x=>by obtain⟨f,g,i,_⟩:=b e x;exact⟨f,g,i⟩
 refine⟨.tuple #[(o.map (·.2)).getD z,.bool o.isSome],?_,λw1 y=>?_⟩;rcases u with rfl|⟨j,e,A,B,rfl⟩;exact .inr rfl;obtain⟨f,g,i,C⟩:=b e (vD A);obtain rfl:=K.inj s f c g (B.symm.trans i);exact .inl ⟨_,rfl,C⟩;unfold Instr.lookup;simp only[Sem.run_bind,gY k,Result.andThen_ok,tt (y _ n),Sem.run_pure,K.check _ s w1 c,q];cases o with
 |none=>simp only[Sem.run_bind,l,Result.andThen_ok,Sem.run_pure,ei,Option.map_none,Option.getD_none,sM]
 |some p=>simp only[Sem.run_bind,Sem.run_pure,Result.andThen_ok,ei,kG,kF,Option.isSome_some]
def I9(K:AE kt key)(c:Tryz.prog.underlying t=some (.map kt et)){z:di}(d:∀w,Sem.run V.prog (zeroValue et) w=.ok z w)(h:lh key R r w){s:Nat}(e:s<32) (f:∀v,R s v w->k (.tuple #[v,.bool true]) w)(g:k (.tuple #[z,.bool false]) w):jB V.prog (Instr.lookup t (.map (some r)) (key s) true) w k:=by obtain⟨b,i,a⟩:=HI K c d h e;refine⟨b,w,a w λ_ h=>h,?_⟩;rcases i with⟨v,rfl,j⟩|rfl;exact f v j;exact g
def ut{B:dg->Prop}(K:AE kt key)(L:Tryz.prog.underlying t=some (.map kt et))(h:lh key R r w){s:Nat}(m:s<32){v:di}{n0:Nat}(hn:n0<=r) (N:∀w',jb n0 w w'->(∀s u,R s u w->R s u w')/\R s v w') (O:∀w',jb n0 w w'->(∀b,b≠r->w'.heap[b]? =w.heap[b]?)->lh key R r w'->B w'):Dt V.prog (Instr.mapUpdate t (.map (some r)) (key s) v) w B:=by
 obtain⟨g,c,n,p⟩:=h.out;have C:=dG.lt_of_heap n;have f:∀(a:Array MapEntry) (d:Nat),jb n0 w (w.putObj r (.map a d))/\(∀b,b≠r->(w.putObj r (.map a d)).heap[b]? =w.heap[b]?)/\(w.putObj r (.map a d)).heap[r]? =some (.map a d)/\Sem.run V.prog (setObj r (.map a d)) w=.ok () (w.putObj r (.map a d)):=λa d=>by refine⟨⟨rfl,rfl,rfl,by simp,dC _,λb o q k=>?_⟩,λb q=>World.putObj_heap_other q,World.putObj_heap_same C,by simp[setObj,Sem.run,n,World.putObj]⟩;by_cases e:b=r;subst e;rw[n]at q;obtain rfl:=dH q;rcases k with k|k;omega;cases k;exact(World.putObj_heap_other e).trans q
 have y:∀(a:Array MapEntry) (d:Nat),(∀e∈a.toList,e∈g.toList\/(e.key=key s/\e.val=v))->Sem.run V.prog (Instr.mapUpdate t (.map (some r)) (key s) v) w=.ok () (w.putObj r (.map a d))->Dt V.prog (Instr.mapUpdate t (.map (some r)) (key s) v) w B:=λa d l z=>by obtain⟨M,P,Q,_⟩:=f a d;obtain⟨S,T⟩:=N _ M;refine⟨_,z,O _ M P ⟨a,d,Q,λe U=>?_⟩⟩;rcases l e U with h|⟨W,X⟩;obtain⟨D,E,F,Y⟩:=p e h;exact⟨D,E,F,S _ _ Y⟩;exact⟨s,m,W,by rw[X];exact T⟩
 obtain⟨o,k,Z⟩:=K.find s g.toList m λe l=>by obtain⟨D,E,F,_⟩:=p e l;exact⟨D,E,F⟩
 rcases Z with rfl|⟨j,e,hj,A,rfl⟩;refine y (g.push {key:=key s,val:=v,born:=c}) (c+1) (λe l=>?_) ?_;simp only[Array.toList_push,j8,iQ]at l;rcases l with h|rfl;exact .inl h;exact .inr ⟨rfl,rfl⟩;unfold Instr.mapUpdate;simp only[Sem.run_bind,gY L,Result.andThen_ok,tt n,K.check _ s w m,k,(f _ _).2.2.2];refine y (g.modify j λe=>{e with key:=key s,val:=v}) c (λx G=>?_) ?_;obtain⟨i,hi,G⟩:=List.getElem_of_mem G;have H:i<g.size:=by simpa using hi
 have:(g.modify j λe=>{e with key:=key s,val:=v})[i]'(by simpa using H)=x:=by rw[<-G];exact(Array.getElem_toList _)
 rw[Array.getElem_modify]at this;split at this;subst this;exact .inr ⟨rfl,rfl⟩;subst this;exact .inl (by simp);have I:=K.stays s w m;have J:g[j]? =some e:=by simpa using hj
 unfold Instr.mapUpdate;simp only[Sem.run_bind,gY L,Result.andThen_ok,tt n,K.check _ s w m,k,J,kG,kF,A,I,(f _ _).2.2.2]
end
end Go.Proofs.W
namespace Go.Proofs.W
def rm(l:List Nat):Nat->List Nat->List Bool->List (List Nat)
 |0,b,_=>[b]
 |n+1,b,a=>(List.range l.length).flatMap λi=>if a.getD i false then []else rm l n (b++[l.getD i 0]) (a.set i true)
def xg(l:List Nat):List (List Nat):=rm l l.length [] (List.replicate l.length false)
def j7(G:Gd)(b:List Nat×Int)(a:List Nat):List Nat×Int:=if b.2<0\/Q9 G a<b.2 then(a,Q9 G a)else b
def kz(G:Gd)(rows:List (List Nat)):List Nat×Int:=rows.foldl (j7 G) ([],-1)
def eK(G:Gd)(s:Nat):List Nat:=(kz G (xg (fR s))).1
def qk(G:Gd)(s:Nat):Bool:=decide (nL G (eK G s)<=G.minutes)
def gd(G:Gd)(most:Nat):List Nat->List Nat->Option (List Nat)
 |[],a=>some a
 |d::r,a=>
  match(List.range a.length).findSome? λi=>if qk G (qi (a.getD i 0) d)then gd G most r (a.set i (qi (a.getD i 0) d))else none with
  |some b=>some b
  |none=>if a.length<most/\qk G (ja [d])=true then gd G most r (a++[ja [d]])else none
def hZ(G:Gd)(s:Nat):Option (List (List Nat)):=
 if s=0 then some []else((List.range (fR s).length).findSome? λm=>gd G (m+1) (fR s) []).map λa=>a.map (eK G)
end Go.Proofs.W
variable{x y z:di}
namespace Go.Proofs.W
open Go.RowKit
theorem L8:Tryz.prog.underlying 181=some (.map 154 27):=by kernel_rfl
theorem L9:Tryz.prog.underlying 180=some (.map 217 220):=by kernel_rfl
def Ja(s:Nat):di:=.int .u8 s
def oG(s:Nat):di:=.agg (pL s).toArray
theorem WL(a b c d i e f g h j:Bool)(w:dg):Sem.run V.prog (Op.equal 217 (.agg #[.bool a,.bool b,.bool c,.bool d,.bool i]) (.agg #[.bool e,.bool f,.bool g,.bool h,.bool j])) w=.ok (a==e&&(b==f&&(c==g&&(d==h&&i==j)))) w:=by
 by_cases k:a=e;subst k;by_cases l:b=f;subst l;by_cases m:c=g;subst m;by_cases n:d=h;subst n;cases a<;>cases b<;>cases c<;>cases d<;>cases i<;>cases j<;>kernel_rfl;cases a<;>cases b<;>cases c<;>cases d<;>cases h<;>first|exact absurd rfl n|kernel_rfl
 cases a<;>cases b<;>cases c<;>cases g<;>first|exact absurd rfl m|kernel_rfl
 cases a<;>cases b<;>cases f<;>first|exact absurd rfl l|kernel_rfl
 cases a<;>cases e<;>first|exact absurd rfl k|kernel_rfl
theorem Qg:∀s:Nat,s<32->∀a:Nat,a<32->(s.testBit 0==a.testBit 0&&(s.testBit 1==a.testBit 1&&(s.testBit 2==a.testBit 2&&(s.testBit 3==a.testBit 3&&s.testBit 4==a.testBit 4))))=decide (s=a):=by decide+kernel
theorem OU(s a:Nat)(c:s<32)(b:a<32)(w:dg):Sem.run V.prog (Op.equal 217 (oG s) (oG a)) w=.ok (decide (s=a)) w:=by rw[<-Qg s c a b];exact WL _ _ _ _ _ _ _ _ _ _ w
theorem Ma{s a:Nat}(c:s<32)(b:a<32)(h:oG s=oG a):s=a:=by have:=Qg s c a b;simp only[oG,pL,Value.agg.injEq]at h;have h:=dQ Array.toList h;simp only[pY,Value.bool.injEq,and_true]at h;obtain⟨d,e,f,g,i⟩:=h;rw[d,e,f,g,i]at this;simpa using this.symm
theorem BD:AE 154 Ja:=by
 have f:Tryz.prog.underlying 154=some (.int .u8):=by kernel_rfl
 have g:∀(s:Nat) (a:List MapEntry) (i:Nat),(∀e∈a,∃b,b<32/\e.key=Ja b)->Instr.findNow (.int .u8) (Ja s) a i=some none\/∃j e,a[j]? =some e/\e.key=Ja s/\Instr.findNow (.int .u8) (Ja s) a i=some (some (i+j,e.val)):=by
  intro s a;induction a with
  |nil=>intro i _;exact .inl rfl
  |cons e r q=>
   intro i h;obtain⟨b,_,n⟩:=h e iV;have t:Instr.sameNow (.int .u8) (Ja s) e.key=some ((s:Int)==(b:Int)):=by rw[n];rfl
   unfold Instr.findNow;rw[t];by_cases p:s=b;subst p;exact .inr ⟨0,e,rfl,n,by simp⟩;have:((s:Int)==(b:Int))=false:=by simpa using(λh:(s:Int)=b=>p (by omega))
   rw[this];rcases q (i+1) (λx u=>h x (iF _ u))with d|⟨j,x,d,k,l⟩;exact .inl d;exact .inr ⟨j+1,x,by simpa using d,k,by simp only[l];congr 3;omega⟩
 refine⟨λe s w _=>by kernel_rfl,λs a v m=>?_,λs w v=>?_,λs b _ _ h=>?_⟩;have c:∀o w,Instr.findNow (.int .u8) (Ja s) a 0=some o->Sem.run V.prog (Instr.findKey 154 (Ja s) a) w=.ok o w:=λo w y=>by unfold Instr.findKey;simp only[Sem.run_bind,gY f,Result.andThen_ok,y,Sem.run_pure]
 rcases g s a 0 m with h|⟨j,e,d,k,l⟩;exact⟨_,λw=>c _ w h,.inl rfl⟩;exact⟨_,λw=>c _ w l,.inr ⟨j,e,d,k,by rw[dB]⟩⟩;unfold Instr.keyThatStays;have:Instr.sameBits 10000 (Ja s) (Ja s)=true:=by simp[Ja,Instr.sameBits]
 rw[dr this,Sem.run_pure];simp only[Ja,Value.int.injEq,true_and]at h;omega
theorem Mb:AE 217 oG:=by
 have f:Tryz.prog.underlying 217=some (.array 5 4):=by kernel_rfl
 have n:∀(s:Nat) (a:List MapEntry) (i:Nat),s<32->(∀e∈a,∃b,b<32/\e.key=oG b)->∃o,(∀w,Sem.run V.prog (Instr.findAsking 217 (oG s) a i) w=.ok o w)/\(o=none\/∃j e,a[j]? =some e/\e.key=oG s/\o=some (i+j,e.val)):=by
  intro s a;induction a with
  |nil=>intro i _ _;exact⟨none,λw=>by simp[Instr.findAsking],.inl rfl⟩
  |cons e r z=>
   intro i c h;obtain⟨b,d,m⟩:=h e iV;have p:=λw=>OU s b c d w;rw[<-m]at p;by_cases g:s=b;subst g;exact⟨some (i,e.val),λw=>by unfold Instr.findAsking;simp only[Sem.run_bind,p,Result.andThen_ok,decide_true,ei,Sem.run_pure],.inr ⟨0,e,rfl,m,rfl⟩⟩
   have step:∀w,Sem.run V.prog (Instr.findAsking 217 (oG s) (e::r) i) w=Sem.run V.prog (Instr.findAsking 217 (oG s) r (i+1)) w:=λw=>by
    conv=>lhs;unfold Instr.findAsking
    simp only[Sem.run_bind,p,Result.andThen_ok,g,decide_false,iw,fp]
   obtain⟨o,q,t⟩:=z (i+1) c λx A=>h x (iF _ A);refine⟨o,λw=>(step w).trans (q w),t.imp (λh=>h) ?_⟩;rintro⟨j,x,u,v,y⟩;exact⟨j+1,x,by simpa using u,v,by rw[y];congr 2;omega⟩
 refine⟨λe s w _=>by kernel_rfl,λs a c k=>?_,λs w c=>?_,λs b c d h=>Ma c d h⟩;cases a with
 |nil=>exact⟨none,λw=>by unfold Instr.findKey;simp only[Sem.run_bind,gY f,Result.andThen_ok,Instr.findNow,Sem.run_pure],.inl rfl⟩
 |cons e r=>
  obtain⟨b,_,m⟩:=k e iV;have B:Instr.findNow (.array 5 4) (oG s) (e::r) 0=none:=by unfold Instr.findNow;rw[m];rfl
  have l:∀w,Sem.run V.prog (Instr.findKey 217 (oG s) (e::r)) w=Sem.run V.prog (Instr.findAsking 217 (oG s) (e::r)) w:=λw=>by unfold Instr.findKey;simp only[Sem.run_bind,gY f,Result.andThen_ok,B]
  obtain⟨o,q,t⟩:=n s (e::r) 0 c k;refine⟨o,λw=>(l w).trans (q w),t.imp (λh=>h) ?_⟩;rintro⟨j,x,u,v,y⟩;exact⟨j,x,u,v,by rw[y,dB]⟩
 unfold Instr.keyThatStays;have:Instr.sameBits 10000 (oG s) (oG s)=true:=by simp[oG,pL,Instr.sameBits]
 rw[dr this,Sem.run_pure]
def ig(A:Nat->Prop)(w:dg)(a:Option Addr)(l:List Nat):Prop:=∀k (h:k<l.length),∃b o,¬A b/\a=some ⟨b,o,none⟩/\w.cell? ⟨b,o+k,none⟩=some (.int .i64 l[k])
def lE(A:Nat->Prop)(w:dg)(a:Option Addr)(ls:List (List Nat)):Prop:=∀k (h:k<ls.length),∃b o c d,¬A b/\a=some ⟨b,o,none⟩/\w.cell? ⟨b,o+k,none⟩=some (.slice c ls[k].length d)/\ig A w c ls[k]/\ls[k].length<=d
theorem pi{w:dg}{b o:Nat}(h:w.cell? ⟨b,o,none⟩=some x):b<w.heap.size:=by refine xr λa=>?_;have:w.heap[b]? =none:=lY a;simp[World.cell?,this]at h
section
variable{A A':Nat->Prop}{w w':dg}{a:Option Addr}{l:List Nat}{ls:List (List Nat)}{n0:Nat}
theorem ig.n(h:ig A w a l):gi w a l:=λk c=>by obtain⟨b,o,_,d,e⟩:=h k c;exact⟨b,o,d,e⟩
theorem lE.rows(h:lE A w a ls):wJ w a ls:=λk c=>by obtain⟨b,o,d,e,_,f,g,i,j⟩:=h k c;exact⟨b,o,d,e,f,g,i.n,j⟩
theorem ig.go(h:ig A w a l)(e:∀b,A' b->A b\/w.heap.size<=b)(f:∀b o v,¬A b->w.cell? ⟨b,o,none⟩=some v->w'.cell? ⟨b,o,none⟩=some v):ig A' w' a l:=λk g=>by obtain⟨b,o,c,i,d⟩:=h k g;refine⟨b,o,λj=>?_,i,f _ _ _ c d⟩;have:=pi d;rcases e b j with h|h;exact c h;omega
theorem lE.go(h:lE A w a ls)(c:∀b,A' b->A b\/w.heap.size<=b)(d:∀b o v,¬A b->w.cell? ⟨b,o,none⟩=some v->w'.cell? ⟨b,o,none⟩=some v):lE A' w' a ls:=λk g=>by obtain⟨b,o,i,j,e,l,f,m,n⟩:=h k g;refine⟨b,o,i,j,λp=>?_,l,d _ _ _ e f,m.go c d,n⟩;have:=pi f;rcases c b p with h|h;exact e h;omega
theorem ig.hH(h:ig A w a l)(e:jb n0 w w'):ig A w' a l:=h.go (λ_ h=>.inl h) λ_ _ _ _ b=>e.cell b
theorem lE.hH(h:lE A w a ls)(e:jb n0 w w'):lE A w' a ls:=h.go (λ_ h=>.inl h) λ_ _ _ _ b=>e.cell b
theorem ig.more(h:ig A w a l)(c:∀b,A' b->A b\/w.heap.size<=b):ig A' w a l:=h.go c λ_ _ _ _ d=>d
theorem lE.more(h:lE A w a ls)(c:∀b,A' b->A b\/w.heap.size<=b):lE A' w a ls:=h.go c λ_ _ _ _ d=>d
theorem gQ.Rf{d:Nat}(h:gQ d w x l)(f:∀b,A b->b<d):∃a c,x=.slice a l.length c/\ig A w a l/\l.length<=c:=by obtain⟨o,⟨g,rfl⟩|⟨b,c,p,q,rfl,i,r,j,s,m,t⟩⟩:=h;exact⟨none,0,by rw[g],λk e=>by omega,by omega⟩;refine⟨_,c,rfl,λk e=>⟨b,0,λn=>by have:=f b n;omega,rfl,?_⟩,j⟩;refine dj i ?_;rw[dB,m k (by simp[jk];omega)];simp[jk,fI e]
end
def ShR(A:Nat->Prop)(G:Gd)(s:Nat)(v:di)(w:dg):Prop:=∃a c,v=.slice a (eK G s).length c/\ig A w a (eK G s)/\(eK G s).length<=c
def Jb(A:Nat->Prop)(o:Option (List (List Nat)))(v:di)(b:Bool)(w:dg):Prop:=match o with
 |none=>v=.slice none 0 0/\b=false
 |some ls=>b=true/\∃a c,v=.slice a ls.length c/\lE A w a ls/\ls.length<=c
def TR(A:Nat->Prop)(G:Gd)(s:Nat)(v:di)(w:dg):Prop:=∃u b,v=.agg #[u,.bool b]/\Jb A (hZ G s) u b w
structure kS(A:Nat->Prop)(mk ms:Nat)(G:Gd)(w:dg):Prop where
 s:lh Ja (ShR A G) ms w
 k:lh oG (TR A G) mk w
 ak:¬A mk
 asm:¬A ms
section
variable{A A':Nat->Prop}{w w' w1 w2:dg}{G:Gd}{mk ms n0:Nat}
theorem ShR.go{s:Nat}(h:ShR A G s x w)(d:∀b,A' b->A b\/w.heap.size<=b)(e:∀b o x,¬A b->w.cell? ⟨b,o,none⟩=some x->w'.cell? ⟨b,o,none⟩=some x):ShR A' G s x w':=by obtain⟨a,c,f,g,i⟩:=h;exact⟨a,c,f,g.go d e,i⟩
theorem Jb.go{o:Option (List (List Nat))}{b:Bool}(h:Jb A o x b w)(d:∀b,A' b->A b\/w.heap.size<=b)(e:∀b o x,¬A b->w.cell? ⟨b,o,none⟩=some x->w'.cell? ⟨b,o,none⟩=some x):Jb A' o x b w':=by
 cases o with
 |none=>exact h
 |some ls=>
  obtain⟨f,a,c,g,i,j⟩:=h;exact⟨f,a,c,g,i.go d e,j⟩
theorem TR.go{s:Nat}(h:TR A G s x w)(a:∀b,A' b->A b\/w.heap.size<=b)(c:∀b o x,¬A b->w.cell? ⟨b,o,none⟩=some x->w'.cell? ⟨b,o,none⟩=some x):TR A' G s x w':=by obtain⟨u,b,d,e⟩:=h;exact⟨u,b,d,e.go a c⟩
theorem lh.go{c:Nat->di}{R d:Nat->di->dg->Prop}{r:Nat}(h:lh c R r w)(e:∀s v,R s v w->d s v w')(a:∀o,w.heap[r]? =some o->w'.heap[r]? =some o):lh c d r w':=by obtain⟨f,b,g,i⟩:=h.out;exact⟨f,b,a _ g,λx j=>by obtain⟨s,k,l,m⟩:=i x j;exact⟨s,k,l,e _ _ m⟩⟩
theorem lh.lt{a:Nat->di}{R:Nat->di->dg->Prop}{r:Nat}(h:lh a R r w):r<w.heap.size:=by obtain⟨d,b,c,_⟩:=h.out;exact dG.lt_of_heap c
theorem kS.go(h:kS A mk ms G w)(d:∀b,A' b->A b\/w.heap.size<=b)(i:∀b o v,¬A b->w.cell? ⟨b,o,none⟩=some v->w'.cell? ⟨b,o,none⟩=some v)(a:∀b o,b=mk\/b=ms->w.heap[b]? =some o->w'.heap[b]? =some o):kS A' mk ms G w':=by have j:=h.k.lt;have ls:=h.s.lt;refine⟨h.s.go (λs v e=>e.go d i) λo f=>a _ _ (.inr rfl) f,h.k.go (λs v e=>e.go d i) λo f=>a _ _ (.inl rfl) f,λg=>?_,λg=>?_⟩;rcases d _ g with c|c;exact h.ak c;omega;rcases d _ g with c|c;exact h.asm c;omega
theorem kS.ext(h:kS A mk ms G w)(e:Ext w w'):kS A mk ms G w':=h.go (λ_ h=>.inl h) (λ_ _ _ _ a=>e.cell a) λb o _ c=>e.at_ c
theorem kS.more(h:kS A mk ms G w)(a:∀b,A' b->A b\/w.heap.size<=b):kS A' mk ms G w:=h.go a (λ_ _ _ _ c=>c) λ_ _ _ h=>h
theorem kS.keep{F:Nat->Prop}(h:kS A mk ms G w)(k:dP F w w')(c:∀b,F b->A b):kS A mk ms G w':=
 h.go (λ_ h=>.inl h) (λb o v d e=>k.fh e λa=>d (c b a)) λb o d f=>k.fU f λa=>by rcases d with rfl|rfl;exact h.ak (c _ a);exact h.asm (c _ a)
end
def MR(n0 mk ms:Nat)(G:Gd)(a b:dg):Prop:=jb n0 a b/\∀A:Nat->Prop,(∀x,A x->x<a.heap.size)->kS A mk ms G a->kS A mk ms G b
section
variable{n0 mk ms:Nat}{G:Gd}{a b c:dg}
theorem MR.refl(a:dg):MR n0 mk ms G a a:=⟨jb.refl _ _,λ_ _ h=>h⟩
theorem MR.trans(h:MR n0 mk ms G a b)(k:MR n0 mk ms G b c):MR n0 mk ms G a c:=⟨h.1.trans k.1,λA d e=>k.2 A (λx f=>eh (d x f) h.1.size) (h.2 A d e)⟩
theorem Ext.mr(h:Ext a b):MR n0 mk ms G a b:=⟨h.hH n0,λA _ c=>c.ext h⟩
theorem UE(n0 mk ms:Nat)(G:Gd):gq (MR n0 mk ms G):=⟨MR.refl,λ_ _ _=>MR.trans,λw=>(Ext.drew w).mr⟩
end
end Go.Proofs.W
variable{m k i j o p s d:Nat}{T U:dn}{O Q:Go.Obj}
namespace Go.Proofs.W
open Go.RowKit
section
variable{w:dg}{k:di->dg->Prop}
def Gc{a:List di}(g:ES T U a){l c:Nat}(j:l<=c)(m:c<=100000)(h:∀b d,Ext w b->w.heap.size<=d->b.heap[d]? =some (.cells (madeCells a.toArray (c*a.length)) U)->k (.slice (some ⟨d,0,none⟩) l c) b):jB V.prog (Instr.makeSlice T (.int .i64 l) (.int .i64 c)) w k:=by
 obtain⟨n,i,z,f,o,p,q,r,s⟩:=g
 have e:=run_make (P:=V.prog) w T U i z n f o .i64 .i64 (l:Int) (c:Int) (by omega) (by omega) (by
  have:i.bytes*c<=256*100000:=Nat.mul_le_mul r m;have f:((i.bytes:Int)*(c:Int))=((i.bytes*c:Nat):Int):=by simp
  omega) (by omega)
 simp only[oO]at e;rw[p,q]at e;exact⟨_,_,e,h _ w.heap.size (Ext.alloc _ _) (dC _) (fM _ _)⟩
def D5(z:di)(n:Nat):madeCells #[z] n=Array.replicate n z:=by apply Array.ext;simp[madeCells];intro i a b;simp[madeCells,Nat.mod_one]
def SU:ES 225 4 [.bool false]:=⟨by kernel_rfl,Tryz.t4,_,by kernel_rfl,rfl,by kernel_rfl,by kernel_rfl,by decide+kernel,by decide⟩
def HJ{e:dn}{z:di}{s:Array Bool}(t:ES T e [z]){d:Array di}(g:w.heap[m]? =some (.cells d e))(a:i+1<=j)(h:i<d.size){u:di}(y:w.cell? ⟨o,0,none⟩=some u)(A:u.oneCell'=true)
 (B:∀l,dP (λx=>x=m) w l->l.heap[m]? =some (.cells (d.setIfInBounds i u) e)->k (.slice (some ⟨m,0,none⟩) (i+1) j) l):Au V.prog (builtin .append #[T,T] U s #[.slice (some ⟨m,0,none⟩) i j,.slice (some ⟨o,0,none⟩) 1 p]) w k:=by
 obtain⟨n,r,E,C,F,G,c,H,I⟩:=t;have c:r.size=1:=c
 have q:=run_append_room_cells (P:=V.prog) w T U e r n C m 0 i j ⟨o,0,none⟩ 1 p [u] (by simp[c]) (λf v b=>by
  match f,b with
  |0,b=>cases b;rw[iK];exact y) (λv D=>by rcases iQ.1 D with rfl;exact A) a (λf b=>by
  have:f=0:=by simpa using b
  subst this;simp[World.cell?,g,c,h]) (λf b=>by simp[World.frozen?,g])
 rw[c]at q;simp only[dB,nk]at q;refine⟨_,w.setCells m i [u],?_,B _ (oF _ _ _ _ _ (dP.refl _ w)) (rf [u] w m i d e (0,0) g)⟩;unfold builtin;simp only[Sem.run_bind,q,Result.andThen_ok,Sem.run_pure]
end
structure E2(r u:Nat)(o1 TF o2 TG:Obj)(a b:dg):Prop where
 k:dP (λx=>x=r\/x=u) a b
 r1:a.heap[r]? =some TF->b.heap[r]? =some TF
 r0:a.heap[r]? =some o1->b.heap[r]? =some o1\/b.heap[r]? =some TF
 u1:a.heap[u]? =some TG->b.heap[u]? =some TG
 u0:a.heap[u]? =some o2->b.heap[u]? =some o2\/b.heap[u]? =some TG
def SW(r u:Nat)(f d g e:Obj):gq (E2 r u f d g e):=
 ⟨λw=>⟨dP.refl _ w,id,.inl,id,.inl⟩,λa b c h k=>⟨h.k.trans k.k (λ_ _ h=>h) λ_ _ h=>h,λx=>k.r1 (h.r1 x),λx=>by
  rcases h.r0 x with y|y;exact k.r0 y;exact .inr (k.r1 y),λx=>k.u1 (h.u1 x),λx=>by
  rcases h.u0 x with y|y;exact k.u0 y;exact .inr (k.u1 y)⟩,λw=>⟨(Ext.drew w).keep _,id,.inl,id,.inl⟩⟩
def E2.SY{d c:Obj}{a b:dg}(h:Ext a b):E2 m i O Q d c a b:=⟨h.keep _,λx=>h.at_ x,λx=>.inl (h.at_ x),λx=>h.at_ x,λx=>.inl (h.at_ x)⟩
def E2.cell{d c:Obj}{a b:dg}(e:E2 m i O Q d c a b){v:di}(f:a.cell? h=some v)(g:h.block≠m)(j:h.block≠i):b.cell? h=some v:=e.k.fh f (by omega)
def E2.t1{e d:Obj}{a b:dg}(k:dP (λx=>x=m) a b)(c:m≠i)(h:b.heap[m]? =some Q):E2 m i O Q e d a b:=
 ⟨k.trans (dP.refl (λ_=>False) b) (λ_ _ h=>.inl h) λ_ _ h=>h.elim,λ_=>h,λ_=>.inr h,λx=>k.fU x (gH c),λx=>.inl (k.fU x (gH c))⟩
def E2.t2{e c:Obj}{a b:dg}(k:dP (λx=>x=i) a b)(d:m≠i)(h:b.heap[i]? =some c):E2 m i O Q e c a b:=
 ⟨k.trans (dP.refl (λ_=>False) b) (λ_ _ h=>.inr h) λ_ _ h=>h.elim,λx=>k.fU x d,λx=>.inl (k.fU x d),λ_=>h,λ_=>.inr h⟩
section
variable{E:dg->dg->Prop}{w:dg}{kx:di->Prop}{kr kp kl:gW->Prop}{lb ea:Bool}
def vi{v:di}(b:gq E)(c:∀a,E w a->a.cell? h=some v)(k:kx v)(d:F0 T=some false:=by rfl):wX E E w (λa f=>jB V.prog (Instr.loadAt T (.pointer (some h))) a f) kx kr kp lb kl ea:=
 dx v (λa e=>dl (c a e) ⟨rfl,b.refl _⟩ d) k
end
end Go.Proofs.W
variable{w t e:dg}{A B C:Nat->Prop}{l f:List Nat}
namespace Go.Proofs.W
open Go.RowKit
structure zS where
 (rv lv yv uv gv rb ub lp:Nat)(la:Option Addr)(lc:Nat)
def dJ(b:Nat):di:=.pointer (some ⟨b,0,none⟩)
def zS.mR(e:zS):Array di:=#[dJ e.rv,dJ e.lv,dJ e.yv,dJ e.uv,dJ e.gv]
structure UF(e:zS):Prop where
 r:e.rv≠e.lv/\e.rv≠e.yv/\e.rv≠e.uv/\e.rv≠e.gv/\e.rv≠e.rb/\e.rv≠e.ub
 b:e.rb≠e.lv/\e.rb≠e.yv/\e.rb≠e.uv/\e.rb≠e.gv/\e.rb≠e.ub
 u:e.ub≠e.lv/\e.ub≠e.yv/\e.ub≠e.uv/\e.ub≠e.gv
 l:∀b o,e.la=some ⟨b,o,none⟩->b≠e.rv/\b≠e.rb/\b≠e.ub
def ju(a:List Bool):Obj:=.cells (a.map Value.bool).toArray 4
structure HK(e:zS)(l row:List Nat)(used:List Bool)(w:dg):Prop where
 rv:w.heap[e.rv]? =some (.cells #[.slice (some ⟨e.rb,0,none⟩) row.length l.length] 27)
 lv:w.cell? ⟨e.lv,0,none⟩=some (.slice e.la l.length e.lc)
 yv:w.cell? ⟨e.yv,0,none⟩=some (.func (.yield e.lp) #[] #[])
 uv:w.cell? ⟨e.uv,0,none⟩=some (.slice (some ⟨e.ub,0,none⟩) l.length l.length)
 gv:w.cell? ⟨e.gv,0,none⟩=some (.func (.func 197) #[] e.mR)
 rb:∃cs,w.heap[e.rb]? =some (.cells cs 3)/\cs.size=l.length/\∀j (h:j<row.length),cs[j]? =some (.int .i64 row[j])
 ub:w.heap[e.ub]? =some (ju used)
 ul:used.length=l.length
 row:gi w e.la l
def HK.keep{e:zS}{a:List Bool}(h:HK e l f a w)(k:dP A w t)(d:∀b,A b->b≠e.rv/\b≠e.lv/\b≠e.yv/\b≠e.uv/\b≠e.gv/\b≠e.rb/\b≠e.ub/\∀g o,e.la=some ⟨g,o,none⟩->b≠g):HK e l f a t:=by
 have n:∀b,(b=e.rv\/b=e.lv\/b=e.yv\/b=e.uv\/b=e.gv\/b=e.rb\/b=e.ub)->¬A b:=λb v c=>by have:=d b c;omega
 obtain⟨m,p,q,r⟩:=h.rb;refine⟨k.fU h.rv (n _ (.inl rfl)),k.fh h.lv (n _ (.inr (.inl rfl))),k.fh h.yv (n _ (.inr (.inr (.inl rfl)))),k.fh h.uv (n _ (by simp)),k.fh h.gv (n _ (by simp)),⟨m,k.fU p (n _ (by simp)),q,r⟩,k.fU h.ub (n _ (by simp)),h.ul,λi s=>?_⟩;obtain⟨b,o,j,u⟩:=h.row i s;exact⟨b,o,j,k.fh u λc=>(d _ c).2.2.2.2.2.2.2 _ _ j rfl⟩
def HK.Cw{e:zS}(g:UF e){c:List Nat}{d a:List Bool}(h:HK e l f d w)(k:dP (λx=>x=e.rv\/x=e.rb\/x=e.ub) w t)
 (p:t.heap[e.rv]? =some (.cells #[.slice (some ⟨e.rb,0,none⟩) c.length l.length] 27))(q:∃n,t.heap[e.rb]? =some (.cells n 3)/\n.size=l.length/\∀j (h:j<c.length),n[j]? =some (.int .i64 c[j]))(s:t.heap[e.ub]? =some (ju a))(v:a.length=l.length):HK e l c a t:=by
 obtain⟨B,C,D,E,F,G⟩:=g.r;obtain⟨H,I,J,K,L⟩:=g.b;obtain⟨M,N,O,P⟩:=g.u;refine⟨p,k.fh h.lv (by show¬(e.lv=_\/e.lv=_\/e.lv=_);omega),k.fh h.yv (by show¬(e.yv=_\/e.yv=_\/e.yv=_);omega),k.fh h.uv (by show¬(e.uv=_\/e.uv=_\/e.uv=_);omega),k.fh h.gv (by show¬(e.gv=_\/e.gv=_\/e.gv=_);omega),q,s,v,λi y=>?_⟩;obtain⟨m,z,o,A⟩:=h.row i y;have:=g.l _ _ o;exact⟨m,z,o,k.fh A (by show¬(m=_\/m=_\/m=_);omega)⟩
def Qh{a:zS}{c b:Obj}(d:E2 a.rb a.ub O Q c b w t)(f:dP (λx=>x=a.rv) t e):dP (λx=>x=a.rv\/x=a.rb\/x=a.ub) w e:=
 (d.k.trans f (λ_ _ h=>.inr h) λ_ _ h=>.inl h)
def vk(l:List Nat)(m:Nat)(b:List Nat)(a:List Bool)(k:Nat):List (List Nat):=(List.range k).flatMap λi=>if a.getD i false then []else rm l m (b++[l.getD i 0]) (a.set i true)
def vV(l:List Nat)(m:Nat)(b:List Nat)(a:List Bool)(k:Nat):vk l m b a (k+1)=vk l m b a k++if a.getD k false then []else rm l m (b++[l.getD k 0]) (a.set k true):=by unfold vk;rw[qv,List.flatMap_append];simp
def D8(e:zS)(l:List Nat)(Y:List (List Nat)->dg->Prop):Prop:=∀i b c w,b.length=l.length->(∀d∈b,d∈l)->HK e l b c w->Y i w->∃f g a h,Sem.run V.prog (Instr.yield e.lp #[.slice (some ⟨e.rb,0,none⟩) b.length l.length]) w=.ok (.round e.lp f g a h) w/\RoundIn Fence.wide 0 V.prog e.lp f g a h w λk j=>k=.returned (.bool true)/\HK e l b c j/\Y (i++[b]) j
def BE(a:Array di)(k:Nat)(v:di):(a.setIfInBounds k v).setIfInBounds k v=a.setIfInBounds k v:=by simp
def Ea(a:List Bool)(k:Nat)(b:Bool):((a.map Value.bool).toArray).setIfInBounds k (.bool b)=((a.set k b).map Value.bool).toArray:=by simp[List.map_set]
theorem HN{e:zS}(P:UF e)(aa:l.length<=100000){Y:List (List Nat)->dg->Prop}(hY:∀s a b,Y s a->dP (λx=>x=e.rv\/x=e.rb\/x=e.ub) a b->Y s b)(hy:D8 e l Y):
 ∀m g c s w,g.length+m=l.length->(∀d∈g,d∈l)->HK e l g c w->Y s w->Calls V.prog 197 e.mR w (gh λv G=>v=.bool true/\HK e l g c G/\Y (s++rm l m g c) G)
 |m,g,c,s,w,hm,N,h,Q=>by
  obtain⟨o1,o2,o3,o4,o5,o6⟩:=P.r;obtain⟨p1,p2,p3,p4,p5⟩:=P.b;obtain⟨q1,q2,q3,q4⟩:=P.u;have ax:=P.l;refine go V.func197 Tryz.ntmps197 ?_;refine dl (dj h.rv rfl) (dK (dl h.lv (dK (gA ⟨λZ=>?_,λZ=>?_⟩))));have Z:g.length=l.length:=by simp at Z;omega
  obtain rfl:m=0:=by omega
  obtain⟨f,au,ah,av,ab,hR⟩:=hy s g c w Z N h Q;refine dl h.yv (dl (dj h.rv rfl) ⟨_,_,_,_,ab,hR.mono ?_⟩);rintro en G ⟨rfl,K,h2⟩;exact⟨_,rfl,rfl,K,h2⟩;have Z:g.length≠l.length:=by simp at Z;omega
  obtain⟨m,rfl⟩:∃m',m=m'+1:=⟨m-1,by omega⟩;refine dl h.lv (dK (eZ (n:=l.length) (λk=>[(0,dJ e.rv),(1,dJ e.lv),(2,dJ e.yv),(3,dJ e.uv),(4,dJ e.gv),(17,.slice e.la l.length e.lc),(18,.int .i64 l.length),(19,.int .i64 k)]) (λk G=>HK e l g c G/\Y (s++vk l m g c k) G) ⟨⟨rfl,rfl,rfl,rfl,rfl,rfl,rfl,rfl,trivial⟩,h,by simpa[vk]using Q⟩ ?_ ?_ ?_));rintro k G R hJ;exact eg ⟨rfl,rfl,⟨rfl,rfl,rfl,rfl,rfl,rfl,rfl,rfl,trivial⟩,hJ⟩;rintro k G R ⟨h,Q⟩;obtain⟨b,o,S,T⟩:=h.row k R;have U:k<c.length:=by rw[h.ul];exact R
  have ai:G.cell? ⟨e.ub,0+k,none⟩=some (.bool c[k]):=by refine dj h.ub ?_;simp[U]
  have ac:c.getD k false=c[k]:=getD_eq U;have aj:l.getD k 0=l[k]:=getD_eq R;rw[S];refine eP k R (dl T (dl h.uv (eP k R (dl ai ⟨λhu=>?_,λhu=>?_⟩))));refine dD ⟨⟨rfl,rfl,rfl,rfl,rfl,by rw[<-S];rfl,rfl,rfl,trivial⟩,h,?_⟩;rw[vV,ac,hu];simpa using Q;obtain⟨C,g1,g2,g3⟩:=h.rb;have aw:g.length<l.length:=by omega
  have hE:=SW e.rb e.ub (.cells C 3) (.cells (C.setIfInBounds g.length (.int .i64 l[k])) 3) (ju c) (ju (c.set k true));refine dT hE ?_;refine vi hE (λq p=>p.cell h.uv (by show e.uv≠e.rb;omega) (by show e.uv≠e.ub;omega)) ?_;refine vi hE (λq p=>p.cell (dj h.rv rfl) o5 o6) ?_;refine .rel (λv w=>∃H,v=.slice (some ⟨H,0,none⟩) 1 1/\H≠e.rb/\H≠e.ub/\w.heap[H]? =some (.cells [Value.int .i64 l[k]].toArray 3)) ?_ (λq p=>eQ [Value.int .i64 l[k]] 3 λt H e2 ad hb=>⟨⟨H,rfl,?_,?_,hb⟩,E2.SY e2⟩) ?_;rintro v a b ⟨H,K,h2,h3,h4⟩ p;exact⟨H,K,h2,h3,p.k.fU h4 (by omega)⟩;have:=dG.lt_of_heap g1;have:=p.k.size;omega;have:=dG.lt_of_heap h.ub;have:=p.k.size;omega;refine .rel (λv w=>v=.slice (some ⟨e.rb,0,none⟩) (g.length+1) l.length/\w.heap[e.rb]? =some (.cells (C.setIfInBounds g.length (.int .i64 l[k])) 3)) ?_ ?_ ?_;rintro v a b ⟨K,h2⟩ p;exact⟨K,p.r1 h2⟩;rintro q p v ⟨H,rfl,n1,n2,hb⟩;have y:∀L,q.heap[e.rb]? =some (.cells L 3)->L.size=C.size->L.setIfInBounds g.length (.int .i64 l[k])=C.setIfInBounds g.length (.int .i64 l[k])->Au V.prog (builtin .append #[27,27] 27 (#[Operand.tmp 30,Operand.tmp 32].map λ| .const _=>true|_=>false) #[.slice (some ⟨e.rb,0,none⟩) g.length l.length,.slice (some ⟨H,0,none⟩) 1 1]) q λu t=>(u=.slice (some ⟨e.rb,0,none⟩) (g.length+1) l.length/\t.heap[e.rb]? =some (.cells (C.setIfInBounds g.length (.int .i64 l[k])) 3))/\E2 e.rb e.ub (.cells C 3) (.cells (C.setIfInBounds g.length (.int .i64 l[k])) 3) (ju c) (ju (c.set k true)) q t:=λL ak ay z=>by refine HJ (u:=.int .i64 l[k]) uj ak (by omega) (by omega) (dj hb rfl) rfl λt I i=>?_;rw[z]at i;exact⟨⟨rfl,i⟩,E2.t1 I p5 i⟩
  rcases p.r0 g1 with D|D;exact y C D rfl rfl;exact y _ D (by simp) (BE _ _ _);refine .exact (.pointer (some ⟨e.ub,0+k,none⟩)) (λq p v hv=>eP k (by omega) ⟨rfl,hE.refl _⟩) ?_;refine .vQ (λ_ w=>w.heap[e.ub]? =some (ju (c.set k true))) (λ_ a b K p=>p.u1 K) (λq p v hv=>?_) ?_
  have y:∀J:List Bool,q.heap[e.ub]? =some (ju J)->J.length=c.length->J.set k true=c.set k true->Dt V.prog (Instr.storeAt 4 (.pointer (some ⟨e.ub,0+k,none⟩)) (.bool true)) q λt=>t.heap[e.ub]? =some (ju (c.set k true))/\E2 e.rb e.ub (.cells C 3) (.cells (C.setIfInBounds g.length (.int .i64 l[k])) 3) (ju c) (ju (c.set k true)) q t:=λJ W al z=>by
   refine jj W (by simp[Value.cells];omega) (λt I i=>by
   have i:t.heap[e.ub]? =some (ju (c.set k true)):=by rw[i,ju,<-z,<-Ea];simp[gD,Value.cells]
   exact⟨i,E2.t2 I p5 i⟩) (gG rfl)
  rcases p.u0 h.ub with D|D;exact y c D rfl rfl;exact y _ D (by simp) (by simp);intro q p v1 M v2 ad hJ;obtain⟨rfl,M⟩:v1=.slice (some ⟨e.rb,0,none⟩) (g.length+1) l.length/\q.heap[e.rb]? =some (.cells (C.setIfInBounds g.length (.int .i64 l[k])) 3):=M;replace hJ:q.heap[e.ub]? =some (ju (c.set k true)):=hJ;clear ad;have O:=p.k.fU h.rv (by omega);refine ee O λt I i=>?_;have k3:=Qh p I;have hW:HK e l (g++[l[k]]) (c.set k true) t:=by
   refine h.Cw P k3 (by rw[i];simp[gD,Value.cells]) ⟨_,I.fU M (by omega),by simp[g2],λj hj=>?_⟩ (I.fU hJ (by omega)) (by simp[h.ul]);rcases fO j g.length with ae|az;rw[eG (by omega),g3 j ae,oR ae];obtain rfl:j=g.length:=by simp at hj;omega
   rw[kq (by omega)];simp
  have am:Y (s++vk l m g c k) t:=hY _ _ _ Q k3;clear i O I M hJ p k3;refine dl hW.gv (dt (HN P aa hY hy m (g++[l[k]]) (c.set k true) _ t (by simp;omega) (λd hd=>by rcases j8.1 hd with hd|hd;exact N d hd;rw[iQ.1 hd];exact fc R) hW am) ?_);rintro v w3 ⟨rfl,E,an⟩;obtain⟨F,t1,t2,t3⟩:=E.rb;have A:=SW e.rb e.ub (.cells F 3) (.cells F 3) (ju (c.set k true)) (ju c);have ao:(g++[l[k]]).length=g.length+1:=by simp
  have B:=E.rv;rw[ao]at B;refine dT A ?_;refine vi A (λq p=>p.cell E.uv (by show e.uv≠e.rb;omega) (by show e.uv≠e.ub;omega)) ?_;refine vi A (λq p=>p.cell (dj B rfl) o5 o6) ?_;refine vi A (λq p=>p.cell (dj B rfl) o5 o6) ?_;refine TN (.int .i64 ((g.length+1:Nat):Int)) (λq _=>dK ⟨rfl,A.refl _⟩) ?_;refine rh (n:=1) ?_ (by omega) A;refine dx (.slice (some ⟨e.rb,0,none⟩) g.length l.length) (λq _=>kC g.length (by omega) ⟨rfl,A.refl _⟩ (by omega)) ?_;refine nH k (by omega) ?_ rfl rfl A;refine .vQ (λ_ w=>w.heap[e.ub]? =some (ju c)) (λ_ a b K p=>p.u1 K) (λq p=>?_) ?_;have af:c.set k false=c:=by apply List.ext_getElem?;intro j;by_cases hj:j=k;subst hj;simp[U,hu];rw[List.getElem?_set_ne (by omega)]
  have y:∀J:List Bool,q.heap[e.ub]? =some (ju J)->J.length=c.length->J.set k false=c->Dt V.prog (Instr.storeAt 4 (.pointer (some ⟨e.ub,0+k,none⟩)) (.bool false)) q λt=>t.heap[e.ub]? =some (ju c)/\E2 e.rb e.ub (.cells F 3) (.cells F 3) (ju (c.set k true)) (ju c) q t:=λJ W al z=>by
   refine jj W (by simp[Value.cells];omega) (λt I i=>by
   have i:t.heap[e.ub]? =some (ju c):=by
    have h4:ju c=.cells ((J.map Value.bool).toArray.setIfInBounds k (.bool false)) 4:=by rw[Ea,z];rfl
    rw[i,h4];simp[gD,Value.cells]
   exact⟨i,E2.t2 I p5 i⟩) (gG rfl)
  rcases p.u0 E.ub with D|D;exact y _ D (by simp) (by rw[List.set_set];exact af);exact y _ D rfl af;intro w4 e4 X;replace X:w4.heap[e.ub]? =some (ju c):=X;have ag:=e4.k.fU B (by omega);refine ee ag λw5 k5 ap=>?_;have k6:=Qh e4 k5;have aq:HK e l g c w5:=E.Cw P k6 (by rw[ap];simp[gD,Value.cells]) ⟨F,k5.fU ((e4.r0 t1).elim id id) (by omega),t2,λj hj=>by rw[t3 j (by simp;omega),oR hj]⟩ (k5.fU X (by omega)) h.ul;have ar:=hY _ _ _ an k6;refine eC (mX rfl (dD ⟨⟨rfl,rfl,rfl,rfl,rfl,by rw[<-S];rfl,rfl,rfl,trivial⟩,aq,?_⟩));rw[vV,ac,hu,aj];simpa using ar;rintro G ⟨h,Q⟩;exact⟨_,rfl,rfl,h,Q⟩
def Rg{a:Type}{b c:Array a}{v f:a}(h:c=b.setIfInBounds m v)(d:k≠m)(e:b[k]? =some f):c[k]? =some f:=by subst h;rw[eG (gH d)];exact e
def V.Mc:V.prog.funcs=Tryz.prog.funcs.setIfInBounds 163 V.f163:=by kernel_rfl
def V.fn{f:Func}(h:Tryz.prog.funcs[k]? =some f)(a:k≠163):V.prog.funcs[k]? =some f:=Rg V.Mc a h
end Go.Proofs.W
variable{W X:Array di}
namespace Go.Proofs.W
open Go.RowKit
def SZ:Obj:=.cells #[.slice none 0 0] 27
structure ZE(n0:Nat)(a b:dg):Prop where
 os:b.os=a.os
 tape:b.tape=a.tape
 output:b.output=a.output
 size:a.heap.size<=b.heap.size
 drawn:a.drawn<=b.drawn
 block:∀x o,a.heap[x]? =some o->b.heap[x]? =some o\/(n0<=x/\o=SZ/\∃u,u≠ .slice none 0 0/\b.heap[x]? =some (.cells #[u] 27))
theorem UG   (n0 : Nat) : gq    (ZE n0) := by
  refine ⟨fun w => ⟨rfl, rfl, rfl, Nat.le_refl _, Nat.le_refl _, fun x o h => .inl h⟩, fun a b c h k => ⟨k.os.trans h.os, k.tape.trans h.tape, k.output.trans h.output, Nat.le_trans h.size k.size, Nat.le_trans h.drawn k.drawn, fun x o hx => ?_⟩, fun w => ⟨rfl, rfl, rfl, Nat.le_refl _, Nat.le_succ _, fun x o h => .inl h⟩⟩
  rcases h.block x o hx with h1 | ⟨h1, h2, u, h3, h4⟩
  · exact k.block x o h1
  · rcases k.block x _ h4 with h5 | ⟨_, h6, _⟩
    · exact .inr ⟨h1, h2, u, h3, h5⟩
    · exfalso
      unfold SZ  at h6
      injection h6 with h6
      apply h3
      have := congrArg (·[0]?) h6
      simpa using this
def Ext.ze(h:Ext w t)(a:Nat):ZE a w t:=⟨h.os,h.tape,h.output,h.size,h.drawn,λx o b=>.inl (h.at_ b)⟩
def ZE.ext(h:ZE m w t)(d:w.heap.size<=m):Ext w t:=⟨h.os,h.tape,h.output,h.size,h.drawn,λx c=>by have a:w.heap[x]? =some w.heap[x]:=jp c;rcases h.block x _ a with b|⟨b,_⟩;rw[b,a];omega⟩
def ZE.at_(h:ZE m w t)(a:w.heap[k]? =some O)(b:O≠SZ):t.heap[k]? =some O:=(h.block k O a).elim id λh=>absurd h.2.1 b
def ZE.store{f:Nat}{a b:dg}{x:Nat}{u:di}(k:dP (λy=>y=x) a b)(h:f<=x)(i:u≠ .slice none 0 0)(c:a.heap[x]? =some SZ\/a.heap[x]? =some (.cells #[u] 27))(g:b.heap[x]? =some (.cells #[u] 27)):ZE f a b:=
 ⟨k.os,k.tape,k.output,k.size,k.drawn,λy o d=>by by_cases e:y=x;subst e;rcases c with c|c;rw[d]at c;exact .inr ⟨h,dH c,u,i,g⟩;rw[d]at c;rw[g];exact .inl c.symm;exact .inl (k.fU d e)⟩
def uu(h:T≠U):Obj.cells W T≠ .cells X U:=λe=>by injection e with _ e;exact h e
def OV(i m:Nat)(F:Nat->Prop)(Y:(Nat->Prop)->List (List Nat)->dg->Prop)(l:List Nat):Prop:=∀B h c j w,(∀b,B b->m<=b/\b<w.heap.size)->B j->gi w (some ⟨j,0,none⟩) c->c.length=l.length->(∀d∈c,d∈l)->Y B h w->∃f e a g,Sem.run V.prog (Instr.yield i #[.slice (some ⟨j,0,none⟩) c.length l.length]) w=.ok (.round i f e a g) w/\RoundIn Fence.wide 0 V.prog i f e a g w λn k=>n=.returned (.bool true)/\dP F w k/\Y B (h++[c]) k
def Jc(J:l.length<=100000){lc lv lp n0:Nat}{F:Nat->Prop}{Y:(Nat->Prop)->List (List Nat)->dg->Prop}(hn:n0=w.heap.size) (aa:w.cell? ⟨lv,0,none⟩=some (.slice a l.length lc))(ab:gi w a l)(al:∀b o,a=some ⟨b,o,none⟩->b<w.heap.size)(hF:∀b,F b->b<w.heap.size/\b≠lv/\∀b' o,a=some ⟨b',o,none⟩->b≠b') (h0:∀c B,Ext w c->(∀b,B b->n0<=b/\b<c.heap.size)->Y B [] c)(hY:∀B m q b,Y B m q->dP B q b->Y B m b)(hy:OV lp n0 F Y l):
 Calls V.prog 196 #[.func (.yield lp) #[] #[],dJ lv] w (gh λv w'=>∃B,Y B (xg l) w'):=by
 subst hn;have ac:lv<w.heap.size:=pi aa;refine go V.func196 Tryz.ntmps196 ?_;refine fB λD yv ey aI ad=>?_;have aJ:=dG.lt_of_heap ad;have U:=ey.cell aa;refine io 8 dO (UG D.heap.size) (λq b h=>h.ze _) ?_;have ae:∀c,ZE D.heap.size D c->jB V.prog (Instr.loadAt 27 (.pointer (some ⟨lv,0,none⟩))) c λu N=>u=.slice a l.length lc/\Ext c N:=λc n=>dl ((n.ext (dC _)).cell U) ⟨rfl,Ext.refl _⟩;refine .exact _ ae (.exact (.int .i64 l.length) (λc _=>dK ⟨rfl,Ext.refl _⟩) ?_);refine .rel (λv c=>∃g,v=.slice (some ⟨g,0,none⟩) 0 l.length/\D.heap.size<=g/\c.heap[g]? =some (.cells (Array.replicate l.length (.int .i64 0)) 3)) ?_ (λc n=>Gc (l:=0) uj (gu _) J λN W X E A=>⟨⟨W,rfl,dS n.size E,?_⟩,X⟩) ?_;rintro v q b ⟨g,P,Q,K⟩ n;exact⟨g,P,Q,n.at_ K (uu (by decide))⟩;rw[A];simp[D5];refine .exact _ ae (.exact (.int .i64 l.length) (λc _=>dK ⟨rfl,Ext.refl _⟩) ?_);refine .rel (λv c=>∃C,v=.slice (some ⟨C,0,none⟩) l.length l.length/\D.heap.size<=C/\c.heap[C]? =some (.cells (Array.replicate l.length (.bool false)) 4)) ?_ (λc n=>Gc SU (dC _) J λN W X E A=>⟨⟨W,rfl,dS n.size E,?_⟩,X⟩) ?_;rintro v q b ⟨g,P,Q,K⟩ n;exact⟨g,P,Q,n.at_ K (uu (by decide))⟩;rw[A];simp[D5];refine .IS (λv c=>∃i,v=.pointer (some ⟨i,0,none⟩)/\D.heap.size<=i/\c.heap[i]? =some SZ) (λv q b ⟨i,P,Q,K⟩ n=>⟨i,P,Q,n.at_ K⟩) (λc n=>fJ λN W X E A=>⟨⟨W,rfl,dS n.size E,A⟩,X⟩) ?_;refine .rel (λv c=>∃I,v=.pointer (some ⟨I,0,none⟩)/\D.heap.size<=I/\c.heap[I]? =some (.cells #[.slice none 0 0] 225)) ?_ (λc n=>fJ λN W X E A=>⟨⟨W,rfl,dS n.size E,A⟩,X⟩) ?_;rintro v q b ⟨g,P,Q,K⟩ n;exact⟨g,P,Q,n.at_ K (uu (by decide))⟩;refine .vQ (λvs c=>∃R i g,vs=[.pointer (some ⟨i,0,none⟩),R,.slice (some ⟨g,0,none⟩) 0 l.length]/\D.heap.size<=i/\c.heap[i]? =some (.cells #[.slice (some ⟨g,0,none⟩) 0 l.length] 27)) ?_ (λc n v3 K R h4 v8 h8=>?_) ?_;rintro vs q b ⟨R,i,g,P,Q,K⟩ n;exact⟨R,i,g,P,Q,n.at_ K⟩;obtain⟨i,rfl,g1,g2⟩:=K;obtain⟨g,rfl,g3,g4⟩:=h8;refine ee g2 λN Z H=>⟨⟨R,i,g,rfl,g1,H⟩,ZE.store Z g1 (λe=>by cases e) (.inl g2) H⟩;intro c n v3 _ R h4 am an v8 h8 hJ;obtain⟨I,rfl,ao,p⟩:∃I,R=.pointer (some ⟨I,0,none⟩)/\D.heap.size<=I/\c.heap[I]? =some (.cells #[.slice none 0 0] 225):=h4;obtain⟨C,rfl,aK,r⟩:∃C,am=.slice (some ⟨C,0,none⟩) l.length l.length/\D.heap.size<=C/\c.heap[C]? =some (.cells (Array.replicate l.length (.bool false)) 4):=an;obtain⟨g,rfl,aL,s⟩:∃g,v8=.slice (some ⟨g,0,none⟩) 0 l.length/\D.heap.size<=g/\c.heap[g]? =some (.cells (Array.replicate l.length (.int .i64 0)) 3):=h8;obtain⟨_,i,ap,G,aM,z⟩:∃R i af,[v3,.pointer (some ⟨I,0,none⟩),.slice (some ⟨g,0,none⟩) 0 l.length]=[.pointer (some ⟨i,0,none⟩),R,.slice (some ⟨af,0,none⟩) 0 l.length]/\D.heap.size<=i/\c.heap[i]? =some (.cells #[.slice (some ⟨af,0,none⟩) 0 l.length] 27):=hJ;simp only[pY,and_true]at G;obtain⟨rfl,rfl,G⟩:=G;injection G with G;obtain rfl:g=ap:=dQ Addr.block (dH G);clear G;have ex:Ext D c:=n.ext (dC _);clear n;have ne:∀{x y:Nat} {cs aq:Array di} {t t':dn},c.heap[x]? =some (.cells cs t)->c.heap[y]? =some (.cells aq t')->t≠t'->x≠y:=λhx hy ht e=>by subst e;rw[hx]at hy;exact uu ht (dH hy)
 have d1:=ne z p (by decide);have d2:=ne z s (by decide);have d3:=ne z r (by decide);have d4:=ne p s (by decide);have d5:=ne p r (by decide);have d6:=ne s r (by decide);have su:=dG.lt_of_heap p;refine ee p λN Z H=>?_;have H:N.heap[I]? =some (.cells #[.slice (some ⟨C,0,none⟩) l.length l.length] 225):=H;refine fJ λw3 gv e3 aN ag=>ee ag λO k4 ar=>?_;have s2:=Z.size;have au:Ext D N:=ex.dz Z ao;have L:Ext D O:=(au.trans e3).dz k4 (by have:=ex.size;omega);have av:=dG.lt_of_heap z;have aw:=dG.lt_of_heap s;have ax:=dG.lt_of_heap r;have aO:=dG.lt_of_heap p;have S:∀{x:Nat} {o:Obj},N.heap[x]? =some o->O.heap[x]? =some o:=λhx=>k4.fU (e3.at_ hx) (by have:=dG.lt_of_heap hx;omega);have ay:=L.at_ ad;let e:zS:=⟨i,lv,yv,I,gv,g,C,lp,a,lc⟩;have aG:=ac;have sw:=ey.size;have ok:UF e:=⟨⟨by show i≠lv;omega,by show i≠yv;omega,d1,by show i≠gv;omega,d2,d3⟩,⟨by show g≠lv;omega,by show g≠yv;omega,gH d4,by show g≠gv;omega,d6⟩,⟨by show C≠lv;omega,by show C≠yv;omega,gH d5,by show C≠gv;omega⟩,λb o A=>by have:=al b o A;show b≠i/\b≠g/\b≠C;omega⟩;have hO:HK e l [] (List.replicate l.length false) O:=by refine⟨S (Z.fU z d1),L.cell U,dj ay rfl,dj (S H) rfl,dj ar rfl,⟨_,S (Z.fU s (gH d4)),by simp,λj hj=>by simp at hj⟩,?_,by simp,ab.ext (ey.trans L)⟩;have:=S (Z.fU r (gH d5));rw[this];simp[ju]
 let B:Nat->Prop:=λx=>x=i\/x=g\/x=C;have s4:=L.size;have l4:∀{x:Nat},x<c.heap.size->x<O.heap.size:=λhx=>by have:=e3.size;have:=k4.size;omega
 have M:∀b,B b->w.heap.size<=b/\b<O.heap.size:=λb A=>by rcases A with rfl|rfl|rfl;exact⟨by omega,l4 av⟩;exact⟨by omega,l4 aw⟩;exact⟨by omega,l4 ax⟩
 have az:=h0 O B (ey.trans L) M;have aA:∀m q b,(Y B m q/\O.heap.size<=q.heap.size)->dP (λx=>x=e.rv\/x=e.rb\/x=e.ub) q b->(Y B m b/\O.heap.size<=b.heap.size):=λm q b h k=>⟨hY B m q b h.1 k,dS h.2 k.size⟩;have aB:D8 e l (λm q=>Y B m q/\O.heap.size<=q.heap.size):=by rintro m aC aH wy hr ah hA ⟨aD,aP⟩;obtain⟨cs,g1,g2,g3⟩:=hA.rb;obtain⟨f,ai,T,aj,ak,hR⟩:=hy B m aC g wy (λb A=>⟨(M b A).1,by have:=(M b A).2;omega⟩) (.inr (.inl rfl)) (λk hk=>⟨g,0,rfl,dj g1 (by rw[dB];exact g3 k hk)⟩) hr ah aD;refine⟨f,ai,T,aj,ak,hR.mono ?_⟩;rintro en w' ⟨rfl,hk,aE⟩;refine⟨rfl,hA.keep hk (λb A=>?_),aE,by have:=hk.size;omega⟩;obtain⟨q1,q2,q3⟩:=hF b A;show b≠i/\b≠lv/\b≠yv/\b≠I/\b≠gv/\b≠g/\b≠C/\_;exact⟨by omega,q2,by omega,by omega,by omega,by omega,by omega,q3⟩
 refine dl hO.gv (dt (HN ok J aA aB l.length [] (List.replicate l.length false) [] O (by simp) (λd hd=>by cases hd) hO ⟨az,dC _⟩) ?_);rintro v w5 ⟨rfl,_,aF,_⟩;exact⟨_,rfl,B,by simpa[xg]using aF⟩
end Go.Proofs.W
variable{K:ej}
namespace Go.Proofs.W
open Go.RowKit
def Jd(c:Option Addr)(n d:Nat)(w:dg):Calls V.prog 172 #[.slice c n d] w (gh λv e=>Ext w e/\∃a,v=.func (.func 196) #[] #[dJ a]/\w.heap.size<=a/\e.heap[a]? =some (.cells #[.slice c n d] 27)):=by refine go V.func172 Tryz.ntmps172 ?_;exact fB λh a f b g=>⟨_,rfl,f,a,rfl,b,g⟩
section
variable{N:Nat}{r:Option Nat}{ds:List Deferred}{x y:Code}{Q:Exit->Act->dg->Prop}{l:L}{a:Act}{w:dg}
def WM(g:nV ds N l a)(i:flat x=true)(h:WC V.prog FY N x (λe d f=>∀b,nV ds N d b->Q e b f) l w):x.wpIn (wd r) 0 V.prog Q a w:=
 wpIn_mono (kR er x _ l a w i g h) (by rintro e b f ⟨d,c,j⟩;exact j b c)
def Qi(P:dq)(r:Option Nat)(y:Code)(Q:Exit->Act->dg->Prop):Exit->Act->dg->Prop
 | .normal,a,w=>y.wpIn (wd r) 0 P Q a w
 |e,a,w=>Q e a w
def wpS(d:nV ds N l a)(f:flat x=true)(h:WC V.prog FY N x (λe g c=>∀b,nV ds N g b->Qi V.prog r y Q e b c) l w):(Code.seq x y).wpIn (wd r) 0 V.prog Q a w:=
 wpIn_seq (wpIn_mono (WM (Q:=Qi V.prog r y Q) d f h) (by rintro e b c i;cases e<;>exact i))
def WN{j:Nat}{c:Array Oper}{E:dg->dg->Prop}(g:nV ds N l a)(i:gq E)(h:DW V.prog FY N (λ_ _=>False) E E 1000 c.toList w l (λk m=>∀f,nV ds N k f->y.wpIn (wd none) 0 V.prog Q f m) 0 c.toList [] (vR c.toList l) [] [] [] [])(n:l8 c N (sC c.toList)=true:=by kernel_rfl):
 (Code.seq (.region j c true) y).wpIn (wd none) 0 V.prog Q a w:=
 wpIn_seq (wpIn_wide.2 (DF er (λ_ _ _ _ _ h=>h.elim) i i (λ_ _ h=>h) (by kernel_rfl) n rfl g.b (λl f w e o=>o f ⟨e.b,e.d.trans g.d⟩) h))
end
def Eb{d:Func}{c:Code}{args:List di}{w:dg}{R:Ending->dg->Prop}(N:Nat)
 (j:V.prog.funcs[K]? =some d)(b:d.body=some c)(k:d.ntmps=N)(l:args.length<=N)(h:∀a,nV [] N (args.zipIdx.map λp=>(p.2,p.1)) a->c.wpIn (wd none) 0 V.prog (bodyPostM Fence.wide 0 V.prog d R) a w):Calls V.prog K args.toArray w R:=by
 refine callsIn_wide.1 (callsIn_of_wp_marks (n:=0) j b trivial (h _ ⟨⟨?_,λt v m=>?_⟩,rfl⟩));simp[k];omega
 have g:∀(f:List di) (n:Nat),lk ((f.zipIdx n).map λp=>(p.2,p.1)) t=some v->n<=t/\f[t-n]? =some v:=by
  intro f;induction f with
  |nil=>intro n h;cases h
  |cons x r o=>
   intro n h;simp only[List.zipIdx_cons,lA,lk]at h;cases b:Nat.beq n t with
   |true=>
    rw[b]at h;have:n=t:=ii b;subst this;exact⟨dC _,by simpa using h⟩
   |false=>
    rw[b]at h;have q:n≠t:=uM b;obtain⟨s,e⟩:=o (n+1) h;refine⟨by omega,?_⟩;have:t-n=(t-(n+1))+1:=by omega
    rw[this];simpa using e
 have e:=(g args 0 m).2;rw[Nat.sub_zero]at e;have i:t<args.length:=(je.1 e).1;rw[jS];show((args.toArray++Array.replicate (d.ntmps-args.toArray.size) undef)[t]?).getD undef=v;rw[wv (by simpa using i)];simp[e]
def HQ{d:Func}{t N:Nat}{l:L}{a:Act}{ds:List Deferred}{w:dg}(c:d.results=#[.tmp t])(e:nV ds N l a)(f:lk l t=some z):Sem.run V.prog (results d a.tmps) w=.ok z w:=by have g:a.tmps.getD t undef=z:=e.b.at_ t z f;rw[yj,c];simp[IP,g]
def Rh{c:Func}{t N:Nat}{l:L}{a:Act}{w:dg}{R:Ending->dg->Prop}(b:c.results=#[.tmp t])(e:nV [] N l a)(f:lk l t=some z)(g:R (.returned z) w):bodyPostM Fence.wide 0 V.prog c R .ret a w:=by show LeavesInM Fence.wide 0 V.prog c a.tmps R a.defers .returning w;rw[e.d];exact⟨z,HQ b e f,g⟩
def HT(D:Nat):Deferred:={target:=.collected D,args:=#[]}
def Ri{c:Func}{t N D:Nat}{l:L}{a:Act}{w:dg}{R:Ending->dg->Prop}(b:c.results=#[.tmp t])(e:nV [HT D] N l a)(f:lk l t=some z)(g:w.heap[D]? =some (.deferred (some [])))(h:R (.returned z) (w.putObj D (.deferred none))):bodyPostM Fence.wide 0 V.prog c R .ret a w:=by show LeavesInM Fence.wide 0 V.prog c a.tmps R a.defers .returning w;rw[e.d];exact⟨by simp,.inl ⟨D,_,rfl,run_takeDeferred g,z,HQ b e f,h⟩⟩
def yF(fn:FuncId)(tmps:Array Value)(p:Tmp)(assign body:Code)(D:Nat)(st:LoopState):Loop:={state:=st,pending:=none,fn,tmps,params:=#[p],assign,body,defers:=D}
theorem Je{N t p:Nat}{l:L}{a:Act}{w:World}{gf:FuncId}{cap:Array Value}{assign body:Code}{Q:Exit->Act->World->Prop}(hF:nV [] N l a)(hg:lk l t=some (.func (.func gf) #[] cap))(hgo:∀xs w,Sem.run V.prog (callFunc gf xs) w=.ok (.enter gf xs) w){I:World->Prop} (Aq:∀fn W1 rc,rc=yF fn a.tmps p assign body w.heap.size .ready->Ext w W1->W1.heap.size=w.heap.size+2->W1.heap[w.heap.size]? =some (.deferred (some []))->W1.heap[w.heap.size+1]? =some (.loop rc)->
  Calls V.prog gf (#[.func (.yield (w.heap.size+1)) #[] #[]]++cap) W1 (gh λv W2=>W2.heap[w.heap.size+1]? =some (.loop rc)/\I W2))
 (S5:∀rc W2 a',W2.heap[w.heap.size+1]? =some (.loop rc)->I W2->nV [HT w.heap.size] N l a'->Q .normal a' (W2.putObj (w.heap.size+1) (.loop {rc with state:=.exhausted}))):(Code.rangeFunc (.tmp t) #[p] assign body).wpIn (wd none) 0 V.prog Q a w:=by
 have WO:a.eval (.tmp t)=.func (.func gf) #[] cap:=hF.b.at_ t _ hg;refine wpIn_rangeFunc ?_;intro fn U0;obtain⟨W1,S7⟩:∃W1,(w.alloc (.deferred (some []))).alloc (.loop (yF fn a.tmps p assign body w.heap.size .ready))=W1:=⟨_,rfl⟩;have WP:W1.heap[w.heap.size+1]? =some (.loop (yF fn a.tmps p assign body w.heap.size .ready)):=by rw[<-S7];have:=World.alloc_heap_new (w.alloc (.deferred (some []))) (.loop (yF fn a.tmps p assign body w.heap.size .ready));rwa[World.size_alloc]at this
 have WQ:W1.heap[w.heap.size]? =some (.deferred (some [])):=by rw[<-S7];exact(alloc_old _ _ (by simp)).trans (World.alloc_heap_new w _)
 have hE:Ext w W1:=by rw[<-S7];exact(Ext.alloc _ _).trans (Ext.alloc _ _)
 refine⟨w.heap.size+1,[HT w.heap.size],W1,{target:=.fn (.func gf) cap,args:=#[.func (.yield (w.heap.size+1)) #[] #[]]},W1,gf,#[.func (.yield (w.heap.size+1)) #[] #[]]++cap,W1,?_,?_,λ_ _=>trivial,?_,(λh=>by cases h),?_⟩
 ·rw[<-S7];exact run_enterLoop_outer _ _ _ _ _
 ·simp only[resolve,rangeCall,WO];simp[go_sem]
 ·simp[invoke,go_sem,hgo]
 ·refine(callsIn_wide.2 (Aq fn W1 _ rfl hE (by rw[<-S7];simp) WQ WP)).mono ?_;rintro e W2 ⟨v,rfl,hl,hI⟩;have he:=run_endLoop (P:=V.prog) hl (by simp[yF]);refine⟨none,_,he,S5 _ W2 _ hl hI ⟨⟨hF.b.size,hF.b.at_⟩,?_⟩⟩;show [HT w.heap.size]++a.defers=_;rw[hF.d];rfl
theorem Ec{lp fn p D N:Nat}{tmps:Array Value}{assign body:Code}{v:Value}{W:World}{rc:Loop}(WS:rc=yF fn tmps p assign body D .ready)(hl:W.heap[lp]? =some (.loop rc)){l:L}(hF:uK N l ⟨tmps,[]⟩)(hp:p<N){R:World->Prop}(ha:flat assign=true)(hb:flat body=true)
 (h:∀rb W0,W0=W.putObj lp (.loop rb)->W0.heap[lp]? =some (.loop rb)->WC V.prog FY N assign (λe l1 w1=>e=.normal/\w1=W/\WC V.prog FY N body (λe l2 w2=>e=.normal/\w2.heap[lp]? =some (.loop rb)/\R (w2.putObj lp (.loop rc))) l1 W0) (ins N (some p) v l) W):
 ∃f Qj HU Qk,Sem.run V.prog (Instr.yield lp #[v]) W=.ok (.round lp f Qj HU Qk) W/\RoundIn Fence.wide 0 V.prog lp f Qj HU Qk W λen w'=>en=.returned (.bool true)/\R w':=by
 subst WS;have hy:=run_yield (P:=V.prog) (args:=#[v]) hl (by simp[yF]);refine⟨_,_,_,_,hy,roundIn_of_wpIn trivial ?_⟩;have WU:nV [] N (ins N (some p) v l) ⟨tmps.setIfInBounds p v,[]⟩:=⟨hF.put (some p) v (λt ht=>by cases ht;exact hp),rfl⟩;have e0:((yF fn tmps p assign body D .ready).params.zip #[v]).foldl (λ(tmps:Array Value) (x:Tmp×Value)=>tmps.setIfInBounds x.1 x.2) (yF fn tmps p assign body D .ready).tmps=tmps.setIfInBounds p v:=by simp[yF]
 rw[e0];refine wpIn_mono (kR (r:=some lp) er assign _ _ _ _ ha WU (h (yF fn tmps p assign body D .busy) _ rfl (World.putObj_heap_same (dG.lt_of_heap hl)))) ?_;rintro e a1 w1 ⟨l1,WV,rfl,rfl,S8⟩;refine⟨_,run_beginRound hl rfl,wpIn_mono (kR (r:=some lp) er body _ l1 a1 _ hb WV S8) ?_⟩;rintro e a2 w2 ⟨l2,Xv,rfl,WW,hR⟩;exact⟨_,_,run_endRound none WW,rfl,hR⟩
def Ext.yG(h:Ext w t)(o:Obj)(b:w.heap.size<=m):Ext w (t.putObj m o):=
 ⟨h.os,h.tape,h.output,by simpa using h.size,h.drawn,λx a=>(World.putObj_heap_other (by omega)).trans (h.block x a)⟩
def li(W:dg)(b:Nat)(o:Obj):dP (λx=>x=b) W (W.putObj b o):=
 ⟨rfl,rfl,rfl,by simp,dC _,λx _ a=>World.putObj_heap_other a⟩
def ol(d:w.heap[m]? =some Q)(f:∀b t c,Q≠ .cells b t c)(a:w.cell? h=some x):(w.putObj m O).cell? h=some x:=by refine(li w m O).fh a λe=>?_;unfold World.cell? at a;rw[e,d]at a;split at a;rename_i b t c g;exact f _ _ _ (dH g);cases a
def oH(G:Gd)(a:List (List Nat))(b:List Nat):kz G (a++[b])=j7 G (kz G a) b:=by simp[kz]
structure Rj(G:Gd)(bb lb lp:Nat)(rc:Loop)(W1:dg)(B:Nat->Prop)(pre:List (List Nat))(W:dg):Prop where
 b:∀b,B b->W1.heap.size<=b
 k:dP (λb=>b=bb\/b=lb\/b=lp) W1 W
 l:W.heap[lp]? =some (.loop rc)
 lt:bb<W1.heap.size/\lb<W1.heap.size/\lp<W1.heap.size
 at_:∃a c,W.heap[bb]? =some (.cells #[.slice a (kz G pre).1.length c] 27)/\ig (λx=>B x\/x<W1.heap.size) W a (kz G pre).1/\(kz G pre).1.length<=c/\W.heap[lb]? =some (.cells #[.int .i64 (kz G pre).2] 3)
def Rj.keep{n:Loop}{d:List (List Nat)}(h:Rj H m k i n w B d t)(f:dP B t e):Rj H m k i n w B d e:=by
 obtain⟨a,c,q,r,s,u⟩:=h.at_;have j:∀x,x<w.heap.size->¬B x:=λx p g=>by have:=h.b x g;omega
 exact⟨h.b,h.k.trans f (λ_ _ h=>h) (λx p g=>absurd g (j x p)),f.fU h.l (j _ h.lt.2.2),h.lt,a,c,f.fU q (j _ h.lt.1),r.go (λ_ h=>.inl h) (λb o v g y=>f.fh y λz=>g (.inl z)),s,f.fU u (j _ h.lt.2.1)⟩
def lh.all{d:Nat->di}{F:(Nat->Prop)->Prop}{R:(Nat->Prop)->Nat->di->dg->Prop}(K:AE T d)(p:∃A,F A)(h:∀A,F A->lh d (R A) m w):lh d (λs v w=>∀A,F A->R A s v w) m w:=by
 obtain⟨q,f⟩:=p;obtain⟨j,a,k,r⟩:=(h q f).out;refine⟨j,a,k,λe l=>?_⟩;obtain⟨s,n,o,_⟩:=r e l;refine⟨s,n,o,λA t=>?_⟩;obtain⟨g,b,c,i⟩:=(h A t).out;rw[k]at c;obtain⟨rfl,rfl⟩:j=g/\a=b:=by injection c with c;injection c with u x;exact⟨u,x⟩
 obtain⟨y,z,B,C⟩:=i e l;obtain rfl:=K.inj s y n z (o.symm.trans B);exact C
def BG{gp mk ms n0 s:Nat}{F:(Nat->Prop)->Prop}(h:oN gp mk ms N w)(au:∃A,F A)(C:∀A,F A->∀b,A b->b<w.heap.size)(hp:∀A,F A->kS A mk ms N w)(hn:n0<=ms)(hs:s<32)(hd:∀d∈fR s,d<N.doors.length):
 Calls V.prog 129 #[dJ gp,.int .u8 s] w (gh λv w'=>jb n0 w w'/\∀A,F A->kS A mk ms N w'/\ShR A N s v w'):=by
 have av:(fR s).length<=100000:=by have:=me s 5;unfold fR;omega
 refine Eb (args:=[dJ gp,.int .u8 s]) 46 V.func129 rfl Tryz.ntmps129 (by simp) λa hF=>?_;refine wpS hF rfl (fB λw1 b2 e1 bj M a1 aM=>?_);have h1:=h.ext e1;have aw:=λA C=>(hp A C).ext e1;refine wpS aM rfl (dl (dj M rfl) (dl h1.VG (I9 BD L8 (z:=.slice none 0 0) (by intro w;kernel_rfl) (lh.all BD au λA C=>(aw A C).s) hs (λv hv=>ki rfl λa2 af=>Rh rfl af rfl ⟨_,rfl,e1.hH n0,λA C=>⟨aw A C,hv A C⟩⟩) (mX rfl λa2 af=>?_))));refine wpS af rfl (fJ λw2 p e2 bk ab a3 aN=>?_);refine wpS aN rfl (fJ λw3 n e3 aO ac=>ee ac λw4 k4 ax a4 aP=>?_);have bl:=dG.lt_of_heap ab;have bm:=dG.lt_of_heap ac;have bn:=dG.lt_of_heap M;have e4:Ext w2 w4:=e3.dz k4 aO;have E4:Ext w w4:=(e1.trans e2).trans e4;have ay:w4.heap[p]? =some (.cells #[.slice none 0 0] 27):=e4.at_ ab;have ad:w4.heap[n]? =some (.cells #[.int .i64 (-1)] 3):=ax;refine wpIn_seq ?_;refine wpS aP rfl (dt (uq s w4 hs) ?_);rintro bo w5 ⟨e5,az⟩;obtain⟨la,lc,rfl,ag,_⟩:=az.row;refine dt (Jd la (fR s).length lc w5) ?_;rintro fv g ⟨e6,lv,rfl,bp,ae⟩;intro a6 ah;have aA:∀b o,la=some ⟨b,o,none⟩->w4.heap.size<=b/\b<w5.heap.size:=λb o c=>by obtain⟨_,⟨_,h2⟩|⟨b',c',cs,g1,h2,g3,_⟩⟩:=az;injection h2 with h2;rw[h2]at c;cases c;injection h2 with h2;rw[h2]at c;have:=dQ Addr.block (dH c);simp only at this;subst this;exact⟨g1,dG.lt_of_heap g3⟩
 have s1:=e1.size;have s2:=e2.size;have s4:=e4.size;have s5:=e5.size;have s6:=e6.size;have l6:lv<g.heap.size:=dG.lt_of_heap ae;have bq:n<w4.heap.size:=dG.lt_of_heap ad;have T:Ext w g:=E4.trans (e5.trans e6);have aB:g.heap[b2]? =some (.cells #[dJ gp] 138):=((e2.trans e4).trans (e5.trans e6)).at_ M;have br:p≠n/\p≠b2/\n≠b2:=by have:=e2.size;omega
 refine wpIn_block (Je ah rfl (by intro _ _;kernel_rfl) (I:=λW2=>∃O G B,Ext g G/\G.heap.size=g.heap.size+2/\G.heap[g.heap.size]? =some (.deferred (some []))/\Rj N p n (g.heap.size+1) O G B (xg (fR s)) W2) ?_ ?_);intro fn G O aQ f aC hD hL;have ai:=ag.ext (e6.trans f);have aD:=f.at_ ae;refine(Jc (lv:=lv) (lc:=lc) (lp:=g.heap.size+1) (F:=λb=>b=p\/b=n\/b=g.heap.size+1) (Y:=λB K W=>Rj N p n (g.heap.size+1) O G B K W) av rfl (dj aD rfl) ai (λb o c=>?_) (λb c=>?_) (λW2 B U hB=>?_) (λB K a b hy k=>hy.keep k) ?_).mono ?_;have:=aA b o c;omega;refine⟨by omega,by omega,λb' o aR=>?_⟩;have:=aA b' o aR;omega;refine⟨λb c=>(hB b c).1,U.keep _,U.at_ hL,by omega,none,0,?_,λk hk=>by simp[kz]at hk,gu _,?_⟩;exact U.at_ (f.at_ (e6.at_ (e5.at_ ay)));exact U.at_ (f.at_ (e6.at_ (e5.at_ ad)));intro B K L rb W aj aS al bs aE i;have EW:Ext w W:=⟨i.k.os.trans (T.trans f).os,i.k.tape.trans (T.trans f).tape,i.k.output.trans (T.trans f).output,by have:=i.k.size;omega,dS (T.trans f).drawn i.k.drawn,λx hx=>(i.k.block x (by omega) (by omega)).trans ((T.trans f).block x hx)⟩;obtain⟨ba,bc,g1,g2,g3,g4⟩:=i.at_;obtain⟨q1,q2,q3⟩:=i.lt;have lW:=i.k.size;refine Ec aQ i.l ⟨ah.b.size,ah.b.at_⟩ (by decide) (R:=λw'=>dP (λb=>b=p\/b=n\/b=g.heap.size+1) W w'/\Rj N p n (g.heap.size+1) O G B (K++[L]) w') rfl rfl λaF W0 X P=>⟨rfl,rfl,?_⟩;have kB:dP (λx=>x=g.heap.size+1) W W0:=by rw[X];exact li _ _ _
 have J:W0.heap.size=W.heap.size:=by rw[X];simp
 have E0:Ext w W0:=by rw[X];exact EW.yG _ (by omega)
 clear X;have Q:=kB.fU g1 (by omega);have t:=kB.fU g4 (by omega);have aT:W0.heap[b2]? =some (.cells #[dJ gp] 138):=kB.fU (i.k.fU (f.at_ aB) (by omega)) (by omega)
 have am:∀(r:dg) (a':Option Addr) (c':Nat) (y:List Nat) (D:Int),r.heap[g.heap.size+1]? =some (.loop aF)->r.heap[p]? =some (.cells #[.slice a' y.length c'] 27)->r.heap[n]? =some (.cells #[.int .i64 D] 3)->kz N (K++[L])=(y,D)->ig (λx=>B x\/x<G.heap.size) r a' y->y.length<=c'->
  dP (λb=>b=p\/b=n\/b=g.heap.size+1) W0 r->Exit.normal=.normal/\r.heap[g.heap.size+1]? =some (.loop aF)/\dP (λb=>b=p\/b=n\/b=g.heap.size+1) W (r.putObj (g.heap.size+1) (.loop O))/\Rj N p n (g.heap.size+1) O G B (K++[L]) (r.putObj (g.heap.size+1) (.loop O)):=λr a' c' y D y1 y2 y3 y4 y5 y6 y7=>by
  have kE:=li r (g.heap.size+1) (.loop O);have kW:dP (λb=>b=p\/b=n\/b=g.heap.size+1) W (r.putObj (g.heap.size+1) (.loop O)):=(kB.trans y7 (λ_ _ h=>.inr (.inr h)) λ_ _ h=>h).trans kE (λ_ _ h=>h) λ_ _ h=>.inr (.inr h);refine⟨rfl,y1,kW,i.b,i.k.trans kW (λ_ _ h=>h) λ_ _ h=>h,World.putObj_heap_same (dG.lt_of_heap y1),i.lt,a',c',?_,?_,?_,?_⟩;rw[y4];exact kE.fU y2 (by omega);rw[y4];exact y5.go (λ_ h=>.inl h) λb o v c q=>ol y1 (λ_ _ _ e=>by cases e) q;rw[y4];exact y6;rw[y4];exact kE.fU y3 (by omega)
 have E:gi W0 (some ⟨rb,0,none⟩) L:=λk hk=>by
  obtain⟨b,o,z1,z2⟩:=al k hk;have bt:=aj rb aS;have:b=rb:=by have:=dQ Addr.block (dH z1);simpa using this.symm
  subst this;exact⟨b,o,z1,kB.fh z2 (by show¬b=_;omega)⟩
 have aU:∀d∈L,d<N.doors.length:=λd aV=>hd d (aE d aV);have aG:L.length<=100000:=by omega
 refine dl (dj aT rfl) (dN (I1 (h.ext E0) aU aG E) (dl (dj t rfl) (eg ⟨λaW=>ki rfl (dt (lQ E (by omega)) λuv w7 Z=>?_),λaX=>dl (dj t rfl) (eg ⟨λaH=>dt (lQ E (by omega)) λuv w7 Z=>?_,λaI=>?_⟩)⟩)));obtain⟨e7,Z⟩:=Z;obtain⟨ua,uc,rfl,an,ao⟩:=gQ.Rf (A:=λx=>B x\/x<G.heap.size) Z (λb c=>by rcases c with c|c;have:=(aj b c).2;rw[J];exact this;rw[J];omega);refine ee (e7.at_ Q) λw8 k8 ap=>ee (k8.fU (e7.at_ t) (by omega)) λr k9 aq=>?_
 exact am r _ _ _ _ (k9.fU (k8.fU (e7.at_ P) (show¬g.heap.size+1=p by omega)) (show¬g.heap.size+1=n by omega)) (k9.fU ap (show¬p=n by omega)) aq (by rw[oH,j7,dr (.inl (eA aW))]) (an.go (λ_ h=>.inl h) λb o v c q=>k9.fh (k8.fh q (λe=>c (.inr (by have:b=p:=e;show b<_;omega)))) (λe=>c (.inr (by have:b=n:=e;show b<_;omega)))) ao
  ((e7.keep (λb=>b=p\/b=n\/b=g.heap.size+1)).trans (k8.trans k9 (H:=λb=>b=p\/b=n\/b=g.heap.size+1) (λ_ _ h=>.inl h) λ_ _ h=>.inr (.inl h)) (λ_ _ h=>h) λ_ _ h=>h)
 obtain⟨e7,Z⟩:=Z;obtain⟨ua,uc,rfl,an,ao⟩:=gQ.Rf (A:=λx=>B x\/x<G.heap.size) Z (λb c=>by rcases c with c|c;have:=(aj b c).2;rw[J];exact this;rw[J];omega);refine ee (e7.at_ Q) λw8 k8 ap=>ee (k8.fU (e7.at_ t) (by omega)) λr k9 aq=>?_
 exact am r _ _ _ _ (k9.fU (k8.fU (e7.at_ P) (show¬g.heap.size+1=p by omega)) (show¬g.heap.size+1=n by omega)) (k9.fU ap (show¬p=n by omega)) aq (by rw[oH,j7,dr (.inr (eA aH))]) (an.go (λ_ h=>.inl h) λb o v c q=>k9.fh (k8.fh q (λe=>c (.inr (by have:b=p:=e;show b<_;omega)))) (λe=>c (.inr (by have:b=n:=e;show b<_;omega)))) ao
  ((e7.keep (λb=>b=p\/b=n\/b=g.heap.size+1)).trans (k8.trans k9 (H:=λb=>b=p\/b=n\/b=g.heap.size+1) (λ_ _ h=>.inl h) λ_ _ h=>.inr (.inl h)) (λ_ _ h=>h) λ_ _ h=>h)
 refine am W0 ba bc _ _ P Q t (by rw[oH,j7,dp (by have h1:=eH aX;have h2:=eH aI;omega)]) (g2.go (λ_ h=>.inl h) λb o v c q=>kB.fh q (λe=>c (.inr (by have:b=g.heap.size+1:=e;show b<_;omega)))) g3 (dP.refl _ _);rintro e W2 ⟨v,rfl,B,i⟩;exact⟨_,rfl,i.l,_,G,B,f,aC,hD,i⟩;rintro O W2 a7 aY ⟨bu,G,B,f,aC,hD,i⟩ aZ;have lD:=dG.lt_of_heap hD;obtain⟨q1,q2,q3⟩:=i.lt;obtain⟨ba,bc,g1,g2,g3,g4⟩:=i.at_;have EW:Ext w W2:=⟨i.k.os.trans (T.trans f).os,i.k.tape.trans (T.trans f).tape,i.k.output.trans (T.trans f).output,by have:=i.k.size;omega,dS (T.trans f).drawn i.k.drawn,λx hx=>(i.k.block x (by omega) (by omega)).trans ((T.trans f).block x hx)⟩;have D2:=i.k.fU hD (by omega);have a0:=i.k.fU (f.at_ aB) (by omega);obtain⟨W3,S⟩:∃W3,W3=W2.putObj (g.heap.size+1) (.loop {O with state:=.exhausted}):=⟨_,rfl⟩;have k3:dP (λx=>x=g.heap.size+1) W2 W3:=by rw[S];exact li _ _ _
 have E3:Ext w W3:=by rw[S];exact EW.yG _ (by omega)
 have a5:ig (λx=>B x\/x<G.heap.size) W3 ba (eK N s):=by rw[S];exact g2.go (λ_ h=>.inl h) λb o v c q=>ol aY (λ_ _ _ e=>by cases e) q
 rw[<-S];clear S;have D3:=k3.fU D2 (by omega);have a8:=k3.fU a0 (by omega);have aJ:=k3.fU g1 (by omega);have h3:=h.ext E3;show Code.wpIn _ _ _ (Code.seq _ _) _ a7 W3;refine WN aZ dO (dI (dj a8 rfl) (dI h3.VG (dI (dj aJ rfl) λw8 e8=>?_)));have aa:=λA C=>(hp A C).ext (E3.trans e8);have aK:∀A,F A->ShR A N s (.slice ba (eK N s).length bc) w8:=λA j=>⟨ba,bc,rfl,(a5.go (λ_ h=>.inl h) λb o v c q=>e8.cell q).more λb c=>.inl (.inr (by have:=C A j b c;omega)),g3⟩;refine ut BD L8 (lh.all BD au λA C=>(aa A C).s) hs hn (λr m=>⟨λs u Z A C=>(Z A C).go (λ_ h=>.inl h) λb o v c q=>m.cell q,λA C=>(aK A C).go (λ_ h=>.inl h) λb o v c q=>m.cell q⟩) λr m9 bd be=>?_;have bf:=h.ne;have ar:∀A,F A->kS A mk ms N r:=λA j=>⟨be.go (λs v hr=>hr A j) λo ho=>ho,(aa A j).k.go (λs v hr=>hr.go (λ_ h=>.inl h) λb o v c q=>m9.cell q) λo ho=>by rw[bd mk bf];exact ho,(aa A j).ak,(aa A j).asm⟩;have bg:=λA j=>(aK A j).go (A':=A) (λ_ h=>.inl h) (λb o v c q=>m9.cell q);have D9:r.heap[g.heap.size]? =some (.deferred (some [])):=m9.block _ _ (e8.at_ D3) (.inr rfl);have bh:=m9.at_ (e8.at_ aJ);intro a9 bi;refine wpS bi rfl (dl (dj bh rfl) λbv aL=>wpIn_ret (Ri rfl aL rfl D9 ⟨_,rfl,?_,λA j=>⟨?_,?_⟩⟩));exact(((E3.trans e8).hH n0).trans m9).dz (li _ _ _) (by omega);refine(ar A j).go (λ_ h=>.inl h) (λb o v c q=>ol D9 (λ_ _ _ e=>by cases e) q) λb o c ho=>(World.putObj_heap_other λe=>?_).trans ho;obtain⟨bw,c1,t1,_⟩:=(ar A j).s.out;obtain⟨bx,c2,t2,_⟩:=(ar A j).k.out;rcases c with rfl|rfl;rw[e,D9]at t2;cases t2;rw[e,D9]at t1;cases t1;exact(bg A j).go (λ_ h=>.inl h) λb o v c q=>ol D9 (λ_ _ _ e=>by cases e) q
def vW{gp mk ms n0 s:Nat}(h:oN gp mk ms H w)(c:∀b,A b->b<w.heap.size)(f:kS A mk ms H w)(l:n0<=ms)(m:s<32)(n:∀d∈fR s,d<H.doors.length):
 Calls V.prog 129 #[dJ gp,.int .u8 s] w (gh λv g=>MR n0 mk ms H w g/\∀a,(∀b,a b->b<w.heap.size)->kS a mk ms H w->ShR a H s v g):=by
 refine(BG (n0:=n0) (F:=λa=>(∀b,a b->b<w.heap.size)/\kS a mk ms H w) h ⟨A,c,f⟩ (λa h=>h.1) (λa h=>h.2) l m n).mono ?_;rintro e g ⟨v,rfl,o,k⟩;exact⟨v,rfl,⟨o,λa i j=>(k a ⟨i,j⟩).1⟩,λa i j=>(k a ⟨i,j⟩).2⟩
def Ed{gp mk ms n0 s:Nat}(h:oN gp mk ms H w)(c:∀b,A b->b<w.heap.size)(f:kS A mk ms H w)(i:n0<=ms)(j:s<32)(k:∀d∈fR s,d<H.doors.length):
 Calls V.prog 129 #[dJ gp,.int .u8 s] w (gh λv a=>jb n0 w a/\kS A mk ms H a/\ShR A H s v a):=by
 refine(vW h c f i j k).mono ?_;rintro e a ⟨v,rfl,g,l⟩;exact⟨v,rfl,g.1,g.2 A c f,l A c f⟩
def MA(n0 mk ms:Nat)(G:Gd)(A:Nat->Prop)(a b:dg):Prop:=jb n0 a b/\(kS A mk ms G a->kS A mk ms G b)
def wL(n0 mk ms:Nat)(G:Gd)(A:Nat->Prop):gq (MA n0 mk ms G A):=⟨λw=>⟨jb.refl _ _,id⟩,λ_ _ _ h k=>⟨h.1.trans k.1,λa=>k.2 (h.2 a)⟩,λw=>⟨(Ext.drew w).hH n0,λa=>a.ext (Ext.drew w)⟩⟩
def Ext.ma(h:Ext w t)(n0 mk ms:Nat)(G:Gd)(A:Nat->Prop):MA n0 mk ms G A w t:=⟨h.hH n0,λa=>a.ext h⟩
def ShR.hH{s n0:Nat}(h:ShR A H s x w)(e:jb n0 w t):ShR A H s x t:=h.go (λ_ h=>.inl h) λb o x c a=>e.cell a
def BH:∀d∈eK H s,d∈fR s:=by
 have rows:∀(l:List Nat) (m:Nat) (b:List Nat) (a:List Bool),(∀d∈b,d∈l)->∀r∈rm l m b a,∀d∈r,d∈l:=by
  intro l m;induction m with
  |zero=>intro b a e r h;simp only[rm,iQ]at h;subst h;exact e
  |succ m n=>
   intro b a e r h;simp only[rm,tH]at h;obtain⟨i,j,h⟩:=h;split at h;cases h;refine n _ _ (λd c=>?_) r h;rcases j8.1 c with c|c;exact e d c;have j:i<l.length:=by simpa using j
   rw[iQ.1 c,getD_eq j];exact fc j
 have f:∀(g:List (List Nat)) (k:List Nat×Int),(∀r∈g,∀d∈r,d∈fR s)->(∀d∈k.1,d∈fR s)->∀d∈(g.foldl (j7 H) k).1,d∈fR s:=by
  intro g;induction g with
  |nil=>intro k _ h;exact h
  |cons r g n=>
   intro k o p;rw[pZ];refine n _ (λx q=>o x (iF _ q)) ?_;unfold j7;split;exact o r iV;exact p
 exact f _ _ (λr e=>rows _ _ _ _ (λd c=>by cases c) r e) λd c=>by cases c
def uw{G:Gd}:(eK G s).length<=5:=by
 have rows:∀(l:List Nat) (m:Nat) (b:List Nat) (a:List Bool),∀r∈rm l m b a,r.length=b.length+m:=by
  intro l m;induction m with
  |zero=>intro b a r h;simp only[rm,iQ]at h;subst h;rfl
  |succ m f=>
   intro b a r h;simp only[rm,tH]at h;obtain⟨i,o,h⟩:=h;split at h;cases h;have:=f _ _ r h;simp at this;omega
 have c:∀(d:List (List Nat)) (e:List Nat×Int),(∀r∈d,r.length<=5)->e.1.length<=5->(d.foldl (j7 G) e).1.length<=5:=by
  intro d;induction d with
  |nil=>intro e _ h;exact h
  |cons r d f=>
   intro e g j;rw[pZ];refine f _ (λx k=>g x (iF _ k)) ?_;unfold j7;split;exact g r iV;exact j
 have p:=me s 5;exact c _ _ (λr n=>by have:=rows _ _ _ _ r n;simp[fR]at this⊢;omega) (by simp)
def BI{gp mk ms n0 s:Nat}{G:Gd}(h:oN gp mk ms G w)(m:∀b,A b->b<w.heap.size)(o:kS A mk ms G w)(p:n0<=ms)(q:s<32)(k:∀d∈fR s,d<G.doors.length):
 Calls V.prog 121 #[dJ gp,.int .u8 s] w (gh λv r=>v=.bool (qk G s)/\MA n0 mk ms G A w r):=by
 have g:=wL n0 mk ms G A;refine go V.func121 Tryz.ntmps121 ?_;refine dT g ?_;refine .rel (ShR A G s) (λv a b h e=>h.hH e.1) (λi f=>dt (Ed (h.hH f.1) (λb t=>eh (m b t) f.1.size) (f.2 o) p q k) λv u ⟨x,y,z⟩=>⟨z,x,λ_=>y⟩) ?_;refine .exact (.int .i64 (nL G (eK G s))) (λi f v l=>?_) ?_;obtain⟨a,c,rfl,B,_⟩:=l;have D:=uw (G:=G) (s:=s);exact eD (Bz (h.hH f.1) (λd j=>k d (BH d j)) (by omega) B.n) λu C=>⟨rfl,C.ma _ _ _ _ _⟩;refine vi g (λi f=>(h.hH f.1).c3) (SQ ?_ g);rintro i f v l;exact⟨_,rfl,rfl,f⟩
section
variable{w:dg}{k:di->dg->Prop}
def tailA(a:Option Addr)(c:Nat):Option Addr:=if c=1 then a else a.map (·.add 1)
def HV(j:1<=m)(l:m<=i)(h:k (.slice (tailA a i) (m-1) (i-1)) w)(d:ty T=some ⟨3,1,1,0⟩:=by rfl):jB V.prog (Instr.sliceAt T (.slice a m i) (some (.int .i64 1)) none none) w k:=by
 obtain⟨e,f,g⟩:=re d rfl;refine⟨_,w,?_,h⟩;have b:(1:Int)<=(m:Int):=by omega
 have c:(0:Int)<=(1:Int):=by omega
 unfold Instr.sliceAt Instr.slice;simp only[Sem.run_bind,gY f,Result.andThen_ok,Instr.sliceBounds,Instr.sliceBound,asIntOf,pure_bind,c,b,and_self,ei,Sem.run_pure,lO g,sM,iw,fp];simp only[Int.toNat_one,Nat.one_mul,tailA]
end
def gi.tail{w:dg}(h:gi w a (m::l))(d:(m::l).length<=i):gi w (tailA a i) l:=λk e=>by
 obtain⟨b,o,f,g⟩:=h (k+1) (by simpa using e);have c:¬i=1:=by simp at d;omega
 refine⟨b,o+1,?_,?_⟩;unfold tailA;rw[dp c,f];simp[iK];rw[show o+1+k=o+(k+1) by omega,g];rfl
def gi.cut{w:dg}(h:gi w a l)(i:Nat):gi w a (l.take i):=λk d=>by
 have c:k<l.length:=by simp at d;omega
 obtain⟨b,o,e,f⟩:=h k c;exact⟨b,o,e,by rw[f];simp⟩
def Md(a:Array di):Prop:=∀(j:Nat) (v:di),a[j]? =some v->∃n:Int,v=Value.int .u8 n
def Ee(a:List Nat):List di:=a.map λn:Nat=>Value.int .u8 n
def Ef(w:dg)(a:Option Addr)(c:List Nat):Prop:=∀k (h:k<c.length),∃b o,a=some ⟨b,o,none⟩/\w.cell? ⟨b,o+k,none⟩=some (.int .u8 c[k])
def Ef.hH{w c:dg}{n0:Nat}(h:Ef w a l)(e:jb n0 w c):Ef c a l:=λk d=>by obtain⟨b,o,f,g⟩:=h k d;exact⟨b,o,f,e.cell g⟩
def vm(f:Nat)(w:dg)(e:di)(a:List Nat):Prop:=(a=[]/\e=.slice none 0 0)\/∃d c b,e=.slice (some ⟨d,0,none⟩) a.length c/\a.length<=c/\f<=d/\w.heap[d]? =some (.cells b 154)/\Md b/\a.length<=b.size/\∀k (h:k<a.length),b[k]? =some (.int .u8 a[k])
def vm.hH{w a:dg}{b:di}{n0:Nat}(h:vm m w b l)(e:jb n0 w a):vm m a b l:=by rcases h with h|⟨d,c,f,g,i,j,k,n⟩;exact .inl h;exact .inr ⟨d,c,f,g,i,j,e.at_ k,n⟩
def vm.row{w:dg}{d:di}(h:vm m w d l):∃a c,d=.slice a l.length c/\l.length<=c/\Ef w a l/\(a=none->l=[]):=by rcases h with⟨rfl,rfl⟩|⟨f,c,o,g,i,p,j,q,r,n⟩;exact⟨none,0,rfl,dC _,λk b=>by simp at b,λ_=>rfl⟩;exact⟨_,c,g,i,λk b=>⟨f,0,rfl,dj j (by rw[dB];exact n k b)⟩,λe=>by cases e⟩
def BJ{w:dg}{v:di}(h:dM m 154 [.int .u8 0] w v l.length (Ee l)):vm m w v l:=by
 obtain⟨y,⟨i,rfl⟩|⟨b,c,n,o,rfl,p,q,r,z,g,s⟩⟩:=h;exact .inl ⟨nZ i,rfl⟩;have t:(Ee l).length=l.length:=by simp[Ee]
 refine .inr ⟨b,c,n,rfl,r,o,p,λj v a=>?_,by simp at q;omega,λk u=>?_⟩;have d:=(fF.1 a).1;rcases fO j (Ee l).length with e|f;rw[g j e]at a;obtain⟨x,_,rfl⟩:=nh.1 (vD a);exact⟨_,rfl⟩;rw[s j f d]at a;simp[Nat.mod_one]at a;exact⟨0,a.symm⟩;rw[g k (by omega)];simp[Ee,fI u]
def kS.Rk{A:Nat->Prop}{mk ms gb:Nat}{w:dg}{C:Array di}(h:kS A mk ms H w)(q:w.heap[gb]? =some (.cells C T))(D:Md C):kS (λx=>A x\/x=gb) mk ms H w:=by
 have E:∀{a:Option Addr} {l:List Nat},ig A w a l->ig (λx=>A x\/x=gb) w a l:=λf k r=>by obtain⟨b,o,j,g,d⟩:=f k r;refine⟨b,o,λi=>i.elim j λe=>?_,g,d⟩;subst e;simp only[World.cell?,q]at d;obtain⟨n,t⟩:=D _ _ d;cases t
 have I:∀{a:Option Addr} {y:List (List Nat)},lE A w a y->lE (λx=>A x\/x=gb) w a y:=λf k r=>by obtain⟨b,o,J,K,j,g,d,m,z⟩:=f k r;refine⟨b,o,J,K,λi=>i.elim j λe=>?_,g,d,E m,z⟩;subst e;simp only[World.cell?,q]at d;obtain⟨n,t⟩:=D _ _ d;cases t
 obtain⟨L,O,F,_⟩:=h.s.out;obtain⟨M,P,G,_⟩:=h.k.out;refine⟨h.s.go (λs v f=>?_) λo B=>B,h.k.go (λs v f=>?_) λo B=>B,λi=>i.elim h.ak λe=>?_,λi=>i.elim h.asm λe=>?_⟩;obtain⟨a,c,g,d,m⟩:=f;exact⟨a,c,g,E d,m⟩;obtain⟨u,b,g,d⟩:=f;refine⟨u,b,g,?_⟩;cases p:hZ H s with
 |none=>rw[p]at d;exact d
 |some y=>
  rw[p]at d;obtain⟨j,a,c,m,z,N⟩:=d;exact⟨j,a,c,m,I z,N⟩
 rw[e,q]at G;cases G;rw[e,q]at F;cases F
def kS.fewer{A a:Nat->Prop}{mk ms:Nat}{w:dg}(h:kS a mk ms H w)(c:∀b,A b->a b):kS A mk ms H w:=h.more λb d=>.inl (c b d)
def nW(G:Gd)(s:Nat):Prop:=s<32/\∀d∈fR s,d<G.doors.length
def Me:∀s:Nat,s<32->∀d:Nat,d<5->∀x∈fR (qi s d),x∈fR s\/x=d:=by decide+kernel
theorem nW.qi(h:nW H s)(a:d<H.doors.length)(c:H.doors.length<=5):nW H (qi s d):=
 ⟨FJ s h.1 d (by omega),λx b=>(Me s h.1 d (by omega) x b).elim (h.2 x) λe=>e▸a⟩
def nW.zero(G:Gd):nW G 0:=⟨by omega,λd a=>by
 have:fR 0=[]:=by decide+kernel
 rw[this]at a;cases a⟩
theorem nW.ja{G:Gd}(c:G.doors.length<=5)(a:∀d∈l,d<G.doors.length):nW G (ja l):=by
 have b:∀(l:List Nat) (s:Nat),nW G s->(∀d∈l,d<G.doors.length)->nW G (setFrom s l):=by
  intro l;induction l with
  |nil=>intro s h _;exact h
  |cons d r e=>intro s h a;exact e _ (h.qi (a d iV) c) λx f=>a x (iF _ f)
 exact b l 0 (nW.zero G) a
def vX{a:Type}{f:Nat->Option a}{k:Nat}{y:a}(g:k<m)(c:∀i,i<k->f i=none)(d:f k=some y):(List.range m).findSome? f=some y:=by obtain⟨b,rfl⟩:∃b,m=k+1+b:=⟨m-(k+1),by omega⟩;rw[List.range_add,qv,List.findSome?_append,List.findSome?_append];have:(List.range k).findSome? f=none:=List.findSome?_eq_none_iff.2 λi e=>c i (by simpa using e);simp[this,d]
def sF{a:Type}{f:Nat->Option a}(b:∀i,i<m->f i=none):(List.range m).findSome? f=none:=List.findSome?_eq_none_iff.2 λi c=>b i (by simpa using c)
def jb.patch{w f h j g:dg}(a:jb m w f)(b:dP (λx=>x=i) f h)(c:jb m h j)(d:dP (λx=>x=i) j g)(n:∀o,f.heap[i]? =some o->g.heap[i]? =some o):jb m w g:=
 ⟨d.os.trans (c.os.trans (b.os.trans a.os)),d.tape.trans (c.tape.trans (b.tape.trans a.tape)),d.output.trans (c.output.trans (b.output.trans a.output)),by have:=a.size;have:=b.size;have:=c.size;have:=d.size;omega,by have:=a.drawn;have:=b.drawn;have:=c.drawn;have:=d.drawn;omega,λx o p k=>by have l:=a.block x o p k;by_cases e:x=i;subst e;exact n o l;exact d.fU (c.block x o (b.fU l e) k) e⟩
end Go.Proofs.W
variable{M Y:List di}
namespace Go.Proofs.W
open Go.RowKit
def Ef.cells{w:dg}{a:Option Addr}{l:List Nat}(h:Ef w a l):iu w a (Ee l):=by
 rcases l with _|⟨x,r⟩;exact .inl rfl;obtain⟨b,o,rfl,_⟩:=h 0 (by simp);refine .inr ⟨b,o,rfl,λj u d=>?_⟩;have c:j<(x::r).length:=by simpa[Ee]using(je.1 d).1
 obtain⟨f,g,e,i⟩:=h j c;obtain⟨rfl,rfl⟩:b=f/\o=g:=by injection e with e;injection e with k m;exact⟨k,m⟩
 rw[i];have:(Ee (x::r))[j]? =some (.int .u8 ((x::r)[j]:Nat)):=by simp only[Ee,sn,fI c];rfl
 rw[this]at d;exact d
def yH{b:List Nat}{c:Nat}(h:Ef w a b)(g:a=none->b=[])(d:b.length<=1000000):Calls V.prog 199 #[.slice a b.length c] w (gh λv f=>Ext w f/\dM w.heap.size 154 [.int .u8 0] f v b.length (Ee b)):=
 LZ a b.length c (Ee b) w (by simp[Ee]) (λe=>by rw[g e];rfl) h.cells (λu i=>by obtain⟨n,_,rfl⟩:=nh.1 i;rfl) d
def sG(n1:Nat)(w:dg)(a:Option Addr)(c:List Nat):Prop:=∀k (h:k<c.length),∃b o,n1<=b/\a=some ⟨b,o,none⟩/\w.cell? ⟨b,o+k,none⟩=some (.int .u8 c[k])
def sG.g{n1:Nat}{c:List Nat}(h:sG n1 w a c):Ef w a c:=λk d=>by obtain⟨b,o,_,e,f⟩:=h k d;exact⟨b,o,e,f⟩
def sG.low{n1 c:Nat}{d:List Nat}(h:sG n1 w a d)(e:c<=n1):sG c w a d:=λk f=>by obtain⟨b,o,g,i,j⟩:=h k f;exact⟨b,o,dS e g,i,j⟩
def sG.hH{n1 n0:Nat}{c:List Nat}(h:sG n1 w a c)(e:jb n0 w t):sG n1 t a c:=λk d=>by obtain⟨b,o,f,g,i⟩:=h k d;exact⟨b,o,f,g,e.cell i⟩
def vm.UH{e:Nat}{b:List Nat}(h:vm e w x b):∃a c,x=.slice a b.length c/\b.length<=c/\sG e w a b:=by rcases h with⟨rfl,rfl⟩|⟨f,c,n,g,i,j,l,o,p,m⟩;exact⟨none,0,rfl,dC _,λk d=>by simp at d⟩;exact⟨_,c,g,i,λk d=>⟨f,0,j,rfl,dj l (by rw[dB];exact m k d)⟩⟩
def dM.low{n0 n1:Nat}{a:Nat}(h:dM n0 T M w x a Y)(g:n1<=n0):dM n1 T M w x a Y:=by obtain⟨d,h|⟨b,c,e,i,f⟩⟩:=h;exact⟨d,.inl h⟩;exact⟨d,.inr ⟨b,c,e,by omega,f⟩⟩
def wM(n1:Nat)(o:Option (List Nat))(v:di)(w:dg):Prop:=match o with
 |some b=>∃a c,v=.tuple #[.slice a b.length c,.bool true]/\sG n1 w a b
 |none=>v=.tuple #[.slice none 0 0,.bool false]
theorem wM.hH{o:Option (List Nat)}{n0 n1:Nat}(h:wM n1 o x w)(e:jb n0 w t):wM n1 o x t:=by
 cases o with
 |none=>exact h
 |some b=>
  obtain⟨a,c,d,f⟩:=h;exact⟨a,c,d,f.hH e⟩
structure MX(n0 n1 mk ms:Nat)(G:Gd)(A:Nat->Prop)(a b:dg):Prop where
 os:b.os=a.os
 tape:b.tape=a.tape
 output:b.output=a.output
 size:a.heap.size<=b.heap.size
 drawn:a.drawn<=b.drawn
 block:∀x o,x<n1->a.heap[x]? =some o->(x<n0\/Re o=false)->b.heap[x]? =some o
 m:kS A mk ms G a->kS A mk ms G b
section
variable{n0 n1 mk ms:Nat}{G:Gd}{A:Nat->Prop}
def UI(n0 n1 mk ms:Nat)(G:Gd)(A:Nat->Prop):gq (MX n0 n1 mk ms G A):=
 ⟨λw=>⟨rfl,rfl,rfl,dC _,dC _,λ_ _ _ h _=>h,id⟩,λa b c h k=>⟨k.os.trans h.os,k.tape.trans h.tape,k.output.trans h.output,dS h.size k.size,dS h.drawn k.drawn,λx o e g f=>k.block x o e (h.block x o e g f) f,λd=>k.m (h.m d)⟩,λw=>⟨rfl,rfl,rfl,dC _,tM _,λ_ _ _ h _=>h,λd=>d.ext (Ext.drew w)⟩⟩
def MA.mx(h:MA n0 mk ms G A w t):MX n0 n1 mk ms G A w t:=⟨h.1.os,h.1.tape,h.1.output,h.1.size,h.1.drawn,λx o _ a b=>h.1.block x o a b,h.2⟩
def MX.hH(h:MX n0 n1 mk ms G A w t)(c:w.heap.size<=n1):jb n0 w t:=⟨h.os,h.tape,h.output,h.size,h.drawn,λx o a b=>h.block x o (by have:=dG.lt_of_heap a;omega) a b⟩
end
theorem vn{gp mk ms n0 most:Nat}{G:Gd}(h:oN gp mk ms G w)(hn:n0<=ms):∀(doors g:List Nat) (A:Nat->Prop) (W:Option Addr) (M:Nat) (gv:di) (J:dg),jb n0 w J->(∀b,A b->b<J.heap.size)->kS A mk ms G J->gi w W doors->doors.length<=M->(∀d∈doors,d<G.doors.length)->vm w.heap.size J gv g->(∀s∈g,nW G s)->doors.length+g.length<=100->
 Calls V.prog 175 #[dJ gp,.slice W doors.length M,gv,.int .i64 most] J (gh λv w'=>MA n0 mk ms G A J w'/\wM J.heap.size (gd G most doors g) v w')
 |[],g,A,W,M,gv,J,hm,hA,hp,hd,F,ag,hg,ah,P=>by obtain⟨a,c,rfl,hc,az,X⟩:=hg.row;refine go V.func175 Tryz.ntmps175 ?_;refine dK (gA (ki rfl (dt (yH az X (by simp at P;omega)) λv w1 hv=>?_)));obtain⟨e1,Q⟩:=hv;obtain⟨a1,c1,rfl,_,N⟩:=(BJ Q).UH;exact⟨_,rfl,e1.ma _ _ _ _ _,a1,c1,rfl,N⟩
 |d::r,g,A,W,M,gv,J,hm,hA,hp,hd,F,ag,hg,ah,P=>by
  have h5:=h.um.many;have aA:d<G.doors.length:=ag d iV;obtain⟨db,aB,aS,C⟩:=hd 0 (by simp);have C:w.cell? ⟨db,aB+0,none⟩=some (.int .i64 d):=C;obtain⟨ga,gc,aC,a8,_,_⟩:=hg.row;have a9:g.length<=100:=by omega
  let f:Nat->Option (List Nat):=λi=>if qk G (qi (g.getD i 0) d)then gd G most r (g.set i (qi (g.getD i 0) d))else none
  have Y:gd G most (d::r) g=match(List.range g.length).findSome? f with
   |some Z=>some Z
   |none=>if g.length<most/\qk G (ja [d])=true then gd G most r (g++[ja [d]])else none:=rfl
  refine go V.func175 Tryz.ntmps175 ?_;rw[aC];refine dK (gA (mX (by simp;omega) ?_));refine dK (eZ (n:=g.length) (λk=>[(0,dJ gp),(1,.slice W (d::r).length M),(2,.slice ga g.length gc),(3,.int .i64 most),(19,.slice ga g.length gc),(20,.int .i64 g.length),(21,.int .i64 k)]) (λk w'=>MA n0 mk ms G A J w'/\vm w.heap.size w' (.slice ga g.length gc) g/\∀i,i<k->f i=none) ⟨⟨rfl,rfl,rfl,rfl,rfl,rfl,rfl,trivial⟩,(wL _ _ _ _ _).refl J,aC▸hg,λi hi=>by omega⟩ ?_ ?_ ?_);rintro k w' S hJ;exact eg ⟨rfl,rfl,⟨rfl,rfl,rfl,rfl,rfl,rfl,rfl,trivial⟩,hJ⟩;rintro k w1 S ⟨D,an,hf⟩;have M1:=hm.trans D.1;obtain⟨X,_⟩|⟨H,c,K,ao,ap,ai,aD,aa,aq,ab⟩:=an;rw[X]at S;simp at S;injection ao with ao _ aE;subst ao;subst aE;have ar:=ah _ (fc S);have au:=ar.qi aA h5;have aF:g.getD k 0=g[k]:=getD_eq S;subst aS;have al:=M1.cell C;refine eP k S (dl (dj aD (by rw[dB];exact ab k S)) (eP 0 (by simp) (dl al (dN (xa _ _ _ ar.1 (by omega)) (dt (BI (h.hH M1) (λb q=>eh (hA b q) D.1.size) (D.2 hp) hn au.1 au.2) ?_)))));rintro v t ⟨rfl,E⟩;have I:=E.1.at_ aD;refine eC ⟨λq=>?_,λq=>?_⟩;have q:qk G (qi g[k] d)=false:=by simpa using q
  refine dD ⟨⟨rfl,rfl,rfl,rfl,rfl,rfl,rfl,trivial⟩,(wL _ _ _ _ _).trans _ _ _ D E,.inr ⟨H,gc,K,rfl,ap,ai,I,aa,aq,ab⟩,λi hi=>?_⟩;rcases fO i k with O|av;exact hf i O;obtain rfl:i=k:=by omega
  simp only[f,aF,q,iw,fp];have q:qk G (qi g[k] d)=true:=by simpa using q
  have aj:f k=gd G most r (g.set k (qi g[k] d)):=by simp only[f,aF,q,ei]
  have aG:=E.1.cell al;have am:(K.setIfInBounds k (.int .u8 (qi g[k] d:Nat))).setIfInBounds k (.int .u8 (g[k]:Nat))=K:=by apply Kc;intro j;by_cases T:k=j;subst T;rw[kq (by simp;omega)];exact(ab k S).symm;rw[eG T,eG T]
  refine eP 0 (by simp) (dl aG (dN (xa _ _ _ ar.1 (by omega)) (eP k S (jj I (by simp[Value.cells];omega) (λp k3 ac=>?_) (gG rfl)))));have ac:p.heap[H]? =some (.cells (K.setIfInBounds k (.int .u8 (qi g[k] d:Nat))) 154):=by rw[ac];simp[gD,Value.cells]
  have aT:Md (K.setIfInBounds k (.int .u8 (qi g[k] d:Nat))):=λj v T=>by by_cases e:k=j;subst e;rw[kq (by omega)]at T;exact⟨_,(dH T).symm⟩;rw[eG e]at T;exact aa j v T
  have M3:jb n0 w p:=(M1.trans E.1).dz k3 ai;have aU:kS (λx=>A x\/x=H) mk ms G p:=((E.2 (D.2 hp)).Rk I aa).keep k3 λb q=>.inr q;have aV:=dG.lt_of_heap ac;have aW:vm w.heap.size p (.slice (some ⟨H,0,none⟩) g.length gc) (g.set k (qi g[k] d)):=by refine .inr ⟨H,gc,_,by rw[xp],by rw[xp];exact ap,ai,ac,aT,by simpa using aq,λj T=>?_⟩;by_cases e:k=j;subst e;rw[kq (by omega),List.getElem_set_self];rw[eG e,List.getElem_set_ne e];exact ab j (by simpa using T)
  have sA:∀b,(A b\/b=H)->b<p.heap.size:=λb q=>q.elim (λh=>by have:=hA b h;have:=D.1.size;have:=E.1.size;have:=k3.size;omega) λe=>e▸aV;refine HV (by simp) F (dt (vn h hn r (g.set k (qi g[k] d)) (λx=>A x\/x=H) (tailA (some ⟨db,aB,none⟩) M) (M-1) (.slice (some ⟨H,0,none⟩) g.length gc) p M3 sA aU (hd.tail F) (by simp at F;omega) (λx U=>ag x (iF _ U)) aW (λs R=>?_) (by simp at P⊢;omega)) ?_);rcases tI R with R|rfl;exact ah s R;exact au;rintro v w4 ⟨m4,y⟩;have aH:=m4.1.at_ ac;have back:∀{w5:dg},dP (λx=>x=H) w4 w5->w5.heap[H]? =some (.cells K 154)->MA n0 mk ms G A J w5:=λk5 z=>by refine⟨D.1.trans (jb.patch E.1 k3 m4.1 k5 λo L=>?_),λhp=>?_⟩;rw[I]at L;rw[z,<-L];exact((m4.2 (((E.2 (D.2 hp)).Rk I aa).keep k3 λb q=>.inr q)).keep k5 λb q=>.inr q).fewer λb q=>.inl q
  cases L:gd G most r (g.set k (qi g[k] d))with
  |some Z=>
   rw[L]at y aj;obtain⟨oa,oc,rfl,aX⟩:=y;refine eP k S (jj aH (by simp[Value.cells];omega) (λw5 k5 z=>ki rfl ?_) (gG rfl));have z:w5.heap[H]? =some (.cells K 154):=by
    rw[z];have:gD (K.setIfInBounds k (.int .u8 (qi g[k] d:Nat))) (0+k) (Value.cells (.int .u8 (g[k]:Nat))).toList=(K.setIfInBounds k (.int .u8 (qi g[k] d:Nat))).setIfInBounds k (.int .u8 (g[k]:Nat)):=by simp[gD,Value.cells]
    rw[this,am]
   refine⟨_,rfl,back k5 z,?_⟩;rw[Y,vX S hf aj];refine⟨oa,oc,rfl,λj T=>?_⟩;obtain⟨b,o,x0,x1,x2⟩:=aX j T;have y1:=D.1.size;have y2:=E.1.size;have y3:=k3.size;exact⟨b,o,by omega,x1,k5.fh x2 (by show¬b=H;omega)⟩
  |none=>
   rw[L]at y aj;have y:v=.tuple #[.slice none 0 0,.bool false]:=y;subst y;refine eP k S (jj aH (by simp[Value.cells];omega) (λw5 k5 z=>mX rfl ?_) (gG rfl));have z:w5.heap[H]? =some (.cells K 154):=by
    rw[z];have:gD (K.setIfInBounds k (.int .u8 (qi g[k] d:Nat))) (0+k) (Value.cells (.int .u8 (g[k]:Nat))).toList=(K.setIfInBounds k (.int .u8 (qi g[k] d:Nat))).setIfInBounds k (.int .u8 (g[k]:Nat)):=by simp[gD,Value.cells]
    rw[this,am]
   refine dD ⟨⟨rfl,rfl,rfl,rfl,rfl,rfl,rfl,trivial⟩,back k5 z,.inr ⟨H,gc,K,rfl,ap,ai,z,aa,aq,ab⟩,λi hi=>?_⟩;rcases fO i k with O|av;exact hf i O;obtain rfl:i=k:=by omega
   exact aj
  rintro w1 ⟨D,an,hf⟩;have M1:=hm.trans D.1;have aI:=D.2 hp;have aJ:gd G most (d::r) g=if g.length<most/\qk G (ja [d])=true then gd G most r (g++[ja [d]])else none:=by rw[Y,sF hf]
  have no:∀t,MA n0 mk ms G A J t->¬(g.length<most/\qk G (ja [d])=true)->∃v,Ending.returned (one [.slice none 0 0,.bool false])=.returned v/\MA n0 mk ms G A J t/\wM J.heap.size (gd G most (d::r) g) v t:=λt m aY=>⟨_,rfl,m,by rw[aJ,dp aY];rfl⟩;have ad:=nW.ja (G:=G) h5 (l:=[d]) λx U=>by rw[iQ.1 U];exact aA
  have ba:1<=M:=by simp at F;omega
  have N:∀{t},jb n0 w t->gi t W [d]:=λm=>(hd.hH m).cut 1;have ae:∀{t},jb n0 w t->Calls V.prog 122 #[.slice W 1 M] t (gh λv w'=>v=.int .u8 (ja [d])/\w'=t):=λm=>rT [d] W M _ (N m) (λx U=>by rw[iQ.1 U];omega) (by simp);refine dK (eg ⟨λO=>?_,λav=>mX rfl (no w1 D λU=>?_)⟩);have O:g.length<most:=by simpa using O
  refine kC 1 (by omega) (dN (ae M1) (dt (BI (h.hH M1) (λb q=>eh (hA b q) D.1.size) aI hn ad.1 ad.2) ?_));rintro v t ⟨rfl,E⟩;refine⟨λR=>?_,λR=>no t ((wL _ _ _ _ _).trans _ _ _ D E) λU=>by rw[R]at U;cases U.2⟩;have M2:=M1.trans E.1;have aZ:=E.2 aI;have a0:=an.hH E.1;obtain⟨_,_,aK,_,aL,aM⟩:=a0.row;injection aK with e1 _ e2;subst e1;subst e2;have hE:=wL n0 mk ms G A;refine io 9 hE (UI n0 t.heap.size mk ms G A) (λa b h=>h.mx) ?_;have aN:∀{p},MX n0 t.heap.size mk ms G A t p->jb n0 w p:=λe=>M2.trans (e.hH (dC _));refine .exact (.slice (tailA W M) r.length (M-1)) (λp B=>HV (by simp) F ⟨rfl,hE.refl _⟩) ?_;refine .IS (λv p=>dM t.heap.size 154 [.int .u8 0] p v g.length (Ee g)) (λv a b Q e=>Q.hH e.1) (λp B=>dt (yH (aL.hH (B.hH (dC _))) aM (by omega)) λv w4 ⟨e4,Q⟩=>⟨Q.low B.size,e4.ma _ _ _ _ _⟩) ?_;refine .exact (.slice W 1 M) (λp B=>kC 1 (by omega) ⟨rfl,hE.refl _⟩) ?_;refine .exact (.int .u8 (ja [d])) (λp B _ _=>dN (ae (aN B)) ⟨rfl,hE.refl _⟩) ?_;refine .IS (λv p=>∃nb,v=.slice (some ⟨nb,0,none⟩) 1 1/\p.heap[nb]? =some (.cells [Value.int .u8 (ja [d]:Nat)].toArray 154)) (λv a b ⟨nb,h1,h2⟩ e=>⟨nb,h1,e.1.at_ h2⟩) (λp B=>eQ [Value.int .u8 (ja [d]:Nat)] 154 λw4 nb e4 aO q=>⟨⟨nb,rfl,q⟩,e4.ma _ _ _ _ _⟩) ?_;refine .spec (λv p=>dM t.heap.size 154 [.int .u8 0] p v (g.length+1) (Ee g++[.int .u8 (ja [d]:Nat)])) (λv a b Q e=>Q.hH e.1) (λp B a2 a3 a4 af=>?_) ?_;obtain⟨nb,rfl,aO⟩:∃nb,a2=.slice (some ⟨nb,0,none⟩) 1 1/\p.heap[nb]? =some (.cells [Value.int .u8 (ja [d]:Nat)].toArray 154):=a3;have af:dM t.heap.size 154 [.int .u8 0] p a4 g.length (Ee g):=af;refine iM LW af B.1.size aO (by omega) λv' w4 g1 g2 g3=>⟨g1,g2.os,g2.tape,g2.output,g2.size,g2.drawn,λx o U L hm=>g2.fU L λq=>?_,λaP=>?_⟩;have:=(af.blk q).1;omega;rcases BJ af with⟨_,rfl⟩|⟨H,c,K,rfl,_,_,z1,z2,_⟩;exact aP.keep g2 λb q=>by obtain⟨_,_,q⟩:=q;cases q
  refine((aP.Rk z1 z2).keep g2 λb q=>.inr ?_).fewer λb q=>.inl q;obtain⟨_,_,q⟩:=q;injection q with q;have:=dQ Addr.block (dH q);exact this.symm;refine .late rfl (λv p=>wM t.heap.size (gd G most r (g++[ja [d]])) v p) (λv a b Q e=>Q.hH e.1) (λp B ak aw=>?_) ?_;have aw:dM t.heap.size 154 [.int .u8 0] p ak (g.length+1) (Ee g++[.int .u8 (ja [d]:Nat)]):=aw;have ax:(g++[ja [d]]).length=g.length+1:=by simp
  have a5:vm t.heap.size p ak (g++[ja [d]]):=BJ (by rw[ax];simpa[Ee]using aw);have sA:∀b,A b->b<p.heap.size:=λb q=>by have:=hA b q;have:=D.1.size;have:=E.1.size;have:=B.size;omega
  have aQ:vm w.heap.size p ak (g++[ja [d]]):=by rcases a5 with h|⟨H,c,K,x1,x2,x3,x4⟩;exact .inl h;exact .inr ⟨H,c,K,x1,x2,by have:=M2.size;omega,x4⟩
  refine dt (vn h hn r (g++[ja [d]]) A (tailA W M) (M-1) ak p (aN B) sA (B.m aZ) (hd.tail F) (by simp at F;omega) (λx U=>ag x (iF _ U)) aQ (λs R=>?_) (by simp at P⊢;omega)) λv w4 ⟨m4,y⟩=>⟨?_,m4⟩;rcases j8.1 R with R|R;exact ah s R;rw[iQ.1 R];exact ad;cases L:gd G most r (g++[ja [d]])with
  |none=>rw[L]at y;exact y
  |some Z=>
   rw[L]at y;obtain⟨a,c,x1,x2⟩:=y;exact⟨a,c,x1,x2.low B.size⟩
  let o:=gd G most r (g++[ja [d]])
  have aR:∀{v p},wM t.heap.size o v p->∃u,v=.tuple #[u,.bool o.isSome]/\wM t.heap.size o (.tuple #[u,.bool o.isSome]) p:=λ{v p} hv=>by
   cases L:o with
   |none=>rw[L]at hv;have hv:v=_:=hv;subst hv;exact⟨_,rfl,rfl⟩
   |some Z=>rw[L]at hv;obtain⟨a,c,rfl,x⟩:=hv;exact⟨_,rfl,a,c,rfl,x⟩
  refine .late rfl (λu p=>wM t.heap.size o (.tuple #[u,.bool o.isSome]) p) (λv a b Q e=>Q.hH e.1) (λp B a6 ay=>?_) ?_;obtain⟨u,rfl,hu⟩:=aR ay;exact⟨hu,hE.refl _⟩;refine .exact (.bool o.isSome) (λp B a6 ay=>?_) ?_;obtain⟨u,rfl,hu⟩:=aR ay;exact⟨rfl,hE.refl _⟩;refine .late rfl (λu p=>wM t.heap.size o (.tuple #[u,.bool o.isSome]) p) (λv a b Q e=>Q.hH e.1) (λp B bb a7=>by intro _ _ _ _ _ _ _ _;exact⟨a7,hE.refl _⟩) ?_;intro p B v8 h8 _ _ _ _ _ _ _ _ _ _;have h8:wM t.heap.size o (.tuple #[v8,.bool o.isSome]) p:=h8;refine⟨_,rfl,⟨D.1.trans (E.1.trans (B.hH (dC _))),λhp=>B.m (E.2 (D.2 hp))⟩,?_⟩;rw[aJ,dr ⟨O,R⟩];show wM J.heap.size o (.tuple #[v8,.bool o.isSome]) p;cases L:o with
  |none=>rw[L]at h8;exact h8
  |some Z=>
   rw[L]at h8;obtain⟨a,c,x1,x2⟩:=h8;exact⟨a,c,x1,x2.low (by have:=D.1.size;have:=E.1.size;omega)⟩
  have:=eH av;omega
end Go.Proofs.W
variable{P:dq}
namespace Go.Proofs.W
open Go.RowKit
def WX(Q:QW):QW
 | .goto _,_,_=>False
 | .normal,l,w=>Q .normal l w
 | .exit i,l,w=>Q (.exit i) l w
 | .ret,l,w=>Q .ret l w
 | .panic c,l,w=>Q (.panic c) l w
 | .outgrown,l,w=>Q .outgrown l w
def Mf{N:Nat}{c:Code}{l:L}{w:dg}{Q:QW}(h:WC V.prog FY N c (WX Q) l w):fE V.prog N (.scope c) l w Q:=by
 refine⟨λa f=>wp_scope_straight (kH (iJ er c _ l a w f h) ?_)⟩;rintro e j k ⟨g,b,d⟩;cases e with
 |goto i=>exact d.elim
 |_=>exact⟨g,b,d⟩
def WY(a b c d e:Bool)(x y:dZ)(w:dg):Sem.run V.prog (do eqGuard .eql 217 x y (.agg #[.bool a,.bool b,.bool c,.bool d,.bool e]) (.agg #[.bool false,.bool false,.bool false,.bool false,.bool false]);binOp .eql 217 (.agg #[.bool a,.bool b,.bool c,.bool d,.bool e]) (.agg #[.bool false,.bool false,.bool false,.bool false,.bool false])) w=.ok (.bool (!(a||b||c||d||e))) w:=by cases a<;>cases b<;>cases c<;>cases d<;>cases e<;>kernel_rfl
def fE.kJ{N:Nat}{c:Code}{l l0:L}{w:dg}{Q:QW}(b:Sub l0 l)(h:fE P N c l0 w Q):fE P N c l w Q:=⟨λa d=>h.out a (d.sub b)⟩
def fE.mono{N:Nat}{c:Code}{l:L}{w:dg}{Q d:QW}(f:∀e l w,Q e l w->d e l w)(h:fE P N c l w Q):fE P N c l w d:=⟨λa g=>kH (h.out a g) (by rintro e k m ⟨i,b,j⟩;exact⟨i,b,f _ _ _ j⟩)⟩
def UJ(a:L)(F:dg->Prop)(Q:QW):QW
 | .normal,l,w=>Sub a l/\F w
 | .goto i,l,w=>Q (.goto i) l w
 | .exit i,l,w=>Q (.exit i) l w
 | .ret,l,w=>Q .ret l w
 | .panic c,l,w=>Q (.panic c) l w
 | .outgrown,l,w=>Q .outgrown l w
def Rl{N:Nat}{c:Code}{l:L}{w:dg}{Q:QW}(a:L)(F:dg->Prop)(h:fE P N c l w (UJ a F Q))(b:∀l w,Sub a l->F w->Q .normal l w):fE P N c l w Q:=
 h.mono λe l w h=>by
  cases e with
  |normal=>exact b l w h.1 h.2
  |_=>exact h
def ig.c{A:Nat->Prop}{w d:dg}{a:Option Addr}{l:List Nat}(h:ig A w a l)(e:∀b o v,¬A b->w.cell? ⟨b,o,none⟩=some v->d.cell? ⟨b,o,none⟩=some v):ig A d a l:=h.go (λ_ h=>.inl h) e
def yI(A:Nat->Prop)(e:Nat)(w:dg)(v:di)(b:List (List Nat)):Prop:=∃d,dM e 27 [.slice none 0 0] w v b.length d/\d.length=b.length/\∀k (h:k<b.length),∃a c,d[k]? =some (.slice a b[k].length c)/\ig A w a b[k]/\b[k].length<=c
theorem yI.hH{A:Nat->Prop}{b n0:Nat}{w d:dg}{f:List (List Nat)}(h:yI A b w x f)(e:jb n0 w d):yI A b d x f:=by obtain⟨g,i,j,l⟩:=h;refine⟨g,i.hH e,j,λk m=>?_⟩;obtain⟨a,c,n,o,p⟩:=l k m;exact⟨a,c,n,o.hH e,p⟩
theorem yI.keep{A:Nat->Prop}{d:Nat}{w e:dg}{f:List (List Nat)}{F:Nat->Prop}(h:yI A d w x f)(k:dP F w e)(g:∀b,F b->A b)(j:∀b,dw x b->¬F b):yI A d e x f:=by obtain⟨l,m,n,p⟩:=h;refine⟨l,m.keep k j,n,λi q=>?_⟩;obtain⟨a,c,r,s,t⟩:=p i q;exact⟨a,c,r,s.c λb o x u v=>k.fh v λy=>u (g b y),t⟩
def yI.out{A A':Nat->Prop}{i:Nat}{w:dg}{d:List (List Nat)}(h:yI A i w x d)(l:∀b,A' b->A b)(e:∀b,A' b->b<i):∃a c,x=.slice a d.length c/\lE A' w a d/\d.length<=c:=by obtain⟨u,⟨v,⟨m,rfl⟩|⟨b,c,y,z,rfl,n,B,o,C,p,D⟩⟩,E,f⟩:=h;exact⟨none,0,by rw[m],λk j=>by omega,by omega⟩;refine⟨_,c,rfl,λk j=>?_,o⟩;obtain⟨a,q,r,s,t⟩:=f k j;exact⟨b,0,a,q,λg=>by have:=e b g;omega,rfl,dj n (by rw[dB,p k (by omega)];exact r),s.more λb g=>.inl (l b g),t⟩
structure MF(F:Nat->Prop)(n0 mk ms:Nat)(G:Gd)(A:Nat->Prop)(a b:dg):Prop where
 os:b.os=a.os
 tape:b.tape=a.tape
 output:b.output=a.output
 size:a.heap.size<=b.heap.size
 drawn:a.drawn<=b.drawn
 block:∀x o,¬F x->a.heap[x]? =some o->(x<n0\/Re o=false)->b.heap[x]? =some o
 m:(∀x,A x->x<a.heap.size)->kS A mk ms G a->kS A mk ms G b
section
variable{F:Nat->Prop}{n0 mk ms:Nat}{G:Gd}{A:Nat->Prop}{a b w0:dg}
def Ge(F:Nat->Prop)(n0 mk ms:Nat)(G:Gd)(A:Nat->Prop):gq (MF F n0 mk ms G A):=
 ⟨λw=>⟨rfl,rfl,rfl,dC _,dC _,λ_ _ _ h _=>h,λ_ h=>h⟩,λa b c h k=>⟨k.os.trans h.os,k.tape.trans h.tape,k.output.trans h.output,dS h.size k.size,dS h.drawn k.drawn,λx o d i f=>k.block x o d (h.block x o d i f) f,λg e=>k.m (λx d=>eh (g x d) h.size) (h.m g e)⟩,λw=>⟨rfl,rfl,rfl,dC _,tM _,λ_ _ _ h _=>h,λ_ e=>e.ext (Ext.drew w)⟩⟩
def MR.mf(h:MR n0 mk ms G a b):MF F n0 mk ms G A a b:=⟨h.1.os,h.1.tape,h.1.output,h.1.size,h.1.drawn,λx o _ c d=>h.1.block x o c d,λe f=>h.2 A e f⟩
def MF.at_(h:MF F n0 mk ms G A a b){x:Nat}{c:Nat×Nat}(d:¬F x)(e:a.heap[x]? =some (.cells W T c)):b.heap[x]? =some (.cells W T c):=h.block x _ d e (.inr rfl)
def MF.cell(d:MF F n0 mk ms G A a b)(e:¬F h.block)(c:a.cell? h=some x):b.cell? h=some x:=by unfold World.cell? at c⊢;split at c;rename_i g t i f;rw[d.at_ e f];exact c;cases c
def MF.after(h:MF F n0 mk ms G A a b)(m:jb n0 w0 a)(e:∀x,F x->w0.heap.size<=x):jb n0 w0 b:=
 ⟨h.os.trans m.os,h.tape.trans m.tape,h.output.trans m.output,dS m.size h.size,dS m.drawn h.drawn,λx o c d=>h.block x o (λf=>by have:=e x f;have:=dG.lt_of_heap c;omega) (m.block x o c d) d⟩
def MF.Mg(k:dP F a b)(c:∀x,F x->A x):MF F n0 mk ms G A a b:=⟨k.os,k.tape,k.output,k.size,k.drawn,λx o d e _=>k.fU e d,λ_ f=>f.keep k c⟩
end
def S9:∀s:Nat,s<32->(!(s.testBit 0||s.testBit 1||s.testBit 2||s.testBit 3||s.testBit 4))=decide (s=0):=by decide+kernel
end Go.Proofs.W
variable{D E:Bool}
namespace Go.Proofs.W
open Go.RowKit
def Jb.go2{o:Option (List (List Nat))}(h:Jb A o x D w)(a:∀D,B D->A D\/w.heap.size<=D)(b:∀D o x,¬A D->w.cell? ⟨D,o,none⟩=some x->t.cell? ⟨D,o,none⟩=some x):Jb B o x D t:=h.go a b
def yJ(a:s≠0):hZ H s=((List.range (fR s).length).findSome? λm=>gd H (m+1) (fR s) []).map λb=>b.map (eK H):=by rw[hZ,dp a]
def AF(s:Nat):(fR s).length<=5:=me s 5
theorem rn(g:H.doors.length<=5){most:Nat}:∀(doors c a:List Nat),(∀d∈doors,d<H.doors.length)->(∀s∈c,nW H s)->gd H most doors c=some a->(∀s∈a,nW H s)/\a.length<=c.length+doors.length
 |[],c,a,_,e,h=>by simp only[gd,gx]at h;subst h;exact⟨e,by simp⟩
 |d::r,c,a,n,e,h=>by
  have f:=n d iV;have p:∀x∈r,x<H.doors.length:=λx k=>n x (iF _ k);simp only[gd]at h;split at h;rename_i o q;obtain rfl:=dH h;obtain⟨i,j,l⟩:=Kf q;split at l;have j:i<c.length:=by simpa using j
  have m:nW H (c.getD i 0):=by rw[getD_eq j];exact e _ (fc j)
  have:=rn g r _ _ p (λs b=>by rcases tI b with b|rfl;exact e s b;exact m.qi f g) l;simp only[xp,fq]at this⊢;exact⟨this.1,by omega⟩;cases l;split at h;have:=rn g r _ _ p (λs b=>by rcases j8.1 b with b|b;exact e s b;rw[iQ.1 b];exact nW.ja g λx k=>by rw[iQ.1 k];exact f) h;simp only[kN,fq,gl]at this⊢;exact⟨this.1,by omega⟩;cases h
def yK{gp mk ms n0 s:Nat}(h:oN gp mk ms H w)(hA:∀b,A b->b<w.heap.size)(hp:kS A mk ms H w)(aU:n0<=mk)(hn:n0<=ms)(hs:nW H s):
 Calls V.prog 130 #[dJ gp,.int .u8 s] w (gh λv B=>MA n0 mk ms H A w B/\∃u b,v=.tuple #[u,.bool b]/\Jb A (hZ H s) u b B):=by
 have h5:=h.um.many;refine go V.func130 Tryz.ntmps130 ?_;refine Mf ?_;refine dt (I4 s w hs.1) ?_;rintro v w1 ⟨rfl,e1⟩;refine fJ λw2 Q e2 bo aB=>ee aB λw3 k3 C=>?_;have C:w3.heap[Q]? =some (.cells (pL s).toArray 217):=C.trans (dQ (λa=>some (Obj.cells a 217)) (fo (sD 217).toArray (pL s) rfl));have E3:Ext w w3:=(e1.trans e2).dz k3 (by have:=e1.size;omega);have ar:∀{B},B.heap[Q]? =some (.cells (pL s).toArray 217)->∀{k:di->dg->Prop},k (oG s) B->jB V.prog (Instr.loadAt 217 (.pointer (some ⟨Q,0,none⟩))) B k:=λd k hk=>eB (vs:=pL s) (λj v hj=>by rw[dB];exact dj d (by simpa using hj)) hk;refine ar C (eJ (.agg #[.bool false,.bool false,.bool false,.bool false,.bool false]) ?_);refine⟨_,w3,WY _ _ _ _ _ _ _ w3,?_⟩;rw[S9 s hs.1];refine⟨λh0=>?_,λh0=>?_⟩;have h0:s=0:=eA h0;subst h0;exact⟨_,rfl,E3.ma _ _ _ _ _,_,_,rfl,rfl,none,0,rfl,λk hk=>by simp at hk,dC _⟩;have h0:s≠0:=eH h0;have h3:=h.ext E3;have aV:=hp.ext E3;obtain⟨aW,am,an⟩:=HI Mb L9 (z:=.agg #[.slice none 0 0,.bool false]) (by intro w;kernel_rfl) aV.k hs.1;have aX:∃u b ok,aW=.tuple #[.agg #[u,.bool b],.bool ok]/\u.oneCell'=true/\((ok=true/\Jb A (hZ H s) u b w3)\/ok=false):=by
  rcases am with⟨v,rfl,u,b,rfl,hw⟩|rfl;refine⟨u,b,true,rfl,?_,.inl ⟨rfl,hw⟩⟩;cases aC:hZ H s with
  |none=>rw[aC]at hw;rw[hw.1];rfl
  |some ls=>rw[aC]at hw;obtain⟨_,a,c,rfl,_⟩:=hw;rfl
  exact⟨_,_,false,rfl,rfl,.inr rfl⟩
 obtain⟨u,b,ok,rfl,aY,aD⟩:=aX;have aZ:ti [u,.bool b]=true:=by simp only[ti,aY];rfl
 have bp:Q<w3.heap.size:=dG.lt_of_heap C;refine io 10 dO (im (λx=>w3.heap.size<=x)) (λa b h=>h.keep _) ?_;have ah:∀{U},dP (λx=>w3.heap.size<=x) w3 U->Ext w3 U:=λe=>e.ext λb d f=>by omega
 refine .exact (.map (some mk)) (λU e4=>dl ((ah e4).cell h3.VF) ⟨rfl,Ext.refl _⟩) (.exact (oG s) (λU e4=>ar ((ah e4).at_ C) ⟨rfl,Ext.refl _⟩) (.exact _ (λU e4=>⟨_,_,an U λo ho=>(ah e4).at_ ho,rfl,Ext.refl _⟩) ?_));refine .IS (λv U=>∃r,v=.pointer (some ⟨r,0,none⟩)/\w3.heap.size<=r/\U.heap[r]? =some (.cells (sD 220).toArray 220)) (λv a b ⟨r,h1,h2,h3⟩ e=>⟨r,h1,h2,e.at_ h3⟩) (λU e4=>fJ λw5 r e5 ai d=>⟨⟨r,rfl,dS e4.size ai,d⟩,e5⟩) ?_;refine .vQ (λvs U=>∃r,vs=[.pointer (some ⟨r,0,none⟩)]/\w3.heap.size<=r/\U.heap[r]? =some (.cells #[u,.bool b] 220)) (λvs a b ⟨r,h1,h2,h3⟩ e=>⟨r,h1,h2,e.at_ h3⟩) (λU e4 v7 h7=>?_) ?_;obtain⟨r,rfl,g1,g2⟩:=h7;exact jj g2 (oS rfl) (λw5 k5 a0=>⟨⟨r,rfl,g1,a0⟩,k5.trans (dP.refl (λ_=>False) w5) (λx _ f=>by subst f;exact g1) λ_ _ h=>h.elim⟩) (gG aZ);intro U e4 v7 _ hJ;obtain⟨bq,aE,g1,g2⟩:=hJ;simp only[pY,and_true]at aE;subst aE;have W:=ah e4;refine⟨λhk=>?_,λhk=>?_⟩;refine dT dO (dI (dj g2 rfl) (dI (dj g2 rfl) λw5 e5=>?_));have hw:=aD.elim (λh=>h.2) λh=>by rw[hk]at h;cases h
 exact⟨_,rfl,((E3.trans W).trans e5).ma _ _ _ _ _,u,b,rfl,hw.go2 (λ_ h=>.inl h) λb o v d F=>(W.trans e5).cell F⟩;clear aD am an;refine fJ λw5 p e5 br R=>?_;have R:w5.heap[p]? =some (.cells #[.slice none 0 0,.bool false] 220):=R;have E5:Ext w w5:=(E3.trans W).trans e5;have bs:=dG.lt_of_heap R;have s3:=E3.size;have bt:=W.size;have ao:=(W.trans e5).at_ C;have a1:kS (λx=>A x\/x=p) mk ms H w5:=((hp.ext (E3.trans W)).more (A':=λx=>A x\/x=p) λx f=>f.imp id λe=>by omega).ext e5;refine dt (uq s w5 hs.1) ?_;rintro lv w6 ⟨e6,a2⟩;obtain⟨la,lc,rfl,a3,bu⟩:=a2.row;have bv:=AF s;refine dK ?_;refine Rl [(0,dJ gp),(6,dJ Q),(9,dJ p)] (λB=>MA n0 mk ms H A w B/\B.heap[Q]? =some (.cells (pL s).toArray 217)/\∃u b,B.heap[p]? =some (.cells #[u,.bool b] 220)/\Jb A (hZ H s) u b B) ?_ ?_;refine eZ (n:=(fR s).length) (λk=>[(0,dJ gp),(1,.int .u8 s),(6,dJ Q),(9,dJ p),(36,.int .i64 (fR s).length),(37,.int .i64 k)]) (λk B=>jb n0 w B/\kS (λx=>A x\/x=p) mk ms H B/\B.heap[Q]? =some (.cells (pL s).toArray 217)/\B.heap[p]? =some (.cells #[.slice none 0 0,.bool false] 220)/\∀i,i<k->gd H (i+1) (fR s) []=none) ⟨⟨rfl,rfl,rfl,rfl,rfl,rfl,trivial⟩,(E5.trans e6).hH n0,a1.ext e6,e6.at_ ao,e6.at_ R,λi hi=>by omega⟩ ?_ ?_ ?_;rintro k B hk hJ;exact eg ⟨rfl,rfl,⟨rfl,rfl,rfl,rfl,rfl,rfl,trivial⟩,hJ⟩;rintro k w7 hk ⟨m7,aa,D,t,I⟩;refine dt (uq s w7 hs.1) ?_;rintro bw w8 ⟨K,a4⟩;obtain⟨da,dc,rfl,au,a5⟩:=a4.row;have m8:=m7.trans (K.hH n0);have L:=aa.ext K;refine dD ?_;have av:∀b,(A b\/b=p)->b<w8.heap.size:=λb d=>d.elim (λd=>by have:=hA b d;have:=m8.size;omega) λe=>e▸dG.lt_of_heap (K.at_ t);have aF:=vn (most:=k+1) (h.hH m8) hn (fR s) [] (λx=>A x\/x=p) da dc (.slice none 0 0) w8 (jb.refl _ _) av L au a5 hs.2 (.inl ⟨rfl,rfl⟩) (λx f=>by cases f) (by simp;omega);rw[show((k+1:Nat):Int)=(k:Int)+1 by omega]at aF;refine dt aF ?_;rintro v w9 ⟨S,X⟩;cases ho:gd H (k+1) (fR s) []with
 |none=>
  rw[ho]at X;have X:v=.tuple #[.slice none 0 0,.bool false]:=X;subst X;refine eC (ki rfl (dD ⟨⟨rfl,rfl,rfl,rfl,rfl,rfl,trivial⟩,m8.trans S.1,S.2 L,S.1.at_ (K.at_ D),S.1.at_ (K.at_ t),λi hi=>?_⟩));rcases fO i k with aj|aG;exact I i aj;obtain rfl:i=k:=by omega
  exact ho
 |some E=>
  rw[ho]at X;obtain⟨ga,gc,rfl,a6⟩:=X;refine eC (mX rfl (dK ?_));obtain⟨aH,aI⟩:=rn h5 (fR s) [] E hs.2 (λx f=>by cases f) ho;have aI:E.length<=5:=by simp at aI;omega
  have s5:=e6.size;have s8:=m8.size;have s9:=S.1.size;have bm:p<w8.heap.size:=dG.lt_of_heap (K.at_ t);have bn:Q<w8.heap.size:=dG.lt_of_heap (K.at_ D);have aJ:Q≠p:=by have:=dG.lt_of_heap ao;have:=dG.lt_of_heap C;omega
  have aw:∀b,¬dw (.slice none 0 0) b:=λb d=>by obtain⟨_,_,d⟩:=d;cases d
  refine iE (n:=E.length) (λj v=>[(0,dJ gp),(6,dJ Q),(9,dJ p),(51,.slice ga E.length gc),(52,.int .i64 E.length),(53,.int .i64 j)]) (λj v B=>jb n0 w B/\w9.heap.size<=B.heap.size/\kS (λx=>(A x\/x=p)\/dw v x) mk ms H B/\B.heap[Q]? =some (.cells (pL s).toArray 217)/\B.heap[p]? =some (.cells #[v,.bool false] 220)/\yI (λx=>(A x\/x=p)\/dw v x) w9.heap.size B v ((E.take j).map (eK H))/\∀k (h:k<E.length),∃b o,(w8.heap.size<=b/\b<w9.heap.size)/\ga=some ⟨b,o,none⟩/\B.cell? ⟨b,o+k,none⟩=some (.int .u8 E[k])) (.slice none 0 0) ⟨⟨rfl,rfl,rfl,rfl,rfl,rfl,trivial⟩,m8.trans S.1,dC _,(S.2 L).more λb d=>d.elim .inl λd=>absurd d (aw b),S.1.at_ (K.at_ D),S.1.at_ (K.at_ t),⟨[],dM.nil _ _ _ _,rfl,λk hk=>by simp at hk⟩,λi hi=>?_⟩ ?_ ?_ ?_;obtain⟨b,o,x0,x1,x2⟩:=a6 i hi;exact⟨b,o,⟨x0,pi x2⟩,x1,x2⟩;rintro j v M hj hJ;exact eg ⟨rfl,rfl,⟨rfl,rfl,rfl,rfl,rfl,rfl,trivial⟩,hJ⟩;rintro j v M hj ⟨ax,a7,N,P,J,G,ab⟩;obtain⟨gb,bx,bz,aK,a8⟩:=ab j hj;have f:=aH _ (fc hj);have y:∀b,dw v b->w9.heap.size<=b/\b<M.heap.size:=λb d=>by obtain⟨us,Y,_⟩:=G;exact Y.blk d
  have T:∀b,((A b\/b=p)\/dw v b)->b<M.heap.size:=λb d=>d.elim (λd=>by have:=av b d;omega) λd=>(y b d).2;subst aK;refine eP j hj (dl a8 ?_);refine io 6 (UE n0 mk ms H) (Ge (dw v) n0 mk ms H (λx=>(A x\/x=p)\/dw v x)) (λa b h=>h.mf) ?_;have aL:¬dw v p:=λd=>by have:=(y p d).1;omega
  have a9:¬dw v Q:=λd=>by have:=(y Q d).1;omega
  have aM:∀{g},MF (dw v) n0 mk ms H (λx=>(A x\/x=p)\/dw v x) M g->jb n0 w g:=λe=>e.after ax λx f=>by have:=(y x f).1;omega
  refine .exact v (λg q=>dl (dj (q.at_ aL J) rfl) ⟨rfl,MR.refl _⟩) ?_;refine .rel (λu g=>ShR (λx=>(A x\/x=p)\/dw v x) H E[j] u g) (λu a b hu e=>hu.go (λ_ h=>.inl h) λb o x d F=>e.cell (λhf=>d (.inr hf)) F) (λg q=>?_) ?_;have ac:∀b,((A b\/b=p)\/dw v b)->b<g.heap.size:=λb d=>eh (T b d) q.size;exact dt (vW (h.hH (aM q)) ac (q.m T N) hn f.1 f.2) λu ad ⟨ba,bb⟩=>⟨bb _ ac (q.m T N),ba⟩;refine .rel (λx g=>∃r u,x=.slice (some ⟨r,0,none⟩) 1 1/\M.heap.size<=r/\g.heap[r]? =some (.cells [u].toArray 27)/\ShR (λx=>(A x\/x=p)\/dw v x) H E[j] u g) (λx a b ⟨r,u,h1,h2,h3,h4⟩ e=>⟨r,u,h1,h2,e.at_ (λhf=>by have:=(y r hf).2;omega) h3,h4.go (λ_ h=>.inl h) λb o x d F=>e.cell (λhf=>d (.inr hf)) F⟩) (λg q u hu=>?_) ?_;obtain⟨a,c,rfl,Y,F⟩:=hu;refine eQ [.slice a (eK H E[j]).length c] 27 (λad r aN ai d=>⟨⟨r,_,rfl,dS q.size ai,d,a,c,rfl,Y.c λb o x _ f=>aN.cell f,F⟩,aN.mr⟩) ?_;intro w;kernel_rfl;refine .spec (λv' g=>(∀x,((A x\/x=p)\/dw v' x)->x<g.heap.size)/\kS (λx=>(A x\/x=p)\/dw v' x) mk ms H g/\yI (λx=>(A x\/x=p)\/dw v' x) w9.heap.size g v' ((E.take j).map (eK H)++[eK H E[j]])) (λv' a b ⟨h1,h2,h3⟩ e=>⟨λx f=>eh (h1 x f) e.1.size,e.2 _ h1 h2,h3.hH e.1⟩) (λg q aO bc bd bA=>?_) ?_;obtain⟨r,u,rfl,ai,aP,ua,uc,rfl,be,bf⟩:∃r u,aO=.slice (some ⟨r,0,none⟩) 1 1/\M.heap.size<=r/\g.heap[r]? =some (.cells [u].toArray 27)/\ShR (λx=>(A x\/x=p)\/dw v x) H E[j] u g:=bc;obtain⟨us,Y,aQ,bg⟩:=G.hH q.1;have bB:((E.take j).map (eK H)).length<=5:=by simp;omega
  have ae:=q.2 _ T N;refine iM Q8 Y (by have:=q.1.size;omega) aP (by omega) (λv' ad g1 g2 g3=>⟨⟨λx f=>?_,?_,us++[.slice ua (eK H E[j]).length uc],by simpa using g1,by simp[aQ],λi hi=>?_⟩,MF.Mg g2 λx f=>.inr f⟩) rfl (by simp[ti,Value.oneCell']);rcases f with f|f;have:=av x f;have:=q.1.size;have:=g2.size;omega;exact(g1.blk f).2;exact((ae.more (A':=λx=>((A x\/x=p)\/dw v x)\/dw v' x) λx f=>f.elim .inl λf=>(g3 x f).elim (λh=>.inl (.inr h)) .inr).keep g2 λx f=>.inl (.inr f)).fewer λx f=>f.elim (λh=>.inl (.inl h)) .inr;have up:∀{a:Option Addr} {l:List Nat},ig (λx=>(A x\/x=p)\/dw v x) g a l->ig (λx=>(A x\/x=p)\/dw v' x) ad a l:=λhn=>by have h1:ig (λx=>((A x\/x=p)\/dw v x)\/dw v' x) ad _ _:=(hn.more (A':=λx=>((A x\/x=p)\/dw v x)\/dw v' x) λx f=>f.elim .inl λf=>(g3 x f).elim (λh=>.inl (.inr h)) .inr).c λb o x d F=>g2.fh F λhf=>d (.inl (.inr hf));exact h1.more λx f=>.inl (f.elim (λh=>.inl (.inl h)) .inr)
  rcases fO i ((E.take j).map (eK H)).length with aj|aG;obtain⟨a,c,x1,x2,x3⟩:=bg i aj;rw[oR aj];exact⟨a,c,by rw[oQ (by omega)];exact x1,up x2,x3⟩;obtain rfl:i=((E.take j).map (eK H)).length:=by simp at hi aG⊢;omega
  refine⟨ua,uc,by rw[qa (by omega)];simp[aQ],?_,?_⟩;simp only[xn (dC _),ot,qb];exact up be;simp only[xn (dC _),ot,qb];exact bf;intro g q af bh aO _ bd _;obtain⟨ac,ae,O⟩:(∀x,((A x\/x=p)\/dw af x)->x<g.heap.size)/\kS (λx=>(A x\/x=p)\/dw af x) mk ms H g/\yI (λx=>(A x\/x=p)\/dw af x) w9.heap.size g af ((E.take j).map (eK H)++[eK H E[j]]):=bh;have aR:∃a l c,af=.slice a l c:=by obtain⟨us,Y,_⟩:=O;obtain⟨a,c,rfl,_⟩:=Y.len;exact⟨a,_,c,rfl⟩
  obtain⟨va,vl,vc,rfl⟩:=aR;have ay:∀b,dw (.slice va vl vc) b->w9.heap.size<=b:=λb d=>by obtain⟨us,Y,_⟩:=O;exact(Y.blk d).1
  refine jj (q.at_ aL J) (oS rfl) (λad Z aS=>dD ⟨.slice va vl vc,⟨rfl,rfl,rfl,rfl,rfl,rfl,trivial⟩,(aM q).dz Z (by omega),by have:=q.size;have:=Z.size;omega,ae.keep Z (λx f=>.inl (.inr f)),Z.fU (q.at_ a9 P) aJ,aS,?_,λi hi=>?_⟩) (gG rfl);have ht:(E.take (j+1)).map (eK H)=(E.take j).map (eK H)++[eK H E[j]]:=by rw[jM hj,vB];rfl
  rw[ht];exact O.keep Z (λx f=>.inl (.inr f)) λx f az=>by have:=ay x f;have:x=p:=az;omega
  obtain⟨b,o,x0,x1,x2⟩:=ab i hi;exact⟨b,o,x0,x1,Z.fh (q.cell (λhf=>by have:=(y b hf).1;omega) x2) (by show¬b=p;omega)⟩;rintro v M ⟨ax,a7,N,P,J,G,ab⟩;rw[qx]at G;refine jj J (oS rfl) (λg al ag=>?_) (gG rfl);have ag:g.heap[p]? =some (.cells #[v,.bool true] 220):=ag;have y:∀b,dw v b->w9.heap.size<=b:=λb d=>by obtain⟨us,Y,_⟩:=G;exact(Y.blk d).1
  have O:=G.keep al (λx f=>.inl (.inr f)) λx f az=>by have:=y x f;have:x=p:=az;omega
  obtain⟨a,c,hv,hl,F⟩:=O.out (A':=A) (λb d=>.inl (.inl d)) λb d=>by have:=hA b d;omega
  refine⟨⟨rfl,rfl,rfl,trivial⟩,⟨ax.dz al (by omega),λ_=>(N.keep al λx f=>.inl (.inr f)).fewer λb d=>.inl (.inl d)⟩,al.fU P aJ,v,true,ag,?_⟩;rw[yJ h0,vX hk I ho];exact⟨rfl,a,c,hv,hl,F⟩
 rintro w7 ⟨m7,aa,D,t,I⟩;refine⟨⟨rfl,rfl,rfl,trivial⟩,⟨m7,λ_=>aa.fewer λb d=>.inl d⟩,D,_,_,t,?_⟩;rw[yJ h0,sF I];exact⟨rfl,rfl⟩;rintro l w7 aT ⟨m7,D,u7,b7,t,bi⟩;have h7:=h.hH m7.1;have aa:=m7.2 hp;refine fE.kJ aT (dT dO (dI h7.VF (dx (oG s) (λw8 K=>ar (K.at_ D) ⟨rfl,Ext.refl _⟩) (dx (.agg #[u7,.bool b7]) (λw8 K=>eB (vs:=[u7,.bool b7]) (λj v hj=>by rw[dB];exact dj (K.at_ t) (by simpa using hj)) ⟨rfl,Ext.refl _⟩) λw8 K=>?_))));have ap:Jb A (hZ H s) u7 b7 w8:=bi.go2 (λ_ h=>.inl h) λb o v d F=>K.cell F;have L:=aa.ext K;refine ut Mb L9 L.k hs.1 aU (λw9 m=>⟨λs u hu=>hu.go (λ_ h=>.inl h) λb o v d F=>m.cell F,u7,b7,rfl,ap.go2 (λ_ h=>.inl h) λb o v d F=>m.cell F⟩) λw9 S bj bk=>?_;have bl:kS A mk ms H w9:=⟨L.s.go (λs v Y=>Y.go (λ_ h=>.inl h) λb o v d F=>S.cell F) λo ho=>by rw[bj ms (gH h.ne)];exact ho,bk,L.ak,L.asm⟩;have aq:=S.at_ (K.at_ t);refine dT dO (dI (dj aq rfl) (dI (dj aq rfl) λM aA=>?_));exact⟨_,rfl,⟨m7.1.trans ((K.hH n0).trans (S.trans (aA.hH n0))),λ_=>bl.ext aA⟩,u7,b7,rfl,ap.go2 (λ_ h=>.inl h) λb o v d F=>aA.cell (S.cell F)⟩
structure Tq where
 door:Int
 shift:Int
 opened:Bool
def pj(t:Tq):List di:=[.int .i64 t.door,.int .i64 t.shift,.bool t.opened]
def iA(w:dg)(a:Option Addr)(l:List Tq):Prop:=∀k (h:k<l.length),∃b o,a=some ⟨b,o,none⟩/\∀j v,(pj l[k])[j]? =some v->w.cell? ⟨b,o+k*3+j,none⟩=some v
def iA.ext{l:List Tq}(h:iA w a l)(e:Ext w t):iA t a l:=λk c=>by obtain⟨b,o,d,f⟩:=h k c;exact⟨b,o,d,λj v g=>e.cell (f j v g)⟩
def rp:Sx:=⟨0,0,0,false,false,false,false,false⟩
def pP(G:Gd):List Sx->Int->List Tq->Int×List Sx
 |b,_,[]=>(0,b)
 |b,a,t::r=>
  if ly t.door 0 ((G.doors.length:Int)-1)&&ly t.shift 0 (2*G.days-1)then
   if t.shift<a then(5,[])
   else if pf (b.getD t.door.toNat rp) (t.shift.toNat/2)then(4,[])
   else if iq G.tries (b.getD t.door.toNat rp)then(12,[])
   else pP G (b.set t.door.toNat (gN (b.getD t.door.toNat rp) t.shift.toNat t.opened)) t.shift r
  else(3,[])
def jw(G:Gd)(l:List Tq):Int×List Sx:=pP G (List.replicate G.doors.length rp) 0 l
def tE(k:Nat)(x:Sx):Prop:=(0<=x.tries/\x.tries<=k)/\(0<=x.mornings/\x.mornings<=k)/\0<=x.evenings/\x.evenings<=k
def tE.Ql{x:Sx}(h:tE k x)(s:Nat)(o:Bool):tE (k+1) (gN x s o):=by obtain⟨a,b,c⟩:=h;unfold gN tE;refine⟨by constructor<;>simp only<;>omega,?_,?_⟩;constructor<;>simp only<;>split<;>omega;simp only;split<;>omega
def tE.up{x:Sx}(h:tE k x):tE (k+1) x:=by obtain⟨a,b,c⟩:=h;refine⟨⟨a.1,by omega⟩,⟨b.1,by omega⟩,c.1,by omega⟩
def Mh(f:w.heap[m]? =some (.cells (madeCells (sD 166).toArray (k*8)) 166)):nO m (List.replicate k rp) w:=by
 refine⟨_,f,by simp[madeCells],λa g j v b=>?_⟩;have c:j<8:=(je.1 b).1;have h:a<k:=by simpa using g
 have d:a*8+j<k*8:=by have:=qy 8 (show a+1<=k by omega);omega
 have i:(sD 166).toArray.size=8:=rfl;have l:(a*8+j)%8=j:=by omega
 have e:(madeCells (sD 166).toArray (k*8))[a*8+j]? =(sD 166)[j]? :=by
  unfold madeCells;rw[qq,jp (by simpa using d)];simp only[Array.getElem_range,kG,i,l];match j,c with
  |0,_=>rfl
  |1,_=>rfl
  |2,_=>rfl
  |3,_=>rfl
  |4,_=>rfl
  |5,_=>rfl
  |6,_=>rfl
  |7,_=>rfl
 rw[e];simp only[List.getElem_replicate]at b;exact b
def Tb(G:Gd)(l:List Tq)(b:Nat)(v:di)(w:dg):Prop:=
 ((jw G l).1≠0/\v=.tuple #[.slice none 0 0,.int .i64 (jw G l).1])\/
 ((jw G l).1=0/\(jw G l).2.length=G.doors.length/\(∀x∈(jw G l).2,tE l.length x)/\∃a,b<=a/\v=.tuple #[.slice (some ⟨a,0,none⟩) G.doors.length G.doors.length,.int .i64 0]/\nO a (jw G l).2 w)
def Jf(G:Gd)(a:List Sx)(b:Int)(l:List Tq)(k:Nat)(c:k<l.length):pP G a b (l.drop k)=(if ly l[k].door 0 ((G.doors.length:Int)-1)&&ly l[k].shift 0 (2*G.days-1)then
 if l[k].shift<b then(5,[])
 else if pf (a.getD l[k].door.toNat rp) (l[k].shift.toNat/2)then(4,[])
 else if iq G.tries (a.getD l[k].door.toNat rp)then(12,[])
 else pP G (a.set l[k].door.toNat (gN (a.getD l[k].door.toNat rp) l[k].shift.toNat l[k].opened)) l[k].shift (l.drop (k+1))
 else(3,[])):=by
 rw[qu c];rfl
def Mi{gp mk ms:Nat}(h:oN gp mk ms H w){l:List Tq}{lc:Nat}(hr:iA w a l)(aw:l.length<=100000):
 Calls V.prog 137 #[dJ gp,.slice a l.length lc] w (gh λv m=>Ext w m/\Tb H l w.heap.size v m):=by
 have Q:=h.um;have af:=Q.days;have h5:=Q.many;obtain⟨da,dc,h6,ax⟩:=h.c6;refine go V.func137 Tryz.ntmps137 ?_;refine dl h6 (dK (Gc LU (dC _) (by omega) λw1 y e1 R S=>?_));have ag:=Mh S
 refine dK (iE (n:=l.length) (λk (G:List Sx×Int)=>[(0,dJ gp),(6,.slice (some ⟨y,0,none⟩) H.doors.length H.doors.length),(7,.int .i64 G.2),(17,.slice a l.length lc),(18,.int .i64 l.length),(19,.int .i64 k)])
  (λk G m=>Ext w m/\nO y G.1 m/\G.1.length=H.doors.length/\(∀x∈G.1,tE k x)/\jw H l=pP H G.1 G.2 (l.drop k)) (List.replicate H.doors.length rp,0) ⟨⟨rfl,rfl,rfl,rfl,rfl,rfl,trivial⟩,e1,ag,by simp,λx T=>?_,rfl⟩ ?_ ?_ ?_)
 rw[List.eq_of_mem_replicate T];simp[tE,rp];rintro k G m hk U;exact eg ⟨rfl,rfl,⟨rfl,rfl,rfl,rfl,rfl,rfl,trivial⟩,U⟩;rintro k ⟨g,bf⟩ w2 hk ⟨e2,p,F,A,f⟩;simp only at p F A f⊢;obtain⟨b,o,rfl,hc⟩:=(hr.ext e2) k hk;rw[Jf H g bf l k hk]at f;refine fl k 3 hk (eB (vs:=pj l[k]) hc (fJ λw3 tb e3 ah W=>ee W λw4 k4 q=>?_));have q:w4.heap[tb]? =some (.cells (pj l[k]).toArray 84):=q;have ay:y<w2.heap.size:=by obtain⟨_,X,_⟩:=p.out;exact dG.lt_of_heap X
 have e4:Ext w2 w4:=e3.dz k4 ah;have E4:=e2.trans e4;have Y:=p.ext e4;have h4:=h.ext E4;have ne:¬(tb=y):=by omega
 obtain⟨az,aA,ai,_⟩:=h4.c6;have B:∀(m:dg) (c:Int),Ext w4 m->jw H l=(c,[])->c≠0->∃v,Ending.returned (one [.slice none 0 0,.int .i64 c])=.returned v/\Ext w m/\Tb H l w.heap.size v m:=λm c e hc h0=>⟨_,rfl,E4.trans e,.inl ⟨by rw[hc];exact h0,by rw[hc];rfl⟩⟩;refine dT dO (dI (dj q rfl) (dI ai (TN _ (λw e=>dK ⟨rfl,Ext.refl _⟩) (rh (gU dO _ (λw e=>fC _ _ _ w) (pH λw5 Z=>⟨λI=>ki I ?_,λI=>?_⟩))))));exact B w5 3 Z (by rw[f,dp];simp at I;simp[I]) (by omega);have I:ly l[k].door 0 ((H.doors.length:Int)-1)=true:=by simpa using I
 refine dT dO (dI (dj (Z.at_ q) rfl) (gU dO _ (λw e=>last_at (h4.ext (Z.trans e))) (gU dO _ (λw e=>fC _ _ _ w) (pH λw6 e6=>⟨λt=>?_,λt=>?_⟩))));exact B w6 3 (Z.trans e6) (by rw[f,dp];simp at t;simp[t]) (by omega);have t:ly l[k].shift 0 (2*H.days-1)=true:=by simpa using t
 rw[dr (by rw[I,t];rfl)]at f;simp only[ly,eL,jC]at I t;obtain⟨d,hd⟩:∃d:Nat,l[k].door=(d:Int):=⟨l[k].door.toNat,by omega⟩;obtain⟨s,hs⟩:∃s:Nat,l[k].shift=(s:Int):=⟨l[k].shift.toNat,by omega⟩;have C:d<g.length:=by omega
 have aj:s<6:=by omega
 have D:=Z.trans e6;have z:w6.heap[tb]? =some (.cells #[.int .i64 d,.int .i64 s,.bool l[k].opened] 84):=by rw[D.at_ q,pj,hd,hs]
 have J:=Y.ext D;have ak:g.getD d rp=g[d]:=getD_eq C;rw[hd,hs]at f;simp only[oO,ak]at f;refine dl (dj z rfl) (eg ⟨λal=>?_,λam=>?_⟩);exact B w6 5 D (by rw[f,dr (eA al)]) (by omega);rw[dp (eH am)]at f
 have aa:∀{m},nO y g m->m.cell? ⟨y,0+d*8+4+s/2,none⟩=some (.bool (pf g[d] (s/2))):=λhS=>by
  obtain⟨cs,X,y2,y3⟩:=hS.out;refine dj X ?_;have an:s/2=0\/s/2=1\/s/2=2:=by omega
  rw[show 0+d*8+4+s/2=d*8+(4+s/2) by omega];refine y3 d C (4+s/2) _ ?_;rcases an with e|e|e<;>rw[e]<;>rfl
 refine dT dO (dI (dj z rfl) (dI (dj z rfl) (dx (.int .i64 ((s/2:Nat):Int)) (λw1 _=>nM (n:=2) (by omega) (by omega) ⟨rfl,Ext.refl _⟩) (jU d 8 (by omega) (dx (.pointer (some ⟨y,0+d*8+4+s/2,none⟩)) (λw1 _=>xe 3 (by omega) ⟨rfl,Ext.refl _⟩) (dI (aa J) λw7 e7=>⟨λN=>?_,λN=>?_⟩))))));exact B w7 4 (D.trans e7) (by rw[f,dr N]) (by omega);rw[dp (by rw[N];simp)]at f;have O:=D.trans e7;have K:=J.ext e7;have L:=e7.at_ z;have ab:∀{m},nO y g m->∀j v,(mw g[d])[j]? =some v->m.cell? ⟨y,0+d*8+j,none⟩=some v:=λhS j v hj=>by obtain⟨cs,X,y2,y3⟩:=hS.out;exact dj X (by rw[dB];exact y3 d C j v hj)
 refine dl (dj L rfl) (fl d 8 (by omega) (eB (vs:=mw g[d]) (ab K) (eD (xd (h4.ext O) g[d]) λw8 e8=>⟨λP=>?_,λP=>?_⟩)));exact B w8 12 (O.trans e8) (by rw[f,dr P]) (by omega);rw[dp (by rw[P];simp)]at f;have ao:=O.trans e8;have M:=K.ext e8;have ac:=e8.at_ L;have ad:=A _ (fc C);have ap:(0<=g[d].tries/\g[d].tries<=1000000)/\(0<=g[d].mornings/\g[d].mornings<=1000000)/\0<=g[d].evenings/\g[d].evenings<=1000000:=by obtain⟨z1,z2,z3⟩:=ad;omega
 refine io 16 dO (im (λx=>x=y)) (λaB b h=>h.keep _) ?_;have E:∀{r},dP (λx=>x=y) w8 r->r.heap[tb]? =some (.cells #[.int .i64 d,.int .i64 s,.bool l[k].opened] 84):=λe=>e.fU ac ne;refine .exact (.int .i64 d) (λr i=>dl (dj (E i) rfl) ⟨rfl,Ext.refl _⟩) (.exact (.int .i64 d) (λr i=>dl (dj (E i) rfl) ⟨rfl,Ext.refl _⟩) ?_);refine .exact _ (λr i=>fl d 8 (by omega) ⟨rfl,Ext.refl _⟩) (.yq rfl (.agg (mw g[d]).toArray) (λr i=>eB (vs:=mw g[d]) (ab (M.ext i)) ⟨rfl,Ext.refl _⟩) ?_);refine .exact (.int .i64 s) (λr i=>dl (dj (E i) rfl) ⟨rfl,Ext.refl _⟩) (.exact (.bool l[k].opened) (λr i=>dl (dj (E i) rfl) ⟨rfl,Ext.refl _⟩) ?_);refine .exact (.agg (mw (gN g[d] s l[k].opened)).toArray) (λr i=>eD (AC g[d] s l[k].opened r aj ap) λaq ar=>⟨rfl,ar⟩) ?_;refine .exact (.int .i64 s) (λr i=>dl (dj (E i) rfl) ⟨rfl,Ext.refl _⟩) (.exact _ (λr i=>fl d 8 (by omega) ⟨rfl,Ext.refl _⟩) ?_);refine .vQ (λ_ r=>nO y (g.set d (gN g[d] s l[k].opened)) r) (λ_ aB b hS e=>hS.ext e) (λr i=>?_) ?_;refine L6 (M.ext i) d 0 C (by omega) (gN g[d] s l[k].opened) (oS rfl) (λj u hj=>?_) (λaq au ae=>⟨ae,au⟩);have av:j<8:=(je.1 hj).1;rw[dr ⟨gu _,av⟩];exact hj;intro r i U;have U:nO y (g.set d (gN g[d] s l[k].opened)) r:=U;refine dD ⟨(g.set d (gN g[d] s l[k].opened),(s:Int)),⟨rfl,rfl,rfl,rfl,rfl,rfl,trivial⟩,?_,U,by simpa using F,λx T=>?_,f⟩;exact(E4.trans ao).dz i R;rcases tI T with T|rfl;exact(A x T).up;exact ad.Ql s _;rintro⟨g,bf⟩ w2 ⟨e2,p,F,A,f⟩;have f:jw H l=(0,g):=by rw[f];simp[pP]
 refine⟨_,rfl,e2,.inr ⟨by rw[f],by rw[f];exact F,by rw[f];exact A,y,?_,rfl,by rw[f];exact p⟩⟩;exact R
def my(G:Gd)(l:List Tq):Int:=if eF G=0 then(jw G l).1 else eF G
def fK(l:List Tq):Int:=match l.getLast? with
 |some t=>t.shift
 |none=>0
theorem HW:∀{l:List Tq} {c:List Sx} {b:Int},(pP H c b l).1=0->∀t∈l,(0<=t.door/\t.door<H.doors.length)/\0<=t.shift/\t.shift<=2*H.days-1
 |t::r,c,b,h,x,a=>by simp only[pP]at h;split at h;rename_i d;simp only[ly,eL,jC]at d;split at h;simp at h;split at h;simp at h;split at h;simp at h;rcases ft.1 a with rfl|a;omega;exact HW h x a;simp at h
def Jg(a:H.Ok){l:List Tq}(h:(jw H l).1=0):0<=fK l/\fK l<=5:=by unfold fK;split;rename_i t b;have:=HW h t (List.mem_of_getLast? b);have:=a.days;omega;omega
structure Eg(w:dg)(wp gp mk ms:Nat)(G:Gd)(xs:List Sx)(bf:Int)(w':dg):Prop where
 k:lz wp gp mk ms G xs bf w'
 g:wK w gp mk ms G w'
 lo:w.heap.size<=wp
theorem Eg.ext{wp gp mk ms:Nat}{a:List Sx}(h:Eg w wp gp mk ms H a I t)(b:Ext t e):Eg w wp gp mk ms H a I e:=⟨h.k.ext b,h.g.ext b,h.lo⟩
theorem Eg.low{wp gp mk ms:Nat}{a:List Sx}(h:Eg w wp gp mk ms H a I e)(b:Ext t w):Eg t wp gp mk ms H a I e:=⟨h.k,h.g.low b,dS b.size h.lo⟩
def Mj(w:dg)(G:Gd)(l:List Tq)(v:di)(b:dg):Prop:=
 (my G l≠0/\v=.tuple #[.pointer none,.int .i64 (my G l)])\/(my G l=0/\∃a c mk d,v=.tuple #[dJ a,.int .i64 0]/\Eg w a c mk d G (jw G l).2 (fK l) b/\∀x∈(jw G l).2,tE l.length x)
def Jh{dc:Nat}(W:iv w a H.doors)(p:H.doors.length<=100000){l:List Tq}{P:Option Addr}(Q:iA w P l)(D:l.length<=100000):
 Calls V.prog 125 #[gV H a dc,.slice P l.length m] w (gh λv R=>Ext w R/\Mj w H l v R):=by
 refine go V.func125 Tryz.ntmps125 ?_;refine fB λw1 gb e X Y=>fg Y (dt (AD (dc:=dc) (W.ext e) p) ?_);rintro v Z ⟨q,⟨i,rfl⟩|⟨i,r,mk,S,rfl,C⟩⟩;exact fV (ki (by simpa using i) ⟨_,rfl,e.trans q,.inl ⟨by rw[my,dp i];exact i,by rw[my,dp i];rfl⟩⟩);have f:my H l=(jw H l).1:=by rw[my,dr i]
 refine fV (mX (by simp) (dt (Mi C.g (Q.ext (e.trans q)) D) ?_));rintro v w3 ⟨s,⟨t,rfl⟩|⟨t,u,E,j,aa,rfl,T⟩⟩;exact fV (ki (by simpa using t) ⟨_,rfl,(e.trans q).trans s,.inl ⟨by rw[f];exact t,by rw[f];rfl⟩⟩);have F:=(e.trans q).trans s;have s1:=e.size;have s2:=q.size;have s3:=s.size;refine fV (mX (by simp) (eJ (.agg #[dJ r,.slice (some ⟨j,0,none⟩) H.doors.length H.doors.length,.int .i64 0]) (fB λU x k ab d=>?_)));have d:U.heap[x]? =some (.cells #[dJ r,.slice (some ⟨j,0,none⟩) H.doors.length H.doors.length,.int .i64 0] 141):=d;have G:=(C.ext (s.trans k)).low e;have y:=T.ext k;have I:=Jg C.g.um t;have ac:j<w3.heap.size:=by obtain⟨_,y1,_⟩:=T.out;exact dG.lt_of_heap y1
 have z:∀c,Ext w c->wK w r mk S H c->nO j (jw H l).2 c->c.heap[x]? =some (.cells #[dJ r,.slice (some ⟨j,0,none⟩) H.doors.length H.doors.length,.int .i64 (fK l)] 141)->∃v,Ending.returned (one [dJ x,.int .i64 0])=.returned v/\Ext w c/\Mj w H l v c:=λc J A K h=>
  ⟨_,rfl,J,.inr ⟨by rw[f];exact t,x,r,mk,S,rfl,⟨⟨A.g,u,I,_,H.doors.length,dj h rfl,by rw[u];exact dj h rfl,dj h rfl,K.row⟩,A,by omega⟩,E⟩⟩
 refine dK (mE ⟨λn=>?_,λn=>?_⟩);have n:0<l.length:=by simpa using n
 have L:l.length-1<l.length:=by omega
 obtain⟨b,o,rfl,hc⟩:=(Q.ext (F.trans k)) (l.length-1) L;have M:fK l=l[l.length-1].shift:=by unfold fK;rw[List.getLast?_eq_getElem?,fI L]
 refine dK (gK (fl (l.length-1) 3 L (dl (hc 1 _ rfl) (ee d λc N O=>?_)) (by omega)));have B:¬(j=x):=by omega
 have J:Ext w c:=(F.trans k).dz N (by omega);have e5:Ext Z c:=(s.trans k).dz N (by omega);exact z c J ((C.ext e5).low e) (y.keep N B) (by rw[O,M];rfl);have n:l=[]:=nZ (by simpa using n);subst n;exact z U (F.trans k) G y d
structure Du where
 tries:Int
 morning:Bool
 evening:Bool
def Gf(b:Bool):Int:=if b then 1 else 0
def si(G:Gd)(x:Sx):Bool:=decide (2<=G.tries)&&decide (x.mornings=0)
def ux(G:Gd)(x:Sx):Bool:=decide (2<=G.tries)&&decide (x.evenings=0)
def Eh(G:Gd)(x:Sx):Int:=max (G.tries-x.tries) 0
def iR(G:Gd)(x:Sx):Du:=⟨max (Eh G x) (Gf (si G x)+Gf (ux G x)),si G x,ux G x⟩
def ET(d:Nat)(u:Du):List di:=[.int .i64 d,.int .i64 u.tries,.bool u.morning,.bool u.evening]
def ko(m e:Bool)(k:Nat):Int:=if k=0 then 0 else if k=1 then Gf m else Gf m+Gf e
def Rm{wp gp mk ms:Nat}{c:List Sx}(h:lz wp gp mk ms H c I w)(hd:d<c.length)(ad:tE 100000 c[d]):
 Calls V.prog 133 #[dJ wp,.int .i64 d] w (gh λv u=>v=.agg (ET d (iR H c[d])).toArray/\Ext w u):=by
 obtain⟨sa,sc,h1,t,h3,h4⟩:=h.at_;have Q:=h.g.um;have ht:=Q.tries;have ao:=Q.days;obtain⟨b,o,rfl,hc⟩:=h4 d hd;refine go V.func133 Tryz.ntmps133 ?_;refine fJ λw1 E e1 R S=>?_;refine dl (e1.cell t) (fl d 8 hd (eB (vs:=mw c[d]) (λj v A=>e1.cell (hc j v A)) (fJ λw2 xb e2 T i=>ee i λU k3 W=>?_)));have i:U.heap[xb]? =some (.cells (mw c[d]).toArray 166):=W.trans (dQ (λa=>some (Obj.cells a 166)) (fo (sD 166).toArray (mw c[d]) rfl));clear W;have E3:Ext w U:=(e1.trans e2).dz k3 (by have:=e1.size;omega);have C:U.heap[E]? =some (.cells (sD 101).toArray 101):=(e2.dz k3 T).at_ S;have ae:=h.g.ext E3;have af:=E3.cell h1;obtain⟨y1,y2,y3⟩:=ad;refine dT dO (dI af (dI ae.c5 (dI (dj i rfl) (rh (TN (.int .i64 (Eh H c[d])) (λX _=>Bv ⟨rfl,Ext.refl _⟩) (dx (.agg #[.int .i64 d,.int .i64 (Eh H c[d]),.bool false,.bool false]) (λX _=>eJ _ ⟨rfl,Ext.refl _⟩) ?_))))));refine .rel (λv X=>∃p,v=.pointer (some ⟨p,0,none⟩)/\U.heap.size<=p/\X.heap[p]? =some (.cells (sD 101).toArray 101)) (λv a b ⟨nb,h1,t,h3⟩ e=>⟨nb,h1,t,e.at_ h3⟩) (λX e4=>fJ λY nb e5 ag Z=>⟨⟨nb,rfl,dS e4.size ag,Z⟩,e5⟩) ?_;rintro X e4 v ⟨p,rfl,ah,aa⟩;refine ee aa λY k5 ab=>?_;have D:Y.heap[p]? =some (.cells #[.int .i64 d,.int .i64 (Eh H c[d]),.bool false,.bool false] 101):=ab;clear ab;have F:Ext U Y:=e4.dz k5 ah;have E5:=E3.trans F;have ai:=h.g.ext E5;have aj:=E5.cell h1;have ak:=F.at_ i;have ac:=F.at_ C;have ap:=dG.lt_of_heap i;have aq:=dG.lt_of_heap C;have s3:=E3.size;refine dl aj (dl ai.c5 (uh ⟨λt=>?_,λt=>?_⟩));have t:2<=H.tries:=eA t;have hM:si H c[d]=decide (c[d].mornings=0):=by simp[si,t]
 have hE:ux H c[d]=decide (c[d].evenings=0):=by simp[ux,t]
 refine io 7 dO (im (λx=>x=p)) (λa b h=>h.keep _) ?_;have xc:∀{z},dP (λx=>x=p) Y z->z.heap[xb]? =some (.cells (mw c[d]).toArray 166):=λe=>e.fU ak (by omega);refine .exact _ (λz G=>dl (dj (xc G) rfl) ⟨rfl,Ext.refl _⟩) (.exact _ (λz _=>gA ⟨rfl,Ext.refl _⟩) (.exact _ (λz G=>dl (dj (xc G) rfl) ⟨rfl,Ext.refl _⟩) (.exact _ (λz _=>gA ⟨rfl,Ext.refl _⟩) ?_)));refine .vQ (λ_ z=>z.heap[p]? =some (.cells #[.int .i64 d,.int .i64 (Eh H c[d]),.bool (si H c[d]),.bool false] 101)) (λ_ a b h e=>e.at_ h) (λz G=>ee (G.at_ D) λJ k7 B=>⟨by rw[B,hM];rfl,k7⟩) ?_;intro z G hJ;have hJ:z.heap[p]? =some (.cells #[.int .i64 d,.int .i64 (Eh H c[d]),.bool (si H c[d]),.bool false] 101):=hJ;refine ee hJ λJ k7 B=>?_;have f:J.heap[p]? =some (.cells #[.int .i64 d,.int .i64 (Eh H c[d]),.bool (si H c[d]),.bool (ux H c[d])] 101):=by rw[B,hE];rfl
 have kk:=G.trans k7 (λ_ _ h=>h) λ_ _ h=>h;have E6:Ext w J:=E5.dz kk (by omega);have K:=kk.fU ac (by omega);clear B hJ;refine dl (dj f rfl) (dl (dj f rfl) (eQ [.bool (si H c[d]),.bool (ux H c[d])] 4 (λJ Z L al l=>dK (eZ (n:=2) (λk=>[(4,dJ E),(6,dJ p),(7,.int .i64 (ko (si H c[d]) (ux H c[d]) k)),(52,.slice (some ⟨Z,0,none⟩) 2 2),(53,.int .i64 2),(54,.int .i64 k)]) (λ_ u=>u=J) ⟨⟨rfl,rfl,rfl,rfl,rfl,rfl,trivial⟩,rfl⟩ ?_ ?_ ?_))));rintro k u hk rfl;exact eg ⟨rfl,rfl,⟨rfl,rfl,rfl,rfl,rfl,rfl,trivial⟩,rfl⟩;rintro k u hk rfl;have M:∀(x y:Bool) (k:Nat),0<=ko x y k/\ko x y k<=2:=λx y k=>by cases x<;>cases y<;>(unfold ko Gf;split<;>(try split)<;>decide)
 have am:=M (si H c[d]) (ux H c[d]) k;obtain rfl|rfl:k=0\/k=1:=by omega
 refine eP 0 (by omega) (dl (dj l rfl) ⟨λq=>dD (dD ⟨⟨rfl,rfl,?_,rfl,rfl,rfl,trivial⟩,rfl⟩),λq=>dD ⟨⟨rfl,rfl,?_,rfl,rfl,rfl,trivial⟩,rfl⟩⟩);show some _=some _;simp[ko,Gf,q];show some _=some _;simp[ko,Gf,q];refine eP 1 (by omega) (dl (dj l rfl) ⟨λq=>dD (dD ⟨⟨rfl,rfl,?_,rfl,rfl,rfl,trivial⟩,rfl⟩),λq=>dD ⟨⟨rfl,rfl,?_,rfl,rfl,rfl,trivial⟩,rfl⟩⟩);show some _=some _;simp[ko,Gf,q];show some _=some _;simp[ko,Gf,q];rintro u rfl;have m:=L.at_ f;have N:=L.at_ K;refine dl (dj m rfl) (Bv (ee m λw8 k8 r=>?_));have r:w8.heap[p]? =some (.cells (ET d (iR H c[d])).toArray 101):=r;have an:=dG.lt_of_heap f;have O:=k8.fU N (by omega);refine eB (vs:=ET d (iR H c[d])) (λj v A=>by rw[dB];exact dj r (by simpa using A)) (ee O λP k9 s=>?_);have s:P.heap[E]? =some (.cells (ET d (iR H c[d])).toArray 101):=s.trans (dQ (λa=>some (Obj.cells a 101)) (fo (sD 101).toArray (ET d (iR H c[d])) rfl));have hl:Sem.run V.prog (loadVar 101 ⟨E,0,none⟩) P=.ok (.agg (ET d (iR H c[d])).toArray) P:=nN (ET d (iR H c[d])) s λj v A=>by rw[dB];simpa using A
 exact⟨_,hl,_,rfl,rfl,((E6.trans L).dz k8 (by omega)).dz k9 R⟩;have t:¬2<=H.tries:=eH t;have hM:si H c[d]=false:=by simp[si,t]
 have hE:ux H c[d]=false:=by simp[ux,t]
 have f:Y.heap[p]? =some (.cells #[.int .i64 d,.int .i64 (Eh H c[d]),.bool (si H c[d]),.bool (ux H c[d])] 101):=by rw[D,hM,hE]
 have E6:=E5;have K:=ac;refine dl (dj f rfl) (dl (dj f rfl) (eQ [.bool (si H c[d]),.bool (ux H c[d])] 4 (λJ Z L al l=>dK (eZ (n:=2) (λk=>[(4,dJ E),(6,dJ p),(7,.int .i64 (ko (si H c[d]) (ux H c[d]) k)),(52,.slice (some ⟨Z,0,none⟩) 2 2),(53,.int .i64 2),(54,.int .i64 k)]) (λ_ u=>u=J) ⟨⟨rfl,rfl,rfl,rfl,rfl,rfl,trivial⟩,rfl⟩ ?_ ?_ ?_))));rintro k u hk rfl;exact eg ⟨rfl,rfl,⟨rfl,rfl,rfl,rfl,rfl,rfl,trivial⟩,rfl⟩;rintro k u hk rfl;have M:∀(x y:Bool) (k:Nat),0<=ko x y k/\ko x y k<=2:=λx y k=>by cases x<;>cases y<;>(unfold ko Gf;split<;>(try split)<;>decide)
 have am:=M (si H c[d]) (ux H c[d]) k;obtain rfl|rfl:k=0\/k=1:=by omega
 refine eP 0 (by omega) (dl (dj l rfl) ⟨λq=>dD (dD ⟨⟨rfl,rfl,?_,rfl,rfl,rfl,trivial⟩,rfl⟩),λq=>dD ⟨⟨rfl,rfl,?_,rfl,rfl,rfl,trivial⟩,rfl⟩⟩);show some _=some _;simp[ko,Gf,q];show some _=some _;simp[ko,Gf,q];refine eP 1 (by omega) (dl (dj l rfl) ⟨λq=>dD (dD ⟨⟨rfl,rfl,?_,rfl,rfl,rfl,trivial⟩,rfl⟩),λq=>dD ⟨⟨rfl,rfl,?_,rfl,rfl,rfl,trivial⟩,rfl⟩⟩);show some _=some _;simp[ko,Gf,q];show some _=some _;simp[ko,Gf,q];rintro u rfl;have m:=L.at_ f;have N:=L.at_ K;refine dl (dj m rfl) (Bv (ee m λw8 k8 r=>?_));have r:w8.heap[p]? =some (.cells (ET d (iR H c[d])).toArray 101):=r;have an:=dG.lt_of_heap f;have O:=k8.fU N (by omega);refine eB (vs:=ET d (iR H c[d])) (λj v A=>by rw[dB];exact dj r (by simpa using A)) (ee O λP k9 s=>?_);have s:P.heap[E]? =some (.cells (ET d (iR H c[d])).toArray 101):=s.trans (dQ (λa=>some (Obj.cells a 101)) (fo (sD 101).toArray (ET d (iR H c[d])) rfl));have hl:Sem.run V.prog (loadVar 101 ⟨E,0,none⟩) P=.ok (.agg (ET d (iR H c[d])).toArray) P:=nN (ET d (iR H c[d])) s λj v A=>by rw[dB];simpa using A
 exact⟨_,hl,_,rfl,rfl,((E6.trans L).dz k8 (by omega)).dz k9 R⟩
def rq(x:Sx)(l:List Nat)(s:Nat):Bool:=pf x (s/2)||(decide (0<l.length)&&decide (l.getLast?.getD 0/2=s/2))
def vo(u:Du)(l:List Nat):Bool:=(l.any (λs=>decide (s%2=0))||!u.morning)&&(l.any (λs=>decide (s%2=1))||!u.evening)
def lF(L:Nat)(x:Sx)(u:Du):Nat->List Nat->Nat->List (List Nat)
 |0,_,_=>[]
 |f+1,l,a=>if(l.length:Int)=u.tries then(if vo u l then [l]else [])else(List.range (L-a)).flatMap λi=>if rq x l (a+i)then []else lF L x u f (l++[a+i]) (a+i+1)
def gC(G:Gd):Nat:=(2*G.days).toNat
def jl(G:Gd)(x:Sx)(a:Nat):List (List Nat):=lF (gC G) x (iR G x) (gC G+1) [] a
def om(L:Nat)(x:Sx)(u:Du)(f:Nat)(l:List Nat)(a k:Nat):List (List Nat):=(List.range k).flatMap λi=>if rq x l (a+i)then []else lF L x u f (l++[a+i]) (a+i+1)
def pQ(L:Nat)(x:Sx)(u:Du)(f:Nat)(l:List Nat)(a k:Nat):om L x u f l a (k+1)=om L x u f l a k++if rq x l (a+k)then []else lF L x u f (l++[a+k]) (a+k+1):=by unfold om;rw[qv,List.flatMap_append];simp
def GL(w:dg)(v:di)(l:List Nat):Prop:=(l=[]/\v=.slice none 0 0)\/∃b c a,v=.slice (some ⟨b,0,none⟩) l.length c/\l.length<=c/\w.heap[b]? =some (.cells a 3)/\a.size=c/\∀k (h:k<l.length),a[k]? =some (.int .i64 l[k])
def GL.row(h:GL w x l):∃a c,x=.slice a l.length c/\gi w a l/\l.length<=c:=by rcases h with⟨rfl,rfl⟩|⟨b,c,i,rfl,e,f,j,g⟩;exact⟨none,0,rfl,λk d=>by simp at d,dC _⟩;exact⟨_,c,rfl,λk d=>⟨b,0,rfl,dj f (by rw[dB];exact g k d)⟩,e⟩
def GL.keep(h:GL w x l)(k:dP A w t)(d:∀b,dw x b->¬A b):GL t x l:=by rcases h with h|⟨b,c,e,a,f,g,i⟩;exact .inl h;exact .inr ⟨b,c,e,a,f,k.fU g (d b ⟨_,_,a⟩),i⟩
def GL.blk(h:GL w x l)(a:dw x m):m<w.heap.size:=by obtain⟨_,_,a⟩:=a;rcases h with⟨_,rfl⟩|⟨d,c,e,rfl,f,b,_⟩;cases a;injection a with a;have:=dQ Addr.block (dH a);simp only at this;subst this;exact dG.lt_of_heap b
structure EA(lv:di)(o o':Obj)(a b:dg):Prop where
 k:dP (dw lv) a b
 n:∀x ox,dw lv x->a.heap[x]? =some ox->b.heap[x]? =some ox\/(ox=o/\b.heap[x]? =some o')
def Rn(i:di)(o j:Obj):gq (EA i o j):=by refine⟨λw=>⟨dP.refl _ w,λ_ _ _ h=>.inl h⟩,λa b c h k=>⟨h.k.trans k.k (λ_ _ h=>h) λ_ _ h=>h,λx e f l=>?_⟩,λw=>⟨(Ext.drew w).keep _,λx e _ h=>.inl h⟩⟩;rcases h.n x e f l with d|⟨d,m⟩;exact k.n x e f d;rcases k.n x _ f m with g|⟨g,p⟩;exact .inr ⟨d,g⟩;exact .inr ⟨d,p⟩
def Ext.ea(h:Ext w t)(a:di)(o b:Obj):EA a o b w t:=⟨h.keep _,λx d _ c=>.inl (h.at_ c)⟩
def GM(a:Nat)(d:di)(e:Obj)(l:List Nat)(v:di)(w:dg):Prop:=
 (∃b c,dw d b/\v=.slice (some ⟨b,0,none⟩) l.length c/\w.heap[b]? =some e/\GL w v l)\/(∃b c,a<=b/\v=.slice (some ⟨b,0,none⟩) l.length c/\GL w v l)
def xh{M:di->dg->Prop}{U:Array Bool}{o:Obj}{w0:dg}(W:GL w x l)(X:∀b,dw x b->w.heap[b]? =some o)(N:m<=w.heap.size)(O:l.length<=1000)(p:w.heap[k]? =some (.cells [Value.int .i64 s].toArray 3))(G:Obj)(H:∀b r,dw x b->o=.cells r 3->G=.cells (r.setIfInBounds l.length (.int .i64 s)) 3) (I:∀v n,GM m x G (l++[s]) v n->EA x o G w n->M v n):Au V.prog (builtin .append #[27,27] T U #[x,.slice (some ⟨k,0,none⟩) 1 i]) w M:=by
 have Y:=uj;obtain⟨Z,Q,z,h2,h3,h4,E,h6,h7⟩:=Y;have E:Q.size=1:=E;rcases W with⟨rfl,rfl⟩|⟨b,g,r,rfl,aa,F,J,d⟩;refine iM uj (dM.nil m 3 [.int .i64 0] w) N p (by omega) λv' n g1 g2 g3=>?_;have K:∀t,¬dw (.slice none 0 0) t:=λt a=>by obtain⟨_,_,a⟩:=a;cases a
 refine I v' n (.inr ?_) ⟨g2,λt ox a _=>absurd a (K t)⟩;obtain⟨h0,⟨ab,_⟩|⟨b,R,r,q1,rfl,q3,q4,q5,q6,q7,q8⟩⟩:=g1;omega;refine⟨b,R,q1,rfl,.inr ⟨b,R,r,rfl,by simpa using q5,q3,by simpa using q4,λj c=>?_⟩⟩;obtain rfl:j=0:=by simp at c;omega
 rw[q7 0 (by simp)];rfl;have y:=X b ⟨_,_,rfl⟩;rw[F]at y;obtain rfl:=dH y;have A:=H b r ⟨_,_,rfl⟩ rfl;by_cases e:l.length+1<=g;refine HJ (u:=.int .i64 s) uj F e (by omega) (dj p rfl) rfl λn k' q=>I _ n (.inl ⟨b,g,⟨_,_,rfl⟩,by simp,by rw[q,A],.inr ⟨b,g,_,by simp,by simpa using e,q,by simpa using J,λj c=>?_⟩⟩) ⟨k'.trans (dP.refl (λ_=>False) n) (λt _ a=>by subst a;exact⟨_,_,rfl⟩) λ_ _ h=>h.elim,λt ox a B=>?_⟩;rcases fO j l.length with f|C;rw[eG (by omega),d j f,oR f];obtain rfl:j=l.length:=by simp at c;omega
 rw[kq (by omega)];simp;obtain⟨_,_,a⟩:=a;injection a with a;have:=dQ Addr.block (dH a);simp only at this;subst this;rw[F]at B;exact .inr ⟨(dH B).symm,by rw[q,A]⟩
 have hr:=run_append_grow (P:=V.prog) w 27 T 3 Q z Z h2 h3 ⟨b,0,none⟩ l.length g (jk l) (by simp[E,jk]) (λj u c=>by
  rw[Addr.add_lit];simp only[World.cell?,F,dB];have D:j<l.length:=by simpa[jk]using(je.1 c).1
  rw[d j D];have:(jk l)[j]? =some (.int .i64 (l[j]:Nat)):=by simp[jk,fI D]
  rw[this]at c;simpa using c) ⟨k,0,none⟩ 1 i [.int .i64 s] (by simp[E]) (λj v c=>by
  match j,c with
  |0,c=>cases c;rw[iK];exact dj p rfl) (by omega) (by omega) (growslice_fits (by omega) (dS (Nat.mul_le_mul (show l.length+1<=1000000 by omega) h6) (by decide)))
 have C:=grownCap_ge w (l.length+1) g 3;have L:z.cells.size=1:=by rw[h4];rfl
 refine⟨_,w.drew.alloc (.cells ((jk l).toArray++#[Value.int .i64 s]++Builtin.zeroCells z.cells (grownCap w (l.length+1) g 3-(l.length+1))) 3),?_,I (.slice (some ⟨w.heap.size,0,none⟩) (l.length+1) (grownCap w (l.length+1) g 3)) _ (.inr ⟨w.heap.size,grownCap w (l.length+1) g 3,N,by simp,.inr ⟨w.heap.size,grownCap w (l.length+1) g 3,_,by simp,by simpa using C,fM w.drew _,?_,λj c=>?_⟩⟩) (((Ext.drew w).trans (Ext.alloc _ _)).ea _ _ _)⟩;unfold builtin;simp only[Sem.run_bind,hr,Result.andThen_ok,Sem.run_pure];simp only[zY,ia,size_zeroCells,L,jk,kN,xo,fq,gl,nk];omega;have ac:j<l.length+1:=by simpa using c
 rw[wv (by simp[jk];omega)];rcases fO j l.length with f|S;simp[jk,oQ,f,fI f];obtain rfl:j=l.length:=by omega
 simp[jk]
def OW(s a:Nat):Bool:=(List.range 5).all λd=>!s.testBit d||a.testBit d
def pR(G:Gd)(a s:Nat):Int:=if OW s a then(match hZ G s with
 |some b=>(b.length:Int)
 |none=> -1)else-1
def iN(G:Gd)(a k:Nat):List Int:=(List.range 32).map λs=>if s<k then pR G a s else 0
def mS(G:Gd)(b:List Sx)(a k:Nat):List (List (List Nat)):=((ek G.tries b).take k).map λd=>jl G (b.getD d rp) a
def jx(G:Gd)(b:List Sx)(a:Nat):eN:=⟨ek G.tries b,(ek G.tries b).map λd=>jl G (b.getD d rp) a,iN G (ja (ek G.tries b)) (2^b.length)⟩
theorem AG{x:Sx}{u:Du}:∀{f:Nat} {l:List Nat} {a:Nat} {c:List Nat},c∈lF m x u f l a->c.length<=l.length+f/\∀s∈c,s∈l\/s<m
 |0,l,a,c,h=>by cases h
 |f+1,l,a,c,h=>by simp only[lF]at h;split at h;split at h;rw[iQ.1 h];exact⟨by omega,λs d=>.inl d⟩;cases h;obtain⟨i,e,h⟩:=tH.1 h;have e:=jL.1 e;split at h;cases h;obtain⟨g,j⟩:=AG h;simp only[kN,fq,gl]at g;refine⟨by omega,λs d=>?_⟩;rcases j s d with b|b;rcases j8.1 b with b|b;exact .inl b;rw[iQ.1 b];exact .inr (by omega);exact .inr b
theorem HX:∀(n:Nat),((List.range n).map λi=>2^(n-1-i)).sum+1=2^n
 |0=>rfl
 |n+1=>by
  have b:=HX n;rw[List.range_succ_eq_map,lA,List.sum_cons,List.map_map];have e:(List.range n).map ((λi=>2^(n+1-1-i))∘Nat.succ)=(List.range n).map λi=>2^(n-1-i):=by refine List.map_congr_left λi a=>?_;have:=jL.1 a;simp only[Function.comp];congr 1;omega
  rw[e];have:n+1-1-0=n:=by omega
  rw[this,Nat.pow_succ];omega
theorem Mk{a:Type}{f g:a->Nat}:∀(l:List a),(∀x∈l,f x<=g x)->(l.map f).sum<=(l.map g).sum
 |[],_=>dC _
 |x::r,h=>by simp only[lA,List.sum_cons];exact Nat.add_le_add (h x iV) (Mk r λy b=>h y (iF _ b))
theorem yL{L:Nat}{x:Sx}{u:Du}:∀(f:Nat) (l:List Nat) (a:Nat),(lF L x u f l a).length<=2^(L-a)
 |0,l,a=>gu _
 |f+1,l,a=>by
  have c:1<=2^(L-a):=Nat.one_le_two_pow;simp only[lF];split;split;exact c;exact gu _;rw[List.length_flatMap];have d:((List.range (L-a)).map λi=>(if rq x l (a+i)then([]:List (List Nat))else lF L x u f (l++[a+i]) (a+i+1)).length).sum<=((List.range (L-a)).map λi=>2^(L-a-1-i)).sum:=Mk _ λi b=>by have b:=jL.1 b;split;exact gu _;have:=yL (L:=L) (x:=x) (u:=u) f (l++[a+i]) (a+i+1);rwa[show L-(a+i+1)=L-a-1-i by omega]at this
  have:=HX (L-a);omega
def yM(h:H.Ok):gC H<=6:=by have:=h.days;unfold gC;omega
def rU(h:H.Ok)(x:Sx)(a:Nat):(jl H x a).length<=64/\∀l∈jl H x a,l.length<=7/\∀s∈l,s<6:=by have g:=yM h;refine⟨?_,λl d=>?_⟩;have:=yL (L:=gC H) (x:=x) (u:=iR H x) (gC H+1) [] a;have b:2^(gC H-a)<=2^6:=Nat.pow_le_pow_right (by omega) (by omega);exact dS this b;obtain⟨e,b⟩:=AG d;simp only[gl]at e;refine⟨by omega,λs f=>?_⟩;rcases b s f with c|c;cases c;omega
def lR{a:List Sx}(h:d∈ek I a):d<a.length:=by obtain⟨b,_⟩:=G3.1 h;exact jL.1 b
def Ei(T:Int)(a:List Sx):(ek T a).Nodup:=(List.nodup_range).filter _
def rV(T:Int)(a:List Sx):(ek T a).length<=a.length:=yC T a a.length
theorem rr{most:Nat}:∀{doors b a:List Nat},gd H most doors b=some a->a.length<=b.length+doors.length
 |[],b,a,h=>by simp only[gd,gx]at h;subst h;simp
 |d::r,b,a,h=>by simp only[gd]at h;split at h;rename_i o e;obtain rfl:=dH h;obtain⟨i,f,c⟩:=Kf e;split at c;have:=rr c;simp only[xp,fq]at this⊢;omega;cases c;split at h;have:=rr h;simp only[kN,fq,gl]at this⊢;omega;cases h
def pS{a:List (List Nat)}(h:hZ H s=some a):a.length<=5:=by unfold hZ at h;split at h;obtain rfl:=dH h;simp;obtain⟨d,b,rfl⟩:=ix.1 h;obtain⟨m,_,c⟩:=Kf b;have:=rr c;have:=AF s;simp only[gl,xo]at*;omega
def Ji(G:Gd)(a s:Nat): -1<=pR G a s/\pR G a s<=5:=by unfold pR;split;split;rename_i b h;have:=pS h;omega;omega;omega
def BK(G:Gd)(a k s:Nat)(b:s<32):(iN G a k).getD s 0=if s<k then pR G a s else 0:=by unfold iN;rw[ng,sn,List.getElem?_range b];rfl
def uy(G:Gd)(a k:Nat):(iN G a k).length=32:=by simp[iN]
def Ej{e:List Sx}(h:H.Ok)(f:e.length=H.doors.length)(a:Nat):(jx H e a).Ok:=by have n:=h.many;have g:=rV H.tries e;refine⟨by simp[jx],by simp only[jx];omega,Ei _ _,λd j=>by have:=lR j;omega,λi b=>?_,λi b l f=>?_,λi b l f s k=>?_,uy _ _ _,λc m=>?_,?_⟩;obtain⟨d,_,rfl⟩:=nh.1 b;have:=(rU h (e.getD d rp) a).1;omega;obtain⟨d,_,rfl⟩:=nh.1 b;have:=((rU h (e.getD d rp) a).2 l f).1;omega;obtain⟨d,_,rfl⟩:=nh.1 b;exact((rU h (e.getD d rp) a).2 l f).2 s k;obtain⟨s,_,rfl⟩:=nh.1 m;split;exact Ji _ _ _;omega;show(iN H _ _).getD 0 0=0;rw[BK _ _ _ _ (by omega),dr (Nat.two_pow_pos _)];rfl
def kA(A:Nat->Prop)(d:Nat)(w:dg)(v:di)(a:List (List Nat)):Prop:=∃c:List di,dM d 27 [.slice none 0 0] w v a.length c/\c.length=a.length/\∀k (h:k<a.length),∃u,c[k]? =some u/\gQ d w u a[k]/\∀b,dw u b->¬A b
def kA.own{a:List (List Nat)}(h:kA A m w x a):jr m w x a:=by obtain⟨b,c,d,e⟩:=h;exact⟨b,c,d,λk f=>by obtain⟨u,g,i,_⟩:=e k f;exact⟨u,g,i⟩⟩
theorem kA.keep{a:List (List Nat)}(h:kA A m w x a)(k:dP B w t)(f:∀b,dw x b->¬B b)(g:∀u l b,gQ m w u l->dw u b->¬A b->¬B b):kA A m t x a:=by obtain⟨j,n,o,p⟩:=h;refine⟨j,n.keep k f,o,λi q=>?_⟩;obtain⟨u,r,c,d⟩:=p i q;exact⟨u,r,dM.keep c k λb e=>g u _ b c e (d b e),d⟩
def kA.ext{a:List (List Nat)}(h:kA A m w x a)(e:Ext w t):kA A m t x a:=h.keep (e.keep λ_=>False) (λ_ _ h=>h) λ_ _ _ _ _ _ h=>h
def kA.more{A A':Nat->Prop}{a:List (List Nat)}(h:kA A m w x a)(e:∀b,A' b->A b\/w.heap.size<=b):kA A' m w x a:=by obtain⟨f,g,j,k⟩:=h;refine⟨f,g,j,λi l=>?_⟩;obtain⟨u,n,c,o⟩:=k i l;refine⟨u,n,c,λb d p=>?_⟩;rcases e b p with h|h;exact o b d h;have:=(dM.blk c d).2;omega
def GL.c3(h:GL w x l)(a:dw x m):∃b,w.heap[m]? =some (.cells b 3):=by obtain⟨_,_,a⟩:=a;rcases h with⟨_,rfl⟩|⟨e,c,b,rfl,f,d,_⟩;cases a;injection a with a;have:=dQ Addr.block (dH a);simp only at this;subst this;exact⟨b,d⟩
def dM.c_(h:dM m T M w x k Y)(a:dw x i):∃b,w.heap[i]? =some (.cells b T):=by obtain⟨_,_,a⟩:=a;obtain⟨_,⟨_,rfl⟩|⟨e,c,b,_,rfl,d,_⟩⟩:=h;cases a;injection a with a;have:=dQ Addr.block (dH a);simp only at this;subst this;exact⟨b,d⟩
def kA.RO{a:List (List Nat)}(h:kA A m w x a)(b:dw x k):∃c,w.heap[k]? =some (.cells c 27):=by obtain⟨e,d,_⟩:=h;exact d.c_ b
def gO(h:w.heap[m]? =some (.cells W T))(a:w.heap[m]? =some (.cells X U))(b:T≠U):False:=by rw[h]at a;injection a with a;injection a with _ a;exact b a
def mT{b a l c l' c':Nat}(h:dw (.slice (some ⟨b,0,none⟩) l c) a):a=b:=by obtain⟨_,_,h⟩:=h;injection h with h;exact(dQ Addr.block (dH h)).symm
structure LS(n0 m db ob wb xb gb:Nat):Prop where
 lo:n0<=ob/\n0<=m
 d:db<m/\db≠ob
 o:ob<m
 w:wb<m/\wb≠ob
 x:xb<m/\xb≠ob
 g:gb<m/\gb≠ob
def HY(a b c d e:Nat):di:=.func (.func 165) #[] #[dJ a,dJ b,dJ c,dJ d,dJ e]
structure LC(w0:dg)(wp d:Nat)(u:Du)(db ob wb xb gb:Nat)(w:dg):Prop where
 e:Ext w0 w
 b1:w.heap[db]? =some (.cells (ET d u).toArray 101)
 b3:w.heap[wb]? =some (.cells #[dJ wp] 133)
 b4:w.heap[xb]? =some (.cells #[.int .i64 d] 3)
 b5:w.heap[gb]? =some (.cells #[HY db ob wb xb gb] 209)
def LC.keep{u:Du}(h:LC w k d u i j o p s t)(S:LS w.heap.size m i j o p s)(a:dP A t e)(n:∀b,b<t.heap.size->A b->b=j\/m<=b):LC w k d u i j o p s e:=by
 have c:∀{b:Nat} {q:Obj},t.heap[b]? =some q->b<m->b≠j->¬A b:=λf v r l=>by rcases n _ (dG.lt_of_heap f) l with h|h;exact r h;omega
 have y:=h.e.size;refine⟨⟨a.os.trans h.e.os,a.tape.trans h.e.tape,a.output.trans h.e.output,dS h.e.size a.size,dS h.e.drawn a.drawn,λb f=>(a.block b (by omega) λl=>?_).trans (h.e.block b f)⟩,a.fU h.b1 (c h.b1 S.d.1 S.d.2),a.fU h.b3 (c h.b3 S.w.1 S.w.2),a.fU h.b4 (c h.b4 S.x.1 S.x.2),a.fU h.b5 (c h.b5 S.g.1 S.g.2)⟩;have:=S.lo;rcases n _ (by omega) l with h|h<;>omega
def Ro(a:Nat)(d:di)(e:Obj)(l:List Nat)(v:di)(w:dg):Prop:=
 (∃b c k,d=.slice (some ⟨b,0,none⟩) k c/\v=.slice (some ⟨b,0,none⟩) l.length c/\w.heap[b]? =some e/\GL w v l)\/(∃b c,a<=b/\v=.slice (some ⟨b,0,none⟩) l.length c/\GL w v l)
def Ro.ea(h:Ro m x Q l y w)(e:EA x O Q w t)(j:∀a,dw x a->a<m):Ro m x Q l y t:=by
 rcases h with⟨a,c,k,rfl,rfl,d,o⟩|⟨a,c,p,rfl,d⟩;have g:t.heap[a]? =some Q:=by rcases e.n a _ ⟨_,_,rfl⟩ d with h|h;exact h;exact h.2
 refine .inl ⟨a,c,k,rfl,rfl,g,?_⟩;rcases o with⟨b,f⟩|⟨q,c',r,b,f,i,s,u⟩;cases f;refine .inr ⟨q,c',r,b,f,?_,s,u⟩;injection b with b;have:=dQ Addr.block (dH b);simp only at this;subst this;rw[d]at i;rw[g];exact i;exact .inr ⟨a,c,p,rfl,d.keep e.k λv z A=>by have:=j v A;have:=mT (l':=0) (c':=0) z;omega⟩
def GL.ea(h:GL w x l)(e:EA x O Q w t)(d:∀a b,dw x a->O=.cells b 3->Q=.cells (b.setIfInBounds l.length (.int .i64 s)) 3):GL t x l:=by rcases h with h|⟨a,c,b,rfl,f,m,i,j⟩;exact .inl h;rcases e.n a _ ⟨_,_,rfl⟩ m with h|⟨h,g⟩;exact .inr ⟨a,c,b,rfl,f,h,i,j⟩;rw[d a b ⟨_,_,rfl⟩ h.symm]at g;refine .inr ⟨a,c,_,rfl,f,g,by simpa using i,λk o=>?_⟩;rw[eG (by omega)];exact j k o
def Ml{O:di->dg->Prop}{Q:Array Bool}{o q:Obj}(B:GL w x l)(a:∀b,dw x b->w.heap[b]? =some o\/w.heap[b]? =some q)(I:m<=w.heap.size)(j:l.length<=1000)(y:w.heap[k]? =some (.cells [Value.int .i64 s].toArray 3))(r:∀b z,dw x b->o=.cells z 3->q=.cells (z.setIfInBounds l.length (.int .i64 s)) 3) (F:∀b,dw x b->∃z,o=.cells z 3) (J:∀v c,Ro m x q (l++[s]) v c->EA x o q w c->O v c):Au V.prog (builtin .append #[27,27] T Q #[x,.slice (some ⟨k,0,none⟩) 1 i]) w O:=by
 have conv:∀v c,GM m x q (l++[s]) v c->GL w x l->Ro m x q (l++[s]) v c:=λv c h g=>by
  rcases h with⟨b,i,f,rfl,C,D⟩|h;rcases g with⟨_,rfl⟩|⟨K,c',z,rfl,g2,P,g4,g5⟩;obtain⟨_,_,f⟩:=f;cases f;have:=mT (l':=0) (c':=0) f;subst this;have R:i=c':=by
   rcases D with⟨D,_⟩|⟨b2,c2,L,e,q2,A,q4,q5⟩;simp at D;injection e with S e2 U;have:=dQ Addr.block (dH S);simp only at this;subst this;subst U;rw[C]at A;obtain⟨p,d⟩:=F b ⟨_,_,rfl⟩;have H:=r b p ⟨_,_,rfl⟩ d;have A:=dH A;rw[H]at A;injection A with A;have W:L.size=p.size:=by rw[<-A];simp
   rcases a b ⟨_,_,rfl⟩with a|a;rw[P,d]at a;have a:=dH a;injection a with a;subst a;omega;rw[P,H]at a;have a:=dH a;injection a with a;have:z.size=p.size:=by rw[a];simp
   omega
  subst R;exact .inl ⟨b,i,l.length,rfl,rfl,C,D⟩;exact .inr h
 by_cases f:∃b,dw x b;obtain⟨b,f⟩:=f;obtain⟨p,d⟩:=F b f;rcases a b f with h|h;refine xh (w0:=w) B (λK t=>?_) I j y q r λv c G E=>J v c (conv v c G B) E;obtain⟨_,_,e⟩:=f;obtain⟨_,_,u⟩:=t;rw[e]at u;injection u with u;have:=dQ Addr.block (dH u);simp only at this;subst this;exact h;have H:=r b p f d;refine xh (o:=q) (w0:=w) B (λK t=>?_) I j y q (λK z t e=>?_) λv c G E=>J v c (conv v c G B) ⟨E.k,λX Y Z M=>?_⟩;obtain⟨_,_,e⟩:=f;obtain⟨_,_,u⟩:=t;rw[e]at u;injection u with u;have:=dQ Addr.block (dH u);simp only at this;subst this;exact h;rw[H]at e⊢;injection e with e;subst e;simp;rcases E.n X Y Z M with C|⟨C,D⟩;exact .inl C;exact .inl (by rw[D,C]);have N:∀b,¬dw x b:=λb h=>f ⟨b,h⟩;exact xh (o:=o) (w0:=w) B (λb h=>absurd h (N b)) I j y q r λv c G E=>J v c (conv v c G B) E
def Gg(L:Nat)(x:Sx)(u:Du)(f:Nat)(l:List Nat)(a:Nat)(h:¬(l.length:Int)=u.tries):lF L x u (f+1) l a=om L x u f l a (L-a):=by simp only[lF,dp h,om]
def Ek(h:0<l.length):l.getLast?.getD 0=l[l.length-1]:=by rw[List.getLast?_eq_getElem?,fI (by omega)];rfl
theorem GL.v(h:GL w x l)(d:0<l.length):∃b c a,x=.slice (some ⟨b,0,none⟩) l.length c/\l.length<=c/\w.heap[b]? =some (.cells a 3)/\a.size=c/\∀k (h:k<l.length),a[k]? =some (.int .i64 l[k]):=by rcases h with⟨rfl,_⟩|h;simp at d;exact h
def Em(h:dw x m)(a:dw x k):k=m:=by obtain⟨_,_,rfl⟩:=h;exact mT (l':=0) (c':=0) a
def Mm(L:Nat)(x:Sx)(u:Du)(f:Nat)(l:List Nat)(a:Nat)(h:k<=m):(om L x u f l a k).length<=(om L x u f l a m).length:=by
 induction m with
 |zero=>obtain rfl:k=0:=by omega
        exact dC _
 |succ m b=>
  rcases fO k (m+1)with c|d;rw[pQ,kN];have:=b (by omega);omega;obtain rfl:k=m+1:=by omega
  exact dC _
def Mn(A:Nat->Prop)(m e:Nat)(f g:di)(l:List Nat)(d:List (List Nat))(w c:dg):Prop:=
 dP (λb=>b=e\/dw g b\/dw f b) w c/\GL c f l/\∃a,c.heap[e]? =some (.cells #[a] 66)/\(∀b,dw a b->dw g b\/w.heap.size<=b)/\kA A m c a d
theorem yN{wp gp mk ms m d db ob wb xb gb:Nat}{r:List Sx}(hW:lz wp gp mk ms H r I w)(hd:d<r.length)(S:LS w.heap.size m db ob wb xb gb):∀(f:Nat) (l:List Nat) (j:Nat) (lv R:di) (ls:List (List Nat)) (A:Nat->Prop) (z:dg),gC H+1<=j+f->l.length<=j->j<=gC H->(∀s∈l,s<6)->LC w wp d (iR H r[d]) db ob wb xb gb z->GL z lv l->(∀b,dw lv b->m<=b/\A b)->(∀b,A b->b<z.heap.size)->m<=z.heap.size->z.heap[ob]? =some (.cells #[R] 66)->kA A m z R ls->(∀b,dw R b->m<=b)->ls.length+(lF (gC H) r[d] (iR H r[d]) f l j).length<=100000->
  Calls V.prog 165 #[lv,.int .i64 j,dJ db,dJ ob,dJ wb,dJ xb,dJ gb] z (gh λv G=>Mn A m ob lv R l (ls++lF (gC H) r[d] (iR H r[d]) f l j) z G)
 |0,l,j,lv,R,ls,A,z,J,aX,aY,_,_,_,_,_,_,_,_,_,_=>by omega
 |f+1,l,j,lv,R,ls,A,z,J,aX,aY,aG,hC,hL,aa,hA,aA,ah,ho,aH,U=>by
  have aI:=hW.g.um;have aZ:=aI.days;have bk:=yM aI;have a0:(gC H:Int)=2*H.days:=by unfold gC;omega
  have bm:l.length<=6:=by omega
  obtain⟨D,E,rfl,ai,a1⟩:=hL.row;have ae:∀b,(dw R b\/dw (.slice D l.length E) b)->b≠ob:=λb q e=>by subst e;have:=S.o;rcases q with q|q;have:=aH _ q;omega;have:=(aa _ q).1;omega
  refine go V.func165 Tryz.ntmps165 ?_;refine dK (dl (dj hC.b1 rfl) (gA ⟨λh=>?_,λh=>?_⟩));have h:(l.length:Int)=(iR H r[d]).tries:=eA h;have hg:lF (gC H) r[d] (iR H r[d]) (f+1) l j=if vo (iR H r[d]) l then [l]else []:=by simp only[lF,dr h]
  rw[hg]at U⊢;have same:∀G,Ext z G->vo (iR H r[d]) l=false->Mn A m ob (.slice D l.length E) R l (ls++(if vo (iR H r[d]) l then [l]else [])) z G:=λG e J=>by rw[J,dp (by simp),List.append_nil];exact⟨e.keep _,hL.keep (e.keep λ_=>False) λ_ _ h=>h,R,e.at_ ah,λb q=>.inl q,ho.ext e⟩
  refine dN (pg (p:=λs=>decide (s%2=0)) ⟨167,#[],#[],rfl,by intro _ _;kernel_rfl,λn z=>DX n z⟩ l D E z ai (by omega)) ?_;refine dN (pg (p:=λs=>decide (s%2=1)) ⟨168,#[],#[],rfl,by intro _ _;kernel_rfl,λn z=>DY n z⟩ l D E z ai (by omega)) ?_
  have take:∀{Q:QW} {l0:L},Sub [(0,.slice D l.length E),(3,dJ ob)] l0->vo (iR H r[d]) l=true->(∀l' G,Mn A m ob (.slice D l.length E) R l (ls++(if vo (iR H r[d]) l then [l]else [])) z G->Q .normal l' G)->fE V.prog 86 (gB Tryz.f165 4) l0 z Q:=λ{Q l0} hs aJ hq=>by
   rw[dr aJ]at hq U;refine fE.kJ hs ?_;clear hs;have aK:∀{b:Nat},dw R b->¬dw (.slice D l.length E) b:=λq W=>by obtain⟨cs,g1⟩:=ho.RO q;obtain⟨aj,g2⟩:=hL.c3 W;exact gO g1 g2 (by decide)
   have aw:¬dw R ob:=λq=>ae ob (.inl q) rfl;have ad:∀b,dw R b->b<z.heap.size:=λb q=>by obtain⟨cs,g1⟩:=ho.RO q;exact dG.lt_of_heap g1
   refine io 4 dO (im (dw R)) (λa b h=>h.keep _) ?_;refine .exact R (λX e1=>dl (dj (e1.fU ah aw) rfl) ⟨rfl,Ext.refl _⟩) ?_;refine .rel (λu X=>gQ z.heap.size X u l) (λu a b hu e=>dM.keep hu e λx Y aB=>by have:=(dM.blk hu Y).1;have:=ad x aB;omega) (λX e1=>?_) ?_
   have a3:gi X D l:=λk hk=>by
    obtain⟨b,o,rfl,hc⟩:=ai k hk;obtain⟨b2,c2,aL,F,_,_,_,_⟩:=hL.v (by omega);injection F with F;obtain⟨rfl,rfl⟩:b=b2/\o=0:=by injection F with F;injection F with T e4;exact⟨T,e4⟩
    exact⟨_,_,rfl,e1.fh hc λJ=>aK J ⟨_,_,rfl⟩⟩
   exact dt (lQ a3 (by omega)) λu y ⟨F,hu⟩=>⟨hu.low e1.size,F⟩;refine .rel (λx X=>∃K u,x=.slice (some ⟨K,0,none⟩) 1 1/\z.heap.size<=K/\X.heap[K]? =some (.cells [u].toArray 27)/\gQ z.heap.size X u l) (λx a b ⟨K,u,O,C,P,h4⟩ e=>⟨K,u,O,C,e.fU P (λJ=>by have:=ad K J;omega),dM.keep h4 e λx Y aB=>by have:=(dM.blk h4 Y).1;have:=ad x aB;omega⟩) (λX e1 u hu=>?_) ?_;refine eQ [u] 27 (λy K F ak q=>⟨⟨K,u,rfl,dS e1.size ak,q,dM.ext hu F⟩,F⟩) ?_;obtain⟨a2,c2,rfl,_⟩:=gQ.row hu;intro z;kernel_rfl;refine .spec (λv X=>kA A m X v (ls++[l])/\∀b,dw v b->dw R b\/z.heap.size<=b) (λv a b ⟨O,C⟩ e=>⟨O.ext e,C⟩) (λX e1 aM a4 a5 bn=>?_) ?_;obtain⟨K,u,rfl,ak,al,hu⟩:∃K u,aM=.slice (some ⟨K,0,none⟩) 1 1/\z.heap.size<=K/\X.heap[K]? =some (.cells [u].toArray 27)/\gQ z.heap.size X u l:=a4;obtain⟨us,hr,aN,a6⟩:=ho.ext e1;have aO:u.oneCell'=true:=by obtain⟨a,c,rfl,_⟩:=gQ.row hu;rfl
   refine iM Q8 hr (dS aA e1.size) al (by simp only[fq,gl]at U;omega) (λv' y g1 g2 g3=>⟨⟨⟨us++[u],by simpa using g1,by simp[aN],λi hi=>?_⟩,λb q=>(g3 b q).imp id λh=>dS e1.size h⟩,g2⟩) rfl (by simp[ti,aO]);rcases fO i ls.length with ab|aP;obtain⟨x,x1,x2,x3⟩:=a6 i ab;refine⟨x,by rw[oQ (by omega)];exact x1,?_,x3⟩;rw[oR ab];exact dM.keep x2 g2 (mY x2 hr (by decide));obtain rfl:i=ls.length:=by simp at hi;omega
   refine⟨u,by rw[qa (by omega)];simp[aN],?_,λb q ha=>?_⟩;simp only[xn (dC _),ot,qb];exact dM.keep (gQ.low hu aA) g2 (mY hu hr (by decide));have:=(dM.blk hu q).1;have:=hA b ha;omega;rintro X e1 bo ⟨aQ,ax⟩ aM _ a5 _;obtain⟨a9,c9,rfl,_,_⟩:=aQ.own.row;refine ee (e1.fU ah aw) λy k2 a7=>hq _ _ ⟨e1.trans k2 (λx _ Y=>.inr (.inl Y)) (λx _ Y=>.inl Y),(hL.keep e1 λb q W=>aK W q).keep k2 λb q e=>ae b (.inr q) e,_,a7,ax,aQ.keep k2 (λb q e=>?_) λu x b hu q _ e=>?_⟩;rcases ax b q with h|h;exact ae b (.inl h) e;have:=dG.lt_of_heap ah;omega;have:=(dM.blk hu q).1;have:=S.o;omega
  refine⟨λO=>?_,λO=>?_⟩;refine ki rfl ⟨λC=>?_,λC=>?_⟩;exact ki rfl (take ⟨rfl,rfl,trivial⟩ (by unfold vo;rw[O,C];rfl) λl' G h=>⟨_,rfl,h⟩);refine dl (dj hC.b1 rfl) (eC ⟨λP=>?_,λP=>?_⟩);exact take ⟨rfl,rfl,trivial⟩ (by unfold vo;rw[O,C,P];rfl) λl' G h=>⟨_,rfl,h⟩;exact⟨_,rfl,same _ (Ext.refl _) (by unfold vo;rw[C,Bool.false_or,P,Bool.and_false])⟩;refine dl (dj hC.b1 rfl) (eC ⟨λP=>?_,λP=>?_⟩);refine⟨λC=>?_,λC=>?_⟩;exact ki rfl (take ⟨rfl,rfl,trivial⟩ (by unfold vo;rw[O,C,P];rfl) λl' G h=>⟨_,rfl,h⟩);refine dl (dj hC.b1 rfl) (eC ⟨λh4=>?_,λh4=>?_⟩);exact take ⟨rfl,rfl,trivial⟩ (by unfold vo;rw[O,C,P,h4];rfl) λl' G h=>⟨_,rfl,h⟩;exact⟨_,rfl,same _ (Ext.refl _) (by unfold vo;rw[C,Bool.false_or,h4,Bool.and_false])⟩;exact mX rfl ⟨_,rfl,same _ (Ext.refl _) (by unfold vo;rw[O,Bool.false_or,P,Bool.false_and])⟩;have h:¬(l.length:Int)=(iR H r[d]).tries:=eH h;rw[Gg _ _ _ _ _ _ h]at U⊢
  refine gE (gC H-j) (λk (_:di)=>[(0,.slice D l.length E),(1,.int .i64 j),(2,dJ db),(3,dJ ob),(4,dJ wb),(5,dJ xb),(6,dJ gb),(11,.int .i64 (j+k:Nat))])
   (λk aC G=>LC w wp d (iR H r[d]) db ob wb xb gb G/\GL G (.slice D l.length E) l/\dP (λb=>b=ob\/dw R b\/dw (.slice D l.length E) b) z G/\G.heap[ob]? =some (.cells #[aC] 66)/\(∀b,dw aC b->dw R b\/z.heap.size<=b)/\kA A m G aC (ls++om (gC H) r[d] (iR H r[d]) f l j k)) R ⟨⟨rfl,rfl,rfl,rfl,rfl,rfl,rfl,rfl,trivial⟩,hC,hL,dP.refl _ _,ah,λb q=>.inl q,by simpa[om]using ho⟩ ?_
  rintro k M X hk ⟨af,ar,k1,am,Z,aD⟩;have aR:=hW.ext af.e;obtain⟨sa,sc,g1,g2,g3,g4⟩:=aR.at_;refine dl (dj af.b3 rfl) (dl g1 (dN (last_at aR.g) (vS ⟨λan=>?_,λan=>?_⟩)));have ab:k<gC H-j:=by have:=eA an;omega
  obtain⟨b,o,rfl,hc⟩:=g4 d hd;have a8:j+k<6:=by omega
  have ba:(j+k)/2<3:=by omega
  have aS:X.cell? ⟨b,o+d*8+4+(j+k)/2,none⟩=some (.bool (pf r[d] ((j+k)/2))):=by
   have:(mw r[d])[4+(j+k)/2]? =some (.bool (pf r[d] ((j+k)/2))):=by
    obtain h0|h0|h0:(j+k)/2=0\/(j+k)/2=1\/(j+k)/2=2:=by omega
    all_goals rw[h0];rfl
   have:=hc _ _ this;rwa[<-tK]at this
  have skip:∀y,Ext X y->rq r[d] l (j+k)=true->LC w wp d (iR H r[d]) db ob wb xb gb y/\GL y (.slice D l.length E) l/\dP (λb=>b=ob\/dw R b\/dw (.slice D l.length E) b) z y/\y.heap[ob]? =some (.cells #[M] 66)/\(∀b,dw M b->dw R b\/z.heap.size<=b)/\kA A m y M (ls++om (gC H) r[d] (iR H r[d]) f l j (k+1)):=λy F hs=>by refine⟨af.keep S (F.keep λ_=>False) λ_ _ h=>h.elim,ar.keep (F.keep λ_=>False) λ_ _ h=>h,k1.trans (F.keep λ_=>False) (λ_ _ h=>h) λ_ _ h=>h.elim,F.at_ am,Z,?_⟩;rw[pQ,dr hs,List.append_nil];exact aD.ext F
  refine dT dO (dI (dj af.b3 rfl) (dI g2 (dI (dj af.b4 rfl) (dx (.int .i64 ((j+k)/2:Nat)) (λy _=>nM (n:=2) (by omega) (by omega) ⟨rfl,Ext.refl _⟩) (jU d 8 hd (dx (.pointer (some ⟨b,o+d*8+4+(j+k)/2,none⟩)) (λy _=>xe 3 ba ⟨rfl,Ext.refl _⟩) (dI aS ⟨λO=>?_,λO=>?_⟩)))))));exactλy F=>ki rfl (dD ⟨ab,M,⟨rfl,rfl,rfl,rfl,rfl,rfl,rfl,rfl,trivial⟩,skip y F (by simp[rq,O])⟩)
  have aT:∀{Q:QW} {l0:L} {y:dg},Sub [(0,.slice D l.length E),(1,.int .i64 j),(2,dJ db),(3,dJ ob),(4,dJ wb),(5,dJ xb),(6,dJ gb),(11,.int .i64 (j+k:Nat))] l0->Ext X y->rq r[d] l (j+k)=false->(∀ao N ac G,(∃B,LC w wp d (iR H r[d]) db ob wb xb gb G/\GL G (.slice D l.length E) l/\dP (λb=>b=ob\/dw R b\/dw (.slice D l.length E) b) z G/\G.heap[ob]? =some (.cells #[B] 66)/\(∀b,dw B b->dw R b\/z.heap.size<=b)/\kA A m G B (ls++om (gC H) r[d] (iR H r[d]) f l j (k+1)))->Q .normal ((85,ao)::(82,N)::(81,ac)::(84,.int .i64 ((j+k:Nat)+1))::(83,.int .i64 (j+k:Nat))::(80,.int .i64 (j+k:Nat))::(79,.slice D l.length E)::(78,HY db ob wb xb gb)::[(0,.slice D l.length E),(1,.int .i64 j),(2,dJ db),(3,dJ ob),(4,dJ wb),(5,dJ xb),(6,dJ gb),(11,.int .i64 (j+k:Nat))]) G)->fE V.prog 86 (gB Tryz.f165 9) l0 y Q:=λ{Q l0 y} hs F aU hq=>by
   refine fE.kJ hs ?_;clear hs skip;have aE:=af.keep S (F.keep λ_=>False) λ_ _ h=>h.elim;have ag:GL y (.slice D l.length E) l:=ar.keep (F.keep λ_=>False) λ_ _ h=>h;have k2:=k1.trans (F.keep λ_=>False) (λ_ _ h=>h) λ_ _ h=>h.elim;have aV:=F.at_ am;have au:=aD.ext F;have s2:z.heap.size<=y.heap.size:=k2.size;have ay:∀b,dw M b->m<=b:=λb q=>(Z b q).elim (aH b) λh=>dS aA h;have ap:∀b,dw (.slice D l.length E) b->b<y.heap.size:=λb q=>ag.blk q;have ad:∀b,dw M b->b<y.heap.size:=λb q=>by obtain⟨cs,h⟩:=au.RO q;exact dG.lt_of_heap h
   obtain⟨o1,bb,bc⟩:∃o1:Obj,(∀b,dw (.slice D l.length E) b->y.heap[b]? =some o1)/\∀b,dw (.slice D l.length E) b->∃cs,o1=.cells cs 3:=by by_cases Y:∃b,dw (.slice D l.length E) b;obtain⟨b,q⟩:=Y;obtain⟨cs,bd⟩:=ag.c3 q;exact⟨.cells cs 3,λb' W=>by rw[Em q W];exact bd,λ_ _=>⟨cs,rfl⟩⟩;exact⟨.cells #[] 3,λb q=>absurd ⟨b,q⟩ Y,λb q=>absurd ⟨b,q⟩ Y⟩
   obtain⟨o2,av⟩:∃o2:Obj,∀b cs,dw (.slice D l.length E) b->o1=.cells cs 3->o2=.cells (cs.setIfInBounds l.length (.int .i64 (j+k:Nat))) 3:=by
    cases o1 with
    |cells cs t fz=>exact⟨.cells (cs.setIfInBounds l.length (.int .i64 (j+k:Nat))) 3,λb aj _ e=>by injection e with e;rw[e]⟩
    |_=>exact⟨.cells #[] 3,λb aj _ e=>by cases e⟩
   have f9:∀{b},(b=ob\/dw M b\/dw (.slice D l.length E) b\/y.heap.size<=b)->b=ob\/m<=b:=λ{b} h=>by rcases h with h|h|h|h;exact .inl h;exact .inr (ay _ h);exact .inr (aa _ h).1;exact .inr (by omega)
   refine io 7 (Rn (.slice D l.length E) o1 o2) (im (λb=>b=ob\/dw M b\/dw (.slice D l.length E) b\/y.heap.size<=b)) (λa b h=>h.k.trans (dP.refl (λ_=>False) b) (λx _ Y=>.inr (.inr (.inl Y))) λ_ _ h=>h.elim) ?_;refine .exact (HY db ob wb xb gb) (λw3 T=>dl (dj (T.fU aE.b5 λJ=>by have:=S.g;rcases f9 J with h|h<;>omega) rfl) ⟨rfl,(Rn _ _ _).refl _⟩) ?_;refine .IS (λv w3=>∃K,v=.slice (some ⟨K,0,none⟩) 1 1/\y.heap.size<=K/\w3.heap[K]? =some (.cells [Value.int .i64 (j+k:Nat)].toArray 3)) (λv a b ⟨K,O,C,P⟩ e=>⟨K,O,C,e.k.fU P λJ=>by have:=ap K J;omega⟩) (λw3 T=>eQ [.int .i64 (j+k:Nat)] 3 λw4 K e4 ak q=>⟨⟨K,rfl,dS T.size ak,q⟩,e4.ea _ _ _⟩) ?_;refine .early rfl (Ro y.heap.size (.slice D l.length E) o2 (l++[j+k])) (λv a b h e=>h.ea e ap) (λw3 T ac be=>?_) ?_;obtain⟨K,rfl,ak,al⟩:∃K,ac=.slice (some ⟨K,0,none⟩) 1 1/\y.heap.size<=K/\w3.heap[K]? =some (.cells [Value.int .i64 (j+k:Nat)].toArray 3):=be;exact Ml (ag.ea T av) (λb q=>(T.n b o1 q (bb b q)).imp id (·.2)) T.k.size (by omega) al av bc λv w4 O C=>⟨O,C⟩;refine .exact (.int .i64 ((j+k:Nat)+1)) (λw3 _=>dD (m:=(j+k:Nat)) (n:=1) ⟨rfl,(Rn _ _ _).refl _⟩) ?_
   refine .spec (λv w3=>GL w3 (.slice D l.length E) l/\∃B,w3.heap[ob]? =some (.cells #[B] 66)/\(∀b,dw B b->dw M b\/y.heap.size<=b)/\kA A m w3 B ((ls++om (gC H) r[d] (iR H r[d]) f l j k)++lF (gC H) r[d] (iR H r[d]) f (l++[j+k]) (j+k+1)))
    (λv a b ⟨O,B,C,P,h4⟩ e=>⟨O.ea e av,B,e.k.fU C λJ=>ae ob (.inr J) rfl,P,h4.keep e.k (λb q W=>by obtain⟨cs,q1⟩:=h4.RO q;obtain⟨aj,q2⟩:=O.c3 W;exact gO q1 q2 (by decide)) λu x b hu q ha J=>ha (aa b J).2⟩) (λw3 T N aq=>?_) ?_
   have aq:Ro y.heap.size (.slice D l.length E) o2 (l++[j+k]) N w3:=aq;have az:GL w3 N (l++[j+k]):=by rcases aq with⟨_,_,_,_,_,_,h⟩|⟨_,_,_,_,h⟩<;>exact h
   have aF:∀b,dw N b->dw (.slice D l.length E) b\/y.heap.size<=b:=λb q=>by rcases aq with⟨b',c',k',q1,rfl,_⟩|⟨b',c',q1,rfl,_⟩;exact .inl (by rw[q1,mT (l':=0) (c':=0) q];exact⟨_,_,rfl⟩);exact .inr (by rw[mT (l':=0) (c':=0) q];exact q1)
   have bf:=aE.keep S T.k λb _ J=>.inr (aa b J).1;have bg:kA (λb=>A b\/dw N b) m w3 M (ls++om (gC H) r[d] (iR H r[d]) f l j k):=by have O:=au.more (A':=λb=>A b\/dw N b) λb q=>q.elim .inl λq=>(aF b q).imp (λh=>(aa b h).2) id;exact O.keep T.k (λb q W=>by obtain⟨cs,q1⟩:=au.RO q;obtain⟨aj,q2⟩:=ag.c3 W;exact gO q1 q2 (by decide)) λu x b hu q ha J=>ha (.inl (aa b J).2)
   have bp:(l++[j+k]).length=l.length+1:=by simp
   have aW:(if rq r[d] l (j+k)then []else lF (gC H) r[d] (iR H r[d]) f (l++[j+k]) (j+k+1))=lF (gC H) r[d] (iR H r[d]) f (l++[j+k]) (j+k+1):=by rw[aU];rfl
   have an:=Mm (gC H) r[d] (iR H r[d]) f l j (show k+1<=gC H-j by omega);rw[pQ,aW,kN]at an;have ih:=yN hW hd S f (l++[j+k]) (j+k+1) N M (ls++om (gC H) r[d] (iR H r[d]) f l j k) (λb=>A b\/dw N b) w3 (by omega) (by omega) (by omega) (λs hs=>by rcases j8.1 hs with hs|hs;exact aG s hs;rw[iQ.1 hs];exact a8) bf az (λb q=>⟨(aF b q).elim (λh=>(aa b h).1) λh=>by omega,.inr q⟩) (λb q=>q.elim (λh=>by have:=hA b h;have:=T.k.size;omega) λh=>az.blk h) (by have:=T.k.size;omega) (T.k.fU aV λJ=>ae ob (.inr J) rfl) bg ay (by rw[kN];omega);refine dt ih ?_;rintro v w4 ⟨kk,bh,B,q1,q2,q3⟩;refine⟨⟨?_,B,q1,λb q=>(q2 b q).imp id λh=>dS T.k.size h,q3.more λb q=>.inl (.inl q)⟩,kk.trans (dP.refl (λ_=>False) w4) (λx _ Y=>?_) λ_ _ h=>h.elim⟩;rcases aq with⟨b',c',k',q4,rfl,q5,_⟩|⟨b',c',q4,rfl,_⟩;injection q4 with q4 q6 q7;subst q4 q6 q7;obtain⟨b2,c2,aL,z1,z2,z3,z4,z5⟩:=bh.v (by omega);injection z1 with z1 _ z6;have:=dQ Addr.block (dH z1);simp only at this;subst this;subst z6;refine .inr ⟨_,_,aL,rfl,a1,z3,z4,λi hi=>?_⟩;have:=z5 i (by omega);rwa[oR hi]at this;refine(ag.ea T av).keep kk λb q J=>?_;rcases J with h|h|h;exact ae b (.inr q) h;obtain⟨cs,x1⟩:=au.RO h;obtain⟨aj,x2⟩:=ag.c3 q;exact gO x1 x2 (by decide);have:=ap b q;have:=mT (l':=0) (c':=0) h;omega;rcases Y with h|h|h;exact .inl h;exact .inr (.inl h);exact .inr (.inr (aF x h));rintro w3 T ao ⟨O,B,C,P,h4⟩ N _ ac _;refine hq ao N ac w3 ⟨B,aE.keep S T λb _ J=>f9 J,O,k2.trans T (λx _ Y=>Y) λx Y J=>?_,C,λb q=>?_,?_⟩;rcases J with h|h|h|h;exact .inl h;rcases Z x h with h|h;exact .inr (.inl h);omega;exact .inr (.inr h);omega;rcases P b q with h|h;exact Z b h;exact .inr (by omega);rw[pQ,aU,<-List.append_assoc];exact h4
  refine lf (Az ⟨λC=>?_,λC=>?_⟩);have C:0<l.length:=by simpa using C
  obtain⟨bl,c,cs,e,q1,q2,q3,q4⟩:=ar.v C;injection e with e bq bi;subst e;subst bi;have bj:=q4 (l.length-1) (by omega);have br:=aG _ (fc (show l.length-1<l.length by omega));refine lf (rh (nH (l.length-1) (by omega) (dI (v:=.int .i64 (l[l.length-1]:Nat)) (dj q2 (by rw[dB];exact bj)) (dx (.int .i64 (l[l.length-1]/2:Nat)) (λy _=>nM (n:=2) (by omega) (by omega) ⟨rfl,Ext.refl _⟩) (dx (.int .i64 ((j+k)/2:Nat)) (λy _=>nM (n:=2) (by omega) (by omega) ⟨rfl,Ext.refl _⟩) (HF λy F=>⟨λP=>?_,λP=>?_⟩)))) (by omega)));have P:l[l.length-1]/2=(j+k)/2:=Int.ofNat.inj (eA P);exact dD ⟨ab,M,⟨rfl,rfl,rfl,rfl,rfl,rfl,rfl,rfl,trivial⟩,skip y F (by simp[rq,C,Ek C,P])⟩;have P:¬l[l.length-1]/2=(j+k)/2:=λe=>eH P (by rw[e]);exact aT ⟨rfl,rfl,rfl,rfl,rfl,rfl,rfl,rfl,trivial⟩ F (by simp[rq,O,C,Ek C,P]) λao N ac G ⟨B,hJ⟩=>dD ⟨ab,B,⟨rfl,rfl,rfl,rfl,rfl,rfl,rfl,rfl,trivial⟩,hJ⟩;have C:¬0<l.length:=by simpa using C
  exactλy F=>mX rfl (aT ⟨rfl,rfl,rfl,rfl,rfl,rfl,rfl,rfl,trivial⟩ F (by simp[rq,O,C]) λao N ac G ⟨B,hJ⟩=>dD ⟨ab,B,⟨rfl,rfl,rfl,rfl,rfl,rfl,rfl,rfl,trivial⟩,hJ⟩);have aP:k=gC H-j:=by have:=eH an;omega
  subst aP;exact⟨_,rfl,k1,ar,M,am,Z,aD⟩
def Ext.HZ(h:Ext w t)(k:dP A t e)(c:∀b,A b->w.heap.size<=b):Ext w e:=
 ⟨k.os.trans h.os,k.tape.trans h.tape,k.output.trans h.output,dS h.size k.size,dS h.drawn k.drawn,λx a=>(k.block x (eh a h.size) λd=>by have:=c x d;omega).trans (h.block x a)⟩
theorem jr.low{a:List (List Nat)}(h:jr m w x a)(b:k<=m):jr k w x a:=by obtain⟨c,d,e,f⟩:=h;exact⟨c,d.low b,e,λg i=>by obtain⟨u,j,l⟩:=f g i;exact⟨u,j,l.low b⟩⟩
def En{wp gp mk ms:Nat}{o:List Sx}(h:lz wp gp mk ms H o I w)(L:d<o.length)(F:tE 100000 o[d])(U:m<=gC H):
 Calls V.prog 120 #[dJ wp,.int .i64 d,.int .i64 m] w (gh λv M=>Ext w M/\jr w.heap.size M v (jl H o[d] m)):=by
 have t:=h.g.um;have W:=yM t;refine go V.func120 Tryz.ntmps120 ?_;refine fB λX A G Y e=>fB λN B u O f=>?_;have e:X.heap[A]? =some (.cells #[dJ wp] 133):=e;have f:N.heap[B]? =some (.cells #[.int .i64 d] 3):=f;refine dl (dj (u.at_ e) rfl) (dl (dj f rfl) (dt (Rm (h.ext (G.trans u)) L F) ?_));rintro v w3 ⟨rfl,P⟩;refine fJ λw4 C Z J x=>ee x λQ k5 j=>?_;have j:Q.heap[C]? =some (.cells (ET d (iR H o[d])).toArray 101):=j.trans (dQ (λa=>some (Obj.cells a 101)) (fo (sD 101).toArray (ET d (iR H o[d])) rfl));have p:Ext N Q:=P.trans (Z.dz k5 J);have aa:=dG.lt_of_heap e;have ab:=dG.lt_of_heap f;have ac:=dG.lt_of_heap j;refine fJ λR D y ad l=>fJ λw7 E e7 K z=>ee z λq k8 i=>?_;have l:R.heap[D]? =some (.cells #[.slice none 0 0] 66):=l;have ae:=dG.lt_of_heap l;have i:q.heap[E]? =some (.cells #[HY C D A B E] 209):=i;have af:=dG.lt_of_heap i;have r:Ext R q:=e7.dz k8 K;have s1:=G.size;have s2:=u.size;have s3:=P.size;have s5:=p.size;have s6:=y.size;have s8:=r.size;have S:LS w.heap.size q.heap.size C D A B E:=⟨by omega,by omega,by omega,by omega,by omega,by omega⟩;have T:Ext w q:=((G.trans u).trans p).trans (y.trans r);have hC:LC w wp d (iR H o[d]) C D A B E q:=⟨T,(y.trans r).at_ j,((u.trans p).trans (y.trans r)).at_ e,(p.trans (y.trans r)).at_ f,i⟩;have c:∀b,¬dw (.slice none 0 0) b:=λb n=>by obtain⟨_,_,n⟩:=n;cases n
 have n:=(rU t o[d] m).1;have hg:=yN h L S (gC H+1) [] m (.slice none 0 0) (.slice none 0 0) [] (λ_=>False) q (by omega) (gu _) U (λs hs=>by cases hs) hC (.inl ⟨rfl,rfl⟩) (λb n=>absurd n (c b)) (λb n=>n.elim) (dC _) (r.at_ l) ⟨[],dM.nil _ _ _ _,rfl,λk hk=>by simp at hk⟩ (λb n=>absurd n (c b)) (by show 0+(jl H o[d] m).length<=100000;omega);refine dl (dj i rfl) (dt hg ?_);rintro v w9 ⟨k9,_,ov,q1,q2,q3⟩;refine dl (dj q1 rfl) ⟨_,rfl,T.HZ k9 λb n=>?_,q3.own.low (by omega)⟩;rcases n with h|h|h;omega;exact absurd h (c b);exact absurd h (c b)
theorem UK:ES 64 66 [.slice none 0 0]:=⟨by kernel_rfl,Tryz.t66,_,by kernel_rfl,rfl,by kernel_rfl,by kernel_rfl,by decide+kernel,by decide⟩
theorem jr.keep{n0:Nat}{w w':dg}{v:di}{e:List (List Nat)}{F:Nat->Prop}(h:jr n0 w v e)(k:dP F w w')(f:∀b a t,F b->w.heap[b]? =some (.cells a t)->t=27\/t=3->False):jr n0 w' v e:=by obtain⟨l,g,m,n⟩:=h;refine⟨l,g.keep k λb c d=>?_,m,λi o=>?_⟩;obtain⟨a,q⟩:=g.c_ c;exact f b a 27 d q (.inl rfl);obtain⟨u,p,j⟩:=n i o;refine⟨u,p,dM.keep j k λb c d=>?_⟩;obtain⟨a,q⟩:=dM.c_ j c;exact f b a 3 d q (.inr rfl)
theorem jr.Qm{n0:Nat}{w w':dg}{v:di}{c:List (List Nat)}{F:Nat->Prop}(h:jr n0 w v c)(k:dP F w w')(d:∀b,n0<=b->¬F b):jr n0 w' v c:=by obtain⟨g,e,j,l⟩:=h;refine⟨g,e.keep k λb a=>d b (e.blk a).1,j,λi m=>?_⟩;obtain⟨u,n,f⟩:=l i m;exact⟨u,n,dM.keep f k λb a=>d b (dM.blk f a).1⟩
def jy(n0:Nat)(w:dg)(v:di)(lss:List (List (List Nat))):Prop:=∃a:List di,dM n0 66 [.slice none 0 0] w v lss.length a/\a.length=lss.length/\∀k (h:k<lss.length),∃u,a[k]? =some u/\jr n0 w u lss[k]
section
variable{n0:Nat}{w w':dg}{v:di}{lss:List (List (List Nat))}
theorem jy.ext(h:jy n0 w v lss)(e:Ext w w'):jy n0 w' v lss:=by obtain⟨a,b,c,d⟩:=h;refine⟨a,b.ext e,c,λk f=>?_⟩;obtain⟨u,g,i⟩:=d k f;exact⟨u,g,i.ext e⟩
theorem jy.hH{m:Nat}(h:jy n0 w v lss)(e:jb m w w'):jy n0 w' v lss:=by obtain⟨a,b,c,d⟩:=h;refine⟨a,b.hH e,c,λk f=>?_⟩;obtain⟨u,g,i⟩:=d k f;exact⟨u,g,i.hH e⟩
theorem jy.keep{F:Nat->Prop}(h:jy n0 w v lss)(k:dP F w w')(d:∀b a t,F b->w.heap[b]? =some (.cells a t)->t=66\/t=27\/t=3->False):jy n0 w' v lss:=by obtain⟨f,e,g,j⟩:=h;refine⟨f,e.keep k λb c l=>?_,g,λi m=>?_⟩;obtain⟨a,q⟩:=e.c_ c;exact d b a 66 l q (.inl rfl);obtain⟨u,n,o⟩:=j i m;exact⟨u,n,o.keep k λb a t c p r=>d b a t c p (.inr r)⟩
theorem jy.v_(h:jy n0 w v lss):∃a c,v=.slice a lss.length c:=by obtain⟨d,b,_⟩:=h;obtain⟨a,c,e,_⟩:=b.len;exact⟨a,c,e⟩
theorem jy.nil(n0:Nat)(w:dg):jy n0 w (.slice none 0 0) []:=⟨[],dM.nil _ _ _ _,rfl,λk a=>by simp at a⟩
end
theorem Mo{w:dg}{k:di->dg->Prop}{z:Array Bool}{n0:Nat}{v:di}{lss:List (List (List Nat))}(h:jy n0 w v lss)(m:n0<=w.heap.size){b c:Nat}{u:di}{o:List (List Nat)}(p:jr n0 w u o)(e:w.heap[b]? =some (.cells [u].toArray 66))(f:lss.length+1<=1000000) (A:∀g w',jy n0 w' g (lss++[o])->dP (dw v) w w'->(∀b,dw g b->n0<=b)->k g w'):Au V.prog (builtin .append #[64,64] T z #[v,.slice (some ⟨b,0,none⟩) 1 c]) w k:=by
 obtain⟨B,r,s,C⟩:=h;have j:u.oneCell'=true:=by obtain⟨a,c,rfl,_⟩:=p.row;rfl
 have d:∀b t T,dw v b->w.heap[b]? =some (.cells t T)->T=27\/T=3->False:=λb t T e D E=>by obtain⟨F,q⟩:=r.c_ e;exact gO q D (by rcases E with rfl|rfl<;>decide)
 refine iM UK r m e f (λg w' y n K=>A g w' ⟨B++[u],by simpa using y,by simp[s],λi G=>?_⟩ n λb e=>(y.blk e).1) rfl (by simp[ti,j]);rcases fO i lss.length with l|H;obtain⟨x,I,J⟩:=C i l;refine⟨x,by rw[oQ (by omega)];exact I,?_⟩;rw[oR l];exact J.keep n d;obtain rfl:i=lss.length:=by simp at G;omega
 refine⟨u,by rw[qa (by omega)];simp[s],?_⟩;simp only[xn (dC _),ot,qb];exact p.keep n d
def Eo(n0:Nat)(w:dg)(b:Nat):Prop:=n0<=b/\∃a t c,w.heap[b]? =some (.cells a t c)
theorem dM.Nr{a:Type}{n0:Nat}{z:di}{w:dg}{v:di}{d:List di}{l:List a}{E:dg->di->a->Prop}(h:dM n0 T [z] w v l.length d)(j:∀k (h:k<l.length),∃u,d[k]? =some u/\E w u l[k]):jq (Eo n0 w) E z T w v l:=by obtain⟨m,⟨n,rfl⟩|⟨b,c,e,o,rfl,f,g,p,x,q,r⟩⟩:=h;exact .inl ⟨nZ n,rfl⟩;simp only[fq,gl,nk,dB]at m g;refine .inr ⟨b,c,e,(0,0),⟨o,e,T,(0,0),f⟩,rfl,f,g,p,λk i=>?_,λk i y=>?_⟩;obtain⟨u,s,t⟩:=j k i;exact⟨u,by rw[q k (by omega)];exact s,t⟩;rw[r k (by omega) (by omega)];simp[Nat.mod_one]
theorem gQ.Nr{n0:Nat}{w:dg}{v:di}{l:List Nat}(h:gQ n0 w v l):uY (Eo n0 w) w v l:=dM.Nr h λk a=>⟨.int .i64 l[k],by simp[jk,fI a],rfl⟩
theorem jr.Nr{n0:Nat}{w:dg}{v:di}{a:List (List Nat)}(h:jr n0 w v a):xX (Eo n0 w) w v a:=by obtain⟨g,b,i,c⟩:=h;exact dM.Nr b λk d=>by obtain⟨u,e,f⟩:=c k d;exact⟨u,e,f.Nr⟩
theorem jy.Nr{n0:Nat}{w:dg}{v:di}{lss:List (List (List Nat))}(h:jy n0 w v lss):ue (Eo n0 w) w v lss:=by obtain⟨f,a,g,b⟩:=h;exact dM.Nr a λk c=>by obtain⟨u,d,e⟩:=b k c;exact⟨u,d,e.Nr⟩
theorem yO(b c d:di)(a:List Int):(dX b c d a).size=3+a.length:=by simp[dX];omega
theorem zT(a b c:di)(d:List Int)(k:Nat)(v:Int):(dX a b c d).setIfInBounds (3+k) (.int .i64 v)=dX a b c (d.set k v):=by unfold dX;rw[show 3+k=k+1+1+1 by omega];simp[List.map_set]
theorem yP(a b d u:di)(c:List Int):(dX a b d c).setIfInBounds 2 u=dX a b u c:=by unfold dX;simp
theorem zU(G:Gd)(a:Nat):iN G a 0=List.replicate 32 0:=by unfold iN;simp only[Nat.not_lt_zero,fp];rfl
theorem oJ(G:Gd)(a k:Nat)(c:k<32):iN G a (k+1)=(iN G a k).set k (pR G a k):=by
 apply List.ext_getElem?;intro i;unfold iN;rw[List.getElem?_set,sn,sn];simp only[xo,List.length_range];rcases fO i 32 with b|b;rw[List.getElem?_range b];by_cases e:k=i;subst e;simp[c];simp only[e,fp,kG];have:(i<k+1)=(i<k):=by apply propext;omega
 simp[this];rw[G1 (by simpa using b)];have:¬k=i:=by omega
 simp[this]
theorem Ep:∀s:Nat,s<32->∀a:Nat,a<32->(decide (b8 .andNot s a=0))=OW s a:=by decide+kernel
theorem OX:∀n:Nat,n<=5->IntKind.u8.wrap (1*2^n)=((2^n:Nat):Int):=by decide+kernel
theorem Tc:∀n:Nat,n<=5->∀s:Nat,s<2^n->s<32/\∀d∈fR s,d<n:=by decide+kernel
theorem BL{w:dg}{k:di->dg->Prop}{x y:dZ}{m n:Nat}(b:m+n<256)(h:k (.int .u8 ((m+n:Nat):Int)) w):jB V.prog (do eqGuard .add T x y (.int .u8 m) (.int .u8 n);binOp .add T (.int .u8 m) (.int .u8 n)) w k:=by refine⟨_,w,?_,h⟩;go_simp;have a:IntKind.u8.signed=false:=rfl;unfold IntKind.wrap;simp[IntKind.bits,a];omega
theorem H0{f:IntKind}{t b o:Nat}{w:dg}{k:di->dg->Prop}(a n:Nat)(m:a<n)(h:k (.pointer (some ⟨b,o+a,none⟩)) w)(g:I=(a:Nat):=by rfl)(i:ty t=some ⟨2,n,1,n⟩:=by rfl):jB V.prog (Instr.indexAt t (.pointer (some ⟨b,o,none⟩)) (.int f I)) w k:=by
 subst g;obtain⟨e,j,l⟩:=DJ i rfl;refine⟨_,w,?_,h⟩;have c:(a:Int)<(n:Int):=by omega
 have d:(0:Int)<=(a:Int):=by omega
 unfold Instr.indexAt;simp only[asIntOf,Instr.sureAddr,pure_bind,Sem.run_bind,gY j,Result.andThen_ok,Sem.run_pure,d,c,and_self,ei,lO l,oO,iK,nk]
theorem Qn{w:dg}{s:dg->Prop}{b:Nat}{e f g:di}{c:List Int}{k:Nat}{v:Int}(i:w.heap[b]? =some (.cells (dX e f g c) 207))(m:k<c.length)(h:∀w',dP (λx=>x=b) w w'->w'.heap[b]? =some (.cells (dX e f g (c.set k v)) 207)->s w'):Dt V.prog (Instr.storeAt 3 (.pointer (some ⟨b,3+k,none⟩)) (.int .i64 v)) w s:=
 jj i (by rw[yO];show 3+k+1<=_;omega) (λw' j d=>h w' j (d.trans (dQ (λa=>some (Obj.cells a 207)) (zT _ _ _ _ _ _)))) (gG (l:=[.int .i64 v]) rfl)
def Mp(a:di)(w:dg):Calls V.prog 186 #[a] w (gh λv b=>v=a/\b=w):=by refine go V.func186 Tryz.ntmps186 ?_;exact⟨_,rfl,rfl,rfl⟩
def Rp:List Int:=List.replicate 32 0
def yQ{wp gp mk ms n0:Nat}{f:List Sx}(h:lz wp gp mk ms H f I w)(hA:∀b,A b->b<w.heap.size)(hp:kS A mk ms H w)(ax:n0<=mk)(ay:n0<=ms)(az:∀x∈f,tE 100000 x)(P:k<=gC H):
 Calls V.prog 162 #[dJ wp,.int .i64 k] w (gh λv D=>MA n0 mk ms H A w D/\∃s,v=dJ s/\fH (Eo w.heap.size D) s (jx H f k) D):=by
 have ak:=h.g.um;have h5:=ak.many;have al:=h.len;refine go V.func162 Tryz.ntmps162 ?_;refine dN (Mp _ _) (dt (BA h) ?_);rintro ov w1 ⟨e1,am⟩;have aI:=rV H.tries f;obtain⟨L,Q,rfl,_,aK⟩:=am.row;refine eJ (.agg (dX (dJ wp) (.slice L (ek H.tries f).length Q) (.slice none 0 0) Rp)) (fB λw2 s e2 aL E=>?_);have E:w2.heap[s]? =some (.cells (dX (dJ wp) (.slice L (ek H.tries f).length Q) (.slice none 0 0) Rp) 207):=E;refine dl (dj E rfl) (dK ?_);obtain⟨O,hO⟩:∃O,O=Value.slice L (ek H.tries f).length Q:=⟨_,rfl⟩;have aJ:(ek H.tries f).length<=5:=by omega
 have s1:=e1.size;have E2:=e1.trans e2;refine iE (n:=(ek H.tries f).length) (λi v=>[(0,dJ wp),(1,.int .i64 k),(5,dJ s),(21,.slice L (ek H.tries f).length Q),(22,.int .i64 (ek H.tries f).length),(23,.int .i64 i)]) (λi v D=>Ext w D/\gQ w.heap.size D O (ek H.tries f)/\D.heap[s]? =some (.cells (dX (dJ wp) O v Rp) 207)/\jy w.heap.size D v (mS H f k i)) (.slice none 0 0) ⟨⟨rfl,rfl,rfl,rfl,rfl,rfl,trivial⟩,E2,by rw[hO];exact am.ext e2,by rw[hO];exact E,by simpa[mS]using jy.nil _ _⟩ ?_ ?_ ?_;rintro i v M hk hJ;exact eg ⟨rfl,rfl,⟨rfl,rfl,rfl,rfl,rfl,rfl,trivial⟩,hJ⟩;rintro i v M hk ⟨e3,B,j,C⟩;have R:gi M L (ek H.tries f):=by obtain⟨a,c,q1,q2,_⟩:=B.row;rw[hO]at q1;injection q1 with q1;rw[q1];exact q2
 obtain⟨b,o,rfl,hc⟩:=R i hk;have F:=lR (fc hk);obtain⟨d,hd⟩:∃d,d=(ek H.tries f)[i]:=⟨_,rfl⟩;rw[<-hd]at hc F;refine eP i hk (dl hc ?_);have S:∀b,dw v b->w.heap.size<=b/\b<M.heap.size:=λb l=>by obtain⟨us,hr,_⟩:=C;exact hr.blk l
 have ad:¬dw v s:=λl=>by obtain⟨us,hr,_⟩:=C;obtain⟨cs,q⟩:=hr.c_ l;exact gO q j (by decide)
 refine io 10 dO (im (dw v)) (λa b h=>h.keep _) ?_;refine .exact v (λy G=>dl (dj (G.fU j ad) rfl) ⟨rfl,Ext.refl _⟩) ?_;refine .rel (λu y=>jr M.heap.size y u (jl H f[d] k)) (λu a b hu e=>hu.Qm e λx T ae=>by have:=(S x ae).2;omega) (λy G=>?_) ?_;have aA:Ext w y:=e3.HZ G λx T=>(S x T).1;exact dt (En (h.ext aA) F (az _ (fc F)) P) λu w5 ⟨e5,hu⟩=>⟨hu.low G.size,e5⟩;refine .rel (λx y=>∃N u,x=.slice (some ⟨N,0,none⟩) 1 1/\M.heap.size<=N/\y.heap[N]? =some (.cells [u].toArray 66)/\jr M.heap.size y u (jl H f[d] k)) (λx a b ⟨N,u,h1,h2,h3,h4⟩ e=>⟨N,u,h1,h2,e.fU h3 (λP=>by have:=(S N P).2;omega),h4.Qm e λx T ae=>by have:=(S x ae).2;omega⟩) (λy G u hu=>?_) ?_;refine eQ [u] 66 (λw5 N e5 an l=>⟨⟨N,u,rfl,dS G.size an,l,jr.ext hu e5⟩,e5⟩) ?_;obtain⟨a2,c2,rfl,_⟩:=jr.row hu;intro w;kernel_rfl;refine .spec (λv' y=>jy w.heap.size y v' (mS H f k (i+1))) (λv a b h1 e=>h1.ext e) (λy G ao aB aC aM=>?_) ?_;obtain⟨N,u,rfl,an,ap,hu⟩:∃N u,ao=.slice (some ⟨N,0,none⟩) 1 1/\M.heap.size<=N/\y.heap[N]? =some (.cells [u].toArray 66)/\jr M.heap.size y u (jl H f[d] k):=aB;refine Mo (C.ext G) (by have:=e3.size;have:=G.size;omega) (hu.low e3.size) ap (by simp[mS];omega) λv' w5 g1 g2 _=>⟨?_,g2⟩;have:mS H f k (i+1)=mS H f k i++[jl H f[d] k]:=by unfold mS;rw[jM hk,vB,lA,vC,<-hd,getD_eq F]
 rw[this];exact g1;rintro y G aN aq ao _ aC _;obtain⟨a9,c9,rfl⟩:=jy.v_ aq;refine ee (G.fU j ad) λw5 k5 aD=>dD ⟨_,⟨rfl,rfl,rfl,rfl,rfl,rfl,trivial⟩,(e3.HZ G λx T=>(S x T).1).dz k5 (by omega),?_,aD.trans (dQ (λa=>some (Obj.cells a 207)) (yP _ _ _ _ _)),aq.keep k5 λb cs t l hc ht=>?_⟩;refine dM.keep (dM.keep B G λb l P=>?_) k5 λb l P=>?_;obtain⟨us,hr,_⟩:=C;obtain⟨cs,q⟩:=hr.c_ P;obtain⟨ar,q'⟩:=dM.c_ B l;exact gO q q' (by decide);subst P;obtain⟨ar,q'⟩:=dM.c_ B l;exact gO j q' (by decide);subst l;exact gO (G.fU j ad) hc (by rcases ht with rfl|rfl|rfl<;>decide);rintro v M ⟨e3,B,j,C⟩;subst hO;have U:jy w.heap.size M v (jx H f k).lists:=by
  have:mS H f k (ek H.tries f).length=(jx H f k).lists:=by unfold mS jx;rw[qx]
  rw[<-this];exact C
 clear C;have R:gi M L (ek H.tries f):=by obtain⟨a,c,q1,q2,_⟩:=B.row;injection q1 with q1;rw[q1];exact q2
 have h3:=h.ext e3;obtain⟨sa,sc,g1,g2,g3,g4⟩:=h3.at_;obtain⟨da,dc,d1,d2⟩:=h3.g.c6;refine dl (dj j rfl) (dN (rT (ek H.tries f) L Q M R (λd hd=>by have:=lR hd;omega) (by omega)) (dl g1 (dl d1 (dK (Rc (by omega) ?_)))));rw[OX _ h5];have aO:2^H.doors.length<=32:=Nat.pow_le_pow_right (by omega) h5;obtain⟨p,W⟩:∃p,p=ja (ek H.tries f):=⟨_,rfl⟩;rw[<-W];have J:p<32:=by rw[W];exact tl _ 0 (by omega) λd hd=>by have:=lR hd;omega
 have aP:=dG.lt_of_heap j;have s3:=e3.size;have aE:kS (λx=>A x\/x=s) mk ms H M:=(hp.more (A':=λx=>A x\/x=s) λb l=>l.imp id λh=>by omega).ext e3;refine eZ (n:=2^H.doors.length) (λi=>[(0,dJ wp),(5,dJ s),(8,.int .u8 p),(55,.int .u8 (2^H.doors.length:Nat)),(56,.int .u8 i)]) (λi D=>jb n0 w D/\kS (λx=>A x\/x=s) mk ms H D/\gQ w.heap.size D (.slice L (ek H.tries f).length Q) (ek H.tries f)/\D.heap[s]? =some (.cells (dX (dJ wp) (.slice L (ek H.tries f).length Q) v (iN H p i)) 207)/\jy w.heap.size D v (jx H f k).lists) ⟨⟨rfl,rfl,rfl,rfl,rfl,trivial⟩,e3.hH n0,aE,B,by rw[zU];exact j,U⟩ ?_ ?_ ?_;rintro i y hk hJ;exact eg ⟨rfl,rfl,⟨rfl,rfl,rfl,rfl,rfl,trivial⟩,hJ⟩;rintro i y hk ⟨m4,af,ag,z,U⟩;have r:i<32:=by omega
 have aQ:=uy H p i;refine H0 i 32 r (Qn z (by omega) λw5 k5 X=>?_);have Y:∀{a b:dg},dP (λx=>x=s) a b->a.heap[s]? =some (.cells (dX (dJ wp) (.slice L (ek H.tries f).length Q) v (iN H p i)) 207)\/a.heap[s]? =some (.cells (dX (dJ wp) (.slice L (ek H.tries f).length Q) v ((iN H p i).set i (-1))) 207)->gQ w.heap.size a (.slice L (ek H.tries f).length Q) (ek H.tries f)->jy w.heap.size a v (jx H f k).lists->gQ w.heap.size b (.slice L (ek H.tries f).length Q) (ek H.tries f)/\jy w.heap.size b v (jx H f k).lists:=λkk l ha hl=>by refine⟨dM.keep ha kk λx T P=>?_,hl.keep kk λx cs t P hc ht=>?_⟩;obtain⟨ar,q'⟩:=dM.c_ ha T;subst P;rcases l with l|l<;>exact gO l q' (by decide);subst P;rcases l with l|l<;>exact gO l hc (by rcases ht with rfl|rfl|rfl<;>decide)
 obtain⟨ah,ai⟩:=Y k5 (.inl z) ag U;have m5:jb n0 w w5:=m4.dz k5 (by omega);have aj:=af.keep k5 λx T=>.inr T;refine OP _ rfl (fV ⟨λhn=>?_,λhn=>?_⟩);have K:OW i p=false:=by rw[<-Ep i r p J];simpa using hn
 refine BL (m:=i) (n:=1) (by omega) ⟨⟨rfl,rfl,rfl,rfl,rfl,trivial⟩,m5,aj,ah,?_,ai⟩;rw[oJ _ _ _ r,pR,K];exact X;have K:OW i p=true:=by rw[<-Ep i r p J];simpa using hn
 have au:=h.hH m5;obtain⟨aR,aS,z1,z2,z3,z4⟩:=au.at_;have aF:∀b,(A b\/b=s)->b<w5.heap.size:=λb l=>l.elim (λl=>by have:=hA b l;have:=m5.size;omega) λe=>by subst e;exact dG.lt_of_heap X
 refine dl z1 (dt (yK au.g aF aj ax ay (Tc _ h5 i hk)) ?_);rintro v6 w6 ⟨m6,u,b,rfl,aa⟩;have av:=m5.trans m6.1;have aw:=m6.2 aj;have Z:=m6.1.at_ X;cases ab:hZ H i with
 |none=>
  rw[ab]at aa;obtain⟨rfl,rfl⟩:=aa;refine mX rfl (BL (m:=i) (n:=1) (by omega) ⟨⟨rfl,rfl,rfl,rfl,rfl,trivial⟩,av,aw,dM.hH ah m6.1,?_,ai.hH m6.1⟩);rw[oJ _ _ _ r,pR,K,ab];exact Z
 |some ls=>
  rw[ab]at aa;obtain⟨rfl,a,c,rfl,_,_⟩:=aa;refine ki rfl (dK (H0 i 32 r (Qn Z (by rw[xp];omega) λw7 k7 ac=>BL (m:=i) (n:=1) (by omega) ?_)));obtain⟨aG,aH⟩:=Y k7 (.inr Z) (dM.hH ah m6.1) (ai.hH m6.1);refine⟨⟨rfl,rfl,rfl,rfl,rfl,trivial⟩,av.dz k7 (by omega),aw.keep k7 λx T=>.inr T,aG,?_,aH⟩;rw[oJ _ _ _ r,pR,K,ab];rw[List.set_set]at ac;exact ac
 rintro y ⟨m4,af,ag,z,U⟩;refine⟨_,rfl,⟨m4,λ_=>af.fewer λb l=>.inl l⟩,s,rfl,Ej ak al k,⟨by omega,_,_,_,z⟩,dJ wp,_,v,(0,0),.inr ⟨_,rfl⟩,?_,ag.Nr,U.Nr⟩;rw[z,W,<-al];rfl
end Go.Proofs.W
variable{R:Go.dG.dV}
namespace Go.Proofs.W
open Go.Conc Go.dG Go.dG.Cr Go.dG.Wg Go.RowKit Go.Conc.Lib Go.ConcR.Gen
open Go.ConcN Go.ConcN.Gen
open Go.ConcR (KK wgBlock WgAt stA smA mk DC0)
abbrev LF:List Nat:=[193,194]
def UL:LF.all (okF LF true (λ_=>false))=true:=by kernel_rfl
def rW{l:List Int}(h:(gy l m)[i]? =some x):∃n,x=.int .i64 n:=by
 have a:x∈(l.map (Value.int .i64)++List.replicate (m-l.length) (Value.int .i64 0)):=by have:=mC h;simpa[gy]using this
 rcases j8.1 a with a|a;obtain⟨b,_,rfl⟩:=nh.1 a;exact⟨b,rfl⟩;exact⟨0,List.eq_of_mem_replicate a⟩
def Mq(h:∀(i:Nat) v,W[i]? =some v->∃n,v=.int .i64 n):fG R W W:=
 ⟨rfl,λi v c a b=>by rw[a]at b;cases b;obtain⟨n,rfl⟩:=h i v a;exact .int _ _⟩
def H1(h:∀(i:Nat) v,W[i]? =some v->∃n,v=.int .i64 n)(a:fG R W X):X=W:=by refine Array.ext a.size.symm λi c d=>?_;have b:W[i]? =some W[i]:=jp d;have e:X[i]? =some X[i]:=jp c;have:=a.at_ i _ _ b e;obtain⟨n,f⟩:=h i _ b;rw[f]at this⊢;revert this;generalize X[i]=x;intro this;cases this;rfl
def Qo(w:dg)(o:Nat->Prop)(b:Nat):Prop:=o b/\∃l c a,Lh a/\w.heap[b]? =some (.cells (gy l c) 3 a)
def wN(w:dg)(A:Nat)(o:Nat->Prop)(b:Nat):Prop:=b=A\/Qo w o b
theorem dW.slice{w:dg}{o:Nat->Prop}{s:Sp}{y:SV}{a:dV}(h:dW o w s y)(e:∀b,Qo w o b->a.r b b/\a.sh b=none):VR a (.slice y.sa y.sl y.sc) (.slice y.sa y.sl y.sc):=by
 cases s with
 |none=>
  have:y=⟨none,0,0,0,0,false⟩:=h;subst this;exact .fW _ _
 |some s=>
  obtain⟨l,m,k⟩:=s;obtain⟨_,_,_,_,⟨_,c,_⟩|⟨_,d,c,f,_,_,g,i,j⟩⟩:=h;rw[c];exact .fW _ _;rw[f];obtain⟨n,p⟩:=e d ⟨c,l,y.sc,g,i,j⟩;exact .slice _ _ (.of _ _ n p)
def Gi{n:List Sp}{a:List SV}(t:A m)(u:∀b,C b->A b)(J:a.length=n.length)(f:w.heap[m]? =some (.cells W 199))(x:W.size=k*4)(K:a.length=k) (y:∀j (h:j<a.length),W[4*j]? =some (.slice a[j].sa a[j].sl a[j].sc)/\W[4*j+1]? =some (.int .i64 a[j].m)/\W[4*j+2]? =some (.int .i64 a[j].k)/\W[4*j+3]? =some (.bool a[j].b))
 (z:∀j (h:j<a.length) (L:j<n.length),dW C w n[j] a[j]):uR (o7 LF (λ_=>false) (wN w m C)) w w A B:=by
 refine⟨HR.of (λ_=>rfl) λb D o=>?_,λb D o=>?_⟩;obtain⟨rfl,p⟩:=o;rcases p with rfl|⟨g,l,c,M,E,q⟩;refine⟨_,_,f,f,.cells ⟨rfl,λi v N d r=>?_⟩ λ_ h=>h⟩;rw[d]at r;cases r;have O:i<W.size:=(fF.1 d).1;have s:i/4<a.length:=by omega
 obtain⟨F,G,H,I⟩:=y (i/4) s;have:i=4*(i/4)\/i=4*(i/4)+1\/i=4*(i/4)+2\/i=4*(i/4)+3:=by omega
 rcases this with e|e|e|e;rw[e,F]at d;cases d;exact(z _ s (by omega)).slice λb g=>⟨⟨rfl,.inr g⟩,rfl⟩;rw[e,G]at d;cases d;exact .int _ _;rw[e,H]at d;cases d;exact .int _ _;rw[e,I]at d;cases d;exact .bool _;exact⟨_,_,q,q,.cells (Mq λi v h=>rW h) λ_ h=>h⟩;obtain⟨rfl,p⟩:=o;rcases p with rfl|⟨g,_⟩;exact .inl t;exact .inl (u _ g)
def VR.OY{e:dV}(n:dV.Le R e){y:SV}(p:VR R (.slice y.sa y.sl y.sc) (.slice y.sa y.sl y.sc))(h:VR e y.val x):x=y.val:=by
 unfold SV.val at h;cases h with
 | @agg _ d o q=>
  have r:fG e #[.slice y.sa y.sl y.sc,.int .i64 y.m,.int .i64 y.k,.bool y.b] d:=⟨o,q⟩;have s:d.size=4:=o.symm
  have f:∀i (j:i<4),VR e (#[Value.slice y.sa y.sl y.sc,.int .i64 y.m,.int .i64 y.k,.bool y.b][i]'(by simpa using j)) (d[i]'(by omega)):=λi j=>
   r.at_ i _ _ (jp (by simpa using j)) (jp (by omega))
  have t:d[0]'(by omega)=.slice y.sa y.sl y.sc:=by
   have h:=f 0 (by omega);simp only[List.getElem_toArray,qb]at h;have g:=p.mono n;revert h g;generalize d[0]=z;generalize y.sa=a;intro h g;cases a with
   |none=>cases h;rfl
   |some a=>
    cases h with
    | @slice a C l c h=>
     cases g with
     |slice l c u=>
      rw[u.eq h rfl]
  have v:d[1]'(by omega)=.int .i64 y.m:=by have h:=f 1 (by omega);simp only[List.getElem_toArray,G2,qb]at h;revert h;generalize d[1]=z;intro h;cases h;rfl
  have w:d[2]'(by omega)=.int .i64 y.k:=by have h:=f 2 (by omega);simp only[List.getElem_toArray,G2,qb]at h;revert h;generalize d[2]=z;intro h;cases h;rfl
  have A:d[3]'(by omega)=.bool y.b:=by have h:=f 3 (by omega);simp only[List.getElem_toArray,G2,qb]at h;revert h;generalize d[3]=z;intro h;cases h;rfl
  have:d=#[.slice y.sa y.sl y.sc,.int .i64 y.m,.int .i64 y.k,.bool y.b]:=by
   refine Array.ext (by simp[s]) λi j B=>?_;have:i=0\/i=1\/i=2\/i=3:=by omega
   rcases this with rfl|rfl|rfl|rfl;exact t;exact v;exact w;exact A
  rw[this];rfl
def Gj(w:dg)(A:Nat)(o:Nat->Prop)(y:SV)(x:di)(a:dg):Prop:=x=y.val/\∀b,wN w A o b->a.heap[b]? =w.heap[b]?
def Mr{Wg A n:Nat}{own rd o:Nat->Prop}{cs:Array di}{B:List Sp}{a:List SV}{pl:Addr}{caller:Frame}{cl:List Frame}(hA:own A)(ho:∀b,o b->own b)(hl:a.length=B.length) (u:w.heap[A]? =some (.cells cs 199))(O:cs.size=n*4)(hn:a.length=n)(C:n<=65536) (hc:∀j (h:j<a.length),cs[4*j]? =some (.slice a[j].sa a[j].sl a[j].sc)/\cs[4*j+1]? =some (.int .i64 a[j].m)/\cs[4*j+2]? =some (.int .i64 a[j].k)/\cs[4*j+3]? =some (.bool a[j].b)) (ha:∀j (h:j<a.length) (h':j<B.length),dW o w B[j] a[j]):
 Wy PR 241 Wg true rd (λP g D=>g=G (caller.finish (dR a).val) cl/\(∀b,own b->P b)/\dW (λb=>o b/\P b) D (oD B) (dR a)) own
  (G (Frame.enter PR 193 #[.slice (some ⟨A,0,none⟩) n n,.func (.func 194) #[.pointer (some pl)] #[]] .normal) (caller::cl)) w:=by
 have hG:Go.dG.Good V.prog (o7 LF (λ_=>false) (wN w A o)):=Am UL (by decide);have d:uR (o7 LF (λ_=>false) (wN w A o)) w w own rd:=Gi hA ho hl u O hn hc ha;have f:=C6 a B hl ha;have E:fG (o7 LF (λ_=>false) (wN w A o)) #[.tuple #[]] #[.pointer (some pl)]:=fG.one (.A3 rfl pl);have F:fG (o7 LF (λ_=>false) (wN w A o)) #[] #[]:=fG.nil
 have H:fG (o7 LF (λ_=>false) (wN w A o)) #[.slice (some ⟨A,0,none⟩) n n,.func (.func 194) #[.tuple #[]] #[]] #[.slice (some ⟨A,0,none⟩) n n,.func (.func 194) #[.pointer (some pl)] #[]]:=
  fG.Kj (.slice _ _ (.mk _ _ ⟨rfl,.inl rfl⟩)) (.func rfl E.size E.at_ F.size F.at_)
 have hS:(o7 LF (λ_=>false) (wN w A o)).S 193=true:=by show LF.contains 193=true;decide
 have t:Go.dG.Reach V.prog (Go.dG.Left V.prog 193 (Gj w A o (dR a))) ⟨Frame.enter V.prog 193 #[.slice (some ⟨A,0,none⟩) n n,.func (.func 194) #[.tuple #[]] #[]] .normal,[floor],w⟩:=by
  refine qG (λx D T h=>h) (qL hG (λ_=>rfl) hS H d) λT hT=>?_;have I:A<w.heap.size:=lt_of_heap u;subst hn;refine(IG (.tuple #[]) A a (dF w T) C I λj hj=>?_).mono ?_;obtain⟨c0,c1,c2,c3⟩:=hc j hj;have e:∀k v,cs[k]? =some v->(dF w T).cell? ⟨A,k,none⟩=some v:=λk v h=>by show(match w.heap[A]? with|some (.cells cs _ _)=>_|_=>_)=_;rw[u];exact h
  rw[show j*4=4*j by omega];exact⟨e _ _ c0,e _ _ c1,e _ _ c2,e _ _ c3⟩;rintro e D ⟨rfl,Q⟩;refine⟨_,rfl,rfl,λb N=>Q.block b ?_⟩;show b<w.heap.size;rcases N with rfl|⟨_,_,_,_,_,hw⟩;exact I;exact lt_of_heap hw
 have c:=Hj (U:=λ_=>True) (λ_ _ _ _ _ _=>trivial) (ty:=241) (Wg:=Wg) (main:=true) (caller:=caller) (cs:=cl) (own:=own) (rd:=rd) hG (λ_=>rfl) hS V.func193 (R:=Gj w A o (dR a)) (λx D T h=>h) H t d;have c:Wy PR 241 Wg true rd (Out (λ_=>True) (Gj w A o (dR a)) rd (o7 LF (λ_=>false) (wN w A o)) caller cl) own (G (Frame.enter PR 193 #[.slice (some ⟨A,0,none⟩) n n,.func (.func 194) #[.pointer (some pl)] #[]] .normal) (caller::cl)) w:=by have e:V.prog.iC (o7 LF (λ_=>false) (wN w A o)).fs=PR:=Ot;rw[e]at c;exact c
 refine(Wy.PZ c).bind λP g D h=>n9 λw1 hr=>?_;obtain⟨⟨ρ,x,x',v,rfl,⟨hx,p⟩,hv,z,W,_⟩,J⟩:=h;subst hx;have X:VR (o7 LF (λ_=>false) (wN w A o)) (.slice (dR a).sa (dR a).sl (dR a).sc) (.slice (dR a).sa (dR a).sl (dR a).sc):=f.slice λb Q=>⟨⟨rfl,.inr Q⟩,rfl⟩;obtain rfl:=VR.OY z X hv;refine⟨rfl,J,?_⟩;have K:=W.rely hr;revert f;generalize dR a=y at p⊢;generalize oD B=s;intro f;cases s with
 |none=>exact f
 |some s=>
  obtain⟨l,m,k⟩:=s;obtain⟨q1,q2,q3,q4,Y|⟨Y,q,Z,q7,q8,aa,fz,q9,L⟩⟩:=f;exact⟨q1,q2,q3,q4,.inl Y⟩;have N:wN w A o q:=.inr ⟨Z,l,y.sc,fz,q9,L⟩;obtain⟨ob,ac,k1,k2,k3⟩:=K.heap.obj q q (z.r _ _ ⟨rfl,N⟩);replace k3:=k3.obj (by rw[<-z.g];rfl);rw[p q N,L]at k1;cases k1;cases k3 with
  | @cells _ ad _ _ ab kv kf=>
   have:=H1 (λi v h=>rW h) kv;subst this;exact⟨q1,q2,q3,q4,.inr ⟨Y,q,⟨Z,J _ (ho _ Z)⟩,q7,q8,aa,ab,λM h=>q9 M (kf M h),k2⟩⟩
end Go.Proofs.W
variable{Z:dm}
namespace Go.Proofs.W
open Go.Conc Go.dG Go.dG.Cr Go.dG.Wg Go.RowKit Go.Conc.Lib Go.ConcR.Gen
open Go.ConcN Go.ConcN.Gen
open Go.ConcR (KK wgBlock WgAt stA smA mk DC0)
structure KL(pc rc A pb:Nat)(o own:Nat->Prop)(ss:List Sp)(ys:List SV)(cs:Array di)(w:dg):Prop where
 p:w.cell? ⟨pc,0,none⟩=some (.pointer (some ⟨pb,0,none⟩))
 r:w.heap[rc]? =some (eI (dR []))
 a:w.heap[A]? =some (.cells cs 199)
 s:∀j (h:j<ys.length) (h':j<ss.length),dW o w ss[j] ys[j]
def dW.rely{own rd o:Nat->Prop}{L:dg->Prop}{s:Sp}{y:SV}(p:ez own rd L w t)(q:∀b,o b->own b)(h:dW o w s y):dW o t s y:=by
 cases s with
 |none=>exact h
 |some s=>
  obtain⟨l,m,k⟩:=s;obtain⟨f,g,i,j,a|⟨a,c,n,r,u,d,v,x,e⟩⟩:=h;exact⟨f,g,i,j,.inl a⟩;exact⟨f,g,i,j,.inr ⟨a,c,n,r,u,d,v,x,p.obj (.inl (q _ n)) e⟩⟩
def dW.mono{s:Sp}{y:SV}(n:∀b,A b->B b)(h:dW A w s y):dW B w s y:=by
 cases s with
 |none=>exact h
 |some s=>
  obtain⟨l,m,k⟩:=s;obtain⟨f,g,i,j,a|⟨a,c,o,p,q,d,r,t,e⟩⟩:=h;exact⟨f,g,i,j,.inl a⟩;exact⟨f,g,i,j,.inr ⟨a,c,n _ o,p,q,d,r,t,e⟩⟩
def dW.same{s:Sp}{y:SV}(o:∀b,A b->t.heap[b]? =w.heap[b]?)(h:dW A w s y):dW A t s y:=by
 cases s with
 |none=>exact h
 |some s=>
  obtain⟨l,m,k⟩:=s;obtain⟨f,g,i,j,a|⟨a,c,n,p,q,d,r,u,e⟩⟩:=h;exact⟨f,g,i,j,.inl a⟩;exact⟨f,g,i,j,.inr ⟨a,c,n,p,q,d,r,u,(o _ n).trans e⟩⟩
theorem KL.rely{f g A pb:Nat}{o own rd:Nat->Prop}{L:dg->Prop}{ss:List Sp}{ys:List SV}{cs:Array di}(d:rd f)(e:own g)(i:own A)(k:∀b,o b->own b):nU own rd L (KL f g A pb o own ss ys cs):=λ_ _ c h=>
 ⟨c.cell (.inr d) h.p,c.obj (.inl e) h.r,c.obj (.inl i) h.a,λj d l=>(h.s j d l).rely c k⟩
def UM(o:Nat->Prop)(e:List Sp)(d:List SV)(a:Frame)(f:List Frame):ij:=λc g w=>g=G (a.finish (dR d).val) f/\dW (λb=>o b/\c b) w (oD e) (dR d)
def Wy.UN{rd X:Nat->Prop}{S:ij}(h:Wy P T m D (λb=>rd b\/X b) S A Z w):
 Wy P T m D rd (λo Z j=>∃q,S q Z j/\∀b,o b↔q b\/X b) (λb=>A b\/X b) Z w:=by
 obtain⟨B,h⟩:=h
 have g:∀{A:Nat->Prop} {w i:dg},ez (λb=>A b\/X b) rd (Lv T m) w i->ez A (λb=>rd b\/X b) (Lv T m) w i:=λc=>
  ⟨c.tape,c.os,c.output,c.size,λb k u=>c.heap b k (u.elim (λh=>.inl (.inl h)) λh=>h.elim .inr λh=>.inl (.inr h)),c.live⟩
 induction h with
 | @here _ A _ _ h=>exact n9 λi c=>⟨A,h i (g c),λb=>nf⟩
 | @step _ A _ _ v x C y=>
  refine kV v λi c=>?_;obtain⟨s,j,t,f,e,d⟩:=x i (g c);refine⟨s,j,t,λb=>f b\/X b,e,⟨d.tape,d.os,d.output,d.size,λb=>?_,λb k l=>d.same b k λh=>l (.inl h),λe z=>?_⟩,y i s j t f (g c) e d⟩;constructor;rintro(h|h);exact((d.owns b).1 h).imp .inl id;exact .inl (.inr h);rintro((h|h)|h);exact .inl ((d.owns b).2 (.inl h));exact .inr h;exact .inl ((d.owns b).2 (.inr h));rcases d.evs e z with⟨a,n,rfl,h⟩|⟨r,n,rfl,h⟩|rfl;refine .inl ⟨a,n,rfl,?_⟩;rcases h with h|⟨h,p|p⟩|h;exact .inl (.inl h);exact .inr (.inl ⟨h,p⟩);exact .inl (.inr p);exact .inr (.inr h);exact .inr (.inl ⟨r,n,rfl,h.imp .inl id⟩);exact .inr (.inr rfl)
def Jj{e:qP}{m:IH}{Z d oc Wg Ch n pb A:Nat}{rd own o:Nat->Prop}{ss:List Sp}{ys:List SV}{cs:Array di}{caller:Frame}{cl:List Frame}(K:e.x2=.pointer (some ⟨d,0,none⟩))(h1:rd Z)(M:own d)(hA:own A)(ho:∀b,o b->own b)(F:¬o d)(N:A≠d) (hl:ys.length=ss.length)(aa:cs.size=n*4)(hn:ys.length=n)(O:n<=65536) (I:∀j (h:j<ys.length),cs[4*j]? =some (.slice ys[j].sa ys[j].sl ys[j].sc)/\cs[4*j+1]? =some (.int .i64 ys[j].m)/\cs[4*j+2]? =some (.int .i64 ys[j].k)/\cs[4*j+3]? =some (.bool ys[j].b)) (x7 ab ac ad ae af ag ah ai:di):WK PR 241 Wg true rd (UM o ss ys caller cl) own (KL Z d A pb o own ss ys cs) (Ho e m Z oc Wg Ch n A x7 ab ac ad ae af ag ah ai (caller::cl)):=by
 have i:=KL.rely (pb:=pb) (ss:=ss) (ys:=ys) (cs:=cs) (L:=Lv 241 Wg) h1 M hA ho;simp only[Ho,lL,An,xS];refine WK.val (v:=?_) i rfl rfl (by k_ne) (λw=>?_) (λw=>?_) ?_;rotate_left;go_simp;rfl;go_simp;walk_nrm;refine WK.ctl i rfl (λ_=>du) ?_;refine WK.ctl i rfl (λ_=>dA) ?_;refine WK.ctl i rfl (λ_=>stepG_cond (t:=false) rfl) ?_;simp only[iw,fp];refine WK.ctl i rfl (λ_=>stepG_exit rfl) ?_;refine WK.ctl i rfl (λ_=>dA) ?_;refine WK.ctl i rfl (λ_=>gJ) ?_;simp only[Ah,ia,fq,gl,Nat.reduceAdd,dB,List.range,List.range.loop];refine WK.val (v:=?_) i rfl rfl (by k_ne) (λw=>?_) (λw=>?_) ?_;rotate_left;go_simp;rfl;go_simp;walk_nrm;refine WK.load (v:=.pointer (some ⟨pb,0,none⟩)) i rfl rfl (by k_ne) (λw q=>?_) (λw q e z=>?_) ?_;have I:=(λw q=>q.p) w q;go_simp;have I:=(λw q=>q.p) w q;simp[go_sem,I]at z;exact .inl ⟨_,_,z,.inr (.inl ⟨rfl,h1⟩)⟩;walk_nrm;refine WK.val (v:=?_) i rfl rfl (by k_ne) (λw=>?_) (λw=>?_) ?_;rotate_left;go_simp;rfl;go_simp;walk_nrm;refine WK.enter (f:=193) (fn:=Tryz.f193) i rfl rfl (by k_ne) rfl Tryz.func193 rfl rfl ?_;simp only[List.map_toArray,lA,vC];intro w q;have P:own=λb=>(own b/\b≠d)\/b=d:=funext λb=>propext ⟨λh=>(Classical.em (b=d)).elim .inr λh'=>.inl ⟨h,h'⟩,λh=>h.elim (·.1) λe=>e▸M⟩
 have H:∀T,Wy PR 241 Wg true rd (λU g V=>∃J:Nat->Prop,((g=G (T.finish (dR ys).val) (caller::cl)/\(∀b,(own b/\b≠d)->J b)/\dW (λb=>o b/\J b) V (oD ss) (dR ys))/\∀b,b=d->V.heap[b]? =w.heap[b]?)/\∀b,U b↔J b\/b=d) own
  (G (Frame.enter PR 193 #[.slice (some ⟨A,0,none⟩) n n,.func (.func 194) #[.pointer (some ⟨pb,0,none⟩)] #[]] .normal) (T::caller::cl)) w:=λT=>by
  have:=Wy.UN (X:=λb=>b=d) (rd:=rd) (Wy.keep (B:=λb=>b=d) (λb C=>by subst C;exact⟨.inr rfl,λh=>h.2 rfl,lt_of_heap q.r⟩) (Mr (rd:=λb=>rd b\/b=d) (own:=λb=>own b/\b≠d) (Wg:=Wg) (A:=A) (n:=n) (pl:=⟨pb,0,none⟩) ⟨hA,N⟩ (λb C=>⟨ho b C,λe=>F (e▸C)⟩) hl q.a aa hn O I q.s (cl:=caller::cl) (caller:=T)));exact(λ(X:Nat->Prop) (e:X=λb=>(own b/\b≠d)\/b=d)=>by rw[e];exact this:∀X:Nat->Prop,(X=λb=>(own b/\b≠d)\/b=d)->Wy PR 241 Wg true rd _ X _ w) own P
 refine(H _).bind ?_;rintro U g w1 ⟨J,⟨⟨rfl,ak,E⟩,Q⟩,y⟩;rw[Frame.finish_at];have aj:w1.heap[d]? =some (eI (dR [])):=(Q d rfl).trans q.r
 have u:∀s,nU U rd (Lv 241 Wg) λw=>w.heap[d]? =some (eI s)/\dW (λb=>o b/\J b) w (oD ss) (dR ys):=λs w w1 Y h=>
  ⟨Y.obj (.inl ((y d).2 (.inr rfl))) h.1,h.2.rely Y λb C=>(y b).2 (.inl C.2)⟩
 refine WK.write (bl:=d) (W:=λw V=>V.heap[d]? =some (eI (dR ys))) (u (dR [])) rfl rfl (by k_ne) ((y d).2 (.inr rfl)) (λw q=>?_) (λw q e z=>?_) ?_ w1 ⟨aj,E⟩;obtain⟨c0,c1,c2,c3,f0,f1,f2,f3⟩:=eE q.1;have hp:=kP (s:=dR ys) q.1;refine⟨jg w d (dR ys),?_,rfl,rfl,rfl,pF _ _ _,λc I=>oZ _ _ _ I,hp⟩;simp only[SV.val,jg];go_simp;obtain⟨c0,c1,c2,c3,f0,f1,f2,f3⟩:=eE q.1;simp only[SV.val]at z;have D:∀(w:dg) (D:Array Event) (a:Addr) (m:Mode) (x:Option Addr) (l c:Nat),(store a (.slice x l c) m).events PR w D=storedEv PR w D a (.slice x l c) m:=λw D a m x l c=>events_store PR w D a _ m rfl;have eb:∀(w:dg) (D:Array Event) (a:Addr) (m:Mode) (x:Bool),(store a (.bool x) m).events PR w D=storedEv PR w D a (.bool x) m:=λw D a m x=>events_store PR w D a _ m rfl;simp[go_sem,D,eb,K,c0,c1,c2,c3,f0,f1,f2,f3]at z;have R:U d:=(y d).2 (.inr rfl);rcases z with z|z|z|z<;>exact .inl ⟨_,_,z,.inl R⟩;refine WK.mono (K':=λw=>w.heap[d]? =some (eI (dR ys))/\dW (λb=>o b/\J b) w (oD ss) (dR ys)) ?_ ?_;rotate_left;rintro w ⟨w2,w3,q,hW,hs,S,Y⟩;refine u _ _ _ Y ⟨hW,q.2.same λb C=>S b λe=>F (e▸C.1)⟩;walk_nrm;refine WK.ctl (u _) rfl (λ_=>du) ?_;refine Lg (u _) (λw h=>h.1) ((y d).2 (.inr rfl)) (by simp[K]) rfl ?_;refine WK.stop (u _) λw h=>⟨rfl,h.2.mono λb C=>⟨C.1,(y b).2 (.inl C.2)⟩⟩
end Go.Proofs.W
variable{S:dg->Prop}
namespace Go.Proofs.W
open Go.Conc Go.dG Go.dG.Cr Go.dG.Wg Go.RowKit Go.Conc.Lib Go.ConcR.Gen
open Go.ConcN Go.ConcN.Gen
open Go.ConcR (KK wgBlock WgAt stA smA mk DC0)
def OZ(e:qP)(b c d f h n:Nat)(i:Nat->Prop)(Q:dg->Prop)(j:Nat->(Nat->Prop)->dg->di->Prop)(k:List Frame):ij:=λa g w=>∃m A,Sz e m b c d f A h n i Q j k a g w
def Gk{e:qP}{H:Nat->(Nat->Prop)->dg->di->Prop}{I:List Frame}(R:p<=65536)(M:A k)(J:A i)(N:qQ A S)(T:xU H) (O f l n q r t u y z B C D E F:di):
 WK PR 241 j true A (n7 PR 241 j o p A (CY H) (OZ e k i j o s p A S H I) qR p (λ_=>false)) (λx=>dE x\/x=d) (KA k i j o d s A S (·=madeCells mu.cells (p*4)))
  (G (kL.at (xS e k i j p O (.slice (some ⟨d,0,none⟩) p p) undef f l n q r t u y z B C D E F (.slice (some ⟨d,0,none⟩) p p) undef undef undef undef undef undef undef undef undef undef) [.code (nB.seq kX)]) I):=by
 have a:nU (λx=>dE x\/x=d) A (Lv 241 j) (KA k i j o d s A S (·=madeCells mu.cells (p*4))):=KA.rely M J (.inr rfl) N;refine WK.ctl a rfl (λ_=>dA) ?_;unfold nB;refine WK.ctl a rfl (λ_=>dA) ?_;refine WK.ctl a rfl (λ_=>gJ) ?_;simp only[uV,xS,ia,fq,gl,Nat.reduceAdd,dB,List.range,List.range.loop];refine WK.load (v:=.chan (some o)) a rfl rfl (by k_ne) (λw b=>?_) (λw b e P=>?_) ?_;have Q:=(λw b=>b.s.k.o) w b;go_simp;have Q:=(λw b=>b.s.k.o) w b;simp[go_sem,Q]at P;exact .inl ⟨_,_,P,.inr (.inl ⟨rfl,J⟩)⟩;walk_nrm;refine WK.ctl a rfl (λ_=>du) ?_;refine WK.ctl a rfl (λ_=>qA) ?_;refine WK.ctl a rfl (λ_=>stepG_loop) ?_;refine WK.mono (K':=KR k i j o d s p A S H (λx=>dE x\/x=d) (λ_=>false)) ?_ ?_
 exact hears (e:=e) (m:=⟨O,f,l,n,q,r,t,u,y,z,B,C,D,E,F,.slice (some ⟨d,0,none⟩) p p⟩) (λU g w h=>⟨_,d,h⟩) R M J N T p (λ_=>false) _ undef undef undef undef undef undef undef undef undef undef (by
  have:qS (λ_=>false) p=0:=by
   have:∀c,qS (λ_=>false) c=0:=λc=>by
    induction c with
    |zero=>rfl
    |succ c V=>
     have:qS (λ_=>false) (c+1)=qS (λ_=>false) c+0:=rfl;rw[this,V]
   exact this p
  omega)
 rintro w ⟨W,⟨I,X,rfl⟩,K,L⟩;exact⟨W,⟨_,X,size_madeCells _ _,λY _ h=>by cases h⟩,.inr rfl,K,L⟩
def BM{e:qP}{m o c Ch n p L C O:Nat}{Q:dg->Prop}{rd:Nat->Prop}{Pv:Nat->(Nat->Prop)->dg->di->Prop}{cs:List Frame}(y:n<=65536)(t:rd m)(u:rd o)(q:¬rd c)(v:qQ rd Q)(P:xU Pv)(R:0<L) (S:∀w,Q w->K9 p h L C a n O w)(B:rd p)(D:rd h.block)
 (d:∀i E w,i<n->KW m E o c Ch ⟨p,0,none⟩ i (λw=>Q w/\∀b,rd b->b<w.heap.size) w->Wy PR 241 c false (λb=>rd b\/b=E) (Sends PR 241 c Ch (CY Pv) i) dE (born PR (call188 m E o c)) w):
 WK PR 241 c true rd (Sr c Ch n rd (CY Pv) (OZ e m o c Ch p n rd Q Pv cs) n) dE (KS m o c Ch ⟨p,0,none⟩ rd Q) (G (kL.at (mK e m o c n 0 undef undef undef undef undef undef) [.code fZ,.inLoop fZ,.inBlock 0,.code iS]) cs):=by
 have T:=QV (e:=e) (cs:=cs) (pl:=⟨p,0,none⟩) (Q:=Q) (val:=CY Pv) (End:=OZ e m o c Ch p n rd Q Pv cs) (Nat.lt_of_le_of_lt y (by decide)) t u q v d (λx f g j k l=>
  CV (z:=qR) t u q v (λx r f g j k l s=>FD y t u v R S B D x r f g j k l s λA F H I J K M N=>Gk y t u v P x r f g j k l s F H I J K M N) x f g j k l) n (dC _) undef undef undef undef undef undef
 rwa[ot]at T
def yR(a:dg)(B:Nat->Prop)(w:dg):Prop:=∀b,B b->w.heap[b]? =a.heap[b]?
def Ms(h:∀b,B b->A b):qQ A (yR w B):=λ_ _ c d b a=>(c b (h b a)).trans (d b a)
def vp{w0:dg}{B rd:Nat->Prop}(h:∀b,B b->rd b)(c:∀b,B b->b<w0.heap.size):wA rd (yR w0 B):=λw i _ g e b a=>by have d:=c b a;have f:=e b a;rw[jp d]at f;exact(g b (lt_of_heap f) (h b a)).trans (e b a)
def C4.same{f:Option Addr}(b:B m)(c:B h.block)(d:C4 m a k i h j o f p s t)(w:dg)(e:yR t B w):C4 m a k i h j o f p s w:=
 ⟨(gX (e m b)).trans d.f1,(gX (e m b)).trans d.ls.f2,(gX (e _ c)).trans d.ls.l0⟩
def Jk(a:Nat->Sp)(j:Nat)(b:Nat->Prop)(w:dg)(v:di):Prop:=∃y:SV,v=y.val/\dW b w (a j) y
def Mt(a:Nat->Sp):xU (Jk a):=λ_ _ _ _ _ b ⟨y,c,d⟩=>⟨y,c,d.same b⟩
def Rq(b:Nat->Sp)(j:Nat)(o:Nat->Prop)(w:dg)(v:di):Prop:=∃a:Nat->Prop,(∀x,a x->o x/\x<w.heap.size)/\Jk b j a w v
theorem H2{a:Type}(P:Nat->a->Prop):∀n,(∀j,j<n->∃y,P j y)->∃l:List a,l.length=n/\∀j (h:j<l.length),P j l[j]
 |0,_=>⟨[],rfl,λj h=>by cases h⟩
 |n+1,h=>by
  obtain⟨l,b,d⟩:=H2 P n λj c=>h j (by omega);obtain⟨y,e⟩:=h n (by omega);refine⟨l++[y],by simp[b],λj c=>?_⟩;rw[List.getElem_append];split;exact d j _;have:j=n:=by simp at c;omega
  subst this;simpa[b]using e
def Gl(c:dg)(B:Nat->Prop)(d n:Nat)(e:Nat->Sp):Prop:=∀(a:Nat->Prop) (f i:Nat),i<n->(∀b,B b->a b)->PX a f ⟨d,0,none⟩ i (yR c B) (Rq e i)
def Jl{X B:Nat->Prop}{gs:Array dm}{sl:Option (Nat×Nat)}{t:Trace}{q:Nat->Nat}{pb on oc1 L C n c0:Nat}{oa a0:Option Addr}{la:Addr}{M:Nat->Sp}{caller:Frame}{cl:List Frame} (O:∀b,B b->b<w.heap.size/\¬X b)(aA:0<on)(hL:0<L)(aa:C4 pb oa on oc1 la L C a0 n c0 w)(P:B pb)(R:B la.block)(hn:n<=65536)(W:Gl w B pb n M) (f:CZ PR X gs (G (Frame.enter PR 163 #[.pointer (some ⟨pb,0,none⟩)] .normal) (caller::cl)) w t q):∃(N:Nat) (ab:Array dm) (H:dg) (aB:Option (Nat×Nat)) (t':Trace) (q':Nat->Nat) (X' o:Nat->Prop) (y:SV),runNT PR N (crowd gs w sl) t=(.next (crowd ab H aB),t')/\CZ PR X' ab (G (caller.finish y.val) cl) H t' q'/\(H.tape=w.tape/\H.os=w.os/\H.output=w.output)/\w.heap.size<=H.heap.size/\(∀b,b<w.heap.size->H.heap[b]? =w.heap[b]?)/\dW o H (oD ((List.range n).map M)) y/\(∀b,o b->w.heap.size<=b/\b<H.heap.size/\¬X' b)/\∀b,X' b->X b\/w.heap.size<=b:=by
 have ac:∀(Wg:Nat) (w:dg) (d:Nat),Lv 241 Wg w->Lv 241 Wg (w.at d):=λ_ _ _ h=>h;have ad:wA B (yR w B):=vp (λ_ h=>h) λb f=>(O b f).1;obtain⟨τ,h1⟩:=Lf (cs:=caller::cl) ad aA hL (λU hq=>aa.same P R U hq) P R (λb f=>(O b f).1) w ⟨(λx I=>by cases I),List.Pairwise.nil,(λx I=>by cases I),dC _,λ_ _=>rfl⟩;obtain⟨N1,aT,U,aD,t1,q1,aR,a1,r1,b1,⟨e,J,rc,oc,Wg,Ch,c,rfl,aE,F,aS⟩,u,aU⟩:=sX (ac 0) (λo g w h=>by obtain⟨_,_,_,_,_,_,_,rfl,_⟩:=h;rfl) h1 gs sl t q f λb f=>by rcases f with f|f;exact f.elim;exact⟨(O b f).2,(O b f).1⟩
 have aW:=F.at_ (Wg,wgBlock 241 0 0) (by simp);have ao:=F.at_ (oc,Obj.cells #[.chan (some Ch)] 232) (by simp);have aC:=F.at_ (Ch,Obj.chan 0 #[] false c c false) (by simp);have ar:=F.at_ (rc,Obj.cells #[.slice none 0 0,.int .i64 0,.int .i64 0,.bool false] 199) (by simp);have ap:=F.at_ (J,Obj.cells #[.pointer (some ⟨pb,0,none⟩)] 200) (by simp);have lW:=F.lo (Wg,wgBlock 241 0 0) (by simp);have lo:=F.lo (oc,Obj.cells #[.chan (some Ch)] 232) (by simp);have lC:=F.lo (Ch,Obj.chan 0 #[] false c c false) (by simp);have lr:=F.lo (rc,Obj.cells #[.slice none 0 0,.int .i64 0,.int .i64 0,.bool false] 199) (by simp);have lp:=F.lo (J,Obj.cells #[.pointer (some ⟨pb,0,none⟩)] 200) (by simp);have V:=F.inc;simp only[lA,vC,List.pairwise_cons,ft,lZ,jN,forall_eq_or_imp,forall_eq]at V;obtain⟨⟨i1,i2,i3,i4⟩,⟨i5,i6,i7⟩,⟨i8,i9⟩,aF,_⟩:=V;simp only at aW ao aC ar ap lW lo lC lr lp i1 i2 i3 i4 i5 i6 i7 i8 i9 aF;have r:∀b,X b->b<w.heap.size:=f.low;have ae:w.heap.size<=U.heap.size:=u.size;have aG:¬(B Wg\/Wg=J\/Wg=oc):=by rintro(h|h|h);have:=(O _ h).1;omega;omega;omega
 have aH:=BM (e:=e) (cs:=caller::cl) (Ch:=Ch) (rd:=λb=>B b\/b=J\/b=oc) (Pv:=Jk M) hn (.inr (.inl rfl)) (.inr (.inr rfl)) aG (Ms λ_ h=>.inl h) (Mt M) hL (λU hq=>(aa.same P R U hq).ls) (.inl P) (.inl R)
  λi ic H hi hk=>worker (k:=i) (rd:=λb=>(B b\/b=J\/b=oc)\/b=ic) (Q:=yR w B) (Sc:=Rq M i) (val:=CY (Jk M)) (.inl (.inr (.inl rfl))) (.inr rfl) (.inl (.inr (.inr rfl)))
   (vp (λ_ h=>.inl (.inl h)) λb f=>(O b f).1) (W _ Wg i hi λ_ h=>.inl (.inl h)) (λo w a l c m n s h=>by obtain⟨oj,h1,h2⟩:=h;exact⟨a,l,c,m,n,s,oj,rfl,h1,h2⟩) H ⟨hk.p,hk.i,hk.o,hk.live,hk.q.1⟩
 have hS:oA PR 241 Wg Ch n (λb=>B b\/b=J\/b=oc) (CY (Jk M)) (OZ e J oc Wg Ch pb n (λb=>B b\/b=J\/b=oc) (yR w B) (Jk M) (caller::cl)) n dE
  (G (kL.at (mK e J oc Wg n 0 undef undef undef undef undef undef) [.code fZ,.inLoop fZ,.inBlock 0,.code iS]) (caller::cl)) U:=by
  rw[Ai];refine aH U ⟨⟨by simp[World.cell?,ap],by simp[World.cell?,ao],λb f=>?_,F.q⟩,⟨0,0,aW⟩⟩;rcases f with f|rfl|rfl;exact eh (O b f).1 ae;exact lt_of_heap ap;exact lt_of_heap ao
 obtain⟨N2,m2,t2,r2,af,w2,aI,a2,q2,z,rfl,aJ,⟨m,A,x7,ag,ah,ai,aj,ak,al,am,an,rfl,Y⟩,aK,aL,S,D,aq,K,au⟩:=phase (sl:=aD) (by omega) b1.at0 b1.leavers b1.past (λb f=>by rcases f with f|rfl|rfl;have:=(O b f).1;exact⟨by omega,(O b f).2,by omega,by omega⟩;exact⟨lt_of_heap ap,λI=>by have:=r _ I;omega,by omega,by omega⟩;exact⟨lt_of_heap ao,λI=>by have:=r _ I;omega,by omega,by omega⟩) (by omega:Wg≠Ch) (λI=>by have:=r _ I;omega) (λI=>by have:=r _ I;omega) aW aC hS;obtain⟨cs,hA,aM,av⟩:=Y.a
 obtain⟨ys,aw,hP⟩:=H2 (λj (y:SV)=>(cs[4*j]? =some (.slice y.sa y.sl y.sc)/\cs[4*j+1]? =some (.int .i64 y.m)/\cs[4*j+2]? =some (.int .i64 y.k)/\cs[4*j+3]? =some (.bool y.b))/\
  dW (λb=>z b/\b≠A) w2 (M j) y) n λj hj=>by
  obtain⟨sa,sl,sc,mm,k,b,oj,g1,g2,g3,g4,g5,y,hy,hs⟩:=av j hj rfl;obtain⟨ya,yl,yc,ym,yk,yb⟩:=y;simp only[nC,SV.val]at hy;injection hy with hy;simp at hy;obtain⟨⟨rfl,rfl,rfl⟩,rfl,rfl,rfl⟩:=hy;exact⟨_,⟨g2,g3,g4,g5⟩,hs.mono λb f=>⟨(g1 b f).1,(g1 b f).2.1⟩⟩
 have aN:rc<U.heap.size:=lt_of_heap ar;have ax:¬z rc:=λh=>by have:=(S _ h).1;omega
 have ay:=Y.oa
 have Z:=Jj (e:=e) (m:=m) (pb:=pb) (Ch:=Ch) (oc:=oc) (rd:=λb=>B b\/b=J\/b=oc) (own:=λb=>z b\/b=rc) (o:=λb=>z b/\b≠A) (ss:=(List.range n).map M) (ys:=ys) (cs:=cs) (caller:=caller) (cl:=cl) (Wg:=Wg) aE (.inr (.inl rfl)) (.inr rfl) (.inl ay)
  (λb f=>.inl f.1) (λh=>ax h.1) (λe=>ax (e▸ay)) (by simp[aw]) aM aw hn (λj hj=>(hP j hj).1) x7 ag ah ai aj ak al am an w2
  ⟨Y.s.k.p,(D rc aN (by omega) (by omega)).trans ar,hA,λj h1 h2=>by simpa using(hP j h1).2⟩
 obtain⟨aV,h3⟩:=Z;have b2:CZ PR (λb=>b=Wg\/b=Ch\/X b) af (Ho e m J oc Wg Ch n A x7 ag ah ai aj ak al am an (caller::cl)) w2 t2 q2:=⟨aJ,rfl,aK,aL,λb f=>by rcases f with rfl|rfl|f;exact au;have:=lt_of_heap aC;omega;have:=r b f;omega⟩;obtain⟨N3,aO,w3,aP,t3,q3,az,a3,r3,b3,⟨rfl,T⟩,v,aQ⟩:=sX (ac Wg) (λo g w h=>by obtain⟨rfl,_⟩:=h;rfl) h3 af aI t2 q2 b2 λb f=>by rcases f with(f|rfl)|f|rfl|rfl;have:=S b f;exact⟨by rintro(h|h|h);exact this.2.2.1 h;exact this.2.2.2 h;have:=r b h;omega,this.2.1⟩;exact⟨by rintro(h|h|h);omega;omega;have:=r _ h;omega,by omega⟩;have:=O b f;exact⟨by rintro(h|h|h);omega;omega;exact this.2 h,by omega⟩;have:=lt_of_heap ap;exact⟨by rintro(h|h|h);omega;omega;have:=r _ h;omega,by omega⟩;have:=lt_of_heap ao;exact⟨by rintro(h|h|h);omega;omega;have:=r _ h;omega,by omega⟩
 refine⟨N1+(N2+N3),aO,w3,aP,t3,q3,λb=>b=Wg\/b=Ch\/X b,λb=>(z b/\b≠A)/\az b,dR ys,Go.dG.runNT_add r1 (Go.dG.runNT_add r2 r3),b3,⟨v.tape.trans (K.1.trans u.tape),v.os.trans (K.2.1.trans u.os),v.output.trans (K.2.2.trans u.output)⟩,
  dS ae (dS aq v.size),λb E=>?_,T,λb E=>?_,λb E=>?_⟩
 rw[v.heap b (by omega) (by rintro(h|h);have:=(S b h).1;omega;omega),D b (by omega) (by omega) (by omega),u.heap b E (λh=>h.elim)];have h2:=S b E.1.1;have h3:=aQ b (.inl E.2);exact⟨by omega,h3.2,h3.1⟩;rcases E with rfl|rfl|h;exact .inr lW;exact .inr lC;exact .inl h
def Mv(w:dg):(Instr.build 199 #[(3,.bool true)]).run PR w=.ok (.agg #[.slice none 0 0,.int .i64 0,.int .i64 0,.bool true]) w:=by kernel_rfl
def Jm(w:dg):(Instr.build 199 #[(3,.bool true)]).events PR w #[]=#[]:=by kernel_rfl
def Jn{o B m0:Nat}{Q:dg->Prop}{rd:Nat->Prop}{caller:Frame}{cl:List Frame}(A:wA rd Q) (M:∀w,Q w->w.cell? ⟨o,1,none⟩=some (.slice a 0 B))(F:rd o)(H:∀b,rd b->b<m0):
 WK PR 241 0 true rd (λ_ g _=>g=G (caller.finish (SV.mk none 0 0 0 0 true).val) cl) dE (KO [] Q m0) (G (Frame.enter PR 163 #[.pointer (some ⟨o,0,none⟩)] .normal) (caller::cl)):=by
 rw[C5];have N:∀x∈([]:List (Nat×Obj)),dE x.1:=λx p=>by cases p
 have C:=KO.rely (Q:=Q) (m0:=m0) (rd:=rd) (own:=dE) (L:=Lv 241 0) N A;simp only[tV,Ou];refine WK.ctl C rfl (λ_=>dA) ?_;refine WK.ctl C rfl (λ_=>gJ) ?_;simp only[xO,ia,fq,gl,Nat.reduceAdd,dB,List.range,List.range.loop];refine WK.FH (f:=λn=>.pointer (some ⟨n,0,none⟩)) (ob:=.cells #[.pointer (some ⟨o,0,none⟩)] 200) N A rfl rfl (by k_ne) (λw i=>?_) (λw i e j=>?_) λr _ _=>?_
 ·go_simp;first|done|rfl
 simp[go_sem]at j;walk_nrm;have Y:∀x∈[(r,Obj.cells #[.pointer (some ⟨o,0,none⟩)] 200)],(λx=>dE x\/x=r) x.1:=λx p=>by rw[iQ.1 p];exact .inr rfl
 refine WK.FH (f:=λn=>.pointer (some ⟨n,0,none⟩)) (ob:=.cells #[.slice none 0 0,.int .i64 0,.int .i64 0,.bool false] 199) Y A rfl rfl (by k_ne) (λw i=>?_) (λw i e j=>?_) λs _ _=>?_
 ·go_simp;first|done|rfl
 simp[go_sem]at j;walk_nrm;have O:∀x∈[(s,Obj.cells #[.slice none 0 0,.int .i64 0,.int .i64 0,.bool false] 199),(r,Obj.cells #[.pointer (some ⟨o,0,none⟩)] 200)],(λx=>(dE x\/x=r)\/x=s) x.1:=λx p=>by rcases ft.1 p with rfl|p;exact .inr rfl;rw[iQ.1 p];exact .inl (.inr rfl)
 have d:=KO.rely (m0:=m0) (L:=Lv 241 0) (own:=λx=>(dE x\/x=r)\/x=s) O A;have D:∀w,KO [(s,Obj.cells #[.slice none 0 0,.int .i64 0,.int .i64 0,.bool false] 199),(r,Obj.cells #[.pointer (some ⟨o,0,none⟩)] 200)] Q m0 w->w.cell? ⟨r,0,none⟩=some (.pointer (some ⟨o,0,none⟩)):=λw i=>by have:=i.at_ (r,Obj.cells #[.pointer (some ⟨o,0,none⟩)] 200) (by simp);simp[World.cell?,this]
 refine WK.ctl d rfl (λ_=>du) ?_;refine WK.ctl d rfl (λ_=>dA) ?_;refine WK.ctl d rfl (λ_=>dA) ?_;refine WK.ctl d rfl (λ_=>gJ) ?_;simp only[xP,ia,fq,gl,Nat.reduceAdd,dB,List.range,List.range.loop];refine WK.load (v:=.pointer (some ⟨o,0,none⟩)) d rfl rfl (by k_ne) (λw i=>?_) (λw i e j=>?_) ?_;have k:=(D) w i;go_simp;have k:=(D) w i;simp[go_sem,k]at j;exact .inl ⟨_,_,j,.inl (.inl (.inr rfl))⟩;walk_nrm;refine WK.val (v:=?_) d rfl rfl (by k_ne) (λw=>?_) (λw=>?_) ?_;rotate_left;go_simp;rfl;go_simp;walk_nrm;refine WK.val (v:=?_) d rfl rfl (by k_ne) (λw=>?_) (λw=>?_) ?_;rotate_left;go_simp;rfl;go_simp;walk_nrm;refine WK.load (v:=.slice a 0 B) d rfl rfl (by k_ne) (λw i=>?_) (λw i e j=>?_) ?_;have k:=(λw i=>M w i.q) w i;go_simp;have k:=(λw i=>M w i.q) w i;simp[go_sem,k]at j;exact .inl ⟨_,_,j,.inr (.inl ⟨rfl,F⟩)⟩;walk_nrm;refine WK.val (v:=?_) d rfl rfl (by k_ne) (λw=>?_) (λw=>?_) ?_;rotate_left;go_simp;rfl;go_simp;walk_nrm;refine WK.val (v:=.bool true) d rfl rfl (by k_ne) (λw=>?_) (λw=>?_) ?_;go_simp;simp[go_sem];walk_nrm;refine WK.ctl d rfl (λ_=>du) ?_;refine WK.ctl d rfl (λ_=>stepG_cond (t:=true) rfl) ?_;simp only[ei];refine WK.ctl d rfl (λ_=>dA) ?_;refine WK.ctl d rfl (λ_=>gJ) ?_;simp only[CP,ia,fq,gl,Nat.reduceAdd,dB,List.range,List.range.loop];have I:=Mv;have J:=Jm;refine WK.val (v:=.agg #[.slice none 0 0,.int .i64 0,.int .i64 0,.bool true]) d rfl rfl (by k_ne) (λw=>?_) (λw=>?_) ?_
 ·go_simp;first|done|rfl|simp only[I]
 simp[go_sem,J];walk_nrm;refine WK.Ld (pre:=[]) (ob:=eI (dR [])) (ob':=eI (SV.mk none 0 0 0 0 true)) O A (λb E K=>?_) rfl rfl (by k_ne) (λw i=>?_) (λw i e j=>?_) ?_
 ·have:=H b K;rcases E with(E|E)|E;exact E;all_goals omega
 have k:=i.at_ (s,eI (dR [])) (by simp);obtain⟨P,R,S,T,U,V,W,X⟩:=eE k;refine⟨jg w s ⟨none,0,0,0,0,true⟩,?_,rfl,rfl,rfl,pF _ _ _,λc k=>oZ _ _ _ k,kP k⟩;simp only[jg];go_simp;have k:=i.at_ (s,eI (dR [])) (by simp);obtain⟨P,R,S,T,U,V,W,X⟩:=eE k;have u:∀(w:dg) (u:Array Event) (z:Addr) (m:Mode) (x:Option Addr) (l c:Nat),(store z (.slice x l c) m).events PR w u=storedEv PR w u z (.slice x l c) m:=λw u z m x l c=>events_store PR w u z _ m rfl;have Z:∀(w:dg) (u:Array Event) (z:Addr) (m:Mode) (x:Bool),(store z (.bool x) m).events PR w u=storedEv PR w u z (.bool x) m:=λw u z m x=>events_store PR w u z _ m rfl;simp[go_sem,u,Z,P,R,S,T,U,V,W,X]at j;rcases j with j|j|j|j<;>exact .inl ⟨_,_,j,.inl (.inr rfl)⟩;walk_nrm;have h3:∀x∈[(s,eI (SV.mk none 0 0 0 0 true)),(r,Obj.cells #[.pointer (some ⟨o,0,none⟩)] 200)],(λx=>(dE x\/x=r)\/x=s) x.1:=λx p=>by rcases ft.1 p with rfl|p;exact .inr rfl;rw[iQ.1 p];exact .inl (.inr rfl)
 have y:=KO.rely (m0:=m0) (L:=Lv 241 0) (own:=λx=>(dE x\/x=r)\/x=s) h3 A;refine WK.ctl y rfl (λ_=>du) ?_;refine Lg y (λw h=>h.at_ (s,eI (SV.mk none 0 0 0 0 true)) (by simp)) (.inr rfl) (by simp) rfl ?_;exact WK.stop y λw h=>rfl
def Gm{l:Array dm}{sl:Option (Nat×Nat)}{t:Trace}{q:Nat->Nat}{caller:Frame}{cl:List Frame} (f:m<w.heap.size/\¬A m)(z:w.cell? ⟨m,1,none⟩=some (.slice a 0 k))(e:CZ PR A l (G (Frame.enter PR 163 #[.pointer (some ⟨m,0,none⟩)] .normal) (caller::cl)) w t q):∃(N:Nat) (j:Array dm) (i:dg) (n:Option (Nat×Nat)) (u:Trace) (C:Nat->Nat),runNT PR N (crowd l w sl) t=(.next (crowd j i n),u)/\CZ PR A j (G (caller.finish (SV.mk none 0 0 0 0 true).val) cl) i u C/\(i.tape=w.tape/\i.os=w.os/\i.output=w.output)/\w.heap.size<=i.heap.size/\(∀b,b<w.heap.size->i.heap[b]? =w.heap[b]?):=by
 obtain⟨M,D⟩:=Jn (caller:=caller) (cl:=cl) (vp (B:=λb=>b=m) (rd:=λb=>b=m) (w0:=w) (λ_ h=>h) λb e=>e▸f.1) (λv E=>(gX (E m rfl)).trans z) rfl (λb e=>e▸f.1) w ⟨(λx p=>by cases p),List.Pairwise.nil,(λx p=>by cases p),dC _,λ_ _=>rfl⟩;obtain⟨F,r,v,s,H,I,y,O,J,K,rfl,c,L⟩:=sX (λw d h=>h) (λo g w h=>by rw[h];rfl) D l sl t q e λb e=>by rcases e with e|rfl;exact e.elim;exact⟨f.2,f.1⟩
 exact⟨F,r,v,s,H,I,J,K,⟨c.tape,c.os,c.output⟩,c.size,λb e=>c.heap b e λh=>h.elim⟩
end Go.Proofs.W
namespace Go.dG
open Go.Conc
section
variable{P:dq}{fs:Array Func}{w0:dg}
def Cu.ends{Q:di->dg->Prop}{Post:di->dg->Prop}{c:py}{s:Array dm}{w:dg}{sl:Option (Nat×Nat)}{t:Trace}{q:Nat->Nat} (h:Cu P fs w0 R A c s Z w t q)(hs:Left P K Q c.fr c.cl c.v){r:Func}{j:Tmp}(k:P.funcs[K]? =some r)(u:r.results=#[.tmp j])(z:R.hole K=false)(C:(P.iC fs).inits.idxOf? K=none) (f:∀x S d,Q x c.v->VR R x S->Post S (w.at d)):∃N last o E T,runNT (P.iC fs) (N+1) (crowd s w sl) t=(.ended o E,T)/\runN (P.iC fs) N (crowd s w sl)=.next last/\Go.step (P.iC fs) last=.ended o E/\Go.Conc.Good (P.iC fs) Post last o E T:=by
 obtain⟨h1,F,x,h3,H,h5,h6,ab,U,l⟩:=hs;rw[F,k]at U;obtain rfl:=dH U;have a:eu P R c.fr Z.frame:=by
  have e:=h.gor.fr;generalize a:(G c.fr c.cl).frame=fr at e;generalize V:Z.frame=b at e;cases e with
  |fr k=>subst a;exact k
  | @hole g hS hh xs ac W=>
   have:c.fr=Frame.enter P g xs .normal:=a;rw[this]at H;cases H
 obtain⟨b,ad,ae,af,ag⟩:=Z;obtain⟨I,ah,e1,J,hX⟩:=h.gor.callers;have X:=h.gor.st.2;have Y:=h.gor.dy.2;have e5:=h.gor.of.2;simp only at J X Y e5 a;have p:c.cl=I++[floor]:=e1;rw[h1]at p;have L:I=[]:=by
  cases I with
  |nil=>rfl
  |cons y ys=>simp at p
 subst L;cases hX;simp only[List.append_nil]at J;subst J X Y e5;have m2:b.mode=.returning:=by have i:=a.mode;rw[H]at i;generalize b.mode=m at i⊢;cases i;rfl
 have d2:b.defers=[]:=by have i:=a.defers;rw[h5]at i;generalize b.defers=m at i⊢;cases i;rfl
 have k2:b.kind=.normal:=a.kind▸h6;have f2:b.fn=K:=a.fn▸F;have g2:(P.iC fs).funcs[K]? =some r:=by obtain⟨ai,c2,j1,_,_,j4⟩:=h.good.two.fn K (F▸a.fnS.1);rw[j4 z]at k;rw[<-h.same];show R.fs[K]? =_;rw[j1,k]
 have r2:∀M,results r M=Pure.pure (M.getD j undef):=by intro M;simp[results,u]
 have W:x=c.fr.tmps.getD j undef:=by rw[r2]at l;simp only[Sem.run_pure]at l;injection l with l;exact l.symm
 have O:VR R x (b.tmps.getD j undef):=by rw[W];exact a.tmps.getD .undef j
 refine beside_ends (Shun:=n6 A) (B:=w.heap.size) (D:=λ_ _ _=>False) (n:=0) (λ_ _ _ h=>h.elim) h.at0 h.leavers h.past ?_;rintro aa ⟨d,rfl⟩;refine⟨rfl,b.tmps.getD j undef,#[],?_,by simp,f x _ d h3 O⟩;simp[stepG,unwind,doReturn,m2,d2,k2,f2,g2,r2,C,lH,seen];rfl
end
end Go.dG
