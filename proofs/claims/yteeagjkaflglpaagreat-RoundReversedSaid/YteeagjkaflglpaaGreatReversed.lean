/- RoundReversed holds: a walk takes as long the other way round, and no longer without one of its doors, for every list of numbers. Conditions: none. -/
import Derived.Conc.CrowdTrace
import Derived.Below
import Derived.Conc.LeavingOf
import Derived.Carry
import Derived.ChangeSlices
import Derived.WideShapes
import Derived.Test.YteeagjkaflglpaaGreatRows
import Derived.JoinedOf
import Derived.KernelRfl
import Derived.Test.YteeagjkaflglpaaGreatX25
set_option maxRecDepth 100000
set_option maxHeartbeats 8000000
set_option linter.all false
namespace Go.Proofs.W
open Go.RowKit
def jU(W:Nat->Nat->Int)(a:Nat):List Nat->Nat->Int
 |[],z=>W a z
 |d::r,z=>W a (d+1)+jU W (d+1) r z
theorem kD(W:Nat->Nat->Int)(l:List Nat):lY W l=jU W 0 l 0:=by
 have b:∀k,k<=l.length->tc W l k+jU W (zY l k) (l.drop k) 0=jU W 0 l 0:=by
  intro k;induction k with
  |zero=>intro _;simp[tc,zY]
  |succ k c=>
   intro d;have a:k<l.length:=d;rw[<-c (by omega),List.drop_eq_getElem_cons a];have:zY l (k+1)=l[k]+1:=by simp[zY,List.getElem?_eq_getElem a]
   simp only[tc,jU,getD_eq a,this];omega
 rw[<-b l.length (Nat.le_refl _),List.drop_length];rfl
theorem vH(W:Nat->Nat->Int):∀(l:List Nat) (a d z:Nat),jU W a (l++[d]) z=jU W a l (d+1)+W (d+1) z
 |[],a,d,z=>rfl
 |e::r,a,d,z=>by have:=vH W r (e+1) d z;simp only[List.cons_append,jU,this];omega
theorem zS{W:Nat->Nat->Int}(b:∀i j,W i j=W j i):∀(l:List Nat) (a z:Nat),jU W a l.reverse z=jU W z l a
 |[],a,z=>b a z
 |d::r,a,z=>by rw[List.reverse_cons,vH,zS b r,b (d+1) z];simp only[jU];omega
theorem vI{W:Nat->Nat->Int}{d:Nat}(b:∀i j,W i j<=W i (d+1)+W (d+1) j)(y:List Nat):∀(x:List Nat) (a z:Nat),jU W a (x++y) z<=jU W a (x++d::y) z
 |[],a,z=>by
  cases y with
  |nil=>exact b a z
  |cons e r=>
   have:=b a (e+1);simp only[List.nil_append,jU];omega
 |e::r,a,z=>by have:=vI b y r (e+1) z;simp only[List.cons_append,jU];omega
theorem vJ(a b:Int):iV a b=iV b a:=by unfold iV;omega
theorem Eo(c:Int)(a b:Dr):qi c a b=qi c b a:=by
 unfold qi;rw[vJ a.at_,vJ a.st];by_cases h:a.st=b.st
 ·rw[if_pos h,if_pos h.symm]
 ·rw[if_neg h,if_neg (Ne.symm h)];omega
theorem Ep(G:Gd)(i j:Nat):iW G i j=iW G j i:=by unfold iW;cases(cP G)[i]? <;>cases(cP G)[j]? <;>simp[Eo]
theorem G9{c:Int}(g:0<=c){a b x:Dr}(k:0<=a.at_)(l:0<=b.at_)(n:0<=x.at_):qi c a b<=qi c a x+qi c x b:=by
 have i:∀p q,0<=iV p q:=λp q=>by unfold iV;omega
 have j:iV a.st b.st<=iV a.st x.st+iV x.st b.st:=by unfold iV;omega
 have m:=Int.mul_le_mul_of_nonneg_left j g;rw[Int.mul_add]at m;have o:=Int.mul_nonneg g (i a.st x.st);have r:=Int.mul_nonneg g (i x.st b.st);unfold qi;by_cases f:a.st=b.st
 ·by_cases d:a.st=x.st
  ·rw[if_pos f,if_pos d,if_pos (d.symm.trans f)];unfold iV;omega
  ·rw[if_pos f,if_neg d,if_neg (λe=>d (f.trans e.symm))];unfold iV at*;omega
 ·by_cases d:a.st=x.st
  ·rw[if_neg f,if_pos d,if_neg (λe=>f (d.trans e)),<-d];have:a.at_<=iV a.at_ x.at_+x.at_:=by unfold iV;omega
   omega
  ·by_cases h:x.st=b.st
   ·rw[if_neg f,if_neg d,if_pos h,h];have:b.at_<=x.at_+iV x.at_ b.at_:=by unfold iV;omega
    omega
   ·rw[if_neg f,if_neg d,if_neg h];omega
theorem Ha{G:Gd}(h:G.Ok){d:Nat}(m:d<G.doors.length)(i j:Nat):iW G i j<=iW G i (d+1)+iW G (d+1) j:=by
 have e:=(pt h i (d+1)).1;have f:=(pt h (d+1) j).1
 have g:∀x∈cP G,0<=x.at_:=λx c=>by
  rcases List.mem_cons.1 c with rfl|c
  ·simp
  ·exact(h.door x c).2.1.1
 obtain⟨x,c⟩:∃x,(cP G)[d+1]? =some x:=⟨G.doors[d],by simp[cP,List.getElem?_eq_getElem m]⟩;unfold iW at e f⊢;rw[c]at e f⊢;cases k:(cP G)[i]? with
 |none=>rw[k]at e;simpa using f
 |some a=>
  cases l:(cP G)[j]? with
  |none=>
   rw[k]at e;rw[l]at f;simpa using e
  |some b=>exact G9 (by have:=h.corner;omega) (g a (List.mem_of_getElem? k)) (g b (List.mem_of_getElem? l)) (g x (List.mem_of_getElem? c))
theorem zT:∀(l m:List Int),(l++m).sum=l.sum+m.sum
 |[],m=>by simp
 |a::r,m=>by have:=zT r m;simp only[List.cons_append,List.sum_cons];omega
theorem lG(G:Gd)(l m:List Nat):fx G (l++m)=fx G l+fx G m:=by unfold fx;rw[List.map_append,zT]
theorem vK(G:Gd):∀l:List Nat,fx G l.reverse=fx G l
 |[]=>rfl
 |d::r=>by rw[List.reverse_cons,lG,vK G r];have:fx G (d::r)=fx G [d]+fx G r:=lG G [d] r;omega
theorem Er{G:Gd}(h:G.Ok)(d:Nat):0<=fx G [d]:=by
 have e:fx G [d]=((G.doors[d]?).map (·.talk)).getD 0:=by simp[fx]
 rw[e];cases a:G.doors[d]? with
 |none=>simp
 |some x=>
  have:=(h.door x (List.mem_of_getElem? a)).2.2;simp only[Option.map_some,Option.getD_some];omega
theorem tZ(G:Gd)(l:List Nat):ee G l.reverse=ee G l:=by unfold ee tg;rw[kD,kD,zS (Ep G),List.length_reverse]
theorem Et(G:Gd)(l:List Nat):eI G l.reverse=eI G l:=by unfold eI;rw[tZ,vK]
theorem ri{G:Gd}(h:G.Ok){d:Nat}(a:d<G.doors.length)(x y:List Nat):ee G (x++y)<=ee G (x++d::y):=by
 have b:=vI (Ha h a) y x 0 0;have c:=h.knock;unfold ee tg;rw[kD,kD];have e:(((x++d::y).length:Nat):Int)=((x++y).length:Nat)+1:=by simp;omega
 rw[e,Int.add_mul];omega
theorem Bx{G:Gd}(h:G.Ok){d:Nat}(a:d<G.doors.length)(x y:List Nat):eI G (x++y)<=eI G (x++d::y):=by have b:=ri h a x y;have c:=Er h d;have e:=lG G x y;have f:=lG G x (d::y);have g:fx G (d::y)=fx G [d]+fx G y:=lG G [d] y;unfold eI;omega
theorem CF{x:Int}:∀{l:List Int} (i:Nat),x∉l->ut x l i= -1
 |[],_,_=>rfl
 |y::r,i,h=>by have a:¬x=y:=λe=>h (by rw[e];exact List.mem_cons_self);simp only[ut,if_neg a];exact CF (i+1) λb=>h (List.mem_cons_of_mem _ b)
theorem pN{n:Int}:∀(l pre:List Int),(∀x∈l,0<=x/\x<=n-1)->(pre++l).Nodup->iI n pre l=0
 |[],_,_,_=>rfl
 |d::r,pre,h,a=>by
  have b:=h d List.mem_cons_self;have c:lH d 0 (n-1)=true:=by simp[lH,b]
  have e:F6 d pre=false:=by
   have:d∉pre:=λf=>by rw[List.nodup_append]at a;exact a.2.2 d f d List.mem_cons_self rfl
   simp[F6,CF 0 this]
  simp only[iI,c,e,if_true,Bool.false_eq_true,if_false];exact pN r (pre++[d]) (λx g=>h x (List.mem_cons_of_mem _ g)) (by simpa using a)
theorem xd{n:Nat}{l:List Nat}(c:∀d∈l,d<n)(e:l.Nodup):eH n (kT l)=0:=by
 refine pN _ _ (λx f=>?_) ?_
 ·obtain⟨d,g,rfl⟩:=List.mem_map.1 f;have:=c d g;omega
 ·rw[List.nil_append];exact List.Pairwise.map _ (λa b h=>by omega) e
theorem Ja(l:List Nat):(kT l).map Int.toNat=l:=by simp[kT,Function.comp_def]
theorem ue{G:Gd}{a:Option Addr}{dc:Nat}{w:World}(f:fZ w a G.doors)(b:ed G=0){l:List Nat}{la:Option Addr}{lc:Nat}(g:dV w la l)(i:l.Nodup)(j:∀d∈l,d<G.doors.length)(k:l.length<=1000)(o:l.length<=lc):
 Calls V.prog 44 #[gV G a dc,.slice la l.length lc] w (eG λv w'=>v=.tuple #[.agg (eR (ee G l) (eI G l)).toArray,.int .i64 0]/\Ext w w'):=by
 have c:=kq b;have p:=c.many;have q:=c.streets;have e:(kT l).length=l.length:=by simp[kT]
 have h:=vk (dc:=dc) f (by omega) (by omega) (l:=kT l) (la:=la) (lc:=lc) g.ints (by omega) (by omega);rw[e]at h;refine h.mono ?_;rintro _ w' ⟨v,rfl,rfl,m⟩;refine⟨_,rfl,?_,m⟩;have n:iq G (kT l)=0:=by rw[iq,if_pos b];exact xd j i
 rw[oK,if_pos n,Ja]
theorem By{w:World}{k:Value->World->Prop}{t:TypeId}{p:Array Bool}{n0:Nat}{v:Value}{l d:List Nat}(h:dN n0 w v l)(g:n0<=w.heap.size){a:Option Addr}{m c:Nat}(q:m=d.length)(r:dV w a d)(e:l.length+d.length<=1000000) (n:∀f w',dN n0 w' f (l++d)->cr (ce v) w w'->k f w'):un V.prog (builtin .append #[27,27] t p #[v,.slice a m c]) w k:=by
 subst q;rcases Nat.eq_zero_or_pos d.length with s|x
 ·obtain rfl:d=[]:=List.eq_nil_of_length_eq_zero s;obtain⟨C,D,rfl,_,i⟩:=h.row;exact rM oH i (n _ _ (by simpa using h) (cr.refl _ _))
 ·rcases r.cells with y|⟨b,o,rfl,i⟩
  ·have:(eJ d).length=0:=by rw[y];rfl
   have E:(eJ d).length=d.length:=by simp[eJ]
   omega
  ·exact wA oH h g (m:=d.length) (news:=eJ d) (by simp[eJ]) x (λj u z=>by rw[eN];exact i j u z) (tk d) e λf w' A B _=>n f w' (by simpa[dN,eJ]using A) B
structure TE(n0:Nat)(X:Array Value)(a b:World):Prop where
 k:cr (λx=>n0<=x) a b
 d:∀x:Nat,a.heap[x]? =some (.cells X 56)->b.heap[x]? =some (.cells X 56)
 z:∀(x:Nat) cs,a.heap[x]? =some (.cells cs 56)->∃oi,b.heap[x]? =some (.cells oi 56)/\oi.size=cs.size
def TF(n0:Nat)(X:Array Value)(a b:World):Prop:=TE n0 X a b/\∀(x:Nat) c,a.heap[x]? =some (.cells c 3)->b.heap[x]? =some (.cells c 3)
theorem Ext.tf{a b:World}(h:Ext a b)(n0:Nat)(X:Array Value):TF n0 X a b:=⟨⟨h.keep _,λx c=>h.at_ c,λx d c=>⟨d,h.at_ c,rfl⟩⟩,λx d c=>h.at_ c⟩
theorem TE.trans{n0:Nat}{X:Array Value}{a b c:World}(h:TE n0 X a b)(k:TE n0 X b c):TE n0 X a c:=⟨h.k.trans k.k (λ_ _ h=>h) λ_ _ h=>h,λx e=>k.d x (h.d x e),λx f e=>by obtain⟨g,i,j⟩:=h.z x f e;obtain⟨l,m,n⟩:=k.z x g i;exact⟨l,m,n.trans j⟩⟩
theorem O8(n0:Nat)(X:Array Value):dR (TE n0 X):=⟨λw=>((Ext.refl w).tf n0 X).1,λa b c h k=>h.trans k,λw=>((Ext.drew w).tf n0 X).1⟩
theorem Hb(n0:Nat)(X:Array Value):dR (TF n0 X):=⟨λw=>(Ext.refl w).tf n0 X,λa b c h k=>⟨h.1.trans k.1,λx d e=>k.2 x d (h.2 x d e)⟩,λw=>(Ext.drew w).tf n0 X⟩
theorem dN.tf{n0 d:Nat}{X:Array Value}{a b:World}{v:Value}{l:List Nat}(h:dN d a v l)(k:TF n0 X a b):dN d b v l:=by
 obtain⟨e,h|⟨b,c,f,g,i,j,m⟩⟩:=h
 ·exact⟨e,.inl h⟩
 ·exact⟨e,.inr ⟨b,c,f,g,i,k.2 _ _ j,m⟩⟩
theorem Hc{x y:Operand}(a b:Int)(w:World):Sem.run V.prog (do eqGuard .neq 56 x y (.agg (eR a b).toArray) (.agg (eR a b).toArray);binOp .neq 56 (.agg (eR a b).toArray) (.agg (eR a b).toArray)) w=.ok (.bool false) w:=by show Sem.run V.prog (do eqGuard .neq 56 x y (.agg #[.int .i64 a,.int .i64 b]) (.agg #[.int .i64 a,.int .i64 b]);binOp .neq 56 (.agg #[.int .i64 a,.int .i64 b]) (.agg #[.int .i64 a,.int .i64 b])) w=.ok (.bool false) w;go_simp
theorem xe{w:World}{ns:List Int}{la:Option Addr}{lc:Nat}(hr:gM w la ns)(hl:ns.length<=9223372036854775807):Calls V.prog 4 #[.slice la ns.length lc] w (pJ λv w'=>v=.bool true/\Ext w w'):=by
 refine go V.func4 Tryz.ntmps4 ?_;refine cf (zQ hr hl) ?_;rintro _ n ⟨A,db,rfl,aH,hD⟩;refine cf (xa hD 5 (by omega)) ?_;rintro _ Q ⟨R,G,da,dc,rfl,hO,aI,hG,aJ⟩;have ok:=kq hG;have E2:Ext w Q:=⟨R.1.os.trans A.os,R.1.tape.trans A.tape,R.1.output.trans A.output,Nat.le_trans A.size R.1.size,Nat.le_trans A.drawn R.1.drawn,λx f=>(R.1.block x (Nat.lt_of_lt_of_le f A.size) (by omega)).trans (A.block x f)⟩;refine dS λw3 gb e3 aq ar=>cK ar λw4 k4 N=>?_;replace N:w4.heap[gb]? =some (.cells (gL G da dc).toArray 24):=N.trans (congrArg (λa=>some (Obj.cells a 24)) (eh (qg 24).toArray (gL G da dc) rfl));have ab:Ext Q w4:=Ext.cj e3 k4 aq;refine fW N (cf (Bw (dc:=dc) ((R.2 hD).ext ab) (by omega)) ?_);rintro _ w5 ⟨S,l,a,c,rfl,hn,hc,aK,ac,C,hA⟩;have s1:=A.size;have s2:=R.1.size;have aL:=hD.lt;have g5:w5.heap[gb]? =some (.cells (gL G da dc).toArray 24):=S.1.ef N (show¬gb=db by omega);have D:fZ w5 da G.doors:=nD.Ny (cC.keep (cC.ext hO ab) S.1 λb p e=>by have:=(cC.blk hO p).1;omega);have E4:=E2.trans ab;have E5:Ext w w5:=⟨S.1.os.trans E4.os,S.1.tape.trans E4.tape,S.1.output.trans E4.output,Nat.le_trans E4.size S.1.size,Nat.le_trans E4.drawn S.1.drawn,λx f=>(S.1.block x (Nat.lt_of_lt_of_le f E4.size) (by omega)).trans (E4.block x f)⟩;refine cA (fu (gq l.length (λ_ (s:Value×Int)=>[(4,cu gb),(5,.slice a l.length c),(6,s.1),(7,.int .i64 s.2)]) (λk s w'=>Ext w5 w'/\dN w5.heap.size w' s.1 (l.reverse.take k)/\s.2=(l.length:Int)-1-k) (.slice none 0 0,(l.length:Int)-1) ⟨⟨rfl,rfl,rfl,rfl,trivial⟩,Ext.refl _,cC.nil _ _ _ _,by simp⟩ ?_));rintro k ⟨v,i⟩ w6 hk ⟨e6,T,hi⟩;simp only at T hi;refine ve ⟨λad=>?_,λE=>?_⟩
 ·have ad:0<=i:=by simpa using ad
  obtain⟨m,rfl⟩:∃m:Nat,i=m:=⟨i.toNat,by omega⟩;have hm:m<l.length:=by omega
  have au:k<l.reverse.length:=by simp;omega
  obtain⟨b,o,rfl,ae⟩:=(hn.ext e6) m hm;refine dT m hm (cg ae (dB [Value.int .i64 l[m]] 3 λw7 nb e7 ak p=>gC oH (T.ext e7) (by have:=e6.size;have:=e7.size;omega) p (by simp;omega) λv' w8 av k8 _=>fu ⟨by omega,(v',(m:Int)-1),⟨rfl,rfl,rfl,rfl,trivial⟩,(e6.trans e7).gN k8 (T.ext e7) (Nat.le_refl _),?_,by simp only;omega⟩));have:l.reverse.take (k+1)=l.reverse.take k++[l[m]]:=by
   rw[List.take_succ_eq_append_getElem au];have:l.reverse[k]=l[m]:=by rw[List.getElem_reverse];congr 1;omega
   rw[this]
  rw[this];have h8:cC w5.heap.size 3 [.int .i64 0] w8 v' ((l.reverse.take k).length+1) (eJ (l.reverse.take k)++[.int .i64 l[m]]):=av;unfold dN;rw[List.length_append];simpa only[eJ,List.map_append,List.map_cons,List.map_nil,List.length_cons,List.length_nil,Nat.zero_add]using h8
 ·have F:k=l.length:=by
   have:¬0<=i:=by simpa using E
   omega
  have al:l.reverse.take k=l.reverse:=List.take_of_length_le (by simp;omega);rw[al]at T;obtain⟨a2,c2,rfl,aw,ax⟩:=T.row;refine fW (e6.at_ g5) (cf (ue (dc:=dc) (D.ext e6) hG (hn.ext e6) ac C (by omega) hc) ?_);rintro _ w7 ⟨rfl,e7⟩;refine dS λw8 sb e8 aM ay=>cK ay λw9 k9 af=>?_;replace af:w9.heap[sb]? =some (.cells (eR (ee G l) (eI G l)).toArray 56):=af;have am:Ext w6 w9:=Ext.cj (e7.trans e8) k9 (by have:=e7.size;omega);have ag:=e6.trans am;refine fW (ag.at_ g5) (cf (ue (dc:=dc) (D.ext ag) hG (aw.ext am) ((List.reverse_perm l).nodup_iff.2 ac) (λd hd=>C d (List.mem_reverse.1 hd)) (by simp;omega) ax) ?_);rintro _ aN ⟨rfl,an⟩;rw[tZ,Et];refine dS λaO tb az aP ao=>cK ao λah aA H=>?_;replace H:ah.heap[tb]? =some (.cells (eR (ee G l) (eI G l)).toArray 56):=H;have U:Ext w9 ah:=Ext.cj (an.trans az) aA (by have:=an.size;omega);have W:=U.at_ af;have B:=ag.trans U;have aB:=B.at_ g5;have ai:=D.ext B;have Y:=hn.ext B;refine eP (nh (by simp) (eP (nh (by simp) (dp (vs:=eR (ee G l) (eI G l)) (λj v Z=>by rw[Nat.zero_add];exact cd W (by simpa using Z)) (dp (vs:=eR (ee G l) (eI G l)) (λj v Z=>by rw[Nat.zero_add];exact cd H (by simpa using Z)) (c8 (.bool false) (nh rfl ?_) λw=>Hc _ _ w))))));refine gq l.length (λk (_:Unit)=>[(4,cu gb),(5,.slice a l.length c),(8,cu sb),(12,.int .i64 k)]) (λk _ w'=>Ext ah w') () ⟨⟨rfl,rfl,rfl,rfl,trivial⟩,Ext.refl _⟩ ?_;rintro k _ g hk y;refine cA (cY ⟨λE=>?_,λad=>?_⟩)
  ·have F:k<l.length:=by simpa using E
   obtain⟨m,hm⟩:∃m,m=l.take k++l.drop (k+1):=⟨_,rfl⟩;have aj:l=l.take k++l[k]::l.drop (k+1):=by rw[<-List.drop_eq_getElem_cons F,List.take_append_drop]
   have I:m.Sublist l:=by
    rw[hm];conv=>rhs;rw[aj]
    exact List.Sublist.append (List.Sublist.refl _) (List.sublist_cons_self _ _)
   have aQ:m.length<=l.length:=I.length_le;have aC:m.Nodup:=ac.sublist I;have ap:∀d∈m,d<G.doors.length:=λd hd=>C d (I.subset hd);obtain⟨X,hX⟩:∃X,X=(eR (ee G m) (eI G m)).toArray:=⟨_,rfl⟩;have n0:=g.heap.size;refine fa 9 (Hb g.heap.size X) (O8 g.heap.size X) (λa b h=>h.1) ?_;have aR:∀{n:World} {b:Nat} {o:Obj},TE g.heap.size X g n->g.heap[b]? =some o->n.heap[b]? =some o:=λe h=>e.k.ef h (by have:=ck.lt_of_heap h;omega);have ext:∀{n:World},TE g.heap.size X g n->Ext g n:=λe=>e.k.ext λb p=>by omega
   refine .exact (gV G da dc) (λn e=>fW ((ext e).at_ (y.at_ aB)) ⟨rfl,(Hb _ _).refl _⟩) ?_;refine .exact (.slice a k c) (λn e=>lV k (by omega) ⟨rfl,(Hb _ _).refl _⟩) ?_;refine .early rfl (λu n=>dN g.heap.size n u (l.take k)) (λu a b h e=>h.tf e) (λn e=>?_) ?_
   ·have h:=zR (l:=l.take k) (c:=c) ((Y.ext (y.trans (ext e.1))).cut k) (by simp;omega);rw[List.length_take,Nat.min_eq_left (by omega)]at h;exact cf h λu Q ⟨e2,L⟩=>⟨L.low (ext e.1).size,e2.tf _ _⟩
   refine .exact (.int .i64 ((k:Int)+1)) (λn e=>cq ⟨rfl,(Hb _ _).refl _⟩) ?_;refine .exact (.slice (qY a (k+1) c) (l.length-(k+1)) (c-(k+1))) (λn e=>zD (k+1) (by omega) hc ⟨rfl,(Hb _ _).refl _⟩) ?_;refine .spec (λu n=>dN g.heap.size n u m) (λu a b h e=>h.tf e) (λn e u L=>?_) ?_
   ·have hd:=(Y.ext (y.trans (ext e.1))).drop (k+1) hc;refine By L (ext e.1).size (by simp) hd (by simp;omega) λv' Q g1 g2=>⟨by rw[hm];exact g1,⟨g2.trans (cr.refl (λ_=>False) _) (λx _ f=>(cC.blk L f).1) λ_ _ h=>h.elim,λx f=>g2.ef f λp=>?_,λx M f=>⟨M,g2.ef f λp=>?_,rfl⟩⟩⟩
    ·obtain⟨M,q⟩:=cC.c_ L p;exact dW q f (by decide)
    ·obtain⟨J,q⟩:=cC.c_ L p;exact dW q f (by decide)
   refine .exact (.tuple #[.agg X,.int .i64 0]) (λn e u L=>?_) ?_
   ·obtain⟨a9,c9,rfl,aD,aE⟩:=dN.row L;exact cf (ue (dc:=dc) (ai.ext (y.trans (ext e))) hG aD aC ap (by omega) aE) λu Q ⟨h1,e2⟩=>⟨by rw[h1,hX],e2.tf _ _⟩
   refine .rel (λu n=>∃b M,u=cu b/\g.heap.size<=b/\n.heap[b]? =some (.cells M 56)/\M.size=2) (λu a b ⟨x,M,h1,h2,h3,h4⟩ e=>?_) (λn e=>?_) ?_
   ·obtain⟨J,g1,g2⟩:=e.z x M h3;exact⟨x,J,h1,h2,g1,g2.trans h4⟩
   ·exact dS λQ nb e2 ak p=>⟨⟨nb,_,rfl,Nat.le_trans (ext e).size ak,p,rfl⟩,e2.tf _ _⟩
   refine .qN (λvs n=>∃b r,vs=cu b::r/\n.heap[b]? =some (.cells X 56)) (λvs a b ⟨x,r,h1,h2⟩ e=>⟨x,r,h1,e.d x h2⟩) (λn e u L _ _ _ _=>?_) ?_
   ·obtain⟨b,M,rfl,aF,p,O⟩:=L;subst hX;refine fG (t:=56) (v:=.agg (eR (ee G m) (eI G m)).toArray) (o:=0) p (by rw[O];exact Nat.le_refl 2) (λQ k2 K=>?_) (λv T=>?_) rfl
    ·replace K:Q.heap[b]? =some (.cells (eR (ee G m) (eI G m)).toArray 56):=K.trans (congrArg (λa=>some (Obj.cells a 56)) (eh M (eR (ee G m) (eI G m)) O));refine⟨⟨b,_,rfl,K⟩,⟨k2.trans (cr.refl (λ_=>False) _) (λx _ f=>by omega) λ_ _ h=>h.elim,λx f=>?_,λx J f=>?_⟩,λx J f=>k2.ef f ?_⟩
     ·by_cases e:x=b
      ·rw[e];exact K
      ·exact k2.ef f e
     ·by_cases e:x=b
      ·rw[e]at f⊢;rw[p]at f;injection f with f;injection f with f;exact⟨_,K,by rw[<-f,O];rfl⟩
      ·exact⟨J,k2.ef f e,rfl⟩
     ·rintro rfl;exact dW f p (by decide)
    ·simp[eR,Value.cells]at T;rcases T with rfl|rfl<;>rfl
   intro aG P u1 h1 u2 h2 u3 h3 Z;obtain⟨b,M,rfl,aF,p,O⟩:=h1;obtain⟨b',r,e,Z⟩:=Z;have A:cu b=cu b':=(List.cons.inj e).1;obtain rfl:b=b':=by injection A with A;injection A with A;injection A
   subst hX;have aa:=(ext P).at_ (y.at_ W);have q1:ee G m<=ee G l:=by have:=ri ok (C _ (List.getElem_mem F)) (l.take k) (l.drop (k+1));rwa[<-aj,<-hm]at this
   have q2:eI G m<=eI G l:=by have:=Bx ok (C _ (List.getElem_mem F)) (l.take k) (l.drop (k+1));rwa[<-aj,<-hm]at this
   refine eP ?_;refine nh (by simp) ?_;refine cg (cd Z rfl) (cg (cd aa rfl) (pr ?_));refine nh (by simpa using q1) ?_;refine cg (cd Z rfl) (cg (cd aa rfl) (pr ?_));refine nh (by simpa using q2) ?_;exact cq ⟨F,(),⟨rfl,rfl,rfl,rfl,trivial⟩,y.trans (ext P)⟩
  ·refine gu (zP g) (λw' h=>.inr ⟨rfl,h⟩) ?_;rintro v aG ⟨rfl,P⟩;exact .inl ⟨_,rfl,rfl,((E5.trans B).trans y).trans P⟩
end Go.Proofs.W
namespace Go.Proofs.W
open Go.Conc Go.ck Go.RowKit
noncomputable def Mo(L:List Nat)(f:Nat):Bool:=f==163||okF L false (λ_=>false) f
noncomputable def Hd(L:List Nat)(B:Nat->Prop)(sh:Nat->Option Nat):cx where
 S:=λg=>L.contains g
 dim:=false
 ok:=λf=>eB V.prog (λg=>L.contains g) false false
 df:=λ_=>false
 fs:=PR.funcs
 hole:=λf=>f==163
 sh:=sh
 r:=λb c=>b=c/\B b
 inj₁:=λ_ _ _ h a=>h.1.symm.trans a.1
 inj₂:=λ_ _ _ h a=>h.1.trans a.1.symm
theorem xf{L:List Nat}(h:L.all (Mo L)=true)(f:Nat)(b:L.contains f=true)(a:f≠163):
 ∃fn c,V.prog.funcs[f]? =some fn/\fn.body=some c/\eB V.prog (λg=>L.contains g) false false c=true/\(fn.name== "runtime.NumGoroutine")=false:=by
 have:=List.all_eq_true.1 h f (by simpa using b);unfold Mo at this;rw[show(f==163)=false by simpa using a,Bool.false_or]at this;unfold okF at this;split at this
 ·rename_i fn d;split at this
  ·rename_i c e;simp only[Bool.and_eq_true,Bool.not_eq_true']at this;exact⟨fn,c,d,e,this.1,this.2⟩
  ·cases this
 ·cases this
theorem Jb:(V.f163.name== "runtime.NumGoroutine")=false:=by kernel_rfl
theorem He:(Tryz.f163.name== "runtime.NumGoroutine")=false:=by kernel_rfl
theorem Hf:∃c,Tryz.f163.body=some c:=⟨_,sD⟩
theorem Eu{L:List Nat}{B:Nat->Prop}{sh:Nat->Option Nat}(h:L.all (Mo L)=true):Go.ck.Good V.prog (Hd L B sh):=by
 refine⟨⟨V.zero,λf a=>?_,V.xV,uQ _,V.bad⟩,rfl,λf a j=>?_,⟨λf a=>?_⟩,λ⟨f,a⟩=>by cases a⟩
 ·by_cases e:f=163
  ·subst e;exact⟨V.f163,V.rG,V.func163,Jb,rfl⟩
  ·obtain⟨d,c,b,g,_,i⟩:=xf h f a e;exact⟨d,c,b,i,g⟩
 ·have e:f≠163:=λe=>by subst e;cases j
  obtain⟨d,c,b,g,k,_⟩:=xf h f a e;exact⟨d,c,b,g,k⟩
 ·by_cases e:f=163
  ·subst e;obtain⟨c,l⟩:=Hf;exact⟨Tryz.f163,c,Tryz.func163,He,l,λh=>by cases h⟩
  ·obtain⟨d,c,b,g,_,i⟩:=xf h f a e;exact⟨d,c,(V.rH f e).symm.trans b,i,g,λ_=>b⟩
noncomputable def Bz(L:List Nat)(df:Nat->Bool)(B:Nat->Prop)(sh:Nat->Option Nat):cx where
 S:=λg=>L.contains g
 dim:=false
 ok:=λf=>eB V.prog (λg=>L.contains g) false (df f)
 df:=df
 fs:=V.prog.funcs
 hole:=λ_=>false
 sh:=sh
 r:=λb c=>b=c/\B b
 inj₁:=λ_ _ _ h a=>h.1.symm.trans a.1
 inj₂:=λ_ _ _ h a=>h.1.trans a.1.symm
theorem Hg{P:Program}{ρ:cx}(a:ρ.fs=P.funcs)(h:∀f,ρ.S f=true->∃fn c,P.funcs[f]? =some fn/\(fn.name== "runtime.NumGoroutine")=false/\fn.body=some c):JI P ρ:=⟨λf d=>by obtain⟨fn,c,b,e,g⟩:=h f d;exact⟨fn,c,by rw[a];exact b,e,g,λ_=>b⟩⟩
theorem Ev{L:List Nat}{g:Nat->Bool}{B:Nat->Prop}{sh:Nat->Option Nat}(h:L.all (okF L false g)=true):Go.ck.Good V.prog (Bz L g B sh):=by
 refine⟨V.fit h,rfl,λf a _=>?_,Hg (by unfold Bz;dsimp only) λf a=>?_,λ_ _=>rfl⟩
 ·obtain⟨b,c,d,e,i,_⟩:=pg h f a;exact⟨b,c,d,e,i⟩
 ·obtain⟨b,c,d,e,_,j⟩:=pg h f a;exact⟨b,c,d,j,e⟩
theorem runNT_then{Q:Program}{N K:Nat}{m b:Machine}{t c:Trace}(h:runNT Q N m t=(.next b,c)):runNT Q (N+K) m t=runNT Q K b c:=by
 induction N generalizing m t with
 |zero=>
  simp only[runNT]at h;injection h with a d;injection a with a;subst a d;rw[Nat.zero_add]
 |succ N e=>
  rw[show N+1+K=(N+K)+1 from by omega];simp only[runNT]at h⊢;cases f:stepT Q m with
  |mk s g=>
   rw[f]at h;cases s with
   |next i=>exact e h
   |ended o w=>simp only at h;injection h with a d;cases a
def CG(e:Ending)(w':World):Prop:=e=.returned (.bool true)\/(e=.panicked fI/\Kj w')
theorem zU{L LI:List Nat}{Mp:Nat->Bool}(hL:L.all (Mo L)=true)(Q8:LI.all (okF LI false Mp)=true){f:FuncId}{fn:Func}{tm:Tmp}(hf:V.prog.funcs[f]? =some fn)(Q9:fn.results=#[.tmp tm])(Kq:f≠163)(Ra:L.contains f=true)(Rb:LI.contains f=true) (Rc:PR.inits.idxOf? f=none){args xs:Array Value}{W v:World}{B:Nat->Prop}{sh:Nat->Option Nat} (hrel:∀b,B b->∃o o',v.heap[b]? =some o/\W.heap[b]? =some o'/\z0 (Hd L B sh) (sh b) o o'/\z0 (Bz LI Mp B sh) (sh b) o o'/\qC v b)(Nz:∀c,W.heap.size<=c->sh c=none)(Rd:dz (Hd L B sh) xs args)(Re:dz (Bz LI Mp B sh) xs args) (hC:∀T:Ta,Go.ck.Below v T->Calls V.prog f xs (cm v T) CG):∃N last o w' t',runNT PR (N+1) (solo (G (Frame.enter PR f args .normal) []) W) #[]=(.ended o w',t')/\runN PR N (solo (G (Frame.enter PR f args .normal) []) W)=.next last/\Go.step PR last=.ended o w'/\
  Go.Conc.Good PR (λx w'=>x=.bool true/\Go.RowKit.Below W.heap.size W w') last o w' t':=by
 have P3:Go.ck.Good V.prog (Hd L B sh):=Eu hL;have P4:Go.ck.Good V.prog (Bz LI Mp B sh):=Ev Q8;have ev:(V.prog.fj PR.funcs)=PR:=Ib;have hinv:Inv V.prog ⟨Frame.enter V.prog f xs .normal,[floor],v⟩:=by
  have h:Inv V.prog ⟨Frame.enter V.prog f xs .normal,[floor],cm v (mw v W)⟩:=
   ⟨Bz LI Mp B sh,W,G (Frame.enter (V.prog.fj (Bz LI Mp B sh).fs) f args .normal) [],P4,λ_=>rfl,WR.mw ⟨λb c hr=>by obtain⟨rfl,hb⟩:=hr;obtain⟨o,o',h1,h2,_,h3,_⟩:=hrel b hb;exact⟨o,o',h1,h2,h3⟩,Nz⟩,nF P4 Rb Re .normal (.inl rfl),⟨[],[],rfl,rfl,.nil⟩,⟨rfl,rfl⟩,⟨rfl,rfl⟩,⟨rfl,rfl⟩⟩
  exact h.cm v.tape
 have LW:Go.ck.Reach V.prog (oe f (λx _=>x=.bool true)) ⟨Frame.enter V.prog f xs .normal,[floor],v⟩:=by
  refine mK oe.callers (λc T hi hs=>?_) hinv λT hT=>?_
  ·rcases hs with hs|⟨h1,h2,h3,h4,h5⟩
   ·exact .inl (Go.ck.Left.cm (λx w T h=>h) c T hi hs)
   ·exact .inr ⟨h1,h2,h3,h4,h5.cm T⟩
  ·obtain⟨e,w',fr,hp,hs,Me,hl⟩:=hC T hT [floor];rcases hp with rfl|⟨rfl,hp⟩
   ·obtain⟨n,hn⟩:=hs;exact⟨n,fr,[floor],w',hn,.inl ⟨rfl,Me,_,rfl,hl⟩⟩
   ·obtain⟨n,hn⟩:=hs;exact⟨n,fr,[floor],w',hn,.inr ⟨rfl,Me,hl.1,hl.2.1,hp⟩⟩
 have hI:xp V.prog PR.funcs W (Hd L B sh) (λ_=>False) ⟨Frame.enter V.prog f xs .normal,[floor],v⟩ #[G (Frame.enter (V.prog.fj PR.funcs) f args .normal) []] (G (Frame.enter (V.prog.fj PR.funcs) f args .normal) []) W #[] (λ_=>0):=by
  refine⟨hinv,P3,rfl,rfl,⟨nF P3 Ra Rd .normal (.inl rfl),⟨[],[],rfl,rfl,.nil⟩,⟨rfl,rfl⟩,⟨rfl,rfl⟩,⟨rfl,rfl⟩⟩,⟨λb c hr=>?_,Nz⟩,⟨λi g hi hg=>?_,λj _=>Go.ConcN.Deaf_absent (by simp)⟩,?_,λb h=>h.elim,λ_ _ _ h=>h,λb c hr hc=>?_,Nat.le_refl _,λ_ _=>rfl,⟨rfl,rfl,rfl⟩,⟨λg hg=>?_,rfl,λ⟨g,hg⟩=>by cases hg⟩⟩
  ·obtain⟨rfl,hb⟩:=hr;obtain⟨o,o',h1,h2,h3,_,_⟩:=hrel b hb;exact⟨o,o',h1,h2,h3⟩
  ·have:i<1:=(Array.getElem?_eq_some_iff.1 hg).1;omega
  ·have h:=past_nil;exact⟨h.clean,λi a ha hm=>by simp[touchAt,Trace.act?]at ha,h.over,h.hears,λop MB=>by simp at MB⟩
  ·obtain⟨rfl,hb⟩:=hr;obtain⟨_,_,_,_,_,_,h⟩:=hrel b hb;exact h
  ·have e:g=163:=by
    have:(g==163)=true:=hg;simpa using this
   subst e;rw[V.func163,show PR.funcs[163]? =some Tryz.f163 from Tryz.func163];intro e;have:=congrArg Func.ntmps (Option.some.inj e);rw[Tryz.ntmps163]at this;cases this
 obtain⟨N,xq,w',oX,t',q',c',jr,X',a',r1,r2,r3,_⟩:=lead (fs:=PR.funcs) oe.callers (IM D8 Kq W) _ LW _ _ _ _ _ none _ _ hI
 have Rf:Go.ck.Left V.prog f (λx _=>x=.bool true) c'.fr c'.cl c'.v:=by
  rcases r3 with h|⟨h1,h2,h3,h4,h5⟩
  ·exact h
  ·exfalso;have Ad:cM V.prog jr c'.fr a'.frame:=by
    have rZ:=r2.gor.fr;generalize Ad:(G c'.fr c'.cl).frame=fr at rZ;generalize CP:a'.frame=kR at rZ;cases rZ with
    |fr hf=>subst Ad;exact hf
    | @hole g hS hh xs xs' hx=>
     have:c'.fr=Frame.enter V.prog g xs .normal:=Ad;rw[this]at h3;cases h3
   have hm:=Ad.mode;rw[h3]at hm;generalize a'.frame.mode=m at hm;cases hm with
   |panicking hc=>
    unfold fI at hc;cases hc with
    |cons hp _=>
     rcases hp.ok with h|h
     ·exact r2.holes.2.2 h
     ·exact h 3 _ _ rfl
 have Rg:jr.hole f=false:=by
  cases h:jr.hole f with
  |false=>rfl
  |true=>
   exfalso;exact r2.holes.1 f h (V.rH f Kq)
 obtain⟨M,last,o,w2,t2,s1,s2,s3,s4⟩:=r2.ends (sl:=oX) Rf hf Q9 Rg (by rw[ev];exact Rc) (Post:=λx w'=>x=.bool true/\Go.RowKit.Below W.heap.size W w') λx x' d hx hv=>by subst hx;cases hv;exact⟨rfl,r2.world.2.1,r2.world.1,r2.world.2.2,r2.grown,λb hb=>r2.kept b hb⟩
 rw[ev]at r1 s1 s2 s3 s4;have vW:runNT PR (N+(M+1)) (solo (G (Frame.enter PR f args .normal) []) W) #[]=(.ended o w2,t2):=(runNT_then r1).trans s1;refine⟨N+M,last,o,w2,t2,vW,?_,s3,s4⟩;have h1:runNT PR (N+M) (solo (G (Frame.enter PR f args .normal) []) W) #[]=runNT PR M (crowd xq w' oX) t':=runNT_then r1;have h2:=runNT_fst PR (N+M) (solo (G (Frame.enter PR f args .normal) []) W) #[];rw[h1,runNT_fst,s2]at h2;exact h2.symm
def NA:List Nat:=[4,26,27,28,30,35,38,42,43,44,45,48,53,55,58,59,60,69,71,95,96,97,104,105,106,107,108,109,113,114,115,116,117,119,120,121,122,123,125,128,129,130,131,133,134,135,137,144,146,153,154,155,156,157,158,159,160,161,162,163,164,165,166,167,168,169,170,171,172,173,174,175,176,178,179,180,184,185,186,195,196,197,198,199,200,201,222,231]
def Kr:List Nat:=[4,26,27,28,30,35,38,42,43,44,45,48,53,55,58,59,60,69,71,95,96,97,104,105,106,107,108,109,113,114,115,116,117,119,120,121,122,123,125,128,129,130,131,133,134,135,136,137,144,146,153,154,155,156,157,158,159,160,161,162,163,164,165,166,167,168,169,170,171,172,173,174,175,176,178,179,180,184,185,186,190,194,195,196,197,198,199,200,201,215,216,222,227,228,229,231]
def O9(f:Nat):Bool:=f==190||f==163
theorem LX:NA.all (Mo NA)=true:=by kernel_rfl
theorem Jc:Kr.all (okF Kr false O9)=true:=by kernel_rfl
def Hh(b a:Nat)(c:Nat):Option Nat:=if c=b then some a else none
theorem Ew{L H:List Nat}{I:Nat->Bool}(U:L.all (Mo L)=true)(q:H.all (okF H false I)=true){f:FuncId}{fn:Func}{tm:Tmp}(X:V.prog.funcs[f]? =some fn)(s:fn.results=#[.tmp tm])(l:f≠163)(u:L.contains f=true)(z:H.contains f=true)
 (A:PR.inits.idxOf? f=none)(hC:∀(ns:List Int) (la:Option Addr) (lc:Nat) (w:World),gM w la ns->ns.length<=9223372036854775807->Calls V.prog f #[.slice la ns.length lc] w (pJ λv w'=>v=.bool true/\Ext w w'))
 {W:World}{a:Option Addr}{d cap:Nat}{zs:List Int}(g:zs.length=d)(Y:d<=9223372036854775807)(ha:∀ad,a=some ad->ad.spot=none/\(∃x,W.shape? ad.block=some x)/\∀i,i<d->W.cell? (ad.add i)=some (.int .i64 (zs.getD i 0)))(hn:a=none->d=0):∃N last o w' Z,runNT PR (N+1) (solo (G (Frame.enter PR f #[.slice a d cap] .normal) []) W) #[]=(.ended o w',Z)/\runN PR N (solo (G (Frame.enter PR f #[.slice a d cap] .normal) []) W)=.next last/\Go.step PR last=.ended o w'/\Go.Conc.Good PR (λx w'=>x=.bool true/\Go.RowKit.Below W.heap.size W w') last o w' Z:=by
 have m:∀{ns:List Int} {la:Option Addr} {w:World},gM w la ns->ns.length<=9223372036854775807->Calls V.prog f #[.slice la ns.length cap] w CG:=λJ Y=>(hC _ _ _ _ J Y).mono λe w' h=>by
  rcases h with⟨v,rfl,rfl,_⟩|h
  ·exact .inl rfl
  ·exact .inr h
 cases a with
 |none=>
  obtain rfl:=hn rfl;have hz:zs=[]:=List.eq_nil_of_length_eq_zero g;refine zU (v:=W) (B:=λ_=>False) (sh:=λ_=>none) U q X s l u z A (λb h=>h.elim) (λ_ _=>rfl) (xs:=#[.slice none 0 cap]) (dz.one (.dF _ _)) (dz.one (.dF _ _)) λT hT=>?_;exact m (ns:=[]) (la:=none) (λk K=>by simp at K) (by simp)
 |some ad=>
  obtain⟨b,j,aa⟩:=ad;obtain⟨rfl,⟨x,C⟩,hc⟩:=ha _ rfl;obtain⟨F,t,M,O⟩:∃F t M,W.heap[b]? =some (.cells F t M):=by
   simp only[World.shape?]at C;split at C
   ·rename_i c e f h;exact⟨c,e,f,h⟩
   ·cases C
  have hb:=lt_of_heap O;have P:({W with heap:=W.heap.setIfInBounds b (.cells (zs.map (Value.int .i64)).toArray mG (0,d))}:World).heap[b]? =some (.cells (zs.map (Value.int .i64)).toArray mG (0,d)):=by simp[hb]
  have n:∀ρ:cx,Mq ρ j (.cells (zs.map (Value.int .i64)).toArray mG (0,d)) (.cells F t M):=λρ=>by
   refine⟨_,_,_,_,_,rfl,rfl,λo Q=>⟨Nat.zero_le _,by simpa[g]using Q⟩,λi y R=>?_⟩;have hi:i<zs.length:=by have:=(Array.getElem?_eq_some_iff.1 R).1;simpa using this
   have S:y=.int .i64 zs[i]:=by simp[List.getElem?_eq_getElem hi]at R;exact R.symm
   have h:=hc i (by omega);rw[eN]at h;simp only[World.cell?,O]at h;refine⟨.int .i64 zs[i],?_,by rw[S];exact .int _ _⟩;rw[Nat.add_comm];rw[getD_eq hi]at h;simpa using h
  have p:Hh b j b=some j:=by simp[Hh]
  have D:∀ρ:cx,ρ.r b b->ρ.sh=Hh b j->dz ρ #[.slice (some ⟨b,0,none⟩) d cap] #[.slice (some ⟨b,j,none⟩) d cap]:=λρ J hs=>by refine dz.one (.slice _ _ ?_);have h:=AR.mk (ρ:=ρ) 0 none J;rw[hs,p]at h;simpa using h
  refine zU (v:={W with heap:=W.heap.setIfInBounds b (.cells (zs.map (Value.int .i64)).toArray mG (0,d))}) (B:=λx=>x=b) (sh:=Hh b j) U q X s l u z A (λx C=>?_) (λc hc=>?_) (xs:=#[.slice (some ⟨b,0,none⟩) d cap]) (D _ ⟨rfl,rfl⟩ rfl) (D _ ⟨rfl,rfl⟩ rfl) λT hT=>?_
  ·subst C;refine⟨_,_,P,O,?_,?_,?_⟩
   ·rw[p];exact .inr ⟨_,rfl,n _⟩
   ·rw[p];exact .inr ⟨_,rfl,n _⟩
   ·exact⟨_,_,_,P,λo Q=>⟨Nat.zero_le _,by simpa[g]using Q⟩⟩
  ·unfold Hh;rw[if_neg (by omega)]
  ·have E:gM (cm {W with heap:=W.heap.setIfInBounds b (.cells (zs.map (Value.int .i64)).toArray mG (0,d))} T) (some ⟨b,0,none⟩) zs:=λk K=>⟨b,0,rfl,by
    show(match({W with heap:=W.heap.setIfInBounds b (.cells (zs.map (Value.int .i64)).toArray mG (0,d))}:World).heap[b]? with|some (.cells F _ _)=>_|_=>_)=_;rw[P];simp[List.getElem?_eq_getElem K]⟩
   have h:=m E (by omega);rw[g]at h;exact h
end Go.Proofs.W
namespace Go.Proofs.YteeagjkaflglpaaGreat
def uf:List Nat:=[104,97,114,110,101,115,115,32,57,50,97,100,50,98,97,99,48,55,54,101,55,50,53,57,51,57,102,48,99,57,54,48,101,55,53,98,51,102,53,99,100,51,56,49,57,97,56,97,50,54,55,57,98,50,57,54,49,102,56,48,52,49,55,101,50,98,55,49,99,101,50,50,32,99,117,116,32,97,116,32,119,97,121,122,103,111,111,115,101,47,119,97,121,122,103,111,111,115,101,108,97,119,48,50,46,82,111,117,110,100,83,101,114,118,101,115,32,119,97,121,122,103,111,111,115,101,47,119,97,121,122,103,111,111,115,101,108,97,119,48,50,46,82,111,117,110,100,82,101,118,101,114,115,101,100,32,119,97,121,122,103,111,111,115,101,47,119,97,121,122,103,111,111,115,101,108,97,119,48,50,46,82,111,117,110,100,80,108,97,110,115,32,119,97,121,122,103,111,111,115,101,47,119,97,121,122,103,111,111,115,101,108,97,119,48,50,46,82,111,117,110,100,70,101,119,101,115,116,32,119,97,121,122,103,111,111,115,101,47,119,97,121,122,103,111,111,115,101,108,97,119,48,50,46,82,111,117,110,100,83,101,114,118,101,100,32,119,97,121,122,103,111,111,115,101,47,119,97,121,122,103,111,111,115,101,108,97,119,48,50,46,82,111,117,110,100,76,97,116,101,114,32,119,97,121,122,103,111,111,115,101,47,119,97,121,122,103,111,111,115,101,108,97,119,48,50,46,82,111,117,110,100,76,101,102,116,32,119,97,121,122,103,111,111,115,101,47,119,97,121,122,103,111,111,115,101,108,97,119,48,50,46,82,111,117,110,100,69,97,115,105,101,114,32,119,97,121,122,103,111,111,115,101,47,119,97,121,122,103,111,111,115,101,108,97,119,48,50,46,82,111,117,110,100,82,101,110,117,109,98,101,114,101,100,32,119,97,121,122,103,111,111,115,101,47,119,97,121,122,103,111,111,115,101,108,97,119,48,50,46,82,111,117,110,100,76,111,115,116,32,119,97,121,122,103,111,111,115,101,47,119,97,121,122,103,111,111,115,101,108,97,119,48,50,46,82,111,117,110,100,66,101,103,105,110,115,32,119,97,121,122,103,111,111,115,101,47,119,97,121,122,103,111,111,115,101,108,97,119,48,50,46,82,111,117,110,100,83,104,111,114,116,101,115,116,32,119,97,121,122,103,111,111,115,101,47,119,97,121,122,103,111,111,115,101,108,97,119,48,50,46,82,111,117,110,100,68,105,118,105,100,101,100,32,119,97,121,122,103,111,111,115,101,47,119,97,121,122,103,111,111,115,101,108,97,119,48,50,46,82,111,117,110,100,84,97,107,101,115,32,119,97,121,122,103,111,111,115,101,47,119,97,121,122,103,111,111,115,101,108,97,119,48,50,46,82,111,117,110,100,68,117,101,32,119,97,121,122,103,111,111,115,101,47,119,97,121,122,103,111,111,115,101,108,97,119,48,50,46,82,111,117,110,100,65,102,116,101,114,32,119,97,121,122,103,111,111,115,101,47,119,97,121,122,103,111,111,115,101,108,97,119,48,50,46,82,111,117,110,100,76,97,115,116,32,119,97,121,122,103,111,111,115,101,47,119,97,121,122,103,111,111,115,101,108,97,119,48,50,46,82,111,117,110,100,76,111,103,115,32,119,97,121,122,103,111,111,115,101,47,119,97,121,122,103,111,111,115,101,108,97,119,48,50,46,82,111,117,110,100,87,97,108,107,115,32,119,97,121,122,103,111,111,115,101,47,119,97,121,122,103,111,111,115,101,108,97,119,48,50,46,82,111,117,110,100,78,101,119,115,32,119,97,121,122,103,111,111,115,101,47,119,97,121,122,103,111,111,115,101,108,97,119,48,50,46,82,111,117,110,100,87,97,108,107,101,100,32,119,97,121,122,103,111,111,115,101,47,119,97,121,122,103,111,111,115,101,108,97,119,48,50,46,82,111,117,110,100,75,110,111,119,110]
theorem NB:Tryz.pinned.checked.prog.initOrder=String.ofList (uf.map Char.ofNat):=by kernel_rfl
theorem Jd:Tryz.pinned.checked.prog.initOrder.toList=uf.map Char.ofNat:=by rw[NB,String.toList_ofList]
theorem Je:(behindMainWord (wordsSigns (uf.map Char.ofNat))).head?=some "cut".toList:=by kernel_rfl
theorem Jf:∃r,behindMainWord (wordsSigns (uf.map Char.ofNat))= "cut".toList::r:=by
 have h:=Je;revert h;generalize behindMainWord (wordsSigns (uf.map Char.ofNat))=l;intro h;cases l with
 |nil=>cases h
 |cons x r=>exact⟨r,by rw[Option.some.inj h]⟩
theorem t1:("cut".toList== "gc".toList)=false:=by kernel_rfl
theorem t2:("cut".toList== "spec".toList)=false:=by kernel_rfl
theorem t3:("cut".toList== "cut".toList)=true:=by kernel_rfl
theorem t4:("cut".toList== "carried".toList)=false:=by kernel_rfl
theorem t5(r:List (List Char)):(stripLifts liftWords ("cut".toList::r))=([], "cut".toList::r):=by kernel_rfl
theorem t9:((some "cut".toList:Option (List Char))==some "cut".toList)=true:=by kernel_rfl
theorem t10:([]:List String).contains "finals" =false:=by kernel_rfl
theorem t11:([]:List String).contains "reflectrows" =false:=by kernel_rfl
theorem t12:([]:List String).contains "leanrows" =false:=by kernel_rfl
theorem Jg(P:Program)(r:List (List Char))(h:behindMainWord (wordsSigns P.initOrder.toList)= "cut".toList::r):P.make=some .cut:=by unfold Program.make;rw[h];dsimp only;rw[t1,t2,t3,Bool.or_self,if_neg Bool.false_ne_true,Bool.true_or,if_pos rfl]
theorem zV(P:Program)(r:List (List Char))(h:behindMainWord (wordsSigns P.initOrder.toList)= "cut".toList::r)(a:P.laysLater=false)(b:P.bearsReflect=false)(c:P.doorFits []=true):P.mayEnter=true:=by unfold Program.mayEnter;rw[h];dsimp only;rw[t5,t1,t2,t4,a,b,c];dsimp only;rw[List.head?_cons,t9,t10,t11,t12];rfl
theorem uA(P:Program)(r:List (List Char))(h:behindMainWord (wordsSigns P.initOrder.toList)= "cut".toList::r):P.liftsFinal=false:=by unfold Program.liftsFinal Program.headLifts;rw[h];kernel_rfl
theorem xg:∃r,behindMainWord (wordsSigns Tryz.pinned.checked.prog.initOrder.toList)= "cut".toList::r:=by rw[Jd];exact Jf
theorem t6:Tryz.pinned.checked.prog.laysLater=false:=by kernel_rfl
theorem t7:Tryz.pinned.checked.prog.bearsReflect=false:=by kernel_rfl
theorem t8:Tryz.pinned.checked.prog.doorFits []=true:=by kernel_rfl
theorem Jh:Tryz.pinned.checked.prog.mayEnter=true:=xg.elim λr h=>zV _ r h t6 t7 t8
theorem Hi:Tryz.pinned.checked.prog.liftsFinal=false:=xg.elim λr h=>uA _ r h
theorem t14:(Rows.roundReversedRow.lifted==false)=true:=by kernel_rfl
theorem Ji:(Rows.roundReversedRow.lifted==Tryz.pinned.checked.prog.liftsFinal)=true:=(congrArg (λx=>Rows.roundReversedRow.lifted==x) Hi).trans t14
theorem Hj:Tryz.pinned.checked.prog.make=some .cut:=xg.elim λr h=>Jg _ r h
theorem t13:(some Make.cut==some Rows.roundReversedRow.make)=true:=by kernel_rfl
theorem Jj:(Tryz.pinned.checked.prog.make==some Rows.roundReversedRow.make)=true:=(congrArg (λx=>x==some Rows.roundReversedRow.make) Hj).trans t13
theorem gU{a b:Bool}(h:a=true)(k:b=true):(a&&b)=true:=by rw[h,k];rfl
theorem LY:((λ(P:Program) (f:FuncId) (fn:Func) (s:ChangeSpec) (c:OpenClaim)=>(c.wf (OpenSpec.ofChange s):Bool)) Tryz.pinned.checked.prog 4 Tryz.f4 Rows.roundReversedSpec Rows.roundReversedRow)=true:=by kernel_rfl
theorem LZ:((λ(P:Program) (f:FuncId) (fn:Func) (s:ChangeSpec) (c:OpenClaim)=>(laidOutB P:Bool)) Tryz.pinned.checked.prog 4 Tryz.f4 Rows.roundReversedSpec Rows.roundReversedRow)=true:=by kernel_rfl
theorem L1:((λ(P:Program) (f:FuncId) (fn:Func) (s:ChangeSpec) (c:OpenClaim)=>(mapsRowed P:Bool)) Tryz.pinned.checked.prog 4 Tryz.f4 Rows.roundReversedSpec Rows.roundReversedRow)=true:=by kernel_rfl
theorem L3:((λ(P:Program) (f:FuncId) (fn:Func) (s:ChangeSpec) (c:OpenClaim)=>(fn.params.all (P.readableRec ·):Bool)) Tryz.pinned.checked.prog 4 Tryz.f4 Rows.roundReversedSpec Rows.roundReversedRow)=true:=by kernel_rfl
theorem L4:((λ(P:Program) (f:FuncId) (fn:Func) (s:ChangeSpec) (c:OpenClaim)=>(namedTie P c.named s.vars:Bool)) Tryz.pinned.checked.prog 4 Tryz.f4 Rows.roundReversedSpec Rows.roundReversedRow)=true:=by kernel_rfl
theorem L5:((λ(P:Program) (f:FuncId) (fn:Func) (s:ChangeSpec) (c:OpenClaim)=>((c.stops==[]):Bool)) Tryz.pinned.checked.prog 4 Tryz.f4 Rows.roundReversedSpec Rows.roundReversedRow)=true:=by kernel_rfl
theorem L6:((λ(P:Program) (f:FuncId) (fn:Func) (s:ChangeSpec) (c:OpenClaim)=>((P.stops==[]):Bool)) Tryz.pinned.checked.prog 4 Tryz.f4 Rows.roundReversedSpec Rows.roundReversedRow)=true:=by kernel_rfl
theorem L8:((λ(P:Program) (f:FuncId) (fn:Func) (s:ChangeSpec) (c:OpenClaim)=>((c.knobs==[]):Bool)) Tryz.pinned.checked.prog 4 Tryz.f4 Rows.roundReversedSpec Rows.roundReversedRow)=true:=by kernel_rfl
theorem L9:((λ(P:Program) (f:FuncId) (fn:Func) (s:ChangeSpec) (c:OpenClaim)=>((P.stopKnobs==[]):Bool)) Tryz.pinned.checked.prog 4 Tryz.f4 Rows.roundReversedSpec Rows.roundReversedRow)=true:=by kernel_rfl
theorem Ma:((λ(P:Program) (f:FuncId) (fn:Func) (s:ChangeSpec) (c:OpenClaim)=>((c.inPlace==P.inPlace f):Bool)) Tryz.pinned.checked.prog 4 Tryz.f4 Rows.roundReversedSpec Rows.roundReversedRow)=true:=by kernel_rfl
theorem Jk:((λ(P:Program) (f:FuncId) (fn:Func) (s:ChangeSpec) (c:OpenClaim)=>((c.unfollowed==P.unfollowed f):Bool)) Tryz.pinned.checked.prog 4 Tryz.f4 Rows.roundReversedSpec Rows.roundReversedRow)=true:=by kernel_rfl
theorem Jl:((λ(P:Program) (f:FuncId) (fn:Func) (s:ChangeSpec) (c:OpenClaim)=>((c.recurses==P.recurses f):Bool)) Tryz.pinned.checked.prog 4 Tryz.f4 Rows.roundReversedSpec Rows.roundReversedRow)=true:=by kernel_rfl
theorem Jm:((λ(P:Program) (f:FuncId) (fn:Func) (s:ChangeSpec) (c:OpenClaim)=>((c.named==P.varsNamed f):Bool)) Tryz.pinned.checked.prog 4 Tryz.f4 Rows.roundReversedSpec Rows.roundReversedRow)=true:=by kernel_rfl
theorem Jn:((λ(P:Program) (f:FuncId) (fn:Func) (s:ChangeSpec) (c:OpenClaim)=>((c.maps==(fn.params.toList++s.plain.varTypes P).any (P.mapsRec ·)):Bool)) Tryz.pinned.checked.prog 4 Tryz.f4 Rows.roundReversedSpec Rows.roundReversedRow)=true:=by kernel_rfl
theorem Jo:((λ(P:Program) (f:FuncId) (fn:Func) (s:ChangeSpec) (c:OpenClaim)=>((c.ifaces==(fn.params.toList++s.plain.varTypes P).any (P.ifacesRec ·)):Bool)) Tryz.pinned.checked.prog 4 Tryz.f4 Rows.roundReversedSpec Rows.roundReversedRow)=true:=by kernel_rfl
theorem Jp:((λ(P:Program) (f:FuncId) (fn:Func) (s:ChangeSpec) (c:OpenClaim)=>((c.mapsOut==P.mapsAmong fn.resultTypes.toList):Bool)) Tryz.pinned.checked.prog 4 Tryz.f4 Rows.roundReversedSpec Rows.roundReversedRow)=true:=by kernel_rfl
theorem Jq:((λ(P:Program) (f:FuncId) (fn:Func) (s:ChangeSpec) (c:OpenClaim)=>((c.loops==(fn.params.toList++s.plain.varTypes P).any (P.loopsFrom ·)):Bool)) Tryz.pinned.checked.prog 4 Tryz.f4 Rows.roundReversedSpec Rows.roundReversedRow)=true:=by kernel_rfl
theorem Jr:((λ(P:Program) (f:FuncId) (fn:Func) (s:ChangeSpec) (c:OpenClaim)=>((c.wideKeys==(fn.params.toList++s.plain.varTypes P++fn.resultTypes.toList).any (P.wideKeysFrom ·)):Bool)) Tryz.pinned.checked.prog 4 Tryz.f4 Rows.roundReversedSpec Rows.roundReversedRow)=true:=by kernel_rfl
theorem Js:((λ(P:Program) (f:FuncId) (fn:Func) (s:ChangeSpec) (c:OpenClaim)=>(s.vars.all (P.varReadable ·):Bool)) Tryz.pinned.checked.prog 4 Tryz.f4 Rows.roundReversedSpec Rows.roundReversedRow)=true:=by kernel_rfl
theorem Jt:((λ(P:Program) (f:FuncId) (fn:Func) (s:ChangeSpec) (c:OpenClaim)=>(fn.resultTypes.all (λt=>P.readableRec t&&decide (t<P.types.size)):Bool)) Tryz.pinned.checked.prog 4 Tryz.f4 Rows.roundReversedSpec Rows.roundReversedRow)=true:=by kernel_rfl
theorem Ju:((λ(P:Program) (f:FuncId) (fn:Func) (s:ChangeSpec) (c:OpenClaim)=>((c.ifacesOut==fn.resultTypes.toList.any (P.ifacesRec ·)):Bool)) Tryz.pinned.checked.prog 4 Tryz.f4 Rows.roundReversedSpec Rows.roundReversedRow)=true:=by kernel_rfl
theorem Jv:((λ(P:Program) (f:FuncId) (fn:Func) (s:ChangeSpec) (c:OpenClaim)=>((c.loopsOut==fn.resultTypes.toList.any (P.loopsFrom ·)):Bool)) Tryz.pinned.checked.prog 4 Tryz.f4 Rows.roundReversedSpec Rows.roundReversedRow)=true:=by kernel_rfl
theorem Jw:((λ(P:Program) (f:FuncId) (fn:Func) (s:ChangeSpec) (c:OpenClaim)=>((c.plainKeys==P.plainKeys):Bool)) Tryz.pinned.checked.prog 4 Tryz.f4 Rows.roundReversedSpec Rows.roundReversedRow)=true:=by kernel_rfl
theorem Jx:((λ(P:Program) (f:FuncId) (fn:Func) (s:ChangeSpec) (c:OpenClaim)=>(c.shortTexts.isNone:Bool)) Tryz.pinned.checked.prog 4 Tryz.f4 Rows.roundReversedSpec Rows.roundReversedRow)=true:=by kernel_rfl
theorem Jy:((λ(P:Program) (f:FuncId) (fn:Func) (s:ChangeSpec) (c:OpenClaim)=>(P.stopsHeard:Bool)) Tryz.pinned.checked.prog 4 Tryz.f4 Rows.roundReversedSpec Rows.roundReversedRow)=true:=by kernel_rfl
theorem Jz:((λ(P:Program) (f:FuncId) (fn:Func) (s:ChangeSpec) (c:OpenClaim)=>((c.kinds==(if c.domain.isEmpty then []else fn.params.toList.map λt=>match P.underlying t with|some (.int k)=>some k|_=>none)):Bool)) Tryz.pinned.checked.prog 4 Tryz.f4 Rows.roundReversedSpec Rows.roundReversedRow)=true:=by kernel_rfl
theorem JA:((λ(P:Program) (f:FuncId) (fn:Func) (s:ChangeSpec) (c:OpenClaim)=>((c.pinned==c.pinnedBy):Bool)) Tryz.pinned.checked.prog 4 Tryz.f4 Rows.roundReversedSpec Rows.roundReversedRow)=true:=by kernel_rfl
theorem JB:((λ(P:Program) (f:FuncId) (fn:Func) (s:ChangeSpec) (c:OpenClaim)=>((c.veiled==(fn.params.toList++s.plain.varTypes P++fn.resultTypes.toList).any (P.veiledRec ·)):Bool)) Tryz.pinned.checked.prog 4 Tryz.f4 Rows.roundReversedSpec Rows.roundReversedRow)=true:=by kernel_rfl
theorem JC:((λ(P:Program) (f:FuncId) (fn:Func) (s:ChangeSpec) (c:OpenClaim)=>(c.veiledFits P fn.params.toList (fn.params.toList++s.plain.varTypes P++fn.resultTypes.toList):Bool)) Tryz.pinned.checked.prog 4 Tryz.f4 Rows.roundReversedSpec Rows.roundReversedRow)=true:=by kernel_rfl
theorem BA:joinedFacts Tryz.pinned.checked.prog 4 Tryz.f4 Rows.roundReversedSpec Rows.roundReversedRow=true:=by unfold joinedFacts;exact(gU (gU (gU (gU (gU (gU (gU (gU (gU (gU (gU (gU (gU (gU (gU (gU (gU (gU (gU (gU (gU (gU (gU (gU (gU (gU (gU (gU (gU (gU (gU LY LZ) L1) L3) L4) L5) L6) L8) L9) Ma) Jk) Jl) Jm) Jn) Jo) Jp) Jq) Jr) Js) Jt) Ju) Jv) Jw) Jx) Jy) Jh) Ji) Jj) Jz) JA) JB) JC)
end Go.Proofs.YteeagjkaflglpaaGreat
namespace Go.Proofs.YteeagjkaflglpaaGreat
open Go.ChangeShapes Go.WideShapes Go.ChangeAt Go.RowKit Go.Conc
theorem Tryz.own:ownKnob Tryz.prog.godebug=none:=by kernel_rfl
theorem Tryz.laidOut:laidOutB Tryz.prog=true:=by kernel_rfl
theorem Tryz.Mb:Tryz.prog.cellsOf 3=1:=by kernel_rfl
theorem Tryz.pj:Tryz.prog.underlying 27=some (.slice 3):=by kernel_rfl
theorem Tryz.I7:Tryz.prog.underlying 3=some (.int .i64):=by kernel_rfl
theorem Tryz.Pa:Tryz.prog.underlying 4=some .bool:=by kernel_rfl
theorem Ex{P:Program}{w:World}{r:Reach}{b:Nat}{t e:TypeId}{a:Addr}{l c:Nat}(d:P.underlying t=some (.slice e))(h:Value.okWide P w r b t (.slice (some a) l c)):a.spot=none/\∃x,w.shape? a.block=some x:=by simp only[Value.okWide,d,Cell.okWide,Cell.ok]at h;obtain⟨_,_,_,f,g,cells,i,_⟩:=h;exact⟨f,_,i⟩
theorem rF(Z:Os)(f:Z.Started)(H:Type)(enc:TypeId×Value->H):ReturnsInLeavingWide {} Tryz.checked Z 4 .any (Rows.roundReversedSpec.pre6 enc Tryz.prog Tryz.f4 Rows.roundReversedRow.domain false) (Rows.roundReversedSpec.post enc Tryz.prog Tryz.f4 false true false false):=by
 refine returnsInLeavingWide_of_change_sized (C:=Tryz.checked) Tryz.own f Tryz.func4 (ChangeSpec.witness6 (enc:=enc) (C:=Tryz.checked) false ⟨#[],#[.slice none 0 0],[]⟩ 8 (by kernel_rfl) (by kernel_rfl) (by kernel_rfl) (by kernel_rfl)) ?_;intro g D r ds gs N k hW _ _ _;have s:∀(j:Nat) t v,Tryz.f4.params[j]? =some t->r[j]? =some v->Value.okWide Tryz.prog g .any D t v:=k;have u:=hW;obtain⟨p,q,E,hV,rfl,_,_⟩:=hW;have hA:DataW.TrodAll enc Tryz.prog g 0 (λ_=>true) true Tryz.f4.params.toList r.toList ds p:=E;have F:Tryz.f4.params=#[27]:=by kernel_rfl
 rw[F]at hA s;obtain⟨v0,d0,rfl,rfl,h0⟩:=trodAll_one hA;obtain⟨rfl,rfl⟩:=trodVars_none hV;have I:=s 0 27 v0 rfl rfl;obtain⟨A,c,cap,rfl⟩:=okWide_slice Tryz.pj I;have P:=h0;obtain⟨aa,hf⟩:=h0;clear E k;simp only[List.append_nil]at u;have Q:∀x∈p,x.block<g.heap.size:=λx R=>by simpa using u.lt x R
 have y:∀(l:World),Go.RowKit.Below g.heap.size g l->DataW.Trod enc Tryz.prog l 0 (λb=>decide (b<g.heap.size)) true 27 (.slice A c cap) d0 p:=
  λl S=>Below.trod Tryz.laidOut (by kernel_rfl) (of_decide_eq_true (by kernel_rfl)) P S Q
 have m:∀(J:List Int),J.length=c->c<=9223372036854775807->(∀B,A=some B->B.spot=none/\(∃x,g.shape? B.block=some x)/\∀i,i<c->g.cell? (B.add i)=some (.int .i64 (J.getD i 0)))->(A=none->c=0)->∃M last o K O,runNT Tryz.checked.prog (M+1) (solo (G (Frame.enter Tryz.checked.prog 4 #[.slice A c cap] .normal) []) g) #[]=(.ended o K,O)/\runN Tryz.checked.prog M (solo (G (Frame.enter Tryz.checked.prog 4 #[.slice A c cap] .normal) []) g)=.next last/\step Tryz.checked.prog last=.ended o K/\
   Conc.Good Tryz.checked.prog (λv l=>Rows.roundReversedSpec.post enc Tryz.checked.prog Tryz.f4 false true false false g #[.slice A c cap] v l) last o K O:=by
  intro J T S U L;obtain⟨M,last,o,K,O,X,Y,h3,h4⟩:=Go.Proofs.W.Ew Go.Proofs.W.LX Go.Proofs.W.Jc V.func4 (tm:=2) (by kernel_rfl) (by decide) (by decide) (by decide) (by kernel_rfl) (λns la lc w X Y=>Go.Proofs.W.xe X Y) T S U L (cap:=cap);refine⟨M,last,o,K,O,X,Y,h3,h4.mono λv hF=>?_⟩;obtain⟨rfl,d⟩:=hF;exact⟨_,_,_,[],p,[],u,trodAll_mk1 (shut_bool Tryz.Pa true),trodAll_mk1 (y _ d),rfl,d.frame _,λh=>by cases h⟩
 rcases open_ints Tryz.pj Tryz.I7 Tryz.Mb hf with⟨n,R⟩|⟨a,ab,ac,J,n,_,hl,hm,T,R,z,ae⟩
 ·simp[Value.cells]at n;obtain⟨rfl,rfl,rfl⟩:=n;exact m [] rfl (by omega) (λB h=>by cases h) λ_=>rfl
 ·simp[Value.cells]at n;obtain⟨rfl,rfl,rfl⟩:=n;simp only[if_true]at T;obtain⟨e1,e2⟩:=Ex Tryz.pj I;refine m (J.take c) (by simp;omega) (by simp only[maxLen]at hm;omega) (λB e=>?_) (λh=>by cases h);cases e;refine⟨e1,e2,λi hi=>?_⟩;rw[z i (by omega)];simp[List.getD_eq_getElem?_getD,hi]
theorem Ey:Tryz.pinned.checked.prog.funcNamed Rows.roundReversedRow.func=some 4:=by kernel_rfl
theorem Hk:Tryz.f4.isInstance Tryz.pinned.checked.prog Rows.roundReversedRow.origin Rows.roundReversedRow.targs:=of_decide_eq_true (by kernel_rfl)
theorem Hl:Tryz.f4.isWrapper Tryz.pinned.checked.prog Rows.roundReversedRow.wrapper Rows.roundReversedRow.mainSum:=by unfold Func.isWrapper;first|(rw[if_pos (by decide+kernel)];kernel_rfl)|(rw[if_neg (by decide+kernel)];exact⟨rfl,rfl⟩)
theorem roundReversed_holds:Rows.RoundReversedSaid:=
 OpenClaim.holds_of_wide_leaving 4 Tryz.f4 rfl rfl rfl rfl rfl rfl rfl ⟨rfl,rfl,rfl,rfl,rfl⟩ rfl rfl rfl rfl rfl Ey Tryz.func4 BA Hk Hl (λc a H b _=>rF c a H b)
#print axioms roundReversed_holds
end Go.Proofs.YteeagjkaflglpaaGreat
