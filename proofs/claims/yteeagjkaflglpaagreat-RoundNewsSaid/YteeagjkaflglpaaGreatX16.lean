/- Laws that the proof needs, part 16. Conditions: none. -/
import Derived.Test.YteeagjkaflglpaaGreatX15
set_option maxRecDepth 100000
set_option maxHeartbeats 8000000
set_option linter.all false
namespace Go.Proofs.W
open Go.RowKit
def pi(G:Gd)(i k a b:Nat):Int:=if a<i\/(a=i/\b<k)then jK G a b else 0
def FF(G:Gd){a b:Nat}(h:(dH G).length<=a\/(dH G).length<=b):jK G a b=0:=by unfold jK;rcases h with h|h;rw[IA h];rw[IA h];split<;>simp_all
def Qh(G:Gd){a b:Nat}(c:a<(dH G).length)(d:b<(dH G).length):jK G a b=vY G.corner (dH G)[a] (dH G)[b]:=by unfold jK;rw[ew c,ew d]
def Nv(G:Gd)(a:Option Addr)(dc mk ms:Nat)(b c:ce)(i k:Nat)(l:i<6)(m:k<6)(n:Int)(g:n=jK G i k)(j:Nat)(o:j<47):
 (if 7+i*6+k<=j/\j<7+i*6+k+1 then([Value.int .i64 n]:List ce).getD (j-(7+i*6+k)) undef else FE G a dc mk ms b c (pi G i k) j)=FE G a dc mk ms b c (pi G i (k+1)) j:=by
 split;rename_i h;obtain rfl:j=7+i*6+k:=by omega
 simp only[lf,List.getD_cons_zero,FE];rw[cr (by omega),cx (by omega)];have d:(7+i*6+k-7)/6=i:=by omega
 have f:(7+i*6+k-7)%6=k:=by omega
 rw[d,f];simp[pi,g];rename_i h;simp only[FE];split;rfl;split;rename_i d f;have:¬((j-7)/6=i/\(j-7)%6=k):=by omega
 congr 1;simp only[pi];have e:((j-7)/6<i\/(j-7)/6=i/\(j-7)%6<k)↔((j-7)/6<i\/(j-7)/6=i/\(j-7)%6<k+1):=by omega
 simp only[e];rfl
def Qi{n0:Nat}{w:cd}{v:ce}{n:Nat}{ds:List Dr}(h:cA n0 81 [.int .i64 0,.int .i64 0,.int .i64 0] w v n (ds.flatMap dL))(m:n=ds.length):∃a c,v=.slice a n c/\gD w a ds/\∀b o,a=some ⟨b,o,none⟩->n0<=b:=by
 subst m;have i:∀(ds:List Dr) (k:Nat) (f:k<ds.length),(ds.flatMap dL)[k*3]? =some (.int .i64 ds[k].st)/\(ds.flatMap dL)[k*3+1]? =some (.int .i64 ds[k].at_)/\(ds.flatMap dL)[k*3+2]? =some (.int .i64 ds[k].talk):=by
  intro ds;induction ds with
  |nil=>intro k f;simp at f
  |cons d r p=>
   intro k f;cases k with
   |zero=>simp[dL]
   |succ k=>
    have:=p k (by simpa using f);have e:(k+1)*3=k*3+3:=by omega
    simpa[dL,e]using this
 obtain⟨q,⟨s,rfl⟩|⟨b,c,y,z,rfl,g,A,B,C,j,D⟩⟩:=h;exact⟨none,0,by rw[s],λk f=>by omega,λ_ _ h=>by cases h⟩;refine⟨_,c,rfl,λk f=>⟨b,0,rfl,?_⟩,λ_ _ h=>by injection h with h;injection h with E g;omega⟩;have l:(ds.flatMap dL).length=ds.length*3:=by simpa using q
 obtain⟨t,u,x⟩:=i ds k f;refine⟨ci g ?_,ci g ?_,ci g ?_⟩;rw[cB,j _ (by omega)];exact t;rw[cB,j _ (by omega)];exact u;rw[cB,j _ (by omega)];exact x
theorem uI:∀(ds:List Dr) (k:Nat) (a:k<ds.length),(ds.flatMap dL)[k*3]? =some (.int .i64 ds[k].st)/\(ds.flatMap dL)[k*3+1]? =some (.int .i64 ds[k].at_)/\(ds.flatMap dL)[k*3+2]? =some (.int .i64 ds[k].talk)
 |d::r,0,_=>by simp[dL]
 |d::r,k+1,a=>by
  have:=uI r k (by simpa using a);have e:(k+1)*3=k*3+3:=by omega
  simpa[dL,e]using this
theorem zA:∀ds:List Dr,(ds.flatMap dL).length=ds.length*3
 |[]=>rfl
 |d::r=>by have:=zA r;simp[dL,this];omega
def HH{w:cd}{b o:Nat}{ds:List Dr}(h:gD w (some ⟨b,o,none⟩) ds)(j:Nat)(u:ce)(a:(ds.flatMap dL)[j]? =some u):w.cell? ⟨b,o+j,none⟩=some u:=by
 have s:j<ds.length*3:=by rw[<-zA];exact(gy.1 a).1
 have d:j/3<ds.length:=by omega
 obtain⟨f,g,e,i,k,l⟩:=h (j/3) d;obtain⟨rfl,rfl⟩:b=f/\o=g:=by injection e with e;injection e with m n;exact⟨m,n⟩
 obtain⟨p,q,r⟩:=uI ds (j/3) d;have c:j%3=0\/j%3=1\/j%3=2:=by omega
 rcases c with c|c|c;have e:j=j/3*3:=by omega
 rw[e]at a⊢;rw[p]at a;cases a;exact i;have e:j=j/3*3+1:=by omega
 rw[e]at a⊢;rw[q]at a;cases a;exact k;have e:j=j/3*3+2:=by omega
 rw[e]at a⊢;rw[r]at a;cases a;exact l
def Qj{w:cd}{k:ce->cd->Prop}{t:cg}{s:Array Bool}{n0 e:Nat}{v:ce}{f ds:List Dr}{n:Option Addr}{dc:Nat}(h:cA n0 81 [.int .i64 0,.int .i64 0,.int .i64 0] w v e (f.flatMap dL))(m:n0<=w.heap.size)(p:gD w n ds)(g:e+ds.length<=1000000) (q:∀i w',cA n0 81 [.int .i64 0,.int .i64 0,.int .i64 0] w' i (e+ds.length) ((f++ds).flatMap dL)->cN (cw v) w w'->k i w'):wY V.prog (builtin .append #[22,22] t s #[v,.slice n ds.length dc]) w k:=by
 rcases ds with _|⟨d,r⟩;have x:∃a c,v=.slice a e c/\e<=c:=by obtain⟨_,⟨rfl,rfl⟩|⟨b,c,D,_,rfl,_,_,y,_⟩⟩:=h;exact⟨_,_,rfl,cz _⟩;exact⟨_,_,rfl,y⟩
 obtain⟨a,c,rfl,z⟩:=x;exact uH Tb z (q _ _ (by simpa using h) (cN.refl _ w));obtain⟨b,o,rfl,_⟩:=p 0 (by simp);refine zz Tb h m (news:=(d::r).flatMap dL) (zA _) (by simp) (λj u A=>by rw[fL];exact HH p j u A) (λu l=>?_) g λi w' B C _=>q i w' (by simpa using B) C;obtain⟨E,_,l⟩:=lJ.1 l;simp[dL]at l;rcases l with rfl|rfl|rfl<;>rfl
def gD.keep{w w':cd}{F:Nat->Prop}{a:Option Addr}{ds:List Dr}(h:gD w a ds)(k:cN F w w')(c:∀b o,a=some ⟨b,o,none⟩->¬F b):gD w' a ds:=λi d=>by obtain⟨b,o,rfl,e,f,g⟩:=h i d;have:=c b o rfl;exact⟨b,o,rfl,k.ef e this,k.ef f this,k.ef g this⟩
def nA.keep{a:Nat}{C:Nat->ce}{w w':cd}{F:Nat->Prop}(h:nA a C w)(k:cN F w w')(b:¬F a):nA a C w':=by obtain⟨c,d,e,f⟩:=h.out;exact⟨c,k.fg d b,e,f⟩
def FG{G:Gd}(h:G.Ok)(d:Dr)(a:d∈dH G):(0<=d.st/\d.st<=2)/\(0<=d.at_/\d.at_<=20):=by rcases eQ.1 a with rfl|a;simp;exact⟨(h.door d a).1,(h.door d a).2.1⟩
def Nw{w w':cd}{b o l c:Nat}(h:cN (cw (.slice (some ⟨b,o,none⟩) l c)) w w'):cN (λx=>x=b) w w':=
 ⟨h.os,h.tape,h.output,h.size,h.drawn,λx a d=>h.block x a λ⟨f,g,e⟩=>d (by injection e with e;exact(cM Addr.block (cE e)).symm)⟩
def VL(G:Gd)(a:Option Addr)(dc mk ms:Nat):List ce:=gL G a dc++(List.replicate 36 (Value.int .i64 0)++[Value.map (some mk),Value.map (some ms),Value.nilFunc,Value.nilFunc])
def Kp(G:Gd)(l:Option Addr)(dc:Nat)(w:cd)(hd:gD w l G.doors)(T:G.doors.length<=100000)(hs: -1000000<=G.streets/\G.streets<=1000000):
 Calls V.prog 144 #[gV G l dc] w (fy λv w'=>Ext w w'/\((eg G≠0/\v=.tuple #[.pointer none,.int .i64 (eg G)])\/(eg G=0/\∃d mk m,v=.tuple #[.pointer (some ⟨d,0,none⟩),.int .i64 0]/\oR d mk m G w'/\
  w.heap.size<=d/\w.heap.size<=mk/\w.heap.size<=m/\w'.heap[mk]? =some (.map #[] 0)/\w'.heap[m]? =some (.map #[] 0)))):=by
 refine go V.func144 Tryz.ntmps144 ?_;refine fo λU D E aH hb=>?_;refine dP (vs:=gL G l dc) (λj v f=>by rw[cB];exact ci hb (by simpa[gV,Value.cells]using f)) ?_;refine dq (Ko G l dc U (hd.ext E) T hs) λw2 F=>?_;refine eG ⟨λh=>⟨_,rfl,E.trans F,.inl ⟨by simpa using h,rfl⟩⟩,λh=>?_⟩;have N:eg G=0:=by simpa using h
 have ok:=ek N;have t:=F.at_ hb;refine dP (vs:=gL G l dc) (λj v f=>by rw[cB];exact ci t (by simpa[gV,Value.cells]using f)) ?_;refine RL λw3 mk L aI hm=>RL λw4 m H aJ W=>?_;refine dA (.agg (VL G l dc mk m).toArray) ?_;refine fo λw5 d e5 ak hg=>?_;have E5:Ext w w5:=(((E.trans F).trans L).trans H).trans e5;refine dA (.agg #[.int .i64 0,.int .i64 0,.int .i64 0]) ?_;refine dJ (dL ⟨0,0,0⟩) 81 λw6 pb e6 al hp=>?_;have am:gD w6 l G.doors:=hd.ext (E5.trans e6);refine cu (ci ((L.trans (H.trans (e5.trans e6))).at_ t) rfl) ?_;have an:nA d (FE G l dc mk m .nilFunc .nilFunc (pi G 0 0)) w5:=by
  refine⟨_,hg,by simp[Value.cells,VL,gL],λj f=>?_⟩;show(VL G l dc mk m).toArray[j]? =_;have h0:∀a b,pi G 0 0 a b=0:=λa b=>by simp[pi]
  rw[IB];unfold VL FE;split;rename_i h7;rw[kz (by simpa[gL]using h7),gU,ew (by simpa[gL]using h7)];rfl;rename_i h7;rw[mQ (by simp[gL];omega)];have hl:(gL G l dc).length=7:=rfl;rw[hl];split;rename_i ao;rw[kz (by simp;omega),List.getElem?_replicate,cx (by omega),h0]
  ·rename_i ao;rw[mQ (by simp;omega),List.length_replicate];obtain rfl|rfl|rfl|rfl:j=43\/j=44\/j=45\/j=46:=by omega
   all_goals rfl
 have ap:cA pb 81 [.int .i64 0,.int .i64 0,.int .i64 0] w6 (.slice (some ⟨pb,0,none⟩) 1 1) 1 (([⟨0,0,0⟩]:List Dr).flatMap dL):=
  ⟨rfl,.inr ⟨pb,1,_,cz _,rfl,hp,rfl,cz _,by decide,λj f=>by simp[List.flatMap],λj h1 h2=>by simp[dL]at h1 h2;omega⟩⟩
 have aG:=cF.lt_of_heap hp;refine Qj ap (by omega) am (by omega) λv w7 aq k7=>?_;have e7:Ext w5 w7:=e6.cy (Nw k7) al;have X:(dH G).length=1+G.doors.length:=by simp[dH];omega
 obtain⟨pa,Y,rfl,ar,au⟩:=Qi (ds:=dH G) aq X.symm;rw[<-X];have av:=an.ext e7;have aw:=(L.trans (H.trans (e5.trans e7))).at_ t;have h6:(dH G).length<=6:=by have:=ok.many;omega
 have lb:D<w2.heap.size:=cF.lt_of_heap t;have lm:mk<w3.heap.size:=cF.lt_of_heap hm;have ls:m<w4.heap.size:=cF.lt_of_heap W;have lg:d<w5.heap.size:=cF.lt_of_heap hg;have s3:=L.size;have s4:=H.size;have z:d≠mk/\d≠m/\D≠d/\mk≠m:=by omega
 refine cD (ei (n:=(dH G).length) (λk=>[(1,.pointer (some ⟨D,0,none⟩)),(5,.pointer (some ⟨d,0,none⟩)),(6,.slice pa (dH G).length Y),(26,.slice pa (dH G).length Y),(27,.int .i64 (dH G).length),(28,.int .i64 k)])
  (λi w'=>cN (λx=>x=d) w7 w'/\nA d (FE G l dc mk m .nilFunc .nilFunc (pi G i 0)) w') ⟨⟨rfl,rfl,rfl,rfl,rfl,rfl,trivial⟩,cN.refl _ _,av⟩ ?_ ?_ ?_)
 rintro k w' R ⟨k',S⟩;exact cV ⟨rfl,rfl,⟨rfl,rfl,rfl,rfl,rfl,rfl,trivial⟩,k',S⟩;rintro i w' S ⟨c,O⟩;have Z:∀b o,pa=some ⟨b,o,none⟩->¬(b=d):=λb o h=>by have:=au b o h;omega
 have aa:gD w' pa (dH G):=ar.keep c Z;obtain⟨b,o,P,h1,h2,h3⟩:=aa i S;subst P;have aK:=FG ok _ (dt S)
 refine fF i 3 S (dP (vs:=dL (dH G)[i]) (λj u f=>by
  match j,f with
  |0,f=>cases f;exact h1
  |1,f=>cases f;exact h2
  |2,f=>cases f;exact h3) (eF λw8 ab e8 ax ay=>cZ ay λw9 k9 ac=>?_))
 have kw:=c.size;have s7:=e7.size;have ad:i<6:=by omega
 have az:=(O.ext e8).keep k9 (show¬(d=ab) by omega);have aL:=cF.lt_of_heap ac;have e9:Ext w' w9:=e8.cy k9 ax
 refine cD (ei (n:=(dH G).length) (λk=>[(1,.pointer (some ⟨D,0,none⟩)),(5,.pointer (some ⟨d,0,none⟩)),(6,.slice (some ⟨b,o,none⟩) (dH G).length Y),(7,.int .i64 i),(8,.pointer (some ⟨ab,0,none⟩)),(26,.slice (some ⟨b,o,none⟩) (dH G).length Y),(27,.int .i64 (dH G).length),(28,.int .i64 i),
  (33,.slice (some ⟨b,o,none⟩) (dH G).length Y),(34,.int .i64 (dH G).length),(35,.int .i64 k)]) (λk Q=>cN (λx=>x=d) w9 Q/\nA d (FE G l dc mk m .nilFunc .nilFunc (pi G i k)) Q) ⟨⟨rfl,rfl,rfl,rfl,rfl,rfl,rfl,rfl,rfl,rfl,rfl,trivial⟩,cN.refl _ _,az⟩ ?_ ?_ ?_)
 rintro k Q R ⟨I,A⟩;exact cV ⟨rfl,rfl,⟨rfl,rfl,rfl,rfl,rfl,rfl,rfl,rfl,rfl,rfl,rfl,trivial⟩,I,A⟩;rintro k Q R ⟨I,A⟩;have aM:=FG ok _ (dt R);have ae:k<6:=by omega
 have aA:gD Q (some ⟨b,o,none⟩) (dH G):=(aa.ext e9).keep I Z;obtain⟨b2,o2,P,g1,g2,g3⟩:=aA k R;obtain⟨rfl,rfl⟩:b=b2/\o=o2:=by injection P with e;injection e with E F;exact⟨E,F⟩
 refine fF k 3 R (dP (vs:=dL (dH G)[k]) (λj u f=>by
  match j,f with
  |0,f=>cases f;exact g1
  |1,f=>cases f;exact g2
  |2,f=>cases f;exact g3) (eF λaN bb aB aC af=>cZ af λJ aD r=>?_))
 have K:Ext Q J:=aB.cy aD aC;have sk:=I.size;have s:J.heap[ab]? =some (.cells (fT (sH 81).toArray 0 (dL (dH G)[i])) 81):=K.at_ (I.fg ac (show¬(ab=d) by omega));have M:=A.ext K;have ag:J.cell? ⟨D,1,none⟩=some (.int .i64 G.corner):=K.cell (I.ef (e9.cell (c.ef (ci aw rfl) z.2.2.1)) z.2.2.1)
 have ah:∀p g,Ext J p->∀n:Int,n=jK G i k->cN (λx=>x=d) p g->nA d (λj=>if 7+i*6+k<=j/\j<7+i*6+k+1 then([Value.int .i64 n]:List ce).getD (j-(7+i*6+k)) undef else FE G l dc mk m .nilFunc .nilFunc (pi G i k) j) g->
  cN (λx=>x=d) w9 g/\nA d (FE G l dc mk m .nilFunc .nilFunc (pi G i (k+1))) g:=λp g e n hn B hg=>by
  refine⟨(I.trans ((K.trans e).keep λx=>x=d) (λ_ _ h=>h) λ_ _ h=>h).trans B (λ_ _ h=>h) λ_ _ h=>h,hg.mono λj f=>Nv G l dc mk m _ _ i k (by omega) (by omega) n hn j f⟩
 have ai:jK G i k=vY G.corner (dH G)[i] (dH G)[k]:=Qh G S R;refine cu (ci s rfl) (cu (ci r rfl) (eh ⟨λh=>?_,λh=>?_⟩));refine cQ cO (cG (ci s rfl) (cG (ci r rfl) (ia cO _ (λU e=>Jc _ _ U (by omega) (by omega)) (Jb i 6 6 ad (pM k 6 ae λp e=>Nu (M.ext e) (by simp[Value.cells];omega) λg B C=>?_)))));have h:(dH G)[i].st=(dH G)[k].st:=cY h;exact cq ⟨⟨rfl,rfl,rfl,rfl,rfl,rfl,rfl,rfl,rfl,rfl,rfl,trivial⟩,ah p g e _ (by rw[ai];simp[vY,h]) B C⟩;have h:¬(dH G)[i].st=(dH G)[k].st:=dQ h;have hf:0<=l5 (dH G)[i].st (dH G)[k].st/\l5 (dH G)[i].st (dH G)[k].st<=2:=by unfold l5;omega
 have hc:=ok.corner;have m1:=Int.mul_le_mul hc.2 hf.2 hf.1 (by omega);have m2:=yx (show 0<=G.corner by omega) hf.1
 refine cQ cO (cG (ci s rfl) (cG (ci r rfl) (zx (cG ag (cG (ci s rfl) (cG (ci r rfl) (ia cO _ (λU e=>Jc _ _ U (by omega) (by omega)) (Nq (zx (Jb i 6 6 ad (pM k 6 ae λp e=>
  Nu (M.ext e) (by simp[Value.cells];omega) λg B C=>?_)))))))))))
 exact cq ⟨⟨rfl,rfl,rfl,rfl,rfl,rfl,rfl,rfl,rfl,rfl,rfl,trivial⟩,ah p g e _ (by rw[ai];simp[vY,h]) B C⟩;rintro Q ⟨I,A⟩;refine cq ⟨⟨rfl,rfl,rfl,rfl,rfl,rfl,trivial⟩,c.trans (((e9.keep λx=>x=d).trans I (λ_ _ h=>h) λ_ _ h=>h)) (λ_ _ h=>h) λ_ _ h=>h,A.mono λj f=>?_⟩;simp only[FE];split;rfl;split;congr 1;simp only[pi];generalize (j-7)/6=x;generalize hy:(j-7)%6=y;by_cases hx:x<i\/x=i/\y<(dH G).length;rw[cx hx,cx (by omega)];rw[cr hx];split;rw[FF G (by omega)];rfl;rfl;rintro w' ⟨c,O⟩;have aj:nA d (FE G l dc mk m .nilFunc .nilFunc (jK G)) w':=O.mono λj f=>by simp only[FE];split;rfl;split;congr 1;simp only[pi];split;rfl;rw[FF G (by omega)];rfl
 refine dA (.agg #[RM 179 D,RM 180 D]) (Nu aj (sO rfl) λw8 k8 aE=>?_);have aF:cN (λx=>x=d) w7 w8:=c.trans k8 (λ_ _ h=>h) λ_ _ h=>h;have q:Ext w4 w8:=(e5.trans e7).cy aF ak;refine⟨_,rfl,((E.trans F).trans (L.trans H)).trans q,.inr ⟨N,d,mk,m,rfl,⟨⟨l,dc,D,aE.mono λj f=>?_,hd.ext (((E.trans F).trans (L.trans H)).trans q),?_⟩,N,?_,?_,z.2.2.2,z.1,z.2.1⟩,?_,?_,?_,?_,?_⟩⟩;show(if 45<=j/\j<45+2 then([RM 179 D,RM 180 D]:List ce).getD (j-45) undef else _)=_;split
 ·obtain rfl|rfl:j=45\/j=46:=by omega
  all_goals simp[FE]
 ·simp only[FE];repeat' split
  all_goals first|rfl|omega
 exact(q.trans (Ext.refl _)).cell ((L.trans H).cell (ci t rfl));have:=q.size;omega;have:=q.size;omega;have:=(E.trans F).size;have:=(L.trans H).size;omega;have:=(E.trans F).size;omega;have:=(E.trans F).size;omega;exact q.at_ (H.at_ hm);exact q.at_ W
def eO(w:cd)(a:Option Addr)(l:List Nat):Prop:=∀k (h:k<l.length),∃b o,a=some ⟨b,o,none⟩/\w.cell? ⟨b,o+k,none⟩=some (.int .i64 l[k])
def eO.ext{w w':cd}{a:Option Addr}{l:List Nat}(h:eO w a l)(e:Ext w w'):eO w' a l:=λk c=>by obtain⟨b,o,d,f⟩:=h k c;exact⟨b,o,d,e.cell f⟩
def lU(l:List Nat):List Int:=l.map λn:Nat=>(n:Int)
def eO.ints{w:cd}{a:Option Addr}{l:List Nat}(h:eO w a l):ja w a (lU l):=λk d=>by
 have c:k<l.length:=by simpa[lU]using d
 obtain⟨b,o,e,f⟩:=h k c;exact⟨b,o,e,by rw[f];simp[lU]⟩
section
variable{gp mk ms:Nat}{G:Gd}{w:cd}
def oR.tY(h:oR gp mk ms G w):G.Ok:=ek h.ok
def oR.ways(h:oR gp mk ms G w)(i j:Nat)(d:i<6)(e:j<6):w.cell? ⟨gp,7+i*6+j,none⟩=some (.int .i64 (jK G i j)):=by
 obtain⟨f,g,k,a,_⟩:=h.at_;rw[a.cell (7+i*6+j)];simp only[FE];rw[cr (by omega),cx (by omega)];have b:(7+i*6+j-7)/6=i:=by omega
 have c:(7+i*6+j-7)%6=j:=by omega
 rw[b,c]
def oR.c2(h:oR gp mk ms G w):w.cell? ⟨gp,2,none⟩=some (.int .i64 G.knock):=by obtain⟨b,c,d,a,_⟩:=h.at_;exact a.cell 2
def oR.c3(h:oR gp mk ms G w):w.cell? ⟨gp,3,none⟩=some (.int .i64 G.minutes):=by obtain⟨b,c,d,a,_⟩:=h.at_;exact a.cell 3
def oR.c4(h:oR gp mk ms G w):w.cell? ⟨gp,4,none⟩=some (.int .i64 G.days):=by obtain⟨b,c,d,a,_⟩:=h.at_;exact a.cell 4
def oR.c5(h:oR gp mk ms G w):w.cell? ⟨gp,5,none⟩=some (.int .i64 G.tries):=by obtain⟨b,c,d,a,_⟩:=h.at_;exact a.cell 5
def oR.c6(h:oR gp mk ms G w):∃a dc,w.cell? ⟨gp,6,none⟩=some (.slice a G.doors.length dc)/\gD w a G.doors:=by obtain⟨a,dc,d,b,c,_⟩:=h.at_;exact⟨a,dc,b.cell 6,c⟩
def oR.X8(h:oR gp mk ms G w):w.cell? ⟨gp,43,none⟩=some (.map (some mk)):=by obtain⟨b,c,d,a,_⟩:=h.at_;exact a.cell 43
def oR.X9(h:oR gp mk ms G w):w.cell? ⟨gp,44,none⟩=some (.map (some ms)):=by obtain⟨b,c,d,a,_⟩:=h.at_;exact a.cell 44
def oR.fn(h:oR gp mk ms G w):∃a,w.cell? ⟨gp,45,none⟩=some (RM 179 a)/\w.cell? ⟨gp,46,none⟩=some (RM 180 a)/\w.cell? ⟨a,5,none⟩=some (.int .i64 G.tries):=by obtain⟨d,e,a,b,_,c⟩:=h.at_;exact⟨a,b.cell 45,b.cell 46,c⟩
def ik(G:Gd)(l:List Nat):Int:=pN (jK G) l
def dr(G:Gd)(l:List Nat):Int:=tG (jK G) G.knock l
def gQ(G:Gd)(l:List Nat):Int:=(l.map λd=>((G.doors[d]?).map (·.talk)).getD 0).sum
def dF(G:Gd)(l:List Nat):Int:=dr G l+gQ G l
variable{l:List Nat}{la:Option Addr}{lc:Nat}
def Kq(h:oR gp mk ms G w)(b:∀d∈l,d<G.doors.length)(a:l.length<=100000)(c:eO w la l):Calls V.prog 161 #[.pointer (some ⟨gp,0,none⟩),.slice la l.length lc] w (fy λv w'=>v=.int .i64 (ik G l)/\w'=w):=by have:=h.tY.many;exact zy gp (jK G) l la lc w h.ways (mq h.tY) (λd e=>by have:=b d e;omega) a c
def zB(h:oR gp mk ms G w)(b:∀d∈l,d<G.doors.length)(a:l.length<=100000)(c:eO w la l):Calls V.prog 114 #[.pointer (some ⟨gp,0,none⟩),.slice la l.length lc] w (fy λv w'=>v=.int .i64 (dr G l)/\Ext w w'):=by have:=h.tY.many;have:=h.tY.knock;exact Kk gp (jK G) G.knock l la lc w h.c2 h.ways (mq h.tY) (λd e=>by have:=b d e;omega) a c (by omega)
def BK(a:G.Ok)(l:List Nat)(b:l.length<=100000):0<=dr G l/\dr G l<=1000000000:=by have d:=pO (mq a) l;have c:=a.knock;have e:=Int.mul_le_mul_of_nonneg_left c.2 (Int.natCast_nonneg l.length);have f:=yx (Int.natCast_nonneg l.length) (show 0<=G.knock by omega);unfold dr tG;omega
def HI(G:Gd)(l:List Nat)(k:Nat)(a:k<l.length)(b:l[k]<G.doors.length):gQ G (l.take (k+1))=gQ G (l.take k)+G.doors[l[k]].talk:=by unfold gQ;rw[gP a,nQ,List.sum_append];simp[ew b]
theorem zC(a:G.Ok):∀(l:List Nat),0<=gQ G l/\gQ G l<=9*l.length
 |[]=>by simp[gQ]
 |d::r=>by
  have:=zC a r
  have b:0<=((G.doors[d]?).map (·.talk)).getD 0/\((G.doors[d]?).map (·.talk)).getD 0<=9:=by
   cases h:G.doors[d]? with
   |none=>simp
   |some x=>have:=a.door x (nR h);simp;omega
  have e:gQ G (d::r)=((G.doors[d]?).map (·.talk)).getD 0+gQ G r:=by simp[gQ]
  simp only[e,dW];omega
def yf(h:oR gp mk ms G w)(i:∀d∈l,d<G.doors.length)(a:l.length<=100000)(j:eO w la l):Calls V.prog 115 #[.pointer (some ⟨gp,0,none⟩),.slice la l.length lc] w (fy λv w'=>v=.int .i64 (dF G l)/\Ext w w'):=by
 refine go V.func115 Tryz.ntmps115 ?_;have t:=BK h.tY l a;have u:=h.tY.many;refine dq (zB h i a j) λm f=>?_;refine cD (ei (n:=l.length) (λk=>[(0,.pointer (some ⟨gp,0,none⟩)),(11,.slice la l.length lc),(12,.int .i64 l.length),(13,.int .i64 k),(5,.int .i64 (dr G l+gQ G (l.take k)))]) (λ_ w'=>w'=m) ⟨⟨rfl,rfl,rfl,rfl,by show some _=some _;simp[gQ],trivial⟩,rfl⟩ ?_ ?_ ?_);rintro k w' c rfl;exact cV ⟨rfl,rfl,⟨rfl,rfl,rfl,rfl,rfl,trivial⟩,rfl⟩;rintro k w' c rfl;obtain⟨b,o,rfl,p⟩:=(j.ext f) k c;have e:=i _ (dt c);obtain⟨x,y,q,g⟩:=(h.ext f).c6;obtain⟨z,A,rfl,_,_,r⟩:=g _ e;have B:=zC h.tY (l.take k);have C:=h.tY.door _ (dt e);have s:(l.take k).length<=100000:=by simp;omega
 refine dI k c (cu p (cu q (fF l[k] 3 e (cu r (cq (cq ⟨⟨rfl,rfl,rfl,rfl,?_,trivial⟩,rfl⟩))))));show some _=some _;rw[HI G l k c e,Int.add_assoc];rintro w' rfl;exact⟨_,rfl,by simp[dF],f⟩
def last_at(h:oR gp mk ms G w):Calls V.prog 107 #[.pointer (some ⟨gp,0,none⟩)] w (fy λv w'=>v=.int .i64 (2*G.days-1)/\w'=w):=Ns gp G.days w h.c4 (by have:=h.tY.days;omega)
end
def b8(c:BinOp)(a b:Int):Int:=match c with
 | .and=>IntKind.u8.wrap (BitVec.ofInt 8 a&&&BitVec.ofInt 8 b).toNat
 | .or=>IntKind.u8.wrap (BitVec.ofInt 8 a|||BitVec.ofInt 8 b).toNat
 |_=>IntKind.u8.wrap (BitVec.ofInt 8 a&&& ~~~BitVec.ofInt 8 b).toNat
section
variable{w:cd}{k:ce->cd->Prop}{t:cg}{x y:dj}
def Tc{a b:Int}(r:Int)(c:b8 .and a b=r)(h:k (.int .u8 r) w):iO V.prog (do eqGuard .and t x y (.int .u8 a) (.int .u8 b);binOp .and t (.int .u8 a) (.int .u8 b)) w k:=⟨_,w,rfl,by subst c;exact h⟩
def Qk{a b:Int}(r:Int)(c:b8 .andNot a b=r)(h:k (.int .u8 r) w):iO V.prog (do eqGuard .andNot t x y (.int .u8 a) (.int .u8 b);binOp .andNot t (.int .u8 a) (.int .u8 b)) w k:=⟨_,w,rfl,by subst c;exact h⟩
def Td{a:Int}{n:Nat}(b:n<=8)(h:k (.int .u8 (a.fdiv (2^n))) w):iO V.prog (do eqGuard .shr t x y (.int .u8 a) (.int .i64 n);binOp .shr t (.int .u8 a) (.int .i64 n)) w k:=by
 refine⟨_,w,?_,h⟩;show Sem.run V.prog (Op.shift .shr .u8 a .i64 n) w=_;unfold Op.shift;rw[cr (by omega)];have:min (n:Int).toNat IntKind.u8.bits=n:=by simp[IntKind.bits];omega
 rw[this];rfl
def Te{a:Int}{n:Nat}(b:n<=8)(h:k (.int .u8 (IntKind.u8.wrap (a*2^n))) w):iO V.prog (do eqGuard .shl t x y (.int .u8 a) (.int .i64 n);binOp .shl t (.int .u8 a) (.int .i64 n)) w k:=by
 refine⟨_,w,?_,h⟩;show Sem.run V.prog (Op.shift .shl .u8 a .i64 n) w=_;unfold Op.shift;rw[cr (by omega)];have:min (n:Int).toNat IntKind.u8.bits=n:=by simp[IntKind.bits];omega
 rw[this];rfl
end
def Ny:∀s:Nat,s<32->∀d:Nat,d<5->b8 .and ((s:Int).fdiv (2^d)) 1=if s.testBit d then 1 else 0:=by decide+kernel
def Ql(s d:Nat)(w:cd)(a:s<32)(b:d<5):Calls V.prog 198 #[.int .u8 s,.int .i64 d] w (fy λv w'=>v=.bool (s.testBit d)/\w'=w):=by refine go V.func198 Tryz.ntmps198 ?_;refine Td (by omega) (Tc _ (Ny s a d b) (eh ⟨_,rfl,?_,rfl⟩));cases s.testBit d<;>rfl
def yg(s d:Nat)(w:cd)(a:s<32)(b:d<5):Calls V.prog 164 #[.int .u8 s,.int .i64 d] w (fy λv w'=>v=.int .u8 (nZ s d)/\w'=w):=HE (EQ s d w a b)
def Nz(x:Int)(l:List Int):Bool:=decide (0<=A6 x l 0)
def C6(l:List Int)(x:Int)(la:Option Addr)(lc:Nat)(w:cd)(b:ja w la l)(a:l.length<=100000):Calls V.prog 135 #[.slice la l.length lc,.int .i64 x] w (fy λv w'=>v=.bool (Nz x l)/\w'=w):=by refine go V.func135 Tryz.ntmps135 ?_;exact cS (Km l x la lc w b a) (n6 ⟨_,rfl,rfl,rfl⟩)
def lF(n:Int):List Int->List Int->Int
 |_,[]=>0
 |pre,d::r=>if jX d 0 (n-1)then(if Nz d pre then 4 else lF n (pre++[d]) r)else 3
def gx(n:Int)(l:List Int):Int:=lF n [] l
def C7(n:Int)(l:List Int)(k:Nat)(a:k<l.length):lF n (l.take k) (l.drop k)=if jX l[k] 0 (n-1)then(if Nz l[k] (l.take k)then 4 else lF n (l.take (k+1)) (l.drop (k+1)))else 3:=by rw[qH a,gP a];rfl
def BL{gp mk ms:Nat}{G:Gd}{w:cd}(h:oR gp mk ms G w){l:List Int}{la:Option Addr}{lc:Nat}(j:ja w la l)(m:l.length<=100000)(s:l.length<=lc):
 Calls V.prog 108 #[.pointer (some ⟨gp,0,none⟩),.slice la l.length lc] w (fy λv w'=>v=.int .i64 (gx G.doors.length l)/\w'=w):=by
 have t:=h.tY.many;obtain⟨u,x,p,q⟩:=h.c6;refine go V.func108 Tryz.ntmps108 ?_;refine cD (ei (n:=l.length) (λk=>[(0,.pointer (some ⟨gp,0,none⟩)),(1,.slice la l.length lc),(7,.slice la l.length lc),(8,.int .i64 l.length),(9,.int .i64 k)]) (λk w'=>w'=w/\gx G.doors.length l=lF G.doors.length (l.take k) (l.drop k)) ⟨⟨rfl,rfl,rfl,rfl,rfl,trivial⟩,rfl,rfl⟩ ?_ ?_ ?_);rintro k w' e ⟨rfl,a⟩;exact cV ⟨rfl,rfl,⟨rfl,rfl,rfl,rfl,rfl,trivial⟩,rfl,a⟩;rintro k w' e ⟨rfl,a⟩;obtain⟨b,o,f,d⟩:=j k e;rw[C7 _ l k e]at a;have g:(l.take k).length=k:=by simp;omega
 have c:=C6 (l.take k) l[k] la lc w' (j.take k) (by omega);rw[g]at c;subst f;refine dI k e (cu d (cu p (cD (fx (cS (ej _ _ _ _) (eu ⟨λh=>?_,λi=>?_⟩))))));simp at h;exact⟨_,rfl,by rw[a];simp[h],rfl⟩;simp at i;refine n7 k (by omega) (cS c ⟨λh=>?_,λr=>?_⟩);exact⟨_,rfl,by rw[a];simp[h,i],rfl⟩;rw[i,r]at a;exact cq ⟨⟨rfl,rfl,rfl,rfl,rfl,trivial⟩,rfl,by simpa using a⟩;rintro w' ⟨rfl,a⟩;exact⟨_,rfl,by rw[a];simp[lF],rfl⟩
def mu(s k:Nat):List Nat:=(List.range k).filter (s.testBit ·)
def dK(s:Nat):List Nat:=mu s 5
def fi(l:List Nat):List ce:=l.map λn:Nat=>Value.int .i64 n
def dE(n0:Nat)(w:cd)(v:ce)(l:List Nat):Prop:=cA n0 3 [.int .i64 0] w v l.length (fi l)
def dE.row{n0:Nat}{w:cd}{v:ce}{l:List Nat}(h:dE n0 w v l):∃a c,v=.slice a l.length c/\eO w a l/\l.length<=c:=by obtain⟨j,⟨e,rfl⟩|⟨b,c,m,n,rfl,f,o,g,p,i,q⟩⟩:=h;exact⟨none,0,by rw[e],λk d=>by omega,by omega⟩;refine⟨_,c,rfl,λk d=>⟨b,0,rfl,?_⟩,g⟩;refine ci f ?_;rw[cB,i k (by simp[fi];omega)];simp[fi,ew d]
def uJ(s k:Nat):mu s (k+1)=if s.testBit k then mu s k++[k]else mu s k:=by unfold mu;rw[kA,List.filter_append];cases h:s.testBit k<;>simp[h]
def j9(s k:Nat):(mu s k).length<=k:=by have:=List.length_filter_le (s.testBit ·) (List.range k);simpa[mu]using this
def Ext.iS{w w1 b:cd}{n0:Nat}{v:ce}{t:cg}{zs d:List ce}{a:Nat}(h:Ext w w1)(k:cN (cw v) w1 b)(e:cA n0 t zs w1 v a d)(g:w.heap.size<=n0):Ext w b:=
 ⟨k.os.trans h.os,k.tape.trans h.tape,k.output.trans h.output,cJ h.size k.size,cJ h.drawn k.drawn,λx c=>(k.block x (dl c h.size) λf=>by have:=(e.blk f).1;omega).trans (h.block x c)⟩
def uK(s:Nat)(w:cd)(g:s<32):Calls V.prog 173 #[.int .u8 s] w (fy λv w'=>Ext w w'/\dE w.heap.size w' v (dK s)):=by refine go V.func173 Tryz.ntmps173 ?_;refine gC (n:=5) (λk v=>[(0,.int .u8 s),(3,v),(5,.int .i64 k)]) (λk v w'=>Ext w w'/\dE w.heap.size w' v (mu s k)) (.slice none 0 0) ⟨⟨rfl,rfl,rfl,trivial⟩,Ext.refl _,cA.nil _ _ _ _⟩ ?_ ?_ ?_;rintro k v w' d ⟨e,a⟩;exact cV ⟨rfl,rfl,⟨rfl,rfl,rfl,trivial⟩,e,a⟩;rintro k v w' d ⟨e,a⟩;have f:=j9 s k;refine cS (Ql s k w' g d) ⟨λh=>?_,λh=>?_⟩;refine dJ [Value.int .i64 k] 3 λo p b i j=>fP oG (a.ext b) (cJ e.size b.size) j (by omega) λl q c m _=>cq ⟨l,⟨rfl,rfl,rfl,trivial⟩,(e.trans b).iS m (a.ext b) (cz _),?_⟩;rw[uJ,cx h];simpa[dE,fi]using c;refine cq ⟨v,⟨rfl,rfl,rfl,trivial⟩,e,?_⟩;rw[uJ,cr (by rw[h];simp)];exact a;rintro v w' ⟨e,a⟩;exact⟨_,rfl,e,a⟩
def setFrom(s:Nat)(l:List Nat):Nat:=l.foldl nZ s
def dB(l:List Nat):Nat:=setFrom 0 l
theorem pP:∀(l:List Nat) (s:Nat),s<32->(∀d∈l,d<5)->setFrom s l<32
 |[],s,a,_=>a
 |d::r,s,a,h=>pP r (nZ s d) (Hj s a d (h d eR)) λx b=>h x (eI _ b)
def pj(l:List Nat)(la:Option Addr)(lc:Nat)(w:cd)(g:eO w la l)(e:∀d∈l,d<5)(f:l.length<=100000):Calls V.prog 122 #[.slice la l.length lc] w (fy λv w'=>v=.int .u8 (dB l)/\w'=w):=by refine go V.func122 Tryz.ntmps122 ?_;refine cD (ei (n:=l.length) (λk=>[(3,.int .u8 (dB (l.take k))),(6,.slice la l.length lc),(7,.int .i64 l.length),(8,.int .i64 k)]) (λ_ w'=>w'=w) ⟨⟨rfl,rfl,rfl,rfl,trivial⟩,rfl⟩ ?_ ?_ ?_);rintro k w' a rfl;exact cV ⟨rfl,rfl,⟨rfl,rfl,rfl,rfl,trivial⟩,rfl⟩;rintro k w' a rfl;obtain⟨b,o,rfl,h⟩:=g k a;have c:=e _ (dt a);have i:dB (l.take k)<32:=pP _ 0 (by omega) λd c=>e d (List.mem_of_mem_take c);refine dI k a (cu h (cS (yg _ _ _ i c) (cq ⟨⟨?_,rfl,rfl,rfl,trivial⟩,rfl⟩)));show some _=some _;rw[gP a];simp only[dB,setFrom,uf,mP,List.foldl_nil];rintro w' rfl;exact⟨_,rfl,by simp,rfl⟩
structure Sx where
 tries:Int
 mornings:Int
 evenings:Int
 opened:Bool
 d0:Bool
 d1:Bool
 d2:Bool
 left:Bool
def kY(x:Sx):List ce:=[.int .i64 x.tries,.int .i64 x.mornings,.int .i64 x.evenings,.bool x.opened,.bool x.d0,.bool x.d1,.bool x.d2,.bool x.left]
def gA(T:Int)(x:Sx):Bool:=(x.left||x.opened)||(decide (T<=x.tries)&&(decide (T<2)||(decide (0<x.mornings)&&decide (0<x.evenings))))
def uL{gp mk ms:Nat}{G:Gd}{w:cd}(h:oR gp mk ms G w)(x:Sx):Calls V.prog 134 #[.pointer (some ⟨gp,0,none⟩),.agg (kY x).toArray] w (fy λv w'=>v=.bool (gA G.tries x)/\Ext w w'):=by refine go V.func134 Tryz.ntmps134 ?_;refine fo λn o c k d=>?_;obtain⟨i,l,m,j⟩:=(h.ext c).fn;refine cQ cO (cG (ci d rfl) ⟨λf=>?_,λf=>?_⟩);exact iR rfl λa e=>⟨_,rfl,by simp[gA,f],c.trans e⟩;refine cG (ci d rfl) ⟨λg=>?_,λg=>?_⟩;exactλa e=>⟨_,rfl,by simp[gA,f,g],c.trans e⟩;refine cG l (cG (ci d rfl) (ia cO _ (λa e=>HF i _ _ a (e.cell j)) ⟨λb=>?_,λb=>?_⟩));refine cG m (cG (ci d rfl) (cG (ci d rfl) (ia cO _ (λa e=>HG i _ _ _ a (e.cell j)) λa e=>⟨_,rfl,?_,c.trans e⟩)));have b:G.tries<=x.tries:=cY b;simp[gA,f,g,b];refineλa e=>⟨_,rfl,?_,c.trans e⟩;have b:¬G.tries<=x.tries:=dQ b;simp[gA,f,g,b]
section
variable{w:cd}{k:ce->cd->Prop}{t:cg}{x y:dj}
def rG{m:Nat}{n:Nat}(b:0<n)(c:m<=1000000000)(h:k (.int .i64 ((m/n:Nat):Int)) w):iO V.prog (do eqGuard .quo t x y (.int .i64 m) (.int .i64 n);binOp .quo t (.int .i64 m) (.int .i64 n)) w k:=by
 refine⟨_,w,?_,h⟩;show Sem.run V.prog (Op.intDiv .quo .i64 m n) w=_;unfold Op.intDiv;rw[cr (by omega)];have a:(m:Int).tdiv n=((m/n:Nat):Int):=by rw[Int.tdiv_eq_ediv_of_nonneg (by omega)];simp
 have d:m/n<=m:=Nat.div_le_self _ _;rw[a];simp only[Sem.run_pure];generalize m/n=q at*;rw[IntWalk.i64_in _ (by omega)]
def C8{m:Nat}{n:Nat}(b:0<n)(h:k (.int .i64 ((m%n:Nat):Int)) w):iO V.prog (do eqGuard .rem t x y (.int .i64 m) (.int .i64 n);binOp .rem t (.int .i64 m) (.int .i64 n)) w k:=by
 refine⟨_,w,?_,h⟩;show Sem.run V.prog (Op.intDiv .rem .i64 m n) w=_;unfold Op.intDiv;rw[cr (by omega)];have a:(m:Int).tmod n=((m%n:Nat):Int):=by rw[Int.tmod_eq_emod_of_nonneg (by omega)];simp
 simp only[a,Sem.run_pure]
def yh{t:cg}{b o:Nat}{a:Nat}(n:Nat)(c:a<n)(h:k (.pointer (some ⟨b,o+a,none⟩)) w)(d:ty t=some ⟨2,n,1,n⟩:=by rfl):iO V.prog (Instr.indexAt t (.pointer (some ⟨b,o,none⟩)) (.int .i64 (a:Nat))) w k:=rC a n c h rfl d
def pQ{t:cg}{b o:Nat}{cs:Array ce}{a:cg}(vs:List ce)(c:w.heap[b]? =some (.cells cs a))(d:∀j v,vs[j]? =some v->cs[o+j]? =some v)(e:HB t=some true:=by rfl)(f:RG t=some vs.length:=by rfl):Sem.run V.prog (loadVar t ⟨b,o,none⟩) w=.ok (.agg vs.toArray) w:=by
 have g:=run_loadCells_list (P:=V.prog) w ⟨b,o,none⟩ vs λj v h=>by rw[fL];exact ci c (d j v h)
 simp only[loadVar,Sem.run_bind,zw e,C5 f,Result.andThen_ok,cX,g,Sem.run_pure]
end
def dV(cs:Array ce)(vs:List ce)(h:cs.size=vs.length):fT cs 0 vs=vs.toArray:=by
 apply L1;intro j;rw[nB vs cs 0 j (by omega),cB,Nat.sub_zero];have e:vs.toArray[j]? =vs[j]? :=by simp
 rw[e];split;rfl;rename_i a;have a:vs.length<=j:=Nat.le_of_not_lt λb=>a ⟨fN _,b⟩;rw[IA a];exact mO (by rw[h];exact a)
def tH(x:Sx)(d:Nat):Bool:=if d=0 then x.d0 else if d=1 then x.d1 else x.d2
def iJ(x:Sx)(a:Nat)(b:Bool):Sx:=⟨x.tries+1,if a%2=0 then x.mornings+1 else x.mornings,if a%2=0 then x.evenings else x.evenings+1,x.opened||b,if a/2=0 then true else x.d0,if a/2=1 then true else x.d1,if a/2=2 then true else x.d2,x.left⟩
set_option maxHeartbeats 2000000 in
theorem BM(x:Sx)(shift:Nat)(op:Bool)(w:World)(hs:shift<6)(hb:(0≤x.tries∧x.tries≤1000000)∧(0≤x.mornings∧x.mornings≤1000000)∧0≤x.evenings∧x.evenings≤1000000):
 Calls V.prog 158 #[.agg (kY x).toArray,.int .i64 shift,.bool op] w (fy fun v w'=>v=.agg (kY (iJ x shift op)).toArray∧Ext w w'):=by
 refine go V.func158 Tryz.ntmps158 ?_
 refine fo fun w1 xb e1 VM UA=>eF fun w2 rb e2 Zk VE=>?_
 have xJ:=e2.at_ UA
 have ne:¬(rb=xb):=by have:=cF.lt_of_heap UA;omega
 refine cu (ci xJ rfl) (cq (cZ xJ fun w3 k3 S9=>?_))
 have Ya:=k3.fg VE ne
 refine C8 (m:=shift) (n:=2) (by omega) (eh ?_)
 obtain⟨X,hX⟩:∃X,X=iJ x shift op:=⟨_,rfl⟩
 rw[←hX]
 obtain rfl|rfl|rfl|rfl|rfl|rfl:shift=0∨shift=1∨shift=2∨shift=3∨shift=4∨shift=5:=by omega
 all_goals
  first
  |refine iR rfl (cu (ci S9 rfl) (cq (cZ S9 fun w4 k4 VN=>?_)))
  |refine iG rfl (cu (ci S9 rfl) (cq (cZ S9 fun w4 k4 VN=>?_)))
  have Yb:=k4.fg Ya ne
  have e4:Ext w w4:=((e1.trans e2).cy k3 VM).cy k4 VM
  refine cu (ci VN rfl) ⟨fun ho=>?_,fun ho=>?_⟩
  all_goals
   refine cZ VN fun w5 k5 Yc=>?_
   have Yd:=k5.fg Yb ne
   have e5:=e4.cy k5 VM
   refine rG (n:=2) (by omega) (by omega) (yh 3 (by decide) (cZ Yc fun w6 k6 Ye=>?_))
   have Yf:=k6.fg Yd ne
   have e6:=e5.cy k6 VM
   have Zl:w6.heap[xb]? =some (.cells (kY X).toArray 166):=Ye.trans (by rw[hX];simp[fT,kY,iJ,ho,Value.cells])
   refine dP (vs:=kY X) (fun j v hj=>by rw[Nat.zero_add];exact ci Zl (by simpa using hj)) (cZ Yf fun w7 k7 Yg=>?_)
   have Zm:w7.heap[rb]? =some (.cells (kY X).toArray 166):=Yg.trans (congrArg (fun a=>some (Obj.cells a 166)) (dV (sH 166).toArray (kY X) rfl))
   have hl:Sem.run V.prog (loadVar 166 ⟨rb,0,none⟩) w7=.ok (.agg (kY X).toArray) w7:=pQ (kY X) Zm fun j v hj=>by rw[Nat.zero_add];simpa using hj
   have e7:Ext w w7:=e6.cy k7 (Nat.le_trans e1.size Zk)
   clear UA xJ S9 VN Yc Ye VE Ya Yb Yd Yf Yg
   refine⟨.agg (kY X).toArray,hl,?_⟩
   exact⟨_,rfl,rfl,e7⟩
def tI(w:cd)(a:Option Addr)(xs:List Sx):Prop:=∀k (h:k<xs.length),∃b o,a=some ⟨b,o,none⟩/\∀j v,(kY xs[k])[j]? =some v->w.cell? ⟨b,o+k*8+j,none⟩=some v
def tI.ext{w w':cd}{a:Option Addr}{xs:List Sx}(h:tI w a xs)(e:Ext w w'):tI w' a xs:=λk c=>by obtain⟨b,o,d,f⟩:=h k c;exact⟨b,o,d,λj v g=>e.cell (f j v g)⟩
structure kU(wp gp mk ms:Nat)(G:Gd)(xs:List Sx)(before:Int)(w:cd):Prop where
 g:oR gp mk ms G w
 len:xs.length=G.doors.length
 bf:0<=before/\before<=5
 at_:∃sa sc,w.cell? ⟨wp,0,none⟩=some (.pointer (some ⟨gp,0,none⟩))/\w.cell? ⟨wp,1,none⟩=some (.slice sa xs.length sc)/\w.cell? ⟨wp,2,none⟩=some (.int .i64 before)/\tI w sa xs
section
variable{wp gp mk ms:Nat}{G:Gd}{xs:List Sx}{before:Int}{w:cd}
theorem kU.ext{w':cd}(h:kU wp gp mk ms G xs before w)(e:Ext w w'):kU wp gp mk ms G xs before w':=by obtain⟨a,b,c,d,f,i⟩:=h.at_;exact⟨h.g.ext e,h.len,h.bf,a,b,e.cell c,e.cell d,e.cell f,i.ext e⟩
def rH(G:Gd)(before a:Int):Int:=if jX a 0 (2*G.days-1)then(if a<before then 5 else 0)else 3
def Qm(h:kU wp gp mk ms G xs before w)(a:Int):Calls V.prog 153 #[.pointer (some ⟨wp,0,none⟩),.int .i64 a] w (fy λv w'=>v=.int .i64 (rH G before a)/\w'=w):=by obtain⟨f,i,d,j,e,k⟩:=h.at_;refine go V.func153 Tryz.ntmps153 ?_;refine cu d (cS (last_at h.g) (cS (ej _ _ _ _) (eu ⟨λb=>?_,λb=>?_⟩)));exact⟨_,rfl,by simp at b;simp[rH,b],rfl⟩;simp at b;refine cu e (cV ⟨λc=>?_,λc=>?_⟩);exact⟨_,rfl,by simp[rH,b,cY c],rfl⟩;exact⟨_,rfl,by simp[rH,b,dQ c],rfl⟩
def pR(T:Int)(xs:List Sx)(k:Nat):List Nat:=(List.range k).filter λd=>match xs[d]? with
 |some x=>!gA T x
 |none=>false
def cW(T:Int)(xs:List Sx):List Nat:=pR T xs xs.length
def xf(T:Int)(xs:List Sx)(k:Nat)(a:k<xs.length):pR T xs (k+1)=if gA T xs[k]then pR T xs k else pR T xs k++[k]:=by unfold pR;rw[kA,List.filter_append];cases h:gA T xs[k]<;>simp[h,ew a]
def zD(T:Int)(xs:List Sx)(k:Nat):(pR T xs k).length<=k:=by
 have:=List.length_filter_le (λd=>match xs[d]? with
  |some x=>!gA T x
  |none=>false) (List.range k)
 simpa[pR]using this
def yi(h:kU wp gp mk ms G xs before w):Calls V.prog 119 #[.pointer (some ⟨wp,0,none⟩)] w (fy λv w'=>Ext w w'/\dE w.heap.size w' v (cW G.tries xs)):=by
 obtain⟨B,C,D,E,R,F⟩:=h.at_;have S:=h.g.tY.many;have T:=h.len;refine go V.func119 Tryz.ntmps119 ?_;refine cu E (cD (gC (n:=xs.length) (λk v=>[(0,.pointer (some ⟨wp,0,none⟩)),(3,v),(9,.slice B xs.length C),(10,.int .i64 xs.length),(11,.int .i64 k)]) (λk v w'=>Ext w w'/\dE w.heap.size w' v (pR G.tries xs k)) (.slice none 0 0) ⟨⟨rfl,rfl,rfl,rfl,rfl,trivial⟩,Ext.refl _,cA.nil _ _ _ _⟩ ?_ ?_ ?_));rintro k v w' l ⟨e,d⟩;exact cV ⟨rfl,rfl,⟨rfl,rfl,rfl,rfl,rfl,trivial⟩,e,d⟩;rintro k v w' l ⟨e,d⟩;obtain⟨b,o,rfl,H⟩:=(F.ext e) k l;have u:=zD G.tries xs k;refine fF k 8 l (dP (vs:=kY xs[k]) H (eF λU I J q K=>cZ K λx L m=>?_));have f:Ext w' x:=J.cy L q;have r:x.heap[I]? =some (.cells (kY xs[k]).toArray 166):=m.trans (cM (λa=>some (Obj.cells a 166)) (dV (sH 166).toArray (kY xs[k]) rfl));have M:=(h.g.ext e).ext f;clear m;refine cQ cO (cG (f.cell (e.cell D)) (dx (.agg (kY xs[k]).toArray) (λy c=>dP (vs:=kY xs[k]) (λj v N=>by rw[cB];exact ci (c.at_ r) (by simpa using N)) ⟨rfl,Ext.refl _⟩) (je (.bool (gA G.tries xs[k])) (λy c=>uL (M.ext c) xs[k]) (rE λy c=>⟨λi=>?_,λi=>?_⟩))));have i:gA G.tries xs[k]=false:=by simpa using i
 have z:=(e.trans f).trans c;refine dJ [Value.int .i64 k] 3 λW O p A s=>fP oG (((d.ext f).ext c).ext p) (cJ z.size p.size) s (by omega) λP X t Q _=>cq ⟨P,⟨rfl,rfl,rfl,rfl,rfl,trivial⟩,(z.trans p).iS Q (((d.ext f).ext c).ext p) (cz _),?_⟩;rw[xf _ _ _ l,i];simpa[dE,fi]using t;have i:gA G.tries xs[k]=true:=by simpa using i
 refine cq ⟨v,⟨rfl,rfl,rfl,rfl,rfl,trivial⟩,(e.trans f).trans c,?_⟩;rw[xf _ _ _ l,i];exact(d.ext f).ext c;rintro v w' ⟨e,d⟩;exact⟨_,rfl,e,d⟩
end
def pS(s:Nat):List ce:=[.bool (s.testBit 0),.bool (s.testBit 1),.bool (s.testBit 2),.bool (s.testBit 3),.bool (s.testBit 4)]
def C9(l:List Nat)(d:Nat):Bool:=l.contains d
def NA(l:List Nat):List ce:=[.bool (C9 l 0),.bool (C9 l 1),.bool (C9 l 2),.bool (C9 l 3),.bool (C9 l 4)]
def Kr:∀s:Nat,s<32->∀d:Nat,d<5->C9 (dK s) d=s.testBit d:=by decide+kernel
def NB(s:Nat)(d:Nat)(h:d∈dK s):d<5:=by have:=(ug.1 h).1;simpa using this
def Ks(s:Nat)(w:cd)(K:s<32):Calls V.prog 174 #[.int .u8 s] w (fy λv w'=>v=.agg (pS s).toArray/\Ext w w'):=by
 refine go V.func174 Tryz.ntmps174 ?_;refine eF λw1 u L z M=>eF λN f O R g=>?_;refine ck (uK s N K) λv S y=>?_;obtain⟨A,y⟩:=y;obtain⟨a,c,rfl,i,_⟩:=y.row;have B:=A.at_ (O.at_ M);have T:¬(u=f):=by have:=cF.lt_of_heap M;omega
 have P:(dK s).length<=5:=j9 s 5;have C:∀b o,a=some ⟨b,o,none⟩->N.heap.size<=b:=λb o h=>by obtain⟨_,⟨_,e⟩|⟨b',c',cs,h1,e,_⟩⟩:=y;injection e with e;rw[e]at h;cases h;injection e with e;rw[e]at h;have:=cM Addr.block (cE h);simp at this;omega
 have U:=cF.lt_of_heap g;refine cD (ei (n:=(dK s).length) (λk=>[(2,.pointer (some ⟨u,0,none⟩)),(3,.pointer (some ⟨f,0,none⟩)),(7,.slice a (dK s).length c),(8,.int .i64 (dK s).length),(9,.int .i64 k)]) (λk w'=>cN (λx=>x=f) S w'/\w'.heap[f]? =some (.cells (NA ((dK s).take k)).toArray 217)) ⟨⟨rfl,rfl,rfl,rfl,rfl,trivial⟩,cN.refl _ _,A.at_ g⟩ ?_ ?_ ?_);rintro k w' m W;exact cV ⟨rfl,rfl,⟨rfl,rfl,rfl,rfl,rfl,trivial⟩,W⟩
 ·rintro k w' m ⟨p,q⟩;obtain⟨b,o,rfl,X⟩:=i k m;have Q:(dK s)[k]<5:=NB s _ (dt m);have D:¬(b=f):=by have:=C b o rfl;omega
  refine dI k m (cu (p.ef X D) (rC (dK s)[k] 5 Q (iA q (by simp[Value.cells,NA];omega) (λr E F=>cq ⟨⟨rfl,rfl,rfl,rfl,rfl,trivial⟩,p.trans E (λ_ _ h=>h) λ_ _ h=>h,?_⟩) (by simp[Value.cells,Value.oneCell']))));refine F.trans (cM (λa=>some (Obj.cells a 217)) ?_);rw[gP m];generalize (dK s)[k]=d at Q;generalize (dK s).take k=l;have Y:∀j,C9 (l++[d]) j=(C9 l j||decide (j=d)):=λj=>by simp[C9,List.contains_eq_mem,gl,Bool.decide_or]
  obtain rfl|rfl|rfl|rfl|rfl:d=0\/d=1\/d=2\/d=3\/d=4:=by omega
  all_goals simp[NA,Y,fT,Value.cells]
 rintro w' ⟨p,q⟩;have G:=p.fg B T;rw[kX]at q;have H:NA (dK s)=pS s:=by simp[NA,pS,Kr s K]
 rw[H]at q;refine dP (vs:=pS s) (λj v I=>by rw[cB];exact ci q (by simpa using I)) (cZ G λr E t=>?_);have J:r.heap[u]? =some (.cells (pS s).toArray 217):=t.trans (cM (λa=>some (Obj.cells a 217)) (dV (sH 217).toArray (pS s) rfl));have Z:Sem.run V.prog (loadVar 217 ⟨u,0,none⟩) r=.ok (.agg (pS s).toArray) r:=pQ (pS s) J λj v I=>by rw[cB];simpa using I
 have e5:Ext w r:=(((L.trans O).trans A).cy p (by have:=L.size;omega)).cy E z;clear t;refine⟨.agg (pS s).toArray,Z,?_⟩;exact⟨_,rfl,rfl,e5⟩
section
variable{w:cd}{k:ce->cd->Prop}
def jA(w:cd)(a:Option Addr)(c:List ce):Prop:=c=[]\/∃b o,a=some ⟨b,o,none⟩/\∀j u,c[j]? =some u->w.cell? ⟨b,o+j,none⟩=some u
def jA.ext{w w':cd}{a:Option Addr}{c:List ce}(h:jA w a c)(e:Ext w w'):jA w' a c:=by rcases h with h|⟨b,o,d,f⟩;exact .inl h;exact .inr ⟨b,o,d,λj u g=>e.cell (f j u g)⟩
def uM{b e:cg}{zs:List ce}(d:FD b e zs){x y:dj}{a:Option Addr}{l c:Nat}(h:k (.bool a.isNone) w):iO V.prog (do eqGuard .eql b x y (.slice a l c) (.slice none 0 0);binOp .eql b (.slice a l c) (.slice none 0 0)) w k:=by have f:=Go.Lib.run_eql_slice_nil (P:=V.prog) w b e a l c 0 0 d.1;refine⟨_,w,?_,h⟩;go_simp
def Kt{n0:Nat}{e:cg}{zs:List ce}{w:cd}{a:Nat}(c:n0<=a)(d:w.heap[a]? =some (.cells #[] e)):cA n0 e zs w (.slice (some ⟨a,0,none⟩) 0 0) 0 []:=
 ⟨by simp,.inr ⟨a,0,_,c,rfl,d,by simp,cz _,by decide,λj b=>by simp at b,λj _ b=>by simp at b⟩⟩
def uN{p t e:cg}{zs:List ce}{B:Array Bool}(m:FD p e zs){n0 q:Nat}{w:cd}{a:Option Addr}{l c:Nat}{f:List ce}(y:w.heap[q]? =some (.cells #[] e))(C:n0<=q)(r:f.length=l*zs.length)(s:jA w a f)(D:∀u∈f,u.oneCell'=true)(A:l<=1000000) (v:∀n w',cA n0 e zs w' n l f->(∀W,Ext W w->W.heap.size<=n0->Ext W w')->k n w'):wY V.prog (builtin .append #[p,p] t B #[.slice (some ⟨q,0,none⟩) 0 0,.slice a l c]) w k:=by
 have d:=Kt (zs:=zs) C y;have g:0<zs.length:=by obtain⟨_,i,z,_,_,_,_,_,h⟩:=m;exact h
 have E:=cF.lt_of_heap y;rcases s with rfl|⟨b,o,rfl,s⟩;obtain rfl:l=0:=by rcases nS l with h|h;exact h;have:=Nat.mul_pos h g;simp at r;omega
 exact uH m (cz _) (v _ _ d λW h _=>h);rcases nS l with rfl|x;obtain rfl:f=[]:=by simpa using r
 exact uH m (cz _) (v _ _ d λW h _=>h);exact zz m d (by omega) r x (λj u F=>by rw[fL];exact s j u F) D (by omega) λn w' G H _=>v n w' (by simpa using G) λW h I=>h.iS H d I
end
def NC:FD 139 166 (sH 166):=⟨by kernel_rfl,Tryz.t166,_,by kernel_rfl,rfl,by kernel_rfl,by kernel_rfl,by decide+kernel,by decide⟩
def yj(f:cm)(e:cg)(zs:List ce):Prop:=∀(a:Option Addr) (l c:Nat) (b:List ce) (w:cd),b.length=l*zs.length->(a=none->l=0)->jA w a b->(∀u∈b,u.oneCell'=true)->l<=1000000->Calls V.prog f #[.slice a l c] w (fy λv d=>Ext w d/\cA w.heap.size e zs d v l b)
def FH:yj 128 3 [.int .i64 0]:=by
 intro a l c g w e i j k b;refine go V.func128 Tryz.ntmps128 ?_;refine uM oG ⟨λh=>?_,λh=>dJ [] 3 λp q f d m=>uN oG m d e (j.ext f) k b λr s n o=>⟨_,rfl,o w f (cz _),n⟩⟩;obtain rfl:=i (by simpa using h);obtain rfl:g=[]:=by simpa using e
 exact⟨_,rfl,Ext.refl _,cA.nil _ _ _ _⟩
def Tf:FD 26 29 [.int .i64 0,.slice none 0 0]:=⟨by kernel_rfl,Tryz.t29,_,by kernel_rfl,rfl,by kernel_rfl,by kernel_rfl,by decide+kernel,by decide⟩
def ND:FD 222 154 [.int .u8 0]:=⟨by kernel_rfl,Tryz.t154,_,by kernel_rfl,rfl,by kernel_rfl,by kernel_rfl,by decide+kernel,by decide⟩
def NE:yj 154 166 (sH 166):=by
 intro a l c g w e i j k b;refine go V.func154 Tryz.ntmps154 ?_;refine uM NC ⟨λh=>?_,λh=>dJ [] 166 λp q f d m=>uN NC m d e (j.ext f) k b λr s n o=>⟨_,rfl,o w f (cz _),n⟩⟩;obtain rfl:=i (by simpa using h);obtain rfl:g=[]:=by simpa using e
 exact⟨_,rfl,Ext.refl _,cA.nil _ _ _ _⟩
def NF:yj 155 29 [.int .i64 0,.slice none 0 0]:=by
 intro a l c g w e i j k b;refine go V.func155 Tryz.ntmps155 ?_;refine uM Tf ⟨λh=>?_,λh=>dJ [] 29 λp q f d m=>uN Tf m d e (j.ext f) k b λr s n o=>⟨_,rfl,o w f (cz _),n⟩⟩;obtain rfl:=i (by simpa using h);obtain rfl:g=[]:=by simpa using e
 exact⟨_,rfl,Ext.refl _,cA.nil _ _ _ _⟩
def NG:yj 199 154 [.int .u8 0]:=by
 intro a l c g w e i j k b;refine go V.func199 Tryz.ntmps199 ?_;refine uM ND ⟨λh=>?_,λh=>dJ [] 154 λp q f d m=>uN ND m d e (j.ext f) k b λr s n o=>⟨_,rfl,o w f (cz _),n⟩⟩;obtain rfl:=i (by simpa using h);obtain rfl:g=[]:=by simpa using e
 exact⟨_,rfl,Ext.refl _,cA.nil _ _ _ _⟩
def eO.cells{w:cd}{a:Option Addr}{l:List Nat}(h:eO w a l):jA w a (fi l):=by
 rcases l with _|⟨x,r⟩;exact .inl rfl;obtain⟨b,o,rfl,_⟩:=h 0 (by simp);refine .inr ⟨b,o,rfl,λj u d=>?_⟩;have c:j<(x::r).length:=by simpa[fi]using(gy.1 d).1
 obtain⟨f,g,e,i⟩:=h j c;obtain⟨rfl,rfl⟩:b=f/\o=g:=by injection e with e;injection e with k m;exact⟨k,m⟩
 rw[i];have:(fi (x::r))[j]? =some (.int .i64 ((x::r)[j]:Nat)):=by simp only[fi,mR,ew c];rfl
 rw[this]at d;exact d
def eO.rI{w:cd}{l:List Nat}(h:eO w none l):l.length=0:=by rcases l with _|⟨x,r⟩;rfl;obtain⟨b,o,e,_⟩:=h 0 (by simp);cases e
def uO(l:List Nat):∀u∈fi l,u.oneCell'=true:=λu a=>by obtain⟨n,_,rfl⟩:=jj.1 a;rfl
def lx{l:List Nat}{a:Option Addr}{c:Nat}{w:cd}(h:eO w a l)(b:l.length<=1000000):Calls V.prog 128 #[.slice a l.length c] w (fy λv w'=>Ext w w'/\dE w.heap.size w' v l):=
 FH a l.length c (fi l) w (by simp[fi]) (λe=>by subst e;exact h.rI) h.cells (uO l) b
def tJ(w:cd)(a:Option Addr)(c:List (List Nat)):Prop:=∀k (h:k<c.length),∃b o d e,a=some ⟨b,o,none⟩/\w.cell? ⟨b,o+k,none⟩=some (.slice d c[k].length e)/\eO w d c[k]/\c[k].length<=e
theorem tJ.ext{w w':cd}{a:Option Addr}{c:List (List Nat)}(h:tJ w a c)(e:Ext w w'):tJ w' a c:=λk d=>by obtain⟨b,o,f,g,i,j,l,m⟩:=h k d;exact⟨b,o,f,g,i,e.cell j,l.ext e,m⟩
def eW(n0:Nat)(w:cd)(v:ce)(a:List (List Nat)):Prop:=∃b:List ce,cA n0 27 [.slice none 0 0] w v a.length b/\b.length=a.length/\∀k (h:k<a.length),∃u,b[k]? =some u/\dE n0 w u a[k]
theorem eW.ext{n0:Nat}{w w':cd}{v:ce}{a:List (List Nat)}(h:eW n0 w v a)(e:Ext w w'):eW n0 w' v a:=by obtain⟨b,c,d,f⟩:=h;refine⟨b,c.ext e,d,λk g=>?_⟩;obtain⟨u,i,j⟩:=f k g;exact⟨u,i,j.ext e⟩
theorem eW.row{n0:Nat}{w:cd}{v:ce}{d:List (List Nat)}(h:eW n0 w v d):∃a c,v=.slice a d.length c/\tJ w a d/\d.length<=c:=by obtain⟨s,⟨t,⟨g,rfl⟩|⟨b,c,x,y,rfl,i,z,j,A,l,B⟩⟩,C,e⟩:=h;exact⟨none,0,by rw[g],λk f=>by omega,by omega⟩;refine⟨_,c,rfl,λk f=>?_,j⟩;obtain⟨u,m,n⟩:=e k f;obtain⟨o,p,rfl,q,r⟩:=n.row;exact⟨b,0,o,p,rfl,ci i (by rw[cB,l k (by omega)];exact m),q,r⟩
def gd{n0 k t i:Nat}{zs d m f:List ce}{w:cd}{v j:ce}{l l':Nat}(h:cA n0 t zs w v l m)(n:cA k i d w j l' f)(o:t≠i)(b:Nat)(p:cw v b):¬cw j b:=λg=>by obtain⟨_,_,rfl⟩:=p;obtain⟨_,_,rfl⟩:=g;obtain⟨_,⟨_,e⟩|⟨s,_,u,_,e,q,_⟩⟩:=h;cases e;obtain⟨_,⟨_,c⟩|⟨x,_,r,_,c,a,_⟩⟩:=n;cases c;injection e with e;injection c with c;have e:=cM Addr.block (cE e);have c:=cM Addr.block (cE c);simp only at e c;subst e;subst c;rw[q]at a;injection a with a;injection a with _ a;exact o a
def Qn{w:cd}{k:ce->cd->Prop}{t:cg}{s:Array Bool}{n0:Nat}{v:ce}{d:List (List Nat)}(h:eW n0 w v d)(n:n0<=w.heap.size){b c:Nat}{u:ce}{l:List Nat}(o:dE n0 w u l)(y:w.heap[b]? =some (.cells [u].toArray 27))(e:d.length+1<=1000000) (z:∀j w',eW n0 w' j (d++[l])->(∀W,Ext W w->W.heap.size<=n0->Ext W w')->k j w'):wY V.prog (builtin .append #[66,66] t s #[v,.slice (some ⟨b,0,none⟩) 1 c]) w k:=by
 obtain⟨A,m,q,B⟩:=h;have f:u.oneCell'=true:=by obtain⟨a,c,rfl,_⟩:=o.row;rfl
 refine fP Nt m n y e (λj w' C p I=>z j w' ⟨A++[u],by simpa using C,by simp[q],λi D=>?_⟩ λW E F=>E.iS p m F) rfl (by simp[qC,f]);rcases eA i d.length with g|G;obtain⟨x,H,r⟩:=B i g;refine⟨x,by rw[kz (by omega)];exact H,?_⟩;rw[lI g];exact r.keep p (gd r m (by decide));obtain rfl:i=d.length:=by simp at D;omega
 refine⟨u,by rw[mQ (by omega)];simp[q],?_⟩;simp only[qI (cz _),lf,mS];exact o.keep p (gd o m (by decide))
def dE.low{n0 a:Nat}{w:cd}{v:ce}{l:List Nat}(h:dE n0 w v l)(g:a<=n0):dE a w v l:=by obtain⟨d,h|⟨b,c,e,i,f⟩⟩:=h;exact⟨d,.inl h⟩;exact⟨d,.inr ⟨b,c,e,by omega,f⟩⟩
def HJ(a:List (List Nat))(la:Option Addr)(lc:Nat)(w:cd)(j:tJ w la a)(i:a.length<=100000)(m:∀l∈a,l.length<=100000):Calls V.prog 131 #[.slice la a.length lc] w (fy λv w'=>Ext w w'/\eW w.heap.size w' v a):=by refine go V.func131 Tryz.ntmps131 ?_;refine cD (gC (n:=a.length) (λk v=>[(3,v),(6,.slice la a.length lc),(7,.int .i64 a.length),(8,.int .i64 k)]) (λk v w'=>Ext w w'/\eW w.heap.size w' v (a.take k)) (.slice none 0 0) ⟨⟨rfl,rfl,rfl,rfl,trivial⟩,Ext.refl _,[],cA.nil _ _ _ _,rfl,λk c=>by simp at c⟩ ?_ ?_ ?_);rintro k v w' c ⟨e,d⟩;exact cV ⟨rfl,rfl,⟨rfl,rfl,rfl,rfl,trivial⟩,e,d⟩;rintro k v w' c ⟨e,d⟩;obtain⟨b,o,z,A,rfl,p,q,_⟩:=(j.ext e) k c;refine dI k c (cu p (ck (lx q (by have:=m _ (dt c);omega)) λu B f=>?_));obtain⟨h,f⟩:=f;refine dJ [u] 27 (λC D g r s=>Qn ((d.ext h).ext g) (by have:=e.size;have:=h.size;have:=g.size;omega) ((f.low e.size).ext g) s (by simp;omega) λt E x y=>cq ⟨t,⟨rfl,rfl,rfl,rfl,trivial⟩,y w ((e.trans h).trans g) (cz _),?_⟩) ?_;rw[gP c];exact x;obtain⟨F,G,rfl,_⟩:=f.row;intro w;kernel_rfl;rintro v w' ⟨e,d⟩;rw[kX]at d;exact⟨_,rfl,e,d⟩
def dZ{m:Type}{N b:Nat}(n:Nat){f:Code}{l:L}{w:cd}{Q:QW}(c:Nat->m->L)(J:Nat->m->cd->Prop)(o:m)(r:Sub (c 0 o) l/\J 0 o w)
 (g:∀k s w,k<=n->J k s w->WC V.prog Hy N f (λe l' w'=>match e with
  | .normal=>k<n/\∃s',Sub (c (k+1) s') l'/\J (k+1) s' w'
  |e=>kJ b Q e l' w') (c k s) w):kq V.prog N (Code.block b (Code.loop f)) l w Q:=by
 refine⟨λa p=>?_⟩;refine wp_block ?_;refine pJ (λj a w=>∃k s,k<=n/\j=n-k/\Fr N (c k s) a/\J k s w) n ⟨0,o,fN _,by omega,p.sub r.1,r.2⟩ ?_;rintro j a w ⟨k,s,t,rfl,p,u⟩;refine lV (hZ jG _ _ _ a w p (g k s w t u)) ?_;rintro e A B ⟨q,d,i⟩;cases e with
 |normal=>
  obtain⟨v,s',x,y⟩:=i;exact⟨n-(k+1),by omega,k+1,s',by omega,rfl,d.sub x,y⟩
 |exit j=>
  simp only[Exit.then,Exit.inBlock];by_cases h:j=b;subst h;rw[cx rfl];simp only[kJ,yA]at i;exact⟨q,d,i⟩;rw[cr h];have:Nat.beq j b=false:=by
   cases z:Nat.beq j b with
   |false=>rfl
   |true=>exact absurd (gE z) h
  simp only[kJ,this]at i;exact⟨q,d,i⟩
 |_=>exact⟨q,d,i⟩
def HK(l l':List Int)(la d:Option Addr)(lc g:Nat)(w:cd)(r:ja w la l)(j:ja w d l')(n:l.length<=100000):
 Calls V.prog 58 #[.slice la l.length lc,.slice d l'.length g] w (fy λv w'=>v=.bool (decide (l=l'))/\Ext w w'):=by
 refine go V.func58 Tryz.ntmps58 ?_;refine cD (cD (eG ⟨λh=>?_,λh=>?_⟩));have h:¬l=l':=λe=>by subst e;simp at h
 exact⟨_,rfl,by simp[h],Ext.refl _⟩;have h:l.length=l'.length:=by simp at h;omega
 refine dZ l.length (λk (_:Unit)=>[(0,.slice la l.length lc),(1,.slice d l'.length g),(5,.int .i64 k)]) (λk _ w'=>Ext w w'/\l.take k=l'.take k) () ⟨⟨rfl,rfl,rfl,trivial⟩,Ext.refl _,by simp⟩ ?_;rintro k _ w' y ⟨e,p⟩;refine cD (cV ⟨λa=>?_,λi=>?_⟩);have a:k<l.length:=by simpa using a
 have c:k<l'.length:=by omega
 obtain⟨b,o,rfl,s⟩:=r k a;obtain⟨z,A,rfl,m⟩:=j k c;refine cQ cO (me k a (cG (e.cell s) (me k c (cG (e.cell m) (RJ λB q=>⟨λf=>?_,λf=>?_⟩)))));have f:¬l[k]=l'[k]:=cY f;have:¬l=l':=λe=>by subst e;exact f rfl
 exact⟨_,rfl,by simp[this],e.trans q⟩;have f:l[k]=l'[k]:=by simpa using f
 refine cq ⟨a,(),⟨rfl,rfl,rfl,trivial⟩,e.trans q,?_⟩;rw[gP a,gP c,p,f];have i:¬k<l.length:=by simpa using i
 have t:k=l.length:=by omega
 have:l=l':=by have u:l.take k=l:=qL (by omega);have x:l'.take k=l':=qL (by omega);rw[<-u,<-x,p]
 exact⟨_,rfl,by simp[this],e⟩
def Qo{l l':List Nat}:lU l=lU l'↔l=l':=by
 constructor;intro h;induction l generalizing l' with
 |nil=>cases l' with
  |nil=>rfl
  |cons x r=>simp[lU]at h
 |cons x r a=>cases l' with
  |nil=>simp[lU]at h
  |cons y s=>
   simp only[lU,jP,qm]at h;rw[a h.2,show x=y by omega]
 rintro rfl;rfl
def nC(l l':List Nat)(la a:Option Addr)(lc b:Nat)(w:cd)(e:eO w la l)(d:eO w a l')(c:l.length<=100000):
 Calls V.prog 58 #[.slice la l.length lc,.slice a l'.length b] w (fy λv w'=>v=.bool (decide (l=l'))/\Ext w w'):=by
 have:=HK (lU l) (lU l') la a lc b w e.ints d.ints (by simpa[lU]using c);have f:(lU l).length=l.length:=by simp[lU]
 have g:(lU l').length=l'.length:=by simp[lU]
 rw[f,g]at this;simpa only[Qo]using this
def xg(l l':List (List Nat))(la g:Option Addr)(lc i:Nat)(w:cd)(y:tJ w la l)(n:tJ w g l')(s:l.length<=100000)(p:∀x∈l,x.length<=100000):
 Calls V.prog 71 #[.slice la l.length lc,.slice g l'.length i] w (fy λv w'=>v=.bool (decide (l=l'))/\Ext w w'):=by
 refine go V.func71 Tryz.ntmps71 ?_;refine cD (cD (eG ⟨λh=>?_,λh=>?_⟩));have h:¬l=l':=λe=>by subst e;simp at h
 exact⟨_,rfl,by simp[h],Ext.refl _⟩;have h:l.length=l'.length:=by simp at h;omega
 refine dZ l.length (λk (_:Unit)=>[(0,.slice la l.length lc),(1,.slice g l'.length i),(5,.int .i64 k)]) (λk _ w'=>Ext w w'/\l.take k=l'.take k) () ⟨⟨rfl,rfl,rfl,trivial⟩,Ext.refl _,by simp⟩ ?_;rintro k _ w' E ⟨e,t⟩;refine cD (cV ⟨λa=>?_,λj=>?_⟩);have a:k<l.length:=by simpa using a
 have d:k<l'.length:=by omega
 obtain⟨b,o,x,c,rfl,z,f,_⟩:=(y.ext e) k a;obtain⟨F,G,A,B,rfl,q,r,_⟩:=(n.ext e) k d;refine cQ cO (me k a (cG z (me k d (cG q (je (.bool (decide (l[k]=l'[k]))) (λu m=>nC l[k] l'[k] x A c B u (f.ext m) (r.ext m) (p _ (dt a))) (rE λu m=>⟨λf=>?_,λf=>?_⟩))))));have f:¬l[k]=l'[k]:=by simpa using f
 have:¬l=l':=λe=>by subst e;exact f rfl
 exact⟨_,rfl,by simp[this],e.trans m⟩;have f:l[k]=l'[k]:=by simpa using f
 refine cq ⟨a,(),⟨rfl,rfl,rfl,trivial⟩,e.trans m,?_⟩;rw[gP a,gP d,t,f];have j:¬k<l.length:=by simpa using j
 have:l=l':=by have C:l.take k=l:=qL (by omega);have D:l'.take k=l':=qL (by omega);rw[<-C,<-D,t]
 exact⟨_,rfl,by simp[this],e⟩
structure xO(w:cd)(gp mk ms:Nat)(G:Gd)(w':cd):Prop where
 g:oR gp mk ms G w'
 lo:w.heap.size<=gp/\w.heap.size<=mk/\w.heap.size<=ms
 km:w'.heap[mk]? =some (.map #[] 0)
 sm:w'.heap[ms]? =some (.map #[] 0)
theorem xO.ext{w w1 a:cd}{gp mk ms:Nat}{G:Gd}(h:xO w gp mk ms G w1)(e:Ext w1 a):xO w gp mk ms G a:=⟨h.g.ext e,h.lo,e.at_ h.km,e.at_ h.sm⟩
def xO.low{w0 w w1:cd}{gp mk ms:Nat}{G:Gd}(h:xO w gp mk ms G w1)(e:Ext w0 w):xO w0 gp mk ms G w1:=⟨h.g,by have:=e.size;have:=h.lo;omega,h.km,h.sm⟩
def vZ{G:Gd}{c:Option Addr}{dc:Nat}{w:cd}(g:gD w c G.doors)(a:G.doors.length<=100000)(h: -1000000<=G.streets/\G.streets<=1000000):
 Calls V.prog 144 #[gV G c dc] w (fy λv w'=>Ext w w'/\((eg G≠0/\v=.tuple #[.pointer none,.int .i64 (eg G)])\/(eg G=0/\∃b mk d,v=.tuple #[.pointer (some ⟨b,0,none⟩),.int .i64 0]/\xO w b mk d G w'))):=by
 refine(Kp G c dc w g a h).mono ?_;rintro e w' ⟨v,rfl,i,j⟩;refine⟨v,rfl,i,j.imp id ?_⟩;rintro⟨k,b,mk,d,l,m,n,o,p,q,f⟩;exact⟨k,b,mk,d,l,m,⟨n,o,p⟩,q,f⟩
def di{G:Gd}{a:Option Addr}{dc b:Nat}{w:cd}(c:w.heap[b]? =some (.cells (gL G a dc).toArray 24)){k:ce->cd->Prop}(h:k (gV G a dc) w):iO V.prog (Instr.loadAt 24 (.pointer (some ⟨b,0,none⟩))) w k:=
 dP (vs:=gL G a dc) (λj v d=>by rw[cB];exact ci c (by simpa using d)) h
def pT{G:Gd}{h:Option Addr}{dc:Nat}{w:cd}(j:gD w h G.doors)(a:G.doors.length<=100000)(k: -1000000<=G.streets/\G.streets<=1000000){l:List Int}{la:Option Addr}{lc:Nat}(m:ja w la l)(n:l.length<=100000)(o:l.length<=lc):
 Calls V.prog 113 #[gV G h dc,.slice la l.length lc] w (fy λv w'=>Ext w w'/\((eg G≠0/\v=.tuple #[.pointer none,.int .i64 (eg G)])\/(eg G=0/\∃c mk e,v=.tuple #[.pointer (some ⟨c,0,none⟩),.int .i64 (gx G.doors.length l)]/\xO w c mk e G w'))):=by
 refine go V.func113 Tryz.ntmps113 ?_;refine fo λr s b p q=>di q (ck (vZ (dc:=dc) (j.ext b) a k) ?_);rintro v t ⟨f,⟨d,rfl⟩|⟨d,c,mk,e,rfl,i⟩⟩;exact eG (iR (by simpa using d) ⟨_,rfl,b.trans f,.inl ⟨d,rfl⟩⟩);exact eG (iG (by simp) (cS (BL i.g (m.ext (b.trans f)) n o) ⟨_,rfl,b.trans f,.inr ⟨d,c,mk,e,rfl,i.low b⟩⟩))
end Go.Proofs.W
