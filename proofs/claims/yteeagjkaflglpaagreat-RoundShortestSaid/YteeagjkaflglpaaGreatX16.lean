/- Laws that the proof needs, part 16. Conditions: none. -/
import Derived.Test.YteeagjkaflglpaaGreatX15
set_option maxRecDepth 100000
set_option maxHeartbeats 8000000
set_option linter.all false
namespace Go.Proofs.W
open Go.RowKit
def lz(G:Gd)(i k a b:Nat):Int:=if a<i\/(a=i/\b<k)then iW G a b else 0
theorem yU(G:Gd){a b:Nat}(h:(cP G).length<=a\/(cP G).length<=b):iW G a b=0:=by
 unfold iW;rcases h with h|h
 ·rw[List.getElem?_eq_none h]
 ·rw[List.getElem?_eq_none h];split<;>simp_all
theorem Iu(G:Gd){a b:Nat}(c:a<(cP G).length)(d:b<(cP G).length):iW G a b=qi G.corner (cP G)[a] (cP G)[b]:=by unfold iW;rw[List.getElem?_eq_getElem c,List.getElem?_eq_getElem d]
theorem F3(G:Gd)(a:Option Addr)(dc mk ms:Nat)(b c:Value)(i k:Nat)(l:i<6)(m:k<6)(n:Int)(g:n=iW G i k)(j:Nat)(o:j<47):
 (if 7+i*6+k<=j/\j<7+i*6+k+1 then([Value.int .i64 n]:List Value).getD (j-(7+i*6+k)) undef else yT G a dc mk ms b c (lz G i k) j)=yT G a dc mk ms b c (lz G i (k+1)) j:=by
 split
 ·rename_i h;obtain rfl:j=7+i*6+k:=by omega
  simp only[Nat.sub_self,List.getD_cons_zero,yT];rw[if_neg (by omega),if_pos (by omega)];have d:(7+i*6+k-7)/6=i:=by omega
  have f:(7+i*6+k-7)%6=k:=by omega
  rw[d,f];simp[lz,g]
 ·rename_i h;simp only[yT];split
  ·rfl
  ·split
   ·rename_i d f;have:¬((j-7)/6=i/\(j-7)%6=k):=by omega
    congr 1;simp only[lz];have e:((j-7)/6<i\/(j-7)/6=i/\(j-7)%6<k)↔((j-7)/6<i\/(j-7)/6=i/\(j-7)%6<k+1):=by omega
    simp only[e]
   ·rfl
theorem Iv{n0:Nat}{w:World}{v:Value}{n:Nat}{ds:List Dr}(h:cC n0 81 [.int .i64 0,.int .i64 0,.int .i64 0] w v n (ds.flatMap dL))(m:n=ds.length):∃a c,v=.slice a n c/\fZ w a ds/\∀b o,a=some ⟨b,o,none⟩->n0<=b:=by
 subst m;have i:∀(ds:List Dr) (k:Nat) (f:k<ds.length),(ds.flatMap dL)[k*3]? =some (.int .i64 ds[k].st)/\(ds.flatMap dL)[k*3+1]? =some (.int .i64 ds[k].at_)/\(ds.flatMap dL)[k*3+2]? =some (.int .i64 ds[k].talk):=by
  intro ds;induction ds with
  |nil=>intro k f;simp at f
  |cons d r p=>
   intro k f;cases k with
   |zero=>simp[dL]
   |succ k=>
    have:=p k (by simpa using f);have e:(k+1)*3=k*3+3:=by omega
    simpa[dL,e]using this
 obtain⟨q,⟨s,rfl⟩|⟨b,c,y,z,rfl,g,A,B,C,j,D⟩⟩:=h
 ·exact⟨none,0,by rw[s],λk f=>by omega,λ_ _ h=>by cases h⟩
 ·refine⟨_,c,rfl,λk f=>⟨b,0,rfl,?_⟩,λ_ _ h=>by injection h with h;injection h with E g;omega⟩;have l:(ds.flatMap dL).length=ds.length*3:=by simpa using q
  obtain⟨t,u,x⟩:=i ds k f;refine⟨cd g ?_,cd g ?_,cd g ?_⟩
  ·rw[Nat.zero_add,j _ (by omega)];exact t
  ·rw[Nat.zero_add,j _ (by omega)];exact u
  ·rw[Nat.zero_add,j _ (by omega)];exact x
theorem pu:∀(ds:List Dr) (k:Nat) (a:k<ds.length),(ds.flatMap dL)[k*3]? =some (.int .i64 ds[k].st)/\(ds.flatMap dL)[k*3+1]? =some (.int .i64 ds[k].at_)/\(ds.flatMap dL)[k*3+2]? =some (.int .i64 ds[k].talk)
 |d::r,0,_=>by simp[dL]
 |d::r,k+1,a=>by
  have:=pu r k (by simpa using a);have e:(k+1)*3=k*3+3:=by omega
  simpa[dL,e]using this
theorem ti:∀ds:List Dr,(ds.flatMap dL).length=ds.length*3
 |[]=>rfl
 |d::r=>by have:=ti r;simp[dL,this];omega
theorem A2{w:World}{b o:Nat}{ds:List Dr}(h:fZ w (some ⟨b,o,none⟩) ds)(j:Nat)(u:Value)(a:(ds.flatMap dL)[j]? =some u):w.cell? ⟨b,o+j,none⟩=some u:=by
 have s:j<ds.length*3:=by rw[<-ti];exact(List.getElem?_eq_some_iff.1 a).1
 have d:j/3<ds.length:=by omega
 obtain⟨f,g,e,i,k,l⟩:=h (j/3) d;obtain⟨rfl,rfl⟩:b=f/\o=g:=by injection e with e;injection e with m n;exact⟨m,n⟩
 obtain⟨p,q,r⟩:=pu ds (j/3) d;have c:j%3=0\/j%3=1\/j%3=2:=by omega
 rcases c with c|c|c
 ·have e:j=j/3*3:=by omega
  rw[e]at a⊢;rw[p]at a;cases a;exact i
 ·have e:j=j/3*3+1:=by omega
  rw[e]at a⊢;rw[q]at a;cases a;exact k
 ·have e:j=j/3*3+2:=by omega
  rw[e]at a⊢;rw[r]at a;cases a;exact l
theorem Iw{w:World}{k:Value->World->Prop}{t:TypeId}{s:Array Bool}{n0 e:Nat}{v:Value}{f ds:List Dr}{n:Option Addr}{dc:Nat}(h:cC n0 81 [.int .i64 0,.int .i64 0,.int .i64 0] w v e (f.flatMap dL))(m:n0<=w.heap.size)(p:fZ w n ds)(g:e+ds.length<=1000000) (q:∀i w',cC n0 81 [.int .i64 0,.int .i64 0,.int .i64 0] w' i (e+ds.length) ((f++ds).flatMap dL)->cr (ce v) w w'->k i w'):un V.prog (builtin .append #[22,22] t s #[v,.slice n ds.length dc]) w k:=by
 rcases ds with _|⟨d,r⟩
 ·have x:∃a c,v=.slice a e c/\e<=c:=by
   obtain⟨_,⟨rfl,rfl⟩|⟨b,c,D,_,rfl,_,_,y,_⟩⟩:=h
   ·exact⟨_,_,rfl,Nat.le_refl _⟩
   ·exact⟨_,_,rfl,y⟩
  obtain⟨a,c,rfl,z⟩:=x;exact rM Lk z (q _ _ (by simpa using h) (cr.refl _ w))
 ·obtain⟨b,o,rfl,_⟩:=p 0 (by simp);refine wA Lk h m (news:=(d::r).flatMap dL) (ti _) (by simp) (λj u A=>by rw[eN];exact A2 p j u A) (λu l=>?_) g λi w' B C _=>q i w' (by simpa using B) C;obtain⟨E,_,l⟩:=List.mem_flatMap.1 l;simp[dL]at l;rcases l with rfl|rfl|rfl<;>rfl
theorem fZ.keep{w w':World}{F:Nat->Prop}{a:Option Addr}{ds:List Dr}(h:fZ w a ds)(k:cr F w w')(c:∀b o,a=some ⟨b,o,none⟩->¬F b):fZ w' a ds:=λi d=>by obtain⟨b,o,rfl,e,f,g⟩:=h i d;have:=c b o rfl;exact⟨b,o,rfl,k.dn e this,k.dn f this,k.dn g this⟩
theorem jO.keep{a:Nat}{C:Nat->Value}{w w':World}{F:Nat->Prop}(h:jO a C w)(k:cr F w w')(b:¬F a):jO a C w':=by obtain⟨c,d,e,f⟩:=h.out;exact⟨c,k.ef d b,e,f⟩
theorem yV{G:Gd}(h:G.Ok)(d:Dr)(a:d∈cP G):(0<=d.st/\d.st<=2)/\(0<=d.at_/\d.at_<=20):=by
 rcases List.mem_cons.1 a with rfl|a
 ·simp
 ·exact⟨(h.door d a).1,(h.door d a).2.1⟩
theorem F4{w w':World}{b o l c:Nat}(h:cr (ce (.slice (some ⟨b,o,none⟩) l c)) w w'):cr (λx=>x=b) w w':=
 ⟨h.os,h.tape,h.output,h.size,h.drawn,λx a d=>h.block x a λ⟨f,g,e⟩=>d (by injection e with e;exact(congrArg Addr.block (Option.some.inj e)).symm)⟩
def NX(G:Gd)(a:Option Addr)(dc mk ms:Nat):List Value:=gL G a dc++(List.replicate 36 (Value.int .i64 0)++[Value.map (some mk),Value.map (some ms),Value.nilFunc,Value.nilFunc])
theorem Di(G:Gd)(g:Option Addr)(dc:Nat)(w:World)(hd:fZ w g G.doors)(T:G.doors.length<=100000)(hs: -1000000<=G.streets/\G.streets<=1000000):
 Calls V.prog 144 #[gV G g dc] w (eG λv w'=>Ext w w'/\((ed G≠0/\v=.tuple #[.pointer none,.int .i64 (ed G)])\/(ed G=0/\∃c mk l,v=.tuple #[.pointer (some ⟨c,0,none⟩),.int .i64 0]/\kS c mk l G w'/\
  w.heap.size<=c/\w.heap.size<=mk/\w.heap.size<=l/\w'.heap[mk]? =some (.map #[] 0)/\w'.heap[l]? =some (.map #[] 0)))):=by
 refine go V.func144 Tryz.ntmps144 ?_;refine eO λU C D aH hb=>?_;refine dp (vs:=gL G g dc) (λj v d=>by rw[Nat.zero_add];exact cd hb (by simpa[gV,Value.cells]using d)) ?_;refine dU (Dh G g dc U (hd.ext D) T hs) λw2 E=>?_;refine eP ⟨λh=>⟨_,rfl,D.trans E,.inl ⟨by simpa using h,rfl⟩⟩,λh=>?_⟩;have M:ed G=0:=by simpa using h
 have ok:=kq M;have s:=E.at_ hb;refine dp (vs:=gL G g dc) (λj v d=>by rw[Nat.zero_add];exact cd s (by simpa[gV,Value.cells]using d)) ?_;refine J7 λw3 mk K aI hm=>J7 λw4 l F aJ W=>?_;refine c8 (.agg (NX G g dc mk l).toArray) ?_;refine eO λw5 c e5 ak hg=>?_;have E5:Ext w w5:=(((D.trans E).trans K).trans F).trans e5;refine c8 (.agg #[.int .i64 0,.int .i64 0,.int .i64 0]) ?_;refine dB (dL ⟨0,0,0⟩) 81 λw6 pb e6 al hp=>?_;have am:fZ w6 g G.doors:=hd.ext (E5.trans e6);refine cg (cd ((K.trans (F.trans (e5.trans e6))).at_ s) rfl) ?_;have an:jO c (yT G g dc mk l .nilFunc .nilFunc (lz G 0 0)) w5:=by
  refine⟨_,hg,by simp[Value.cells,NX,gL],λj d=>?_⟩;show(NX G g dc mk l).toArray[j]? =_;have h0:∀a b,lz G 0 0 a b=0:=λa b=>by simp[lz]
  rw[List.getElem?_toArray];unfold NX yT;split
  ·rename_i h7;rw[List.getElem?_append_left (by simpa[gL]using h7),List.getD_eq_getElem?_getD,List.getElem?_eq_getElem (by simpa[gL]using h7)];rfl
  ·rename_i h7;rw[List.getElem?_append_right (by simp[gL];omega)];have hl:(gL G g dc).length=7:=rfl;rw[hl];split
   ·rename_i ao;rw[List.getElem?_append_left (by simp;omega),List.getElem?_replicate,if_pos (by omega),h0]
   ·rename_i ao;rw[List.getElem?_append_right (by simp;omega),List.length_replicate];obtain rfl|rfl|rfl|rfl:j=43\/j=44\/j=45\/j=46:=by omega
    all_goals rfl
 have ap:cC pb 81 [.int .i64 0,.int .i64 0,.int .i64 0] w6 (.slice (some ⟨pb,0,none⟩) 1 1) 1 (([⟨0,0,0⟩]:List Dr).flatMap dL):=
  ⟨rfl,.inr ⟨pb,1,_,Nat.le_refl _,rfl,hp,rfl,Nat.le_refl _,by decide,λj d=>by simp[List.flatMap],λj h1 h2=>by simp[dL]at h1 h2;omega⟩⟩
 have aG:=ck.lt_of_heap hp;refine Iw ap (by omega) am (by omega) λv w7 aq k7=>?_;have e7:Ext w5 w7:=e6.cj (F4 k7) al;have X:(cP G).length=1+G.doors.length:=by simp[cP];omega
 obtain⟨pa,Y,rfl,ar,au⟩:=Iv (ds:=cP G) aq X.symm;rw[<-X];have av:=an.ext e7;have aw:=(K.trans (F.trans (e5.trans e7))).at_ s;have h6:(cP G).length<=6:=by have:=ok.many;omega
 have lb:C<w2.heap.size:=ck.lt_of_heap s;have lm:mk<w3.heap.size:=ck.lt_of_heap hm;have ls:l<w4.heap.size:=ck.lt_of_heap W;have lg:c<w5.heap.size:=ck.lt_of_heap hg;have s3:=K.size;have s4:=F.size;have t:c≠mk/\c≠l/\C≠c/\mk≠l:=by omega
 refine cA (dg (n:=(cP G).length) (λk=>[(1,.pointer (some ⟨C,0,none⟩)),(5,.pointer (some ⟨c,0,none⟩)),(6,.slice pa (cP G).length Y),(26,.slice pa (cP G).length Y),(27,.int .i64 (cP G).length),(28,.int .i64 k)])
  (λi w'=>cr (λx=>x=c) w7 w'/\jO c (yT G g dc mk l .nilFunc .nilFunc (lz G i 0)) w') ⟨⟨rfl,rfl,rfl,rfl,rfl,rfl,trivial⟩,cr.refl _ _,av⟩ ?_ ?_ ?_)
 ·rintro k w' Q ⟨k',R⟩;exact cY ⟨rfl,rfl,⟨rfl,rfl,rfl,rfl,rfl,rfl,trivial⟩,k',R⟩
 ·rintro i w' R ⟨S,N⟩;have Z:∀b o,pa=some ⟨b,o,none⟩->¬(b=c):=λb o h=>by have:=au b o h;omega
  have aa:fZ w' pa (cP G):=ar.keep S Z;obtain⟨b,o,O,h1,h2,h3⟩:=aa i R;subst O;have aK:=yV ok _ (List.getElem_mem R)
  refine fh i 3 R (dp (vs:=dL (cP G)[i]) (λj u d=>by
   match j,d with
   |0,d=>cases d;exact h1
   |1,d=>cases d;exact h2
   |2,d=>cases d;exact h3) (dS λw8 ab e8 ax ay=>cK ay λw9 k9 ac=>?_))
  have kw:=S.size;have s7:=e7.size;have ad:i<6:=by omega
  have az:=(N.ext e8).keep k9 (show¬(c=ab) by omega);have aL:=ck.lt_of_heap ac;have e9:Ext w' w9:=e8.cj k9 ax
  refine cA (dg (n:=(cP G).length) (λk=>[(1,.pointer (some ⟨C,0,none⟩)),(5,.pointer (some ⟨c,0,none⟩)),(6,.slice (some ⟨b,o,none⟩) (cP G).length Y),(7,.int .i64 i),(8,.pointer (some ⟨ab,0,none⟩)),(26,.slice (some ⟨b,o,none⟩) (cP G).length Y),(27,.int .i64 (cP G).length),(28,.int .i64 i),
   (33,.slice (some ⟨b,o,none⟩) (cP G).length Y),(34,.int .i64 (cP G).length),(35,.int .i64 k)]) (λk P=>cr (λx=>x=c) w9 P/\jO c (yT G g dc mk l .nilFunc .nilFunc (lz G i k)) P) ⟨⟨rfl,rfl,rfl,rfl,rfl,rfl,rfl,rfl,rfl,rfl,rfl,trivial⟩,cr.refl _ _,az⟩ ?_ ?_ ?_)
  ·rintro k P Q ⟨H,z⟩;exact cY ⟨rfl,rfl,⟨rfl,rfl,rfl,rfl,rfl,rfl,rfl,rfl,rfl,rfl,rfl,trivial⟩,H,z⟩
  ·rintro k P Q ⟨H,z⟩;have aM:=yV ok _ (List.getElem_mem Q);have ae:k<6:=by omega
   have aA:fZ P (some ⟨b,o,none⟩) (cP G):=(aa.ext e9).keep H Z;obtain⟨b2,o2,O,g1,g2,g3⟩:=aA k Q;obtain⟨rfl,rfl⟩:b=b2/\o=o2:=by injection O with e;injection e with D E;exact⟨D,E⟩
   refine fh k 3 Q (dp (vs:=dL (cP G)[k]) (λj u d=>by
    match j,d with
    |0,d=>cases d;exact g1
    |1,d=>cases d;exact g2
    |2,d=>cases d;exact g3) (dS λaN bb aB aC af=>cK af λI aD q=>?_))
   have J:Ext P I:=aB.cj aD aC;have sk:=H.size;have r:I.heap[ab]? =some (.cells (er (qg 81).toArray 0 (dL (cP G)[i])) 81):=J.at_ (H.ef ac (show¬(ab=c) by omega));have L:=z.ext J;have ag:I.cell? ⟨C,1,none⟩=some (.int .i64 G.corner):=J.cell (H.dn (e9.cell (S.dn (cd aw rfl) t.2.2.1)) t.2.2.1)
   have ah:∀m f,Ext I m->∀n:Int,n=iW G i k->cr (λx=>x=c) m f->jO c (λj=>if 7+i*6+k<=j/\j<7+i*6+k+1 then([Value.int .i64 n]:List Value).getD (j-(7+i*6+k)) undef else yT G g dc mk l .nilFunc .nilFunc (lz G i k) j) f->
    cr (λx=>x=c) w9 f/\jO c (yT G g dc mk l .nilFunc .nilFunc (lz G i (k+1))) f:=λm f e n hn A hg=>by
    refine⟨(H.trans ((J.trans e).keep λx=>x=c) (λ_ _ h=>h) λ_ _ h=>h).trans A (λ_ _ h=>h) λ_ _ h=>h,hg.mono λj d=>F3 G g dc mk l _ _ i k (by omega) (by omega) n hn j d⟩
   have ai:iW G i k=qi G.corner (cP G)[i] (cP G)[k]:=Iu G R Q;refine cg (cd r rfl) (cg (cd q rfl) (gK ⟨λh=>?_,λh=>?_⟩))
   ·refine cF cB (cn (cd r rfl) (cn (cd q rfl) (fc cB _ (λU e=>Cc _ _ U (by omega) (by omega)) (Cb i 6 6 ad (lX k 6 ae λm e=>F2 (L.ext e) (by simp[Value.cells];omega) λf A B=>?_)))));have h:(cP G)[i].st=(cP G)[k].st:=of_decide_eq_true h;exact cq ⟨⟨rfl,rfl,rfl,rfl,rfl,rfl,rfl,rfl,rfl,rfl,rfl,trivial⟩,ah m f e _ (by rw[ai];simp[qi,h]) A B⟩
   ·have h:¬(cP G)[i].st=(cP G)[k].st:=of_decide_eq_false h;have hf:0<=iV (cP G)[i].st (cP G)[k].st/\iV (cP G)[i].st (cP G)[k].st<=2:=by unfold iV;omega
    have hc:=ok.corner;have m1:=Int.mul_le_mul hc.2 hf.2 hf.1 (by omega);have m2:=Int.mul_nonneg (show 0<=G.corner by omega) hf.1
    refine cF cB (cn (cd r rfl) (cn (cd q rfl) (AY (cn ag (cn (cd r rfl) (cn (cd q rfl) (fc cB _ (λU e=>Cc _ _ U (by omega) (by omega)) (FZ (AY (Cb i 6 6 ad (lX k 6 ae λm e=>
     F2 (L.ext e) (by simp[Value.cells];omega) λf A B=>?_)))))))))))
    exact cq ⟨⟨rfl,rfl,rfl,rfl,rfl,rfl,rfl,rfl,rfl,rfl,rfl,trivial⟩,ah m f e _ (by rw[ai];simp[qi,h]) A B⟩
  ·rintro P ⟨H,z⟩;refine cq ⟨⟨rfl,rfl,rfl,rfl,rfl,rfl,trivial⟩,S.trans (((e9.keep λx=>x=c).trans H (λ_ _ h=>h) λ_ _ h=>h)) (λ_ _ h=>h) λ_ _ h=>h,z.mono λj d=>?_⟩;simp only[yT];split
   ·rfl
   ·split
    ·congr 1;simp only[lz];generalize (j-7)/6=x;generalize hy:(j-7)%6=y;by_cases hx:x<i\/x=i/\y<(cP G).length
     ·rw[if_pos hx,if_pos (by omega)]
     ·rw[if_neg hx];split
      ·rw[yU G (by omega)]
      ·rfl
    ·rfl
 ·rintro w' ⟨S,N⟩
  have aj:jO c (yT G g dc mk l .nilFunc .nilFunc (iW G)) w':=N.mono λj d=>by
   simp only[yT];split
   ·rfl
   ·split
    ·congr 1;simp only[lz];split
     ·rfl
     ·rw[yU G (by omega)]
    ·rfl
  refine c8 (.agg #[J8 179 C,J8 180 C]) (F2 aj (Nat.le_of_ble_eq_true rfl) λw8 k8 aE=>?_);have aF:cr (λx=>x=c) w7 w8:=S.trans k8 (λ_ _ h=>h) λ_ _ h=>h;have p:Ext w4 w8:=(e5.trans e7).cj aF ak;refine⟨_,rfl,((D.trans E).trans (K.trans F)).trans p,.inr ⟨M,c,mk,l,rfl,⟨⟨g,dc,C,aE.mono λj d=>?_,hd.ext (((D.trans E).trans (K.trans F)).trans p),?_⟩,M,?_,?_,t.2.2.2,t.1,t.2.1⟩,?_,?_,?_,?_,?_⟩⟩
  ·show(if 45<=j/\j<45+2 then([J8 179 C,J8 180 C]:List Value).getD (j-45) undef else _)=_;split
   ·obtain rfl|rfl:j=45\/j=46:=by omega
    all_goals simp[yT]
   ·simp only[yT];repeat' split
    all_goals first|rfl|omega
  ·exact(p.trans (Ext.refl _)).cell ((K.trans F).cell (cd s rfl))
  ·have:=p.size;omega
  ·have:=p.size;omega
  ·have:=(D.trans E).size;have:=(K.trans F).size;omega
  ·have:=(D.trans E).size;omega
  ·have:=(D.trans E).size;omega
  ·exact p.at_ (F.at_ hm)
  ·exact p.at_ W
def dV(w:World)(a:Option Addr)(l:List Nat):Prop:=∀k (h:k<l.length),∃b o,a=some ⟨b,o,none⟩/\w.cell? ⟨b,o+k,none⟩=some (.int .i64 l[k])
theorem dV.ext{w w':World}{a:Option Addr}{l:List Nat}(h:dV w a l)(e:Ext w w'):dV w' a l:=λk c=>by obtain⟨b,o,d,f⟩:=h k c;exact⟨b,o,d,e.cell f⟩
def kT(l:List Nat):List Int:=l.map λn:Nat=>(n:Int)
theorem dV.ints{w:World}{a:Option Addr}{l:List Nat}(h:dV w a l):gM w a (kT l):=λk d=>by
 have c:k<l.length:=by simpa[kT]using d
 obtain⟨b,o,e,f⟩:=h k c;exact⟨b,o,e,by rw[f];simp[kT]⟩
section
variable{gp mk ms:Nat}{G:Gd}{w:World}
theorem kS.pw(h:kS gp mk ms G w):G.Ok:=kq h.ok
theorem kS.ways(h:kS gp mk ms G w)(i j:Nat)(d:i<6)(e:j<6):w.cell? ⟨gp,7+i*6+j,none⟩=some (.int .i64 (iW G i j)):=by
 obtain⟨f,g,k,a,_⟩:=h.at_;rw[a.cell (7+i*6+j)];simp only[yT];rw[if_neg (by omega),if_pos (by omega)];have b:(7+i*6+j-7)/6=i:=by omega
 have c:(7+i*6+j-7)%6=j:=by omega
 rw[b,c]
theorem kS.c2(h:kS gp mk ms G w):w.cell? ⟨gp,2,none⟩=some (.int .i64 G.knock):=by obtain⟨b,c,d,a,_⟩:=h.at_;exact a.cell 2
theorem kS.c3(h:kS gp mk ms G w):w.cell? ⟨gp,3,none⟩=some (.int .i64 G.minutes):=by obtain⟨b,c,d,a,_⟩:=h.at_;exact a.cell 3
theorem kS.c4(h:kS gp mk ms G w):w.cell? ⟨gp,4,none⟩=some (.int .i64 G.days):=by obtain⟨b,c,d,a,_⟩:=h.at_;exact a.cell 4
theorem kS.c5(h:kS gp mk ms G w):w.cell? ⟨gp,5,none⟩=some (.int .i64 G.tries):=by obtain⟨b,c,d,a,_⟩:=h.at_;exact a.cell 5
theorem kS.c6(h:kS gp mk ms G w):∃a dc,w.cell? ⟨gp,6,none⟩=some (.slice a G.doors.length dc)/\fZ w a G.doors:=by obtain⟨a,dc,d,b,c,_⟩:=h.at_;exact⟨a,dc,b.cell 6,c⟩
theorem kS.PT(h:kS gp mk ms G w):w.cell? ⟨gp,43,none⟩=some (.map (some mk)):=by obtain⟨b,c,d,a,_⟩:=h.at_;exact a.cell 43
theorem kS.PU(h:kS gp mk ms G w):w.cell? ⟨gp,44,none⟩=some (.map (some ms)):=by obtain⟨b,c,d,a,_⟩:=h.at_;exact a.cell 44
theorem kS.fn(h:kS gp mk ms G w):∃a,w.cell? ⟨gp,45,none⟩=some (J8 179 a)/\w.cell? ⟨gp,46,none⟩=some (J8 180 a)/\w.cell? ⟨a,5,none⟩=some (.int .i64 G.tries):=by obtain⟨d,e,a,b,_,c⟩:=h.at_;exact⟨a,b.cell 45,b.cell 46,c⟩
def Lm(G:Gd)(l:List Nat):Int:=lY (iW G) l
def ee(G:Gd)(l:List Nat):Int:=tg (iW G) G.knock l
def fx(G:Gd)(l:List Nat):Int:=(l.map λd=>((G.doors[d]?).map (·.talk)).getD 0).sum
def eI(G:Gd)(l:List Nat):Int:=ee G l+fx G l
variable{l:List Nat}{la:Option Addr}{lc:Nat}
theorem Dj(h:kS gp mk ms G w)(b:∀d∈l,d<G.doors.length)(a:l.length<=100000)(c:dV w la l):Calls V.prog 161 #[.pointer (some ⟨gp,0,none⟩),.slice la l.length lc] w (eG λv w'=>v=.int .i64 (Lm G l)/\w'=w):=by have:=h.pw.many;exact th gp (iW G) l la lc w h.ways (pt h.pw) (λd e=>by have:=b d e;omega) a c
theorem yW(h:kS gp mk ms G w)(b:∀d∈l,d<G.doors.length)(a:l.length<=100000)(c:dV w la l):Calls V.prog 114 #[.pointer (some ⟨gp,0,none⟩),.slice la l.length lc] w (eG λv w'=>v=.int .i64 (ee G l)/\Ext w w'):=by have:=h.pw.many;have:=h.pw.knock;exact De gp (iW G) G.knock l la lc w h.c2 h.ways (pt h.pw) (λd e=>by have:=b d e;omega) a c (by omega)
theorem Dk(a:G.Ok)(l:List Nat)(b:l.length<=100000):0<=ee G l/\ee G l<=1000000000:=by have d:=te (pt a) l;have c:=a.knock;have e:=Int.mul_le_mul_of_nonneg_left c.2 (Int.natCast_nonneg l.length);have f:=Int.mul_nonneg (Int.natCast_nonneg l.length) (show 0<=G.knock by omega);unfold ee tg;omega
theorem A3(G:Gd)(l:List Nat)(k:Nat)(a:k<l.length)(b:l[k]<G.doors.length):fx G (l.take (k+1))=fx G (l.take k)+G.doors[l[k]].talk:=by unfold fx;rw[List.take_succ_eq_append_getElem a,List.map_append,List.sum_append];simp[List.getElem?_eq_getElem b]
theorem yX(a:G.Ok):∀(l:List Nat),0<=fx G l/\fx G l<=9*l.length
 |[]=>by simp[fx]
 |d::r=>by
  have:=yX a r
  have b:0<=((G.doors[d]?).map (·.talk)).getD 0/\((G.doors[d]?).map (·.talk)).getD 0<=9:=by
   cases h:G.doors[d]? with
   |none=>simp
   |some x=>have:=a.door x (List.mem_of_getElem? h);simp;omega
  have e:fx G (d::r)=((G.doors[d]?).map (·.talk)).getD 0+fx G r:=by simp[fx]
  simp only[e,List.length_cons];omega
theorem wB(h:kS gp mk ms G w)(i:∀d∈l,d<G.doors.length)(a:l.length<=100000)(j:dV w la l):Calls V.prog 115 #[.pointer (some ⟨gp,0,none⟩),.slice la l.length lc] w (eG λv w'=>v=.int .i64 (eI G l)/\Ext w w'):=by
 refine go V.func115 Tryz.ntmps115 ?_;have t:=Dk h.pw l a;have u:=h.pw.many;refine dU (yW h i a j) λm f=>?_;refine cA (dg (n:=l.length) (λk=>[(0,.pointer (some ⟨gp,0,none⟩)),(11,.slice la l.length lc),(12,.int .i64 l.length),(13,.int .i64 k),(5,.int .i64 (ee G l+fx G (l.take k)))]) (λ_ w'=>w'=m) ⟨⟨rfl,rfl,rfl,rfl,by show some _=some _;simp[fx],trivial⟩,rfl⟩ ?_ ?_ ?_)
 ·rintro k w' c rfl;exact cY ⟨rfl,rfl,⟨rfl,rfl,rfl,rfl,rfl,trivial⟩,rfl⟩
 ·rintro k w' c rfl;obtain⟨b,o,rfl,p⟩:=(j.ext f) k c;have e:=i _ (List.getElem_mem c);obtain⟨x,y,q,g⟩:=(h.ext f).c6;obtain⟨z,A,rfl,_,_,r⟩:=g _ e;have B:=yX h.pw (l.take k);have C:=h.pw.door _ (List.getElem_mem e);have s:(l.take k).length<=100000:=by simp;omega
  refine dT k c (cg p (cg q (fh l[k] 3 e (cg r (cq (cq ⟨⟨rfl,rfl,rfl,rfl,?_,trivial⟩,rfl⟩))))));show some _=some _;rw[A3 G l k c e,Int.add_assoc]
 ·rintro w' rfl;exact⟨_,rfl,by simp[eI],f⟩
theorem last_at(h:kS gp mk ms G w):Calls V.prog 107 #[.pointer (some ⟨gp,0,none⟩)] w (eG λv w'=>v=.int .i64 (2*G.days-1)/\w'=w):=F1 gp G.days w h.c4 (by have:=h.pw.days;omega)
end
def b8(c:BinOp)(a b:Int):Int:=match c with
 | .and=>IntKind.u8.wrap (BitVec.ofInt 8 a&&&BitVec.ofInt 8 b).toNat
 | .or=>IntKind.u8.wrap (BitVec.ofInt 8 a|||BitVec.ofInt 8 b).toNat
 |_=>IntKind.u8.wrap (BitVec.ofInt 8 a&&& ~~~BitVec.ofInt 8 b).toNat
section
variable{w:World}{k:Value->World->Prop}{t:TypeId}{x y:Operand}
theorem Ln{a b:Int}(r:Int)(c:b8 .and a b=r)(h:k (.int .u8 r) w):fS V.prog (do eqGuard .and t x y (.int .u8 a) (.int .u8 b);binOp .and t (.int .u8 a) (.int .u8 b)) w k:=⟨_,w,rfl,by subst c;exact h⟩
theorem Ix{a b:Int}(r:Int)(c:b8 .andNot a b=r)(h:k (.int .u8 r) w):fS V.prog (do eqGuard .andNot t x y (.int .u8 a) (.int .u8 b);binOp .andNot t (.int .u8 a) (.int .u8 b)) w k:=⟨_,w,rfl,by subst c;exact h⟩
theorem Lo{a:Int}{n:Nat}(b:n<=8)(h:k (.int .u8 (a.fdiv (2^n))) w):fS V.prog (do eqGuard .shr t x y (.int .u8 a) (.int .i64 n);binOp .shr t (.int .u8 a) (.int .i64 n)) w k:=by
 refine⟨_,w,?_,h⟩;show Sem.run V.prog (Op.shift .shr .u8 a .i64 n) w=_;unfold Op.shift;rw[if_neg (by omega)];have:min (n:Int).toNat IntKind.u8.bits=n:=by simp[IntKind.bits];omega
 rw[this];rfl
theorem Lp{a:Int}{n:Nat}(b:n<=8)(h:k (.int .u8 (IntKind.u8.wrap (a*2^n))) w):fS V.prog (do eqGuard .shl t x y (.int .u8 a) (.int .i64 n);binOp .shl t (.int .u8 a) (.int .i64 n)) w k:=by
 refine⟨_,w,?_,h⟩;show Sem.run V.prog (Op.shift .shl .u8 a .i64 n) w=_;unfold Op.shift;rw[if_neg (by omega)];have:min (n:Int).toNat IntKind.u8.bits=n:=by simp[IntKind.bits];omega
 rw[this];rfl
end
theorem F5:∀s:Nat,s<32->∀d:Nat,d<5->b8 .and ((s:Int).fdiv (2^d)) 1=if s.testBit d then 1 else 0:=by decide+kernel
theorem Iy(s d:Nat)(w:World)(a:s<32)(b:d<5):Calls V.prog 198 #[.int .u8 s,.int .i64 d] w (eG λv w'=>v=.bool (s.testBit d)/\w'=w):=by refine go V.func198 Tryz.ntmps198 ?_;refine Lo (by omega) (Ln _ (F5 s a d b) (gK ⟨_,rfl,?_,rfl⟩));cases s.testBit d<;>rfl
theorem rN(s d:Nat)(w:World)(a:s<32)(b:d<5):Calls V.prog 164 #[.int .u8 s,.int .i64 d] w (eG λv w'=>v=.int .u8 (mz s d)/\w'=w):=AX (yf s d w a b)
def F6(x:Int)(l:List Int):Bool:=decide (0<=ut x l 0)
theorem wC(l:List Int)(x:Int)(la:Option Addr)(lc:Nat)(w:World)(b:gM w la l)(a:l.length<=100000):Calls V.prog 135 #[.slice la l.length lc,.int .i64 x] w (eG λv w'=>v=.bool (F6 x l)/\w'=w):=by refine go V.func135 Tryz.ntmps135 ?_;exact cL (Dg l x la lc w b a) (ve ⟨_,rfl,rfl,rfl⟩)
def iI(n:Int):List Int->List Int->Int
 |_,[]=>0
 |pre,d::r=>if lH d 0 (n-1)then(if F6 d pre then 4 else iI n (pre++[d]) r)else 3
def eH(n:Int)(l:List Int):Int:=iI n [] l
theorem wD(n:Int)(l:List Int)(k:Nat)(a:k<l.length):iI n (l.take k) (l.drop k)=if lH l[k] 0 (n-1)then(if F6 l[k] (l.take k)then 4 else iI n (l.take (k+1)) (l.drop (k+1)))else 3:=by rw[List.drop_eq_getElem_cons a,List.take_succ_eq_append_getElem a];rfl
theorem vg{gp mk ms:Nat}{G:Gd}{w:World}(h:kS gp mk ms G w){l:List Int}{la:Option Addr}{lc:Nat}(j:gM w la l)(m:l.length<=100000)(s:l.length<=lc):
 Calls V.prog 108 #[.pointer (some ⟨gp,0,none⟩),.slice la l.length lc] w (eG λv w'=>v=.int .i64 (eH G.doors.length l)/\w'=w):=by
 have t:=h.pw.many;obtain⟨u,x,p,q⟩:=h.c6;refine go V.func108 Tryz.ntmps108 ?_;refine cA (dg (n:=l.length) (λk=>[(0,.pointer (some ⟨gp,0,none⟩)),(1,.slice la l.length lc),(7,.slice la l.length lc),(8,.int .i64 l.length),(9,.int .i64 k)]) (λk w'=>w'=w/\eH G.doors.length l=iI G.doors.length (l.take k) (l.drop k)) ⟨⟨rfl,rfl,rfl,rfl,rfl,trivial⟩,rfl,rfl⟩ ?_ ?_ ?_)
 ·rintro k w' e ⟨rfl,a⟩;exact cY ⟨rfl,rfl,⟨rfl,rfl,rfl,rfl,rfl,trivial⟩,rfl,a⟩
 ·rintro k w' e ⟨rfl,a⟩;obtain⟨b,o,f,d⟩:=j k e;rw[wD _ l k e]at a;have g:(l.take k).length=k:=by simp;omega
  have c:=wC (l.take k) l[k] la lc w' (j.take k) (by omega);rw[g]at c;subst f;refine dT k e (cg d (cg p (cA (fu (cL (du _ _ _ _) (ek ⟨λh=>?_,λi=>?_⟩))))))
  ·simp at h;exact⟨_,rfl,by rw[a];simp[h],rfl⟩
  ·simp at i;refine lV k (by omega) (cL c ⟨λh=>?_,λr=>?_⟩)
   ·exact⟨_,rfl,by rw[a];simp[h,i],rfl⟩
   ·rw[i,r]at a;exact cq ⟨⟨rfl,rfl,rfl,rfl,rfl,trivial⟩,rfl,by simpa using a⟩
 ·rintro w' ⟨rfl,a⟩;exact⟨_,rfl,by rw[a];simp[iI],rfl⟩
def ku(s k:Nat):List Nat:=(List.range k).filter (s.testBit ·)
def dJ(s:Nat):List Nat:=ku s 5
def eJ(l:List Nat):List Value:=l.map λn:Nat=>Value.int .i64 n
def dN(n0:Nat)(w:World)(v:Value)(l:List Nat):Prop:=cC n0 3 [.int .i64 0] w v l.length (eJ l)
theorem dN.row{n0:Nat}{w:World}{v:Value}{l:List Nat}(h:dN n0 w v l):∃a c,v=.slice a l.length c/\dV w a l/\l.length<=c:=by
 obtain⟨j,⟨e,rfl⟩|⟨b,c,m,n,rfl,f,o,g,p,i,q⟩⟩:=h
 ·exact⟨none,0,by rw[e],λk d=>by omega,by omega⟩
 ·refine⟨_,c,rfl,λk d=>⟨b,0,rfl,?_⟩,g⟩;refine cd f ?_;rw[Nat.zero_add,i k (by simp[eJ];omega)];simp[eJ,List.getElem?_eq_getElem d]
theorem px(s k:Nat):ku s (k+1)=if s.testBit k then ku s k++[k]else ku s k:=by unfold ku;rw[List.range_succ,List.filter_append];cases h:s.testBit k<;>simp[h]
theorem iO(s k:Nat):(ku s k).length<=k:=by have:=List.length_filter_le (s.testBit ·) (List.range k);simpa[ku]using this
theorem Ext.gN{w w1 b:World}{n0:Nat}{v:Value}{t:TypeId}{zs d:List Value}{a:Nat}(h:Ext w w1)(k:cr (ce v) w1 b)(e:cC n0 t zs w1 v a d)(g:w.heap.size<=n0):Ext w b:=
 ⟨k.os.trans h.os,k.tape.trans h.tape,k.output.trans h.output,Nat.le_trans h.size k.size,Nat.le_trans h.drawn k.drawn,λx c=>(k.block x (Nat.lt_of_lt_of_le c h.size) λf=>by have:=(e.blk f).1;omega).trans (h.block x c)⟩
theorem py(s:Nat)(w:World)(g:s<32):Calls V.prog 173 #[.int .u8 s] w (eG λv w'=>Ext w w'/\dN w.heap.size w' v (dJ s)):=by
 refine go V.func173 Tryz.ntmps173 ?_;refine fw (n:=5) (λk v=>[(0,.int .u8 s),(3,v),(5,.int .i64 k)]) (λk v w'=>Ext w w'/\dN w.heap.size w' v (ku s k)) (.slice none 0 0) ⟨⟨rfl,rfl,rfl,trivial⟩,Ext.refl _,cC.nil _ _ _ _⟩ ?_ ?_ ?_
 ·rintro k v w' d ⟨e,a⟩;exact cY ⟨rfl,rfl,⟨rfl,rfl,rfl,trivial⟩,e,a⟩
 ·rintro k v w' d ⟨e,a⟩;have f:=iO s k;refine cL (Iy s k w' g d) ⟨λh=>?_,λh=>?_⟩
  ·refine dB [Value.int .i64 k] 3 λo p b i j=>gC oH (a.ext b) (Nat.le_trans e.size b.size) j (by omega) λl q c m _=>cq ⟨l,⟨rfl,rfl,rfl,trivial⟩,(e.trans b).gN m (a.ext b) (Nat.le_refl _),?_⟩;rw[px,if_pos h];simpa[dN,eJ]using c
  ·refine cq ⟨v,⟨rfl,rfl,rfl,trivial⟩,e,?_⟩;rw[px,if_neg (by rw[h];simp)];exact a
 ·rintro v w' ⟨e,a⟩;exact⟨_,rfl,e,a⟩
def setFrom(s:Nat)(l:List Nat):Nat:=l.foldl mz s
def fy(l:List Nat):Nat:=setFrom 0 l
theorem oI:∀(l:List Nat) (s:Nat),s<32->(∀d∈l,d<5)->setFrom s l<32
 |[],s,a,_=>a
 |d::r,s,a,h=>oI r (mz s d) (AE s a d (h d List.mem_cons_self)) λx b=>h x (List.mem_cons_of_mem _ b)
theorem nO(l:List Nat)(la:Option Addr)(lc:Nat)(w:World)(g:dV w la l)(e:∀d∈l,d<5)(f:l.length<=100000):Calls V.prog 122 #[.slice la l.length lc] w (eG λv w'=>v=.int .u8 (fy l)/\w'=w):=by
 refine go V.func122 Tryz.ntmps122 ?_;refine cA (dg (n:=l.length) (λk=>[(3,.int .u8 (fy (l.take k))),(6,.slice la l.length lc),(7,.int .i64 l.length),(8,.int .i64 k)]) (λ_ w'=>w'=w) ⟨⟨rfl,rfl,rfl,rfl,trivial⟩,rfl⟩ ?_ ?_ ?_)
 ·rintro k w' a rfl;exact cY ⟨rfl,rfl,⟨rfl,rfl,rfl,rfl,trivial⟩,rfl⟩
 ·rintro k w' a rfl;obtain⟨b,o,rfl,h⟩:=g k a;have c:=e _ (List.getElem_mem a);have i:fy (l.take k)<32:=oI _ 0 (by omega) λd c=>e d (List.mem_of_mem_take c);refine dT k a (cg h (cL (rN _ _ _ i c) (cq ⟨⟨?_,rfl,rfl,rfl,trivial⟩,rfl⟩)));show some _=some _;rw[List.take_succ_eq_append_getElem a];simp only[fy,setFrom,List.foldl_append,List.foldl_cons,List.foldl_nil]
 ·rintro w' rfl;exact⟨_,rfl,by simp,rfl⟩
structure Sx where
 tries:Int
 mornings:Int
 evenings:Int
 opened:Bool
 d0:Bool
 d1:Bool
 d2:Bool
 left:Bool
def iX(x:Sx):List Value:=[.int .i64 x.tries,.int .i64 x.mornings,.int .i64 x.evenings,.bool x.opened,.bool x.d0,.bool x.d1,.bool x.d2,.bool x.left]
def fE(T:Int)(x:Sx):Bool:=(x.left||x.opened)||(decide (T<=x.tries)&&(decide (T<2)||(decide (0<x.mornings)&&decide (0<x.evenings))))
theorem rO{gp mk ms:Nat}{G:Gd}{w:World}(h:kS gp mk ms G w)(x:Sx):Calls V.prog 134 #[.pointer (some ⟨gp,0,none⟩),.agg (iX x).toArray] w (eG λv w'=>v=.bool (fE G.tries x)/\Ext w w'):=by
 refine go V.func134 Tryz.ntmps134 ?_;refine eO λn o c k d=>?_;obtain⟨i,l,m,j⟩:=(h.ext c).fn;refine cF cB (cn (cd d rfl) ⟨λf=>?_,λf=>?_⟩)
 ·exact je rfl λa e=>⟨_,rfl,by simp[fE,f],c.trans e⟩
 ·refine cn (cd d rfl) ⟨λg=>?_,λg=>?_⟩
  ·exactλa e=>⟨_,rfl,by simp[fE,f,g],c.trans e⟩
  ·refine cn l (cn (cd d rfl) (fc cB _ (λa e=>AZ i _ _ a (e.cell j)) ⟨λb=>?_,λb=>?_⟩))
   ·refine cn m (cn (cd d rfl) (cn (cd d rfl) (fc cB _ (λa e=>A0 i _ _ _ a (e.cell j)) λa e=>⟨_,rfl,?_,c.trans e⟩)));have b:G.tries<=x.tries:=of_decide_eq_true b;simp[fE,f,g,b]
   ·refineλa e=>⟨_,rfl,?_,c.trans e⟩;have b:¬G.tries<=x.tries:=of_decide_eq_false b;simp[fE,f,g,b]
section
variable{w:World}{k:Value->World->Prop}{t:TypeId}{x y:Operand}
theorem qj{m:Nat}{n:Nat}(b:0<n)(c:m<=1000000000)(h:k (.int .i64 ((m/n:Nat):Int)) w):fS V.prog (do eqGuard .quo t x y (.int .i64 m) (.int .i64 n);binOp .quo t (.int .i64 m) (.int .i64 n)) w k:=by
 refine⟨_,w,?_,h⟩;show Sem.run V.prog (Op.intDiv .quo .i64 m n) w=_;unfold Op.intDiv;rw[if_neg (by omega)];have a:(m:Int).tdiv n=((m/n:Nat):Int):=by rw[Int.tdiv_eq_ediv_of_nonneg (by omega)];simp
 have d:m/n<=m:=Nat.div_le_self _ _;rw[a];simp only[Sem.run_pure];generalize m/n=q at*;rw[IntWalk.i64_in _ (by omega)]
theorem A4{m:Nat}{n:Nat}(b:0<n)(h:k (.int .i64 ((m%n:Nat):Int)) w):fS V.prog (do eqGuard .rem t x y (.int .i64 m) (.int .i64 n);binOp .rem t (.int .i64 m) (.int .i64 n)) w k:=by
 refine⟨_,w,?_,h⟩;show Sem.run V.prog (Op.intDiv .rem .i64 m n) w=_;unfold Op.intDiv;rw[if_neg (by omega)];have a:(m:Int).tmod n=((m%n:Nat):Int):=by rw[Int.tmod_eq_emod_of_nonneg (by omega)];simp
 simp only[a,Sem.run_pure]
theorem rP{t:TypeId}{b o:Nat}{a:Nat}(n:Nat)(c:a<n)(h:k (.pointer (some ⟨b,o+a,none⟩)) w)(d:ty t=some ⟨2,n,1,n⟩:=by rfl):fS V.prog (Instr.indexAt t (.pointer (some ⟨b,o,none⟩)) (.int .i64 (a:Nat))) w k:=oG a n c h rfl d
theorem lZ{t:TypeId}{b o:Nat}{cs:Array Value}{a:TypeId}(vs:List Value)(c:w.heap[b]? =some (.cells cs a))(d:∀j v,vs[j]? =some v->cs[o+j]? =some v)(e:AW t=some true:=by rfl)(f:J4 t=some vs.length:=by rfl):Sem.run V.prog (loadVar t ⟨b,o,none⟩) w=.ok (.agg vs.toArray) w:=by
 have g:=run_loadCells_list (P:=V.prog) w ⟨b,o,none⟩ vs λj v h=>by rw[eN];exact cd c (d j v h)
 simp only[loadVar,Sem.run_bind,ta e,ww f,Result.andThen_ok,if_true,g,Sem.run_pure]
end
theorem eh(cs:Array Value)(vs:List Value)(h:cs.size=vs.length):er cs 0 vs=vs.toArray:=by
 apply Array.ext_getElem?;intro j;rw[jP vs cs 0 j (by omega),Nat.zero_add,Nat.sub_zero];have e:vs.toArray[j]? =vs[j]? :=by simp
 rw[e];split
 ·rfl
 ·rename_i a;have a:vs.length<=j:=Nat.le_of_not_lt λb=>a ⟨Nat.zero_le _,b⟩;rw[List.getElem?_eq_none a];exact Array.getElem?_eq_none (by rw[h];exact a)
def uu(x:Sx)(d:Nat):Bool:=if d=0 then x.d0 else if d=1 then x.d1 else x.d2
def gm(x:Sx)(a:Nat)(b:Bool):Sx:=⟨x.tries+1,if a%2=0 then x.mornings+1 else x.mornings,if a%2=0 then x.evenings else x.evenings+1,x.opened||b,if a/2=0 then true else x.d0,if a/2=1 then true else x.d1,if a/2=2 then true else x.d2,x.left⟩
set_option maxHeartbeats 2000000 in
theorem vh(x:Sx)(shift:Nat)(op:Bool)(w:World)(hs:shift<6)(hb:(0≤x.tries∧x.tries≤1000000)∧(0≤x.mornings∧x.mornings≤1000000)∧0≤x.evenings∧x.evenings≤1000000):
 Calls V.prog 158 #[.agg (iX x).toArray,.int .i64 shift,.bool op] w (eG fun v w'=>v=.agg (iX (gm x shift op)).toArray∧Ext w w'):=by
 refine go V.func158 Tryz.ntmps158 ?_
 refine eO fun w1 xb e1 NY NJ=>dS fun w2 rb e2 QN NQ=>?_
 have zW:=e2.at_ NJ
 have ne:¬(rb=xb):=by have:=ck.lt_of_heap NJ;omega
 refine cg (cd zW rfl) (cq (cK zW fun w3 k3 Lj=>?_))
 have PV:=k3.ef NQ ne
 refine A4 (m:=shift) (n:=2) (by omega) (gK ?_)
 obtain⟨X,hX⟩:∃X,X=gm x shift op:=⟨_,rfl⟩
 rw[←hX]
 obtain rfl|rfl|rfl|rfl|rfl|rfl:shift=0∨shift=1∨shift=2∨shift=3∨shift=4∨shift=5:=by omega
 all_goals
  first
  |refine je rfl (cg (cd Lj rfl) (cq (cK Lj fun w4 k4 NZ=>?_)))
  |refine nh rfl (cg (cd Lj rfl) (cq (cK Lj fun w4 k4 NZ=>?_)))
  have PW:=k4.ef PV ne
  have e4:Ext w w4:=((e1.trans e2).cj k3 NY).cj k4 NY
  refine cg (cd NZ rfl) ⟨fun ho=>?_,fun ho=>?_⟩
  all_goals
   refine cK NZ fun w5 k5 PX=>?_
   have PY:=k5.ef PW ne
   have e5:=e4.cj k5 NY
   refine qj (n:=2) (by omega) (by omega) (rP 3 (by decide) (cK PX fun w6 k6 PZ=>?_))
   have P0:=k6.ef PY ne
   have e6:=e5.cj k6 NY
   have QO:w6.heap[xb]? =some (.cells (iX X).toArray 166):=PZ.trans (by rw[hX];simp[er,iX,gm,ho,Value.cells])
   refine dp (vs:=iX X) (fun j v hj=>by rw[Nat.zero_add];exact cd QO (by simpa using hj)) (cK P0 fun w7 k7 P1=>?_)
   have QP:w7.heap[rb]? =some (.cells (iX X).toArray 166):=P1.trans (congrArg (fun a=>some (Obj.cells a 166)) (eh (qg 166).toArray (iX X) rfl))
   have hl:Sem.run V.prog (loadVar 166 ⟨rb,0,none⟩) w7=.ok (.agg (iX X).toArray) w7:=lZ (iX X) QP fun j v hj=>by rw[Nat.zero_add];simpa using hj
   have e7:Ext w w7:=e6.cj k7 (Nat.le_trans e1.size QN)
   clear NJ zW Lj NZ PX PZ NQ PV PW PY P0 P1
   refine⟨.agg (iX X).toArray,hl,?_⟩
   exact⟨_,rfl,rfl,e7⟩
def oJ(w:World)(a:Option Addr)(xs:List Sx):Prop:=∀k (h:k<xs.length),∃b o,a=some ⟨b,o,none⟩/\∀j v,(iX xs[k])[j]? =some v->w.cell? ⟨b,o+k*8+j,none⟩=some v
theorem oJ.ext{w w':World}{a:Option Addr}{xs:List Sx}(h:oJ w a xs)(e:Ext w w'):oJ w' a xs:=λk c=>by obtain⟨b,o,d,f⟩:=h k c;exact⟨b,o,d,λj v g=>e.cell (f j v g)⟩
structure io(wp gp mk ms:Nat)(G:Gd)(xs:List Sx)(before:Int)(w:World):Prop where
 g:kS gp mk ms G w
 len:xs.length=G.doors.length
 bf:0<=before/\before<=5
 at_:∃sa sc,w.cell? ⟨wp,0,none⟩=some (.pointer (some ⟨gp,0,none⟩))/\w.cell? ⟨wp,1,none⟩=some (.slice sa xs.length sc)/\w.cell? ⟨wp,2,none⟩=some (.int .i64 before)/\oJ w sa xs
section
variable{wp gp mk ms:Nat}{G:Gd}{xs:List Sx}{before:Int}{w:World}
theorem io.ext{w':World}(h:io wp gp mk ms G xs before w)(e:Ext w w'):io wp gp mk ms G xs before w':=by obtain⟨a,b,c,d,f,i⟩:=h.at_;exact⟨h.g.ext e,h.len,h.bf,a,b,e.cell c,e.cell d,e.cell f,i.ext e⟩
def pz(G:Gd)(before a:Int):Int:=if lH a 0 (2*G.days-1)then(if a<before then 5 else 0)else 3
theorem Iz(h:io wp gp mk ms G xs before w)(a:Int):Calls V.prog 153 #[.pointer (some ⟨wp,0,none⟩),.int .i64 a] w (eG λv w'=>v=.int .i64 (pz G before a)/\w'=w):=by
 obtain⟨f,i,d,j,e,k⟩:=h.at_;refine go V.func153 Tryz.ntmps153 ?_;refine cg d (cL (last_at h.g) (cL (du _ _ _ _) (ek ⟨λb=>?_,λb=>?_⟩)))
 ·exact⟨_,rfl,by simp at b;simp[pz,b],rfl⟩
 ·simp at b;refine cg e (cY ⟨λc=>?_,λc=>?_⟩)
  ·exact⟨_,rfl,by simp[pz,b,of_decide_eq_true c],rfl⟩
  ·exact⟨_,rfl,by simp[pz,b,of_decide_eq_false c],rfl⟩
def nm(T:Int)(xs:List Sx)(k:Nat):List Nat:=(List.range k).filter λd=>match xs[d]? with
 |some x=>!fE T x
 |none=>false
def cI(T:Int)(xs:List Sx):List Nat:=nm T xs xs.length
theorem qP(T:Int)(xs:List Sx)(k:Nat)(a:k<xs.length):nm T xs (k+1)=if fE T xs[k]then nm T xs k else nm T xs k++[k]:=by unfold nm;rw[List.range_succ,List.filter_append];cases h:fE T xs[k]<;>simp[h,List.getElem?_eq_getElem a]
theorem tj(T:Int)(xs:List Sx)(k:Nat):(nm T xs k).length<=k:=by
 have:=List.length_filter_le (λd=>match xs[d]? with
  |some x=>!fE T x
  |none=>false) (List.range k)
 simpa[nm]using this
theorem wE(h:io wp gp mk ms G xs before w):Calls V.prog 119 #[.pointer (some ⟨wp,0,none⟩)] w (eG λv w'=>Ext w w'/\dN w.heap.size w' v (cI G.tries xs)):=by
 obtain⟨B,C,D,E,R,F⟩:=h.at_;have S:=h.g.pw.many;have T:=h.len;refine go V.func119 Tryz.ntmps119 ?_;refine cg E (cA (fw (n:=xs.length) (λk v=>[(0,.pointer (some ⟨wp,0,none⟩)),(3,v),(9,.slice B xs.length C),(10,.int .i64 xs.length),(11,.int .i64 k)]) (λk v w'=>Ext w w'/\dN w.heap.size w' v (nm G.tries xs k)) (.slice none 0 0) ⟨⟨rfl,rfl,rfl,rfl,rfl,trivial⟩,Ext.refl _,cC.nil _ _ _ _⟩ ?_ ?_ ?_))
 ·rintro k v w' l ⟨e,d⟩;exact cY ⟨rfl,rfl,⟨rfl,rfl,rfl,rfl,rfl,trivial⟩,e,d⟩
 ·rintro k v w' l ⟨e,d⟩;obtain⟨b,o,rfl,H⟩:=(F.ext e) k l;have u:=tj G.tries xs k;refine fh k 8 l (dp (vs:=iX xs[k]) H (dS λU I J q K=>cK K λx L m=>?_));have f:Ext w' x:=J.cj L q;have r:x.heap[I]? =some (.cells (iX xs[k]).toArray 166):=m.trans (congrArg (λa=>some (Obj.cells a 166)) (eh (qg 166).toArray (iX xs[k]) rfl));have M:=(h.g.ext e).ext f;clear m;refine cF cB (cn (f.cell (e.cell D)) (dx (.agg (iX xs[k]).toArray) (λy c=>dp (vs:=iX xs[k]) (λj v N=>by rw[Nat.zero_add];exact cd (c.at_ r) (by simpa using N)) ⟨rfl,Ext.refl _⟩) (jg (.bool (fE G.tries xs[k])) (λy c=>rO (M.ext c) xs[k]) (nj λy c=>⟨λi=>?_,λi=>?_⟩))))
  ·have i:fE G.tries xs[k]=false:=by simpa using i
   have z:=(e.trans f).trans c;refine dB [Value.int .i64 k] 3 λW O p A s=>gC oH (((d.ext f).ext c).ext p) (Nat.le_trans z.size p.size) s (by omega) λP X t Q _=>cq ⟨P,⟨rfl,rfl,rfl,rfl,rfl,trivial⟩,(z.trans p).gN Q (((d.ext f).ext c).ext p) (Nat.le_refl _),?_⟩;rw[qP _ _ _ l,i];simpa[dN,eJ]using t
  ·have i:fE G.tries xs[k]=true:=by simpa using i
   refine cq ⟨v,⟨rfl,rfl,rfl,rfl,rfl,trivial⟩,(e.trans f).trans c,?_⟩;rw[qP _ _ _ l,i];exact(d.ext f).ext c
 ·rintro v w' ⟨e,d⟩;exact⟨_,rfl,e,d⟩
end
def l5(s:Nat):List Value:=[.bool (s.testBit 0),.bool (s.testBit 1),.bool (s.testBit 2),.bool (s.testBit 3),.bool (s.testBit 4)]
def wF(l:List Nat)(d:Nat):Bool:=l.contains d
def F7(l:List Nat):List Value:=[.bool (wF l 0),.bool (wF l 1),.bool (wF l 2),.bool (wF l 3),.bool (wF l 4)]
theorem Dl:∀s:Nat,s<32->∀d:Nat,d<5->wF (dJ s) d=s.testBit d:=by decide+kernel
theorem F8(s:Nat)(d:Nat)(h:d∈dJ s):d<5:=by have:=(List.mem_filter.1 h).1;simpa using this
theorem Dm(s:Nat)(w:World)(K:s<32):Calls V.prog 174 #[.int .u8 s] w (eG λv w'=>v=.agg (l5 s).toArray/\Ext w w'):=by
 refine go V.func174 Tryz.ntmps174 ?_;refine dS λw1 u L z M=>dS λN f O R g=>?_;refine cf (py s N K) λv S y=>?_;obtain⟨A,y⟩:=y;obtain⟨a,c,rfl,i,_⟩:=y.row;have B:=A.at_ (O.at_ M);have T:¬(u=f):=by have:=ck.lt_of_heap M;omega
 have P:(dJ s).length<=5:=iO s 5
 have C:∀b o,a=some ⟨b,o,none⟩->N.heap.size<=b:=λb o h=>by
  obtain⟨_,⟨_,e⟩|⟨b',c',cs,h1,e,_⟩⟩:=y
  ·injection e with e;rw[e]at h;cases h
  ·injection e with e;rw[e]at h;have:=congrArg Addr.block (Option.some.inj h);simp at this;omega
 have U:=ck.lt_of_heap g;refine cA (dg (n:=(dJ s).length) (λk=>[(2,.pointer (some ⟨u,0,none⟩)),(3,.pointer (some ⟨f,0,none⟩)),(7,.slice a (dJ s).length c),(8,.int .i64 (dJ s).length),(9,.int .i64 k)]) (λk w'=>cr (λx=>x=f) S w'/\w'.heap[f]? =some (.cells (F7 ((dJ s).take k)).toArray 217)) ⟨⟨rfl,rfl,rfl,rfl,rfl,trivial⟩,cr.refl _ _,A.at_ g⟩ ?_ ?_ ?_)
 ·rintro k w' m W;exact cY ⟨rfl,rfl,⟨rfl,rfl,rfl,rfl,rfl,trivial⟩,W⟩
 ·rintro k w' m ⟨p,q⟩;obtain⟨b,o,rfl,X⟩:=i k m;have Q:(dJ s)[k]<5:=F8 s _ (List.getElem_mem m);have D:¬(b=f):=by have:=C b o rfl;omega
  refine dT k m (cg (p.dn X D) (oG (dJ s)[k] 5 Q (fG q (by simp[Value.cells,F7];omega) (λr E F=>cq ⟨⟨rfl,rfl,rfl,rfl,rfl,trivial⟩,p.trans E (λ_ _ h=>h) λ_ _ h=>h,?_⟩) (by simp[Value.cells,Value.oneCell']))));refine F.trans (congrArg (λa=>some (Obj.cells a 217)) ?_);rw[List.take_succ_eq_append_getElem m];generalize (dJ s)[k]=d at Q;generalize (dJ s).take k=l;have Y:∀j,wF (l++[d]) j=(wF l j||decide (j=d)):=λj=>by simp[wF,List.contains_eq_mem,List.mem_append,Bool.decide_or]
  obtain rfl|rfl|rfl|rfl|rfl:d=0\/d=1\/d=2\/d=3\/d=4:=by omega
  all_goals simp[F7,Y,er,Value.cells]
 ·rintro w' ⟨p,q⟩;have G:=p.ef B T;rw[List.take_length]at q;have H:F7 (dJ s)=l5 s:=by simp[F7,l5,Dl s K]
  rw[H]at q;refine dp (vs:=l5 s) (λj v I=>by rw[Nat.zero_add];exact cd q (by simpa using I)) (cK G λr E t=>?_);have J:r.heap[u]? =some (.cells (l5 s).toArray 217):=t.trans (congrArg (λa=>some (Obj.cells a 217)) (eh (qg 217).toArray (l5 s) rfl));have Z:Sem.run V.prog (loadVar 217 ⟨u,0,none⟩) r=.ok (.agg (l5 s).toArray) r:=lZ (l5 s) J λj v I=>by rw[Nat.zero_add];simpa using I
  have e5:Ext w r:=(((L.trans O).trans A).cj p (by have:=L.size;omega)).cj E z;clear t;refine⟨.agg (l5 s).toArray,Z,?_⟩;exact⟨_,rfl,rfl,e5⟩
section
variable{w:World}{k:Value->World->Prop}
def gD(w:World)(a:Option Addr)(c:List Value):Prop:=c=[]\/∃b o,a=some ⟨b,o,none⟩/\∀j u,c[j]? =some u->w.cell? ⟨b,o+j,none⟩=some u
theorem gD.ext{w w':World}{a:Option Addr}{c:List Value}(h:gD w a c)(e:Ext w w'):gD w' a c:=by
 rcases h with h|⟨b,o,d,f⟩
 ·exact .inl h
 ·exact .inr ⟨b,o,d,λj u g=>e.cell (f j u g)⟩
theorem pA{b e:TypeId}{zs:List Value}(d:A1 b e zs){x y:Operand}{a:Option Addr}{l c:Nat}(h:k (.bool a.isNone) w):fS V.prog (do eqGuard .eql b x y (.slice a l c) (.slice none 0 0);binOp .eql b (.slice a l c) (.slice none 0 0)) w k:=by have f:=Go.Lib.run_eql_slice_nil (P:=V.prog) w b e a l c 0 0 d.1;refine⟨_,w,?_,h⟩;go_simp
theorem Dn{n0:Nat}{e:TypeId}{zs:List Value}{w:World}{a:Nat}(c:n0<=a)(d:w.heap[a]? =some (.cells #[] e)):cC n0 e zs w (.slice (some ⟨a,0,none⟩) 0 0) 0 []:=
 ⟨by simp,.inr ⟨a,0,_,c,rfl,d,by simp,Nat.le_refl _,by decide,λj b=>by simp at b,λj _ b=>by simp at b⟩⟩
theorem pB{p t e:TypeId}{zs:List Value}{B:Array Bool}(m:A1 p e zs){n0 q:Nat}{w:World}{a:Option Addr}{l c:Nat}{f:List Value}(y:w.heap[q]? =some (.cells #[] e))(C:n0<=q)(r:f.length=l*zs.length)(s:gD w a f)(D:∀u∈f,u.oneCell'=true)(A:l<=1000000) (v:∀n w',cC n0 e zs w' n l f->(∀W,Ext W w->W.heap.size<=n0->Ext W w')->k n w'):un V.prog (builtin .append #[p,p] t B #[.slice (some ⟨q,0,none⟩) 0 0,.slice a l c]) w k:=by
 have d:=Dn (zs:=zs) C y;have g:0<zs.length:=by obtain⟨_,i,z,_,_,_,_,_,h⟩:=m;exact h
 have E:=ck.lt_of_heap y;rcases s with rfl|⟨b,o,rfl,s⟩
 ·obtain rfl:l=0:=by
   rcases Nat.eq_zero_or_pos l with h|h
   ·exact h
   ·have:=Nat.mul_pos h g;simp at r;omega
  exact rM m (Nat.le_refl _) (v _ _ d λW h _=>h)
 ·rcases Nat.eq_zero_or_pos l with rfl|x
  ·obtain rfl:f=[]:=by simpa using r
   exact rM m (Nat.le_refl _) (v _ _ d λW h _=>h)
  ·exact wA m d (by omega) r x (λj u F=>by rw[eN];exact s j u F) D (by omega) λn w' G H _=>v n w' (by simpa using G) λW h I=>h.gN H d I
end
theorem F9:A1 139 166 (qg 166):=⟨by kernel_rfl,Tryz.t166,_,by kernel_rfl,rfl,by kernel_rfl,by kernel_rfl,by decide+kernel,by decide⟩
def rQ(f:FuncId)(e:TypeId)(zs:List Value):Prop:=∀(a:Option Addr) (l c:Nat) (b:List Value) (w:World),b.length=l*zs.length->(a=none->l=0)->gD w a b->(∀u∈b,u.oneCell'=true)->l<=1000000->Calls V.prog f #[.slice a l c] w (eG λv d=>Ext w d/\cC w.heap.size e zs d v l b)
theorem Ga:rQ 128 3 [.int .i64 0]:=by
 intro a l c g w e i j k b;refine go V.func128 Tryz.ntmps128 ?_;refine pA oH ⟨λh=>?_,λh=>dB [] 3 λp q f d m=>pB oH m d e (j.ext f) k b λr s n o=>⟨_,rfl,o w f (Nat.le_refl _),n⟩⟩;obtain rfl:=i (by simpa using h);obtain rfl:g=[]:=by simpa using e
 exact⟨_,rfl,Ext.refl _,cC.nil _ _ _ _⟩
theorem Lq:A1 26 29 [.int .i64 0,.slice none 0 0]:=⟨by kernel_rfl,Tryz.t29,_,by kernel_rfl,rfl,by kernel_rfl,by kernel_rfl,by decide+kernel,by decide⟩
theorem Gb:A1 222 154 [.int .u8 0]:=⟨by kernel_rfl,Tryz.t154,_,by kernel_rfl,rfl,by kernel_rfl,by kernel_rfl,by decide+kernel,by decide⟩
theorem Gc:rQ 154 166 (qg 166):=by
 intro a l c g w e i j k b;refine go V.func154 Tryz.ntmps154 ?_;refine pA F9 ⟨λh=>?_,λh=>dB [] 166 λp q f d m=>pB F9 m d e (j.ext f) k b λr s n o=>⟨_,rfl,o w f (Nat.le_refl _),n⟩⟩;obtain rfl:=i (by simpa using h);obtain rfl:g=[]:=by simpa using e
 exact⟨_,rfl,Ext.refl _,cC.nil _ _ _ _⟩
theorem Ge:rQ 155 29 [.int .i64 0,.slice none 0 0]:=by
 intro a l c g w e i j k b;refine go V.func155 Tryz.ntmps155 ?_;refine pA Lq ⟨λh=>?_,λh=>dB [] 29 λp q f d m=>pB Lq m d e (j.ext f) k b λr s n o=>⟨_,rfl,o w f (Nat.le_refl _),n⟩⟩;obtain rfl:=i (by simpa using h);obtain rfl:g=[]:=by simpa using e
 exact⟨_,rfl,Ext.refl _,cC.nil _ _ _ _⟩
theorem Gf:rQ 199 154 [.int .u8 0]:=by
 intro a l c g w e i j k b;refine go V.func199 Tryz.ntmps199 ?_;refine pA Gb ⟨λh=>?_,λh=>dB [] 154 λp q f d m=>pB Gb m d e (j.ext f) k b λr s n o=>⟨_,rfl,o w f (Nat.le_refl _),n⟩⟩;obtain rfl:=i (by simpa using h);obtain rfl:g=[]:=by simpa using e
 exact⟨_,rfl,Ext.refl _,cC.nil _ _ _ _⟩
theorem dV.cells{w:World}{a:Option Addr}{l:List Nat}(h:dV w a l):gD w a (eJ l):=by
 rcases l with _|⟨x,r⟩
 ·exact .inl rfl
 ·obtain⟨b,o,rfl,_⟩:=h 0 (by simp);refine .inr ⟨b,o,rfl,λj u d=>?_⟩;have c:j<(x::r).length:=by simpa[eJ]using(List.getElem?_eq_some_iff.1 d).1
  obtain⟨f,g,e,i⟩:=h j c;obtain⟨rfl,rfl⟩:b=f/\o=g:=by injection e with e;injection e with k m;exact⟨k,m⟩
  rw[i];have:(eJ (x::r))[j]? =some (.int .i64 ((x::r)[j]:Nat)):=by simp only[eJ,List.getElem?_map,List.getElem?_eq_getElem c];rfl
  rw[this]at d;exact d
theorem dV.nq{w:World}{l:List Nat}(h:dV w none l):l.length=0:=by
 rcases l with _|⟨x,r⟩
 ·rfl
 ·obtain⟨b,o,e,_⟩:=h 0 (by simp);cases e
theorem tk(l:List Nat):∀u∈eJ l,u.oneCell'=true:=λu a=>by obtain⟨n,_,rfl⟩:=List.mem_map.1 a;rfl
theorem iC{l:List Nat}{a:Option Addr}{c:Nat}{w:World}(h:dV w a l)(b:l.length<=1000000):Calls V.prog 128 #[.slice a l.length c] w (eG λv w'=>Ext w w'/\dN w.heap.size w' v l):=
 Ga a l.length c (eJ l) w (by simp[eJ]) (λe=>by subst e;exact h.nq) h.cells (tk l) b
def ry(w:World)(a:Option Addr)(c:List (List Nat)):Prop:=∀k (h:k<c.length),∃b o d e,a=some ⟨b,o,none⟩/\w.cell? ⟨b,o+k,none⟩=some (.slice d c[k].length e)/\dV w d c[k]/\c[k].length<=e
theorem ry.ext{w w':World}{a:Option Addr}{c:List (List Nat)}(h:ry w a c)(e:Ext w w'):ry w' a c:=λk d=>by obtain⟨b,o,f,g,i,j,l,m⟩:=h k d;exact⟨b,o,f,g,i,e.cell j,l.ext e,m⟩
def gd(n0:Nat)(w:World)(v:Value)(a:List (List Nat)):Prop:=∃b:List Value,cC n0 27 [.slice none 0 0] w v a.length b/\b.length=a.length/\∀k (h:k<a.length),∃u,b[k]? =some u/\dN n0 w u a[k]
theorem gd.ext{n0:Nat}{w w':World}{v:Value}{a:List (List Nat)}(h:gd n0 w v a)(e:Ext w w'):gd n0 w' v a:=by obtain⟨b,c,d,f⟩:=h;refine⟨b,c.ext e,d,λk g=>?_⟩;obtain⟨u,i,j⟩:=f k g;exact⟨u,i,j.ext e⟩
theorem gd.row{n0:Nat}{w:World}{v:Value}{d:List (List Nat)}(h:gd n0 w v d):∃a c,v=.slice a d.length c/\ry w a d/\d.length<=c:=by
 obtain⟨s,⟨t,⟨g,rfl⟩|⟨b,c,x,y,rfl,i,z,j,A,l,B⟩⟩,C,e⟩:=h
 ·exact⟨none,0,by rw[g],λk f=>by omega,by omega⟩
 ·refine⟨_,c,rfl,λk f=>?_,j⟩;obtain⟨u,m,n⟩:=e k f;obtain⟨o,p,rfl,q,r⟩:=n.row;exact⟨b,0,o,p,rfl,cd i (by rw[Nat.zero_add,l k (by omega)];exact m),q,r⟩
theorem jp{n0 k t i:Nat}{zs d m f:List Value}{w:World}{v j:Value}{l l':Nat}(h:cC n0 t zs w v l m)(n:cC k i d w j l' f)(o:t≠i)(b:Nat)(p:ce v b):¬ce j b:=λg=>by
 obtain⟨_,_,rfl⟩:=p;obtain⟨_,_,rfl⟩:=g;obtain⟨_,⟨_,e⟩|⟨s,_,u,_,e,q,_⟩⟩:=h
 ·cases e
 obtain⟨_,⟨_,c⟩|⟨x,_,r,_,c,a,_⟩⟩:=n
 ·cases c
 injection e with e;injection c with c;have e:=congrArg Addr.block (Option.some.inj e);have c:=congrArg Addr.block (Option.some.inj c);simp only at e c;subst e;subst c;rw[q]at a;injection a with a;injection a with _ a;exact o a
theorem IA{w:World}{k:Value->World->Prop}{t:TypeId}{s:Array Bool}{n0:Nat}{v:Value}{d:List (List Nat)}(h:gd n0 w v d)(n:n0<=w.heap.size){b c:Nat}{u:Value}{l:List Nat}(o:dN n0 w u l)(y:w.heap[b]? =some (.cells [u].toArray 27))(e:d.length+1<=1000000) (z:∀j w',gd n0 w' j (d++[l])->(∀W,Ext W w->W.heap.size<=n0->Ext W w')->k j w'):un V.prog (builtin .append #[66,66] t s #[v,.slice (some ⟨b,0,none⟩) 1 c]) w k:=by
 obtain⟨A,m,q,B⟩:=h;have f:u.oneCell'=true:=by obtain⟨a,c,rfl,_⟩:=o.row;rfl
 refine gC Ll m n y e (λj w' C p I=>z j w' ⟨A++[u],by simpa using C,by simp[q],λi D=>?_⟩ λW E F=>E.gN p m F) rfl (by simp[oF,f]);rcases Nat.lt_or_ge i d.length with g|G
 ·obtain⟨x,H,r⟩:=B i g;refine⟨x,by rw[List.getElem?_append_left (by omega)];exact H,?_⟩;rw[List.getElem_append_left g];exact r.keep p (jp r m (by decide))
 ·obtain rfl:i=d.length:=by simp at D;omega
  refine⟨u,by rw[List.getElem?_append_right (by omega)];simp[q],?_⟩;simp only[List.getElem_append_right (Nat.le_refl _),Nat.sub_self,List.getElem_cons_zero];exact o.keep p (jp o m (by decide))
theorem dN.low{n0 a:Nat}{w:World}{v:Value}{l:List Nat}(h:dN n0 w v l)(g:a<=n0):dN a w v l:=by
 obtain⟨d,h|⟨b,c,e,i,f⟩⟩:=h
 ·exact⟨d,.inl h⟩
 ·exact⟨d,.inr ⟨b,c,e,by omega,f⟩⟩
theorem A5(a:List (List Nat))(la:Option Addr)(lc:Nat)(w:World)(j:ry w la a)(i:a.length<=100000)(m:∀l∈a,l.length<=100000):Calls V.prog 131 #[.slice la a.length lc] w (eG λv w'=>Ext w w'/\gd w.heap.size w' v a):=by
 refine go V.func131 Tryz.ntmps131 ?_;refine cA (fw (n:=a.length) (λk v=>[(3,v),(6,.slice la a.length lc),(7,.int .i64 a.length),(8,.int .i64 k)]) (λk v w'=>Ext w w'/\gd w.heap.size w' v (a.take k)) (.slice none 0 0) ⟨⟨rfl,rfl,rfl,rfl,trivial⟩,Ext.refl _,[],cC.nil _ _ _ _,rfl,λk c=>by simp at c⟩ ?_ ?_ ?_)
 ·rintro k v w' c ⟨e,d⟩;exact cY ⟨rfl,rfl,⟨rfl,rfl,rfl,rfl,trivial⟩,e,d⟩
 ·rintro k v w' c ⟨e,d⟩;obtain⟨b,o,z,A,rfl,p,q,_⟩:=(j.ext e) k c;refine dT k c (cg p (cf (iC q (by have:=m _ (List.getElem_mem c);omega)) λu B f=>?_));obtain⟨h,f⟩:=f;refine dB [u] 27 (λC D g r s=>IA ((d.ext h).ext g) (by have:=e.size;have:=h.size;have:=g.size;omega) ((f.low e.size).ext g) s (by simp;omega) λt E x y=>cq ⟨t,⟨rfl,rfl,rfl,rfl,trivial⟩,y w ((e.trans h).trans g) (Nat.le_refl _),?_⟩) ?_
  ·rw[List.take_succ_eq_append_getElem c];exact x
  ·obtain⟨F,G,rfl,_⟩:=f.row;intro w;kernel_rfl
 ·rintro v w' ⟨e,d⟩;rw[List.take_length]at d;exact⟨_,rfl,e,d⟩
theorem gq{m:Type}{N b:Nat}(n:Nat){d:Code}{l:L}{w:World}{Q:QW}(i:Nat->m->L)(J:Nat->m->World->Prop)(o:m)(r:Sub (i 0 o) l/\J 0 o w)
 (f:∀k s w,k<=n->J k s w->WC V.prog AU N d (λe l' w'=>match e with
  | .normal=>k<n/\∃s',Sub (i (k+1) s') l'/\J (k+1) s' w'
  |e=>ij b Q e l' w') (i k s) w):iz V.prog N (Code.block b (Code.loop d)) l w Q:=by
 refine⟨λa p=>?_⟩;refine wp_block ?_;refine lT (λj a w=>∃k s,k<=n/\j=n-k/\Fr N (i k s) a/\J k s w) n ⟨0,o,Nat.zero_le _,by omega,p.sub r.1,r.2⟩ ?_;rintro j a w ⟨k,s,t,rfl,p,u⟩;refine wp_mono (eZ gG _ _ _ a w p (f k s w t u)) ?_;rintro e A B ⟨q,c,h⟩;cases e with
 |normal=>
  obtain⟨v,s',x,y⟩:=h;exact⟨n-(k+1),by omega,k+1,s',by omega,rfl,c.sub x,y⟩
 |exit j=>
  simp only[Exit.then,Exit.inBlock];by_cases g:j=b
  ·subst g;rw[if_pos rfl];simp only[ij,Nat.beq_refl]at h;exact⟨q,c,h⟩
  ·rw[if_neg g];have:Nat.beq j b=false:=by
    cases z:Nat.beq j b with
    |false=>rfl
    |true=>exact absurd (Nat.eq_of_beq_eq_true z) g
   simp only[ij,this]at h;exact⟨q,c,h⟩
 |_=>exact⟨q,c,h⟩
theorem A6(l l':List Int)(la d:Option Addr)(lc g:Nat)(w:World)(r:gM w la l)(j:gM w d l')(n:l.length<=100000):
 Calls V.prog 58 #[.slice la l.length lc,.slice d l'.length g] w (eG λv w'=>v=.bool (decide (l=l'))/\Ext w w'):=by
 refine go V.func58 Tryz.ntmps58 ?_;refine cA (cA (eP ⟨λh=>?_,λh=>?_⟩))
 ·have h:¬l=l':=λe=>by subst e;simp at h
  exact⟨_,rfl,by simp[h],Ext.refl _⟩
 ·have h:l.length=l'.length:=by simp at h;omega
  refine gq l.length (λk (_:Unit)=>[(0,.slice la l.length lc),(1,.slice d l'.length g),(5,.int .i64 k)]) (λk _ w'=>Ext w w'/\l.take k=l'.take k) () ⟨⟨rfl,rfl,rfl,trivial⟩,Ext.refl _,by simp⟩ ?_;rintro k _ w' y ⟨e,p⟩;refine cA (cY ⟨λa=>?_,λi=>?_⟩)
  ·have a:k<l.length:=by simpa using a
   have c:k<l'.length:=by omega
   obtain⟨b,o,rfl,s⟩:=r k a;obtain⟨z,A,rfl,m⟩:=j k c;refine cF cB (mA k a (cn (e.cell s) (mA k c (cn (e.cell m) (J6 λB q=>⟨λf=>?_,λf=>?_⟩)))))
   ·have f:¬l[k]=l'[k]:=of_decide_eq_true f;have:¬l=l':=λe=>by subst e;exact f rfl
    exact⟨_,rfl,by simp[this],e.trans q⟩
   ·have f:l[k]=l'[k]:=by simpa using f
    refine cq ⟨a,(),⟨rfl,rfl,rfl,trivial⟩,e.trans q,?_⟩;rw[List.take_succ_eq_append_getElem a,List.take_succ_eq_append_getElem c,p,f]
  ·have i:¬k<l.length:=by simpa using i
   have t:k=l.length:=by omega
   have:l=l':=by have u:l.take k=l:=List.take_of_length_le (by omega);have x:l'.take k=l':=List.take_of_length_le (by omega);rw[<-u,<-x,p]
   exact⟨_,rfl,by simp[this],e⟩
theorem IB{l l':List Nat}:kT l=kT l'↔l=l':=by
 constructor
 ·intro h;induction l generalizing l' with
  |nil=>cases l' with
   |nil=>rfl
   |cons x r=>simp[kT]at h
  |cons x r a=>cases l' with
   |nil=>simp[kT]at h
   |cons y s=>
    simp only[kT,List.map_cons,List.cons.injEq]at h;rw[a h.2,show x=y by omega]
 ·rintro rfl;rfl
theorem l7(l l':List Nat)(la a:Option Addr)(lc b:Nat)(w:World)(e:dV w la l)(d:dV w a l')(c:l.length<=100000):
 Calls V.prog 58 #[.slice la l.length lc,.slice a l'.length b] w (eG λv w'=>v=.bool (decide (l=l'))/\Ext w w'):=by
 have:=A6 (kT l) (kT l') la a lc b w e.ints d.ints (by simpa[kT]using c);have f:(kT l).length=l.length:=by simp[kT]
 have g:(kT l').length=l'.length:=by simp[kT]
 rw[f,g]at this;simpa only[IB]using this
theorem yY(l l':List (List Nat))(la g:Option Addr)(lc i:Nat)(w:World)(y:ry w la l)(n:ry w g l')(s:l.length<=100000)(p:∀x∈l,x.length<=100000):
 Calls V.prog 71 #[.slice la l.length lc,.slice g l'.length i] w (eG λv w'=>v=.bool (decide (l=l'))/\Ext w w'):=by
 refine go V.func71 Tryz.ntmps71 ?_;refine cA (cA (eP ⟨λh=>?_,λh=>?_⟩))
 ·have h:¬l=l':=λe=>by subst e;simp at h
  exact⟨_,rfl,by simp[h],Ext.refl _⟩
 ·have h:l.length=l'.length:=by simp at h;omega
  refine gq l.length (λk (_:Unit)=>[(0,.slice la l.length lc),(1,.slice g l'.length i),(5,.int .i64 k)]) (λk _ w'=>Ext w w'/\l.take k=l'.take k) () ⟨⟨rfl,rfl,rfl,trivial⟩,Ext.refl _,by simp⟩ ?_;rintro k _ w' E ⟨e,t⟩;refine cA (cY ⟨λa=>?_,λj=>?_⟩)
  ·have a:k<l.length:=by simpa using a
   have d:k<l'.length:=by omega
   obtain⟨b,o,x,c,rfl,z,f,_⟩:=(y.ext e) k a;obtain⟨F,G,A,B,rfl,q,r,_⟩:=(n.ext e) k d;refine cF cB (mA k a (cn z (mA k d (cn q (jg (.bool (decide (l[k]=l'[k]))) (λu m=>l7 l[k] l'[k] x A c B u (f.ext m) (r.ext m) (p _ (List.getElem_mem a))) (nj λu m=>⟨λf=>?_,λf=>?_⟩))))))
   ·have f:¬l[k]=l'[k]:=by simpa using f
    have:¬l=l':=λe=>by subst e;exact f rfl
    exact⟨_,rfl,by simp[this],e.trans m⟩
   ·have f:l[k]=l'[k]:=by simpa using f
    refine cq ⟨a,(),⟨rfl,rfl,rfl,trivial⟩,e.trans m,?_⟩;rw[List.take_succ_eq_append_getElem a,List.take_succ_eq_append_getElem d,t,f]
  ·have j:¬k<l.length:=by simpa using j
   have:l=l':=by have C:l.take k=l:=List.take_of_length_le (by omega);have D:l'.take k=l':=List.take_of_length_le (by omega);rw[<-C,<-D,t]
   exact⟨_,rfl,by simp[this],e⟩
structure rz(w:World)(gp mk ms:Nat)(G:Gd)(w':World):Prop where
 g:kS gp mk ms G w'
 lo:w.heap.size<=gp/\w.heap.size<=mk/\w.heap.size<=ms
 km:w'.heap[mk]? =some (.map #[] 0)
 sm:w'.heap[ms]? =some (.map #[] 0)
theorem rz.ext{w w1 a:World}{gp mk ms:Nat}{G:Gd}(h:rz w gp mk ms G w1)(e:Ext w1 a):rz w gp mk ms G a:=⟨h.g.ext e,h.lo,e.at_ h.km,e.at_ h.sm⟩
theorem rz.low{w0 w w1:World}{gp mk ms:Nat}{G:Gd}(h:rz w gp mk ms G w1)(e:Ext w0 w):rz w0 gp mk ms G w1:=⟨h.g,by have:=e.size;have:=h.lo;omega,h.km,h.sm⟩
theorem vi{G:Gd}{c:Option Addr}{dc:Nat}{w:World}(g:fZ w c G.doors)(a:G.doors.length<=100000)(h: -1000000<=G.streets/\G.streets<=1000000):
 Calls V.prog 144 #[gV G c dc] w (eG λv w'=>Ext w w'/\((ed G≠0/\v=.tuple #[.pointer none,.int .i64 (ed G)])\/(ed G=0/\∃b mk d,v=.tuple #[.pointer (some ⟨b,0,none⟩),.int .i64 0]/\rz w b mk d G w'))):=by
 refine(Di G c dc w g a h).mono ?_;rintro e w' ⟨v,rfl,i,j⟩;refine⟨v,rfl,i,j.imp id ?_⟩;rintro⟨k,b,mk,d,l,m,n,o,p,q,f⟩;exact⟨k,b,mk,d,l,m,⟨n,o,p⟩,q,f⟩
theorem fW{G:Gd}{a:Option Addr}{dc b:Nat}{w:World}(c:w.heap[b]? =some (.cells (gL G a dc).toArray 24)){k:Value->World->Prop}(h:k (gV G a dc) w):fS V.prog (Instr.loadAt 24 (.pointer (some ⟨b,0,none⟩))) w k:=
 dp (vs:=gL G a dc) (λj v d=>by rw[Nat.zero_add];exact cd c (by simpa using d)) h
theorem tl{G:Gd}{h:Option Addr}{dc:Nat}{w:World}(j:fZ w h G.doors)(a:G.doors.length<=100000)(k: -1000000<=G.streets/\G.streets<=1000000){l:List Int}{la:Option Addr}{lc:Nat}(m:gM w la l)(n:l.length<=100000)(o:l.length<=lc):
 Calls V.prog 113 #[gV G h dc,.slice la l.length lc] w (eG λv w'=>Ext w w'/\((ed G≠0/\v=.tuple #[.pointer none,.int .i64 (ed G)])\/(ed G=0/\∃c mk e,v=.tuple #[.pointer (some ⟨c,0,none⟩),.int .i64 (eH G.doors.length l)]/\rz w c mk e G w'))):=by
 refine go V.func113 Tryz.ntmps113 ?_;refine eO λr s b p q=>fW q (cf (vi (dc:=dc) (j.ext b) a k) ?_);rintro v t ⟨f,⟨d,rfl⟩|⟨d,c,mk,e,rfl,i⟩⟩
 ·exact eP (je (by simpa using d) ⟨_,rfl,b.trans f,.inl ⟨d,rfl⟩⟩)
 ·exact eP (nh (by simp) (cL (vg i.g (m.ext (b.trans f)) n o) ⟨_,rfl,b.trans f,.inr ⟨d,c,mk,e,rfl,i.low b⟩⟩))
end Go.Proofs.W
