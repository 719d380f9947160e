/- Laws that the proof needs, part 25. Conditions: none. -/
import Derived.Test.YteeagjkaflglpaaGreatX24
set_option maxRecDepth 100000
set_option maxHeartbeats 8000000
set_option linter.all false
namespace Go.Proofs.W
open Go.RowKit
def ki(G:Gd)(xs:List Sx)(a:Nat)(d:Nat):Bool:=(il G (xs.getD d oe) a).isEmpty||!jH G (dB [d])
def Gi(G:Gd)(xs:List Sx)(a:Nat):List Nat:=(cW G.tries xs).filter (ki G xs a)
def QN(n0:Nat)(o:Option (List (Nat×List Nat)))(v:ce)(w:cd):Prop:=match o with
 |none=>v=.tuple #[.slice none 0 0,.int .i64 11]
 |some a=>∃u,v=.tuple #[u,.int .i64 0]/\nO n0 w u a
section
variable{G:Gd}{da:Option Addr}{dc:Nat}{w:cd}{l:List Tq}{la:Option Addr}{lc:Nat}
def Ib(s:gD w da G.doors)(i:G.doors.length<=100000)(t: -1000000<=G.streets/\G.streets<=1000000)(x:sI w la l)(m:l.length<=100000)(a:Int):
 Calls V.prog 48 #[gV G da dc,.slice la l.length lc,.int .i64 a] w (qa λv w'=>Ext w w'/\((ee G l a 0≠0/\v=.tuple #[.slice none 0 0,.int .i64 (ee G l a 0)])\/(ee G l a 0=0/\QN w.heap.size (z7 G (iU G (gO G l).2 a.toNat)) v w'))):=by
 refine go V.func48 Tryz.ntmps48 ?_;refine fo λE F c y n=>di n (ck (mB (dc:=dc) (s.ext c) i t (x.ext c) m a 0) ?_);rintro v H ⟨o,⟨d,rfl⟩|⟨d,I,J,mk,K,rfl,j,z⟩⟩;exact eG (iR (by simpa using d) (.inl ⟨_,rfl,c.trans o,.inl ⟨d,rfl⟩⟩));have A:=j.g.lo;have L:=c.size;obtain⟨f,rfl,p,_⟩:=lG j.k.g.tY d;refine eG (iG (by simp) (fG (QK (n0:=w.heap.size) j.k (λb n=>n.elim) j.g.U1 (by omega) (by omega) z p) (λw' h=>.inr ⟨rfl,h⟩) ?_));rintro v B ⟨C,e⟩;have q:Ext w B:=C.1.from (c.trans o) (cz _);rw[ql];cases r:z7 G (iU G (gO G l).2 f)with
 |none=>
  rw[r]at e;have e:v=.tuple #[.slice none 0 0,.bool false]:=e;subst e;exact eu (iR rfl (.inl ⟨_,rfl,q,.inr ⟨d,rfl⟩⟩))
 |some M=>
  rw[r]at e;obtain⟨u,rfl,D⟩:=e;exact eu (iG rfl (.inl ⟨_,rfl,q,.inr ⟨d,u,rfl,D.low (by have:=(c.trans o).size;omega)⟩⟩))
def Gj(r:gD w da G.doors)(e:G.doors.length<=100000)(s: -1000000<=G.streets/\G.streets<=1000000)(t:sI w la l)(n:l.length<=100000)(d canv:Int):
 Calls V.prog 55 #[gV G da dc,.slice la l.length lc,.int .i64 d,.int .i64 canv] w (qa λv w'=>Ext w w'/\((ee G l d canv≠0/\v=.tuple #[.slice none 0 0,.int .i64 (ee G l d canv)])\/(ee G l d canv=0/\∃a c,v=.tuple #[.slice a (oL (tO G (gO G l).2 d.toNat canv) (cW G.tries (gO G l).2)).length c,.int .i64 0]/\eO w' a (oL (tO G (gO G l).2 d.toNat canv) (cW G.tries (gO G l).2))/\(oL (tO G (gO G l).2 d.toNat canv) (cW G.tries (gO G l).2)).length<=c))):=by
 refine go V.func55 Tryz.ntmps55 ?_;refine fo λC D i u o=>di o (ck (mB (dc:=dc) (r.ext i) e s (t.ext i) n d canv) ?_);rintro v E ⟨q,⟨j,rfl⟩|⟨j,F,H,mk,I,rfl,m,x⟩⟩;exact eG (iR (by simpa using j) (.inl ⟨_,rfl,i.trans q,.inl ⟨j,rfl⟩⟩));have y:=m.g.lo;have J:=i.size;obtain⟨f,rfl,p,_⟩:=lG m.k.g.tY j;refine eG (iG (by simp) (fG (Om (n0:=w.heap.size) (canv:=canv) m.k (λb o=>o.elim) m.g.U1 (by omega) (by omega) x p) (λw' h=>.inr ⟨rfl,h⟩) ?_));rintro v K ⟨z,a,c,rfl,A,B⟩;rw[ql];exact .inl ⟨_,rfl,z.1.from (i.trans q) (cz _),.inr ⟨j,a,c,rfl,A,B⟩⟩
def Ad(hd:gD w da G.doors)(X:G.doors.length<=100000)(hs: -1000000<=G.streets/\G.streets<=1000000)(hr:sI w la l)(ag:l.length<=100000)(h:Int):
 Calls V.prog 53 #[gV G da dc,.slice la l.length lc,.int .i64 h] w (fy λv w'=>Ext w w'/\((ee G l h 0≠0/\v=.tuple #[.slice none 0 0,.int .i64 (ee G l h 0)])\/(ee G l h 0=0/\∃u,v=.tuple #[u,.int .i64 0]/\dE w.heap.size w' u (Gi G (gO G l).2 h.toNat)))):=by
 refine go V.func53 Tryz.ntmps53 ?_;refine fo λw1 gb Y ar m=>di m (ck (mB (dc:=dc) (hd.ext Y) X hs (hr.ext Y) ag h 0) ?_);rintro v w2 ⟨e2,⟨z,rfl⟩|⟨z,wp,gp,mk,K,rfl,Z,W⟩⟩;exact eG (iR (by simpa using z) ⟨_,rfl,Y.trans e2,.inl ⟨z,rfl⟩⟩);have au:=Z.g.lo;have s1:=Y.size;have aa:=Z.k.g.tY;have h5:=aa.many;have ah:=Z.k.len;obtain⟨f,rfl,ai,_⟩:=lG aa z;obtain⟨c,aj⟩:∃c,c=(gO G l).2:=⟨_,rfl⟩;have hk:=Z.k;rw[<-aj]at hk W ah⊢;have aq:=pm G.tries c;refine eG (iG (by simp) (ck (yi hk) ?_));rintro ov L ⟨e3,al⟩;obtain⟨oa,oc,rfl,am,av⟩:=al.row;have E2:=Y.trans e2;have E3:=E2.trans e3;have s2:=E2.size;rw[ql];have M:∀b,¬cw (.slice none 0 0) b:=λb m=>by obtain⟨_,_,m⟩:=m;cases m
 refine cD ?_;refine gC (n:=(cW G.tries c).length) (λk v=>[(2,.int .i64 f),(8,cK wp),(10,v),(24,.slice oa (cW G.tries c).length oc),(25,.int .i64 (cW G.tries c).length),(26,.int .i64 k)]) (λk v w'=>iB w.heap.size L w'/\ku (cw v) mk K G w'/\dE L.heap.size w' v (((cW G.tries c).take k).filter (ki G c f))) (.slice none 0 0) ⟨⟨rfl,rfl,rfl,rfl,rfl,rfl,trivial⟩,iB.refl _ _,(Z.g.U1.ext e3).more λb m=>absurd m (M b),cA.nil _ _ _ _⟩ ?_ ?_ ?_;rintro k v I ab hJ;exact cV ⟨rfl,rfl,⟨rfl,rfl,rfl,rfl,rfl,rfl,trivial⟩,hJ⟩;rintro k v I B ⟨N,C,y⟩;obtain⟨b,o,rfl,hc⟩:=(am.gi N) k B;obtain⟨d,O⟩:∃d,d=(cW G.tries c)[k]:=⟨_,rfl⟩;have P:d<c.length:=by rw[O];exact kh (dt B)
 rw[<-O]at hc;have Q:=hk.gi ((e3.gi w.heap.size).trans N);have J:=lP.dB (G:=G) h5 (l:=[d]) λx W=>by rw[fD.1 W];omega
 obtain⟨sa,sc,g1,g2,g3,g4⟩:=Q.at_;have R:=xP w.heap.size mk K G (cw v);have an:∀b,cw v b->b<I.heap.size:=λb m=>(cA.blk y m).2;have A:(cW G.tries c).take (k+1)=(cW G.tries c).take k++[d]:=by rw[gP B,O]
 have aw:(((cW G.tries c).take k).filter (ki G c f)).length<=5:=by have:=List.length_filter_le (ki G c f) ((cW G.tries c).take k);simp only[yy]at this;omega
 have S:ki G c f d=((il G c[d] f).isEmpty||!jH G (dB [d])):=by unfold ki;rw[getD_eq P]
 have same:∀j,MA w.heap.size mk K G (cw v) I j->ki G c f d=false->iB w.heap.size L j/\ku (cw v) mk K G j/\dE L.heap.size j v (((cW G.tries c).take (k+1)).filter (ki G c f)):=λj m5 hf=>by
  refine⟨N.trans m5.1,m5.2 C,?_⟩;have e:((cW G.tries c).take (k+1)).filter (ki G c f)=((cW G.tries c).take k).filter (ki G c f):=by rw[A,List.filter_append,List.filter_cons,hf];simp
  rw[e];exact cA.gi y m5.1
 have ac:∀j,MA w.heap.size mk K G (cw v) I j->ki G c f d=true->∀k':ce->cd->Prop,(∀D q,iB w.heap.size L q->ku (cw D) mk K G q->dE L.heap.size q D (((cW G.tries c).take (k+1)).filter (ki G c f))->k' D q)->∀(p:Nat) (q:cd),Ext j q->q.heap[p]? =some (.cells [.int .i64 d].toArray 3)->∀(t:cg) (cb:Array Bool),wY V.prog (builtin .append #[27,27] t cb #[v,.slice (some ⟨p,0,none⟩) 1 1]) q k':=λj m5 ht k' ab p q E m t cb=>by
  have F:MA w.heap.size mk K G (cw v) I q:=R.trans _ _ _ m5 (E.ma _ _ _ _ _);have ad:dE L.heap.size q v (((cW G.tries c).take k).filter (ki G c f)):=cA.gi y F.1;have T:=F.2 C;refine fP oG ad (by have:=N.size;have:=F.1.size;omega) m (by omega) λD w7 z r h3=>ab D w7 ((N.trans F.1).iS r ad (cz _)) ?_ ?_;exact T.go (λb m=>h3 b m) (λb o v m hc=>r.ef hc m) λb o m ho=>r.fg ho λhf=>by rcases m with rfl|rfl;exact T.ak hf;exact T.asm hf
  have e:((cW G.tries c).take (k+1)).filter (ki G c f)=((cW G.tries c).take k).filter (ki G c f)++[d]:=by rw[A,List.filter_append,List.filter_cons,ht];simp
  rw[e];simpa[dE,fi]using z
 refine dI k B (cu hc ?_);refine cQ R ?_;refine .rel (λu j=>eW I.heap.size j u (il G c[d] f)) (λu a b hu e=>hu.gi e.1) (λj s=>ck (F2 (Q.gi s.1) P (W _ (dt P)) ai) λu q ⟨E,hu⟩=>⟨hu.low s.1.size,E.ma _ _ _ _ _⟩) ?_;refine .exact (.int .i64 (il G c[d] f).length) (λj s U ao=>?_) ?_;obtain⟨a3,c3,rfl,_⟩:=eW.row (show eW I.heap.size j U (il G c[d] f)from ao);exact cD ⟨rfl,R.refl _⟩;refine Ja ⟨λr=>?_,λr=>?_⟩ R;have r:(il G c[d] f).length=0:=by have:=cY r;omega
 have hl:ki G c f d=true:=by rw[S,l9 r];rfl
 exactλj s U _=>iR rfl (dJ [.int .i64 d] 3 λq p E H m=>ac j s hl _ (λD w7 q1 q2 q3=>cq ⟨D,⟨rfl,rfl,rfl,rfl,rfl,rfl,trivial⟩,q1,q2,q3⟩) p q E m _ _);have r:¬(il G c[d] f).length=0:=λe=>by have:=dQ r;omega
 have ae:(il G c[d] f).isEmpty=false:=by
  cases hq:il G c[d] f with
  |nil=>rw[hq]at r;exact absurd rfl r
  |cons _ _=>rfl
 refine .exact (cK gp) (λj s=>cu (s.1.cell g1) ⟨rfl,R.refl _⟩) ?_;refine .rel (λu j=>∃p,u=.slice (some ⟨p,0,none⟩) 1 1/\j.heap[p]? =some (.cells [Value.int .i64 d].toArray 3)) (λu a b ⟨p,z,r⟩ e=>⟨p,z,e.1.at_ r⟩) (λj s=>dJ [.int .i64 d] 3 λq p E H m=>⟨⟨p,rfl,m⟩,E.ma _ _ _ _ _⟩) ?_;refine .exact (.int .u8 (dB [d])) (λj s af ap=>?_) ?_;obtain⟨p,rfl,H⟩:∃p,af=.slice (some ⟨p,0,none⟩) 1 1/\j.heap[p]? =some (.cells [Value.int .i64 d].toArray 3):=ap
 exact cS (pj [d] _ 1 j (λi hi=>⟨p,0,rfl,ci H (by have:i=0:=by simp at hi;omega
                                                  subst this;rfl)⟩) (λx W=>by rw[fD.1 W];omega) (by simp)) ⟨rfl,R.refl _⟩
 refine .exact (.bool (jH G (dB [d]))) (λj s=>ck (Dh (Q.g.gi s.1) (λb m=>dl (an b m) s.1.size) (s.2 C) (by omega) J.1 J.2) λu q ⟨z,r⟩=>⟨z,r⟩) ?_;refine rE ?_ R;intro j s af _ U _;refine⟨λh3=>?_,λh3=>?_⟩;have hl:ki G c f d=true:=by rw[S,ae,h3];rfl
 exact dJ [.int .i64 d] 3 λq p E H m=>ac j s hl _ (λD w7 q1 q2 q3=>cq ⟨D,⟨rfl,rfl,rfl,rfl,rfl,rfl,trivial⟩,q1,q2,q3⟩) p q E m _ _;have hl:ki G c f d=false:=by rw[S,ae,h3];rfl
 exact cq ⟨v,⟨rfl,rfl,rfl,rfl,rfl,rfl,trivial⟩,same j s hl⟩;rintro v I ⟨N,C,y⟩;rw[kX]at y;exact⟨_,rfl,N.from E3 (cz _),.inr ⟨z,v,rfl,y.low E3.size⟩⟩
end
def Ae(w:cd)(a:Option Addr)(ps:List (Int×List Int)):Prop:=∀k (h:k<ps.length),∃b o c d,a=some ⟨b,o,none⟩/\w.cell? ⟨b,o+k*2,none⟩=some (.int .i64 ps[k].1)/\w.cell? ⟨b,o+k*2+1,none⟩=some (.slice c ps[k].2.length d)/\ja w c ps[k].2/\ps[k].2.length<=d
theorem Ae.ext{w w':cd}{a:Option Addr}{ps:List (Int×List Int)}(h:Ae w a ps)(e:Ext w w'):Ae w' a ps:=λk c=>by obtain⟨b,o,d,f,g,i,j,l,m⟩:=h k c;exact⟨b,o,d,f,g,e.cell i,e.cell j,l.ext e,m⟩
def jS(n:Int)(a last:Int):List (Int×List Int)->Int
 |[]=>0
 |p::r=>if jX p.1 a last then(if gx n p.2=0 then jS n a last r else gx n p.2)else 3
def Ds(n a last:Int)(ps:List (Int×List Int))(k:Nat)(b:k<ps.length):jS n a last (ps.drop k)=if jX ps[k].1 a last then(if gx n ps[k].2=0 then jS n a last (ps.drop (k+1))else gx n ps[k].2)else 3:=by rw[qH b];rfl
def Pe(p:Int×List Int):Nat×List Nat:=(p.1.toNat,p.2.map Int.toNat)
theorem Af{n:Nat}{a last:Int}:∀{ps:List (Int×List Int)},jS n a last ps=0->∀p∈ps,jX p.1 a last=true/\gx n p.2=0
 |p::r,h,q,b=>by simp only[jS]at h;split at h;rename_i d;split at h;rename_i c;rcases eQ.1 b with rfl|b;exact⟨d,c⟩;exact Af h q b;rename_i c;exact absurd h c;omega
theorem Ae.FI{n:Nat}{c last:Int}{w:cd}{a:Option Addr}{ps:List (Int×List Int)}(h:Ae w a ps)(I:0<=c)(v:jS n c last ps=0):wA w a (ps.map Pe)/\∀p∈ps.map Pe,(p.1:Int)<=last/\∀d∈p.2,d<n:=by
 have s:=Af v;refine⟨λk x=>?_,λp y=>?_⟩;have g:k<ps.length:=by simpa using x
 obtain⟨b,o,z,A,B,C,j,t,l⟩:=h k g;obtain⟨m,r⟩:=s _ (dt g);obtain⟨f,i,u⟩:=n9 r;have e:(lU f).map Int.toNat=f:=by simp[lU,yw]
 have D:((ps.map Pe)[k]).2=f:=by simp[Pe,i,e]
 have E:(((ps.map Pe)[k]).1:Int)=ps[k].1:=by simp only[jX,ez,jk]at m;simp only[List.getElem_map,Pe];omega
 rw[D];rw[i]at j t l;have F:(lU f).length=f.length:=by simp[lU]
 rw[F]at j l;exact⟨b,o,z,A,B,by rw[E];exact C,j,t.FI,l⟩;obtain⟨q,G,rfl⟩:=jj.1 y;obtain⟨m,r⟩:=s q G;obtain⟨f,i,u⟩:=n9 r;have e:(lU f).map Int.toNat=f:=by simp[lU,yw]
 simp only[jX,ez,jk]at m;refine⟨by simp only[Pe];omega,λd H=>u d ?_⟩;simpa[Pe,i,e]using H
def oi(G:Gd)(l:List Tq)(a canv:Int)(ps:List (Int×List Int)):Bool×Int:=
 if ee G l a canv=0 then(if jS G.doors.length a (2*G.days-1) ps=0 then(sq G (gO G l).2 canv (ps.map Pe),0)else(false,jS G.doors.length a (2*G.days-1) ps))else(false,ee G l a canv)
section
variable{G:Gd}{da:Option Addr}{dc:Nat}{w:cd}{l:List Tq}{la:Option Addr}{lc:Nat}
def Dt(Q:gD w da G.doors)(B:G.doors.length<=100000)(hs: -1000000<=G.streets/\G.streets<=1000000)(hr:sI w la l)(R:l.length<=100000)(h canv:Int){ps:List (Int×List Int)}{pa:Option Addr}{pc:Nat}(hp:Ae w pa ps)(S:ps.length<=20)(C:∀p∈ps,p.2.length<=1000):
 Calls V.prog 38 #[gV G da dc,.slice la l.length lc,.int .i64 h,.int .i64 canv,.slice pa ps.length pc] w (fy λv w'=>Ext w w'/\v=.tuple #[.bool (oi G l h canv ps).1,.int .i64 (oi G l h canv ps).2]):=by
 refine go V.func38 Tryz.ntmps38 ?_;refine fo λw1 gb N ad hb=>di hb (ck (mB (dc:=dc) (Q.ext N) B hs (hr.ext N) R h canv) ?_);rintro v w2 ⟨e2,⟨z,rfl⟩|⟨z,wp,gp,mk,ms,rfl,hg,hx⟩⟩;exact eG (iR (by simpa using z) ⟨_,rfl,N.trans e2,by unfold oi;rw[cr z];rfl⟩);have D:=hg.k;have u:=D.g.tY;have h5:=u.many;have T:=D.len;obtain⟨f,rfl,ae,af⟩:=lG u z;have O:=N.trans e2;obtain⟨sa,sc,g1,g2,g3,g4⟩:=D.at_;refine eG (iG (by simp) (cD ?_));refine ei (n:=ps.length) (λk=>[(2,.int .i64 f),(3,.int .i64 canv),(4,.slice pa ps.length pc),(12,cK wp),(28,.slice pa ps.length pc),(29,.int .i64 ps.length),(30,.int .i64 k)]) (λk w'=>Ext w2 w'/\jS G.doors.length f (2*G.days-1) ps=jS G.doors.length f (2*G.days-1) (ps.drop k)) ⟨⟨rfl,rfl,rfl,rfl,rfl,rfl,rfl,trivial⟩,Ext.refl _,rfl⟩ ?_ ?_ ?_;rintro k U ag hJ;exact cV ⟨rfl,rfl,⟨rfl,rfl,rfl,rfl,rfl,rfl,rfl,trivial⟩,hJ⟩;rintro k U s ⟨A,a⟩;obtain⟨b,o,a',c',rfl,q1,q2,q3,q4⟩:=(hp.ext (O.trans A)) k s;rw[Ds _ _ _ _ _ s]at a;have x:=C _ (dt s);obtain⟨p,W⟩:∃p,p=ps[k]:=⟨_,rfl⟩;rw[<-W]at q1 q2 q3 q4 a x;refine fF k 2 s (dP (vs:=[.int .i64 p.1,.slice a' p.2.length c']) (λj v E=>?_) (eF λw4 xb X Y F=>cZ F λZ k5 t=>?_));match j,E with
 |0,E=>cases E;exact q1
 |1,E=>cases E;exact q2
 have t:Z.heap[xb]? =some (.cells #[.int .i64 p.1,.slice a' p.2.length c'] 29):=t;have H:Ext U Z:=X.cy k5 Y;have m:=A.trans H;have I:=D.ext m;have J:∀w' (c:Int),Ext Z w'->jS G.doors.length f (2*G.days-1) ps=c->c≠0->∃v,Ending.returned (one [.bool false,.int .i64 c])=.returned v/\Ext w w'/\v=.tuple #[.bool (oi G l f canv ps).1,.int .i64 (oi G l f canv ps).2]:=λw' c e hc h0=>⟨_,rfl,(O.trans m).trans e,by unfold oi;rw[cx z,hc,cr h0];rfl⟩;refine cQ cO (cG (ci t rfl) (cG (m.cell g1) (ia cO _ (λP r=>last_at (I.g.ext r)) (ia cO _ (λP r=>ej _ _ _ P) (rE λP r=>⟨λy=>?_,λy=>?_⟩)))));have y:jX p.1 f (2*G.days-1)=false:=by simpa using y
 exact J P 3 r (by rw[a,cr (by rw[y];simp)]) (by omega);have y:jX p.1 f (2*G.days-1)=true:=by simpa using y
 rw[cx y]at a;have aa:=I.ext r;refine cQ cO (cG (r.cell (m.cell g1)) (cG (ci (r.at_ t) rfl) (ia cO _ (λw7 K=>BL (aa.g.ext K) ((q3.ext (H.trans r)).ext K) (by omega) q4) λw7 K=>eG ⟨λi=>?_,λi=>?_⟩)));have i:¬gx G.doors.length p.2=0:=cY i;exact J w7 _ (r.trans K) (by rw[a,cr i]) i;have i:gx G.doors.length p.2=0:=by simpa using i
 rw[cx i]at a;exact cq ⟨⟨rfl,rfl,rfl,rfl,rfl,rfl,rfl,trivial⟩,(m.trans r).trans K,a⟩;rintro U ⟨A,a⟩;have a:jS G.doors.length f (2*G.days-1) ps=0:=by rw[a,List.drop_of_length_le (cz _)];rfl
 obtain⟨ab,L⟩:=(hp.ext (O.trans A)).FI (by omega) a;have ah:=u.days;have M:=Lk (canv:=canv) (pc:=pc) (D.ext A) hx ab (by simpa using S) λq hq=>⟨by have:=(L q hq).1;omega,by obtain⟨q',ac,rfl⟩:=jj.1 hq;have:=C q' ac;simpa[Pe]using this,λd Q=>by rw[T];exact(L q hq).2 d Q⟩;rw[kV]at M;refine dq M λw4 X=>⟨_,rfl,(O.trans A).trans X,?_⟩;unfold oi;rw[cx z,cx a];rfl
end
def Gk(l l':List (Nat×List Nat))(la i:Option Addr)(lc m:Nat)(w:cd)(B:wA w la l)(q:wA w i l')(z:l.length<=100000)(r:∀x∈l,x.2.length<=100000):
 Calls V.prog 42 #[.slice la l.length lc,.slice i l'.length m] w (fy λv w'=>v=.bool (decide (l=l'))/\Ext w w'):=by
 refine go V.func42 Tryz.ntmps42 ?_;refine cD (cD (eG ⟨λh=>?_,λh=>?_⟩));have h:¬l=l':=λe=>by subst e;simp at h
 exact⟨_,rfl,by simp[h],Ext.refl _⟩;have h:l.length=l'.length:=by simp at h;omega
 refine dZ l.length (λk (_:Unit)=>[(0,.slice la l.length lc),(1,.slice i l'.length m),(5,.int .i64 k)]) (λk _ w'=>Ext w w'/\l.take k=l'.take k) () ⟨⟨rfl,rfl,rfl,trivial⟩,Ext.refl _,by simp⟩ ?_;rintro k _ w' I ⟨e,A⟩;refine cD (cV ⟨λa=>?_,λn=>?_⟩);have a:k<l.length:=by simpa using a
 have g:k<l'.length:=by omega
 obtain⟨b,o,x,c,rfl,C,s,D,_⟩:=(B.gi (e.gi 0)) k a;obtain⟨J,K,E,F,rfl,t,p,u,_⟩:=(q.gi (e.gi 0)) k g;refine cQ cO (kK k 2 a (cG C (kK k 2 g (cG t (RJ ⟨λd=>?_,λd=>?_⟩)))));have d:¬l[k].1=l'[k].1:=λe=>cY d (by rw[e]);have:¬l=l':=λe=>by subst e;exact d rfl
 exactλy j=>iR rfl ⟨_,rfl,by simp[this],e.trans j⟩;have d:l[k].1=l'[k].1:=by have:=dQ d;omega
 refine kK k 2 a (cG s (kK k 2 g (cG p (je (.bool (decide (l[k].2=l'[k].2))) (λy j=>nC l[k].2 l'[k].2 x E c F y (D.ext j) (u.ext j) (r _ (dt a))) (rE λy j=>⟨λf=>?_,λf=>?_⟩)))));have f:¬l[k].2=l'[k].2:=by simpa using f
 have:¬l=l':=λe=>by subst e;exact f rfl
 exact⟨_,rfl,by simp[this],e.trans j⟩;have f:l[k].2=l'[k].2:=by simpa using f
 refine cq ⟨a,(),⟨rfl,rfl,rfl,trivial⟩,e.trans j,?_⟩;rw[gP a,gP g,A,Prod.ext d f];have n:¬k<l.length:=by simpa using n
 have:l=l':=by have G:l.take k=l:=qL (by omega);have H:l'.take k=l':=qL (by omega);rw[<-G,<-H,A]
 exact⟨_,rfl,by simp[this],e⟩
def nI:List Tq:=[⟨0,0,false⟩,⟨1,0,true⟩,⟨2,1,false⟩]
def Ag:dr fj [0,1,2,3]=38/\dF fj [0,1,2,3]=55/\kg fj [0,1,2,3]=0:=by decide+kernel
def Gl:kg fj [3,2,1,0]=0/\fJ fj (dB [3,2,1,0])=some [[0,1],[2,3]]:=by decide+kernel
def Dv:List Sx:=[⟨1,1,0,false,true,false,false,false⟩,⟨1,1,0,true,true,false,false,false⟩,⟨1,0,1,false,true,false,false,false⟩,oe]
def Ou:gO fj nI=(0,Dv):=by rfl
def Ah:ee fj nI 5 0=0/\ee fj nI 2 0=0/\ee fj nI 2 1=0/\ee fj [] 3 1=0:=by decide+kernel
def QO:Gi fj Dv 5=[2,3]:=by decide+kernel
def W4:dR:=⟨[0,2,3],[[[3],[5]],[[2],[4]],[[2,5],[3,4]]],[0,1,-1,-1,1,1,-1,-1,1,1,-1,-1,1,2,-1,-1,0,0,0,0,0,0,0,0,0,0,0,0,0,0,0,0]⟩
def Ov:iU fj Dv 2=W4:=by unfold iU W4;rw[dR.mk.injEq];exact⟨by decide+kernel,by decide+kernel,by decide+kernel⟩
def QP:gm W4=some ([0,1,1],1,2):=by decide+kernel
def QQ:z7 fj (iU fj Dv 2)=some [(3,[0,3]),(4,[2,3])]:=by rw[Ov];unfold z7;rw[QP];decide+kernel
def Ll:oi fj nI 2 1 [(3,[0,3]),(4,[2,3])]=(true,0):=by decide+kernel
def Ic:List Sx:=[oe,oe,oe,oe]
def QS:gO fj []=(0,Ic):=by rfl
def Ow:oL (tO fj Ic 3 1) (cW fj.tries Ic)=[0,1]:=by decide+kernel
def lz{w:cd}{b:Nat}{t:cg}{l:List Int}(h:w.heap[b]? =some (.cells (l.map (Value.int .i64)).toArray t)):ja w (some ⟨b,0,none⟩) l:=λk a=>⟨b,0,rfl,ci h (by rw[cB];simp[ew a])⟩
def lA{w:cd}{b:Nat}{t:cg}{l:List Nat}(h:w.heap[b]? =some (.cells (fi l).toArray t)):eO w (some ⟨b,0,none⟩) l:=λk a=>⟨b,0,rfl,ci h (by rw[cB];simp[fi,ew a])⟩
theorem B6:∀(l:List Tq) (k:Nat) (a:k<l.length) (j:Nat) (v:ce),(Pc l[k])[j]? =some v->(l.flatMap Pc)[k*3+j]? =some v
 |x::r,0,_,j,v,h=>by have b:j<(Pc x).length:=(gy.1 h).1;simp only[ky,Nat.zero_mul,cB];rw[kz b];exact h
 |x::r,k+1,a,j,v,h=>by have c:=B6 r k (by simpa using a) j v (by simpa using h);have d:(Pc x).length=3:=rfl;simp only[ky];rw[mQ (by omega),d,show(k+1)*3+j-3=k*3+j by omega];exact c
def Lm{w:cd}{b:Nat}{t:cg}{l:List Tq}(h:w.heap[b]? =some (.cells (l.flatMap Pc).toArray t)):sI w (some ⟨b,0,none⟩) l:=λk a=>⟨b,0,rfl,λj v c=>ci h (by rw[cB];simpa using B6 l k a j v c)⟩
def Ox(w:cd):sI w none []:=λk a=>by simp at a
def sr{w:cd}{k:ce->cd->Prop}{pan:List PanicEntry->cd->Prop}(a:∀w' b,Ext w w'->gD w' (some ⟨b,0,none⟩) fj.doors->k (gV fj (some ⟨b,0,none⟩) 4) w'):P9 V.prog 95 [] w k pan:=
 ck (NI w) λv w' ⟨e,b,_,c,d⟩=>by subst c;exact a w' b e (Ku d)
def Ai{w:cd}{k:ce->cd->Prop}{pan:List PanicEntry->cd->Prop}(a:∀w' b,Ext w w'->sI w' (some ⟨b,0,none⟩) nI->k (.slice (some ⟨b,0,none⟩) 3 3) w'):P9 V.prog 96 [] w k pan:=
 ck (Kv w) λv w' ⟨e,b,_,c,d⟩=>by subst c;exact a w' b e (Lm d)
def Oy:fj.doors.length<=100000/\ -1000000<=fj.streets/\fj.streets<=1000000:=by decide
def Ln:tK fj [0,1,2,3]=.tuple #[.agg (fp 38 55).toArray,.int .i64 0]:=by unfold tK;rw[cx Ag.2.2];show Value.tuple #[.agg (fp (dr fj [0,1,2,3]) (dF fj [0,1,2,3])).toArray,.int .i64 0]=_;rw[Ag.1,Ag.2.1]
def ZA{f:cm}{fn:Func}{c:Code}{xs:Array ce}{w:cd}{R:Ending->cd->Prop}{N:Nat}(b:V.prog.funcs[f]? =some fn)(d:fn.ntmps=N)(h:kq V.prog N c (xs.toList.zipIdx.map λp=>(p.2,p.1)) w (QR V.prog fn.results.toList R))
 (e:fn.body=some c:=by rfl)(a:Nat.ble xs.toList.length N=true:=by rfl):Calls V.prog f xs w R:=by
 have:=RA (args:=xs.toList) N b e d (sO a) h;simpa using this
def ii(w:cd):Calls V.prog 26 #[] w (qa λv w'=>v=.bool true/\Ext w w'):=by
 obtain⟨c,d⟩:=Oy;refine ZA V.func26 Tryz.ntmps26 (kq.seq jG ?_);refine kq.seq jG ?_;refine sr λw1 b1 e1 aD=>dJ [.int .i64 0,.int .i64 1,.int .i64 2,.int .i64 3] 3 λw2 bs e2 bo aE=>?_;refine dq (BN (l:=[0,1,2,3]) (aD.ext e2) c d (lz aE) (by decide) (by decide)) λw3 e3=>?_;rw[Ln];refine eF λw4 H e4 aF S=>cZ S λw5 k5 I=>?_;have I:w5.heap[H]? =some (.cells (fp 38 55).toArray 56):=I;have E5:Ext w w5:=((e1.trans e2).trans e3).trans (e4.cy k5 aF);refine kq.qA (l0:=[(1,cK H),(2,.int .i64 0)]) ⟨rfl,rfl,trivial⟩ (kq.seq jG ?_);refine sr λw6 b6 e6 aG=>dJ [.int .i64 3,.int .i64 2,.int .i64 1,.int .i64 0] 3 λw7 bt e7 bp aH=>?_;refine ck (xt (ds:=[3,2,1,0]) (aG.ext e7) c d (lz aH) (by decide) (by decide)) ?_;rintro v w8 ⟨e8,⟨h,_⟩|⟨_,T⟩⟩;exact absurd Gl.1 h;have aI:fJ fj (dB (([3,2,1,0]:List Int).map Int.toNat))=some [[0,1],[2,3]]:=Gl.2;rw[aI]at T;obtain⟨U,rfl,aJ⟩:=T;have E8:=((E5.trans e6).trans e7).trans e8;have aK:=((e6.trans e7).trans e8).at_ I;refine kq.qA (l0:=[(1,cK H),(2,.int .i64 0),(3,U),(4,.int .i64 0)]) ⟨rfl,rfl,rfl,rfl,trivial⟩ (kq.seq jG ?_);refine sr λw9 b9 e9 aL=>Ai λbu bv J W=>?_;refine ck (Ad (l:=nI) (aL.ext J) c d W (by decide) 5) ?_;rintro v bw ⟨X,⟨h,_⟩|⟨_,lv,rfl,Y⟩⟩;exact absurd Ah.1 h;have aM:Gi fj (gO fj nI).2 (5:Int).toNat=[2,3]:=by rw[Ou];exact QO
 rw[aM]at Y;have aN:=((E8.trans e9).trans J).trans X;have z:=(e9.trans J).trans X;refine kq.qA (l0:=[(1,cK H),(2,.int .i64 0),(3,U),(4,.int .i64 0),(5,lv),(6,.int .i64 0)]) ⟨rfl,rfl,rfl,rfl,rfl,rfl,trivial⟩ (kq.seq jG ?_);refine sr λbx bz Z aa=>Ai λbA bB K ab=>?_;refine fG (Ib (l:=nI) (aa.ext K) c d ab (by decide) 2) (λw' h=>.inr ⟨rfl,h⟩) ?_;rintro v bC ⟨ac,⟨h,_⟩|⟨_,T⟩⟩;exact absurd Ah.2.1 h;have aO:z7 fj (iU fj (gO fj nI).2 (2:Int).toNat)=some [(3,[0,3]),(4,[2,3])]:=by rw[Ou];exact QQ
 rw[aO]at T;obtain⟨pv,rfl,aP⟩:=T;have aQ:=((aN.trans Z).trans K).trans ac;have e:=(Z.trans K).trans ac;refine kq.qA (l0:=[(1,cK H),(2,.int .i64 0),(3,U),(4,.int .i64 0),(5,lv),(6,.int .i64 0),(7,pv),(8,.int .i64 0)]) ⟨rfl,rfl,rfl,rfl,rfl,rfl,rfl,rfl,trivial⟩ (kq.seq jG ?_);refine sr λbD bE aR ad=>?_;refine fG (Gj (l:=[]) (la:=none) (lc:=0) ad c d (Ox _) (by decide) 3 1) (λw' h=>.inr ⟨rfl,h⟩) ?_;rintro v bF ⟨aS,⟨h,_⟩|⟨_,va,vc,rfl,ae,_⟩⟩;exact absurd Ah.2.2.2 h;have aT:oL (tO fj (gO fj []).2 (3:Int).toNat 1) (cW fj.tries (gO fj []).2)=[0,1]:=by rw[QS];exact Ow
 rw[aT]at ae⊢;have b:=aR.trans aS;have af:=aQ.trans b;refine kq.qA (l0:=[(1,cK H),(2,.int .i64 0),(3,U),(4,.int .i64 0),(5,lv),(6,.int .i64 0),(7,pv),(8,.int .i64 0),(9,.slice va 2 vc),(10,.int .i64 0)]) ⟨rfl,rfl,rfl,rfl,rfl,rfl,rfl,rfl,rfl,rfl,trivial⟩ (kq.seq jG ?_);refine sr λbG bH aU ag=>Ai λbI bJ ah ai=>dJ [.int .i64 0,.int .i64 3] 3 λbK A aV aW aj=>?_;refine dq (Db 3 _ 2 2 _) λbL aX=>dJ [.int .i64 2,.int .i64 3] 3 λbM B aY aZ ak=>?_;refine dq (Db 4 _ 2 2 _) λbN al=>?_;refine dJ [.int .i64 3,.slice (some ⟨A,0,none⟩) 2 2,.int .i64 4,.slice (some ⟨B,0,none⟩) 2 2] 29 λa0 n am a1 g=>?_;have o:=(aX.trans aY).trans (al.trans am)
 have L:Ae a0 (some ⟨n,0,none⟩) [(3,[0,3]),(4,[2,3])]:=λk hk=>by
  have an:k<2:=hk;obtain rfl|rfl:k=0\/k=1:=by omega
  exact⟨n,0,some ⟨A,0,none⟩,2,rfl,ci g rfl,ci g rfl,lz (o.at_ aj),cz _⟩;exact⟨n,0,some ⟨B,0,none⟩,2,rfl,ci g rfl,ci g rfl,lz ((al.trans am).at_ ak),cz _⟩
 have f:=aV.trans o;refine ck (Dt (l:=nI) (ps:=[(3,[0,3]),(4,[2,3])]) ((ag.ext ah).ext f) c d (ai.ext f) (by decide) 2 1 L (by decide) (by decide)) ?_;rintro v bO ⟨a2,rfl⟩;rw[Ll];have a:=((aU.trans ah).trans f).trans a2;have bP:=af.trans a;refine kq.qA (l0:=[(1,cK H),(2,.int .i64 0),(3,U),(4,.int .i64 0),(5,lv),(6,.int .i64 0),(7,pv),(8,.int .i64 0),(9,.slice va 2 vc),(10,.int .i64 0),(11,.bool true),(12,.int .i64 0)]) ⟨rfl,rfl,rfl,rfl,rfl,rfl,rfl,rfl,rfl,rfl,rfl,rfl,trivial⟩ (kq.seq jG ?_);have ao:=(((z.trans e).trans b).trans a).at_ aK;refine eh (iR rfl ?_);refine eh (iR rfl ?_);refine eh (iR rfl ?_);refine eh (iR rfl ?_);refine eh (iR rfl ?_);refine eh (iR rfl ?_);refine iR rfl ?_;refine dP (vs:=fp 38 55) (λj v hj=>by rw[cB];exact ci ao (by simpa using hj)) ?_;refine dA (.agg (fp 38 55).toArray) ?_;refine dA (.bool true) ?_;refine iR rfl ?_;refine dJ [.int .i64 0,.int .i64 1] 3 λbQ C x a3 ap=>?_;refine dJ [.int .i64 2,.int .i64 3] 3 λbR D p a4 aq=>?_;refine dJ [.slice (some ⟨C,0,none⟩) 2 2,.slice (some ⟨D,0,none⟩) 2 2] 27 λar q m a5 E=>?_;obtain⟨wa,wc,rfl,a6,_⟩:=aJ.row;have au:=((((z.trans e).trans b).trans a).trans x).trans (p.trans m)
 have y:tJ ar (some ⟨q,0,none⟩) [[0,1],[2,3]]:=λk hk=>by
  have an:k<2:=hk;obtain rfl|rfl:k=0\/k=1:=by omega
  exact⟨q,0,some ⟨C,0,none⟩,2,rfl,ci E rfl,lA (l:=[0,1]) ((p.trans m).at_ ap),cz _⟩;exact⟨q,0,some ⟨D,0,none⟩,2,rfl,ci E rfl,lA (l:=[2,3]) (m.at_ aq),cz _⟩
 refine dq (xg [[0,1],[2,3]] [[0,1],[2,3]] wa _ wc 2 ar (a6.ext au) y (by decide) (by decide)) λbS M=>?_;refine iR (by decide) ?_;refine dJ [.int .i64 2,.int .i64 3] 3 λa7 bq N a8 av=>?_;obtain⟨a9,ba,rfl,bb,_⟩:=Y.row;have O:=(((((e.trans b).trans a).trans x).trans (p.trans m)).trans M).trans N;refine dq (nC [2,3] [2,3] a9 _ ba 2 a7 (bb.ext O) (lA av) (by decide)) λbT aw=>?_;refine iR (by decide) ?_;refine dJ [.int .i64 0,.int .i64 3] 3 λbU F bc bd ax=>?_;refine dq (Db 3 _ 2 2 _) λbV ay=>?_;refine dJ [.int .i64 2,.int .i64 3] 3 λbW G az be aA=>?_;refine dq (Db 4 _ 2 2 _) λbX P=>?_;refine dJ [.int .i64 3,.slice (some ⟨F,0,none⟩) 2 2,.int .i64 4,.slice (some ⟨G,0,none⟩) 2 2] 29 λaB r Q bf i=>?_;obtain⟨bg,bh,rfl,bi,_⟩:=aP.row;have s:=((bc.trans ay).trans (az.trans P)).trans Q;have R:=((((((b.trans a).trans x).trans (p.trans m)).trans M).trans N).trans aw).trans s
 have t:wA aB (some ⟨r,0,none⟩) [(3,[0,3]),(4,[2,3])]:=λk hk=>by
  have an:k<2:=hk;obtain rfl|rfl:k=0\/k=1:=by omega
  exact⟨r,0,some ⟨F,0,none⟩,2,rfl,ci i rfl,ci i rfl,lA (l:=[0,3]) (((ay.trans (az.trans P)).trans Q).at_ ax),cz _⟩;exact⟨r,0,some ⟨G,0,none⟩,2,rfl,ci i rfl,ci i rfl,lA (l:=[2,3]) ((P.trans Q).at_ aA),cz _⟩
 refine dq (Gk [(3,[0,3]),(4,[2,3])] [(3,[0,3]),(4,[2,3])] bg _ bh 2 aB (bi.gi (R.gi 0)) t (by decide) (by decide)) λbY bj=>?_;refine iR (by decide) ?_;refine dJ [.int .i64 0,.int .i64 1] 3 λbk br bl bm aC=>?_;have u:=((((((a.trans x).trans (p.trans m)).trans M).trans N).trans aw).trans s).trans (bj.trans bl);refine dq (nC [0,1] [0,1] va _ vc 2 bk (ae.ext u) (lA aC) (by decide)) λbZ bn=>?_;refine kq.of jG (.inl ⟨_,rfl,?_,(af.trans u).trans bn⟩);show Value.bool (decide (([0,1]:List Nat)=[0,1]))=.bool true;rw[decide_eq_true rfl]
def u64(n:Int):Int:=IntKind.wrap .u64 n
def Jw(n:Int):0<=u64 n:=by unfold u64 IntKind.wrap;simp only[IntKind.signed,Bool.false_and,iq,eo];exact Int.emod_nonneg _ (by decide)
def TC(a b:Int):Int:=u64 (BitVec.ofInt 64 a^^^BitVec.ofInt 64 b).toNat
section
variable{w:cd}{t:cg}{x y:dj}{a b:Int}
def qd:Sem.run V.prog (do eqGuard .xor t x y (.int .u64 a) (.int .u64 b);binOp .xor t (.int .u64 a) (.int .u64 b)) w=.ok (.int .u64 (TC a b)) w:=rfl
def Aj:Sem.run V.prog (do eqGuard .mul t x y (.int .u64 a) (.int .u64 b);binOp .mul t (.int .u64 a) (.int .u64 b)) w=.ok (.int .u64 (u64 (a*b))) w:=rfl
def Oz:Sem.run V.prog (do eqGuard .add t x y (.int .u64 a) (.int .u64 b);binOp .add t (.int .u64 a) (.int .u64 b)) w=.ok (.int .u64 (u64 (a+b))) w:=rfl
def Jx(n:Nat)(d:n<=64)(c:b=n:=by rfl):Sem.run V.prog (do eqGuard .shl t x y (.int .u64 a) (.int .u64 b);binOp .shl t (.int .u64 a) (.int .u64 b)) w=.ok (.int .u64 (u64 (a*2^n))) w:=by
 subst c;show Sem.run V.prog (Op.shift .shl .u64 a .u64 n) w=_;unfold Op.shift;rw[cr (by omega)];have:min (n:Int).toNat IntKind.u64.bits=n:=by simp[IntKind.bits];omega
 rw[this];rfl
def sx(n:Nat)(d:n<=64)(c:b=n:=by rfl):Sem.run V.prog (do eqGuard .shr t x y (.int .u64 a) (.int .u64 b);binOp .shr t (.int .u64 a) (.int .u64 b)) w=.ok (.int .u64 (a.fdiv (2^n))) w:=by
 subst c;show Sem.run V.prog (Op.shift .shr .u64 a .u64 n) w=_;unfold Op.shift;rw[cr (by omega)];have:min (n:Int).toNat IntKind.u64.bits=n:=by simp[IntKind.bits];omega
 rw[this];rfl
def OA(h:b≠0):Sem.run V.prog (do eqGuard .rem t x y (.int .u64 a) (.int .u64 b);binOp .rem t (.int .u64 a) (.int .u64 b)) w=.ok (.int .u64 (a.tmod b)) w:=by show Sem.run V.prog (Op.intDiv .rem .u64 a b) w=_;unfold Op.intDiv;rw[cr h];rfl
def xU:Tryz.prog.underlying 3=some (.int .i64):=by kernel_rfl
def OB:Tryz.prog.underlying 119=some (.int .u64):=by kernel_rfl
def Jy:Sem.run V.prog (convert 3 119 (.int .i64 a)) w=.ok (.int .u64 (u64 a)) w:=by unfold convert;simp only[Sem.run_bind,fZ xU,fZ OB,Result.andThen_ok];rfl
def QT:Sem.run V.prog (convert 119 3 (.int .u64 a)) w=.ok (.int .i64 (IntKind.wrap .i64 a)) w:=by unfold convert;simp only[Sem.run_bind,fZ xU,fZ OB,Result.andThen_ok];rfl
end
section
variable{E:cd->cd->Prop}{w:cd}{kx:ce->Prop}{kr kp kl:fW->Prop}{lb ea:Bool}
def qe{s:Sem ce}(v:ce)(a:fw E)(b:∀w,Sem.run V.prog s w=.ok v w)(k:kx v):zr E E w (λw1 c=>iO V.prog s w1 c) kx kr kp lb kl ea:=.exact v (λw1 _=>⟨v,w1,b w1,rfl,a.refl _⟩) k
end
structure gI(db:Nat)(w:cd):Prop where
 at_:∃(la:Option Addr) (ns:List Int) (lc i:Nat) (s:Int),w.heap[db]? =some (.cells #[.slice la ns.length lc,.int .i64 i,.int .u64 s] 121)/\ja w la ns/\(∀b o,ns≠[]->la=some ⟨b,o,none⟩->b<db)/\i<=ns.length/\ns.length<=9223372036854775807
def ja.keep{w w':cd}{a:Option Addr}{l:List Int}{F:Nat->Prop}(h:ja w a l)(k:cN F w w')(f:∀b o,l≠[]->a=some ⟨b,o,none⟩->¬F b):ja w' a l:=λi c=>by obtain⟨b,o,d,g⟩:=h i c;exact⟨b,o,d,k.ef g (f b o (λe=>by subst e;exact absurd c (by simp)) d)⟩
def gI.lt{a:Nat}{w:cd}(h:gI a w):a<w.heap.size:=by obtain⟨c,d,e,i,s,b,_⟩:=h.at_;exact cF.lt_of_heap b
theorem gI.keep{a:Nat}{w w':cd}{F:Nat->Prop}(h:gI a w)(k:cN F w w')(c:∀b,F b->a<b):gI a w':=by obtain⟨f,g,j,i,s,l,m,d,n⟩:=h.at_;refine⟨f,g,j,i,s,k.fg l λx=>Nat.lt_irrefl _ (c _ x),m.keep k λb o p e q=>?_,d,n⟩;have:=d b o p e;have:=c b q;omega
def gI.ext{a:Nat}{w w':cd}(h:gI a w)(e:Ext w w'):gI a w':=h.keep (e.keep λ_=>False) λ_ h=>h.elim
def DE(c:Nat)(a b:cd):Prop:=cN (λx=>x=c) a b/\(gI c a->gI c b)
def Ext.de{a b:cd}(h:Ext a b)(c:Nat):DE c a b:=⟨h.keep _,λk=>k.ext h⟩
theorem DE.trans{d:Nat}{a b c:cd}(h:DE d a b)(k:DE d b c):DE d a c:=⟨h.1.trans k.1 (λ_ _ h=>h) λ_ _ h=>h,λx=>k.2 (h.2 x)⟩
def xV(d:Nat):fw (DE d):=⟨λw=>(Ext.refl w).de d,λa b c h k=>h.trans k,λw=>(Ext.drew w).de d⟩
def QU{c:Nat}{w:cd}(h:gI c w):Calls V.prog 104 #[cK c] w (fy λv w'=>(∃z:Int,v=.int .u64 z/\0<=z)/\DE c w w'):=by
 obtain⟨r,l,p,i,s,C,M,D,U,W⟩:=h.at_
 have t:∀w' (E:Int) (u:Nat),cN (λx=>x=c) w w'->w'.heap[c]? =some (.cells #[.slice r l.length p,.int .i64 u,.int .u64 E] 121)->u<=l.length->DE c w w':=λw' E u k F X=>
  ⟨k,λ_=>⟨r,l,p,u,E,F,M.keep k λb o G e F=>by have:=D b o G e;omega,D,X,W⟩⟩
 refine go V.func104 Tryz.ntmps104 ?_;refine cQ cO (cG (ci C rfl) (cG (ci C rfl) (qe _ cO (λ_=>Jx 13 (by decide)) (qe _ cO (λ_=>qd) λw1 N=>cZ (N.at_ C) λY H f=>?_))));replace f:Y.heap[c]? =some (.cells #[.slice r l.length p,.int .i64 i,.int .u64 (TC s (u64 (s*2^13)))] 121):=f;generalize TC s (u64 (s*2^13))=y at f;replace H:=(N.keep (λx=>x=c)).trans H (λ_ _ h=>h) λ_ _ h=>h;refine cQ cO (cG (ci f rfl) (cG (ci f rfl) (qe _ cO (λ_=>sx 7 (by decide)) (qe _ cO (λ_=>qd) λw3 O=>cZ (O.at_ f) λZ I g=>?_))));replace g:Z.heap[c]? =some (.cells #[.slice r l.length p,.int .i64 i,.int .u64 (TC y (y.fdiv (2^7)))] 121):=g;generalize TC y (y.fdiv (2^7))=A at g;replace I:=(H.trans (O.keep (λx=>x=c)) (λ_ _ h=>h) λ_ _ h=>h).trans I (λ_ _ h=>h) λ_ _ h=>h;refine cQ cO (cG (ci g rfl) (cG (ci g rfl) (qe _ cO (λ_=>Jx 17 (by decide)) (qe _ cO (λ_=>qd) λw5 P=>cZ (P.at_ g) λw6 m a=>?_))));replace a:w6.heap[c]? =some (.cells #[.slice r l.length p,.int .i64 i,.int .u64 (TC A (u64 (A*2^17)))] 121):=a;generalize TC A (u64 (A*2^17))=Q at a;replace m:=(I.trans (P.keep (λx=>x=c)) (λ_ _ h=>h) λ_ _ h=>h).trans m (λ_ _ h=>h) λ_ _ h=>h;refine cQ cO (cG (ci a rfl) (cG (ci a rfl) (jW (RH λw7 B=>⟨λn=>?_,λaa=>?_⟩))));have n:i<l.length:=by simpa using n
 replace a:=B.at_ a;replace m:=m.trans (B.keep (λx=>x=c)) (λ_ _ h=>h) λ_ _ h=>h;obtain⟨b,o,J,R⟩:=M.keep m (λb o G e F=>by have:=D b o G e;omega) i n;subst J;generalize l[i]=q at R;refine cQ cO (cG (ci a rfl) (cG (ci a rfl) (cG (ci a rfl) (me i n (cG R ?_)))));refine qe (.int .u64 (u64 q)) cO (λ_=>Jy) ?_;refine qe (.int .u64 (u64 (u64 q*13787848793156543929))) cO (λ_=>Aj) ?_;refine qe (.int .u64 (u64 (Q+u64 (u64 q*13787848793156543929)))) cO (λ_=>Oz) ?_;refineλw8 S=>cZ (S.at_ a) λw9 k9 j=>?_;generalize u64 (Q+u64 (u64 q*13787848793156543929))=T at j;replace j:w9.heap[c]? =some (.cells #[.slice (some ⟨b,o,none⟩) l.length p,.int .i64 i,.int .u64 T] 121):=j;refine cu (ci j rfl) (cq (cZ j λK L d=>?_));replace d:K.heap[c]? =some (.cells #[.slice (some ⟨b,o,none⟩) l.length p,.int .i64 ((i+1:Nat):Int),.int .u64 T] 121):=d;refine cu (ci d rfl) ?_;refine dA _ (dA _ (dA _ (dA _ (dA _ ⟨_,rfl,⟨_,rfl,Jw _⟩,?_⟩ λ_=>qd) λ_=>sx 31 (by decide)) λ_=>Aj) λ_=>qd) λ_=>sx 30 (by decide);exact t _ _ _ (((m.trans (S.keep (λx=>x=c)) (λ_ _ h=>h) λ_ _ h=>h).trans k9 (λ_ _ h=>h) λ_ _ h=>h).trans L (λ_ _ h=>h) λ_ _ h=>h) d (by omega);replace a:=B.at_ a;replace m:=m.trans (B.keep (λx=>x=c)) (λ_ _ h=>h) λ_ _ h=>h;refine cu (ci a rfl) ?_;refine dA _ (dA _ (dA _ (dA _ (dA _ ⟨_,rfl,⟨_,rfl,Jw _⟩,?_⟩ λ_=>qd) λ_=>sx 31 (by decide)) λ_=>Aj) λ_=>qd) λ_=>sx 30 (by decide);exact t _ _ _ m a U
def nJ{b:Nat}{w:cd}(h:gI b w)(n:Int)(g:n<=1000000):Calls V.prog 35 #[cK b,.int .i64 n] w (fy λv w'=>(∃z:Int,v=.int .i64 z/\0<=z/\(z<=n\/z=0))/\DE b w w'):=by
 refine go V.func35 Tryz.ntmps35 ?_;refine cV ⟨λ_=>⟨_,rfl,⟨0,rfl,by omega,.inr rfl⟩,(xV b).refl _⟩,λa=>?_⟩;have a:1<=n:=by simpa using a
 refine ck (QU h) ?_;rintro v i ⟨⟨z,rfl,c⟩,d⟩;refine dA _ (cq (dA _ (dA _ (dA _ ⟨_,rfl,⟨_,rfl,?_⟩,d⟩ λ_=>QT) λ_=>OA ?_) λ_=>Jy)) λ_=>sx 16 (by decide);have e:u64 (n+1)=n+1:=IntWalk.u64_in _ ⟨by omega,by omega⟩;rw[e];have f:0<=z.fdiv (2^16):=Int.fdiv_nonneg c (by decide);have j:=Int.tmod_nonneg (n+1) f;have k:(z.fdiv (2^16)).tmod (n+1)<n+1:=Int.tmod_lt_of_pos _ (by omega);rw[IntWalk.i64_in _ ⟨by omega,by omega⟩];omega;have e:u64 (n+1)=n+1:=IntWalk.u64_in _ ⟨by omega,by omega⟩;rw[e];omega
def kN{c:Nat}{w:cd}(h:gI c w)(a b:Int)(g: -1000000<=a/\a<=1000000)(i: -1000000<=b/\b<=1000000)(d:b-a<=1000000):Calls V.prog 30 #[cK c,.int .i64 a,.int .i64 b] w (fy λv w'=>(∃z:Int,v=.int .i64 z/\a<=z/\(z<=b\/z=a))/\DE c w w'):=by refine go V.func30 Tryz.ntmps30 ?_;refine fx (ck (nJ h _ d) ?_);rintro v j ⟨⟨z,rfl,k,e⟩,f⟩;exact cq ⟨_,rfl,⟨a+z,rfl,by omega,by omega⟩,f⟩
def Dw{a:Nat}{w:cd}(h:gI a w){l:List Int}{la:Option Addr}{lc:Nat}(f:ja w la l)(p:0<l.length)(g:l.length<=1000)(i:∀b o,la=some ⟨b,o,none⟩->b≠a):Calls V.prog 59 #[cK a,.slice la l.length lc] w (fy λv w'=>(∃z∈l,v=.int .i64 z)/\DE a w w'):=by
 refine go V.func59 Tryz.ntmps59 ?_;refine cD (fx (ck (nJ h _ (by omega)) ?_));rintro v q ⟨⟨z,rfl,r,j⟩,d⟩;obtain⟨k,rfl⟩:∃k:Nat,z=k:=⟨z.toNat,by omega⟩;have c:k<l.length:=by omega
 obtain⟨b,o,rfl,m⟩:=f.keep d.1 (λb o _ e n=>i b o e n) k c;exact dI k c (cu m ⟨_,rfl,⟨_,dt c,rfl⟩,d⟩)
def ko{w:cd}{l:List Int}{la:Option Addr}{lc:Nat}(g:ja w la l)(h:l.length<=9223372036854775807):Calls V.prog 27 #[.slice la l.length lc] w (fy λv w'=>Ext w w'/\∃c,v=cK c/\w.heap.size<=c/\gI c w'):=by
 refine go V.func27 Tryz.ntmps27 ?_;refine dA (.agg #[.slice la l.length lc,.int .i64 0,.int .u64 11400714819323198485]) (fo λp i d f j=>?_);refine⟨_,rfl,d,i,rfl,f,la,l,lc,0,11400714819323198485,j,g.ext d,λb o k e=>?_,fN _,h⟩;have m:0<l.length:=by rcases l with _|_;exact absurd rfl k;simp
 obtain⟨q,r,a,n⟩:=g 0 m;rw[e]at a;injection a with a;injection a with d s;have:=tD n;simp only at*;omega
def dE.at_{n0:Nat}{w:cd}{v:ce}{l:List Nat}(h:dE n0 w v l)(d:0<l.length):∃b c,v=.slice (some ⟨b,0,none⟩) l.length c/\n0<=b/\∀k (a:k<l.length),w.cell? ⟨b,0+k,none⟩=some (.int .i64 l[k]):=by obtain⟨b,c,e,f,g⟩:=cA.cell h d;exact⟨b,c,e,f,λk a=>by rw[cB];exact g k _ (by simp[fi,ew a])⟩
def eO.keep{w w':cd}{a:Option Addr}{l:List Nat}{F:Nat->Prop}(h:eO w a l)(k:cN F w w')(d:∀b o,a=some ⟨b,o,none⟩->¬F b):eO w' a l:=λi e=>by obtain⟨b,o,c,f⟩:=h i e;exact⟨b,o,c,k.ef f (d b o c)⟩
def mC(n0:Nat)(w:cd)(v:ce)(ds:List Dr):Prop:=cA n0 81 [.int .i64 0,.int .i64 0,.int .i64 0] w v ds.length (ds.flatMap dL)
theorem B7:∀ds:List Dr,(ds.flatMap dL).length=ds.length*3
 |[]=>rfl
 |d::r=>by have:=B7 r;simp[dL,this];omega
def mC.row{n0:Nat}{w:cd}{v:ce}{ds:List Dr}(h:mC n0 w v ds):∃a c,v=.slice a ds.length c/\gD w a ds/\ds.length<=c:=by obtain⟨n,⟨f,rfl⟩|⟨b,c,o,p,rfl,d,q,i,r,e,s⟩⟩:=h;exact⟨none,0,by rw[f],λk g=>by omega,by omega⟩;refine⟨_,c,rfl,λk g=>?_,i⟩;obtain⟨j,l,m⟩:=uI ds k g;have f:=B7 ds;refine⟨b,0,rfl,ci d ?_,ci d ?_,ci d ?_⟩;rw[cB,e _ (by omega)];exact j;rw[cB,e _ (by omega)];exact l;rw[cB,e _ (by omega)];exact m
def mC.Ie{n0:Nat}{w:cd}{a:Option Addr}{c:Nat}{ds:List Dr}(h:mC n0 w (.slice a ds.length c) ds):gD w a ds:=by obtain⟨b,d,e,h,_⟩:=h.row;injection e with e;rw[e];exact h
structure B8(n:Int)(d:Dr):Prop where
 st:0<=d.st/\d.st<=n-1
 at_:0<=d.at_/\d.at_<=20
 talk:1<=d.talk/\d.talk<=9
theorem xv{n:Int}:∀{ds:List Dr},(∀d∈ds,B8 n d)->nz n ds=0
 |[],_=>rfl
 |d::r,h=>by
  have e:=h d eR;have:rF n d=0:=by have a:=e.st;have b:=e.at_;have c:=e.talk;simp[rF,jX,a,b,c]
  simp only[nz,this,cX];exact xv λx f=>h x (eI _ f)
def GE(c:Nat)(v:ce)(a b:cd):Prop:=cN (λx=>x=c\/cw v x) a b/\(gI c a->gI c b)
def DE.ge{c:Nat}{v:ce}{a b:cd}(h:DE c a b):GE c v a b:=⟨h.1.trans (cN.refl (λ_=>False) _) (λ_ _ h=>.inl h) λ_ _ h=>h.elim,h.2⟩
def W6(d:Nat)(v:ce):fw (GE d v):=⟨λw=>((Ext.refl w).de d).ge,λa b c h k=>⟨h.1.trans k.1 (λ_ _ h=>h) λ_ _ h=>h,λx=>k.2 (h.2 x)⟩,λw=>((Ext.drew w).de d).ge⟩
structure ZB(n0 gb:Nat)(st co kn mi da tr:Int)(ds:List Dr)(v:ce)(w:cd):Prop where
 g:w.heap[gb]? =some (.cells #[.int .i64 st,.int .i64 co,.int .i64 kn,.int .i64 mi,.int .i64 da,.int .i64 tr,v] 24)
 r:mC n0 w v ds
 ok:∀d∈ds,B8 st d
def Lp(p:Int->Prop)(v:ce):Prop:=∃z:Int,v=.int .i64 z/\p z
def mC.low{n0 a:Nat}{w:cd}{v:ce}{ds:List Dr}(h:mC n0 w v ds)(g:a<=n0):mC a w v ds:=by obtain⟨d,h|⟨b,c,e,i,f⟩⟩:=h;exact⟨d,.inl h⟩;exact⟨d,.inr ⟨b,c,e,by omega,f⟩⟩
def jB{m:Nat}{w:cd}(h:gI m w)(n:Nat)(hn:n<=5):Calls V.prog 28 #[cK m,.int .i64 n] w (fy λv w'=>DE m w w'/\∃G a c,v=gV G a c/\mC w.heap.size w' (.slice a G.doors.length c) G.doors/\gD w' a G.doors/\eg G=0/\G.doors.length<=n):=by
 have aE:=h.lt;refine go V.func28 Tryz.ntmps28 ?_;refine eF λw1 rb e1 aF hr=>?_;have f:=h.ext e1;have aD:=cF.lt_of_heap hr;have ar:=e1.size;refine ck (kN f 1 3 (by omega) (by omega) (by omega)) ?_;rintro _ w2 ⟨⟨F,rfl,s1,s2⟩,P⟩;refine ck (kN (P.2 f) 1 5 (by omega) (by omega) (by omega)) ?_;rintro _ t ⟨⟨co,rfl,c1,c2⟩,d3⟩;replace d3:=P.trans d3;refine ck (kN (d3.2 f) 1 3 (by omega) (by omega) (by omega)) ?_;rintro _ B ⟨⟨kn,rfl,k1,k2⟩,d4⟩;replace d4:=d3.trans d4;refine ck (kN (d4.2 f) 20 45 (by omega) (by omega) (by omega)) ?_;rintro _ w5 ⟨⟨a1,rfl,a2,a3⟩,d5⟩;replace d5:=d4.trans d5;refine ck (kN (d5.2 f) 30 60 (by omega) (by omega) (by omega)) ?_;rintro _ w6 ⟨⟨b1,rfl,b2,b3⟩,d6⟩;replace d6:=d5.trans d6;refine ck (kN (d6.2 f) 1 90 (by omega) (by omega) (by omega)) ?_;rintro _ w7 ⟨⟨x1,rfl,x2,x3⟩,d7⟩;replace d7:=d6.trans d7;refine dJ [.int .i64 a1,.int .i64 b1,.int .i64 x1] 3 λw8 mb e8 aG D=>?_;have d8:=d7.trans (e8.de m);have s7:=d7.1.size;refine ck (Dw (l:=[a1,b1,x1]) (d8.2 f) (lz D) (by simp) (by simp) (λb o e=>by injection e with e;injection e with e;omega)) ?_;rintro _ w9 ⟨⟨T,ad,rfl⟩,d9⟩;replace d9:=d8.trans d9;have ad:1<=T/\T<=90:=by simp only[eQ,sN,ou]at ad;omega
 refine dJ [.int .i64 1,.int .i64 2,.int .i64 2,.int .i64 3,.int .i64 3] 3 λaH yb au aI hy=>?_;have aa:=d9.trans (au.de m);have s9:=d9.1.size;refine ck (Dw (l:=[1,2,2,3,3]) (aa.2 f) (lz hy) (by simp) (by simp) (λb o e=>by injection e with e;injection e with e;omega)) ?_;rintro _ aJ ⟨⟨Q,ae,rfl⟩,J⟩;replace J:=aa.trans J;have ae:1<=Q/\Q<=3:=by simp only[eQ,sN,ou]at ae;omega
 refine dA (.agg #[.int .i64 F,.int .i64 co,.int .i64 kn,.int .i64 T,.int .i64 Q,.int .i64 0,.slice none 0 0]) (eF λaK R av aw hg=>cZ hg λaf ax H=>?_);replace H:af.heap[R]? =some (.cells #[.int .i64 F,.int .i64 co,.int .i64 kn,.int .i64 T,.int .i64 Q,.int .i64 0,.slice none 0 0] 24):=H;have aL:=J.1.size;have U:DE m w1 af:=J.trans ((Ext.cy av ax aw).de m);refine cu (ci H rfl) (ck (kN (U.2 f) 1 Q (by omega) (by omega) (by omega)) ?_);rintro _ aM ⟨⟨tr,rfl,t1,t2⟩,W⟩;have ag:=W.1.fg H (show¬R=m by omega);refine cZ ag λah ai K=>?_;replace K:ah.heap[R]? =some (.cells #[.int .i64 F,.int .i64 co,.int .i64 kn,.int .i64 T,.int .i64 Q,.int .i64 tr,.slice none 0 0] 24):=K;have aj:DE m w1 ah:=⟨(U.trans W).1.trans ai (λ_ _ h=>h) (λx A e=>by omega),λx=>((U.trans W).2 x).keep ai λb e=>by omega⟩;refine ck (nJ (aj.2 f) n (by omega)) ?_;rintro _ aN ⟨⟨z,rfl,z1,z2⟩,L⟩;have ak:=L.1.fg K (show¬R=m by omega);replace L:=aj.trans L;have al:=L.1.fg hr (show¬rb=m by omega);clear W U J aa d9 d8 d7 d6 d5 d4 d3 P;refine dZ z.toNat (λ_ (s:(List Dr×ce)×Int)=>[(0,cK m),(4,cK rb),(5,cK R),(6,.int .i64 s.2)]) (λk s w'=>DE m w1 w'/\ZB w1.heap.size R F co kn T Q tr s.1.1 s.1.2 w'/\w'.heap[rb]? =some (.cells (sH 24).toArray 24)/\s.1.1.length=k/\s.2=z-k) (([],.slice none 0 0),z) ⟨⟨rfl,rfl,rfl,rfl,trivial⟩,L,⟨ak,cA.nil _ _ _ _,λd M=>by cases M⟩,al,rfl,by simp⟩ ?_;rintro k ⟨⟨S,v⟩,i⟩ w2 hk ⟨P,D,Y,am,hi⟩;simp only at D am hi;refine ny ⟨λan=>?_,λab=>?_⟩;have an:0<i:=by simpa using an
 have X:∀b,cw v b->w1.heap.size<=b/\b<w2.heap.size:=λb E=>cA.blk D.r E;have ay:¬(R=m\/cw v R):=by rintro(e|E);omega;obtain⟨cs,q⟩:=cA.c_ D.r E;exact eX q D.g (by decide)
 have hg:∀t,GE m v w2 t->t.heap[R]? =some (.cells #[.int .i64 F,.int .i64 co,.int .i64 kn,.int .i64 T,.int .i64 Q,.int .i64 tr,v] 24):=λt p=>p.1.fg D.g ay;have hD:=P.2 f;have s2:=P.1.size;have N:∀{a b:cd} {x:Nat} {o:Obj},a.heap[x]? =some o->GE m v a b->w2.heap.size<=x->b.heap[x]? =some o:=λA e ab=>e.1.fg A (by rintro(e|E);omega;have:=(X _ E).2;omega);refine fV 20 (xV m) (W6 m v) (λa b h=>h.ge) ?_;refine .exact v (λt p=>cu (ci (hg t p) rfl) ⟨rfl,(xV m).refl _⟩) ?_;refine .exact (.int .i64 F) (λt p=>cu (ci (hg t p) rfl) ⟨rfl,(xV m).refl _⟩) ?_;refine .exact (.int .i64 (F-1)) (λt p=>fx ⟨rfl,(xV m).refl _⟩) ?_;refine .rel (λu _=>Lp (λx=>0<=x/\x<=F-1) u) (λ_ _ _ h _=>h) (λt p=>ck (nJ (p.2 hD) _ (by omega)) λu B ⟨⟨x,e,f,I⟩,d⟩=>⟨⟨x,e,by omega⟩,d⟩) ?_;refine .rel (λu _=>Lp (λx=>0<=x/\x<=20) u) (λ_ _ _ h _=>h) (λt p _ _=>ck (nJ (p.2 hD) 9 (by omega)) λu B ⟨⟨x,e,f,I⟩,d⟩=>⟨⟨x,e,by omega⟩,d⟩) ?_;refine .rel (λu _=>Lp (λx=>0<=x/\x<=20) u) (λ_ _ _ h _=>h) (λt p _ _=>ck (nJ (p.2 hD) 9 (by omega)) λu B ⟨⟨x,e,f,I⟩,d⟩=>⟨⟨x,e,by omega⟩,d⟩) ?_;refine .rel (λu _=>Lp (λx=>0<=x/\x<=20) u) (λ_ _ _ h _=>h) (λt p _ _=>ck (nJ (p.2 hD) 20 (by omega)) λu B ⟨⟨x,e,f,I⟩,d⟩=>⟨⟨x,e,by omega⟩,d⟩) ?_;refine .rel (λu B=>∃b x y z:Int,∃C:Nat,u=.slice (some ⟨C,0,none⟩) 3 3/\w2.heap.size<=C/\B.heap[C]? =some (.cells ([x,y,z].map (Value.int .i64)).toArray 3)/\∀j∈[x,y,z],0<=j/\j<=20) (λu a b ⟨_,x,y,z,C,f,I,Z,h4⟩ e=>⟨0,x,y,z,C,f,I,N Z e I,h4⟩) (λt p u1 f u2 I u3 Z=>?_) ?_;obtain⟨x,rfl,A⟩:=f;obtain⟨y,rfl,hy⟩:=I;obtain⟨z,rfl,hz⟩:=Z;have:=p.1.size;refine dJ [.int .i64 z,.int .i64 y,.int .i64 x] 3 λB C O ao E=>⟨⟨0,z,y,x,C,rfl,by omega,E,?_⟩,O.de m⟩;intro j hj;simp only[eQ,sN,ou]at hj;omega;refine .rel (λu _=>Lp (λx=>0<=x/\x<=20) u) (λ_ _ _ h _=>h) (λt p u1 f _ _=>?_) ?_;obtain⟨_,x,y,z,C,rfl,g1,g2,g3⟩:=f;refine ck (Dw (l:=[x,y,z]) (p.2 hD) (lz g2) (by simp) (by simp) (λb o e=>by injection e with e;injection e with e;omega)) λu B ⟨⟨j,hj,e⟩,d⟩=>⟨⟨j,e,g3 j hj⟩,d⟩;refine .rel (λu _=>Lp (λx=>1<=x/\x<=9) u) (λ_ _ _ h _=>h) (λt p _ _=>ck (kN (p.2 hD) 1 6 (by omega) (by omega) (by omega)) λu B ⟨⟨x,e,f,I⟩,d⟩=>⟨⟨x,e,by omega⟩,d⟩) ?_;refine .rel (λu _=>∃d,B8 F d/\u=.agg (dL d).toArray) (λ_ _ _ h _=>h) (λt p u1 f u2 I u3 Z=>?_) ?_;obtain⟨x,rfl,A⟩:=f;obtain⟨y,rfl,hy⟩:=I;obtain⟨z,rfl,hz⟩:=Z;exact dA (.agg (dL ⟨z,y,x⟩).toArray) ⟨⟨⟨z,y,x⟩,⟨hz,hy,A⟩,rfl⟩,(xV m).refl _⟩;refine .rel (λu B=>∃(d:Dr) (C:Nat),B8 F d/\u=.slice (some ⟨C,0,none⟩) 1 1/\w2.heap.size<=C/\B.heap[C]? =some (.cells (dL d).toArray 81)) (λu a b ⟨d,C,f,I,Z,h4⟩ e=>⟨d,C,f,I,Z,N h4 e Z⟩) (λt p u1 f=>?_) ?_;obtain⟨d,M,rfl⟩:=f;have:=p.1.size;exact dJ (dL d) 81 λB C O ao E=>⟨⟨d,C,M,rfl,by omega,E⟩,O.de m⟩;refine .spec (λu B=>∃d,B8 F d/\mC w1.heap.size B u (S++[d])) (λu a b ⟨d,M,hu⟩ e=>⟨d,M,cA.keep hu e.1 λx A e=>by have:=(cA.blk hu A).1;have:=f.lt;omega⟩) (λB O u1 f _ _=>?_) ?_;obtain⟨d,C,M,rfl,ao,E⟩:=f;have az:mC w1.heap.size B v S:=cA.keep D.r O.1 λx A e=>by have:=(cA.blk D.r A).1;have:=h.lt;omega
 have:=O.1.size;refine fP Tb az (by omega) E (by omega) λv' w5 g1 g2 g3=>⟨⟨d,M,by simpa[mC]using g1⟩,g2.trans (cN.refl (λ_=>False) _) (λ_ _ h=>.inr h) (λ_ _ h=>h.elim),λx=>x.keep g2 λb E=>?_⟩;have:=(X b E).1;omega;rintro B O u1 ⟨d,M,hu⟩ _ _ _ _ _ _ _ _ _ _ _ _ _ _ _ _ _ _;obtain⟨a9,c9,rfl,_⟩:=mC.row hu;have q4:=hg B O;refine cZ q4 λw5 k5 aA=>fx ⟨by omega,((S++[d],.slice a9 (S++[d]).length c9),i-1),⟨rfl,rfl,rfl,rfl,trivial⟩,⟨(P.1.trans O.1 (λ_ _ h=>h) λx A e=>?_).trans k5 (λ_ _ h=>h) λx A e=>by omega,λx=>(O.2 (P.2 x)).keep k5 λb e=>by omega⟩,⟨aA,cA.keep hu k5 λx A e=>?_,λx A=>?_⟩,?_,by simp;omega,by simp only;omega⟩;rcases e with e|e;exact e;have:=(X x e).1;omega;subst e;obtain⟨cs,q⟩:=cA.c_ hu A;exact eX q q4 (by decide);rcases gl.1 A with A|A;exact D.ok x A;rcases fD.1 A with rfl;exact M;refine k5.fg (O.1.fg Y ?_) (by omega);rintro(e|E);omega;have:=(X _ E).1;omega;have ab:i<=0:=by simpa using ab
 obtain⟨a,c,rfl,aO,hc⟩:=mC.row D.r;obtain⟨G,hG⟩:∃G:Gd,G=⟨F,co,kn,T,Q,tr,S⟩:=⟨_,rfl⟩;have ac:S=G.doors:=by rw[hG]
 have hg:w2.heap[R]? =some (.cells (gL G a c).toArray 24):=by rw[hG];exact D.g
 refine di hg (cZ Y λt k3 ap=>?_);have aB:t.heap[rb]? =some (.cells (gL G a c).toArray 24):=ap.trans (cM (λa=>some (Obj.cells a 24)) (dV (sH 24).toArray (gL G a c) rfl));have hl:Sem.run V.prog (loadVar 24 ⟨rb,0,none⟩) t=.ok (gV G a c) t:=pQ (gL G a c) aB λj v hj=>by rw[cB];simpa using hj
 clear ap;have aq:∀x,cw (.slice a S.length c) x->¬x=rb:=λx A e=>by have:=(cA.blk D.r A).1;omega
 refine⟨gV G a c,hl,_,rfl,⟨((e1.keep _).trans P.1 (λ_ _ h=>h) λ_ _ h=>h).trans k3 (λ_ _ h=>h) λx A e=>by omega,λx=>(P.2 (x.ext e1)).keep k3 λb e=>by omega⟩,G,a,c,rfl,?_,?_,?_,by rw[<-ac];omega⟩;rw[<-ac];exact mC.low (cA.keep D.r k3 aq) ar;rw[<-ac];exact mC.Ie (cA.keep D.r k3 aq);have aC:∀d∈S,B8 F d:=D.ok;rw[hG];have M:=xv aC;have hh:pg ⟨F,co,kn,T,Q,tr,S⟩=true:=by simp only[pg,jX,ez,jk];omega
 have h5:¬(5:Int)<S.length:=by omega
 simp only[eg,hh,cX,h5,eo];exact M
end Go.Proofs.W
