/- Laws that the proof needs, part 25. Conditions: none. -/
import Derived.Test.YteeagjkaflglpaaGreatX24
set_option maxRecDepth 100000
set_option maxHeartbeats 8000000
set_option linter.all false
namespace Go.Proofs.W
open Go.RowKit
def iu(G:Gd)(xs:List Sx)(a:Nat)(d:Nat):Bool:=(fH G (xs.getD d pQ) a).isEmpty||!mB G (fy [d])
def G0(G:Gd)(xs:List Sx)(a:Nat):List Nat:=(cI G.tries xs).filter (iu G xs a)
def I2(n0:Nat)(o:Option (List (Nat×List Nat)))(v:Value)(w:World):Prop:=match o with
 |none=>v=.tuple #[.slice none 0 0,.int .i64 11]
 |some a=>∃u,v=.tuple #[u,.int .i64 0]/\jX n0 w u a
section
variable{G:Gd}{da:Option Addr}{dc:Nat}{w:World}{l:List Tq}{la:Option Addr}{lc:Nat}
theorem Bt(s:fZ w da G.doors)(i:G.doors.length<=100000)(t: -1000000<=G.streets/\G.streets<=1000000)(x:qq w la l)(m:l.length<=100000)(a:Int):
 Calls V.prog 48 #[gV G da dc,.slice la l.length lc,.int .i64 a] w (pJ λv w'=>Ext w w'/\((dm G l a 0≠0/\v=.tuple #[.slice none 0 0,.int .i64 (dm G l a 0)])\/(dm G l a 0=0/\I2 w.heap.size (tN G (fN G (gF G l).2 a.toNat)) v w'))):=by
 refine go V.func48 Tryz.ntmps48 ?_;refine eO λE F c y n=>fW n (cf (jk (dc:=dc) (s.ext c) i t (x.ext c) m a 0) ?_);rintro v H ⟨o,⟨d,rfl⟩|⟨d,I,J,mk,K,rfl,j,z⟩⟩
 ·exact eP (je (by simpa using d) (.inl ⟨_,rfl,c.trans o,.inl ⟨d,rfl⟩⟩))
 have A:=j.g.lo;have L:=c.size;obtain⟨f,rfl,p,_⟩:=iJ j.k.g.pw d;refine eP (nh (by simp) (gu (IZ (n0:=w.heap.size) j.k (λb n=>n.elim) j.g.N4 (by omega) (by omega) z p) (λw' h=>.inr ⟨rfl,h⟩) ?_));rintro v B ⟨C,e⟩;have q:Ext w B:=C.1.from (c.trans o) (Nat.le_refl _);rw[Int.toNat_natCast];cases r:tN G (fN G (gF G l).2 f)with
 |none=>
  rw[r]at e;have e:v=.tuple #[.slice none 0 0,.bool false]:=e;subst e;exact ek (je rfl (.inl ⟨_,rfl,q,.inr ⟨d,rfl⟩⟩))
 |some M=>
  rw[r]at e;obtain⟨u,rfl,D⟩:=e;exact ek (nh rfl (.inl ⟨_,rfl,q,.inr ⟨d,u,rfl,D.low (by have:=(c.trans o).size;omega)⟩⟩))
theorem zM(r:fZ w da G.doors)(e:G.doors.length<=100000)(s: -1000000<=G.streets/\G.streets<=1000000)(t:qq w la l)(n:l.length<=100000)(d canv:Int):
 Calls V.prog 55 #[gV G da dc,.slice la l.length lc,.int .i64 d,.int .i64 canv] w (pJ λv w'=>Ext w w'/\((dm G l d canv≠0/\v=.tuple #[.slice none 0 0,.int .i64 (dm G l d canv)])\/(dm G l d canv=0/\∃a c,v=.tuple #[.slice a (kQ (oN G (gF G l).2 d.toNat canv) (cI G.tries (gF G l).2)).length c,.int .i64 0]/\dV w' a (kQ (oN G (gF G l).2 d.toNat canv) (cI G.tries (gF G l).2))/\(kQ (oN G (gF G l).2 d.toNat canv) (cI G.tries (gF G l).2)).length<=c))):=by
 refine go V.func55 Tryz.ntmps55 ?_;refine eO λC D i u o=>fW o (cf (jk (dc:=dc) (r.ext i) e s (t.ext i) n d canv) ?_);rintro v E ⟨q,⟨j,rfl⟩|⟨j,F,H,mk,I,rfl,m,x⟩⟩
 ·exact eP (je (by simpa using j) (.inl ⟨_,rfl,i.trans q,.inl ⟨j,rfl⟩⟩))
 have y:=m.g.lo;have J:=i.size;obtain⟨f,rfl,p,_⟩:=iJ m.k.g.pw j;refine eP (nh (by simp) (gu (GW (n0:=w.heap.size) (canv:=canv) m.k (λb o=>o.elim) m.g.N4 (by omega) (by omega) x p) (λw' h=>.inr ⟨rfl,h⟩) ?_));rintro v K ⟨z,a,c,rfl,A,B⟩;rw[Int.toNat_natCast];exact .inl ⟨_,rfl,z.1.from (i.trans q) (Nat.le_refl _),.inr ⟨j,a,c,rfl,A,B⟩⟩
theorem Bu(hd:fZ w da G.doors)(X:G.doors.length<=100000)(hs: -1000000<=G.streets/\G.streets<=1000000)(hr:qq w la l)(ag:l.length<=100000)(h:Int):
 Calls V.prog 53 #[gV G da dc,.slice la l.length lc,.int .i64 h] w (eG λv w'=>Ext w w'/\((dm G l h 0≠0/\v=.tuple #[.slice none 0 0,.int .i64 (dm G l h 0)])\/(dm G l h 0=0/\∃u,v=.tuple #[u,.int .i64 0]/\dN w.heap.size w' u (G0 G (gF G l).2 h.toNat)))):=by
 refine go V.func53 Tryz.ntmps53 ?_;refine eO λw1 gb Y ar m=>fW m (cf (jk (dc:=dc) (hd.ext Y) X hs (hr.ext Y) ag h 0) ?_);rintro v w2 ⟨e2,⟨z,rfl⟩|⟨z,wp,gp,mk,K,rfl,Z,W⟩⟩
 ·exact eP (je (by simpa using z) ⟨_,rfl,Y.trans e2,.inl ⟨z,rfl⟩⟩)
 have au:=Z.g.lo;have s1:=Y.size;have aa:=Z.k.g.pw;have h5:=aa.many;have ah:=Z.k.len;obtain⟨f,rfl,ai,_⟩:=iJ aa z;obtain⟨c,aj⟩:∃c,c=(gF G l).2:=⟨_,rfl⟩;have hk:=Z.k;rw[<-aj]at hk W ah⊢;have aq:=nQ G.tries c;refine eP (nh (by simp) (cf (wE hk) ?_));rintro ov L ⟨e3,al⟩;obtain⟨oa,oc,rfl,am,av⟩:=al.row;have E2:=Y.trans e2;have E3:=E2.trans e3;have s2:=E2.size;rw[Int.toNat_natCast];have M:∀b,¬ce (.slice none 0 0) b:=λb m=>by obtain⟨_,_,m⟩:=m;cases m
 refine cA ?_;refine fw (n:=(cI G.tries c).length) (λk v=>[(2,.int .i64 f),(8,cu wp),(10,v),(24,.slice oa (cI G.tries c).length oc),(25,.int .i64 (cI G.tries c).length),(26,.int .i64 k)]) (λk v w'=>fA w.heap.size L w'/\hH (ce v) mk K G w'/\dN L.heap.size w' v (((cI G.tries c).take k).filter (iu G c f))) (.slice none 0 0) ⟨⟨rfl,rfl,rfl,rfl,rfl,rfl,trivial⟩,fA.refl _ _,(Z.g.N4.ext e3).more λb m=>absurd m (M b),cC.nil _ _ _ _⟩ ?_ ?_ ?_
 ·rintro k v I ab hJ;exact cY ⟨rfl,rfl,⟨rfl,rfl,rfl,rfl,rfl,rfl,trivial⟩,hJ⟩
 ·rintro k v I B ⟨N,C,y⟩;obtain⟨b,o,rfl,hc⟩:=(am.eC N) k B;obtain⟨d,O⟩:∃d,d=(cI G.tries c)[k]:=⟨_,rfl⟩;have P:d<c.length:=by rw[O];exact iD (List.getElem_mem B)
  rw[<-O]at hc;have Q:=hk.eC ((e3.eC w.heap.size).trans N);have J:=jW.fy (G:=G) h5 (l:=[d]) λx W=>by rw[List.mem_singleton.1 W];omega
  obtain⟨sa,sc,g1,g2,g3,g4⟩:=Q.at_;have R:=rA w.heap.size mk K G (ce v);have an:∀b,ce v b->b<I.heap.size:=λb m=>(cC.blk y m).2;have A:(cI G.tries c).take (k+1)=(cI G.tries c).take k++[d]:=by rw[List.take_succ_eq_append_getElem B,O]
  have aw:(((cI G.tries c).take k).filter (iu G c f)).length<=5:=by have:=List.length_filter_le (iu G c f) ((cI G.tries c).take k);simp only[List.length_take]at this;omega
  have S:iu G c f d=((fH G c[d] f).isEmpty||!mB G (fy [d])):=by unfold iu;rw[getD_eq P]
  have same:∀j,MA w.heap.size mk K G (ce v) I j->iu G c f d=false->fA w.heap.size L j/\hH (ce v) mk K G j/\dN L.heap.size j v (((cI G.tries c).take (k+1)).filter (iu G c f)):=λj m5 hf=>by
   refine⟨N.trans m5.1,m5.2 C,?_⟩;have e:((cI G.tries c).take (k+1)).filter (iu G c f)=((cI G.tries c).take k).filter (iu G c f):=by rw[A,List.filter_append,List.filter_cons,hf];simp
   rw[e];exact cC.eC y m5.1
  have ac:∀j,MA w.heap.size mk K G (ce v) I j->iu G c f d=true->∀k':Value->World->Prop,(∀D q,fA w.heap.size L q->hH (ce D) mk K G q->dN L.heap.size q D (((cI G.tries c).take (k+1)).filter (iu G c f))->k' D q)->∀(p:Nat) (q:World),Ext j q->q.heap[p]? =some (.cells [.int .i64 d].toArray 3)->∀(t:TypeId) (cb:Array Bool),un V.prog (builtin .append #[27,27] t cb #[v,.slice (some ⟨p,0,none⟩) 1 1]) q k':=λj m5 ht k' ab p q E m t cb=>by
   have F:MA w.heap.size mk K G (ce v) I q:=R.trans _ _ _ m5 (E.ma _ _ _ _ _);have ad:dN L.heap.size q v (((cI G.tries c).take k).filter (iu G c f)):=cC.eC y F.1;have T:=F.2 C;refine gC oH ad (by have:=N.size;have:=F.1.size;omega) m (by omega) λD w7 z r h3=>ab D w7 ((N.trans F.1).gN r ad (Nat.le_refl _)) ?_ ?_
   ·exact T.go (λb m=>h3 b m) (λb o v m hc=>r.dn hc m) λb o m ho=>r.ef ho λhf=>by
     rcases m with rfl|rfl
     ·exact T.ak hf
     ·exact T.asm hf
   ·have e:((cI G.tries c).take (k+1)).filter (iu G c f)=((cI G.tries c).take k).filter (iu G c f)++[d]:=by
     rw[A,List.filter_append,List.filter_cons,ht];simp
    rw[e];simpa[dN,eJ]using z
  refine dT k B (cg hc ?_);refine cF R ?_;refine .rel (λu j=>gd I.heap.size j u (fH G c[d] f)) (λu a b hu e=>hu.eC e.1) (λj s=>cf (zu (Q.eC s.1) P (W _ (List.getElem_mem P)) ai) λu q ⟨E,hu⟩=>⟨hu.low s.1.size,E.ma _ _ _ _ _⟩) ?_;refine .exact (.int .i64 (fH G c[d] f).length) (λj s U ao=>?_) ?_
  ·obtain⟨a3,c3,rfl,_⟩:=gd.row (show gd I.heap.size j U (fH G c[d] f)from ao);exact cA ⟨rfl,R.refl _⟩
  refine Ca ⟨λr=>?_,λr=>?_⟩ R
  ·have r:(fH G c[d] f).length=0:=by
    have:=of_decide_eq_true r;omega
   have hl:iu G c f d=true:=by rw[S,List.eq_nil_of_length_eq_zero r];rfl
   exactλj s U _=>je rfl (dB [.int .i64 d] 3 λq p E H m=>ac j s hl _ (λD w7 q1 q2 q3=>cq ⟨D,⟨rfl,rfl,rfl,rfl,rfl,rfl,trivial⟩,q1,q2,q3⟩) p q E m _ _)
  ·have r:¬(fH G c[d] f).length=0:=λe=>by
    have:=of_decide_eq_false r;omega
   have ae:(fH G c[d] f).isEmpty=false:=by
    cases hq:fH G c[d] f with
    |nil=>rw[hq]at r;exact absurd rfl r
    |cons _ _=>rfl
   refine .exact (cu gp) (λj s=>cg (s.1.cell g1) ⟨rfl,R.refl _⟩) ?_;refine .rel (λu j=>∃p,u=.slice (some ⟨p,0,none⟩) 1 1/\j.heap[p]? =some (.cells [Value.int .i64 d].toArray 3)) (λu a b ⟨p,z,r⟩ e=>⟨p,z,e.1.at_ r⟩) (λj s=>dB [.int .i64 d] 3 λq p E H m=>⟨⟨p,rfl,m⟩,E.ma _ _ _ _ _⟩) ?_;refine .exact (.int .u8 (fy [d])) (λj s af ap=>?_) ?_
   ·obtain⟨p,rfl,H⟩:∃p,af=.slice (some ⟨p,0,none⟩) 1 1/\j.heap[p]? =some (.cells [Value.int .i64 d].toArray 3):=ap
    exact cL (nO [d] _ 1 j (λi hi=>⟨p,0,rfl,cd H (by have:i=0:=by simp at hi;omega
                                                     subst this;rfl)⟩) (λx W=>by rw[List.mem_singleton.1 W];omega) (by simp)) ⟨rfl,R.refl _⟩
   refine .exact (.bool (mB G (fy [d]))) (λj s=>cf (wL (Q.g.eC s.1) (λb m=>Nat.lt_of_lt_of_le (an b m) s.1.size) (s.2 C) (by omega) J.1 J.2) λu q ⟨z,r⟩=>⟨z,r⟩) ?_;refine nj ?_ R;intro j s af _ U _;refine⟨λh3=>?_,λh3=>?_⟩
   ·have hl:iu G c f d=true:=by rw[S,ae,h3];rfl
    exact dB [.int .i64 d] 3 λq p E H m=>ac j s hl _ (λD w7 q1 q2 q3=>cq ⟨D,⟨rfl,rfl,rfl,rfl,rfl,rfl,trivial⟩,q1,q2,q3⟩) p q E m _ _
   ·have hl:iu G c f d=false:=by rw[S,ae,h3];rfl
    exact cq ⟨v,⟨rfl,rfl,rfl,rfl,rfl,rfl,trivial⟩,same j s hl⟩
 ·rintro v I ⟨N,C,y⟩;rw[List.take_length]at y;exact⟨_,rfl,N.from E3 (Nat.le_refl _),.inr ⟨z,v,rfl,y.low E3.size⟩⟩
end
def tT(w:World)(a:Option Addr)(ps:List (Int×List Int)):Prop:=∀k (h:k<ps.length),∃b o c d,a=some ⟨b,o,none⟩/\w.cell? ⟨b,o+k*2,none⟩=some (.int .i64 ps[k].1)/\w.cell? ⟨b,o+k*2+1,none⟩=some (.slice c ps[k].2.length d)/\gM w c ps[k].2/\ps[k].2.length<=d
theorem tT.ext{w w':World}{a:Option Addr}{ps:List (Int×List Int)}(h:tT w a ps)(e:Ext w w'):tT w' a ps:=λk c=>by obtain⟨b,o,d,f,g,i,j,l,m⟩:=h k c;exact⟨b,o,d,f,g,e.cell i,e.cell j,l.ext e,m⟩
def gR(n:Int)(a last:Int):List (Int×List Int)->Int
 |[]=>0
 |p::r=>if lH p.1 a last then(if eH n p.2=0 then gR n a last r else eH n p.2)else 3
theorem wW(n a last:Int)(ps:List (Int×List Int))(k:Nat)(b:k<ps.length):gR n a last (ps.drop k)=if lH ps[k].1 a last then(if eH n ps[k].2=0 then gR n a last (ps.drop (k+1))else eH n ps[k].2)else 3:=by rw[List.drop_eq_getElem_cons b];rfl
def Hp(p:Int×List Int):Nat×List Nat:=(p.1.toNat,p.2.map Int.toNat)
theorem tU{n:Nat}{a last:Int}:∀{ps:List (Int×List Int)},gR n a last ps=0->∀p∈ps,lH p.1 a last=true/\eH n p.2=0
 |p::r,h,q,b=>by
  simp only[gR]at h;split at h
  ·rename_i d;split at h
   ·rename_i c;rcases List.mem_cons.1 b with rfl|b
    ·exact⟨d,c⟩
    ·exact tU h q b
   ·rename_i c;exact absurd h c
  ·omega
theorem tT.yZ{n:Nat}{c last:Int}{w:World}{a:Option Addr}{ps:List (Int×List Int)}(h:tT w a ps)(I:0<=c)(v:gR n c last ps=0):qy w a (ps.map Hp)/\∀p∈ps.map Hp,(p.1:Int)<=last/\∀d∈p.2,d<n:=by
 have s:=tU v;refine⟨λk x=>?_,λp y=>?_⟩
 ·have g:k<ps.length:=by simpa using x
  obtain⟨b,o,z,A,B,C,j,t,l⟩:=h k g;obtain⟨m,r⟩:=s _ (List.getElem_mem g);obtain⟨f,i,u⟩:=ky r;have e:(kT f).map Int.toNat=f:=by simp[kT,Function.comp_def]
  have D:((ps.map Hp)[k]).2=f:=by simp[Hp,i,e]
  have E:(((ps.map Hp)[k]).1:Int)=ps[k].1:=by simp only[lH,Bool.and_eq_true,decide_eq_true_eq]at m;simp only[List.getElem_map,Hp];omega
  rw[D];rw[i]at j t l;have F:(kT f).length=f.length:=by simp[kT]
  rw[F]at j l;exact⟨b,o,z,A,B,by rw[E];exact C,j,t.yZ,l⟩
 ·obtain⟨q,G,rfl⟩:=List.mem_map.1 y;obtain⟨m,r⟩:=s q G;obtain⟨f,i,u⟩:=ky r;have e:(kT f).map Int.toNat=f:=by simp[kT,Function.comp_def]
  simp only[lH,Bool.and_eq_true,decide_eq_true_eq]at m;refine⟨by simp only[Hp];omega,λd H=>u d ?_⟩;simpa[Hp,i,e]using H
def kC(G:Gd)(l:List Tq)(a canv:Int)(ps:List (Int×List Int)):Bool×Int:=
 if dm G l a canv=0 then(if gR G.doors.length a (2*G.days-1) ps=0 then(nS G (gF G l).2 canv (ps.map Hp),0)else(false,gR G.doors.length a (2*G.days-1) ps))else(false,dm G l a canv)
section
variable{G:Gd}{da:Option Addr}{dc:Nat}{w:World}{l:List Tq}{la:Option Addr}{lc:Nat}
theorem wX(Q:fZ w da G.doors)(B:G.doors.length<=100000)(hs: -1000000<=G.streets/\G.streets<=1000000)(hr:qq w la l)(R:l.length<=100000)(h canv:Int){ps:List (Int×List Int)}{pa:Option Addr}{pc:Nat}(hp:tT w pa ps)(S:ps.length<=20)(C:∀p∈ps,p.2.length<=1000):
 Calls V.prog 38 #[gV G da dc,.slice la l.length lc,.int .i64 h,.int .i64 canv,.slice pa ps.length pc] w (eG λv w'=>Ext w w'/\v=.tuple #[.bool (kC G l h canv ps).1,.int .i64 (kC G l h canv ps).2]):=by
 refine go V.func38 Tryz.ntmps38 ?_;refine eO λw1 gb N ad hb=>fW hb (cf (jk (dc:=dc) (Q.ext N) B hs (hr.ext N) R h canv) ?_);rintro v w2 ⟨e2,⟨z,rfl⟩|⟨z,wp,gp,mk,ms,rfl,hg,hx⟩⟩
 ·exact eP (je (by simpa using z) ⟨_,rfl,N.trans e2,by unfold kC;rw[if_neg z];rfl⟩)
 have D:=hg.k;have u:=D.g.pw;have h5:=u.many;have T:=D.len;obtain⟨f,rfl,ae,af⟩:=iJ u z;have O:=N.trans e2;obtain⟨sa,sc,g1,g2,g3,g4⟩:=D.at_;refine eP (nh (by simp) (cA ?_));refine dg (n:=ps.length) (λk=>[(2,.int .i64 f),(3,.int .i64 canv),(4,.slice pa ps.length pc),(12,cu wp),(28,.slice pa ps.length pc),(29,.int .i64 ps.length),(30,.int .i64 k)]) (λk w'=>Ext w2 w'/\gR G.doors.length f (2*G.days-1) ps=gR G.doors.length f (2*G.days-1) (ps.drop k)) ⟨⟨rfl,rfl,rfl,rfl,rfl,rfl,rfl,trivial⟩,Ext.refl _,rfl⟩ ?_ ?_ ?_
 ·rintro k U ag hJ;exact cY ⟨rfl,rfl,⟨rfl,rfl,rfl,rfl,rfl,rfl,rfl,trivial⟩,hJ⟩
 ·rintro k U s ⟨A,a⟩;obtain⟨b,o,a',c',rfl,q1,q2,q3,q4⟩:=(hp.ext (O.trans A)) k s;rw[wW _ _ _ _ _ s]at a;have x:=C _ (List.getElem_mem s);obtain⟨p,W⟩:∃p,p=ps[k]:=⟨_,rfl⟩;rw[<-W]at q1 q2 q3 q4 a x;refine fh k 2 s (dp (vs:=[.int .i64 p.1,.slice a' p.2.length c']) (λj v E=>?_) (dS λw4 xb X Y F=>cK F λZ k5 t=>?_))
  ·match j,E with
   |0,E=>cases E;exact q1
   |1,E=>cases E;exact q2
  have t:Z.heap[xb]? =some (.cells #[.int .i64 p.1,.slice a' p.2.length c'] 29):=t;have H:Ext U Z:=X.cj k5 Y;have m:=A.trans H;have I:=D.ext m;have J:∀w' (c:Int),Ext Z w'->gR G.doors.length f (2*G.days-1) ps=c->c≠0->∃v,Ending.returned (one [.bool false,.int .i64 c])=.returned v/\Ext w w'/\v=.tuple #[.bool (kC G l f canv ps).1,.int .i64 (kC G l f canv ps).2]:=λw' c e hc h0=>⟨_,rfl,(O.trans m).trans e,by unfold kC;rw[if_pos z,hc,if_neg h0];rfl⟩;refine cF cB (cn (cd t rfl) (cn (m.cell g1) (fc cB _ (λP r=>last_at (I.g.ext r)) (fc cB _ (λP r=>du _ _ _ P) (nj λP r=>⟨λy=>?_,λy=>?_⟩)))))
  ·have y:lH p.1 f (2*G.days-1)=false:=by simpa using y
   exact J P 3 r (by rw[a,if_neg (by rw[y];simp)]) (by omega)
  have y:lH p.1 f (2*G.days-1)=true:=by simpa using y
  rw[if_pos y]at a;have aa:=I.ext r;refine cF cB (cn (r.cell (m.cell g1)) (cn (cd (r.at_ t) rfl) (fc cB _ (λw7 K=>vg (aa.g.ext K) ((q3.ext (H.trans r)).ext K) (by omega) q4) λw7 K=>eP ⟨λi=>?_,λi=>?_⟩)))
  ·have i:¬eH G.doors.length p.2=0:=of_decide_eq_true i;exact J w7 _ (r.trans K) (by rw[a,if_neg i]) i
  ·have i:eH G.doors.length p.2=0:=by simpa using i
   rw[if_pos i]at a;exact cq ⟨⟨rfl,rfl,rfl,rfl,rfl,rfl,rfl,trivial⟩,(m.trans r).trans K,a⟩
 ·rintro U ⟨A,a⟩;have a:gR G.doors.length f (2*G.days-1) ps=0:=by
   rw[a,List.drop_of_length_le (Nat.le_refl _)];rfl
  obtain⟨ab,L⟩:=(hp.ext (O.trans A)).yZ (by omega) a;have ah:=u.days;have M:=Eg (canv:=canv) (pc:=pc) (D.ext A) hx ab (by simpa using S) λq hq=>⟨by have:=(L q hq).1;omega,by obtain⟨q',ac,rfl⟩:=List.mem_map.1 hq;have:=C q' ac;simpa[Hp]using this,λd Q=>by rw[T];exact(L q hq).2 d Q⟩;rw[List.length_map]at M;refine dU M λw4 X=>⟨_,rfl,(O.trans A).trans X,?_⟩;unfold kC;rw[if_pos z,if_pos a];rfl
end
theorem zN(l l':List (Nat×List Nat))(la i:Option Addr)(lc m:Nat)(w:World)(B:qy w la l)(q:qy w i l')(z:l.length<=100000)(r:∀x∈l,x.2.length<=100000):
 Calls V.prog 42 #[.slice la l.length lc,.slice i l'.length m] w (eG λv w'=>v=.bool (decide (l=l'))/\Ext w w'):=by
 refine go V.func42 Tryz.ntmps42 ?_;refine cA (cA (eP ⟨λh=>?_,λh=>?_⟩))
 ·have h:¬l=l':=λe=>by subst e;simp at h
  exact⟨_,rfl,by simp[h],Ext.refl _⟩
 ·have h:l.length=l'.length:=by simp at h;omega
  refine gq l.length (λk (_:Unit)=>[(0,.slice la l.length lc),(1,.slice i l'.length m),(5,.int .i64 k)]) (λk _ w'=>Ext w w'/\l.take k=l'.take k) () ⟨⟨rfl,rfl,rfl,trivial⟩,Ext.refl _,by simp⟩ ?_;rintro k _ w' I ⟨e,A⟩;refine cA (cY ⟨λa=>?_,λn=>?_⟩)
  ·have a:k<l.length:=by simpa using a
   have g:k<l'.length:=by omega
   obtain⟨b,o,x,c,rfl,C,s,D,_⟩:=(B.eC (e.eC 0)) k a;obtain⟨J,K,E,F,rfl,t,p,u,_⟩:=(q.eC (e.eC 0)) k g;refine cF cB (iU k 2 a (cn C (iU k 2 g (cn t (J6 ⟨λd=>?_,λd=>?_⟩)))))
   ·have d:¬l[k].1=l'[k].1:=λe=>of_decide_eq_true d (by rw[e]);have:¬l=l':=λe=>by subst e;exact d rfl
    exactλy j=>je rfl ⟨_,rfl,by simp[this],e.trans j⟩
   have d:l[k].1=l'[k].1:=by have:=of_decide_eq_false d;omega
   refine iU k 2 a (cn s (iU k 2 g (cn p (jg (.bool (decide (l[k].2=l'[k].2))) (λy j=>l7 l[k].2 l'[k].2 x E c F y (D.ext j) (u.ext j) (r _ (List.getElem_mem a))) (nj λy j=>⟨λf=>?_,λf=>?_⟩)))))
   ·have f:¬l[k].2=l'[k].2:=by simpa using f
    have:¬l=l':=λe=>by subst e;exact f rfl
    exact⟨_,rfl,by simp[this],e.trans j⟩
   ·have f:l[k].2=l'[k].2:=by simpa using f
    refine cq ⟨a,(),⟨rfl,rfl,rfl,trivial⟩,e.trans j,?_⟩;rw[List.take_succ_eq_append_getElem a,List.take_succ_eq_append_getElem g,A,Prod.ext d f]
  ·have n:¬k<l.length:=by simpa using n
   have:l=l':=by have G:l.take k=l:=List.take_of_length_le (by omega);have H:l'.take k=l':=List.take_of_length_le (by omega);rw[<-G,<-H,A]
   exact⟨_,rfl,by simp[this],e⟩
def jT:List Tq:=[⟨0,0,false⟩,⟨1,0,true⟩,⟨2,1,false⟩]
theorem tV:ee dK [0,1,2,3]=38/\eI dK [0,1,2,3]=55/\iq dK [0,1,2,3]=0:=by decide+kernel
theorem zO:iq dK [3,2,1,0]=0/\eD dK (fy [3,2,1,0])=some [[0,1],[2,3]]:=by decide+kernel
def wY:List Sx:=[⟨1,1,0,false,true,false,false,false⟩,⟨1,1,0,true,true,false,false,false⟩,⟨1,0,1,false,true,false,false,false⟩,pQ]
theorem G1:gF dK jT=(0,wY):=by rfl
theorem tW:dm dK jT 5 0=0/\dm dK jT 2 0=0/\dm dK jT 2 1=0/\dm dK [] 3 1=0:=by decide+kernel
theorem I3:G0 dK wY 5=[2,3]:=by decide+kernel
def O5:cU:=⟨[0,2,3],[[[3],[5]],[[2],[4]],[[2,5],[3,4]]],[0,1,-1,-1,1,1,-1,-1,1,1,-1,-1,1,2,-1,-1,0,0,0,0,0,0,0,0,0,0,0,0,0,0,0,0]⟩
theorem G2:fN dK wY 2=O5:=by unfold fN O5;rw[cU.mk.injEq];exact⟨by decide+kernel,by decide+kernel,by decide+kernel⟩
theorem I4:eE O5=some ([0,1,1],1,2):=by decide+kernel
theorem I5:tN dK (fN dK wY 2)=some [(3,[0,3]),(4,[2,3])]:=by rw[G2];unfold tN;rw[I4];decide+kernel
theorem Eh:kC dK jT 2 1 [(3,[0,3]),(4,[2,3])]=(true,0):=by decide+kernel
def Bv:List Sx:=[pQ,pQ,pQ,pQ]
theorem I6:gF dK []=(0,Bv):=by rfl
theorem G3:kQ (oN dK Bv 3 1) (cI dK.tries Bv)=[0,1]:=by decide+kernel
theorem iF{w:World}{b:Nat}{t:TypeId}{l:List Int}(h:w.heap[b]? =some (.cells (l.map (Value.int .i64)).toArray t)):gM w (some ⟨b,0,none⟩) l:=λk a=>⟨b,0,rfl,cd h (by rw[Nat.zero_add];simp[List.getElem?_eq_getElem a])⟩
theorem jq{w:World}{b:Nat}{t:TypeId}{l:List Nat}(h:w.heap[b]? =some (.cells (eJ l).toArray t)):dV w (some ⟨b,0,none⟩) l:=λk a=>⟨b,0,rfl,cd h (by rw[Nat.zero_add];simp[eJ,List.getElem?_eq_getElem a])⟩
theorem vE:∀(l:List Tq) (k:Nat) (a:k<l.length) (j:Nat) (v:Value),(IE l[k])[j]? =some v->(l.flatMap IE)[k*3+j]? =some v
 |x::r,0,_,j,v,h=>by have b:j<(IE x).length:=(List.getElem?_eq_some_iff.1 h).1;simp only[List.flatMap_cons,Nat.zero_mul,Nat.zero_add];rw[List.getElem?_append_left b];exact h
 |x::r,k+1,a,j,v,h=>by have c:=vE r k (by simpa using a) j v (by simpa using h);have d:(IE x).length=3:=rfl;simp only[List.flatMap_cons];rw[List.getElem?_append_right (by omega),d,show(k+1)*3+j-3=k*3+j by omega];exact c
theorem Ei{w:World}{b:Nat}{t:TypeId}{l:List Tq}(h:w.heap[b]? =some (.cells (l.flatMap IE).toArray t)):qq w (some ⟨b,0,none⟩) l:=λk a=>⟨b,0,rfl,λj v c=>cd h (by rw[Nat.zero_add];simpa using vE l k a j v c)⟩
theorem G4(w:World):qq w none []:=λk a=>by simp at a
theorem nT{w:World}{k:Value->World->Prop}{pan:List PanicEntry->World->Prop}(a:∀w' b,Ext w w'->fZ w' (some ⟨b,0,none⟩) dK.doors->k (gV dK (some ⟨b,0,none⟩) 4) w'):Io V.prog 95 [] w k pan:=
 cf (Gi w) λv w' ⟨e,b,_,c,d⟩=>by subst c;exact a w' b e (Do d)
theorem tX{w:World}{k:Value->World->Prop}{pan:List PanicEntry->World->Prop}(a:∀w' b,Ext w w'->qq w' (some ⟨b,0,none⟩) jT->k (.slice (some ⟨b,0,none⟩) 3 3) w'):Io V.prog 96 [] w k pan:=
 cf (Dp w) λv w' ⟨e,b,_,c,d⟩=>by subst c;exact a w' b e (Ei d)
theorem G5:dK.doors.length<=100000/\ -1000000<=dK.streets/\dK.streets<=1000000:=by decide
theorem Ej:oK dK [0,1,2,3]=.tuple #[.agg (eR 38 55).toArray,.int .i64 0]:=by unfold oK;rw[if_pos tV.2.2];show Value.tuple #[.agg (eR (ee dK [0,1,2,3]) (eI dK [0,1,2,3])).toArray,.int .i64 0]=_;rw[tV.1,tV.2.1]
theorem Q6{f:FuncId}{fn:Func}{c:Code}{xs:Array Value}{w:World}{R:Ending->World->Prop}{N:Nat}(b:V.prog.funcs[f]? =some fn)(d:fn.ntmps=N)(h:iz V.prog N c (xs.toList.zipIdx.map λp=>(p.2,p.1)) w (QR V.prog fn.results.toList R))
 (e:fn.body=some c:=by rfl)(a:Nat.ble xs.toList.length N=true:=by rfl):Calls V.prog f xs w R:=by
 have:=J0 (args:=xs.toList) N b e d (Nat.le_of_ble_eq_true a) h;simpa using this
theorem zP(w:World):Calls V.prog 26 #[] w (pJ λv w'=>v=.bool true/\Ext w w'):=by
 obtain⟨c,d⟩:=G5;refine Q6 V.func26 Tryz.ntmps26 (iz.seq gG ?_);refine iz.seq gG ?_;refine nT λw1 b1 e1 aD=>dB [.int .i64 0,.int .i64 1,.int .i64 2,.int .i64 3] 3 λw2 bs e2 bo aE=>?_;refine dU (vk (l:=[0,1,2,3]) (aD.ext e2) c d (iF aE) (by decide) (by decide)) λw3 e3=>?_;rw[Ej];refine dS λw4 H e4 aF S=>cK S λw5 k5 I=>?_;have I:w5.heap[H]? =some (.cells (eR 38 55).toArray 56):=I;have E5:Ext w w5:=((e1.trans e2).trans e3).trans (e4.cj k5 aF);refine iz.oV (l0:=[(1,cu H),(2,.int .i64 0)]) ⟨rfl,rfl,trivial⟩ (iz.seq gG ?_);refine nT λw6 b6 e6 aG=>dB [.int .i64 3,.int .i64 2,.int .i64 1,.int .i64 0] 3 λw7 bt e7 bp aH=>?_;refine cf (zK (ds:=[3,2,1,0]) (aG.ext e7) c d (iF aH) (by decide) (by decide)) ?_;rintro v w8 ⟨e8,⟨h,_⟩|⟨_,T⟩⟩
 ·exact absurd zO.1 h
 have aI:eD dK (fy (([3,2,1,0]:List Int).map Int.toNat))=some [[0,1],[2,3]]:=zO.2;rw[aI]at T;obtain⟨U,rfl,aJ⟩:=T;have E8:=((E5.trans e6).trans e7).trans e8;have aK:=((e6.trans e7).trans e8).at_ I;refine iz.oV (l0:=[(1,cu H),(2,.int .i64 0),(3,U),(4,.int .i64 0)]) ⟨rfl,rfl,rfl,rfl,trivial⟩ (iz.seq gG ?_);refine nT λw9 b9 e9 aL=>tX λbu bv J W=>?_;refine cf (Bu (l:=jT) (aL.ext J) c d W (by decide) 5) ?_;rintro v bw ⟨X,⟨h,_⟩|⟨_,lv,rfl,Y⟩⟩
 ·exact absurd tW.1 h
 have aM:G0 dK (gF dK jT).2 (5:Int).toNat=[2,3]:=by rw[G1];exact I3
 rw[aM]at Y;have aN:=((E8.trans e9).trans J).trans X;have z:=(e9.trans J).trans X;refine iz.oV (l0:=[(1,cu H),(2,.int .i64 0),(3,U),(4,.int .i64 0),(5,lv),(6,.int .i64 0)]) ⟨rfl,rfl,rfl,rfl,rfl,rfl,trivial⟩ (iz.seq gG ?_);refine nT λbx bz Z aa=>tX λbA bB K ab=>?_;refine gu (Bt (l:=jT) (aa.ext K) c d ab (by decide) 2) (λw' h=>.inr ⟨rfl,h⟩) ?_;rintro v bC ⟨ac,⟨h,_⟩|⟨_,T⟩⟩
 ·exact absurd tW.2.1 h
 have aO:tN dK (fN dK (gF dK jT).2 (2:Int).toNat)=some [(3,[0,3]),(4,[2,3])]:=by rw[G1];exact I5
 rw[aO]at T;obtain⟨pv,rfl,aP⟩:=T;have aQ:=((aN.trans Z).trans K).trans ac;have e:=(Z.trans K).trans ac;refine iz.oV (l0:=[(1,cu H),(2,.int .i64 0),(3,U),(4,.int .i64 0),(5,lv),(6,.int .i64 0),(7,pv),(8,.int .i64 0)]) ⟨rfl,rfl,rfl,rfl,rfl,rfl,rfl,rfl,trivial⟩ (iz.seq gG ?_);refine nT λbD bE aR ad=>?_;refine gu (zM (l:=[]) (la:=none) (lc:=0) ad c d (G4 _) (by decide) 3 1) (λw' h=>.inr ⟨rfl,h⟩) ?_;rintro v bF ⟨aS,⟨h,_⟩|⟨_,va,vc,rfl,ae,_⟩⟩
 ·exact absurd tW.2.2.2 h
 have aT:kQ (oN dK (gF dK []).2 (3:Int).toNat 1) (cI dK.tries (gF dK []).2)=[0,1]:=by rw[I6];exact G3
 rw[aT]at ae⊢;have b:=aR.trans aS;have af:=aQ.trans b;refine iz.oV (l0:=[(1,cu H),(2,.int .i64 0),(3,U),(4,.int .i64 0),(5,lv),(6,.int .i64 0),(7,pv),(8,.int .i64 0),(9,.slice va 2 vc),(10,.int .i64 0)]) ⟨rfl,rfl,rfl,rfl,rfl,rfl,rfl,rfl,rfl,rfl,trivial⟩ (iz.seq gG ?_);refine nT λbG bH aU ag=>tX λbI bJ ah ai=>dB [.int .i64 0,.int .i64 3] 3 λbK A aV aW aj=>?_;refine dU (wG 3 _ 2 2 _) λbL aX=>dB [.int .i64 2,.int .i64 3] 3 λbM B aY aZ ak=>?_;refine dU (wG 4 _ 2 2 _) λbN al=>?_;refine dB [.int .i64 3,.slice (some ⟨A,0,none⟩) 2 2,.int .i64 4,.slice (some ⟨B,0,none⟩) 2 2] 29 λa0 n am a1 g=>?_;have o:=(aX.trans aY).trans (al.trans am)
 have L:tT a0 (some ⟨n,0,none⟩) [(3,[0,3]),(4,[2,3])]:=λk hk=>by
  have an:k<2:=hk;obtain rfl|rfl:k=0\/k=1:=by omega
  ·exact⟨n,0,some ⟨A,0,none⟩,2,rfl,cd g rfl,cd g rfl,iF (o.at_ aj),Nat.le_refl _⟩
  ·exact⟨n,0,some ⟨B,0,none⟩,2,rfl,cd g rfl,cd g rfl,iF ((al.trans am).at_ ak),Nat.le_refl _⟩
 have f:=aV.trans o;refine cf (wX (l:=jT) (ps:=[(3,[0,3]),(4,[2,3])]) ((ag.ext ah).ext f) c d (ai.ext f) (by decide) 2 1 L (by decide) (by decide)) ?_;rintro v bO ⟨a2,rfl⟩;rw[Eh];have a:=((aU.trans ah).trans f).trans a2;have bP:=af.trans a;refine iz.oV (l0:=[(1,cu H),(2,.int .i64 0),(3,U),(4,.int .i64 0),(5,lv),(6,.int .i64 0),(7,pv),(8,.int .i64 0),(9,.slice va 2 vc),(10,.int .i64 0),(11,.bool true),(12,.int .i64 0)]) ⟨rfl,rfl,rfl,rfl,rfl,rfl,rfl,rfl,rfl,rfl,rfl,rfl,trivial⟩ (iz.seq gG ?_);have ao:=(((z.trans e).trans b).trans a).at_ aK;refine gK (je rfl ?_);refine gK (je rfl ?_);refine gK (je rfl ?_);refine gK (je rfl ?_);refine gK (je rfl ?_);refine gK (je rfl ?_);refine je rfl ?_;refine dp (vs:=eR 38 55) (λj v hj=>by rw[Nat.zero_add];exact cd ao (by simpa using hj)) ?_;refine c8 (.agg (eR 38 55).toArray) ?_;refine c8 (.bool true) ?_;refine je rfl ?_;refine dB [.int .i64 0,.int .i64 1] 3 λbQ C x a3 ap=>?_;refine dB [.int .i64 2,.int .i64 3] 3 λbR D p a4 aq=>?_;refine dB [.slice (some ⟨C,0,none⟩) 2 2,.slice (some ⟨D,0,none⟩) 2 2] 27 λar q m a5 E=>?_;obtain⟨wa,wc,rfl,a6,_⟩:=aJ.row;have au:=((((z.trans e).trans b).trans a).trans x).trans (p.trans m)
 have y:ry ar (some ⟨q,0,none⟩) [[0,1],[2,3]]:=λk hk=>by
  have an:k<2:=hk;obtain rfl|rfl:k=0\/k=1:=by omega
  ·exact⟨q,0,some ⟨C,0,none⟩,2,rfl,cd E rfl,jq (l:=[0,1]) ((p.trans m).at_ ap),Nat.le_refl _⟩
  ·exact⟨q,0,some ⟨D,0,none⟩,2,rfl,cd E rfl,jq (l:=[2,3]) (m.at_ aq),Nat.le_refl _⟩
 refine dU (yY [[0,1],[2,3]] [[0,1],[2,3]] wa _ wc 2 ar (a6.ext au) y (by decide) (by decide)) λbS M=>?_;refine je (by decide) ?_;refine dB [.int .i64 2,.int .i64 3] 3 λa7 bq N a8 av=>?_;obtain⟨a9,ba,rfl,bb,_⟩:=Y.row;have O:=(((((e.trans b).trans a).trans x).trans (p.trans m)).trans M).trans N;refine dU (l7 [2,3] [2,3] a9 _ ba 2 a7 (bb.ext O) (jq av) (by decide)) λbT aw=>?_;refine je (by decide) ?_;refine dB [.int .i64 0,.int .i64 3] 3 λbU F bc bd ax=>?_;refine dU (wG 3 _ 2 2 _) λbV ay=>?_;refine dB [.int .i64 2,.int .i64 3] 3 λbW G az be aA=>?_;refine dU (wG 4 _ 2 2 _) λbX P=>?_;refine dB [.int .i64 3,.slice (some ⟨F,0,none⟩) 2 2,.int .i64 4,.slice (some ⟨G,0,none⟩) 2 2] 29 λaB r Q bf i=>?_;obtain⟨bg,bh,rfl,bi,_⟩:=aP.row;have s:=((bc.trans ay).trans (az.trans P)).trans Q;have R:=((((((b.trans a).trans x).trans (p.trans m)).trans M).trans N).trans aw).trans s
 have t:qy aB (some ⟨r,0,none⟩) [(3,[0,3]),(4,[2,3])]:=λk hk=>by
  have an:k<2:=hk;obtain rfl|rfl:k=0\/k=1:=by omega
  ·exact⟨r,0,some ⟨F,0,none⟩,2,rfl,cd i rfl,cd i rfl,jq (l:=[0,3]) (((ay.trans (az.trans P)).trans Q).at_ ax),Nat.le_refl _⟩
  ·exact⟨r,0,some ⟨G,0,none⟩,2,rfl,cd i rfl,cd i rfl,jq (l:=[2,3]) ((P.trans Q).at_ aA),Nat.le_refl _⟩
 refine dU (zN [(3,[0,3]),(4,[2,3])] [(3,[0,3]),(4,[2,3])] bg _ bh 2 aB (bi.eC (R.eC 0)) t (by decide) (by decide)) λbY bj=>?_;refine je (by decide) ?_;refine dB [.int .i64 0,.int .i64 1] 3 λbk br bl bm aC=>?_;have u:=((((((a.trans x).trans (p.trans m)).trans M).trans N).trans aw).trans s).trans (bj.trans bl);refine dU (l7 [0,1] [0,1] va _ vc 2 bk (ae.ext u) (jq aC) (by decide)) λbZ bn=>?_;refine iz.of gG (.inl ⟨_,rfl,?_,(af.trans u).trans bn⟩);show Value.bool (decide (([0,1]:List Nat)=[0,1]))=.bool true;rw[decide_eq_true rfl]
def u64(n:Int):Int:=IntKind.wrap .u64 n
theorem CB(n:Int):0<=u64 n:=by unfold u64 IntKind.wrap;simp only[IntKind.signed,Bool.false_and,Bool.false_eq_true,if_false];exact Int.emod_nonneg _ (by decide)
def LV(a b:Int):Int:=u64 (BitVec.ofInt 64 a^^^BitVec.ofInt 64 b).toNat
section
variable{w:World}{t:TypeId}{x y:Operand}{a b:Int}
theorem mn:Sem.run V.prog (do eqGuard .xor t x y (.int .u64 a) (.int .u64 b);binOp .xor t (.int .u64 a) (.int .u64 b)) w=.ok (.int .u64 (LV a b)) w:=rfl
theorem tY:Sem.run V.prog (do eqGuard .mul t x y (.int .u64 a) (.int .u64 b);binOp .mul t (.int .u64 a) (.int .u64 b)) w=.ok (.int .u64 (u64 (a*b))) w:=rfl
theorem G6:Sem.run V.prog (do eqGuard .add t x y (.int .u64 a) (.int .u64 b);binOp .add t (.int .u64 a) (.int .u64 b)) w=.ok (.int .u64 (u64 (a+b))) w:=rfl
theorem CC(n:Nat)(d:n<=64)(c:b=n:=by rfl):Sem.run V.prog (do eqGuard .shl t x y (.int .u64 a) (.int .u64 b);binOp .shl t (.int .u64 a) (.int .u64 b)) w=.ok (.int .u64 (u64 (a*2^n))) w:=by
 subst c;show Sem.run V.prog (Op.shift .shl .u64 a .u64 n) w=_;unfold Op.shift;rw[if_neg (by omega)];have:min (n:Int).toNat IntKind.u64.bits=n:=by simp[IntKind.bits];omega
 rw[this];rfl
theorem nU(n:Nat)(d:n<=64)(c:b=n:=by rfl):Sem.run V.prog (do eqGuard .shr t x y (.int .u64 a) (.int .u64 b);binOp .shr t (.int .u64 a) (.int .u64 b)) w=.ok (.int .u64 (a.fdiv (2^n))) w:=by
 subst c;show Sem.run V.prog (Op.shift .shr .u64 a .u64 n) w=_;unfold Op.shift;rw[if_neg (by omega)];have:min (n:Int).toNat IntKind.u64.bits=n:=by simp[IntKind.bits];omega
 rw[this];rfl
theorem G7(h:b≠0):Sem.run V.prog (do eqGuard .rem t x y (.int .u64 a) (.int .u64 b);binOp .rem t (.int .u64 a) (.int .u64 b)) w=.ok (.int .u64 (a.tmod b)) w:=by show Sem.run V.prog (Op.intDiv .rem .u64 a b) w=_;unfold Op.intDiv;rw[if_neg h];rfl
theorem I7:Tryz.prog.underlying 3=some (.int .i64):=by kernel_rfl
theorem G8:Tryz.prog.underlying 119=some (.int .u64):=by kernel_rfl
theorem CE:Sem.run V.prog (convert 3 119 (.int .i64 a)) w=.ok (.int .u64 (u64 a)) w:=by unfold convert;simp only[Sem.run_bind,eA I7,eA G8,Result.andThen_ok];rfl
theorem I8:Sem.run V.prog (convert 119 3 (.int .u64 a)) w=.ok (.int .i64 (IntKind.wrap .i64 a)) w:=by unfold convert;simp only[Sem.run_bind,eA I7,eA G8,Result.andThen_ok];rfl
end
section
variable{E:World->World->Prop}{w:World}{kx:Value->Prop}{kr kp kl:ew->Prop}{lb ea:Bool}
theorem mo{s:Sem Value}(v:Value)(a:dR E)(b:∀w,Sem.run V.prog s w=.ok v w)(k:kx v):sW E E w (λw1 c=>fS V.prog s w1 c) kx kr kp lb kl ea:=.exact v (λw1 _=>⟨v,w1,b w1,rfl,a.refl _⟩) k
end
structure fC(db:Nat)(w:World):Prop where
 at_:∃(la:Option Addr) (ns:List Int) (lc i:Nat) (s:Int),w.heap[db]? =some (.cells #[.slice la ns.length lc,.int .i64 i,.int .u64 s] 121)/\gM w la ns/\(∀b o,ns≠[]->la=some ⟨b,o,none⟩->b<db)/\i<=ns.length/\ns.length<=9223372036854775807
theorem gM.keep{w w':World}{a:Option Addr}{l:List Int}{F:Nat->Prop}(h:gM w a l)(k:cr F w w')(f:∀b o,l≠[]->a=some ⟨b,o,none⟩->¬F b):gM w' a l:=λi c=>by obtain⟨b,o,d,g⟩:=h i c;exact⟨b,o,d,k.dn g (f b o (λe=>by subst e;exact absurd c (by simp)) d)⟩
theorem fC.lt{a:Nat}{w:World}(h:fC a w):a<w.heap.size:=by obtain⟨c,d,e,i,s,b,_⟩:=h.at_;exact ck.lt_of_heap b
theorem fC.keep{a:Nat}{w w':World}{F:Nat->Prop}(h:fC a w)(k:cr F w w')(c:∀b,F b->a<b):fC a w':=by obtain⟨f,g,j,i,s,l,m,d,n⟩:=h.at_;refine⟨f,g,j,i,s,k.ef l λx=>Nat.lt_irrefl _ (c _ x),m.keep k λb o p e q=>?_,d,n⟩;have:=d b o p e;have:=c b q;omega
theorem fC.ext{a:Nat}{w w':World}(h:fC a w)(e:Ext w w'):fC a w':=h.keep (e.keep λ_=>False) λ_ h=>h.elim
def DE(c:Nat)(a b:World):Prop:=cr (λx=>x=c) a b/\(fC c a->fC c b)
theorem Ext.de{a b:World}(h:Ext a b)(c:Nat):DE c a b:=⟨h.keep _,λk=>k.ext h⟩
theorem DE.trans{d:Nat}{a b c:World}(h:DE d a b)(k:DE d b c):DE d a c:=⟨h.1.trans k.1 (λ_ _ h=>h) λ_ _ h=>h,λx=>k.2 (h.2 x)⟩
theorem Ek(d:Nat):dR (DE d):=⟨λw=>(Ext.refl w).de d,λa b c h k=>h.trans k,λw=>(Ext.drew w).de d⟩
theorem I9{c:Nat}{w:World}(h:fC c w):Calls V.prog 104 #[cu c] w (eG λv w'=>(∃z:Int,v=.int .u64 z/\0<=z)/\DE c w w'):=by
 obtain⟨r,l,p,i,s,C,M,D,U,W⟩:=h.at_
 have t:∀w' (E:Int) (u:Nat),cr (λx=>x=c) w w'->w'.heap[c]? =some (.cells #[.slice r l.length p,.int .i64 u,.int .u64 E] 121)->u<=l.length->DE c w w':=λw' E u k F X=>
  ⟨k,λ_=>⟨r,l,p,u,E,F,M.keep k λb o G e F=>by have:=D b o G e;omega,D,X,W⟩⟩
 refine go V.func104 Tryz.ntmps104 ?_;refine cF cB (cn (cd C rfl) (cn (cd C rfl) (mo _ cB (λ_=>CC 13 (by decide)) (mo _ cB (λ_=>mn) λw1 N=>cK (N.at_ C) λY H f=>?_))));replace f:Y.heap[c]? =some (.cells #[.slice r l.length p,.int .i64 i,.int .u64 (LV s (u64 (s*2^13)))] 121):=f;generalize LV s (u64 (s*2^13))=y at f;replace H:=(N.keep (λx=>x=c)).trans H (λ_ _ h=>h) λ_ _ h=>h;refine cF cB (cn (cd f rfl) (cn (cd f rfl) (mo _ cB (λ_=>nU 7 (by decide)) (mo _ cB (λ_=>mn) λw3 O=>cK (O.at_ f) λZ I g=>?_))));replace g:Z.heap[c]? =some (.cells #[.slice r l.length p,.int .i64 i,.int .u64 (LV y (y.fdiv (2^7)))] 121):=g;generalize LV y (y.fdiv (2^7))=A at g;replace I:=(H.trans (O.keep (λx=>x=c)) (λ_ _ h=>h) λ_ _ h=>h).trans I (λ_ _ h=>h) λ_ _ h=>h;refine cF cB (cn (cd g rfl) (cn (cd g rfl) (mo _ cB (λ_=>CC 17 (by decide)) (mo _ cB (λ_=>mn) λw5 P=>cK (P.at_ g) λw6 m a=>?_))));replace a:w6.heap[c]? =some (.cells #[.slice r l.length p,.int .i64 i,.int .u64 (LV A (u64 (A*2^17)))] 121):=a;generalize LV A (u64 (A*2^17))=Q at a;replace m:=(I.trans (P.keep (λx=>x=c)) (λ_ _ h=>h) λ_ _ h=>h).trans m (λ_ _ h=>h) λ_ _ h=>h;refine cF cB (cn (cd a rfl) (cn (cd a rfl) (iB (J5 λw7 B=>⟨λn=>?_,λaa=>?_⟩))))
 ·have n:i<l.length:=by simpa using n
  replace a:=B.at_ a;replace m:=m.trans (B.keep (λx=>x=c)) (λ_ _ h=>h) λ_ _ h=>h;obtain⟨b,o,J,R⟩:=M.keep m (λb o G e F=>by have:=D b o G e;omega) i n;subst J;generalize l[i]=q at R;refine cF cB (cn (cd a rfl) (cn (cd a rfl) (cn (cd a rfl) (mA i n (cn R ?_)))));refine mo (.int .u64 (u64 q)) cB (λ_=>CE) ?_;refine mo (.int .u64 (u64 (u64 q*13787848793156543929))) cB (λ_=>tY) ?_;refine mo (.int .u64 (u64 (Q+u64 (u64 q*13787848793156543929)))) cB (λ_=>G6) ?_;refineλw8 S=>cK (S.at_ a) λw9 k9 j=>?_;generalize u64 (Q+u64 (u64 q*13787848793156543929))=T at j;replace j:w9.heap[c]? =some (.cells #[.slice (some ⟨b,o,none⟩) l.length p,.int .i64 i,.int .u64 T] 121):=j;refine cg (cd j rfl) (cq (cK j λK L d=>?_));replace d:K.heap[c]? =some (.cells #[.slice (some ⟨b,o,none⟩) l.length p,.int .i64 ((i+1:Nat):Int),.int .u64 T] 121):=d;refine cg (cd d rfl) ?_;refine c8 _ (c8 _ (c8 _ (c8 _ (c8 _ ⟨_,rfl,⟨_,rfl,CB _⟩,?_⟩ λ_=>mn) λ_=>nU 31 (by decide)) λ_=>tY) λ_=>mn) λ_=>nU 30 (by decide);exact t _ _ _ (((m.trans (S.keep (λx=>x=c)) (λ_ _ h=>h) λ_ _ h=>h).trans k9 (λ_ _ h=>h) λ_ _ h=>h).trans L (λ_ _ h=>h) λ_ _ h=>h) d (by omega)
 ·replace a:=B.at_ a;replace m:=m.trans (B.keep (λx=>x=c)) (λ_ _ h=>h) λ_ _ h=>h;refine cg (cd a rfl) ?_;refine c8 _ (c8 _ (c8 _ (c8 _ (c8 _ ⟨_,rfl,⟨_,rfl,CB _⟩,?_⟩ λ_=>mn) λ_=>nU 31 (by decide)) λ_=>tY) λ_=>mn) λ_=>nU 30 (by decide);exact t _ _ _ m a U
theorem mq{b:Nat}{w:World}(h:fC b w)(n:Int)(g:n<=1000000):Calls V.prog 35 #[cu b,.int .i64 n] w (eG λv w'=>(∃z:Int,v=.int .i64 z/\0<=z/\(z<=n\/z=0))/\DE b w w'):=by
 refine go V.func35 Tryz.ntmps35 ?_;refine cY ⟨λ_=>⟨_,rfl,⟨0,rfl,by omega,.inr rfl⟩,(Ek b).refl _⟩,λa=>?_⟩;have a:1<=n:=by simpa using a
 refine cf (I9 h) ?_;rintro v i ⟨⟨z,rfl,c⟩,d⟩;refine c8 _ (cq (c8 _ (c8 _ (c8 _ ⟨_,rfl,⟨_,rfl,?_⟩,d⟩ λ_=>I8) λ_=>G7 ?_) λ_=>CE)) λ_=>nU 16 (by decide)
 ·have e:u64 (n+1)=n+1:=IntWalk.u64_in _ ⟨by omega,by omega⟩;rw[e];have f:0<=z.fdiv (2^16):=Int.fdiv_nonneg c (by decide);have j:=Int.tmod_nonneg (n+1) f;have k:(z.fdiv (2^16)).tmod (n+1)<n+1:=Int.tmod_lt_of_pos _ (by omega);rw[IntWalk.i64_in _ ⟨by omega,by omega⟩];omega
 ·have e:u64 (n+1)=n+1:=IntWalk.u64_in _ ⟨by omega,by omega⟩;rw[e];omega
theorem iQ{c:Nat}{w:World}(h:fC c w)(a b:Int)(g: -1000000<=a/\a<=1000000)(i: -1000000<=b/\b<=1000000)(d:b-a<=1000000):Calls V.prog 30 #[cu c,.int .i64 a,.int .i64 b] w (eG λv w'=>(∃z:Int,v=.int .i64 z/\a<=z/\(z<=b\/z=a))/\DE c w w'):=by refine go V.func30 Tryz.ntmps30 ?_;refine fu (cf (mq h _ d) ?_);rintro v j ⟨⟨z,rfl,k,e⟩,f⟩;exact cq ⟨_,rfl,⟨a+z,rfl,by omega,by omega⟩,f⟩
theorem wZ{a:Nat}{w:World}(h:fC a w){l:List Int}{la:Option Addr}{lc:Nat}(f:gM w la l)(p:0<l.length)(g:l.length<=1000)(i:∀b o,la=some ⟨b,o,none⟩->b≠a):Calls V.prog 59 #[cu a,.slice la l.length lc] w (eG λv w'=>(∃z∈l,v=.int .i64 z)/\DE a w w'):=by
 refine go V.func59 Tryz.ntmps59 ?_;refine cA (fu (cf (mq h _ (by omega)) ?_));rintro v q ⟨⟨z,rfl,r,j⟩,d⟩;obtain⟨k,rfl⟩:∃k:Nat,z=k:=⟨z.toNat,by omega⟩;have c:k<l.length:=by omega
 obtain⟨b,o,rfl,m⟩:=f.keep d.1 (λb o _ e n=>i b o e n) k c;exact dT k c (cg m ⟨_,rfl,⟨_,List.getElem_mem c,rfl⟩,d⟩)
theorem zQ{w:World}{l:List Int}{la:Option Addr}{lc:Nat}(g:gM w la l)(h:l.length<=9223372036854775807):Calls V.prog 27 #[.slice la l.length lc] w (eG λv w'=>Ext w w'/\∃c,v=cu c/\w.heap.size<=c/\fC c w'):=by
 refine go V.func27 Tryz.ntmps27 ?_;refine c8 (.agg #[.slice la l.length lc,.int .i64 0,.int .u64 11400714819323198485]) (eO λp i d f j=>?_);refine⟨_,rfl,d,i,rfl,f,la,l,lc,0,11400714819323198485,j,g.ext d,λb o k e=>?_,Nat.zero_le _,h⟩;have m:0<l.length:=by rcases l with _|_;exact absurd rfl k;simp
 obtain⟨q,r,a,n⟩:=g 0 m;rw[e]at a;injection a with a;injection a with d s;have:=oE n;simp only at*;omega
theorem zR{l:List Nat}{a:Option Addr}{c:Nat}{w:World}(h:dV w a l)(b:l.length<=1000000):Calls V.prog 45 #[.slice a l.length c] w (eG λv w'=>Ext w w'/\dN w.heap.size w' v l):=by refine go V.func45 Tryz.ntmps45 ?_;exact dB [] 3 λj k e d f=>pB oH f d (by simp[eJ]) ((h.ext e).cells) (tk l) b λm n g i=>⟨_,rfl,i w e (Nat.le_refl _),g⟩
theorem dN.at_{n0:Nat}{w:World}{v:Value}{l:List Nat}(h:dN n0 w v l)(d:0<l.length):∃b c,v=.slice (some ⟨b,0,none⟩) l.length c/\n0<=b/\∀k (a:k<l.length),w.cell? ⟨b,0+k,none⟩=some (.int .i64 l[k]):=by obtain⟨b,c,e,f,g⟩:=cC.cell h d;exact⟨b,c,e,f,λk a=>by rw[Nat.zero_add];exact g k _ (by simp[eJ,List.getElem?_eq_getElem a])⟩
theorem Kp{w:World}{s:World->Prop}{n0:Nat}{l:List Nat}{b c e:Nat}(h:dN n0 w (.slice (some ⟨b,0,none⟩) e c) l){k:Nat}(K:k<l.length)(x:Nat)(v:∀w',cr (ce (.slice (some ⟨b,0,none⟩) e c)) w w'->dN n0 w' (.slice (some ⟨b,0,none⟩) e c) (l.set k x)->s w'):yF V.prog (Instr.storeAt 3 (.pointer (some ⟨b,0+k,none⟩)) (.int .i64 x)) w s:=by
 obtain⟨L,⟨r,n⟩|⟨M,z,o,r,n,A,t,B,C,D,E⟩⟩:=h
 ·cases n
 injection n with i F G;injection i with i;injection i with i;subst i;have p:k<o.size:=by rw[t];simp;omega
 have a:eJ (l.set k x)=(eJ l).set k (.int .i64 x):=by simp[eJ,List.map_set]
 refine fG A (by simp[Value.cells];omega) (λw' H f=>v w' (H.trans (cr.refl (λ_=>False) _) (λy _ I=>⟨e,c,by rw[I]⟩) λ_ _ h=>h.elim) ?_) (λu J=>by
  have:u=.int .i64 x:=by simpa[Value.cells]using J
  subst this;rfl)
 replace f:w'.heap[b]? =some (.cells (o.setIfInBounds k (.int .i64 x)) 3):=by rw[f];simp[er,Value.cells]
 have m:(eJ l).length=l.length:=by simp[eJ]
 refine⟨by rw[a];simp[m],.inr ⟨b,z,o.setIfInBounds k (.int .i64 x),r,by rw[F,G];simp,f,by simpa using t,by simpa using B,C,λj d=>?_,λj d q=>?_⟩⟩
 ·rw[a]at d⊢;have d:j<(eJ l).length:=by simpa using d
  by_cases g:k=j
  ·subst g;rw[Array.getElem?_setIfInBounds_self_of_lt p,List.getElem?_set_self d]
  ·rw[Array.getElem?_setIfInBounds_ne g,List.getElem?_set_ne g];exact D j d
 ·rw[a]at d;have d:(eJ l).length<=j:=by simpa using d
  rw[Array.getElem?_setIfInBounds_ne (by omega)];exact E j d (by simpa using q)
theorem Em{f:Nat}{w:World}(h:fC f w)(n:Nat)(Y:n<=1000):Calls V.prog 60 #[cu f,.int .i64 n] w (eG λv w'=>DE f w w'/\∃l,l.Perm (List.range n)/\dN w.heap.size w' v l):=by
 have O:=h.lt;refine go V.func60 Tryz.ntmps60 ?_;refine gq n (λk v=>[(0,cu f),(1,.int .i64 n),(5,v),(6,.int .i64 k)]) (λk v w'=>Ext w w'/\dN w.heap.size w' v (List.range k)) (.slice none 0 0) ⟨⟨rfl,rfl,rfl,rfl,trivial⟩,Ext.refl _,cC.nil _ _ _ _⟩ ?_;rintro k v Z hk ⟨D,E⟩;refine cY ⟨λg=>?_,λF=>?_⟩
 ·have g:k<n:=by simpa using g
  refine dB [Value.int .i64 k] 3 λP nb A Q q=>gC oH (E.ext A) (by have:=D.size;have:=A.size;omega) q (by simp;omega) λR K a S _=>cq ⟨g,R,⟨rfl,rfl,rfl,rfl,trivial⟩,(D.trans A).gN S (E.ext A) (Nat.le_refl _),?_⟩;rw[List.range_succ];simpa[dN,eJ]using a
 ·obtain rfl:k=n:=by have:¬k<n:=by simpa using F
                     omega
  refine fu (gq (k-1) (λ_ (s:List Nat×Int)=>[(0,cu f),(5,v),(7,.int .i64 s.2)]) (λj s w'=>DE f w w'/\s.1.Perm (List.range k)/\dN w.heap.size w' v s.1/\s.2=(k:Int)-1-j) (List.range k,(k:Int)-1) ⟨⟨rfl,rfl,rfl,trivial⟩,D.de f,.refl _,E,by simp⟩ ?_);rintro j ⟨l,i⟩ P hj ⟨B,C,d,T⟩;simp only at C d T;refine pr ⟨λr=>?_,λt=>?_⟩
  ·have r:0<i:=by simpa using r
   have hl:l.length=k:=by simpa using C.length_eq
   refine cf (mq (B.2 h) i (by omega)) ?_;rintro u K ⟨⟨z,rfl,p,U⟩,G⟩;have a:dN w.heap.size K v l:=cC.keep d G.1 λb q e=>by have:=cC.blk d q;omega
   obtain⟨o,rfl⟩:∃m:Nat,z=m:=⟨z.toNat,by omega⟩;obtain⟨m,rfl⟩:∃m:Nat,i=m:=⟨i.toNat,by omega⟩;obtain⟨b,c,rfl,W,L⟩:=a.at_ (by omega);have x:m<l.length:=by omega
   have p:o<l.length:=by omega
   refine dT m x (cg (L m x) (dT o p (cg (L o p) (dT m x (Kp a x l[o] λw4 M H=>dT o p (Kp H (by simpa using p) l[m] λw5 N I=>fu ⟨by omega,((l.set m l[o]).set o l[m],(m:Int)-1),⟨rfl,rfl,rfl,trivial⟩,?_,(List.set_set_perm x p).trans C,I,by simp only;omega⟩))))));have X:∀y,ce (.slice (some ⟨b,0,none⟩) l.length c) y->y=b:=λy ⟨_,_,e⟩=>by injection e with e;exact(congrArg Addr.block (Option.some.inj e)).symm
   refine⟨((B.1.trans G.1 (λ_ _ h=>h) λ_ _ h=>h).trans M (λ_ _ h=>h) λy J q=>?_).trans N (λ_ _ h=>h) λy J q=>?_,λ_=>((G.2 (B.2 h)).keep M λy J=>?_).keep N λy J=>?_⟩<;>have:=X y (by assumption)<;>omega
  ·have t:i<=0:=by simpa using t
   exact⟨_,rfl,B,l,C,d⟩
def Nw(n0:Nat)(a:Option Addr):Prop:=∀b o,a=some ⟨b,o,none⟩->n0<=b
theorem cC.O6{n0:Nat}{t:TypeId}{zs g:List Value}{w:World}{a:Option Addr}{l c f:Nat}(h:cC n0 t zs w (.slice a l c) f g):Nw n0 a:=λb o e=>by
 obtain⟨_,⟨_,h⟩|⟨i,j,k,m,d,_⟩⟩:=h
 ·injection h with h;rw[e]at h;cases h
 ·injection d with d;rw[e]at d;injection d with d;injection d with d;omega
theorem dV.keep{w w':World}{a:Option Addr}{l:List Nat}{F:Nat->Prop}(h:dV w a l)(k:cr F w w')(d:∀b o,a=some ⟨b,o,none⟩->¬F b):dV w' a l:=λi e=>by obtain⟨b,o,c,f⟩:=h i e;exact⟨b,o,c,k.dn f (d b o c)⟩
theorem Bw{f:Nat}{w:World}(h:fC f w){G:Gd}{s:Option Addr}{dc:Nat}(t:G.doors.length<=1000):Calls V.prog 43 #[cu f,gV G s dc] w (eG λv w'=>DE f w w'/\∃(l:List Nat) (a:Option Addr) (c:Nat),v=.slice a l.length c/\dV w' a l/\l.length<=c/\l.length<=G.doors.length/\l.Nodup/\(∀d∈l,d<G.doors.length)/\Nw w.heap.size a):=by
 refine go V.func43 Tryz.ntmps43 ?_;refine eO λE F g x m=>cg (cd m rfl) (cA (cf (Em (h.ext g) G.doors.length t) ?_));rintro v H ⟨n,l,i,p⟩;obtain⟨a,c,rfl,y,I⟩:=p.row;have q:=cC.O6 p;have J:l.length=G.doors.length:=by simpa using i.length_eq
 refine cA (cf (mq (n.2 (h.ext g)) l.length (by omega)) ?_);rintro u K ⟨⟨z,rfl,L,A⟩,r⟩;obtain⟨k,rfl⟩:∃k:Nat,z=k:=⟨z.toNat,by omega⟩;have B:k<=l.length:=by omega
 have C:=h.lt;have j:=g.size;refine lV k (by omega) ⟨_,rfl,((g.de f).trans n).trans r,l.take k,a,c,by rw[List.length_take,Nat.min_eq_left B];rfl,dV.cut (dV.keep y r.1 λb o e m=>?_) k,by simp;omega,by simp;omega,?_,λd D=>?_,λb o e=>Nat.le_trans j (q b o e)⟩
 ·have:=q b o e;omega
 ·exact((i.nodup_iff).2 List.nodup_range).sublist (List.take_sublist k l)
 ·have:=i.subset (List.mem_of_mem_take D);simpa using this
def nD(n0:Nat)(w:World)(v:Value)(ds:List Dr):Prop:=cC n0 81 [.int .i64 0,.int .i64 0,.int .i64 0] w v ds.length (ds.flatMap dL)
theorem vF:∀ds:List Dr,(ds.flatMap dL).length=ds.length*3
 |[]=>rfl
 |d::r=>by have:=vF r;simp[dL,this];omega
theorem nD.row{n0:Nat}{w:World}{v:Value}{ds:List Dr}(h:nD n0 w v ds):∃a c,v=.slice a ds.length c/\fZ w a ds/\ds.length<=c:=by
 obtain⟨n,⟨f,rfl⟩|⟨b,c,o,p,rfl,d,q,i,r,e,s⟩⟩:=h
 ·exact⟨none,0,by rw[f],λk g=>by omega,by omega⟩
 ·refine⟨_,c,rfl,λk g=>?_,i⟩;obtain⟨j,l,m⟩:=pu ds k g;have f:=vF ds;refine⟨b,0,rfl,cd d ?_,cd d ?_,cd d ?_⟩
  ·rw[Nat.zero_add,e _ (by omega)];exact j
  ·rw[Nat.zero_add,e _ (by omega)];exact l
  ·rw[Nat.zero_add,e _ (by omega)];exact m
theorem nD.Ny{n0:Nat}{w:World}{a:Option Addr}{c:Nat}{ds:List Dr}(h:nD n0 w (.slice a ds.length c) ds):fZ w a ds:=by obtain⟨b,d,e,h,_⟩:=h.row;injection e with e;rw[e];exact h
structure vG(n:Int)(d:Dr):Prop where
 st:0<=d.st/\d.st<=n-1
 at_:0<=d.at_/\d.at_<=20
 talk:1<=d.talk/\d.talk<=9
theorem rh{n:Int}:∀{ds:List Dr},(∀d∈ds,vG n d)->jN n ds=0
 |[],_=>rfl
 |d::r,h=>by
  have e:=h d List.mem_cons_self;have:nk n d=0:=by have a:=e.st;have b:=e.at_;have c:=e.talk;simp[nk,lH,a,b,c]
  simp only[jN,this,if_true];exact rh λx f=>h x (List.mem_cons_of_mem _ f)
def GE(c:Nat)(v:Value)(a b:World):Prop:=cr (λx=>x=c\/ce v x) a b/\(fC c a->fC c b)
theorem DE.ge{c:Nat}{v:Value}{a b:World}(h:DE c a b):GE c v a b:=⟨h.1.trans (cr.refl (λ_=>False) _) (λ_ _ h=>.inl h) λ_ _ h=>h.elim,h.2⟩
theorem O7(d:Nat)(v:Value):dR (GE d v):=⟨λw=>((Ext.refl w).de d).ge,λa b c h k=>⟨h.1.trans k.1 (λ_ _ h=>h) λ_ _ h=>h,λx=>k.2 (h.2 x)⟩,λw=>((Ext.drew w).de d).ge⟩
structure Q7(n0 gb:Nat)(st co kn mi da tr:Int)(ds:List Dr)(v:Value)(w:World):Prop where
 g:w.heap[gb]? =some (.cells #[.int .i64 st,.int .i64 co,.int .i64 kn,.int .i64 mi,.int .i64 da,.int .i64 tr,v] 24)
 r:nD n0 w v ds
 ok:∀d∈ds,vG st d
def En(p:Int->Prop)(v:Value):Prop:=∃z:Int,v=.int .i64 z/\p z
theorem nD.low{n0 a:Nat}{w:World}{v:Value}{ds:List Dr}(h:nD n0 w v ds)(g:a<=n0):nD a w v ds:=by
 obtain⟨d,h|⟨b,c,e,i,f⟩⟩:=h
 ·exact⟨d,.inl h⟩
 ·exact⟨d,.inr ⟨b,c,e,by omega,f⟩⟩
theorem xa{m:Nat}{w:World}(h:fC m w)(n:Nat)(hn:n<=5):Calls V.prog 28 #[cu m,.int .i64 n] w (eG λv w'=>DE m w w'/\∃G a c,v=gV G a c/\nD w.heap.size w' (.slice a G.doors.length c) G.doors/\fZ w' a G.doors/\ed G=0/\G.doors.length<=n):=by
 have aE:=h.lt;refine go V.func28 Tryz.ntmps28 ?_;refine dS λw1 rb e1 aF hr=>?_;have f:=h.ext e1;have aD:=ck.lt_of_heap hr;have ar:=e1.size;refine cf (iQ f 1 3 (by omega) (by omega) (by omega)) ?_;rintro _ w2 ⟨⟨F,rfl,s1,s2⟩,P⟩;refine cf (iQ (P.2 f) 1 5 (by omega) (by omega) (by omega)) ?_;rintro _ t ⟨⟨co,rfl,c1,c2⟩,d3⟩;replace d3:=P.trans d3;refine cf (iQ (d3.2 f) 1 3 (by omega) (by omega) (by omega)) ?_;rintro _ B ⟨⟨kn,rfl,k1,k2⟩,d4⟩;replace d4:=d3.trans d4;refine cf (iQ (d4.2 f) 20 45 (by omega) (by omega) (by omega)) ?_;rintro _ w5 ⟨⟨a1,rfl,a2,a3⟩,d5⟩;replace d5:=d4.trans d5;refine cf (iQ (d5.2 f) 30 60 (by omega) (by omega) (by omega)) ?_;rintro _ w6 ⟨⟨b1,rfl,b2,b3⟩,d6⟩;replace d6:=d5.trans d6;refine cf (iQ (d6.2 f) 1 90 (by omega) (by omega) (by omega)) ?_;rintro _ w7 ⟨⟨x1,rfl,x2,x3⟩,d7⟩;replace d7:=d6.trans d7;refine dB [.int .i64 a1,.int .i64 b1,.int .i64 x1] 3 λw8 mb e8 aG D=>?_;have d8:=d7.trans (e8.de m);have s7:=d7.1.size;refine cf (wZ (l:=[a1,b1,x1]) (d8.2 f) (iF D) (by simp) (by simp) (λb o e=>by injection e with e;injection e with e;omega)) ?_;rintro _ w9 ⟨⟨T,ad,rfl⟩,d9⟩;replace d9:=d8.trans d9;have ad:1<=T/\T<=90:=by simp only[List.mem_cons,List.not_mem_nil,or_false]at ad;omega
 refine dB [.int .i64 1,.int .i64 2,.int .i64 2,.int .i64 3,.int .i64 3] 3 λaH yb au aI hy=>?_;have aa:=d9.trans (au.de m);have s9:=d9.1.size;refine cf (wZ (l:=[1,2,2,3,3]) (aa.2 f) (iF hy) (by simp) (by simp) (λb o e=>by injection e with e;injection e with e;omega)) ?_;rintro _ aJ ⟨⟨Q,ae,rfl⟩,J⟩;replace J:=aa.trans J;have ae:1<=Q/\Q<=3:=by simp only[List.mem_cons,List.not_mem_nil,or_false]at ae;omega
 refine c8 (.agg #[.int .i64 F,.int .i64 co,.int .i64 kn,.int .i64 T,.int .i64 Q,.int .i64 0,.slice none 0 0]) (dS λaK R av aw hg=>cK hg λaf ax H=>?_);replace H:af.heap[R]? =some (.cells #[.int .i64 F,.int .i64 co,.int .i64 kn,.int .i64 T,.int .i64 Q,.int .i64 0,.slice none 0 0] 24):=H;have aL:=J.1.size;have U:DE m w1 af:=J.trans ((Ext.cj av ax aw).de m);refine cg (cd H rfl) (cf (iQ (U.2 f) 1 Q (by omega) (by omega) (by omega)) ?_);rintro _ aM ⟨⟨tr,rfl,t1,t2⟩,W⟩;have ag:=W.1.ef H (show¬R=m by omega);refine cK ag λah ai K=>?_;replace K:ah.heap[R]? =some (.cells #[.int .i64 F,.int .i64 co,.int .i64 kn,.int .i64 T,.int .i64 Q,.int .i64 tr,.slice none 0 0] 24):=K;have aj:DE m w1 ah:=⟨(U.trans W).1.trans ai (λ_ _ h=>h) (λx A e=>by omega),λx=>((U.trans W).2 x).keep ai λb e=>by omega⟩;refine cf (mq (aj.2 f) n (by omega)) ?_;rintro _ aN ⟨⟨z,rfl,z1,z2⟩,L⟩;have ak:=L.1.ef K (show¬R=m by omega);replace L:=aj.trans L;have al:=L.1.ef hr (show¬rb=m by omega);clear W U J aa d9 d8 d7 d6 d5 d4 d3 P;refine gq z.toNat (λ_ (s:(List Dr×Value)×Int)=>[(0,cu m),(4,cu rb),(5,cu R),(6,.int .i64 s.2)]) (λk s w'=>DE m w1 w'/\Q7 w1.heap.size R F co kn T Q tr s.1.1 s.1.2 w'/\w'.heap[rb]? =some (.cells (qg 24).toArray 24)/\s.1.1.length=k/\s.2=z-k) (([],.slice none 0 0),z) ⟨⟨rfl,rfl,rfl,rfl,trivial⟩,L,⟨ak,cC.nil _ _ _ _,λd M=>by cases M⟩,al,rfl,by simp⟩ ?_;rintro k ⟨⟨S,v⟩,i⟩ w2 hk ⟨P,D,Y,am,hi⟩;simp only at D am hi;refine pr ⟨λan=>?_,λab=>?_⟩
 ·have an:0<i:=by simpa using an
  have X:∀b,ce v b->w1.heap.size<=b/\b<w2.heap.size:=λb E=>cC.blk D.r E;have ay:¬(R=m\/ce v R):=by
   rintro(e|E)
   ·omega
   ·obtain⟨cs,q⟩:=cC.c_ D.r E;exact dW q D.g (by decide)
  have hg:∀t,GE m v w2 t->t.heap[R]? =some (.cells #[.int .i64 F,.int .i64 co,.int .i64 kn,.int .i64 T,.int .i64 Q,.int .i64 tr,v] 24):=λt p=>p.1.ef D.g ay;have hD:=P.2 f;have s2:=P.1.size
  have N:∀{a b:World} {x:Nat} {o:Obj},a.heap[x]? =some o->GE m v a b->w2.heap.size<=x->b.heap[x]? =some o:=λA e ab=>e.1.ef A (by
   rintro(e|E)
   ·omega
   ·have:=(X _ E).2;omega)
  refine fa 20 (Ek m) (O7 m v) (λa b h=>h.ge) ?_;refine .exact v (λt p=>cg (cd (hg t p) rfl) ⟨rfl,(Ek m).refl _⟩) ?_;refine .exact (.int .i64 F) (λt p=>cg (cd (hg t p) rfl) ⟨rfl,(Ek m).refl _⟩) ?_;refine .exact (.int .i64 (F-1)) (λt p=>fu ⟨rfl,(Ek m).refl _⟩) ?_;refine .rel (λu _=>En (λx=>0<=x/\x<=F-1) u) (λ_ _ _ h _=>h) (λt p=>cf (mq (p.2 hD) _ (by omega)) λu B ⟨⟨x,e,f,I⟩,d⟩=>⟨⟨x,e,by omega⟩,d⟩) ?_;refine .rel (λu _=>En (λx=>0<=x/\x<=20) u) (λ_ _ _ h _=>h) (λt p _ _=>cf (mq (p.2 hD) 9 (by omega)) λu B ⟨⟨x,e,f,I⟩,d⟩=>⟨⟨x,e,by omega⟩,d⟩) ?_;refine .rel (λu _=>En (λx=>0<=x/\x<=20) u) (λ_ _ _ h _=>h) (λt p _ _=>cf (mq (p.2 hD) 9 (by omega)) λu B ⟨⟨x,e,f,I⟩,d⟩=>⟨⟨x,e,by omega⟩,d⟩) ?_;refine .rel (λu _=>En (λx=>0<=x/\x<=20) u) (λ_ _ _ h _=>h) (λt p _ _=>cf (mq (p.2 hD) 20 (by omega)) λu B ⟨⟨x,e,f,I⟩,d⟩=>⟨⟨x,e,by omega⟩,d⟩) ?_;refine .rel (λu B=>∃b x y z:Int,∃C:Nat,u=.slice (some ⟨C,0,none⟩) 3 3/\w2.heap.size<=C/\B.heap[C]? =some (.cells ([x,y,z].map (Value.int .i64)).toArray 3)/\∀j∈[x,y,z],0<=j/\j<=20) (λu a b ⟨_,x,y,z,C,f,I,Z,h4⟩ e=>⟨0,x,y,z,C,f,I,N Z e I,h4⟩) (λt p u1 f u2 I u3 Z=>?_) ?_
  ·obtain⟨x,rfl,A⟩:=f;obtain⟨y,rfl,hy⟩:=I;obtain⟨z,rfl,hz⟩:=Z;have:=p.1.size;refine dB [.int .i64 z,.int .i64 y,.int .i64 x] 3 λB C O ao E=>⟨⟨0,z,y,x,C,rfl,by omega,E,?_⟩,O.de m⟩;intro j hj;simp only[List.mem_cons,List.not_mem_nil,or_false]at hj;omega
  refine .rel (λu _=>En (λx=>0<=x/\x<=20) u) (λ_ _ _ h _=>h) (λt p u1 f _ _=>?_) ?_
  ·obtain⟨_,x,y,z,C,rfl,g1,g2,g3⟩:=f;refine cf (wZ (l:=[x,y,z]) (p.2 hD) (iF g2) (by simp) (by simp) (λb o e=>by injection e with e;injection e with e;omega)) λu B ⟨⟨j,hj,e⟩,d⟩=>⟨⟨j,e,g3 j hj⟩,d⟩
  refine .rel (λu _=>En (λx=>1<=x/\x<=9) u) (λ_ _ _ h _=>h) (λt p _ _=>cf (iQ (p.2 hD) 1 6 (by omega) (by omega) (by omega)) λu B ⟨⟨x,e,f,I⟩,d⟩=>⟨⟨x,e,by omega⟩,d⟩) ?_;refine .rel (λu _=>∃d,vG F d/\u=.agg (dL d).toArray) (λ_ _ _ h _=>h) (λt p u1 f u2 I u3 Z=>?_) ?_
  ·obtain⟨x,rfl,A⟩:=f;obtain⟨y,rfl,hy⟩:=I;obtain⟨z,rfl,hz⟩:=Z;exact c8 (.agg (dL ⟨z,y,x⟩).toArray) ⟨⟨⟨z,y,x⟩,⟨hz,hy,A⟩,rfl⟩,(Ek m).refl _⟩
  refine .rel (λu B=>∃(d:Dr) (C:Nat),vG F d/\u=.slice (some ⟨C,0,none⟩) 1 1/\w2.heap.size<=C/\B.heap[C]? =some (.cells (dL d).toArray 81)) (λu a b ⟨d,C,f,I,Z,h4⟩ e=>⟨d,C,f,I,Z,N h4 e Z⟩) (λt p u1 f=>?_) ?_
  ·obtain⟨d,M,rfl⟩:=f;have:=p.1.size;exact dB (dL d) 81 λB C O ao E=>⟨⟨d,C,M,rfl,by omega,E⟩,O.de m⟩
  refine .spec (λu B=>∃d,vG F d/\nD w1.heap.size B u (S++[d])) (λu a b ⟨d,M,hu⟩ e=>⟨d,M,cC.keep hu e.1 λx A e=>by have:=(cC.blk hu A).1;have:=f.lt;omega⟩) (λB O u1 f _ _=>?_) ?_
  ·obtain⟨d,C,M,rfl,ao,E⟩:=f;have az:nD w1.heap.size B v S:=cC.keep D.r O.1 λx A e=>by have:=(cC.blk D.r A).1;have:=h.lt;omega
   have:=O.1.size;refine gC Lk az (by omega) E (by omega) λv' w5 g1 g2 g3=>⟨⟨d,M,by simpa[nD]using g1⟩,g2.trans (cr.refl (λ_=>False) _) (λ_ _ h=>.inr h) (λ_ _ h=>h.elim),λx=>x.keep g2 λb E=>?_⟩;have:=(X b E).1;omega
  rintro B O u1 ⟨d,M,hu⟩ _ _ _ _ _ _ _ _ _ _ _ _ _ _ _ _ _ _;obtain⟨a9,c9,rfl,_⟩:=nD.row hu;have q4:=hg B O;refine cK q4 λw5 k5 aA=>fu ⟨by omega,((S++[d],.slice a9 (S++[d]).length c9),i-1),⟨rfl,rfl,rfl,rfl,trivial⟩,⟨(P.1.trans O.1 (λ_ _ h=>h) λx A e=>?_).trans k5 (λ_ _ h=>h) λx A e=>by omega,λx=>(O.2 (P.2 x)).keep k5 λb e=>by omega⟩,⟨aA,cC.keep hu k5 λx A e=>?_,λx A=>?_⟩,?_,by simp;omega,by simp only;omega⟩
  ·rcases e with e|e
   ·exact e
   ·have:=(X x e).1;omega
  ·subst e;obtain⟨cs,q⟩:=cC.c_ hu A;exact dW q q4 (by decide)
  ·rcases List.mem_append.1 A with A|A
   ·exact D.ok x A
   ·rcases List.mem_singleton.1 A with rfl;exact M
  ·refine k5.ef (O.1.ef Y ?_) (by omega);rintro(e|E)
   ·omega
   ·have:=(X _ E).1;omega
 ·have ab:i<=0:=by simpa using ab
  obtain⟨a,c,rfl,aO,hc⟩:=nD.row D.r;obtain⟨G,hG⟩:∃G:Gd,G=⟨F,co,kn,T,Q,tr,S⟩:=⟨_,rfl⟩;have ac:S=G.doors:=by rw[hG]
  have hg:w2.heap[R]? =some (.cells (gL G a c).toArray 24):=by rw[hG];exact D.g
  refine fW hg (cK Y λt k3 ap=>?_);have aB:t.heap[rb]? =some (.cells (gL G a c).toArray 24):=ap.trans (congrArg (λa=>some (Obj.cells a 24)) (eh (qg 24).toArray (gL G a c) rfl));have hl:Sem.run V.prog (loadVar 24 ⟨rb,0,none⟩) t=.ok (gV G a c) t:=lZ (gL G a c) aB λj v hj=>by rw[Nat.zero_add];simpa using hj
  clear ap;have aq:∀x,ce (.slice a S.length c) x->¬x=rb:=λx A e=>by have:=(cC.blk D.r A).1;omega
  refine⟨gV G a c,hl,_,rfl,⟨((e1.keep _).trans P.1 (λ_ _ h=>h) λ_ _ h=>h).trans k3 (λ_ _ h=>h) λx A e=>by omega,λx=>(P.2 (x.ext e1)).keep k3 λb e=>by omega⟩,G,a,c,rfl,?_,?_,?_,by rw[<-ac];omega⟩
  ·rw[<-ac];exact nD.low (cC.keep D.r k3 aq) ar
  ·rw[<-ac];exact nD.Ny (cC.keep D.r k3 aq)
  ·have aC:∀d∈S,vG F d:=D.ok;rw[hG];have M:=rh aC;have hh:ly ⟨F,co,kn,T,Q,tr,S⟩=true:=by
    simp only[ly,lH,Bool.and_eq_true,decide_eq_true_eq];omega
   have h5:¬(5:Int)<S.length:=by omega
   simp only[ed,hh,if_true,h5,if_false];exact M
end Go.Proofs.W
