/- Laws that the proof needs, part 17. Conditions: none. -/
import Derived.Test.YteeagjkaflglpaaGreatX16
set_option maxRecDepth 100000
set_option maxHeartbeats 8000000
set_option linter.all false
namespace Go.Proofs.W
open Go.RowKit
def iq(G:Gd)(l:List Int):Int:=if ed G=0 then eH G.doors.length l else ed G
def eR(a b:Int):List Value:=[.int .i64 a,.int .i64 b]
theorem ky{n:Nat}{l:List Int}(h:eH n l=0):∃l':List Nat,l=kT l'/\(∀d∈l',d<n):=by
 have c:∀(l a:List Int),iI n a l=0->∃l':List Nat,l=kT l'/\∀d∈l',d<n:=by
  intro l;induction l with
  |nil=>intro _ _;exact⟨[],rfl,λd b=>by cases b⟩
  |cons x r e=>
   intro a h;simp only[iI]at h;split at h
   ·rename_i f;split at h
    ·omega
    ·obtain⟨l',g,i⟩:=e _ h;simp[lH]at f;refine⟨x.toNat::l',?_,λd b=>?_⟩
     ·simp only[kT,List.map_cons,List.cons.injEq];exact⟨by omega,g⟩
     ·rcases List.mem_cons.1 b with rfl|b
      ·omega
      ·exact i d b
   ·omega
 exact c l [] h
theorem gM.yZ{w:World}{a:Option Addr}{l:List Nat}(h:gM w a (kT l)):dV w a l:=λk c=>by obtain⟨b,o,d,e⟩:=h k (by simpa[kT]using c);exact⟨b,o,d,by rw[e];simp[kT]⟩
def oK(G:Gd)(l:List Int):Value:=if iq G l=0 then .tuple #[.agg (eR (ee G (l.map Int.toNat)) (eI G (l.map Int.toNat))).toArray,.int .i64 0]else .tuple #[.agg (eR 0 0).toArray,.int .i64 (iq G l)]
theorem vk{G:Gd}{B:Option Addr}{dc:Nat}{w:World}(H:fZ w B G.doors)(o:G.doors.length<=100000)(I: -1000000<=G.streets/\G.streets<=1000000){l:List Int}{la:Option Addr}{lc:Nat}(C:gM w la l)(u:l.length<=100000)(J:l.length<=lc):
 Calls V.prog 44 #[gV G B dc,.slice la l.length lc] w (eG λv w'=>v=oK G l/\Ext w w'):=by
 refine go V.func44 Tryz.ntmps44 ?_;refine eO λS T f K L=>dS λM D i N p=>fW (i.at_ L) (cf (tl (dc:=dc) (H.ext (f.trans i)) o I (C.ext (f.trans i)) u J) ?_);have q:∀(m:World),Ext M m->iq G l≠0->∀k:World->Prop,(∀c,Ext w c->Sem.run V.prog (loadVar 56 ⟨D,0,none⟩) c=.ok (.agg (eR 0 0).toArray) c->k c)->yF V.prog (Instr.storeAt 56 (.pointer (some ⟨D,0,none⟩)) (.agg (eR 0 0).toArray)) m k:=λm d a k O=>
  cK (d.at_ p) λc P x=>O c (((f.trans i).trans d).cj P (by have:=f.size;omega)) (lZ (eR 0 0) x λj v y=>by rw[Nat.zero_add];show(eR 0 0).toArray[j]? =some v;simpa using y)
 rintro v m ⟨d,⟨n,rfl⟩|⟨n,U,mk,W,rfl,E⟩⟩
 ·have a:iq G l=ed G:=by simp[iq,n]
  refine eP (je (by simpa using n) (c8 (.agg (eR 0 0).toArray) (q m d (by rw[a];exact n) _ λc e z=>⟨_,z,_,rfl,?_,e⟩)));rw[oK,a,if_neg n];rfl
 ·have a:iq G l=eH G.doors.length l:=by simp[iq,n]
  refine eP ⟨λh=>?_,λh=>?_⟩
  ·have h:¬eH G.doors.length l=0:=of_decide_eq_true h;refine c8 (.agg (eR 0 0).toArray) (q m d (by rw[a];exact h) _ λc e z=>⟨_,z,_,rfl,?_,e⟩);rw[oK,a,if_neg h];rfl
  ·have h:eH G.doors.length l=0:=by simpa using h
   obtain⟨b,rfl,r⟩:=ky h;have Q:(kT b).length=b.length:=by simp[kT]
   have s:=((C.ext (f.trans i)).ext d).yZ;have t:(kT b).map Int.toNat=b:=by simp[kT,Function.comp_def]
   rw[Q]at u⊢;refine dU (yW E.g r u s) λc e=>dU (wB (E.ext e).g r u (s.ext e)) λX F=>?_;refine c8 (.agg (eR (ee G b) (eI G b)).toArray) (cK (F.at_ (e.at_ (d.at_ p))) λY R A=>⟨_,lZ (eR (ee G b) (eI G b)) A λj v y=>by rw[Nat.zero_add];show(eR (ee G b) (eI G b)).toArray[j]? =some v;simpa using y,_,rfl,?_,?_⟩)
   ·rw[oK,a,if_pos h,t];rfl
   ·exact(((f.trans i).trans d).trans (e.trans F)).cj R (by have:=f.size;omega)
def Gg:List Dr:=[⟨0,3,5⟩,⟨0,8,2⟩,⟨1,5,4⟩,⟨1,2,6⟩]
def dK:Gd:=⟨2,4,1,40,3,2,Gg⟩
theorem Do{w:World}{b:Nat}{ds:List Dr}{t:TypeId}(h:w.heap[b]? =some (.cells (ds.flatMap dL).toArray t)):fZ w (some ⟨b,0,none⟩) ds:=λk a=>by obtain⟨c,d,e⟩:=pu ds k a;exact⟨b,0,rfl,cd h (by rw[Nat.zero_add];simpa using c),cd h (by rw[Nat.zero_add];simpa using d),cd h (by rw[Nat.zero_add];simpa using e)⟩
theorem Gi(w:World):Calls V.prog 95 #[] w (eG λv w'=>Ext w w'/\∃b,w.heap.size<=b/\v=gV dK (some ⟨b,0,none⟩) 4/\w'.heap[b]? =some (.cells (Gg.flatMap dL).toArray 81)):=by
 refine go V.func95 Tryz.ntmps95 ?_;refine dS λq d k e l=>c8 (.agg (dL ⟨0,3,5⟩).toArray) (c8 (.agg (dL ⟨0,8,2⟩).toArray) (c8 (.agg (dL ⟨1,5,4⟩).toArray) (c8 (.agg (dL ⟨1,2,6⟩).toArray) (dB (Gg.flatMap dL) 81 λr b m s f=>?_))));refine c8 (gV dK (some ⟨b,0,none⟩) 4) (cK (m.at_ l) λg n c=>?_);have h:g.heap[d]? =some (.cells (gL dK (some ⟨b,0,none⟩) 4).toArray 24):=c.trans (congrArg (λa=>some (Obj.cells a 24)) (eh (qg 24).toArray (gL dK (some ⟨b,0,none⟩) 4) rfl));have o:Sem.run V.prog (loadVar 24 ⟨d,0,none⟩) g=.ok (gV dK (some ⟨b,0,none⟩) 4) g:=lZ (gL dK (some ⟨b,0,none⟩) 4) h λj v p=>by rw[Nat.zero_add];simpa using p
 clear c;have i:¬(b=d):=by have:=ck.lt_of_heap l;omega
 refine⟨gV dK (some ⟨b,0,none⟩) 4,o,?_⟩;exact⟨_,rfl,(k.trans m).cj n e,b,by have:=k.size;omega,rfl,n.ef f i⟩
structure Ty where
 door:Nat
 shift:Nat
 opened:Bool
def tL(t:Ty):List Value:=[.int .i64 t.door,.int .i64 t.shift,.bool t.opened]
def Gj:List Ty:=[⟨0,0,false⟩,⟨1,0,true⟩,⟨2,1,false⟩]
theorem Dp(w:World):Calls V.prog 96 #[] w (eG λv w'=>Ext w w'/\∃b,w.heap.size<=b/\v=.slice (some ⟨b,0,none⟩) 3 3/\w'.heap[b]? =some (.cells (Gj.flatMap tL).toArray 84)):=by refine go V.func96 Tryz.ntmps96 ?_;exact c8 (.agg (tL ⟨0,0,false⟩).toArray) (c8 (.agg (tL ⟨1,0,true⟩).toArray) (c8 (.agg (tL ⟨2,1,false⟩).toArray) (dB (Gj.flatMap tL) 84 λe b c d a=>⟨_,rfl,c,b,d,rfl,a⟩)))
theorem wG(b:Int)(a:Option Addr)(l c:Nat)(w:World):Calls V.prog 97 #[.int .i64 b,.slice a l c] w (eG λv w'=>v=.agg #[.int .i64 b,.slice a l c]/\Ext w w'):=by
 refine go V.func97 Tryz.ntmps97 ?_;refine dS λo g h d i=>c8 (.agg ([.int .i64 b,.slice a l c]:List Value).toArray) (cK i λf k e=>?_);have m:Sem.run V.prog (loadVar 29 ⟨g,0,none⟩) f=.ok (.agg ([.int .i64 b,.slice a l c]:List Value).toArray) f:=lZ _ e λj v n=>by rw[Nat.zero_add];show([.int .i64 b,.slice a l c]:List Value).toArray[j]? =some v;simpa using n
 exact⟨_,m,_,rfl,rfl,h.cj k d⟩
theorem qk:∀xs:List Sx,(xs.flatMap iX).length=xs.length*8
 |[]=>rfl
 |x::r=>by have:=qk r;simp[iX,this];omega
theorem ql:∀(xs:List Sx) (k:Nat) (a:k<xs.length) (j:Nat) (v:Value),(iX xs[k])[j]? =some v->(xs.flatMap iX)[k*8+j]? =some v
 |x::r,0,_,j,v,h=>by have b:j<(iX x).length:=(List.getElem?_eq_some_iff.1 h).1;simp only[List.flatMap_cons,Nat.zero_mul,Nat.zero_add];rw[List.getElem?_append_left b];exact h
 |x::r,k+1,a,j,v,h=>by have c:=ql r k (by simpa using a) j v (by simpa using h);have d:(iX x).length=8:=rfl;simp only[List.flatMap_cons];rw[List.getElem?_append_right (by omega),d,show(k+1)*8+j-8=k*8+j by omega];exact c
structure jQ(sb:Nat)(xs:List Sx)(w:World):Prop where
 out:∃cs,w.heap[sb]? =some (.cells cs 166)/\xs.length*8<=cs.size/\∀k (h:k<xs.length) j v,(iX xs[k])[j]? =some v->cs[k*8+j]? =some v
theorem jQ.row{a:Nat}{xs:List Sx}{w:World}(h:jQ a xs w):oJ w (some ⟨a,0,none⟩) xs:=λk b=>by obtain⟨f,c,g,d⟩:=h.out;exact⟨a,0,rfl,λj v e=>cd c (by rw[Nat.zero_add];exact d k b j v e)⟩
theorem jQ.ext{a:Nat}{xs:List Sx}{w w':World}(h:jQ a xs w)(e:Ext w w'):jQ a xs w':=by obtain⟨b,c,d⟩:=h.out;exact⟨b,e.at_ c,d⟩
theorem jQ.keep{a:Nat}{xs:List Sx}{w w':World}{F:Nat->Prop}(h:jQ a xs w)(k:cr F w w')(b:¬F a):jQ a xs w':=by obtain⟨c,d,e⟩:=h.out;exact⟨c,k.ef d b,e⟩
theorem Gk{w:World}{s:World->Prop}{f:Nat}{xs:List Sx}(h:jQ f xs w){t:TypeId}(k o:Nat)(F:k<xs.length){a:Nat}(b:a=k*8+o){v:Value}(l:Sx)(G:o+v.cells.size<=8)
 (p:∀j u,(iX l)[j]? =some u->(if o<=j/\j<o+v.cells.size then v.cells.toList[j-o]? else(iX xs[k])[j]?)=some u)
 (q:∀w',cr (λx=>x=f) w w'->jQ f (xs.set k l) w'->s w')(r:oF v.cells.toList=true:=by rfl)(y:J4 t=some v.cells.size:=by rfl):yF V.prog (Instr.storeAt t (.pointer (some ⟨f,a,none⟩)) v) w s:=by
 subst b;obtain⟨z,A,B,m⟩:=h.out;have H:k*8+8<=z.size:=by have:=Nat.mul_le_mul_right 8 (show k+1<=xs.length by omega);omega
 refine fG A (by omega) (λw' C g=>q w' C ⟨_,g,by rw[ko];simpa using B,λi D j u c=>?_⟩) (eu r) y;have E:j<8:=(List.getElem?_eq_some_iff.1 c).1;rw[jP _ _ _ _ (by simp;omega)];simp only[Array.length_toList];have d:i<xs.length:=by simpa using D
 by_cases e:i=k
 ·subst e;rw[List.getElem_set_self]at c;have:=p j u c;by_cases n:o<=j/\j<o+v.cells.size
  ·rw[if_pos n]at this;rw[if_pos (by omega),show i*8+j-(i*8+o)=j-o by omega];exact this
  ·rw[if_neg n]at this;rw[if_neg (by omega)];exact m i d j u this
 ·rw[List.getElem_set_ne (by omega)]at c;rw[if_neg (by
   rcases Nat.lt_or_gt_of_ne e with h|h
   ·have:=Nat.mul_le_mul_right 8 (show i+1<=k by omega);omega
   ·have:=Nat.mul_le_mul_right 8 (show k+1<=i by omega);omega)]
  exact m i d j u c
def leave1(xs:List Sx)(d:Nat):List Sx:=match xs[d]? with
 |some x=>xs.set d {x with left:=true}
 |none=>xs
def fT(xs:List Sx)(l:List Nat):List Sx:=l.foldl leave1 xs
theorem A7(xs:List Sx)(d:Nat):(leave1 xs d).length=xs.length:=by unfold leave1;split<;>simp
theorem l8:∀(l:List Nat) (xs:List Sx),(fT xs l).length=xs.length
 |[],_=>rfl
 |d::r,xs=>(l8 r (leave1 xs d)).trans (A7 xs d)
theorem y8(xs:List Sx)(l:List Nat)(k:Nat)(a:k<l.length):fT xs (l.take (k+1))=leave1 (fT xs (l.take k)) l[k]:=by rw[List.take_succ_eq_append_getElem a];simp only[fT,List.foldl_append,List.foldl_cons,List.foldl_nil]
def oL(n0:Nat)(w:World)(v:Value)(xs:List Sx):Prop:=(xs=[]/\∃a c,v=.slice a 0 c)\/∃b c,n0<=b/\v=.slice (some ⟨b,0,none⟩) xs.length c/\jQ b xs w
theorem oJ.cells{w:World}{a:Option Addr}{xs:List Sx}(h:oJ w a xs):gD w a (xs.flatMap iX):=by
 rcases xs with _|⟨x,r⟩
 ·exact .inl rfl
 ·obtain⟨b,o,rfl,_⟩:=h 0 (by simp);refine .inr ⟨b,o,rfl,λj u f=>?_⟩;have l:j<(x::r).length*8:=by rw[<-qk];exact(List.getElem?_eq_some_iff.1 f).1
  have g:j/8<(x::r).length:=by omega
  obtain⟨m,n,e,p⟩:=h (j/8) g;obtain⟨rfl,rfl⟩:b=m/\o=n:=by injection e with e;injection e with q s;exact⟨q,s⟩
  have t:j%8<(iX (x::r)[j/8]).length:=by show j%8<8;omega
  have i:=List.getElem?_eq_getElem t;have c:=ql (x::r) (j/8) g (j%8) _ i;have k:=p (j%8) _ i;have d:j/8*8+j%8=j:=by omega
  rw[d]at c;rw[f]at c;obtain rfl:=Option.some.inj c;have:o+j/8*8+j%8=o+j:=by omega
  rw[this]at k;exact k
theorem oJ.nq{w:World}{xs:List Sx}(h:oJ w none xs):xs.length=0:=by
 rcases xs with _|⟨x,r⟩
 ·rfl
 ·obtain⟨b,o,e,_⟩:=h 0 (by simp);cases e
theorem pC{xs:List Sx}{a:Option Addr}{c:Nat}{w:World}(h:oJ w a xs)(d:xs.length<=1000000):Calls V.prog 154 #[.slice a xs.length c] w (eG λv w'=>Ext w w'/\oL w.heap.size w' v xs):=by
 refine(Gc a xs.length c (xs.flatMap iX) w (qk xs) (λe=>by subst e;exact h.nq) h.cells (λu f=>?_) d).mono ?_
 ·obtain⟨x,_,f⟩:=List.mem_flatMap.1 f;simp[iX]at f;rcases f with rfl|rfl|rfl|rfl|rfl|rfl|rfl|rfl<;>rfl
 ·rintro e w' ⟨v,rfl,g,z,⟨l,rfl⟩|⟨b,m,n,o,rfl,p,q,r,A,s,B⟩⟩
  ·exact⟨_,rfl,g,.inl ⟨List.eq_nil_of_length_eq_zero l,none,0,rfl⟩⟩
  ·refine⟨_,rfl,g,.inr ⟨b,m,o,rfl,⟨n,p,?_,λk t j v y=>?_⟩⟩⟩
   ·have:(qg 166).length=8:=rfl;rw[this]at q;have:=Nat.mul_le_mul_right 8 r;omega
   ·have i:=ql xs k t j v y;rw[s _ (List.getElem?_eq_some_iff.1 i).1];exact i
theorem A8{wp gp mk ms:Nat}{G:Gd}{xs:List Sx}{f:Int}{w:World}(h:io wp gp mk ms G xs f w){l:List Nat}{la:Option Addr}{lc:Nat}(S:dV w la l)(T:∀d∈l,d<xs.length)(L:l.length<=100000):
 Calls V.prog 171 #[.pointer (some ⟨wp,0,none⟩),.slice la l.length lc] w (eG λv w'=>Ext w w'/\∃x,v=.pointer (some ⟨x,0,none⟩)/\io x gp mk ms G (fT xs l) f w'):=by
 obtain⟨U,W,X,M,Y,Z⟩:=h.at_;have aa:xs.length<=5:=by have:=h.len;have:=h.g.pw.many;omega
 refine go V.func171 Tryz.ntmps171 ?_;refine dp (vs:=[.pointer (some ⟨gp,0,none⟩),.slice U xs.length W,.int .i64 f]) (λj v i=>?_) (dS λw1 B e1 y p=>cK p λF k2 q=>?_)
 ·match j,i with
  |0,i=>cases i;exact X
  |1,i=>cases i;exact M
  |2,i=>cases i;exact Y
 have C:Ext w F:=e1.cj k2 y;refine cg (C.cell M) (cf (pC (Z.ext C) (by omega)) ?_);rintro v w3 ⟨N,O⟩;have ab:=ck.lt_of_heap q;have m:v.oneCell'=true/\v.cells=#[v]:=by obtain⟨_,a,c,rfl⟩|⟨z,c,_,rfl,_⟩:=O<;>exact⟨rfl,rfl⟩
 refine fG (N.at_ q) (by rw[m.2];exact Nat.le_of_ble_eq_true rfl) (λH P r=>?_) (by rw[m.2];simpa using m.1) (by rw[m.2];rfl);rw[m.2]at r;have I:H.heap[B]? =some (.cells #[.pointer (some ⟨gp,0,none⟩),v,.int .i64 f] 141):=r;clear r q;have e4:Ext w H:=(C.trans N).cj P y;have J:oL F.heap.size H v xs:=by
  obtain h|⟨z,c,D,g2,A⟩:=O
  ·exact .inl h
  ·exact .inr ⟨z,c,D,g2,A.keep P (by omega)⟩
 refine cA (dg (n:=l.length) (λk=>[(5,.pointer (some ⟨B,0,none⟩)),(17,.slice la l.length lc),(18,.int .i64 l.length),(19,.int .i64 k)]) (λk w'=>Ext w w'/\w'.heap[B]? =some (.cells #[.pointer (some ⟨gp,0,none⟩),v,.int .i64 f] 141)/\oL F.heap.size w' v (fT xs (l.take k))) ⟨⟨rfl,rfl,rfl,rfl,trivial⟩,e4,I,by simpa[fT]using J⟩ ?_ ?_ ?_)
 ·rintro k w' s hJ;exact cY ⟨rfl,rfl,⟨rfl,rfl,rfl,rfl,trivial⟩,hJ⟩
 ·rintro k w' s ⟨e,p,E⟩;obtain⟨b,o,rfl,hc⟩:=(S.ext e) k s;have Q:=T _ (List.getElem_mem s);obtain⟨K,_⟩|⟨z,c,D,rfl,A⟩:=E
  ·have:=congrArg List.length K;rw[l8]at this;simp at this;subst this;simp at Q
  ·have t:l[k]<(fT xs (l.take k)).length:=by rw[l8];exact Q
   refine dT k s (cg hc (cg (cd p rfl) (fh l[k] 8 t (Gk A l[k] 7 t (by omega) {(fT xs (l.take k))[l[k]]with left:=true} (by decide) (λj u i=>?_) (λw5 R g5=>cq ⟨⟨rfl,rfl,rfl,rfl,trivial⟩,e.cj R (by have:=C.size;omega),R.ef p (by omega),?_⟩)))))
   ·match j,i with
    |0,i=>exact i
    |1,i=>exact i
    |2,i=>exact i
    |3,i=>exact i
    |4,i=>exact i
    |5,i=>exact i
    |6,i=>exact i
    |7,i=>exact i
   ·rw[y8 xs l k s];have he:leave1 (fT xs (l.take k)) l[k]=(fT xs (l.take k)).set l[k] {(fT xs (l.take k))[l[k]]with left:=true}:=by
     unfold leave1;rw[List.getElem?_eq_getElem t]
    rw[he];exact .inr ⟨z,c,D,by rw[List.length_set],g5⟩
 ·rintro w' ⟨e,p,E⟩;rw[List.take_length]at E;refine⟨_,rfl,e,B,rfl,h.g.ext e,by rw[l8];exact h.len,h.bf,?_⟩;obtain⟨K,a,c,rfl⟩|⟨z,c,D,rfl,A⟩:=E
  ·rw[K];exact⟨a,c,cd p rfl,cd p rfl,cd p rfl,λk s=>by simp at s⟩
  ·exact⟨_,c,cd p rfl,cd p rfl,cd p rfl,A.row⟩
theorem y9(s:Nat)(w:World):Calls V.prog 167 #[.int .i64 s] w (eG λv w'=>v=.bool (decide (s%2=0))/\w'=w):=by refine go V.func167 Tryz.ntmps167 ?_;exact A4 (m:=s) (n:=2) (by omega) (gK ⟨_,rfl,by congr 1;simp;omega,rfl⟩)
theorem za(s:Nat)(w:World):Calls V.prog 168 #[.int .i64 s] w (eG λv w'=>v=.bool (decide (s%2=1))/\w'=w):=by refine go V.func168 Tryz.ntmps168 ?_;exact A4 (m:=s) (n:=2) (by omega) (gK ⟨_,rfl,by congr 1;simp;omega,rfl⟩)
def J9(c:Value)(p:Nat->Bool):Prop:=∃g first a,c=.func (.func g) first a/\(∀b w,Sem.run V.prog (callFunc g b) w=.ok (.enter g b) w)/\∀(n:Nat) w,Calls V.prog g (first.toList++([Value.int .i64 n]++a.toList)).toArray w (eG λv d=>v=.bool (p n)/\d=w)
def l9(p:Nat->Bool):List Nat->Nat->Int
 |[],_=> -1
 |y::r,i=>if p y then i else l9 p r (i+1)
theorem zb(p:Nat->Bool)(l:List Nat)(k:Nat)(a:k<l.length):l9 p (l.drop k) k=if p l[k]then(k:Int)else l9 p (l.drop (k+1)) (k+1):=by rw[List.drop_eq_getElem_cons a];rfl
theorem tn(p:Nat->Bool):∀(l:List Nat) (i:Nat),decide (0<=l9 p l i)=l.any p
 |[],_=>rfl
 |y::r,i=>by
  simp only[l9,List.any_cons];by_cases h:p y=true
  ·simp[h]
  ·have h:p y=false:=by simpa using h
   simpa[h]using tn p r (i+1)
theorem uw{i:Value}{p:Nat->Bool}(m:J9 i p)(l:List Nat)(la:Option Addr)(lc:Nat)(w:World)(q:dV w la l)(j:l.length<=100000):Calls V.prog 195 #[.slice la l.length lc,i] w (eG λv w'=>v=.int .i64 (l9 p l 0)/\w'=w):=by
 obtain⟨g,first,e,rfl,f,r⟩:=m;refine go V.func195 Tryz.ntmps195 ?_;refine cA (dg (n:=l.length) (λk=>[(0,.slice la l.length lc),(1,.func (.func g) first e),(7,.int .i64 l.length),(8,.int .i64 k)]) (λk w'=>w'=w/\l9 p l 0=l9 p (l.drop k) k) ⟨⟨rfl,rfl,rfl,rfl,trivial⟩,rfl,rfl⟩ ?_ ?_ ?_)
 ·rintro k w' d ⟨rfl,a⟩;exact cY ⟨rfl,rfl,⟨rfl,rfl,rfl,rfl,trivial⟩,rfl,a⟩
 ·rintro k w' d ⟨rfl,a⟩;obtain⟨b,o,rfl,c⟩:=q k d;rw[zb p l k d]at a;refine dT k d (cg c (cL (r l[k] w') ⟨λh=>?_,λh=>?_⟩ f))
  ·rw[if_pos h]at a;exact⟨_,rfl,by rw[a];rfl,rfl⟩
  ·rw[h]at a;exact cq ⟨⟨rfl,rfl,rfl,rfl,trivial⟩,rfl,a⟩
 ·rintro w' ⟨rfl,a⟩;exact⟨_,rfl,by rw[a];simp[l9],rfl⟩
theorem lA{b:Value}{p:Nat->Bool}(c:J9 b p)(l:List Nat)(la:Option Addr)(lc:Nat)(w:World)(d:dV w la l)(a:l.length<=100000):Calls V.prog 166 #[.slice la l.length lc,b] w (eG λv w'=>v=.bool (l.any p)/\w'=w):=by refine go V.func166 Tryz.ntmps166 ?_;exact cL (uw c l la lc w d a) (ve ⟨_,rfl,by rw[<-tn p l 0];rfl,rfl⟩)
def Lr:Obj->Bool
 | .map .. =>true
 |_=>false
structure fA(n0:Nat)(w w':World):Prop where
 os:w'.os=w.os
 tape:w'.tape=w.tape
 output:w'.output=w.output
 size:w.heap.size<=w'.heap.size
 drawn:w.drawn<=w'.drawn
 block:∀b o,w.heap[b]? =some o->(b<n0\/Lr o=false)->w'.heap[b]? =some o
section
variable{n0:Nat}{w w' w0 w1 w2:World}
theorem fA.refl(n0:Nat)(w:World):fA n0 w w:=⟨rfl,rfl,rfl,Nat.le_refl _,Nat.le_refl _,λ_ _ h _=>h⟩
theorem fA.trans{a b c:World}(h:fA n0 a b)(k:fA n0 b c):fA n0 a c:=
 ⟨k.os.trans h.os,k.tape.trans h.tape,k.output.trans h.output,Nat.le_trans h.size k.size,Nat.le_trans h.drawn k.drawn,λx o e d=>k.block x o (h.block x o e d) d⟩
theorem Ext.eC(h:Ext w w')(n0:Nat):fA n0 w w':=⟨h.os,h.tape,h.output,h.size,h.drawn,λb o a _=>h.at_ a⟩
theorem fA.ext(h:fA n0 w w')(d:w.heap.size<=n0):Ext w w':=⟨h.os,h.tape,h.output,h.size,h.drawn,λb c=>by have a:w.heap[b]? =some w.heap[b]:=Array.getElem?_eq_getElem c;rw[a];exact h.block b _ a (.inl (by omega))⟩
theorem fA.from(h:fA n0 w w')(e:Ext w0 w)(a:w0.heap.size<=n0):Ext w0 w':=((e.eC n0).trans h).ext a
theorem fA.low{m0:Nat}(h:fA n0 w w')(d:m0<=n0):fA m0 w w':=⟨h.os,h.tape,h.output,h.size,h.drawn,λb o a c=>h.block b o a (c.imp (λh=>by omega) id)⟩
theorem fA.at_(h:fA n0 w w'){b:Nat}{cs:Array Value}{t:TypeId}{a:Nat×Nat}(c:w.heap[b]? =some (.cells cs t a)):w'.heap[b]? =some (.cells cs t a):=h.block b _ c (.inr rfl)
theorem fA.cell(h:fA n0 w w'){ad:Addr}{v:Value}(a:w.cell? ad=some v):w'.cell? ad=some v:=by
 unfold World.cell? at a⊢;split at a
 ·rename_i c t d b;rw[h.at_ b];exact a
 ·cases a
theorem fA.cj{b:Nat}(h:fA n0 w w1)(k:cr (λx=>x=b) w1 w2)(e:w.heap.size<=b):fA n0 w w2:=
 ⟨k.os.trans h.os,k.tape.trans h.tape,k.output.trans h.output,Nat.le_trans h.size k.size,Nat.le_trans h.drawn k.drawn,λx o c d=>by have a:=ck.lt_of_heap c;exact(k.block x (Nat.lt_of_lt_of_le a h.size) (by omega)).trans (h.block x o c d)⟩
theorem fA.gN{c:Nat}{v:Value}{t:TypeId}{zs e:List Value}{a:Nat}(h:fA n0 w w1)(k:cr (ce v) w1 w2)(f:cC c t zs w1 v a e)(j:w.heap.size<=c):fA n0 w w2:=
 ⟨k.os.trans h.os,k.tape.trans h.tape,k.output.trans h.output,Nat.le_trans h.size k.size,Nat.le_trans h.drawn k.drawn,λx o d g=>by have b:=ck.lt_of_heap d;exact(k.block x (Nat.lt_of_lt_of_le b h.size) λi=>by have:=(f.blk i).1;omega).trans (h.block x o d g)⟩
theorem gM.eC{a:Option Addr}{l:List Int}(h:gM w a l)(e:fA n0 w w'):gM w' a l:=λk c=>by obtain⟨b,o,d,f⟩:=h k c;exact⟨b,o,d,e.cell f⟩
theorem fZ.eC{a:Option Addr}{l:List Dr}(h:fZ w a l)(e:fA n0 w w'):fZ w' a l:=λk c=>by obtain⟨b,o,d,f,g,i⟩:=h k c;exact⟨b,o,d,e.cell f,e.cell g,e.cell i⟩
theorem jO.eC{a:Nat}{C:Nat->Value}(h:jO a C w)(e:fA n0 w w'):jO a C w':=by obtain⟨b,c,d,f⟩:=h.out;exact⟨b,e.at_ c,d,f⟩
theorem kS.eC{gp mk ms:Nat}{G:Gd}(h:kS gp mk ms G w)(e:fA n0 w w'):kS gp mk ms G w':=by obtain⟨a,b,c,d,f,g⟩:=h.at_;exact⟨⟨a,b,c,d.eC e,f.eC e,e.cell g⟩,h.ok,Nat.lt_of_lt_of_le h.mlt e.size,Nat.lt_of_lt_of_le h.slt e.size,h.ne,h.gk⟩
theorem dV.eC{a:Option Addr}{l:List Nat}(h:dV w a l)(e:fA n0 w w'):dV w' a l:=λk c=>by obtain⟨b,o,d,f⟩:=h k c;exact⟨b,o,d,e.cell f⟩
theorem cC.eC{d:Nat}{t:TypeId}{zs:List Value}{v:Value}{a:Nat}{f:List Value}(h:cC d t zs w v a f)(e:fA n0 w w'):cC d t zs w' v a f:=by
 obtain⟨g,h|⟨b,c,i,j,k,l,m⟩⟩:=h
 ·exact⟨g,.inl h⟩
 ·exact⟨g,.inr ⟨b,c,i,j,k,e.at_ l,m⟩⟩
theorem ry.eC{a:Option Addr}{c:List (List Nat)}(h:ry w a c)(e:fA n0 w w'):ry w' a c:=λk d=>by obtain⟨b,o,f,g,i,j,l,m⟩:=h k d;exact⟨b,o,f,g,i,e.cell j,l.eC e,m⟩
theorem gd.eC{a:Nat}{v:Value}{b:List (List Nat)}(h:gd a w v b)(e:fA n0 w w'):gd a w' v b:=by obtain⟨c,d,f,g⟩:=h;refine⟨c,d.eC e,f,λk i=>?_⟩;obtain⟨u,j,l⟩:=g k i;exact⟨u,j,cC.eC l e⟩
theorem oJ.eC{a:Option Addr}{xs:List Sx}(h:oJ w a xs)(e:fA n0 w w'):oJ w' a xs:=λk c=>by obtain⟨b,o,d,f⟩:=h k c;exact⟨b,o,d,λj v g=>e.cell (f j v g)⟩
theorem io.eC{wp gp mk ms:Nat}{G:Gd}{xs:List Sx}{a:Int}(h:io wp gp mk ms G xs a w)(e:fA n0 w w'):io wp gp mk ms G xs a w':=by obtain⟨b,c,d,f,i,j⟩:=h.at_;exact⟨h.g.eC e,h.len,h.bf,b,c,e.cell d,e.cell f,e.cell i,j.eC e⟩
theorem gD.eC{a:Option Addr}{c:List Value}(h:gD w a c)(e:fA n0 w w'):gD w' a c:=by
 rcases h with h|⟨b,o,d,f⟩
 ·exact .inl h
 ·exact .inr ⟨b,o,d,λj u g=>e.cell (f j u g)⟩
theorem jQ.eC{a:Nat}{xs:List Sx}(h:jQ a xs w)(e:fA n0 w w'):jQ a xs w':=by obtain⟨b,c,d⟩:=h.out;exact⟨b,e.at_ c,d⟩
end
structure ik(key:Nat->Value)(R:Nat->Value->World->Prop)(r:Nat)(w:World):Prop where
 out:∃es clock,w.heap[r]? =some (.map es clock)/\∀e∈es.toList,∃s,s<32/\e.key=key s/\R s e.val w
theorem ik.eC{key:Nat->Value}{R:Nat->Value->World->Prop}{r n0:Nat}{w w':World}(h:ik key R r w)(e:fA n0 w w')(c:∀s v,R s v w->R s v w')(a:w'.heap[r]? =w.heap[r]?):ik key R r w':=by obtain⟨d,b,f,g⟩:=h.out;exact⟨d,b,a.trans f,λx i=>by obtain⟨s,j,k,l⟩:=g x i;exact⟨s,j,k,c _ _ l⟩⟩
structure vm(kt:TypeId)(key:Nat->Value):Prop where
 check:∀e s w,s<32->Sem.run V.prog (Instr.checkKey e 10000 kt (key s)) w=.ok () w
 find:∀s (es:List MapEntry),s<32->(∀e∈es,∃s',s'<32/\e.key=key s')->
  ∃o,(∀w,Sem.run V.prog (Instr.findKey kt (key s) es) w=.ok o w)/\(o=none\/∃j e,es[j]? =some e/\e.key=key s/\o=some (j,e.val))
 stays:∀s w,s<32->Sem.run V.prog (Instr.keyThatStays (key s) (key s)) w=.ok (key s) w
 inj:∀s s',s<32->s'<32->key s=key s'->s=s'
section
variable{w:World}{k:Value->World->Prop}{kt et t:TypeId}{key:Nat->Value}{R:Nat->Value->World->Prop}{r:Nat}
theorem oM{es:Array MapEntry}{a:Nat}(h:w.heap[r]? =some (.map es a)):Sem.run V.prog (getObj r) w=.ok (.map es a) w:=by simp[getObj,Sem.run,h]
theorem Cd(K:vm kt key)(k:Tryz.prog.underlying t=some (.map kt et)){z:Value}(l:∀w,Sem.run V.prog (zeroValue et) w=.ok z w)(h:ik key R r w){s:Nat}(c:s<32):∃a,((∃v,a=.tuple #[v,.bool true]/\R s v w)\/a=.tuple #[z,.bool false])/\∀w1,(∀o,w.heap[r]? =some o->w1.heap[r]? =some o)->Sem.run V.prog (Instr.lookup t (.map (some r)) (key s) true) w1=.ok a w1:=by
 obtain⟨m,d,n,b⟩:=h.out;obtain⟨o,q,u⟩:=K.find s m.toList c λe x=>by obtain⟨f,g,i,_⟩:=b e x;exact⟨f,g,i⟩
 refine⟨.tuple #[(o.map (·.2)).getD z,.bool o.isSome],?_,λw1 y=>?_⟩
 ·rcases u with rfl|⟨j,e,A,B,rfl⟩
  ·exact .inr rfl
  ·obtain⟨f,g,i,C⟩:=b e (List.mem_of_getElem? A);obtain rfl:=K.inj s f c g (B.symm.trans i);exact .inl ⟨_,rfl,C⟩
 ·unfold Instr.lookup;simp only[Sem.run_bind,eA k,Result.andThen_ok,oM (y _ n),Sem.run_pure,K.check _ s w1 c,q];cases o with
  |none=>simp only[Sem.run_bind,l,Result.andThen_ok,Sem.run_pure,if_true,Option.map_none,Option.getD_none,Option.isSome_none]
  |some p=>simp only[Sem.run_bind,Sem.run_pure,Result.andThen_ok,if_true,Option.map_some,Option.getD_some,Option.isSome_some]
theorem Dq(K:vm kt key)(c:Tryz.prog.underlying t=some (.map kt et)){z:Value}(d:∀w,Sem.run V.prog (zeroValue et) w=.ok z w)(h:ik key R r w){s:Nat}(e:s<32) (f:∀v,R s v w->k (.tuple #[v,.bool true]) w)(g:k (.tuple #[z,.bool false]) w):fS V.prog (Instr.lookup t (.map (some r)) (key s) true) w k:=by
 obtain⟨b,i,a⟩:=Cd K c d h e;refine⟨b,w,a w λ_ h=>h,?_⟩;rcases i with⟨v,rfl,j⟩|rfl
 ·exact f v j
 ·exact g
theorem pD{B:World->Prop}(K:vm kt key)(L:Tryz.prog.underlying t=some (.map kt et))(h:ik key R r w){s:Nat}(m:s<32){v:Value}{n0:Nat}(hn:n0<=r) (N:∀w',fA n0 w w'->(∀s u,R s u w->R s u w')/\R s v w') (O:∀w',fA n0 w w'->(∀b,b≠r->w'.heap[b]? =w.heap[b]?)->ik key R r w'->B w'):yF V.prog (Instr.mapUpdate t (.map (some r)) (key s) v) w B:=by
 obtain⟨g,c,n,p⟩:=h.out;have C:=ck.lt_of_heap n
 have f:∀(a:Array MapEntry) (d:Nat),fA n0 w (w.putObj r (.map a d))/\(∀b,b≠r->(w.putObj r (.map a d)).heap[b]? =w.heap[b]?)/\(w.putObj r (.map a d)).heap[r]? =some (.map a d)/\Sem.run V.prog (setObj r (.map a d)) w=.ok () (w.putObj r (.map a d)):=λa d=>by
  refine⟨⟨rfl,rfl,rfl,by simp,Nat.le_refl _,λb o q k=>?_⟩,λb q=>World.putObj_heap_other q,World.putObj_heap_same C,by simp[setObj,Sem.run,n,World.putObj]⟩;by_cases e:b=r
  ·subst e;rw[n]at q;obtain rfl:=Option.some.inj q;rcases k with k|k
   ·omega
   ·cases k
  ·exact(World.putObj_heap_other e).trans q
 have y:∀(a:Array MapEntry) (d:Nat),(∀e∈a.toList,e∈g.toList\/(e.key=key s/\e.val=v))->Sem.run V.prog (Instr.mapUpdate t (.map (some r)) (key s) v) w=.ok () (w.putObj r (.map a d))->yF V.prog (Instr.mapUpdate t (.map (some r)) (key s) v) w B:=λa d l z=>by
  obtain⟨M,P,Q,_⟩:=f a d;obtain⟨S,T⟩:=N _ M;refine⟨_,z,O _ M P ⟨a,d,Q,λe U=>?_⟩⟩;rcases l e U with h|⟨W,X⟩
  ·obtain⟨D,E,F,Y⟩:=p e h;exact⟨D,E,F,S _ _ Y⟩
  ·exact⟨s,m,W,by rw[X];exact T⟩
 obtain⟨o,k,Z⟩:=K.find s g.toList m λe l=>by obtain⟨D,E,F,_⟩:=p e l;exact⟨D,E,F⟩
 rcases Z with rfl|⟨j,e,hj,A,rfl⟩
 ·refine y (g.push {key:=key s,val:=v,born:=c}) (c+1) (λe l=>?_) ?_
  ·simp only[Array.toList_push,List.mem_append,List.mem_singleton]at l;rcases l with h|rfl
   ·exact .inl h
   ·exact .inr ⟨rfl,rfl⟩
  ·unfold Instr.mapUpdate;simp only[Sem.run_bind,eA L,Result.andThen_ok,oM n,K.check _ s w m,k,(f _ _).2.2.2]
 ·refine y (g.modify j λe=>{e with key:=key s,val:=v}) c (λx G=>?_) ?_
  ·obtain⟨i,hi,G⟩:=List.getElem_of_mem G;have H:i<g.size:=by simpa using hi
   have:(g.modify j λe=>{e with key:=key s,val:=v})[i]'(by simpa using H)=x:=by rw[<-G];exact(Array.getElem_toList _)
   rw[Array.getElem_modify]at this;split at this
   ·subst this;exact .inr ⟨rfl,rfl⟩
   ·subst this;exact .inl (by simp)
  ·have I:=K.stays s w m;have J:g[j]? =some e:=by simpa using hj
   unfold Instr.mapUpdate;simp only[Sem.run_bind,eA L,Result.andThen_ok,oM n,K.check _ s w m,k,J,Option.map_some,Option.getD_some,A,I,(f _ _).2.2.2]
end
end Go.Proofs.W
namespace Go.Proofs.W
def nt(l:List Nat):Nat->List Nat->List Bool->List (List Nat)
 |0,b,_=>[b]
 |n+1,b,a=>(List.range l.length).flatMap λi=>if a.getD i false then []else nt l n (b++[l.getD i 0]) (a.set i true)
def rR(l:List Nat):List (List Nat):=nt l l.length [] (List.replicate l.length false)
def gE(G:Gd)(b:List Nat×Int)(a:List Nat):List Nat×Int:=if b.2<0\/Lm G a<b.2 then(a,Lm G a)else b
def gO(G:Gd)(rows:List (List Nat)):List Nat×Int:=rows.foldl (gE G) ([],-1)
def cT(G:Gd)(s:Nat):List Nat:=(gO G (rR (dJ s))).1
def mB(G:Gd)(s:Nat):Bool:=decide (eI G (cT G s)<=G.minutes)
def dX(G:Gd)(most:Nat):List Nat->List Nat->Option (List Nat)
 |[],a=>some a
 |d::r,a=>
  match(List.range a.length).findSome? λi=>if mB G (mz (a.getD i 0) d)then dX G most r (a.set i (mz (a.getD i 0) d))else none with
  |some b=>some b
  |none=>if a.length<most/\mB G (fy [d])=true then dX G most r (a++[fy [d]])else none
def eD(G:Gd)(s:Nat):Option (List (List Nat)):=
 if s=0 then some []else((List.range (dJ s).length).findSome? λm=>dX G (m+1) (dJ s) []).map λa=>a.map (cT G)
end Go.Proofs.W
namespace Go.Proofs.W
open Go.RowKit
theorem Gl:Tryz.prog.underlying 181=some (.map 154 27):=by kernel_rfl
theorem Gm:Tryz.prog.underlying 180=some (.map 217 220):=by kernel_rfl
def Ds(s:Nat):Value:=.int .u8 s
def kM(s:Nat):Value:=.agg (l5 s).toArray
theorem QQ(a0 a b c h d e f g i:Bool)(w:World):Sem.run V.prog (Op.equal 217 (.agg #[.bool a0,.bool a,.bool b,.bool c,.bool h]) (.agg #[.bool d,.bool e,.bool f,.bool g,.bool i])) w=.ok (a0==d&&(a==e&&(b==f&&(c==g&&h==i)))) w:=by
 by_cases j:a0=d
 ·subst j;by_cases k:a=e
  ·subst k;by_cases l:b=f
   ·subst l;by_cases m:c=g
    ·subst m;cases a0<;>cases a<;>cases b<;>cases c<;>cases h<;>cases i<;>kernel_rfl
    ·cases a0<;>cases a<;>cases b<;>cases c<;>cases g<;>first|exact absurd rfl m|kernel_rfl
   ·cases a0<;>cases a<;>cases b<;>cases f<;>first|exact absurd rfl l|kernel_rfl
  ·cases a0<;>cases a<;>cases e<;>first|exact absurd rfl k|kernel_rfl
 ·cases a0<;>cases d<;>first|exact absurd rfl j|kernel_rfl
theorem Ka:∀s:Nat,s<32->∀s':Nat,s'<32->(s.testBit 0==s'.testBit 0&&(s.testBit 1==s'.testBit 1&&(s.testBit 2==s'.testBit 2&&(s.testBit 3==s'.testBit 3&&s.testBit 4==s'.testBit 4))))=decide (s=s'):=by decide+kernel
theorem IC(s s':Nat)(b:s<32)(a:s'<32)(w:World):Sem.run V.prog (Op.equal 217 (kM s) (kM s')) w=.ok (decide (s=s')) w:=by rw[<-Ka s b s' a];exact QQ _ _ _ _ _ _ _ _ _ _ w
theorem Gn{s s':Nat}(b:s<32)(a:s'<32)(h:kM s=kM s'):s=s':=by have:=Ka s b s' a;simp only[kM,l5,Value.agg.injEq]at h;have h:=congrArg Array.toList h;simp only[List.cons.injEq,Value.bool.injEq,and_true]at h;obtain⟨c,d,e,f,g⟩:=h;rw[c,d,e,f,g]at this;simpa using this.symm
theorem wH:vm 154 Ds:=by
 have f:Tryz.prog.underlying 154=some (.int .u8):=by kernel_rfl
 have g:∀(s:Nat) (a:List MapEntry) (i:Nat),(∀e∈a,∃b,b<32/\e.key=Ds b)->Instr.findNow (.int .u8) (Ds s) a i=some none\/∃j e,a[j]? =some e/\e.key=Ds s/\Instr.findNow (.int .u8) (Ds s) a i=some (some (i+j,e.val)):=by
  intro s a;induction a with
  |nil=>intro i _;exact .inl rfl
  |cons e r q=>
   intro i h;obtain⟨b,_,n⟩:=h e List.mem_cons_self;have t:Instr.sameNow (.int .u8) (Ds s) e.key=some ((s:Int)==(b:Int)):=by rw[n];rfl
   unfold Instr.findNow;rw[t];by_cases p:s=b
   ·subst p;exact .inr ⟨0,e,rfl,n,by simp⟩
   ·have:((s:Int)==(b:Int))=false:=by simpa using(λh:(s:Int)=b=>p (by omega))
    rw[this];rcases q (i+1) (λx u=>h x (List.mem_cons_of_mem _ u))with d|⟨j,x,d,k,l⟩
    ·exact .inl d
    ·exact .inr ⟨j+1,x,by simpa using d,k,by simp only[l];congr 3;omega⟩
 refine⟨λe s w _=>by kernel_rfl,λs a v m=>?_,λs w v=>?_,λs b _ _ h=>?_⟩
 ·have c:∀o w,Instr.findNow (.int .u8) (Ds s) a 0=some o->Sem.run V.prog (Instr.findKey 154 (Ds s) a) w=.ok o w:=λo w y=>by
   unfold Instr.findKey;simp only[Sem.run_bind,eA f,Result.andThen_ok,y,Sem.run_pure]
  rcases g s a 0 m with h|⟨j,e,d,k,l⟩
  ·exact⟨_,λw=>c _ w h,.inl rfl⟩
  ·exact⟨_,λw=>c _ w l,.inr ⟨j,e,d,k,by rw[Nat.zero_add]⟩⟩
 ·unfold Instr.keyThatStays;have:Instr.sameBits 10000 (Ds s) (Ds s)=true:=by simp[Ds,Instr.sameBits]
  rw[if_pos this,Sem.run_pure]
 ·simp only[Ds,Value.int.injEq,true_and]at h;omega
theorem Gp:vm 217 kM:=by
 have f:Tryz.prog.underlying 217=some (.array 5 4):=by kernel_rfl
 have n:∀(s:Nat) (a:List MapEntry) (i:Nat),s<32->(∀e∈a,∃b,b<32/\e.key=kM b)->∃o,(∀w,Sem.run V.prog (Instr.findAsking 217 (kM s) a i) w=.ok o w)/\(o=none\/∃j e,a[j]? =some e/\e.key=kM s/\o=some (i+j,e.val)):=by
  intro s a;induction a with
  |nil=>intro i _ _;exact⟨none,λw=>by simp[Instr.findAsking],.inl rfl⟩
  |cons e r z=>
   intro i c h;obtain⟨b,d,m⟩:=h e List.mem_cons_self;have p:=λw=>IC s b c d w;rw[<-m]at p;by_cases g:s=b
   ·subst g;exact⟨some (i,e.val),λw=>by unfold Instr.findAsking;simp only[Sem.run_bind,p,Result.andThen_ok,decide_true,if_true,Sem.run_pure],.inr ⟨0,e,rfl,m,rfl⟩⟩
   ·have step:∀w,Sem.run V.prog (Instr.findAsking 217 (kM s) (e::r) i) w=Sem.run V.prog (Instr.findAsking 217 (kM s) r (i+1)) w:=λw=>by
     conv=>lhs;unfold Instr.findAsking
     simp only[Sem.run_bind,p,Result.andThen_ok,g,decide_false,Bool.false_eq_true,if_false]
    obtain⟨o,q,t⟩:=z (i+1) c λx A=>h x (List.mem_cons_of_mem _ A);refine⟨o,λw=>(step w).trans (q w),t.imp (λh=>h) ?_⟩;rintro⟨j,x,u,v,y⟩;exact⟨j+1,x,by simpa using u,v,by rw[y];congr 2;omega⟩
 refine⟨λe s w _=>by kernel_rfl,λs a c k=>?_,λs w c=>?_,λs b c d h=>Gn c d h⟩
 ·cases a with
  |nil=>exact⟨none,λw=>by unfold Instr.findKey;simp only[Sem.run_bind,eA f,Result.andThen_ok,Instr.findNow,Sem.run_pure],.inl rfl⟩
  |cons e r=>
   obtain⟨b,_,m⟩:=k e List.mem_cons_self;have B:Instr.findNow (.array 5 4) (kM s) (e::r) 0=none:=by unfold Instr.findNow;rw[m];rfl
   have l:∀w,Sem.run V.prog (Instr.findKey 217 (kM s) (e::r)) w=Sem.run V.prog (Instr.findAsking 217 (kM s) (e::r)) w:=λw=>by unfold Instr.findKey;simp only[Sem.run_bind,eA f,Result.andThen_ok,B]
   obtain⟨o,q,t⟩:=n s (e::r) 0 c k;refine⟨o,λw=>(l w).trans (q w),t.imp (λh=>h) ?_⟩;rintro⟨j,x,u,v,y⟩;exact⟨j,x,u,v,by rw[y,Nat.zero_add]⟩
 ·unfold Instr.keyThatStays;have:Instr.sameBits 10000 (kM s) (kM s)=true:=by simp[kM,l5,Instr.sameBits]
  rw[if_pos this,Sem.run_pure]
def eF(A:Nat->Prop)(w:World)(a:Option Addr)(l:List Nat):Prop:=∀k (h:k<l.length),∃b o,¬A b/\a=some ⟨b,o,none⟩/\w.cell? ⟨b,o+k,none⟩=some (.int .i64 l[k])
def ir(A:Nat->Prop)(w:World)(a:Option Addr)(ls:List (List Nat)):Prop:=∀k (h:k<ls.length),∃b o c d,¬A b/\a=some ⟨b,o,none⟩/\w.cell? ⟨b,o+k,none⟩=some (.slice c ls[k].length d)/\eF A w c ls[k]/\ls[k].length<=d
theorem nu{w:World}{b o:Nat}{v:Value}(h:w.cell? ⟨b,o,none⟩=some v):b<w.heap.size:=by refine Nat.lt_of_not_le λa=>?_;have:w.heap[b]? =none:=Array.getElem?_eq_none a;simp[World.cell?,this]at h
section
variable{A A':Nat->Prop}{w w':World}{a:Option Addr}{l:List Nat}{ls:List (List Nat)}{n0:Nat}
theorem eF.n(h:eF A w a l):dV w a l:=λk c=>by obtain⟨b,o,_,d,e⟩:=h k c;exact⟨b,o,d,e⟩
theorem ir.rows(h:ir A w a ls):ry w a ls:=λk c=>by obtain⟨b,o,d,e,_,f,g,i,j⟩:=h k c;exact⟨b,o,d,e,f,g,i.n,j⟩
theorem eF.go(h:eF A w a l)(e:∀b,A' b->A b\/w.heap.size<=b)(f:∀b o v,¬A b->w.cell? ⟨b,o,none⟩=some v->w'.cell? ⟨b,o,none⟩=some v):eF A' w' a l:=λk g=>by
 obtain⟨b,o,c,i,d⟩:=h k g;refine⟨b,o,λj=>?_,i,f _ _ _ c d⟩;have:=nu d;rcases e b j with h|h
 ·exact c h
 ·omega
theorem ir.go(h:ir A w a ls)(c:∀b,A' b->A b\/w.heap.size<=b)(d:∀b o v,¬A b->w.cell? ⟨b,o,none⟩=some v->w'.cell? ⟨b,o,none⟩=some v):ir A' w' a ls:=λk g=>by
 obtain⟨b,o,i,j,e,l,f,m,n⟩:=h k g;refine⟨b,o,i,j,λp=>?_,l,d _ _ _ e f,m.go c d,n⟩;have:=nu f;rcases c b p with h|h
 ·exact e h
 ·omega
theorem eF.eC(h:eF A w a l)(e:fA n0 w w'):eF A w' a l:=h.go (λ_ h=>.inl h) λ_ _ _ _ b=>e.cell b
theorem ir.eC(h:ir A w a ls)(e:fA n0 w w'):ir A w' a ls:=h.go (λ_ h=>.inl h) λ_ _ _ _ b=>e.cell b
theorem eF.more(h:eF A w a l)(c:∀b,A' b->A b\/w.heap.size<=b):eF A' w a l:=h.go c λ_ _ _ _ d=>d
theorem ir.more(h:ir A w a ls)(c:∀b,A' b->A b\/w.heap.size<=b):ir A' w a ls:=h.go c λ_ _ _ _ d=>d
theorem dN.Ls{d:Nat}{v:Value}(h:dN d w v l)(f:∀b,A b->b<d):∃a c,v=.slice a l.length c/\eF A w a l/\l.length<=c:=by
 obtain⟨o,⟨g,rfl⟩|⟨b,c,p,q,rfl,i,r,j,s,m,t⟩⟩:=h
 ·exact⟨none,0,by rw[g],λk e=>by omega,by omega⟩
 ·refine⟨_,c,rfl,λk e=>⟨b,0,λn=>by have:=f b n;omega,rfl,?_⟩,j⟩;refine cd i ?_;rw[Nat.zero_add,m k (by simp[eJ];omega)];simp[eJ,List.getElem?_eq_getElem e]
end
def ShR(A:Nat->Prop)(G:Gd)(s:Nat)(v:Value)(w:World):Prop:=∃a c,v=.slice a (cT G s).length c/\eF A w a (cT G s)/\(cT G s).length<=c
def Dt(A:Nat->Prop)(o:Option (List (List Nat)))(v:Value)(b:Bool)(w:World):Prop:=match o with
 |none=>v=.slice none 0 0/\b=false
 |some ls=>b=true/\∃a c,v=.slice a ls.length c/\ir A w a ls/\ls.length<=c
def N0(A:Nat->Prop)(G:Gd)(s:Nat)(v:Value)(w:World):Prop:=∃u b,v=.agg #[u,.bool b]/\Dt A (eD G s) u b w
structure hH(A:Nat->Prop)(mk ms:Nat)(G:Gd)(w:World):Prop where
 s:ik Ds (ShR A G) ms w
 k:ik kM (N0 A G) mk w
 ak:¬A mk
 asm:¬A ms
section
variable{A A':Nat->Prop}{w w' w1 w2:World}{G:Gd}{mk ms n0:Nat}
theorem ShR.go{s:Nat}{v:Value}(h:ShR A G s v w)(d:∀b,A' b->A b\/w.heap.size<=b)(e:∀b o v,¬A b->w.cell? ⟨b,o,none⟩=some v->w'.cell? ⟨b,o,none⟩=some v):ShR A' G s v w':=by obtain⟨a,c,f,g,i⟩:=h;exact⟨a,c,f,g.go d e,i⟩
theorem Dt.go{o:Option (List (List Nat))}{v:Value}{b:Bool}(h:Dt A o v b w)(d:∀b,A' b->A b\/w.heap.size<=b)(e:∀b o v,¬A b->w.cell? ⟨b,o,none⟩=some v->w'.cell? ⟨b,o,none⟩=some v):Dt A' o v b w':=by
 cases o with
 |none=>exact h
 |some ls=>
  obtain⟨f,a,c,g,i,j⟩:=h;exact⟨f,a,c,g,i.go d e,j⟩
theorem N0.go{s:Nat}{v:Value}(h:N0 A G s v w)(a:∀b,A' b->A b\/w.heap.size<=b)(c:∀b o v,¬A b->w.cell? ⟨b,o,none⟩=some v->w'.cell? ⟨b,o,none⟩=some v):N0 A' G s v w':=by obtain⟨u,b,d,e⟩:=h;exact⟨u,b,d,e.go a c⟩
theorem ik.go{c:Nat->Value}{R d:Nat->Value->World->Prop}{r:Nat}(h:ik c R r w)(e:∀s v,R s v w->d s v w')(a:∀o,w.heap[r]? =some o->w'.heap[r]? =some o):ik c d r w':=by obtain⟨f,b,g,i⟩:=h.out;exact⟨f,b,a _ g,λx j=>by obtain⟨s,k,l,m⟩:=i x j;exact⟨s,k,l,e _ _ m⟩⟩
theorem ik.lt{a:Nat->Value}{R:Nat->Value->World->Prop}{r:Nat}(h:ik a R r w):r<w.heap.size:=by obtain⟨d,b,c,_⟩:=h.out;exact ck.lt_of_heap c
theorem hH.go(h:hH A mk ms G w)(d:∀b,A' b->A b\/w.heap.size<=b)(i:∀b o v,¬A b->w.cell? ⟨b,o,none⟩=some v->w'.cell? ⟨b,o,none⟩=some v)(a:∀b o,b=mk\/b=ms->w.heap[b]? =some o->w'.heap[b]? =some o):hH A' mk ms G w':=by
 have j:=h.k.lt;have ls:=h.s.lt;refine⟨h.s.go (λs v e=>e.go d i) λo f=>a _ _ (.inr rfl) f,h.k.go (λs v e=>e.go d i) λo f=>a _ _ (.inl rfl) f,λg=>?_,λg=>?_⟩
 ·rcases d _ g with c|c
  ·exact h.ak c
  ·omega
 ·rcases d _ g with c|c
  ·exact h.asm c
  ·omega
theorem hH.ext(h:hH A mk ms G w)(e:Ext w w'):hH A mk ms G w':=h.go (λ_ h=>.inl h) (λ_ _ _ _ a=>e.cell a) λb o _ c=>e.at_ c
theorem hH.more(h:hH A mk ms G w)(a:∀b,A' b->A b\/w.heap.size<=b):hH A' mk ms G w:=h.go a (λ_ _ _ _ c=>c) λ_ _ _ h=>h
theorem hH.keep{F:Nat->Prop}(h:hH A mk ms G w)(k:cr F w w')(c:∀b,F b->A b):hH A mk ms G w':=
 h.go (λ_ h=>.inl h) (λb o v d e=>k.dn e λa=>d (c b a)) λb o d f=>k.ef f λa=>by
  rcases d with rfl|rfl
  ·exact h.ak (c _ a)
  ·exact h.asm (c _ a)
end
def MR(n0 mk ms:Nat)(G:Gd)(a b:World):Prop:=fA n0 a b/\∀A:Nat->Prop,(∀x,A x->x<a.heap.size)->hH A mk ms G a->hH A mk ms G b
section
variable{n0 mk ms:Nat}{G:Gd}{a b c:World}
theorem MR.refl(a:World):MR n0 mk ms G a a:=⟨fA.refl _ _,λ_ _ h=>h⟩
theorem MR.trans(h:MR n0 mk ms G a b)(k:MR n0 mk ms G b c):MR n0 mk ms G a c:=⟨h.1.trans k.1,λA d e=>k.2 A (λx f=>Nat.lt_of_lt_of_le (d x f) h.1.size) (h.2 A d e)⟩
theorem Ext.mr(h:Ext a b):MR n0 mk ms G a b:=⟨h.eC n0,λA _ c=>c.ext h⟩
theorem OS(n0 mk ms:Nat)(G:Gd):dR (MR n0 mk ms G):=⟨MR.refl,λ_ _ _=>MR.trans,λw=>(Ext.drew w).mr⟩
end
section
variable{w:World}{k:Value->World->Prop}
theorem A9{t e:TypeId}{zs:List Value}(f:A1 t e zs){l c:Nat}(g:l<=c)(j:c<=100000)(h:∀w' a,Ext w w'->w.heap.size<=a->w'.heap[a]? =some (.cells (madeCells zs.toArray (c*zs.length)) e)->k (.slice (some ⟨a,0,none⟩) l c) w'):fS V.prog (Instr.makeSlice t (.int .i64 l) (.int .i64 c)) w k:=by
 obtain⟨m,i,z,d,n,o,p,q,r⟩:=f
 have b:=run_make (P:=V.prog) w t e i z m d n .i64 .i64 (l:Int) (c:Int) (by omega) (by omega) (by
  have:i.bytes*c<=256*100000:=Nat.mul_le_mul q j;have d:((i.bytes:Int)*(c:Int))=((i.bytes*c:Nat):Int):=by simp
  omega) (by omega)
 simp only[Int.toNat_natCast]at b;rw[o,p]at b;exact⟨_,_,b,h _ w.heap.size (Ext.alloc _ _) (Nat.le_refl _) (dD _ _)⟩
theorem zd(z:Value)(n:Nat):madeCells #[z] n=Array.replicate n z:=by
 apply Array.ext
 ·simp[madeCells]
 ·intro i a b;simp[madeCells,Nat.mod_one]
theorem Nj:A1 225 4 [.bool false]:=⟨by kernel_rfl,Tryz.t4,_,by kernel_rfl,rfl,by kernel_rfl,by kernel_rfl,by decide+kernel,by decide⟩
theorem Ce{h t e:TypeId}{z:Value}{r:Array Bool}(s:A1 h e [z]){b a l:Nat}{cs:Array Value}(m:w.heap[b]? =some (.cells cs e))(d:a+1<=l)(n:a<cs.size){o c:Nat}{u:Value}(y:w.cell? ⟨o,0,none⟩=some u)(A:u.oneCell'=true)
 (B:∀w',cr (λx=>x=b) w w'->w'.heap[b]? =some (.cells (cs.setIfInBounds a u) e)->k (.slice (some ⟨b,0,none⟩) (a+1) l) w'):un V.prog (builtin .append #[h,h] t r #[.slice (some ⟨b,0,none⟩) a l,.slice (some ⟨o,0,none⟩) 1 c]) w k:=by
 obtain⟨p,i,E,C,F,G,g,H,I⟩:=s;have g:i.size=1:=g
 have q:=run_append_room_cells (P:=V.prog) w h t e i p C b 0 a l ⟨o,0,none⟩ 1 c [u] (by simp[g]) (λj v f=>by
  match j,f with
  |0,f=>cases f;rw[eN];exact y) (λv D=>by rcases List.mem_singleton.1 D with rfl;exact A) d (λj f=>by
  have:j=0:=by simpa using f
  subst this;simp[World.cell?,m,g,n]) (λj f=>by simp[World.frozen?,m])
 rw[g]at q;simp only[Nat.zero_add,Nat.mul_one]at q;refine⟨_,w.setCells b a [u],?_,B _ (kL _ _ _ _ _ (cr.refl _ w)) (ng [u] w b a cs e (0,0) m)⟩;unfold builtin;simp only[Sem.run_bind,q,Result.andThen_ok,Sem.run_pure]
end
structure E2(r u:Nat)(o1 NO o2 NP:Obj)(a b:World):Prop where
 k:cr (λx=>x=r\/x=u) a b
 r1:a.heap[r]? =some NO->b.heap[r]? =some NO
 r0:a.heap[r]? =some o1->b.heap[r]? =some o1\/b.heap[r]? =some NO
 u1:a.heap[u]? =some NP->b.heap[u]? =some NP
 u0:a.heap[u]? =some o2->b.heap[u]? =some o2\/b.heap[u]? =some NP
theorem Nk(r u:Nat)(f d g e:Obj):dR (E2 r u f d g e):=
 ⟨λw=>⟨cr.refl _ w,id,.inl,id,.inl⟩,λa b c h k=>⟨h.k.trans k.k (λ_ _ h=>h) λ_ _ h=>h,λx=>k.r1 (h.r1 x),λx=>by
  rcases h.r0 x with y|y
  ·exact k.r0 y
  ·exact .inr (k.r1 y),λx=>k.u1 (h.u1 x),λx=>by
  rcases h.u0 x with y|y
  ·exact k.u0 y
  ·exact .inr (k.u1 y)⟩,λw=>⟨(Ext.drew w).keep _,id,.inl,id,.inl⟩⟩
theorem E2.Nl{r u:Nat}{e c f d:Obj}{a b:World}(h:Ext a b):E2 r u e c f d a b:=⟨h.keep _,λx=>h.at_ x,λx=>.inl (h.at_ x),λx=>h.at_ x,λx=>.inl (h.at_ x)⟩
theorem E2.cell{r u:Nat}{e c f d:Obj}{a b:World}(h:E2 r u e c f d a b){ad:Addr}{v:Value}(g:a.cell? ad=some v)(i:ad.block≠r)(j:ad.block≠u):b.cell? ad=some v:=h.k.dn g (by omega)
theorem E2.t1{r u:Nat}{f c g e:Obj}{a b:World}(k:cr (λx=>x=r) a b)(d:r≠u)(h:b.heap[r]? =some c):E2 r u f c g e a b:=
 ⟨k.trans (cr.refl (λ_=>False) b) (λ_ _ h=>.inl h) λ_ _ h=>h.elim,λ_=>h,λ_=>.inr h,λx=>k.ef x (Ne.symm d),λx=>.inl (k.ef x (Ne.symm d))⟩
theorem E2.t2{r u:Nat}{f e g c:Obj}{a b:World}(k:cr (λx=>x=u) a b)(d:r≠u)(h:b.heap[u]? =some c):E2 r u f e g c a b:=
 ⟨k.trans (cr.refl (λ_=>False) b) (λ_ _ h=>.inr h) λ_ _ h=>h.elim,λx=>k.ef x d,λx=>.inl (k.ef x d),λ_=>h,λ_=>.inr h⟩
section
variable{E:World->World->Prop}{w:World}{kx:Value->Prop}{kr kp kl:ew->Prop}{lb ea:Bool}
theorem qm{t:TypeId}{ad:Addr}{v:Value}(a:dR E)(c0:∀w1,E w w1->w1.cell? ad=some v)(k:kx v)(b:AW t=some false:=by rfl):sW E E w (λw1 c=>fS V.prog (Instr.loadAt t (.pointer (some ad))) w1 c) kx kr kp lb kl ea:=
 dx v (λw1 e=>cg (c0 w1 e) ⟨rfl,a.refl _⟩ b) k
end
structure ux where
 (rv lv yv uv gv rb ub lp:Nat)(la:Option Addr)(lc:Nat)
def cu(b:Nat):Value:=.pointer (some ⟨b,0,none⟩)
def ux.jh(e:ux):Array Value:=#[cu e.rv,cu e.lv,cu e.yv,cu e.uv,cu e.gv]
structure OT(e:ux):Prop where
 r:e.rv≠e.lv/\e.rv≠e.yv/\e.rv≠e.uv/\e.rv≠e.gv/\e.rv≠e.rb/\e.rv≠e.ub
 b:e.rb≠e.lv/\e.rb≠e.yv/\e.rb≠e.uv/\e.rb≠e.gv/\e.rb≠e.ub
 u:e.ub≠e.lv/\e.ub≠e.yv/\e.ub≠e.uv/\e.ub≠e.gv
 l:∀b o,e.la=some ⟨b,o,none⟩->b≠e.rv/\b≠e.rb/\b≠e.ub
def fM(a:List Bool):Obj:=.cells (a.map Value.bool).toArray 4
structure Cf(e:ux)(l row:List Nat)(used:List Bool)(w:World):Prop where
 rv:w.heap[e.rv]? =some (.cells #[.slice (some ⟨e.rb,0,none⟩) row.length l.length] 27)
 lv:w.cell? ⟨e.lv,0,none⟩=some (.slice e.la l.length e.lc)
 yv:w.cell? ⟨e.yv,0,none⟩=some (.func (.yield e.lp) #[] #[])
 uv:w.cell? ⟨e.uv,0,none⟩=some (.slice (some ⟨e.ub,0,none⟩) l.length l.length)
 gv:w.cell? ⟨e.gv,0,none⟩=some (.func (.func 197) #[] e.jh)
 rb:∃cs,w.heap[e.rb]? =some (.cells cs 3)/\cs.size=l.length/\∀j (h:j<row.length),cs[j]? =some (.int .i64 row[j])
 ub:w.heap[e.ub]? =some (fM used)
 ul:used.length=l.length
 row:dV w e.la l
theorem Cf.keep{e:ux}{l c:List Nat}{a:List Bool}{w w':World}{F:Nat->Prop}(h:Cf e l c a w)(k:cr F w w')(f:∀b,F b->b≠e.rv/\b≠e.lv/\b≠e.yv/\b≠e.uv/\b≠e.gv/\b≠e.rb/\b≠e.ub/\∀g o,e.la=some ⟨g,o,none⟩->b≠g):Cf e l c a w':=by
 have n:∀b,(b=e.rv\/b=e.lv\/b=e.yv\/b=e.uv\/b=e.gv\/b=e.rb\/b=e.ub)->¬F b:=λb u d=>by have:=f b d;omega
 obtain⟨m,p,q,r⟩:=h.rb;refine⟨k.ef h.rv (n _ (.inl rfl)),k.dn h.lv (n _ (.inr (.inl rfl))),k.dn h.yv (n _ (.inr (.inr (.inl rfl)))),k.dn h.uv (n _ (by simp)),k.dn h.gv (n _ (by simp)),⟨m,k.ef p (n _ (by simp)),q,r⟩,k.ef h.ub (n _ (by simp)),h.ul,λi s=>?_⟩;obtain⟨b,o,j,t⟩:=h.row i s;exact⟨b,o,j,k.dn t λd=>(f _ d).2.2.2.2.2.2.2 _ _ j rfl⟩
theorem Cf.xt{e:ux}(g:OT e){l n c:List Nat}{d a:List Bool}{w f:World}(h:Cf e l n d w)(k:cr (λx=>x=e.rv\/x=e.rb\/x=e.ub) w f)
 (p:f.heap[e.rv]? =some (.cells #[.slice (some ⟨e.rb,0,none⟩) c.length l.length] 27))(q:∃cs,f.heap[e.rb]? =some (.cells cs 3)/\cs.size=l.length/\∀j (h:j<c.length),cs[j]? =some (.int .i64 c[j]))(s:f.heap[e.ub]? =some (fM a))(t:a.length=l.length):Cf e l c a f:=by
 obtain⟨A,B,C,D,E,F⟩:=g.r;obtain⟨G,H,I,J,K⟩:=g.b;obtain⟨L,M,N,O⟩:=g.u;refine⟨p,k.dn h.lv (by show¬(e.lv=_\/e.lv=_\/e.lv=_);omega),k.dn h.yv (by show¬(e.yv=_\/e.yv=_\/e.yv=_);omega),k.dn h.uv (by show¬(e.uv=_\/e.uv=_\/e.uv=_);omega),k.dn h.gv (by show¬(e.gv=_\/e.gv=_\/e.gv=_);omega),q,s,t,λi v=>?_⟩;obtain⟨m,y,o,z⟩:=h.row i v;have:=g.l _ _ o;exact⟨m,y,o,k.dn z (by show¬(m=_\/m=_\/m=_);omega)⟩
theorem Kb{e:ux}{d a f b:Obj}{w w1 c:World}(e1:E2 e.rb e.ub d a f b w w1)(g:cr (λx=>x=e.rv) w1 c):cr (λx=>x=e.rv\/x=e.rb\/x=e.ub) w c:=
 (e1.k.trans g (λ_ _ h=>.inr h) λ_ _ h=>.inl h)
def qn(l:List Nat)(m:Nat)(b:List Nat)(a:List Bool)(k:Nat):List (List Nat):=(List.range k).flatMap λi=>if a.getD i false then []else nt l m (b++[l.getD i 0]) (a.set i true)
theorem qQ(l:List Nat)(m:Nat)(b:List Nat)(a:List Bool)(k:Nat):qn l m b a (k+1)=qn l m b a k++if a.getD k false then []else nt l m (b++[l.getD k 0]) (a.set k true):=by unfold qn;rw[List.range_succ,List.flatMap_append];simp
def zf(e:ux)(l:List Nat)(Y:List (List Nat)->World->Prop):Prop:=∀i b c w,b.length=l.length->(∀d∈b,d∈l)->Cf e l b c w->Y i w->∃f g a h,Sem.run V.prog (Instr.yield e.lp #[.slice (some ⟨e.rb,0,none⟩) b.length l.length]) w=.ok (.round e.lp f g a h) w/\RoundIn Fence.wide 0 V.prog e.lp f g a h w λk j=>k=.returned (.bool true)/\Cf e l b c j/\Y (i++[b]) j
theorem wI(cs:Array Value)(k:Nat)(v:Value):(cs.setIfInBounds k v).setIfInBounds k v=cs.setIfInBounds k v:=by simp
theorem zg(a:List Bool)(k:Nat)(b:Bool):((a.map Value.bool).toArray).setIfInBounds k (.bool b)=((a.set k b).map Value.bool).toArray:=by simp[List.map_set]
theorem Cg{e:ux}(N:OT e){l:List Nat}(Z:l.length<=100000){Y:List (List Nat)->World->Prop}(hY:∀pre a b,Y pre a->cr (λx=>x=e.rv\/x=e.rb\/x=e.ub) a b->Y pre b)(hy:zf e l Y):
 ∀m g c pre w,g.length+m=l.length->(∀d∈g,d∈l)->Cf e l g c w->Y pre w->Calls V.prog 197 e.jh w (eG λv w'=>v=.bool true/\Cf e l g c w'/\Y (pre++nt l m g c) w')
 |m,g,c,pre,w,hm,L,h,O=>by
  obtain⟨o1,o2,o3,o4,o5,o6⟩:=N.r;obtain⟨p1,p2,p3,p4,p5⟩:=N.b;obtain⟨q1,q2,q3,q4⟩:=N.u;have aw:=N.l;refine go V.func197 Tryz.ntmps197 ?_;refine cg (cd h.rv rfl) (cA (cg h.lv (cA (gK ⟨λW=>?_,λW=>?_⟩))))
  ·have W:g.length=l.length:=by simp at W;omega
   obtain rfl:m=0:=by omega
   obtain⟨f,ar,ag,au,aa,hR⟩:=hy pre g c w W L h O;refine cg h.yv (cg (cd h.rv rfl) ⟨_,_,_,_,aa,hR.mono ?_⟩);rintro en w' ⟨rfl,I,h2⟩;exact⟨_,rfl,rfl,I,h2⟩
  ·have W:g.length≠l.length:=by simp at W;omega
   obtain⟨m,rfl⟩:∃m',m=m'+1:=⟨m-1,by omega⟩;refine cg h.lv (cA (dg (n:=l.length) (λk=>[(0,cu e.rv),(1,cu e.lv),(2,cu e.yv),(3,cu e.uv),(4,cu e.gv),(17,.slice e.la l.length e.lc),(18,.int .i64 l.length),(19,.int .i64 k)]) (λk w'=>Cf e l g c w'/\Y (pre++qn l m g c k) w') ⟨⟨rfl,rfl,rfl,rfl,rfl,rfl,rfl,rfl,trivial⟩,h,by simpa[qn]using O⟩ ?_ ?_ ?_))
   ·rintro k w' P X;exact cY ⟨rfl,rfl,⟨rfl,rfl,rfl,rfl,rfl,rfl,rfl,rfl,trivial⟩,X⟩
   ·rintro k w' P ⟨h,O⟩;obtain⟨b,o,Q,R⟩:=h.row k P;have S:k<c.length:=by rw[h.ul];exact P
    have ah:w'.cell? ⟨e.ub,0+k,none⟩=some (.bool c[k]):=by refine cd h.ub ?_;simp[S]
    have ab:c.getD k false=c[k]:=getD_eq S;have ai:l.getD k 0=l[k]:=getD_eq P;rw[Q];refine dT k P (cg R (cg h.uv (dT k P (cg ah ⟨λhu=>?_,λhu=>?_⟩))))
    ·refine cq ⟨⟨rfl,rfl,rfl,rfl,rfl,by rw[<-Q];rfl,rfl,rfl,trivial⟩,h,?_⟩;rw[qQ,ab,hu];simpa using O
    ·obtain⟨B,g1,g2,g3⟩:=h.rb;have av:g.length<l.length:=by omega
     have hE:=Nk e.rb e.ub (.cells B 3) (.cells (B.setIfInBounds g.length (.int .i64 l[k])) 3) (fM c) (fM (c.set k true));refine cF hE ?_;refine qm hE (λq p=>p.cell h.uv (by show e.uv≠e.rb;omega) (by show e.uv≠e.ub;omega)) ?_;refine qm hE (λq p=>p.cell (cd h.rv rfl) o5 o6) ?_;refine .rel (λv w=>∃F,v=.slice (some ⟨F,0,none⟩) 1 1/\F≠e.rb/\F≠e.ub/\w.heap[F]? =some (.cells [Value.int .i64 l[k]].toArray 3)) ?_ (λq p=>dB [Value.int .i64 l[k]] 3 λs F e2 ac hb=>⟨⟨F,rfl,?_,?_,hb⟩,E2.Nl e2⟩) ?_
     ·rintro v a b ⟨F,I,h2,h3,h4⟩ p;exact⟨F,I,h2,h3,p.k.ef h4 (by omega)⟩
     ·have:=ck.lt_of_heap g1;have:=p.k.size;omega
     ·have:=ck.lt_of_heap h.ub;have:=p.k.size;omega
     refine .rel (λv w=>v=.slice (some ⟨e.rb,0,none⟩) (g.length+1) l.length/\w.heap[e.rb]? =some (.cells (B.setIfInBounds g.length (.int .i64 l[k])) 3)) ?_ ?_ ?_
     ·rintro v a b ⟨I,h2⟩ p;exact⟨I,p.r1 h2⟩
     ·rintro q p v ⟨F,rfl,n1,n2,hb⟩;have t:∀J,q.heap[e.rb]? =some (.cells J 3)->J.size=B.size->J.setIfInBounds g.length (.int .i64 l[k])=B.setIfInBounds g.length (.int .i64 l[k])->un V.prog (builtin .append #[27,27] 27 (#[Operand.tmp 30,Operand.tmp 32].map λ| .const _=>true|_=>false) #[.slice (some ⟨e.rb,0,none⟩) g.length l.length,.slice (some ⟨F,0,none⟩) 1 1]) q λu s=>(u=.slice (some ⟨e.rb,0,none⟩) (g.length+1) l.length/\s.heap[e.rb]? =some (.cells (B.setIfInBounds g.length (.int .i64 l[k])) 3))/\E2 e.rb e.ub (.cells B 3) (.cells (B.setIfInBounds g.length (.int .i64 l[k])) 3) (fM c) (fM (c.set k true)) q s:=λJ aj ax y=>by refine Ce (u:=.int .i64 l[k]) oH aj (by omega) (by omega) (cd hb rfl) rfl λs G i=>?_;rw[y]at i;exact⟨⟨rfl,i⟩,E2.t1 G p5 i⟩
      rcases p.r0 g1 with C|C
      ·exact t B C rfl rfl
      ·exact t _ C (by simp) (wI _ _ _)
     refine .exact (.pointer (some ⟨e.ub,0+k,none⟩)) (λq p v hv=>dT k (by omega) ⟨rfl,hE.refl _⟩) ?_;refine .qN (λ_ w=>w.heap[e.ub]? =some (fM (c.set k true))) (λ_ a b I p=>p.u1 I) (λq p v hv=>?_) ?_
     ·have t:∀H:List Bool,q.heap[e.ub]? =some (fM H)->H.length=c.length->H.set k true=c.set k true->yF V.prog (Instr.storeAt 4 (.pointer (some ⟨e.ub,0+k,none⟩)) (.bool true)) q λs=>s.heap[e.ub]? =some (fM (c.set k true))/\E2 e.rb e.ub (.cells B 3) (.cells (B.setIfInBounds g.length (.int .i64 l[k])) 3) (fM c) (fM (c.set k true)) q s:=λH T ak y=>by
       refine fG T (by simp[Value.cells];omega) (λs G i=>by
       have i:s.heap[e.ub]? =some (fM (c.set k true)):=by rw[i,fM,<-y,<-zg];simp[er,Value.cells]
       exact⟨i,E2.t2 G p5 i⟩) (eu rfl)
      rcases p.u0 h.ub with C|C
      ·exact t c C rfl rfl
      ·exact t _ C (by simp) (by simp)
     ·intro q p v1 K v2 ac X;obtain⟨rfl,K⟩:v1=.slice (some ⟨e.rb,0,none⟩) (g.length+1) l.length/\q.heap[e.rb]? =some (.cells (B.setIfInBounds g.length (.int .i64 l[k])) 3):=K;replace X:q.heap[e.ub]? =some (fM (c.set k true)):=X;clear ac;have M:=p.k.ef h.rv (by omega);refine cK M λs G i=>?_;have k3:=Kb p G;have hW:Cf e l (g++[l[k]]) (c.set k true) s:=by
       refine h.xt N k3 (by rw[i];simp[er,Value.cells]) ⟨_,G.ef K (by omega),by simp[g2],λj hj=>?_⟩ (G.ef X (by omega)) (by simp[h.ul]);rcases Nat.lt_or_ge j g.length with ad|ay
       ·rw[Array.getElem?_setIfInBounds_ne (by omega),g3 j ad,List.getElem_append_left ad]
       ·obtain rfl:j=g.length:=by simp at hj;omega
        rw[Array.getElem?_setIfInBounds_self_of_lt (by omega)];simp
      have al:Y (pre++qn l m g c k) s:=hY _ _ _ O k3;clear i M G K X p k3
      refine cg hW.gv (cf (Cg N Z hY hy m (g++[l[k]]) (c.set k true) _ s (by simp;omega) (λd hd=>by
       rcases List.mem_append.1 hd with hd|hd
       ·exact L d hd
       ·rw[List.mem_singleton.1 hd];exact List.getElem_mem P) hW al) ?_)
      rintro v w3 ⟨rfl,D,am⟩;obtain⟨E,t1,t2,t3⟩:=D.rb;have z:=Nk e.rb e.ub (.cells E 3) (.cells E 3) (fM (c.set k true)) (fM c);have an:(g++[l[k]]).length=g.length+1:=by simp
      have A:=D.rv;rw[an]at A;refine cF z ?_;refine qm z (λq p=>p.cell D.uv (by show e.uv≠e.rb;omega) (by show e.uv≠e.ub;omega)) ?_;refine qm z (λq p=>p.cell (cd A rfl) o5 o6) ?_;refine qm z (λq p=>p.cell (cd A rfl) o5 o6) ?_;refine NW (.int .i64 ((g.length+1:Nat):Int)) (λq _=>cA ⟨rfl,z.refl _⟩) ?_;refine qh (n:=1) ?_ (by omega) z;refine dx (.slice (some ⟨e.rb,0,none⟩) g.length l.length) (λq _=>lV g.length (by omega) ⟨rfl,z.refl _⟩ (by omega)) ?_;refine mA k (by omega) ?_ rfl rfl z;refine .qN (λ_ w=>w.heap[e.ub]? =some (fM c)) (λ_ a b I p=>p.u1 I) (λq p=>?_) ?_
      ·have ae:c.set k false=c:=by
        apply List.ext_getElem?;intro j;by_cases hj:j=k
        ·subst hj;simp[S,hu]
        ·rw[List.getElem?_set_ne (by omega)]
       have t:∀H:List Bool,q.heap[e.ub]? =some (fM H)->H.length=c.length->H.set k false=c->yF V.prog (Instr.storeAt 4 (.pointer (some ⟨e.ub,0+k,none⟩)) (.bool false)) q λs=>s.heap[e.ub]? =some (fM c)/\E2 e.rb e.ub (.cells E 3) (.cells E 3) (fM (c.set k true)) (fM c) q s:=λH T ak y=>by
        refine fG T (by simp[Value.cells];omega) (λs G i=>by
        have i:s.heap[e.ub]? =some (fM c):=by
         have h4:fM c=.cells ((H.map Value.bool).toArray.setIfInBounds k (.bool false)) 4:=by rw[zg,y];rfl
         rw[i,h4];simp[er,Value.cells]
        exact⟨i,E2.t2 G p5 i⟩) (eu rfl)
       rcases p.u0 D.ub with C|C
       ·exact t _ C (by simp) (by rw[List.set_set];exact ae)
       ·exact t _ C rfl ae
      ·intro w4 e4 U;replace U:w4.heap[e.ub]? =some (fM c):=U;have af:=e4.k.ef A (by omega);refine cK af λw5 k5 ao=>?_;have k6:=Kb e4 k5;have ap:Cf e l g c w5:=D.xt N k6 (by rw[ao];simp[er,Value.cells]) ⟨E,k5.ef ((e4.r0 t1).elim id id) (by omega),t2,λj hj=>by rw[t3 j (by simp;omega),List.getElem_append_left hj]⟩ (k5.ef U (by omega)) h.ul;have aq:=hY _ _ _ am k6;refine ek (nh rfl (cq ⟨⟨rfl,rfl,rfl,rfl,rfl,by rw[<-Q];rfl,rfl,rfl,trivial⟩,ap,?_⟩));rw[qQ,ab,hu,ai];simpa using aq
   ·rintro w' ⟨h,O⟩;exact⟨_,rfl,rfl,h,O⟩
end Go.Proofs.W
