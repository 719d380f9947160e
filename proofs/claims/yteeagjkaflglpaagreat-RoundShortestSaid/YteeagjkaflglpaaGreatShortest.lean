/- RoundShortest holds: the walk that is found is the shortest of all orders of its doors, for every list of numbers. Conditions: none. -/
import Derived.Conc.CrowdTrace
import Derived.Below
import Derived.Conc.LeavingOf
import Derived.Carry
import Derived.ChangeSlices
import Derived.WideShapes
import Derived.Test.YteeagjkaflglpaaGreatRows
import Derived.JoinedOf
import Derived.KernelRfl
import Derived.Test.YteeagjkaflglpaaGreatX25
set_option maxRecDepth 100000
set_option maxHeartbeats 8000000
set_option linter.all false
namespace Go.Proofs.W
open Go.RowKit
theorem CF{x:Int}:∀{l:List Int} (i:Nat),x∉l->ut x l i= -1
 |[],_,_=>rfl
 |y::r,i,h=>by have a:¬x=y:=λe=>h (by rw[e];exact List.mem_cons_self);simp only[ut,if_neg a];exact CF (i+1) λb=>h (List.mem_cons_of_mem _ b)
theorem pN{n:Int}:∀(l pre:List Int),(∀x∈l,0<=x/\x<=n-1)->(pre++l).Nodup->iI n pre l=0
 |[],_,_,_=>rfl
 |d::r,pre,h,a=>by
  have b:=h d List.mem_cons_self;have c:lH d 0 (n-1)=true:=by simp[lH,b]
  have e:F6 d pre=false:=by
   have:d∉pre:=λf=>by rw[List.nodup_append]at a;exact a.2.2 d f d List.mem_cons_self rfl
   simp[F6,CF 0 this]
  simp only[iI,c,e,if_true,Bool.false_eq_true,if_false];exact pN r (pre++[d]) (λx g=>h x (List.mem_cons_of_mem _ g)) (by simpa using a)
theorem xd{n:Nat}{l:List Nat}(c:∀d∈l,d<n)(e:l.Nodup):eH n (kT l)=0:=by
 refine pN _ _ (λx f=>?_) ?_
 ·obtain⟨d,g,rfl⟩:=List.mem_map.1 f;have:=c d g;omega
 ·rw[List.nil_append];exact List.Pairwise.map _ (λa b h=>by omega) e
theorem By{w:World}{k:Value->World->Prop}{t:TypeId}{p:Array Bool}{n0:Nat}{v:Value}{l d:List Nat}(h:dN n0 w v l)(g:n0<=w.heap.size){a:Option Addr}{m c:Nat}(q:m=d.length)(r:dV w a d)(e:l.length+d.length<=1000000) (n:∀f w',dN n0 w' f (l++d)->cr (ce v) w w'->k f w'):un V.prog (builtin .append #[27,27] t p #[v,.slice a m c]) w k:=by
 subst q;rcases Nat.eq_zero_or_pos d.length with s|x
 ·obtain rfl:d=[]:=List.eq_nil_of_length_eq_zero s;obtain⟨C,D,rfl,_,i⟩:=h.row;exact rM oH i (n _ _ (by simpa using h) (cr.refl _ _))
 ·rcases r.cells with y|⟨b,o,rfl,i⟩
  ·have:(eJ d).length=0:=by rw[y];rfl
   have E:(eJ d).length=d.length:=by simp[eJ]
   omega
  ·exact wA oH h g (m:=d.length) (news:=eJ d) (by simp[eJ]) x (λj u z=>by rw[eN];exact i j u z) (tk d) e λf w' A B _=>n f w' (by simpa[dN,eJ]using A) B
structure TE(n0:Nat)(X:Array Value)(a b:World):Prop where
 k:cr (λx=>n0<=x) a b
 d:∀x:Nat,a.heap[x]? =some (.cells X 56)->b.heap[x]? =some (.cells X 56)
 z:∀(x:Nat) cs,a.heap[x]? =some (.cells cs 56)->∃oi,b.heap[x]? =some (.cells oi 56)/\oi.size=cs.size
theorem TE.trans{n0:Nat}{X:Array Value}{a b c:World}(h:TE n0 X a b)(k:TE n0 X b c):TE n0 X a c:=⟨h.k.trans k.k (λ_ _ h=>h) λ_ _ h=>h,λx e=>k.d x (h.d x e),λx f e=>by obtain⟨g,i,j⟩:=h.z x f e;obtain⟨l,m,n⟩:=k.z x g i;exact⟨l,m,n.trans j⟩⟩
theorem Kr{α:Type}{xs ys:Array α}{v f:α}{n k:Nat}(h:ys=xs.setIfInBounds n v)(a:k≠n)(b:xs[k]? =some f):ys[k]? =some f:=by subst h;rw[Array.getElem?_setIfInBounds_ne (Ne.symm a)];exact b
theorem V.Er:V.prog.funcs=Tryz.prog.funcs.setIfInBounds 163 V.f163:=by kernel_rfl
theorem V.fn{k:Nat}{f:Func}(h:Tryz.prog.funcs[k]? =some f)(a:k≠163):V.prog.funcs[k]? =some f:=Kr V.Er a h
def xe(G:Gd)(a b:Int):Value:=if ed G=0 then(if lH a (-1) (G.doors.length-1)=true/\lH b (-1) (G.doors.length-1)=true then .tuple #[.int .i64 (iW G (a+1).toNat (b+1).toNat),.int .i64 0]else .tuple #[.int .i64 0,.int .i64 3])else .tuple #[.int .i64 0,.int .i64 (ed G)]
theorem zT{G:Gd}{k:Option Addr}{dc:Nat}{w:World}(o:fZ w k G.doors)(d:G.doors.length<=100000)(p: -1000000<=G.streets/\G.streets<=1000000)(a b:Int):
 Calls V.prog 85 #[gV G k dc,.int .i64 a,.int .i64 b] w (eG λv w'=>v=xe G a b/\Ext w w'):=by
 refine go (V.fn Tryz.func85 (by decide)) Tryz.ntmps85 ?_;refine eO λs t e q l=>fW l (cf (vi (dc:=dc) (o.ext e) d p) ?_);rintro v u ⟨f,⟨i,rfl⟩|⟨i,x,mk,y,rfl,m⟩⟩
 ·exact eP (je (by simpa using i) ⟨_,rfl,by rw[xe,if_neg i];rfl,e.trans f⟩)
 ·have j:=f.at_ l;have z:=m.g.pw.many;have n:¬(lH a (-1) (G.doors.length-1)=true/\lH b (-1) (G.doors.length-1)=true)->xe G a b=.tuple #[.int .i64 0,.int .i64 3]:=λh=>by rw[xe,if_pos i,if_neg h]
  refine eP (nh (by simp) (cg (cd j rfl) (cA (fu (cL (du _ _ _ _) (ek ⟨λh=>?_,λh=>?_⟩))))))
  ·have h:lH a (-1) (G.doors.length-1)=false:=by simpa using h
   exact je (by simp[h]) ⟨_,rfl,by rw[n (by simp[h])];rfl,e.trans f⟩
  ·have h:lH a (-1) (G.doors.length-1)=true:=by simpa using h
   refine cg (cd j rfl) (cA (fu (cL (du _ _ _ _) (ek ⟨λc=>?_,λc=>?_⟩))))
   ·have c:lH b (-1) (G.doors.length-1)=false:=by simpa using c
    exact⟨_,rfl,by rw[n (by simp[c])];rfl,e.trans f⟩
   ·have c:lH b (-1) (G.doors.length-1)=true:=by simpa using c
    have A: -1<=a/\a<=G.doors.length-1:=by simpa[lH]using h
    have r: -1<=b/\b<=G.doors.length-1:=by simpa[lH]using c
    refine cq (cq (rL (a+1).toNat 6 6 (by omega) (oG (b+1).toNat 6 (by omega) (cg (m.g.ways _ _ (by omega) (by omega)) ⟨_,rfl,by rw[xe,if_pos i,if_pos ⟨h,c⟩];rfl,e.trans f⟩) (by omega)) (by omega)))
theorem zS{G:Gd}{da:Option Addr}{dc:Nat}{w:World}(hd:fZ w da G.doors)(hG:ed G=0){l:List Nat}{la:Option Addr}{lc:Nat}(hr:dV w la l)(hl:∀d∈l,d<G.doors.length)(hlen:l.length<=1000):
 Calls V.prog 68 #[gV G da dc,.slice la l.length lc] w (eG λv w'=>v=.tuple #[.int .i64 (Lm G l),.bool true]/\Ext w w'):=by
 have ok:=kq hG;have hm:=ok.many;have hs:=ok.streets;have RR:∀d∈l,d<5:=λd hd=>by have:=hl d hd;omega
 have hW:=pt ok
 have O8:∀k,k<=l.length->lH ((zY l k:Nat)-1:Int) (-1) (G.doors.length-1)=true:=λk hk=>by
  unfold zY;split
  ·simp[lH];omega
  ·have:k-1<l.length:=by omega
   have h2:=hl _ (List.getElem_mem this);rw[getD_eq this];simp[lH];omega
 have Jc:∀a b:Nat,lH ((a:Int)-1) (-1) (G.doors.length-1)=true->lH ((b:Int)-1) (-1) (G.doors.length-1)=true->xe G ((a:Int)-1) ((b:Int)-1)=.tuple #[.int .i64 (iW G a b),.int .i64 0]:=λa b h1 h2=>by rw[xe,if_pos hG,if_pos ⟨h1,h2⟩];rw[show((a:Int)-1+1).toNat=a by omega,show((b:Int)-1+1).toNat=b by omega]
 refine go (V.fn Tryz.func68 (by decide)) Tryz.ntmps68 ?_;refine eO λw1 gb e1 RE hb=>?_;refine gq l.length (λk (_:Unit)=>[(1,.slice la l.length lc),(2,cu gb),(6,.int .i64 (tc (iW G) l k)),(7,.int .i64 ((zY l k:Nat)-1)),(8,.int .i64 k)]) (λk _ w'=>Ext w1 w') () ⟨⟨rfl,rfl,rfl,rfl,rfl,trivial⟩,Ext.refl _⟩ ?_;rintro k _ w2 hk e2;have RO:=hd.ext (e1.trans e2);have zW:=e2.at_ hb;have Oy:=wz hW l k;refine cA (cY ⟨λEC=>?_,λQU=>?_⟩)
 ·have Hc:k<l.length:=by simpa using EC
  obtain⟨bb,oo,rfl,hc⟩:=(hr.ext (e1.trans e2)) k Hc;have RS:=hl _ (List.getElem_mem Hc);have NA:lH (((l[k]+1:Nat):Int)-1) (-1) (G.doors.length-1)=true:=by simp[lH];omega
  have hw:=hW (zY l k) (l[k]+1);refine cF cB (dx (gV G da dc) (λw3 e3=>fW (e3.at_ zW) ⟨rfl,Ext.refl _⟩) (mA k Hc (cn hc (jg (.tuple #[.int .i64 (iW G (zY l k) (l[k]+1)),.int .i64 0]) (λw3 e3=>?_) λw3 e3=>eP (nh (by simp) ?_)))))
  ·have:=zT (dc:=dc) (RO.ext e3) (by omega) (by omega) ((zY l k:Nat)-1:Int) (((l[k]+1:Nat):Int)-1);rw[Jc _ _ (O8 k hk) NA,show((l[k]+1:Nat):Int)-1=(l[k]:Int) by omega]at this;exact this
  ·have RQ:=e3.cell hc;have s1:tc (iW G) l (k+1)=tc (iW G) l k+iW G (zY l k) (l[k]+1):=by simp only[tc,getD_eq Hc]
   have s2:((zY l (k+1):Nat):Int)-1=l[k]:=by simp[zY,List.getElem?_eq_getElem Hc]
   refine cF cB (AY (mA k Hc (cn RQ λw4 e4=>cq ⟨Hc,(),⟨rfl,rfl,?_,?_,rfl,trivial⟩,(e2.trans e3).trans e4⟩)))
   ·show some _=some _;rw[s1]
   ·show some _=some _;rw[s2]
 ·have Hc:k=l.length:=by
   have:¬k<l.length:=by simpa using QU
   omega
  subst Hc;have hw:=hW (zY l l.length) 0;have uV:Calls V.prog 85 #[gV G da dc,.int .i64 ((zY l l.length:Nat)-1),.int .i64 (-1)] w2 (eG λv w'=>v=.tuple #[.int .i64 (iW G (zY l l.length) 0),.int .i64 0]/\Ext w2 w'):=by have:=zT (dc:=dc) RO (by omega) (by omega) ((zY l l.length:Nat)-1:Int) (((0:Nat):Int)-1);rw[Jc _ _ (O8 _ (Nat.le_refl _)) (by simp[lH];omega)]at this;exact this
  exact fW zW (dU uV λw3 e3=>cq (gK ⟨_,rfl,rfl,(e1.trans e2).trans e3⟩))
theorem R2{a:Nat}{w:World}(h:fC a w)(n:Int)(c: -1000000<=n/\n<=1000000):Calls V.prog 93 #[cu a,.int .i64 n] w (eG λv w'=>(∃b,v=.bool b)/\DE a w w'):=by refine go (V.fn Tryz.func93 (by decide)) Tryz.ntmps93 ?_;refine fu (cf (mq h (n-1) (by omega)) ?_);rintro _ e ⟨⟨z,rfl,_⟩,d⟩;exact gK ⟨_,rfl,⟨_,rfl⟩,d⟩
theorem RY{g:Nat}{w:World}(h:fC g w){G:Gd}{J:Option Addr}{dc:Nat}(X:G.doors.length<=1000):Calls V.prog 65 #[cu g,gV G J dc] w (eG λv w'=>DE g w w'/\∃l,dN w.heap.size w' v l/\l.Pairwise (·<·)/\∀d∈l,d<G.doors.length):=by
 refine go (V.fn Tryz.func65 (by decide)) Tryz.ntmps65 ?_;refine eO λY B M N r=>?_;have O:=h.lt;refine gq G.doors.length (λk (s:Value×List Nat)=>[(0,cu g),(3,cu B),(5,s.1),(6,.int .i64 k)]) (λk s w'=>DE g w w'/\w'.heap[B]? =some (.cells (gV G J dc).cells 24)/\dN w.heap.size w' s.1 s.2/\s.2.Pairwise (·<·)/\(∀d∈s.2,d<k)/\s.2.length<=k) (.slice none 0 0,[]) ⟨⟨rfl,rfl,rfl,rfl,trivial⟩,M.de g,r,cC.nil _ _ _ _,.nil,(λd i=>by cases i),Nat.le_refl _⟩ ?_;rintro k ⟨v,l⟩ Z hk ⟨n,t,z,A,c,C⟩;simp only at z A c C;refine cg (cd t rfl) (cA (cY ⟨λu=>?_,λD=>?_⟩))
 ·have y:k<G.doors.length:=by simpa using u
  refine cf (R2 (n.2 h) 3 (by omega)) ?_;rintro _ P ⟨⟨b,rfl⟩,o⟩;have m:=o.1.ef t (show¬B=g by omega);have f:dN w.heap.size P v l:=cC.keep z o.1 λb r e=>by have:=(cC.blk z r).1;omega
  refine ek ⟨λQ=>?_,λQ=>?_⟩
  ·refine dB [Value.int .i64 k] 3 λw4 nb j R E=>gC oH (cC.ext f j) (by have:=n.1.size;have:=o.1.size;have:=j.size;omega) E (by omega) λK L F I _=>cq ⟨y,(K,l++[k]),⟨rfl,rfl,rfl,rfl,trivial⟩,?_,?_,?_,?_,λd i=>?_,by simp;omega⟩
   ·have S:cr (λx=>x=g\/w.heap.size<=x) w L:=(((n.1.trans o.1 (λ_ _ h=>h) λ_ _ h=>h).trans (j.keep (λ_=>False)) (λ_ _ h=>h) λ_ _ h=>h.elim).trans I (H:=λx=>x=g\/w.heap.size<=x) (λ_ _ h=>.inl h) λx _ p=>.inr (cC.blk (cC.ext f j) p).1);refine⟨S.trans (cr.refl (λ_=>False) _) (λx p h=>h.elim id λh=>by omega) λ_ _ h=>h.elim,λT=>((o.2 (n.2 T)).ext j).keep I λx p=>?_⟩;have:=(cC.blk (cC.ext f j) p).1;omega
   ·refine I.ef (j.at_ m) λp=>?_;obtain⟨cs,q⟩:=cC.c_ (cC.ext f j) p;exact dW q (j.at_ m) (by decide)
   ·unfold dN;rw[List.length_append];have U:cC w.heap.size 3 [.int .i64 0] L K (l.length+1) (eJ l++[.int .i64 k]):=F;simpa only[eJ,List.map_append,List.map_cons,List.map_nil,List.length_cons,List.length_nil,Nat.zero_add]using U
   ·exact List.pairwise_append.2 ⟨A,List.pairwise_singleton _ _,λa W b r=>by rw[List.mem_singleton.1 r];exact c a W⟩
   ·rcases List.mem_append.1 i with i|i
    ·have:=c d i;omega
    ·rw[List.mem_singleton.1 i];omega
  ·exact cq ⟨y,(v,l),⟨rfl,rfl,rfl,rfl,trivial⟩,n.trans o,m,f,A,λd i=>by have:=c d i;omega,by simp only;omega⟩
 ·obtain rfl:k=G.doors.length:=by
   have:¬k<G.doors.length:=by simpa using D
   omega
  exact⟨_,rfl,n,l,z,A,c⟩
theorem vK{G:Gd}{z:Option Addr}{dc:Nat}{w:World}(p:fZ w z G.doors)(A:ed G=0){l:List Nat}{la:Option Addr}{lc:Nat}(B:dV w la l)(H:l.Nodup)(q:∀d∈l,d<G.doors.length)(I:l.length<=1000)(R:l.length<=lc):
 Calls V.prog 66 #[gV G z dc,.slice la l.length lc] w (eG λv w'=>Ext w w'/\∃u,v=.tuple #[u,.int .i64 0]/\dN w.heap.size w' u (cT G (fy l))):=by
 have C:=kq A;have J:=C.many;have S:=C.streets;have e:(kT l).length=l.length:=by simp[kT]
 refine go (V.fn Tryz.func66 (by decide)) Tryz.ntmps66 ?_;refine eO λT U m K r=>fW r ?_;have D:=tl (dc:=dc) (p.ext m) (by omega) (by omega) (l:=kT l) (la:=la) (lc:=lc) (B.ext m).ints (by omega) (by omega);rw[e,xd q H]at D;refine cf D ?_;rintro v L ⟨M,⟨i,rfl⟩|⟨i,W,mk,X,rfl,t⟩⟩
 ·exact absurd A i
 ·have j:=m.trans M;have f:=jW.fy (G:=G) J (l:=l) q;refine eP (nh (by simp) (cL (nO l la lc L (B.ext j) (λd p=>by have:=q d p;omega) (by omega)) (cf (zj (n0:=w.heap.size) t.g (λb r=>r.elim) t.N4 (by have:=t.lo;have:=m.size;omega) f.1 f.2) ?_)));rintro _ E ⟨N,_,a,c,rfl,x,O⟩;have F:Ext w E:=N.from j (Nat.le_refl _);have k:=x.n;refine cf (Ga a (cT G (fy l)).length c (eJ (cT G (fy l))) E (by simp[eJ]) (λh=>?_) k.cells (tk _) ?_) ?_
  ·rcases Nat.eq_zero_or_pos (cT G (fy l)).length with y|y
   ·exact y
   ·obtain⟨b,o,i,_⟩:=k 0 y;rw[h]at i;cases i
  ·have:=pF (G:=G) (s:=fy l);omega
  rintro u Y ⟨P,Q⟩;exact⟨_,rfl,F.trans P,u,rfl,Q.low F.size⟩
theorem vH{α a:Type}{f g:α->List a}:∀{l:List α},(∀x∈l,f x=g x)->l.flatMap f=l.flatMap g
 |[],_=>rfl
 |x::r,h=>by rw[List.flatMap_cons,List.flatMap_cons,h x List.mem_cons_self,vH λy b=>h y (List.mem_cons_of_mem _ b)]
def jU:Nat->List Nat->List (List Nat)
 |0,_=>[[]]
 |n+1,l=>(List.range l.length).flatMap λi=>(jU n (l.eraseIdx i)).map (l.getD i 0::·)
def R3(l:List Nat):List (List Nat):=jU l.length l
theorem getD_map{l:List Nat}{f:Nat->Nat}{i:Nat}(h:i<l.length):(l.map f).getD i 0=f (l.getD i 0):=by rw[List.getD_eq_getElem?_getD,List.getD_eq_getElem?_getD,List.getElem?_map,List.getElem?_eq_getElem h];rfl
theorem Eo(f:Nat->Nat):∀(l:List Nat) (i:Nat),(l.map f).eraseIdx i=(l.eraseIdx i).map f
 |[],_=>rfl
 |x::r,0=>rfl
 |x::r,i+1=>by simp only[List.map_cons,List.eraseIdx_cons_succ,Eo f r i]
theorem Ep(f:Nat->Nat):∀(n:Nat) (l:List Nat),jU n (l.map f)=(jU n l).map (·.map f)
 |0,l=>rfl
 |n+1,l=>by simp only[jU,List.map_flatMap,List.length_map];refine vH λi a=>?_;rw[getD_map (List.mem_range.1 a),Eo,Ep f n,List.map_map,List.map_map];rfl
theorem Et{l:List Nat}{m:Nat}(d:l.length=m)(f:Nat->Nat)(g:∀i,i<m->l.getD i 0=f i):∀(n:Nat) (b:List Nat) (a:List Bool),nt l n (b.map f) a=(nt (List.range m) n b a).map (·.map f)
 |0,b,a=>rfl
 |n+1,b,a=>by
  simp only[nt,List.map_flatMap,List.length_range,d];refine vH λi c=>?_;have c:=List.mem_range.1 c;split
  ·rfl
  ·have e:(List.range m).getD i 0=i:=by rw[List.getD_eq_getElem?_getD,List.getElem?_eq_getElem (by simpa using c)];simp
   rw[g i c,e,<-Et d f g n,List.map_append];rfl
theorem Ja:∀m:Nat,m<=5->jU m (List.range m)=nt (List.range m) m [] (List.replicate m false):=by decide+kernel
theorem LX{l:List Nat}(h:l.length<=5):R3 l=rR l:=by
 have e:l=(List.range l.length).map λi=>l.getD i 0:=by refine List.ext_getElem (by simp) λi a b=>?_;simp[List.getD_eq_getElem?_getD,List.getElem?_eq_getElem a]
 have a:=Et (l:=l) rfl (λi=>l.getD i 0) (λ_ _=>rfl) l.length [] (List.replicate l.length false);unfold R3 rR;rw[List.map_nil]at a;rw[a,<-Ja _ h,<-Ep,<-e]
theorem R4:∀{a b:List Nat},a.Pairwise (·<·)->b.Pairwise (·<·)->(∀x,x∈a↔x∈b)->a=b
 |[],[],_,_,_=>rfl
 |[],y::b,_,_,h=>absurd ((h y).2 List.mem_cons_self) (by simp)
 |x::a,[],_,_,h=>absurd ((h x).1 List.mem_cons_self) (by simp)
 |x::a,y::b,j,k,h=>by
  have d:=List.pairwise_cons.1 j;have e:=List.pairwise_cons.1 k;have g:x=y:=by
   rcases List.mem_cons.1 ((h x).1 List.mem_cons_self)with c|c
   ·exact c
   ·rcases List.mem_cons.1 ((h y).2 List.mem_cons_self)with i|i
    ·exact i.symm
    ·have:=d.1 _ i;have:=e.1 _ c;omega
  subst g;rw[R4 d.2 e.2 λz=>?_];constructor
  ·intro f;rcases List.mem_cons.1 ((h z).1 (List.mem_cons_of_mem _ f))with c|c
   ·have:=d.1 _ f;omega
   ·exact c
  ·intro f;rcases List.mem_cons.1 ((h z).2 (List.mem_cons_of_mem _ f))with c|c
   ·have:=e.1 _ f;omega
   ·exact c
theorem R5:∀a b c d e:Bool,dJ (fy (([(0,a),(1,b),(2,c),(3,d),(4,e)].filter (·.2)).map (·.1)))=([(0,a),(1,b),(2,c),(3,d),(4,e)].filter (·.2)).map (·.1):=by decide+kernel
theorem RU{l:List Nat}(h:l.Pairwise (·<·))(b:∀d∈l,d<5):dJ (fy l)=l:=by
 have e:l=([(0,decide (0∈l)),(1,decide (1∈l)),(2,decide (2∈l)),(3,decide (3∈l)),(4,decide (4∈l))].filter (·.2)).map (·.1):=by
  have c:(List.range 5).filter (λx=>decide (x∈l))=([(0,decide (0∈l)),(1,decide (1∈l)),(2,decide (2∈l)),(3,decide (3∈l)),(4,decide (4∈l))].filter (·.2)).map (·.1):=by show [0,1,2,3,4].filter _=_;simp only[List.filter];cases decide (0∈l)<;>cases decide (1∈l)<;>cases decide (2∈l)<;>cases decide (3∈l)<;>cases decide (4∈l)<;>rfl
  rw[<-c];refine R4 h (List.Pairwise.filter _ List.pairwise_lt_range) λx=>?_;simp only[List.mem_filter,List.mem_range,decide_eq_true_eq];exact⟨λa=>⟨b x a,a⟩,λa=>a.2⟩
 rw[e];exact R5 ..
theorem RZ{w:World}{k:Value->World->Prop}{t:TypeId}{E:Array Bool}{n0 l:Nat}{x:Value}(p:w.heap[l]? =some (.cells [x].toArray 3))(M:x.oneCell'=true)(q:n0<=l){d:List Nat}{a:Option Addr}{m c:Nat}(F:m=d.length)(r:dV w a d)(y:d.length<=100000) (A:∀B w',cC n0 3 [.int .i64 0] w' B (1+d.length) (x::eJ d)->Ext w w'->k B w'):un V.prog (builtin .append #[27,27] t E #[.slice (some ⟨l,0,none⟩) 1 1,.slice a m c]) w k:=by
 subst F;rcases Nat.eq_zero_or_pos d.length with G|N
 ·obtain rfl:d=[]:=List.eq_nil_of_length_eq_zero G;exact rM oH (Nat.le_refl _) (A _ _ ⟨by simp[eJ],.inr ⟨l,1,_,q,rfl,p,rfl,Nat.le_refl _,by decide,λj _=>by simp[eJ],λj f h=>by simp[eJ]at f h;omega⟩⟩ (Ext.refl _))
 ·rcases r.cells with H|⟨b,o,rfl,I⟩
  ·have:(eJ d).length=0:=by rw[H];rfl
   have C:(eJ d).length=d.length:=by simp[eJ]
   omega
  ·obtain⟨J,i,z,C,K,D,n,L,O⟩:=oH;have g:z.cells.size=1:=by rw[D];rfl
   have n:i.size=1:=n;have e:(eJ d).length=d.length:=by simp[eJ]
   have r:=run_append_grow (P:=V.prog) w 27 t 3 i z J C K ⟨l,0,none⟩ 1 1 [x] (by rw[n];rfl) (λj u f=>by rw[eN,Nat.zero_add];exact cd p (by simpa using f)) ⟨b,o,none⟩ d.length c (eJ d) (by rw[n,e,Nat.mul_one]) (λj u f=>by rw[eN];exact I j u f) (by omega) (by omega) (growslice_fits (by omega) (Nat.le_trans (Nat.mul_le_mul (show 1+d.length<=1000000 by omega) L) (by decide)));have s:=grownCap_ge w (1+d.length) 1 3;have v:=grownCap_le_maxLen w (1+d.length) 1 3 (by simp only[maxLen];omega);simp only[maxLen]at v;refine⟨_,_,(by unfold builtin;simp only[Sem.run_bind,r,Result.andThen_ok,Sem.run_pure];rfl),A _ _ ⟨by simp[e];omega,.inr ⟨w.heap.size,grownCap w (1+d.length) 1 3,_,by have:=ck.lt_of_heap p;omega,rfl,dD w.drew _,?_,s,by omega,λj f=>?_,λj f h=>?_⟩⟩ ((Ext.drew w).trans (Ext.alloc _ _))⟩
   ·simp only[Array.size_append,List.size_toArray,size_zeroCells,g,e,List.length_cons,List.length_nil];omega
   ·rw[Array.getElem?_append_left (by simpa using f)];simp
   ·simp only[List.length_cons,e]at f;rw[Array.getElem?_append_right (by simp[e];omega)];simp only[Array.size_append,List.size_toArray,size_zeroCells,g,e,List.length_cons,List.length_nil]at h;rw[n6 _ _ _ (by omega) (by rw[g];simp[e];omega),g,D];simp[Nat.mod_one]
theorem R6{w:World}{k:Value->World->Prop}{t:TypeId}{s:Array Bool}{n0:Nat}{v:Value}{d:List (List Nat)}(h:gd n0 w v d)(m:n0<=w.heap.size){b c:Nat}{u:Value}{l:List Nat}(n:dN n0 w u l)(y:w.heap[b]? =some (.cells [u].toArray 27))(e:d.length+1<=1000000) (z:∀f w',gd n0 w' f (d++[l])->cr (ce v) w w'->(∀b,ce f b->ce v b\/w.heap.size<=b)->k f w'):un V.prog (builtin .append #[66,66] t s #[v,.slice (some ⟨b,0,none⟩) 1 c]) w k:=by
 obtain⟨A,o,q,B⟩:=h;have g:u.oneCell'=true:=by obtain⟨a,c,rfl,_⟩:=n.row;rfl
 refine gC Ll o m y e (λf w' C p D=>z f w' ⟨A++[u],by simpa using C,by simp[q],λi E=>?_⟩ p D) rfl (by simp[oF,g]);rcases Nat.lt_or_ge i d.length with j|F
 ·obtain⟨x,G,r⟩:=B i j;refine⟨x,by rw[List.getElem?_append_left (by omega)];exact G,?_⟩;rw[List.getElem_append_left j];exact r.keep p (jp r o (by decide))
 ·obtain rfl:i=d.length:=by simp at E;omega
  refine⟨u,by rw[List.getElem?_append_right (by omega)];simp[q],?_⟩;simp only[List.getElem_append_right (Nat.le_refl _),Nat.sub_self,List.getElem_cons_zero];exact n.keep p (jp n o (by decide))
theorem gd.blk{n0:Nat}{w:World}{v:Value}{a:List (List Nat)}(h:gd n0 w v a){b:Nat}(c:ce v b):n0<=b/\b<w.heap.size:=by obtain⟨e,d,_⟩:=h;exact d.blk c
theorem gd.R7{n0:Nat}{w w':World}{v:Value}{e:List (List Nat)}{F:Nat->Prop}(h:gd n0 w v e)(k:cr F w w')(f:∀b,n0<=b->b<w.heap.size->¬F b):gd n0 w' v e:=by obtain⟨g,c,j,l⟩:=h;refine⟨g,cC.keep c k λb a=>f b (c.blk a).1 (c.blk a).2,j,λi m=>?_⟩;obtain⟨u,n,d⟩:=l i m;exact⟨u,n,cC.keep d k λb a=>f b (cC.blk d a).1 (cC.blk d a).2⟩
theorem gd.R8{n0:Nat}{w:World}{b o l c:Nat}{s:Option Nat}{a:List (List Nat)}(h:gd n0 w (.slice (some ⟨b,o,s⟩) l c) a):n0<=b/\b<w.heap.size:=by
 obtain⟨g,⟨i,⟨j,e⟩|⟨k,m,n,d,e,f,p⟩⟩,q⟩:=h
 ·cases e
 ·cases e
  exact⟨d,ck.lt_of_heap f⟩
theorem tZ:∀(n:Nat) (l:List Nat),l.length=n->∀x∈jU n l,x.length=n
 |0,l,_,x,a=>by obtain rfl:x=[]:=by simpa[jU]using a
                rfl
 |n+1,l,h,x,a=>by simp only[jU,List.mem_flatMap,List.mem_range,List.mem_map]at a;obtain⟨i,b,y,c,rfl⟩:=a;have:=tZ n _ (by rw[List.length_eraseIdx_of_lt b];omega) y c;rw[List.length_cons,this]
theorem tf:∀(n:Nat) (l:List Nat),l.length<=5->(jU n l).length<=5^n
 |0,l,_=>by simp[jU]
 |n+1,l,h=>by
  have a:∀(r:List Nat),(r.flatMap λi=>(jU n (l.eraseIdx i)).map (l.getD i 0::·)).length<=r.length*5^n:=λr=>by
   induction r with
   |nil=>simp
   |cons x r b=>
    have c:=tf n (l.eraseIdx x) (by have:=List.length_eraseIdx_le l x;omega);rw[List.flatMap_cons,List.length_append,List.length_map,List.length_cons,Nat.add_mul,Nat.one_mul];omega
  have:=a (List.range l.length);rw[List.length_range]at this;have d:=Nat.mul_le_mul_right (5^n) h;simp only[jU];rw[Nat.pow_succ];omega
def ri(n:Nat)(l:List Nat)(i:Nat):List (List Nat):=(List.range i).flatMap λi=>(jU n (l.eraseIdx i)).map (l.getD i 0::·)
theorem vI(n:Nat)(l:List Nat)(i:Nat):ri n l (i+1)=ri n l i++(jU n (l.eraseIdx i)).map (l.getD i 0::·):=by simp only[ri,List.range_succ,List.flatMap_append,List.flatMap_cons,List.flatMap_nil,List.append_nil]
theorem Fx(n:Nat)(l:List Nat)(h:l.length<=5):∀i,(ri n l i).length<=i*5^n
 |0=>by simp[ri]
 |i+1=>by have a:=tf n (l.eraseIdx i) (by have:=List.length_eraseIdx_le l i;omega);have:=Fx n l h i;rw[vI,List.length_append,List.length_map,Nat.add_mul,Nat.one_mul];omega
theorem RV:∀(n:Nat) (l:List Nat) (a:Option Addr) (c:Nat) (w:World),l.length=n->n<=5->dV w a l->l.length<=c->Calls V.prog 67 #[.slice a l.length c] w (eG λv w'=>Ext w w'/\gd w.heap.size w' v (jU n l))
 |0,l,a,c,w,hl,_,Z,hc=>by
  refine go (V.fn Tryz.func67 (by decide)) Tryz.ntmps67 ?_;refine cA (gK (je (by simp[hl]) (dB [.slice none 0 0] 27 λw1 g e1 H m=>⟨_,rfl,e1,[.slice none 0 0],⟨rfl,.inr ⟨g,1,_,H,rfl,m,rfl,Nat.le_refl _,by decide,λj _=>by simp,λj hj aa=>by simp at hj aa;omega⟩⟩,rfl,λk W=>?_⟩)));obtain rfl:k=0:=by simpa[jU]using W
  exact⟨_,rfl,cC.nil _ _ _ _⟩
 |n+1,l,a,c,w,hl,h5,Z,hc=>by
  refine go (V.fn Tryz.func67 (by decide)) Tryz.ntmps67 ?_;refine cA (gK (nh (decide_eq_false (by omega)) ?_));have F:5^n<=625:=Nat.le_trans (Nat.pow_le_pow_right (by omega) (show n<=4 by omega)) (by decide);refine gq l.length (λi (v:Value)=>[(0,.slice a l.length c),(3,v),(4,.int .i64 i)]) (λi v w'=>Ext w w'/\gd w.heap.size w' v (ri n l i)) (.slice none 0 0) ⟨⟨rfl,rfl,rfl,trivial⟩,Ext.refl _,[],cC.nil _ _ _ _,rfl,λk W=>by simp[ri]at W⟩ ?_;rintro i v o hi ⟨e2,hv⟩;refine cA (cY ⟨λN=>?_,λab=>?_⟩)
  ·have r:i<l.length:=by simpa using N
   have hm:l.eraseIdx i=l.take i++l.drop (i+1):=List.eraseIdx_eq_take_drop_succ ..;have O:(l.eraseIdx i).length=n:=by rw[List.length_eraseIdx_of_lt r];omega
   have P:=Z.ext e2;refine fa 8 cB (fg λx=>o.heap.size<=x) (λa b h=>h.keep _) ?_;have ext:∀{w1:World},cr (λx=>o.heap.size<=x) o w1->Ext o w1:=λe=>e.ext λb m=>by omega
   refine .exact (.slice a i c) (λw1 e=>lV i (by omega) ⟨rfl,Ext.refl _⟩) ?_;refine .early rfl (λu w1=>dN o.heap.size w1 u (l.take i)) (λu a b h e=>cC.ext h e) (λw1 e=>?_) ?_
   ·have h:=zR (l:=l.take i) (c:=c) ((P.ext e).cut i) (by simp;omega);rw[List.length_take,Nat.min_eq_left (by omega)]at h;exact cf h λu I ⟨K,p⟩=>⟨p.low e.size,K⟩
   refine .exact (.int .i64 ((i:Int)+1)) (λw1 e=>cq ⟨rfl,Ext.refl _⟩) ?_;refine .exact (.slice (qY a (i+1) c) (l.length-(i+1)) (c-(i+1))) (λw1 e=>zD (i+1) (by omega) hc ⟨rfl,Ext.refl _⟩) ?_;refine .spec (λu w1=>dN o.heap.size w1 u (l.eraseIdx i)) (λu a b h e=>cC.ext h e) (λw1 e u p=>?_) ?_
   ·have hd:=(P.ext e).drop (i+1) hc;exact By p e.size (by simp) hd (by simp;omega) λq I A Q=>⟨by rw[hm];exact A,Q.trans (cr.refl (λ_=>False) _) (λx _ z=>(cC.blk p z).1) λ_ _ h=>h.elim⟩
   refine .late rfl (λu w1=>gd o.heap.size w1 u (jU n (l.eraseIdx i))) (λu a b h e=>h.ext e) (λw1 e u p=>?_) ?_
   ·obtain⟨a9,c9,rfl,ac,ad⟩:=dN.row p;exact cf (RV n (l.eraseIdx i) a9 c9 w1 O (by omega) ac ad) λu I ⟨K,ae⟩=>⟨ae.low e.size,K⟩
   refine .late rfl (λu w1=>gd o.heap.size w1 u (jU n (l.eraseIdx i))) (λu a b h e=>h.ext e) (λw1 e u p _ _ _ _=>⟨p,Ext.refl _⟩) ?_;intro I K u p _ _ _ _ _ _;obtain⟨a5,c5,rfl,an,ao⟩:=p.row;have af:∀b,ce v b->b<o.heap.size:=λb m=>(hv.blk m).2;have ag:gd w.heap.size I v (ri n l i):=hv.R7 K λb _ m ap=>by omega
   have ah:l.getD i 0=l[i]:=by rw[List.getD_eq_getElem?_getD,List.getElem?_eq_getElem r];rfl
   refine gq (jU n (l.eraseIdx i)).length (λk (q:Value)=>[(0,.slice a l.length c),(3,q),(4,.int .i64 i),(5,.slice a5 (jU n (l.eraseIdx i)).length c5),(6,.int .i64 k)]) (λk q w'=>cr (λx=>w.heap.size<=x/\(x<o.heap.size\/I.heap.size<=x)) I w'/\gd w.heap.size w' q (ri n l i++((jU n (l.eraseIdx i)).take k).map (l.getD i 0::·))/\∀b,ce q b->b<o.heap.size\/I.heap.size<=b) v ⟨⟨rfl,rfl,rfl,rfl,rfl,trivial⟩,cr.refl _ _,by simpa using ag,λb m=>.inl (af b m)⟩ ?_;rintro k q B W ⟨X,s,J⟩;have ai:gd o.heap.size B (.slice a5 (jU n (l.eraseIdx i)).length c5) (jU n (l.eraseIdx i)):=p.R7 X λb G C L=>by omega
   have D:Ext w B:=((((e2.trans (K.ext λb m=>by omega)).keep λ_=>False).trans X (λ_ _ h=>h.elim) λx _ h=>h.1:cr (λx=>w.heap.size<=x) w B)).ext λb m=>by omega
   refine cA (cY ⟨λR=>?_,λS=>?_⟩)
   ·have t:k<(jU n (l.eraseIdx i)).length:=by simpa using R
    have aq:(jU n (l.eraseIdx i))[k].length=n:=tZ n _ O _ (List.getElem_mem t);have ar:(ri n l i).length<=3125:=Nat.le_trans (Fx n l (by omega) i) (Nat.mul_le_mul (show i<=5 by omega) F);have am:(jU n (l.eraseIdx i)).length<=625:=Nat.le_trans (tf n _ (by omega)) F;obtain⟨a6,c6,e6,hL,_⟩:=ai.row;injection e6 with e6;subst e6;obtain⟨b1,o1,rfl,E⟩:=Z i r;obtain⟨b5,o5,a7,d,rfl,T,aj,au⟩:=hL k t;have ak:¬ce q b1:=λh=>by have:=(s.blk h).1;have:=nu E;omega
    have al:¬ce q b5:=λh=>by have G:=J _ h;have C:=p.R8;omega
    have E:=D.cell E;refine fa 12 cB (fg (ce q)) (λa b h=>h.keep _) ?_;refine .exact (.pointer (some ⟨b1,o1+i,none⟩)) (λw1 e=>dT i r ⟨rfl,Ext.refl _⟩) ?_;refine .exact (.int .i64 (l.getD i 0:Nat)) (λw1 e=>by rw[ah];exact cg (e.dn E ak) ⟨rfl,Ext.refl _⟩) ?_;refine .early rfl (λx w1=>∃g,x=.slice (some ⟨g,0,none⟩) 1 1/\B.heap.size<=g/\w1.heap[g]? =some (.cells [.int .i64 (l.getD i 0:Nat)].toArray 3)) (λu a b h e=>by obtain⟨g,G,C,L⟩:=h;exact⟨g,G,C,e.at_ L⟩) (λw1 e=>dB [.int .i64 (l.getD i 0:Nat)] 3 λY g M H m=>⟨⟨g,rfl,by have:=e.size;omega,m⟩,M⟩) ?_;refine .exact (.pointer (some ⟨b5,o5+k,none⟩)) (λw1 e=>dT k t ⟨rfl,Ext.refl _⟩) ?_;refine .exact (.slice a7 ((jU n (l.eraseIdx i))[k]).length d) (λw1 e=>cg (e.dn T al) ⟨rfl,Ext.refl _⟩) ?_;refine .early rfl (λx w1=>dN B.heap.size w1 x (l.getD i 0::(jU n (l.eraseIdx i))[k])) (λu a b h e=>cC.ext h e) (λw1 e x z=>?_) ?_
    ·obtain⟨g,rfl,G,C⟩:=z;exact RZ C rfl G rfl (aj.ext e) (by omega) λv5 Y A Q=>⟨by have A:=A;rw[Nat.add_comm]at A;exact A,Q⟩
    refine .early rfl (λx w1=>∃g y,x=.slice (some ⟨g,0,none⟩) 1 1/\B.heap.size<=g/\w1.heap[g]? =some (.cells [y].toArray 27)/\dN B.heap.size w1 y (l.getD i 0::(jU n (l.eraseIdx i))[k])) (λu a b h e=>by obtain⟨g,y,G,C,L,h4⟩:=h;exact⟨g,y,G,C,e.at_ L,cC.ext h4 e⟩) (λw1 e y hy=>?_) ?_
    ·obtain⟨a8,f,rfl,_,_⟩:=dN.row hy;exact dB [.slice a8 _ f] 27 λY g M H m=>⟨⟨g,_,rfl,by have:=e.size;omega,m,cC.ext hy M⟩,M⟩
    refine .spec (λx w1=>gd w.heap.size w1 x (ri n l i++((jU n (l.eraseIdx i)).take (k+1)).map (l.getD i 0::·))/\∀b,ce x b->ce q b\/B.heap.size<=b) (λu a b h e=>⟨h.1.ext e,h.2⟩) (λw1 e x z _ _=>?_) ?_
    ·obtain⟨g,y,rfl,G,C,L⟩:=z;have hs:=(D.trans e).size;refine R6 (s.ext e) hs (dN.low L D.size) C (by simp;omega) λv5 Y A Q g3=>⟨⟨?_,λb m=>(g3 b m).imp id λh=>by have:=e.size;omega⟩,Q⟩;rw[List.append_assoc]at A;rw[List.take_succ_eq_append_getElem t,List.map_append];exact A
    refine .late rfl (λx w1=>gd w.heap.size w1 x (ri n l i++((jU n (l.eraseIdx i)).take (k+1)).map (l.getD i 0::·))/\∀b,ce x b->ce q b\/B.heap.size<=b) (λu a b h e=>⟨h.1.ext e,h.2⟩) (λw1 e x z _ _ _ _ _ _=>⟨z,Ext.refl _⟩) ?_;intro Y M x z _ _ _ _ _ _ _ _;exact cq ⟨t,x,⟨rfl,rfl,rfl,rfl,rfl,trivial⟩,X.trans M (λ_ _ h=>h) λy hy U=>⟨(s.blk U).1,J y U⟩,z.1,λb m=>(z.2 b m).elim (J b) λh=>.inr (Nat.le_trans X.size h)⟩
   ·obtain rfl:k=(jU n (l.eraseIdx i)).length:=by simp at S;omega
    rw[List.take_length,<-vI]at s;exact cq ⟨r,q,⟨rfl,rfl,rfl,trivial⟩,D,s⟩
  ·obtain rfl:i=l.length:=by simp at ab;omega
   exact⟨v,rfl,e2,hv⟩
theorem G9:∀(n:Nat) (l:List Nat),l.length=n->∀x∈jU n l,∀d∈x,d∈l
 |0,l,_,x,b,d,a=>by obtain rfl:x=[]:=by simpa[jU]using b
                    cases a
 |n+1,l,h,x,b,d,a=>by
  simp only[jU,List.mem_flatMap,List.mem_range,List.mem_map]at b;obtain⟨i,c,y,e,rfl⟩:=b;rcases List.mem_cons.1 a with rfl|a
  ·rw[getD_eq c];exact List.getElem_mem c
  ·exact List.mem_of_mem_eraseIdx (G9 n _ (by rw[List.length_eraseIdx_of_lt c];omega) y e d a)
theorem Ha:∀(n:Nat) (l:List Nat),l.length=n->0<(jU n l).length
 |0,l,_=>by simp[jU]
 |n+1,l,h=>by have:=Ha n (l.eraseIdx 0) (by rw[List.length_eraseIdx_of_lt (by omega)];omega);obtain⟨y,b⟩:=List.exists_mem_of_length_pos this;refine List.length_pos_of_mem (a:=l.getD 0 0::y) ?_;simp only[jU,List.mem_flatMap,List.mem_range,List.mem_map];exact⟨0,by omega,y,b,rfl⟩
def kD(G:Gd)(rows:List (List Nat))(k:Nat)(s:Int×Int):Prop:=(k=0/\s=(-1,0))\/∃i,∃h:i<rows.length,i<k/\s=((i:Int),Lm G rows[i])/\gO G (rows.take k)=(rows[i],Lm G rows[i])
theorem lG{G:Gd}{rows:List (List Nat)}{k:Nat}(h:k<rows.length):gO G (rows.take (k+1))=gE G (gO G (rows.take k)) rows[k]:=by rw[List.take_succ_eq_append_getElem h,gO,List.foldl_append];rfl
theorem kD.first{G:Gd}{rows:List (List Nat)}(h:0<rows.length):kD G rows 1 (((0:Nat):Int),Lm G rows[0]):=
 .inr ⟨0,h,by omega,rfl,by rw[lG h];simp[gO,gE]⟩
theorem kD.more{G:Gd}{rows:List (List Nat)}{k i:Nat}(h:k<rows.length)(c:i<rows.length)(b:gO G (rows.take k)=(rows[i],Lm G rows[i]))(a:Lm G rows[k]<Lm G rows[i]):kD G rows (k+1) ((k:Int),Lm G rows[k]):=
 .inr ⟨k,h,by omega,rfl,by rw[lG h,b,gE,if_pos (.inr a)]⟩
theorem kD.stay{G:Gd}{rows:List (List Nat)}{k i:Nat}(h:k<rows.length)(a:i<rows.length)(b:i<k)(c:gO G (rows.take k)=(rows[i],Lm G rows[i]))(e:0<=Lm G rows[i])(d:¬Lm G rows[k]<Lm G rows[i]):kD G rows (k+1) ((i:Int),Lm G rows[i]):=
 .inr ⟨i,a,by omega,rfl,by rw[lG h,c,gE,if_neg (λq=>by rcases q with q|q<;>simp only at q<;>omega)]⟩
theorem Bx{G:Gd}{l:List Nat}(a:l.Pairwise (·<·))(b:∀d∈l,d<5)(c:l.length<=5):cT G (fy l)=(gO G (jU l.length l)).1:=by rw[cT,RU a b,<-LX c,R3]
theorem ue{w:World}{ns:List Int}{la:Option Addr}{lc:Nat}(hr:gM w la ns)(hl:ns.length<=9223372036854775807):Calls V.prog 14 #[.slice la ns.length lc] w (pJ λv w'=>v=.bool true/\Ext w w'):=by
 refine go (V.fn Tryz.func14 (by decide)) Tryz.ntmps14 ?_;refine cf (zQ hr hl) ?_;rintro _ w1 ⟨p,db,rfl,am,X⟩;refine cf (xa X 5 (by omega)) ?_;rintro _ w2 ⟨q,G,K,dc,rfl,hO,an,Y,ao⟩;have ok:=kq Y;have E2:Ext w w2:=⟨q.1.os.trans p.os,q.1.tape.trans p.tape,q.1.output.trans p.output,Nat.le_trans p.size q.1.size,Nat.le_trans p.drawn q.1.drawn,λx m=>(q.1.block x (Nat.lt_of_lt_of_le m p.size) (by omega)).trans (p.block x m)⟩;refine dS λw3 W I Z aa=>cK aa λw4 k4 n=>?_;replace n:w4.heap[W]? =some (.cells (gL G K dc).toArray 24):=n.trans (congrArg (λa=>some (Obj.cells a 24)) (eh (qg 24).toArray (gL G K dc) rfl));have B:Ext w2 w4:=Ext.cj I k4 Z;refine fW n (cf (RY (dc:=dc) ((q.2 X).ext B) (by omega)) ?_);rintro _ w5 ⟨r,l,hu,hp,C⟩;obtain⟨a,c,rfl,hn,hc⟩:=hu.row;have s1:=p.size;have s2:=q.1.size;have ap:=X.lt;have hm:=ok.many;have t:∀d∈l,d<5:=λd hd=>by have:=C d hd;omega
 have ab:l.Nodup:=hp.imp λh=>by omega
 have o:l.length<=5:=by have:=RU hp t;have h2:(dJ (fy l)).length<=5:=iO (fy l) 5;rw[this]at h2;exact h2
 have g5:w5.heap[W]? =some (.cells (gL G K dc).toArray 24):=r.1.ef n (show¬W=db by omega);have y:fZ w5 K G.doors:=nD.Ny (cC.keep (cC.ext hO B) r.1 λb hb e=>by have:=(cC.blk hO hb).1;omega);have D:=E2.trans B;have E5:Ext w w5:=⟨r.1.os.trans D.os,r.1.tape.trans D.tape,r.1.output.trans D.output,Nat.le_trans D.size r.1.size,Nat.le_trans D.drawn r.1.drawn,λx m=>(r.1.block x (Nat.lt_of_lt_of_le m D.size) (by omega)).trans (D.block x m)⟩;refine fW g5 (cf (vK (dc:=dc) y Y hn ab C (by omega) hc) ?_);rintro _ w6 ⟨e6,u,rfl,ac⟩;refine eP (nh (by simp) (cf (RV l.length l a c w6 rfl o (hn.ext e6) hc) ?_));rintro _ w7 ⟨e7,ad⟩;obtain⟨pa,pc,rfl,hP,ae⟩:=ad.row;obtain⟨rows,g⟩:∃rows,rows=jU l.length l:=⟨_,rfl⟩;rw[<-g]at hP ae⊢;have ak:0<rows.length:=by rw[g];exact Ha _ _ rfl
 have L:∀x∈rows,∀d∈x,d<G.doors.length:=λx m d hd=>C d (G9 _ _ rfl x (g▸m) d hd);have z:∀x∈rows,x.length=l.length:=λx m=>tZ _ _ rfl x (g▸m);have aq:rows.length<=3125:=by rw[g];exact Nat.le_trans (tf _ _ o) (Nat.le_trans (Nat.pow_le_pow_right (by omega) o) (by decide))
 have E:=e6.trans e7;have af:∀x,0<=Lm G x:=λx=>(te (pt ok) x).1;obtain⟨ua,uc,rfl,ag,ar⟩:=ac.row;have g7:=E.at_ g5;refine gq rows.length (λk (s:Int×Int)=>[(4,cu W),(6,.slice ua (cT G (fy l)).length uc),(8,.slice pa rows.length pc),(9,.int .i64 s.1),(10,.int .i64 s.2),(11,.int .i64 k)]) (λk s w'=>Ext w7 w'/\kD G rows k s) (-1,0) ⟨⟨rfl,rfl,rfl,rfl,rfl,rfl,trivial⟩,Ext.refl _,.inl ⟨rfl,rfl⟩⟩ ?_;rintro k ⟨au,al⟩ w8 hk ⟨A,hB⟩;have g8:=A.at_ g7;have M:=hP.ext A;have N:=y.ext (E.trans A);refine cA (cY ⟨λO=>?_,λah=>?_⟩)
 ·have j:k<rows.length:=by simpa using O
  obtain⟨b5,o5,a7,f,rfl,F,H,ai⟩:=M k j;have av:=z _ (List.getElem_mem j);refine cF cB (dx (gV G K dc) (λw3 I=>fW (I.at_ g8) ⟨rfl,Ext.refl _⟩) (mA k j (cn F (jg (.tuple #[.int .i64 (Lm G rows[k]),.bool true]) (λw3 I=>zS (dc:=dc) (N.ext I) Y (H.ext I) (L _ (List.getElem_mem j)) (by omega)) λw9 P=>ek (nh rfl ?_)))));rcases hB with⟨rfl,Q⟩|⟨i,J,R,Q,S⟩
  ·injection Q with T U;subst T;subst U;exact cY (je rfl (je rfl (cq ⟨j,(((0:Nat):Int),Lm G rows[0]),⟨rfl,rfl,rfl,rfl,rfl,rfl,trivial⟩,A.trans P,kD.first j⟩)))
  ·injection Q with T U;subst T;subst U;refine cY (nh (by simp) (cY ⟨λh=>?_,λh=>?_⟩))
   ·have h:Lm G rows[k]<Lm G rows[i]:=of_decide_eq_true h;exact cq ⟨j,((k:Int),Lm G rows[k]),⟨rfl,rfl,rfl,rfl,rfl,rfl,trivial⟩,A.trans P,kD.more j J S h⟩
   ·have h:¬Lm G rows[k]<Lm G rows[i]:=of_decide_eq_false h;exact cq ⟨j,((i:Int),Lm G rows[i]),⟨rfl,rfl,rfl,rfl,rfl,rfl,trivial⟩,A.trans P,kD.stay j J R S (af _) h⟩
 ·obtain rfl:k=rows.length:=by simp at ah;omega
  rcases hB with⟨h0,_⟩|⟨i,J,R,Q,S⟩
  ·omega
  injection Q with T U;subst T;subst U;rw[List.take_length]at S;have hE:cT G (fy l)=rows[i]:=by rw[Bx hp t o,<-g,S]
  obtain⟨b5,o5,a7,f,rfl,F,H,ai⟩:=M i J;refine dT i J (cg F (dU (l7 _ _ ua a7 uc f w8 (ag.ext (e7.trans A)) H (by rw[hE,z _ (List.getElem_mem J)];omega)) λw9 P=>je (by simp[hE]) (gu (zP w9) (λw' h=>.inr ⟨rfl,h⟩) ?_)));rintro v aw ⟨rfl,aj⟩;exact .inl ⟨_,rfl,rfl,(((E5.trans E).trans A).trans P).trans aj⟩
end Go.Proofs.W
namespace Go.Proofs.W
open Go.Conc Go.ck Go.RowKit
noncomputable def Mo(L:List Nat)(f:Nat):Bool:=f==163||okF L false (λ_=>false) f
noncomputable def Hd(L:List Nat)(B:Nat->Prop)(sh:Nat->Option Nat):cx where
 S:=λg=>L.contains g
 dim:=false
 ok:=λf=>eB V.prog (λg=>L.contains g) false false
 df:=λ_=>false
 fs:=PR.funcs
 hole:=λf=>f==163
 sh:=sh
 r:=λb c=>b=c/\B b
 inj₁:=λ_ _ _ h a=>h.1.symm.trans a.1
 inj₂:=λ_ _ _ h a=>h.1.trans a.1.symm
theorem xf{L:List Nat}(h:L.all (Mo L)=true)(f:Nat)(b:L.contains f=true)(a:f≠163):
 ∃fn c,V.prog.funcs[f]? =some fn/\fn.body=some c/\eB V.prog (λg=>L.contains g) false false c=true/\(fn.name== "runtime.NumGoroutine")=false:=by
 have:=List.all_eq_true.1 h f (by simpa using b);unfold Mo at this;rw[show(f==163)=false by simpa using a,Bool.false_or]at this;unfold okF at this;split at this
 ·rename_i fn d;split at this
  ·rename_i c e;simp only[Bool.and_eq_true,Bool.not_eq_true']at this;exact⟨fn,c,d,e,this.1,this.2⟩
  ·cases this
 ·cases this
theorem Jb:(V.f163.name== "runtime.NumGoroutine")=false:=by kernel_rfl
theorem He:(Tryz.f163.name== "runtime.NumGoroutine")=false:=by kernel_rfl
theorem Hf:∃c,Tryz.f163.body=some c:=⟨_,sD⟩
theorem Eu{L:List Nat}{B:Nat->Prop}{sh:Nat->Option Nat}(h:L.all (Mo L)=true):Go.ck.Good V.prog (Hd L B sh):=by
 refine⟨⟨V.zero,λf a=>?_,V.xV,uQ _,V.bad⟩,rfl,λf a j=>?_,⟨λf a=>?_⟩,λ⟨f,a⟩=>by cases a⟩
 ·by_cases e:f=163
  ·subst e;exact⟨V.f163,V.rG,V.func163,Jb,rfl⟩
  ·obtain⟨d,c,b,g,_,i⟩:=xf h f a e;exact⟨d,c,b,i,g⟩
 ·have e:f≠163:=λe=>by subst e;cases j
  obtain⟨d,c,b,g,k,_⟩:=xf h f a e;exact⟨d,c,b,g,k⟩
 ·by_cases e:f=163
  ·subst e;obtain⟨c,l⟩:=Hf;exact⟨Tryz.f163,c,Tryz.func163,He,l,λh=>by cases h⟩
  ·obtain⟨d,c,b,g,_,i⟩:=xf h f a e;exact⟨d,c,(V.rH f e).symm.trans b,i,g,λ_=>b⟩
noncomputable def Bz(L:List Nat)(df:Nat->Bool)(B:Nat->Prop)(sh:Nat->Option Nat):cx where
 S:=λg=>L.contains g
 dim:=false
 ok:=λf=>eB V.prog (λg=>L.contains g) false (df f)
 df:=df
 fs:=V.prog.funcs
 hole:=λ_=>false
 sh:=sh
 r:=λb c=>b=c/\B b
 inj₁:=λ_ _ _ h a=>h.1.symm.trans a.1
 inj₂:=λ_ _ _ h a=>h.1.trans a.1.symm
theorem Hg{P:Program}{ρ:cx}(a:ρ.fs=P.funcs)(h:∀f,ρ.S f=true->∃fn c,P.funcs[f]? =some fn/\(fn.name== "runtime.NumGoroutine")=false/\fn.body=some c):JI P ρ:=⟨λf d=>by obtain⟨fn,c,b,e,g⟩:=h f d;exact⟨fn,c,by rw[a];exact b,e,g,λ_=>b⟩⟩
theorem Ev{L:List Nat}{g:Nat->Bool}{B:Nat->Prop}{sh:Nat->Option Nat}(h:L.all (okF L false g)=true):Go.ck.Good V.prog (Bz L g B sh):=by
 refine⟨V.fit h,rfl,λf a _=>?_,Hg (by unfold Bz;dsimp only) λf a=>?_,λ_ _=>rfl⟩
 ·obtain⟨b,c,d,e,i,_⟩:=pg h f a;exact⟨b,c,d,e,i⟩
 ·obtain⟨b,c,d,e,_,j⟩:=pg h f a;exact⟨b,c,d,j,e⟩
theorem runNT_then{Q:Program}{N K:Nat}{m b:Machine}{t c:Trace}(h:runNT Q N m t=(.next b,c)):runNT Q (N+K) m t=runNT Q K b c:=by
 induction N generalizing m t with
 |zero=>
  simp only[runNT]at h;injection h with a d;injection a with a;subst a d;rw[Nat.zero_add]
 |succ N e=>
  rw[show N+1+K=(N+K)+1 from by omega];simp only[runNT]at h⊢;cases f:stepT Q m with
  |mk s g=>
   rw[f]at h;cases s with
   |next i=>exact e h
   |ended o w=>simp only at h;injection h with a d;cases a
def CG(e:Ending)(w':World):Prop:=e=.returned (.bool true)\/(e=.panicked fI/\Kj w')
theorem zU{L LI:List Nat}{Mp:Nat->Bool}(hL:L.all (Mo L)=true)(Q8:LI.all (okF LI false Mp)=true){f:FuncId}{fn:Func}{tm:Tmp}(hf:V.prog.funcs[f]? =some fn)(Q9:fn.results=#[.tmp tm])(Kq:f≠163)(Ra:L.contains f=true)(Rb:LI.contains f=true) (Rc:PR.inits.idxOf? f=none){args xs:Array Value}{W v:World}{B:Nat->Prop}{sh:Nat->Option Nat} (hrel:∀b,B b->∃o o',v.heap[b]? =some o/\W.heap[b]? =some o'/\z0 (Hd L B sh) (sh b) o o'/\z0 (Bz LI Mp B sh) (sh b) o o'/\qC v b)(Nz:∀c,W.heap.size<=c->sh c=none)(Rd:dz (Hd L B sh) xs args)(Re:dz (Bz LI Mp B sh) xs args) (hC:∀T:Ta,Go.ck.Below v T->Calls V.prog f xs (cm v T) CG):∃N last o w' t',runNT PR (N+1) (solo (G (Frame.enter PR f args .normal) []) W) #[]=(.ended o w',t')/\runN PR N (solo (G (Frame.enter PR f args .normal) []) W)=.next last/\Go.step PR last=.ended o w'/\
  Go.Conc.Good PR (λx w'=>x=.bool true/\Go.RowKit.Below W.heap.size W w') last o w' t':=by
 have P3:Go.ck.Good V.prog (Hd L B sh):=Eu hL;have P4:Go.ck.Good V.prog (Bz LI Mp B sh):=Ev Q8;have ev:(V.prog.fj PR.funcs)=PR:=Ib;have hinv:Inv V.prog ⟨Frame.enter V.prog f xs .normal,[floor],v⟩:=by
  have h:Inv V.prog ⟨Frame.enter V.prog f xs .normal,[floor],cm v (mw v W)⟩:=
   ⟨Bz LI Mp B sh,W,G (Frame.enter (V.prog.fj (Bz LI Mp B sh).fs) f args .normal) [],P4,λ_=>rfl,WR.mw ⟨λb c hr=>by obtain⟨rfl,hb⟩:=hr;obtain⟨o,o',h1,h2,_,h3,_⟩:=hrel b hb;exact⟨o,o',h1,h2,h3⟩,Nz⟩,nF P4 Rb Re .normal (.inl rfl),⟨[],[],rfl,rfl,.nil⟩,⟨rfl,rfl⟩,⟨rfl,rfl⟩,⟨rfl,rfl⟩⟩
  exact h.cm v.tape
 have LW:Go.ck.Reach V.prog (oe f (λx _=>x=.bool true)) ⟨Frame.enter V.prog f xs .normal,[floor],v⟩:=by
  refine mK oe.callers (λc T hi hs=>?_) hinv λT hT=>?_
  ·rcases hs with hs|⟨h1,h2,h3,h4,h5⟩
   ·exact .inl (Go.ck.Left.cm (λx w T h=>h) c T hi hs)
   ·exact .inr ⟨h1,h2,h3,h4,h5.cm T⟩
  ·obtain⟨e,w',fr,hp,hs,Me,hl⟩:=hC T hT [floor];rcases hp with rfl|⟨rfl,hp⟩
   ·obtain⟨n,hn⟩:=hs;exact⟨n,fr,[floor],w',hn,.inl ⟨rfl,Me,_,rfl,hl⟩⟩
   ·obtain⟨n,hn⟩:=hs;exact⟨n,fr,[floor],w',hn,.inr ⟨rfl,Me,hl.1,hl.2.1,hp⟩⟩
 have hI:xp V.prog PR.funcs W (Hd L B sh) (λ_=>False) ⟨Frame.enter V.prog f xs .normal,[floor],v⟩ #[G (Frame.enter (V.prog.fj PR.funcs) f args .normal) []] (G (Frame.enter (V.prog.fj PR.funcs) f args .normal) []) W #[] (λ_=>0):=by
  refine⟨hinv,P3,rfl,rfl,⟨nF P3 Ra Rd .normal (.inl rfl),⟨[],[],rfl,rfl,.nil⟩,⟨rfl,rfl⟩,⟨rfl,rfl⟩,⟨rfl,rfl⟩⟩,⟨λb c hr=>?_,Nz⟩,⟨λi g hi hg=>?_,λj _=>Go.ConcN.Deaf_absent (by simp)⟩,?_,λb h=>h.elim,λ_ _ _ h=>h,λb c hr hc=>?_,Nat.le_refl _,λ_ _=>rfl,⟨rfl,rfl,rfl⟩,⟨λg hg=>?_,rfl,λ⟨g,hg⟩=>by cases hg⟩⟩
  ·obtain⟨rfl,hb⟩:=hr;obtain⟨o,o',h1,h2,h3,_,_⟩:=hrel b hb;exact⟨o,o',h1,h2,h3⟩
  ·have:i<1:=(Array.getElem?_eq_some_iff.1 hg).1;omega
  ·have h:=past_nil;exact⟨h.clean,λi a ha hm=>by simp[touchAt,Trace.act?]at ha,h.over,h.hears,λop MB=>by simp at MB⟩
  ·obtain⟨rfl,hb⟩:=hr;obtain⟨_,_,_,_,_,_,h⟩:=hrel b hb;exact h
  ·have e:g=163:=by
    have:(g==163)=true:=hg;simpa using this
   subst e;rw[V.func163,show PR.funcs[163]? =some Tryz.f163 from Tryz.func163];intro e;have:=congrArg Func.ntmps (Option.some.inj e);rw[Tryz.ntmps163]at this;cases this
 obtain⟨N,xq,w',oX,t',q',c',jr,X',a',r1,r2,r3,_⟩:=lead (fs:=PR.funcs) oe.callers (IM D8 Kq W) _ LW _ _ _ _ _ none _ _ hI
 have Rf:Go.ck.Left V.prog f (λx _=>x=.bool true) c'.fr c'.cl c'.v:=by
  rcases r3 with h|⟨h1,h2,h3,h4,h5⟩
  ·exact h
  ·exfalso;have Ad:cM V.prog jr c'.fr a'.frame:=by
    have rZ:=r2.gor.fr;generalize Ad:(G c'.fr c'.cl).frame=fr at rZ;generalize CP:a'.frame=kR at rZ;cases rZ with
    |fr hf=>subst Ad;exact hf
    | @hole g hS hh xs xs' hx=>
     have:c'.fr=Frame.enter V.prog g xs .normal:=Ad;rw[this]at h3;cases h3
   have hm:=Ad.mode;rw[h3]at hm;generalize a'.frame.mode=m at hm;cases hm with
   |panicking hc=>
    unfold fI at hc;cases hc with
    |cons hp _=>
     rcases hp.ok with h|h
     ·exact r2.holes.2.2 h
     ·exact h 3 _ _ rfl
 have Rg:jr.hole f=false:=by
  cases h:jr.hole f with
  |false=>rfl
  |true=>
   exfalso;exact r2.holes.1 f h (V.rH f Kq)
 obtain⟨M,last,o,w2,t2,s1,s2,s3,s4⟩:=r2.ends (sl:=oX) Rf hf Q9 Rg (by rw[ev];exact Rc) (Post:=λx w'=>x=.bool true/\Go.RowKit.Below W.heap.size W w') λx x' d hx hv=>by subst hx;cases hv;exact⟨rfl,r2.world.2.1,r2.world.1,r2.world.2.2,r2.grown,λb hb=>r2.kept b hb⟩
 rw[ev]at r1 s1 s2 s3 s4;have vW:runNT PR (N+(M+1)) (solo (G (Frame.enter PR f args .normal) []) W) #[]=(.ended o w2,t2):=(runNT_then r1).trans s1;refine⟨N+M,last,o,w2,t2,vW,?_,s3,s4⟩;have h1:runNT PR (N+M) (solo (G (Frame.enter PR f args .normal) []) W) #[]=runNT PR M (crowd xq w' oX) t':=runNT_then r1;have h2:=runNT_fst PR (N+M) (solo (G (Frame.enter PR f args .normal) []) W) #[];rw[h1,runNT_fst,s2]at h2;exact h2.symm
def O9(f:Nat):Bool:=f==190||f==163
def Hh(b a:Nat)(c:Nat):Option Nat:=if c=b then some a else none
theorem Ew{L H:List Nat}{I:Nat->Bool}(U:L.all (Mo L)=true)(q:H.all (okF H false I)=true){f:FuncId}{fn:Func}{tm:Tmp}(X:V.prog.funcs[f]? =some fn)(s:fn.results=#[.tmp tm])(l:f≠163)(u:L.contains f=true)(z:H.contains f=true)
 (A:PR.inits.idxOf? f=none)(hC:∀(ns:List Int) (la:Option Addr) (lc:Nat) (w:World),gM w la ns->ns.length<=9223372036854775807->Calls V.prog f #[.slice la ns.length lc] w (pJ λv w'=>v=.bool true/\Ext w w'))
 {W:World}{a:Option Addr}{d cap:Nat}{zs:List Int}(g:zs.length=d)(Y:d<=9223372036854775807)(ha:∀ad,a=some ad->ad.spot=none/\(∃x,W.shape? ad.block=some x)/\∀i,i<d->W.cell? (ad.add i)=some (.int .i64 (zs.getD i 0)))(hn:a=none->d=0):∃N last o w' Z,runNT PR (N+1) (solo (G (Frame.enter PR f #[.slice a d cap] .normal) []) W) #[]=(.ended o w',Z)/\runN PR N (solo (G (Frame.enter PR f #[.slice a d cap] .normal) []) W)=.next last/\Go.step PR last=.ended o w'/\Go.Conc.Good PR (λx w'=>x=.bool true/\Go.RowKit.Below W.heap.size W w') last o w' Z:=by
 have m:∀{ns:List Int} {la:Option Addr} {w:World},gM w la ns->ns.length<=9223372036854775807->Calls V.prog f #[.slice la ns.length cap] w CG:=λJ Y=>(hC _ _ _ _ J Y).mono λe w' h=>by
  rcases h with⟨v,rfl,rfl,_⟩|h
  ·exact .inl rfl
  ·exact .inr h
 cases a with
 |none=>
  obtain rfl:=hn rfl;have hz:zs=[]:=List.eq_nil_of_length_eq_zero g;refine zU (v:=W) (B:=λ_=>False) (sh:=λ_=>none) U q X s l u z A (λb h=>h.elim) (λ_ _=>rfl) (xs:=#[.slice none 0 cap]) (dz.one (.dF _ _)) (dz.one (.dF _ _)) λT hT=>?_;exact m (ns:=[]) (la:=none) (λk K=>by simp at K) (by simp)
 |some ad=>
  obtain⟨b,j,aa⟩:=ad;obtain⟨rfl,⟨x,C⟩,hc⟩:=ha _ rfl;obtain⟨F,t,M,O⟩:∃F t M,W.heap[b]? =some (.cells F t M):=by
   simp only[World.shape?]at C;split at C
   ·rename_i c e f h;exact⟨c,e,f,h⟩
   ·cases C
  have hb:=lt_of_heap O;have P:({W with heap:=W.heap.setIfInBounds b (.cells (zs.map (Value.int .i64)).toArray mG (0,d))}:World).heap[b]? =some (.cells (zs.map (Value.int .i64)).toArray mG (0,d)):=by simp[hb]
  have n:∀ρ:cx,Mq ρ j (.cells (zs.map (Value.int .i64)).toArray mG (0,d)) (.cells F t M):=λρ=>by
   refine⟨_,_,_,_,_,rfl,rfl,λo Q=>⟨Nat.zero_le _,by simpa[g]using Q⟩,λi y R=>?_⟩;have hi:i<zs.length:=by have:=(Array.getElem?_eq_some_iff.1 R).1;simpa using this
   have S:y=.int .i64 zs[i]:=by simp[List.getElem?_eq_getElem hi]at R;exact R.symm
   have h:=hc i (by omega);rw[eN]at h;simp only[World.cell?,O]at h;refine⟨.int .i64 zs[i],?_,by rw[S];exact .int _ _⟩;rw[Nat.add_comm];rw[getD_eq hi]at h;simpa using h
  have p:Hh b j b=some j:=by simp[Hh]
  have D:∀ρ:cx,ρ.r b b->ρ.sh=Hh b j->dz ρ #[.slice (some ⟨b,0,none⟩) d cap] #[.slice (some ⟨b,j,none⟩) d cap]:=λρ J hs=>by refine dz.one (.slice _ _ ?_);have h:=AR.mk (ρ:=ρ) 0 none J;rw[hs,p]at h;simpa using h
  refine zU (v:={W with heap:=W.heap.setIfInBounds b (.cells (zs.map (Value.int .i64)).toArray mG (0,d))}) (B:=λx=>x=b) (sh:=Hh b j) U q X s l u z A (λx C=>?_) (λc hc=>?_) (xs:=#[.slice (some ⟨b,0,none⟩) d cap]) (D _ ⟨rfl,rfl⟩ rfl) (D _ ⟨rfl,rfl⟩ rfl) λT hT=>?_
  ·subst C;refine⟨_,_,P,O,?_,?_,?_⟩
   ·rw[p];exact .inr ⟨_,rfl,n _⟩
   ·rw[p];exact .inr ⟨_,rfl,n _⟩
   ·exact⟨_,_,_,P,λo Q=>⟨Nat.zero_le _,by simpa[g]using Q⟩⟩
  ·unfold Hh;rw[if_neg (by omega)]
  ·have E:gM (cm {W with heap:=W.heap.setIfInBounds b (.cells (zs.map (Value.int .i64)).toArray mG (0,d))} T) (some ⟨b,0,none⟩) zs:=λk K=>⟨b,0,rfl,by
    show(match({W with heap:=W.heap.setIfInBounds b (.cells (zs.map (Value.int .i64)).toArray mG (0,d))}:World).heap[b]? with|some (.cells F _ _)=>_|_=>_)=_;rw[P];simp[List.getElem?_eq_getElem K]⟩
   have h:=m E (by omega);rw[g]at h;exact h
end Go.Proofs.W
namespace Go.Proofs.W
def Hb:List Nat:=[14,26,27,28,30,35,38,42,44,45,48,53,55,58,59,65,66,67,68,69,71,85,93,95,96,97,104,105,106,107,108,109,113,114,115,116,117,119,120,121,122,123,125,128,129,130,131,133,134,135,137,144,146,153,154,155,156,157,158,159,160,161,162,163,164,165,166,167,168,169,170,171,172,173,174,175,176,178,179,180,184,185,186,195,196,197,198,199,200,201,222,231]
def vJ:List Nat:=[14,26,27,28,30,35,38,42,44,45,48,53,55,58,59,65,66,67,68,69,71,85,93,95,96,97,104,105,106,107,108,109,113,114,115,116,117,119,120,121,122,123,125,128,129,130,131,133,134,135,137,144,146,153,154,155,156,157,158,159,160,161,162,163,164,165,166,167,168,169,170,171,172,173,174,175,176,178,179,180,184,185,186,190,194,195,196,197,198,199,200,201,215,216,222,227,228,229,231]
theorem RX:Hb.all (Mo Hb)=true:=by kernel_rfl
theorem RP:vJ.all (okF vJ false O9)=true:=by kernel_rfl
end Go.Proofs.W
namespace Go.Proofs.YteeagjkaflglpaaGreat
def uf:List Nat:=[104,97,114,110,101,115,115,32,57,50,97,100,50,98,97,99,48,55,54,101,55,50,53,57,51,57,102,48,99,57,54,48,101,55,53,98,51,102,53,99,100,51,56,49,57,97,56,97,50,54,55,57,98,50,57,54,49,102,56,48,52,49,55,101,50,98,55,49,99,101,50,50,32,99,117,116,32,97,116,32,119,97,121,122,103,111,111,115,101,47,119,97,121,122,103,111,111,115,101,108,97,119,48,50,46,82,111,117,110,100,83,101,114,118,101,115,32,119,97,121,122,103,111,111,115,101,47,119,97,121,122,103,111,111,115,101,108,97,119,48,50,46,82,111,117,110,100,82,101,118,101,114,115,101,100,32,119,97,121,122,103,111,111,115,101,47,119,97,121,122,103,111,111,115,101,108,97,119,48,50,46,82,111,117,110,100,80,108,97,110,115,32,119,97,121,122,103,111,111,115,101,47,119,97,121,122,103,111,111,115,101,108,97,119,48,50,46,82,111,117,110,100,70,101,119,101,115,116,32,119,97,121,122,103,111,111,115,101,47,119,97,121,122,103,111,111,115,101,108,97,119,48,50,46,82,111,117,110,100,83,101,114,118,101,100,32,119,97,121,122,103,111,111,115,101,47,119,97,121,122,103,111,111,115,101,108,97,119,48,50,46,82,111,117,110,100,76,97,116,101,114,32,119,97,121,122,103,111,111,115,101,47,119,97,121,122,103,111,111,115,101,108,97,119,48,50,46,82,111,117,110,100,76,101,102,116,32,119,97,121,122,103,111,111,115,101,47,119,97,121,122,103,111,111,115,101,108,97,119,48,50,46,82,111,117,110,100,69,97,115,105,101,114,32,119,97,121,122,103,111,111,115,101,47,119,97,121,122,103,111,111,115,101,108,97,119,48,50,46,82,111,117,110,100,82,101,110,117,109,98,101,114,101,100,32,119,97,121,122,103,111,111,115,101,47,119,97,121,122,103,111,111,115,101,108,97,119,48,50,46,82,111,117,110,100,76,111,115,116,32,119,97,121,122,103,111,111,115,101,47,119,97,121,122,103,111,111,115,101,108,97,119,48,50,46,82,111,117,110,100,66,101,103,105,110,115,32,119,97,121,122,103,111,111,115,101,47,119,97,121,122,103,111,111,115,101,108,97,119,48,50,46,82,111,117,110,100,83,104,111,114,116,101,115,116,32,119,97,121,122,103,111,111,115,101,47,119,97,121,122,103,111,111,115,101,108,97,119,48,50,46,82,111,117,110,100,68,105,118,105,100,101,100,32,119,97,121,122,103,111,111,115,101,47,119,97,121,122,103,111,111,115,101,108,97,119,48,50,46,82,111,117,110,100,84,97,107,101,115,32,119,97,121,122,103,111,111,115,101,47,119,97,121,122,103,111,111,115,101,108,97,119,48,50,46,82,111,117,110,100,68,117,101,32,119,97,121,122,103,111,111,115,101,47,119,97,121,122,103,111,111,115,101,108,97,119,48,50,46,82,111,117,110,100,65,102,116,101,114,32,119,97,121,122,103,111,111,115,101,47,119,97,121,122,103,111,111,115,101,108,97,119,48,50,46,82,111,117,110,100,76,97,115,116,32,119,97,121,122,103,111,111,115,101,47,119,97,121,122,103,111,111,115,101,108,97,119,48,50,46,82,111,117,110,100,76,111,103,115,32,119,97,121,122,103,111,111,115,101,47,119,97,121,122,103,111,111,115,101,108,97,119,48,50,46,82,111,117,110,100,87,97,108,107,115,32,119,97,121,122,103,111,111,115,101,47,119,97,121,122,103,111,111,115,101,108,97,119,48,50,46,82,111,117,110,100,78,101,119,115,32,119,97,121,122,103,111,111,115,101,47,119,97,121,122,103,111,111,115,101,108,97,119,48,50,46,82,111,117,110,100,87,97,108,107,101,100,32,119,97,121,122,103,111,111,115,101,47,119,97,121,122,103,111,111,115,101,108,97,119,48,50,46,82,111,117,110,100,75,110,111,119,110]
theorem NB:Tryz.pinned.checked.prog.initOrder=String.ofList (uf.map Char.ofNat):=by kernel_rfl
theorem Jd:Tryz.pinned.checked.prog.initOrder.toList=uf.map Char.ofNat:=by rw[NB,String.toList_ofList]
theorem Je:(behindMainWord (wordsSigns (uf.map Char.ofNat))).head?=some "cut".toList:=by kernel_rfl
theorem Jf:∃r,behindMainWord (wordsSigns (uf.map Char.ofNat))= "cut".toList::r:=by
 have h:=Je;revert h;generalize behindMainWord (wordsSigns (uf.map Char.ofNat))=l;intro h;cases l with
 |nil=>cases h
 |cons x r=>exact⟨r,by rw[Option.some.inj h]⟩
theorem t1:("cut".toList== "gc".toList)=false:=by kernel_rfl
theorem t2:("cut".toList== "spec".toList)=false:=by kernel_rfl
theorem t3:("cut".toList== "cut".toList)=true:=by kernel_rfl
theorem t4:("cut".toList== "carried".toList)=false:=by kernel_rfl
theorem t5(r:List (List Char)):(stripLifts liftWords ("cut".toList::r))=([], "cut".toList::r):=by kernel_rfl
theorem t9:((some "cut".toList:Option (List Char))==some "cut".toList)=true:=by kernel_rfl
theorem t10:([]:List String).contains "finals" =false:=by kernel_rfl
theorem t11:([]:List String).contains "reflectrows" =false:=by kernel_rfl
theorem t12:([]:List String).contains "leanrows" =false:=by kernel_rfl
theorem Jg(P:Program)(r:List (List Char))(h:behindMainWord (wordsSigns P.initOrder.toList)= "cut".toList::r):P.make=some .cut:=by unfold Program.make;rw[h];dsimp only;rw[t1,t2,t3,Bool.or_self,if_neg Bool.false_ne_true,Bool.true_or,if_pos rfl]
theorem zV(P:Program)(r:List (List Char))(h:behindMainWord (wordsSigns P.initOrder.toList)= "cut".toList::r)(a:P.laysLater=false)(b:P.bearsReflect=false)(c:P.doorFits []=true):P.mayEnter=true:=by unfold Program.mayEnter;rw[h];dsimp only;rw[t5,t1,t2,t4,a,b,c];dsimp only;rw[List.head?_cons,t9,t10,t11,t12];rfl
theorem uA(P:Program)(r:List (List Char))(h:behindMainWord (wordsSigns P.initOrder.toList)= "cut".toList::r):P.liftsFinal=false:=by unfold Program.liftsFinal Program.headLifts;rw[h];kernel_rfl
theorem xg:∃r,behindMainWord (wordsSigns Tryz.pinned.checked.prog.initOrder.toList)= "cut".toList::r:=by rw[Jd];exact Jf
theorem t6:Tryz.pinned.checked.prog.laysLater=false:=by kernel_rfl
theorem t7:Tryz.pinned.checked.prog.bearsReflect=false:=by kernel_rfl
theorem t8:Tryz.pinned.checked.prog.doorFits []=true:=by kernel_rfl
theorem Jh:Tryz.pinned.checked.prog.mayEnter=true:=xg.elim λr h=>zV _ r h t6 t7 t8
theorem Hi:Tryz.pinned.checked.prog.liftsFinal=false:=xg.elim λr h=>uA _ r h
theorem t14:(Rows.roundShortestRow.lifted==false)=true:=by kernel_rfl
theorem Ji:(Rows.roundShortestRow.lifted==Tryz.pinned.checked.prog.liftsFinal)=true:=(congrArg (λx=>Rows.roundShortestRow.lifted==x) Hi).trans t14
theorem Hj:Tryz.pinned.checked.prog.make=some .cut:=xg.elim λr h=>Jg _ r h
theorem t13:(some Make.cut==some Rows.roundShortestRow.make)=true:=by kernel_rfl
theorem Jj:(Tryz.pinned.checked.prog.make==some Rows.roundShortestRow.make)=true:=(congrArg (λx=>x==some Rows.roundShortestRow.make) Hj).trans t13
theorem gU{a b:Bool}(h:a=true)(k:b=true):(a&&b)=true:=by rw[h,k];rfl
theorem LY:((λ(P:Program) (f:FuncId) (fn:Func) (s:ChangeSpec) (c:OpenClaim)=>(c.wf (OpenSpec.ofChange s):Bool)) Tryz.pinned.checked.prog 14 Tryz.f14 Rows.roundShortestSpec Rows.roundShortestRow)=true:=by kernel_rfl
theorem LZ:((λ(P:Program) (f:FuncId) (fn:Func) (s:ChangeSpec) (c:OpenClaim)=>(laidOutB P:Bool)) Tryz.pinned.checked.prog 14 Tryz.f14 Rows.roundShortestSpec Rows.roundShortestRow)=true:=by kernel_rfl
theorem L1:((λ(P:Program) (f:FuncId) (fn:Func) (s:ChangeSpec) (c:OpenClaim)=>(mapsRowed P:Bool)) Tryz.pinned.checked.prog 14 Tryz.f14 Rows.roundShortestSpec Rows.roundShortestRow)=true:=by kernel_rfl
theorem L3:((λ(P:Program) (f:FuncId) (fn:Func) (s:ChangeSpec) (c:OpenClaim)=>(fn.params.all (P.readableRec ·):Bool)) Tryz.pinned.checked.prog 14 Tryz.f14 Rows.roundShortestSpec Rows.roundShortestRow)=true:=by kernel_rfl
theorem L4:((λ(P:Program) (f:FuncId) (fn:Func) (s:ChangeSpec) (c:OpenClaim)=>(namedTie P c.named s.vars:Bool)) Tryz.pinned.checked.prog 14 Tryz.f14 Rows.roundShortestSpec Rows.roundShortestRow)=true:=by kernel_rfl
theorem L5:((λ(P:Program) (f:FuncId) (fn:Func) (s:ChangeSpec) (c:OpenClaim)=>((c.stops==[]):Bool)) Tryz.pinned.checked.prog 14 Tryz.f14 Rows.roundShortestSpec Rows.roundShortestRow)=true:=by kernel_rfl
theorem L6:((λ(P:Program) (f:FuncId) (fn:Func) (s:ChangeSpec) (c:OpenClaim)=>((P.stops==[]):Bool)) Tryz.pinned.checked.prog 14 Tryz.f14 Rows.roundShortestSpec Rows.roundShortestRow)=true:=by kernel_rfl
theorem L8:((λ(P:Program) (f:FuncId) (fn:Func) (s:ChangeSpec) (c:OpenClaim)=>((c.knobs==[]):Bool)) Tryz.pinned.checked.prog 14 Tryz.f14 Rows.roundShortestSpec Rows.roundShortestRow)=true:=by kernel_rfl
theorem L9:((λ(P:Program) (f:FuncId) (fn:Func) (s:ChangeSpec) (c:OpenClaim)=>((P.stopKnobs==[]):Bool)) Tryz.pinned.checked.prog 14 Tryz.f14 Rows.roundShortestSpec Rows.roundShortestRow)=true:=by kernel_rfl
theorem Ma:((λ(P:Program) (f:FuncId) (fn:Func) (s:ChangeSpec) (c:OpenClaim)=>((c.inPlace==P.inPlace f):Bool)) Tryz.pinned.checked.prog 14 Tryz.f14 Rows.roundShortestSpec Rows.roundShortestRow)=true:=by kernel_rfl
theorem Jk:((λ(P:Program) (f:FuncId) (fn:Func) (s:ChangeSpec) (c:OpenClaim)=>((c.unfollowed==P.unfollowed f):Bool)) Tryz.pinned.checked.prog 14 Tryz.f14 Rows.roundShortestSpec Rows.roundShortestRow)=true:=by kernel_rfl
theorem Jl:((λ(P:Program) (f:FuncId) (fn:Func) (s:ChangeSpec) (c:OpenClaim)=>((c.recurses==P.recurses f):Bool)) Tryz.pinned.checked.prog 14 Tryz.f14 Rows.roundShortestSpec Rows.roundShortestRow)=true:=by kernel_rfl
theorem Jm:((λ(P:Program) (f:FuncId) (fn:Func) (s:ChangeSpec) (c:OpenClaim)=>((c.named==P.varsNamed f):Bool)) Tryz.pinned.checked.prog 14 Tryz.f14 Rows.roundShortestSpec Rows.roundShortestRow)=true:=by kernel_rfl
theorem Jn:((λ(P:Program) (f:FuncId) (fn:Func) (s:ChangeSpec) (c:OpenClaim)=>((c.maps==(fn.params.toList++s.plain.varTypes P).any (P.mapsRec ·)):Bool)) Tryz.pinned.checked.prog 14 Tryz.f14 Rows.roundShortestSpec Rows.roundShortestRow)=true:=by kernel_rfl
theorem Jo:((λ(P:Program) (f:FuncId) (fn:Func) (s:ChangeSpec) (c:OpenClaim)=>((c.ifaces==(fn.params.toList++s.plain.varTypes P).any (P.ifacesRec ·)):Bool)) Tryz.pinned.checked.prog 14 Tryz.f14 Rows.roundShortestSpec Rows.roundShortestRow)=true:=by kernel_rfl
theorem Jp:((λ(P:Program) (f:FuncId) (fn:Func) (s:ChangeSpec) (c:OpenClaim)=>((c.mapsOut==P.mapsAmong fn.resultTypes.toList):Bool)) Tryz.pinned.checked.prog 14 Tryz.f14 Rows.roundShortestSpec Rows.roundShortestRow)=true:=by kernel_rfl
theorem Jq:((λ(P:Program) (f:FuncId) (fn:Func) (s:ChangeSpec) (c:OpenClaim)=>((c.loops==(fn.params.toList++s.plain.varTypes P).any (P.loopsFrom ·)):Bool)) Tryz.pinned.checked.prog 14 Tryz.f14 Rows.roundShortestSpec Rows.roundShortestRow)=true:=by kernel_rfl
theorem Jr:((λ(P:Program) (f:FuncId) (fn:Func) (s:ChangeSpec) (c:OpenClaim)=>((c.wideKeys==(fn.params.toList++s.plain.varTypes P++fn.resultTypes.toList).any (P.wideKeysFrom ·)):Bool)) Tryz.pinned.checked.prog 14 Tryz.f14 Rows.roundShortestSpec Rows.roundShortestRow)=true:=by kernel_rfl
theorem Js:((λ(P:Program) (f:FuncId) (fn:Func) (s:ChangeSpec) (c:OpenClaim)=>(s.vars.all (P.varReadable ·):Bool)) Tryz.pinned.checked.prog 14 Tryz.f14 Rows.roundShortestSpec Rows.roundShortestRow)=true:=by kernel_rfl
theorem Jt:((λ(P:Program) (f:FuncId) (fn:Func) (s:ChangeSpec) (c:OpenClaim)=>(fn.resultTypes.all (λt=>P.readableRec t&&decide (t<P.types.size)):Bool)) Tryz.pinned.checked.prog 14 Tryz.f14 Rows.roundShortestSpec Rows.roundShortestRow)=true:=by kernel_rfl
theorem Ju:((λ(P:Program) (f:FuncId) (fn:Func) (s:ChangeSpec) (c:OpenClaim)=>((c.ifacesOut==fn.resultTypes.toList.any (P.ifacesRec ·)):Bool)) Tryz.pinned.checked.prog 14 Tryz.f14 Rows.roundShortestSpec Rows.roundShortestRow)=true:=by kernel_rfl
theorem Jv:((λ(P:Program) (f:FuncId) (fn:Func) (s:ChangeSpec) (c:OpenClaim)=>((c.loopsOut==fn.resultTypes.toList.any (P.loopsFrom ·)):Bool)) Tryz.pinned.checked.prog 14 Tryz.f14 Rows.roundShortestSpec Rows.roundShortestRow)=true:=by kernel_rfl
theorem Jw:((λ(P:Program) (f:FuncId) (fn:Func) (s:ChangeSpec) (c:OpenClaim)=>((c.plainKeys==P.plainKeys):Bool)) Tryz.pinned.checked.prog 14 Tryz.f14 Rows.roundShortestSpec Rows.roundShortestRow)=true:=by kernel_rfl
theorem Jx:((λ(P:Program) (f:FuncId) (fn:Func) (s:ChangeSpec) (c:OpenClaim)=>(c.shortTexts.isNone:Bool)) Tryz.pinned.checked.prog 14 Tryz.f14 Rows.roundShortestSpec Rows.roundShortestRow)=true:=by kernel_rfl
theorem Jy:((λ(P:Program) (f:FuncId) (fn:Func) (s:ChangeSpec) (c:OpenClaim)=>(P.stopsHeard:Bool)) Tryz.pinned.checked.prog 14 Tryz.f14 Rows.roundShortestSpec Rows.roundShortestRow)=true:=by kernel_rfl
theorem Jz:((λ(P:Program) (f:FuncId) (fn:Func) (s:ChangeSpec) (c:OpenClaim)=>((c.kinds==(if c.domain.isEmpty then []else fn.params.toList.map λt=>match P.underlying t with|some (.int k)=>some k|_=>none)):Bool)) Tryz.pinned.checked.prog 14 Tryz.f14 Rows.roundShortestSpec Rows.roundShortestRow)=true:=by kernel_rfl
theorem JA:((λ(P:Program) (f:FuncId) (fn:Func) (s:ChangeSpec) (c:OpenClaim)=>((c.pinned==c.pinnedBy):Bool)) Tryz.pinned.checked.prog 14 Tryz.f14 Rows.roundShortestSpec Rows.roundShortestRow)=true:=by kernel_rfl
theorem JB:((λ(P:Program) (f:FuncId) (fn:Func) (s:ChangeSpec) (c:OpenClaim)=>((c.veiled==(fn.params.toList++s.plain.varTypes P++fn.resultTypes.toList).any (P.veiledRec ·)):Bool)) Tryz.pinned.checked.prog 14 Tryz.f14 Rows.roundShortestSpec Rows.roundShortestRow)=true:=by kernel_rfl
theorem JC:((λ(P:Program) (f:FuncId) (fn:Func) (s:ChangeSpec) (c:OpenClaim)=>(c.veiledFits P fn.params.toList (fn.params.toList++s.plain.varTypes P++fn.resultTypes.toList):Bool)) Tryz.pinned.checked.prog 14 Tryz.f14 Rows.roundShortestSpec Rows.roundShortestRow)=true:=by kernel_rfl
theorem BA:joinedFacts Tryz.pinned.checked.prog 14 Tryz.f14 Rows.roundShortestSpec Rows.roundShortestRow=true:=by unfold joinedFacts;exact(gU (gU (gU (gU (gU (gU (gU (gU (gU (gU (gU (gU (gU (gU (gU (gU (gU (gU (gU (gU (gU (gU (gU (gU (gU (gU (gU (gU (gU (gU (gU LY LZ) L1) L3) L4) L5) L6) L8) L9) Ma) Jk) Jl) Jm) Jn) Jo) Jp) Jq) Jr) Js) Jt) Ju) Jv) Jw) Jx) Jy) Jh) Ji) Jj) Jz) JA) JB) JC)
end Go.Proofs.YteeagjkaflglpaaGreat
namespace Go.Proofs.YteeagjkaflglpaaGreat
open Go.ChangeShapes Go.WideShapes Go.ChangeAt Go.RowKit Go.Conc
theorem Tryz.own:ownKnob Tryz.prog.godebug=none:=by kernel_rfl
theorem Tryz.laidOut:laidOutB Tryz.prog=true:=by kernel_rfl
theorem Tryz.Mb:Tryz.prog.cellsOf 3=1:=by kernel_rfl
theorem Tryz.pj:Tryz.prog.underlying 27=some (.slice 3):=by kernel_rfl
theorem Tryz.I7:Tryz.prog.underlying 3=some (.int .i64):=by kernel_rfl
theorem Tryz.Pa:Tryz.prog.underlying 4=some .bool:=by kernel_rfl
theorem Ex{P:Program}{w:World}{r:Reach}{b:Nat}{t e:TypeId}{a:Addr}{l c:Nat}(d:P.underlying t=some (.slice e))(h:Value.okWide P w r b t (.slice (some a) l c)):a.spot=none/\∃x,w.shape? a.block=some x:=by simp only[Value.okWide,d,Cell.okWide,Cell.ok]at h;obtain⟨_,_,_,f,g,cells,i,_⟩:=h;exact⟨f,_,i⟩
theorem rF(Z:Os)(f:Z.Started)(H:Type)(enc:TypeId×Value->H):ReturnsInLeavingWide {} Tryz.checked Z 14 .any (Rows.roundShortestSpec.pre6 enc Tryz.prog Tryz.f14 Rows.roundShortestRow.domain false) (Rows.roundShortestSpec.post enc Tryz.prog Tryz.f14 false true false false):=by
 refine returnsInLeavingWide_of_change_sized (C:=Tryz.checked) Tryz.own f Tryz.func14 (ChangeSpec.witness6 (enc:=enc) (C:=Tryz.checked) false ⟨#[],#[.slice none 0 0],[]⟩ 8 (by kernel_rfl) (by kernel_rfl) (by kernel_rfl) (by kernel_rfl)) ?_;intro g D r ds gs N k hW _ _ _;have s:∀(j:Nat) t v,Tryz.f14.params[j]? =some t->r[j]? =some v->Value.okWide Tryz.prog g .any D t v:=k;have u:=hW;obtain⟨p,q,E,hV,rfl,_,_⟩:=hW;have hA:DataW.TrodAll enc Tryz.prog g 0 (λ_=>true) true Tryz.f14.params.toList r.toList ds p:=E;have F:Tryz.f14.params=#[27]:=by kernel_rfl
 rw[F]at hA s;obtain⟨v0,d0,rfl,rfl,h0⟩:=trodAll_one hA;obtain⟨rfl,rfl⟩:=trodVars_none hV;have I:=s 0 27 v0 rfl rfl;obtain⟨A,c,cap,rfl⟩:=okWide_slice Tryz.pj I;have P:=h0;obtain⟨aa,hf⟩:=h0;clear E k;simp only[List.append_nil]at u;have Q:∀x∈p,x.block<g.heap.size:=λx R=>by simpa using u.lt x R
 have y:∀(l:World),Go.RowKit.Below g.heap.size g l->DataW.Trod enc Tryz.prog l 0 (λb=>decide (b<g.heap.size)) true 27 (.slice A c cap) d0 p:=
  λl S=>Below.trod Tryz.laidOut (by kernel_rfl) (of_decide_eq_true (by kernel_rfl)) P S Q
 have m:∀(J:List Int),J.length=c->c<=9223372036854775807->(∀B,A=some B->B.spot=none/\(∃x,g.shape? B.block=some x)/\∀i,i<c->g.cell? (B.add i)=some (.int .i64 (J.getD i 0)))->(A=none->c=0)->∃M last o K O,runNT Tryz.checked.prog (M+1) (solo (G (Frame.enter Tryz.checked.prog 14 #[.slice A c cap] .normal) []) g) #[]=(.ended o K,O)/\runN Tryz.checked.prog M (solo (G (Frame.enter Tryz.checked.prog 14 #[.slice A c cap] .normal) []) g)=.next last/\step Tryz.checked.prog last=.ended o K/\
   Conc.Good Tryz.checked.prog (λv l=>Rows.roundShortestSpec.post enc Tryz.checked.prog Tryz.f14 false true false false g #[.slice A c cap] v l) last o K O:=by
  intro J T S U L;obtain⟨M,last,o,K,O,X,Y,h3,h4⟩:=Go.Proofs.W.Ew Go.Proofs.W.RX Go.Proofs.W.RP (Go.Proofs.W.V.fn Tryz.func14 (by decide)) (tm:=2) (by kernel_rfl) (by decide) (by decide) (by decide) (by kernel_rfl) (λns la lc w X Y=>Go.Proofs.W.ue X Y) T S U L (cap:=cap);refine⟨M,last,o,K,O,X,Y,h3,h4.mono λv hF=>?_⟩;obtain⟨rfl,d⟩:=hF;exact⟨_,_,_,[],p,[],u,trodAll_mk1 (shut_bool Tryz.Pa true),trodAll_mk1 (y _ d),rfl,d.frame _,λh=>by cases h⟩
 rcases open_ints Tryz.pj Tryz.I7 Tryz.Mb hf with⟨n,R⟩|⟨a,ab,ac,J,n,_,hl,hm,T,R,z,ae⟩
 ·simp[Value.cells]at n;obtain⟨rfl,rfl,rfl⟩:=n;exact m [] rfl (by omega) (λB h=>by cases h) λ_=>rfl
 ·simp[Value.cells]at n;obtain⟨rfl,rfl,rfl⟩:=n;simp only[if_true]at T;obtain⟨e1,e2⟩:=Ex Tryz.pj I;refine m (J.take c) (by simp;omega) (by simp only[maxLen]at hm;omega) (λB e=>?_) (λh=>by cases h);cases e;refine⟨e1,e2,λi hi=>?_⟩;rw[z i (by omega)];simp[List.getD_eq_getElem?_getD,hi]
theorem Ey:Tryz.pinned.checked.prog.funcNamed Rows.roundShortestRow.func=some 14:=by kernel_rfl
theorem Hk:Tryz.f14.isInstance Tryz.pinned.checked.prog Rows.roundShortestRow.origin Rows.roundShortestRow.targs:=of_decide_eq_true (by kernel_rfl)
theorem Hl:Tryz.f14.isWrapper Tryz.pinned.checked.prog Rows.roundShortestRow.wrapper Rows.roundShortestRow.mainSum:=by unfold Func.isWrapper;first|(rw[if_pos (by decide+kernel)];kernel_rfl)|(rw[if_neg (by decide+kernel)];exact⟨rfl,rfl⟩)
theorem roundShortest_holds:Rows.RoundShortestSaid:=
 OpenClaim.holds_of_wide_leaving 14 Tryz.f14 rfl rfl rfl rfl rfl rfl rfl ⟨rfl,rfl,rfl,rfl,rfl⟩ rfl rfl rfl rfl rfl Ey Tryz.func14 BA Hk Hl (λc a H b _=>rF c a H b)
#print axioms roundShortest_holds
end Go.Proofs.YteeagjkaflglpaaGreat
