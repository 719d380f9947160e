/- RoundLater holds: from a later shift on no fewer canvassers are enough, and a door that is lost stays lost, for every list of numbers. Conditions: none. -/
import Derived.Conc.CrowdTrace
import Derived.Below
import Derived.Conc.LeavingOf
import Derived.Carry
import Derived.ChangeSlices
import Derived.WideShapes
import Derived.Test.YteeagjkaflglpaaGreatRows
import Derived.JoinedOf
import Derived.KernelRfl
import Derived.Test.YteeagjkaflglpaaGreatX25
set_option maxRecDepth 100000
set_option maxHeartbeats 8000000
set_option linter.all false
namespace Go.Proofs.W
open Go.Conc Go.cF Go.RowKit
noncomputable def OC(L:List Nat)(f:Nat):Bool:=f==163||okF L false (λ_=>false) f
noncomputable def OD(L:List Nat)(B:Nat->Prop)(sh:Nat->Option Nat):cR where
 S:=λg=>L.contains g
 dim:=false
 ok:=λf=>gh V.prog (λg=>L.contains g) false false
 df:=λ_=>false
 fs:=PR.funcs
 hole:=λf=>f==163
 sh:=sh
 r:=λb c=>b=c/\B b
 inj₁:=λ_ _ _ h a=>h.1.symm.trans a.1
 inj₂:=λ_ _ _ h a=>h.1.trans a.1.symm
def Dx{L:List Nat}(h:L.all (OC L)=true)(f:Nat)(b:L.contains f=true)(a:f≠163):
 ∃fn c,V.prog.funcs[f]? =some fn/\fn.body=some c/\gh V.prog (λg=>L.contains g) false false c=true/\(fn.name== "runtime.NumGoroutine")=false:=by
 have:=jF.1 h f (by simpa using b);unfold OC at this;rw[show(f==163)=false by simpa using a,Bool.false_or]at this;unfold okF at this;split at this;rename_i fn d;split at this;rename_i c e;simp only[ez,yu]at this;exact⟨fn,c,d,e,this.1,this.2⟩;cases this;cases this
def QV:(V.f163.name== "runtime.NumGoroutine")=false:=by kernel_rfl
def OE:(Tryz.f163.name== "runtime.NumGoroutine")=false:=by kernel_rfl
def OF:∃c,Tryz.f163.body=some c:=⟨_,yX⟩
def Lq{L:List Nat}{B:Nat->Prop}{sh:Nat->Option Nat}(h:L.all (OC L)=true):Go.cF.Good V.prog (OD L B sh):=by
 refine⟨⟨V.zero,λf a=>?_,V.EI,Bv _,V.bad⟩,rfl,λf a j=>?_,⟨λf a=>?_⟩,λ⟨f,a⟩=>by cases a⟩;by_cases e:f=163;subst e;exact⟨V.f163,V.xX,V.func163,QV,rfl⟩;obtain⟨d,c,b,g,_,i⟩:=Dx h f a e;exact⟨d,c,b,i,g⟩;have e:f≠163:=λe=>by subst e;cases j
 obtain⟨d,c,b,g,k,_⟩:=Dx h f a e;exact⟨d,c,b,g,k⟩;by_cases e:f=163;subst e;obtain⟨c,l⟩:=OF;exact⟨Tryz.f163,c,Tryz.func163,OE,l,λh=>by cases h⟩;obtain⟨d,c,b,g,_,i⟩:=Dx h f a e;exact⟨d,c,(V.xY f e).symm.trans b,i,g,λ_=>b⟩
noncomputable def Ig(L:List Nat)(df:Nat->Bool)(B:Nat->Prop)(sh:Nat->Option Nat):cR where
 S:=λg=>L.contains g
 dim:=false
 ok:=λf=>gh V.prog (λg=>L.contains g) false (df f)
 df:=df
 fs:=V.prog.funcs
 hole:=λ_=>false
 sh:=sh
 r:=λb c=>b=c/\B b
 inj₁:=λ_ _ _ h a=>h.1.symm.trans a.1
 inj₂:=λ_ _ _ h a=>h.1.trans a.1.symm
def OG{P:cf}{ρ:cR}(a:ρ.fs=P.funcs)(h:∀f,ρ.S f=true->∃fn c,P.funcs[f]? =some fn/\(fn.name== "runtime.NumGoroutine")=false/\fn.body=some c):Rj P ρ:=⟨λf d=>by obtain⟨fn,c,b,e,g⟩:=h f d;exact⟨fn,c,by rw[a];exact b,e,g,λ_=>b⟩⟩
def Lr{L:List Nat}{g:Nat->Bool}{B:Nat->Prop}{sh:Nat->Option Nat}(h:L.all (okF L false g)=true):Go.cF.Good V.prog (Ig L g B sh):=by refine⟨V.fit h,rfl,λf a _=>?_,OG (by unfold Ig;dsimp only) λf a=>?_,λ_ _=>rfl⟩;obtain⟨b,c,d,e,i,_⟩:=uz h f a;exact⟨b,c,d,e,i⟩;obtain⟨b,c,d,e,_,j⟩:=uz h f a;exact⟨b,c,d,j,e⟩
def runNT_then{Q:cf}{N K:Nat}{m b:Machine}{t c:Trace}(h:runNT Q N m t=(.next b,c)):runNT Q (N+K) m t=runNT Q K b c:=by
 induction N generalizing m t with
 |zero=>
  simp only[runNT]at h;injection h with a d;injection a with a;subst a d;rw[cB]
 |succ N e=>
  rw[show N+1+K=(N+K)+1 from by omega];simp only[runNT]at h⊢;cases f:stepT Q m with
  |mk s g=>
   rw[f]at h;cases s with
   |next i=>exact e h
   |ended o w=>simp only at h;injection h with a d;cases a
def Jz(e:Ending)(w':cd):Prop:=e=.returned (.bool true)\/(e=.panicked iL/\R2 w')
theorem Gm{L LI:List Nat}{T1:Nat->Bool}(hL:L.all (OC L)=true)(ZC:LI.all (okF LI false T1)=true){f:FuncId}{fn:Func}{tm:Tmp}(hf:V.prog.funcs[f]? =some fn)(ZD:fn.results=#[.tmp tm])(R8:f≠163)(ZF:L.contains f=true)(ZG:LI.contains f=true) (ZH:PR.inits.idxOf? f=none){args xs:Array Value}{W v:World}{B:Nat->Prop}{sh:Nat->Option Nat} (hrel:∀b,B b->∃o o',v.heap[b]? =some o/\W.heap[b]? =some o'/\GJ (OD L B sh) (sh b) o o'/\GJ (Ig LI T1 B sh) (sh b) o o'/\wN v b)(U3:∀c,W.heap.size<=c->sh c=none)(ZI:eT (OD L B sh) xs args)(ZJ:eT (Ig LI T1 B sh) xs args) (hC:∀T:Ta,Go.cF.Below v T->Calls V.prog f xs (cI v T) Jz):∃N last o w' t',runNT PR (N+1) (solo (G (Frame.enter PR f args .normal) []) W) #[]=(.ended o w',t')/\runN PR N (solo (G (Frame.enter PR f args .normal) []) W)=.next last/\Go.step PR last=.ended o w'/\
  Go.Conc.Good PR (λx w'=>x=.bool true/\Go.RowKit.Below W.heap.size W w') last o w' t':=by
 have Yi:Go.cF.Good V.prog (OD L B sh):=Lq hL;have Yj:Go.cF.Good V.prog (Ig LI T1 B sh):=Lr ZC;have ev:(V.prog.ir PR.funcs)=PR:=PZ;have hinv:Inv V.prog ⟨Frame.enter V.prog f xs .normal,[floor],v⟩:=by
  have h:Inv V.prog ⟨Frame.enter V.prog f xs .normal,[floor],cI v (qq v W)⟩:=
   ⟨Ig LI T1 B sh,W,G (Frame.enter (V.prog.ir (Ig LI T1 B sh).fs) f args .normal) [],Yj,λ_=>rfl,WR.qq ⟨λb c hr=>by obtain⟨rfl,hb⟩:=hr;obtain⟨o,o',h1,h2,_,h3,_⟩:=hrel b hb;exact⟨o,o',h1,h2,h3⟩,U3⟩,rX Yj ZG ZJ .normal (.inl rfl),⟨[],[],rfl,rfl,.nil⟩,⟨rfl,rfl⟩,⟨rfl,rfl⟩,⟨rfl,rfl⟩⟩
  exact h.cI v.tape
 have TD:Go.cF.Reach V.prog (sZ f (λx _=>x=.bool true)) ⟨Frame.enter V.prog f xs .normal,[floor],v⟩:=by
  refine qS sZ.callers (λc T hi hs=>?_) hinv λT hT=>?_
  ·rcases hs with hs|⟨h1,h2,h3,h4,h5⟩
   ·exact .inl (Go.cF.Left.cI (λx w T h=>h) c T hi hs)
   ·exact .inr ⟨h1,h2,h3,h4,h5.cI T⟩
  ·obtain⟨e,w',fr,hp,hs,TR,hl⟩:=hC T hT [floor];rcases hp with rfl|⟨rfl,hp⟩
   ·obtain⟨n,hn⟩:=hs;exact⟨n,fr,[floor],w',hn,.inl ⟨rfl,TR,_,rfl,hl⟩⟩
   ·obtain⟨n,hn⟩:=hs;exact⟨n,fr,[floor],w',hn,.inr ⟨rfl,TR,hl.1,hl.2.1,hp⟩⟩
 have hI:Eb V.prog PR.funcs W (OD L B sh) (λ_=>False) ⟨Frame.enter V.prog f xs .normal,[floor],v⟩ #[G (Frame.enter (V.prog.ir PR.funcs) f args .normal) []] (G (Frame.enter (V.prog.ir PR.funcs) f args .normal) []) W #[] (λ_=>0):=by
  refine⟨hinv,Yi,rfl,rfl,⟨rX Yi ZF ZI .normal (.inl rfl),⟨[],[],rfl,rfl,.nil⟩,⟨rfl,rfl⟩,⟨rfl,rfl⟩,⟨rfl,rfl⟩⟩,⟨λb c hr=>?_,U3⟩,⟨λi g hi hg=>?_,λj _=>Go.ConcN.Deaf_absent (by simp)⟩,?_,λb h=>h.elim,λ_ _ _ h=>h,λb c hr hc=>?_,Nat.le_refl _,λ_ _=>rfl,⟨rfl,rfl,rfl⟩,⟨λg hg=>?_,rfl,λ⟨g,hg⟩=>by cases hg⟩⟩
  ·obtain⟨rfl,hb⟩:=hr;obtain⟨o,o',h1,h2,h3,_,_⟩:=hrel b hb;exact⟨o,o',h1,h2,h3⟩
  ·have:i<1:=(Array.getElem?_eq_some_iff.1 hg).1;omega
  ·have h:=past_nil;exact⟨h.clean,λi a ha hm=>by simp[touchAt,Trace.act?]at ha,h.over,h.hears,λop Uf=>by simp at Uf⟩
  ·obtain⟨rfl,hb⟩:=hr;obtain⟨_,_,_,_,_,_,h⟩:=hrel b hb;exact h
  ·have e:g=163:=by
    have:(g==163)=true:=hg;simpa using this
   subst e;rw[V.func163,show PR.funcs[163]? =some Tryz.f163 from Tryz.func163];intro e;have:=congrArg Func.ntmps (Option.some.inj e);rw[Tryz.ntmps163]at this;cases this
 obtain⟨N,um,w',un,t',q',c',mV,X',a',r1,r2,r3,_⟩:=lead (fs:=PR.funcs) sZ.callers (Qy Lc R8 W) _ TD _ _ _ _ _ none _ _ hI
 have ZK:Go.cF.Left V.prog f (λx _=>x=.bool true) c'.fr c'.cl c'.v:=by
  rcases r3 with h|⟨h1,h2,h3,h4,h5⟩
  ·exact h
  ·exfalso;have GT:dC V.prog mV c'.fr a'.frame:=by
    have yH:=r2.gor.fr;generalize GT:(G c'.fr c'.cl).frame=fr at yH;generalize JS:a'.frame=oQ at yH;cases yH with
    |fr hf=>subst GT;exact hf
    | @hole g hS hh xs xs' hx=>
     have:c'.fr=Frame.enter V.prog g xs .normal:=GT;rw[this]at h3;cases h3
   have hm:=GT.mode;rw[h3]at hm;generalize a'.frame.mode=m at hm;cases hm with
   |panicking hc=>
    unfold iL at hc;cases hc with
    |cons hp _=>
     rcases hp.ok with h|h
     ·exact r2.holes.2.2 h
     ·exact h 3 _ _ rfl
 have ZL:mV.hole f=false:=by
  cases h:mV.hole f with
  |false=>rfl
  |true=>
   exfalso;exact r2.holes.1 f h (V.xY f R8)
 obtain⟨M,last,o,w2,t2,s1,s2,s3,s4⟩:=r2.ends (sl:=un) ZK hf ZD ZL (by rw[ev];exact ZH) (Post:=λx w'=>x=.bool true/\Go.RowKit.Below W.heap.size W w') λx x' d hx hv=>by subst hx;cases hv;exact⟨rfl,r2.world.2.1,r2.world.1,r2.world.2.2,r2.grown,λb hb=>r2.kept b hb⟩
 rw[ev]at r1 s1 s2 s3 s4;have CO:runNT PR (N+(M+1)) (solo (G (Frame.enter PR f args .normal) []) W) #[]=(.ended o w2,t2):=(runNT_then r1).trans s1;refine⟨N+M,last,o,w2,t2,CO,?_,s3,s4⟩;have h1:runNT PR (N+M) (solo (G (Frame.enter PR f args .normal) []) W) #[]=runNT PR M (crowd um w' un) t':=runNT_then r1;have h2:=runNT_fst PR (N+M) (solo (G (Frame.enter PR f args .normal) []) W) #[];rw[h1,runNT_fst,s2]at h2;exact h2.symm
def U4:List Nat:=[4,26,27,28,30,35,38,42,43,44,45,48,53,55,58,59,60,69,71,95,96,97,104,105,106,107,108,109,113,114,115,116,117,119,120,121,122,123,125,128,129,130,131,133,134,135,137,144,146,153,154,155,156,157,158,159,160,161,162,163,164,165,166,167,168,169,170,171,172,173,174,175,176,178,179,180,184,185,186,195,196,197,198,199,200,201,222,231]
def R9:List Nat:=[4,26,27,28,30,35,38,42,43,44,45,48,53,55,58,59,60,69,71,95,96,97,104,105,106,107,108,109,113,114,115,116,117,119,120,121,122,123,125,128,129,130,131,133,134,135,136,137,144,146,153,154,155,156,157,158,159,160,161,162,163,164,165,166,167,168,169,170,171,172,173,174,175,176,178,179,180,184,185,186,190,194,195,196,197,198,199,200,201,215,216,222,227,228,229,231]
def Ls(f:Nat):Bool:=f==190||f==163
def TG:U4.all (OC U4)=true:=by kernel_rfl
def QX:R9.all (okF R9 false Ls)=true:=by kernel_rfl
def OH(b a:Nat)(c:Nat):Option Nat:=if c=b then some a else none
def mK{L H:List Nat}{I:Nat->Bool}(U:L.all (OC L)=true)(q:H.all (okF H false I)=true){f:cm}{fn:Func}{tm:Tmp}(X:V.prog.funcs[f]? =some fn)(s:fn.results=#[.tmp tm])(l:f≠163)(u:L.contains f=true)(z:H.contains f=true)
 (A:PR.inits.idxOf? f=none)(hC:∀(ns:List Int) (la:Option Addr) (lc:Nat) (w:cd),ja w la ns->ns.length<=9223372036854775807->Calls V.prog f #[.slice la ns.length lc] w (qa λv w'=>v=.bool true/\Ext w w'))
 {W:cd}{a:Option Addr}{d cap:Nat}{zs:List Int}(g:zs.length=d)(Y:d<=9223372036854775807)(ha:∀ad,a=some ad->ad.spot=none/\(∃x,W.shape? ad.block=some x)/\∀i,i<d->W.cell? (ad.add i)=some (.int .i64 (zs.getD i 0)))(hn:a=none->d=0):∃N last o w' Z,runNT PR (N+1) (solo (G (Frame.enter PR f #[.slice a d cap] .normal) []) W) #[]=(.ended o w',Z)/\runN PR N (solo (G (Frame.enter PR f #[.slice a d cap] .normal) []) W)=.next last/\Go.step PR last=.ended o w'/\Go.Conc.Good PR (λx w'=>x=.bool true/\Go.RowKit.Below W.heap.size W w') last o w' Z:=by
 have m:∀{ns:List Int} {la:Option Addr} {w:cd},ja w la ns->ns.length<=9223372036854775807->Calls V.prog f #[.slice la ns.length cap] w Jz:=λJ Y=>(hC _ _ _ _ J Y).mono λe w' h=>by rcases h with⟨v,rfl,rfl,_⟩|h;exact .inl rfl;exact .inr h
 cases a with
 |none=>
  obtain rfl:=hn rfl;have hz:zs=[]:=l9 g;refine Gm (v:=W) (B:=λ_=>False) (sh:=λ_=>none) U q X s l u z A (λb h=>h.elim) (λ_ _=>rfl) (xs:=#[.slice none 0 cap]) (eT.one (.fc _ _)) (eT.one (.fc _ _)) λT hT=>?_;exact m (ns:=[]) (la:=none) (λk K=>by simp at K) (by simp)
 |some ad=>
  obtain⟨b,j,aa⟩:=ad;obtain⟨rfl,⟨x,C⟩,hc⟩:=ha _ rfl;obtain⟨F,t,M,O⟩:∃F t M,W.heap[b]? =some (.cells F t M):=by simp only[World.shape?]at C;split at C;rename_i c e f h;exact⟨c,e,f,h⟩;cases C
  have hb:=lt_of_heap O;have P:({W with heap:=W.heap.setIfInBounds b (.cells (zs.map (Value.int .i64)).toArray qO (0,d))}:cd).heap[b]? =some (.cells (zs.map (Value.int .i64)).toArray qO (0,d)):=by simp[hb]
  have n:∀ρ:cR,T5 ρ j (.cells (zs.map (Value.int .i64)).toArray qO (0,d)) (.cells F t M):=λρ=>by
   refine⟨_,_,_,_,_,rfl,rfl,λo Q=>⟨fN _,by simpa[g]using Q⟩,λi y R=>?_⟩;have hi:i<zs.length:=by have:=(eP.1 R).1;simpa using this
   have S:y=.int .i64 zs[i]:=by simp[ew hi]at R;exact R.symm
   have h:=hc i (by omega);rw[fL]at h;simp only[World.cell?,O]at h;refine⟨.int .i64 zs[i],?_,by rw[S];exact .int _ _⟩;rw[Nat.add_comm];rw[getD_eq hi]at h;simpa using h
  have p:OH b j b=some j:=by simp[OH]
  have D:∀ρ:cR,ρ.r b b->ρ.sh=OH b j->eT ρ #[.slice (some ⟨b,0,none⟩) d cap] #[.slice (some ⟨b,j,none⟩) d cap]:=λρ J hs=>by refine eT.one (.slice _ _ ?_);have h:=AR.mk (ρ:=ρ) 0 none J;rw[hs,p]at h;simpa using h
  refine Gm (v:={W with heap:=W.heap.setIfInBounds b (.cells (zs.map (Value.int .i64)).toArray qO (0,d))}) (B:=λx=>x=b) (sh:=OH b j) U q X s l u z A (λx C=>?_) (λc hc=>?_) (xs:=#[.slice (some ⟨b,0,none⟩) d cap]) (D _ ⟨rfl,rfl⟩ rfl) (D _ ⟨rfl,rfl⟩ rfl) λT hT=>?_;subst C;refine⟨_,_,P,O,?_,?_,?_⟩;rw[p];exact .inr ⟨_,rfl,n _⟩;rw[p];exact .inr ⟨_,rfl,n _⟩;exact⟨_,_,_,P,λo Q=>⟨fN _,by simpa[g]using Q⟩⟩;unfold OH;rw[cr (by omega)];have E:ja (cI {W with heap:=W.heap.setIfInBounds b (.cells (zs.map (Value.int .i64)).toArray qO (0,d))} T) (some ⟨b,0,none⟩) zs:=λk K=>⟨b,0,rfl,by show(match({W with heap:=W.heap.setIfInBounds b (.cells (zs.map (Value.int .i64)).toArray qO (0,d))}:cd).heap[b]? with|some (.cells F _ _)=>_|_=>_)=_;rw[P];simp[ew K]⟩;have h:=m E (by omega);rw[g]at h;exact h
end Go.Proofs.W
namespace Go.Proofs.YteeagjkaflglpaaGreat
open Go.ChangeShapes Go.WideShapes Go.ChangeAt Go.RowKit Go.Conc
def gJ:List Nat:=(List.range 883).map λi=>0x1bbbefdd2f26eebbe92e64c3be1d9979efdf9fd79c3dd7e5e7bf7e7f5e70f741932ebd986be4ddd77d25cc9877c3b32f3dfbf3faf387bafcbcf7efcfebce1ee839f7cb3b26eebbe92e64c3be1d9979efdf9fd79c3dd7e5e7bf7e7f5e70f741cf5ecc35f26eebbe92e64c3be1d9979efdf9fd79c3dd7e5e7bf7e7f5e70f741cf3ef9993775df4973261df0eccbcf7efcfebce1eebf2f3dfbf3faf387ba0e9cf0ccc9bbaefa4b9930ef87665e7bf7e7f5e70f75f979efdf9fd79c3dd072cbd3341c9bbaefa4b9930ef87665e7bf7e7f5e70f75f979efdf9fd79c3dd065eb1326eebbe92e64c3be1d9979efdf9fd79c3dd7e5e7bf7e7f5e70f741cf2ebc35326eebbe92e64c3be1d9979efdf9fd79c3dd7e5e7bf7e7f5e70f741932e4d3db4c4c9bbaefa4b9930ef87665e7bf7e7f5e70f75f979efdf9fd79c3dd074e797a72dfa29e4ddd77d25cc9877c3b32f3dfbf3faf387bafcbcf7efcfebce1ee839eed39f2c2c9bbaefa4b9930ef87665e7bf7e7f5e70f75f979efdf9fd79c3dd074e7be664ddd77d25cc9877c3b32f3dfbf3faf387bafcbcf7efcfebce1ee83265e59716debbb2d2c9bbaefa4b9930ef87665e7bf7e7f5e70f75f979efdf9fd79c3dd072cba79e18b93775df4973261df0eccbcf7efcfebce1eebf2f3dfbf3faf387ba0e99b2ccc9bbaefa4b9930ef87665e7bf7e7f5e70f75f979efdf9fd79c3dd072cbd30ccc9bbaefa4b9930ef87665e7bf7e7f5e70f75f979efdf9fd79c3dd064cbdb965a793775df4973261df0eccbcf7efcfebce1eebf2f3dfbf3faf387ba0e9cf2f7cb1b26eebbe92e64c3be1d9979efdf9fd79c3dd7e5e7bf7e7f5e70f741cf761d94326eebbe92e64c3be1d9979efdf9fd79c3dd7e5e7bf7e7f5e70f741932f3e597b65a593775df4973261df0eccbcf7efcfebce1eebf2f3dfbf3faf387ba0e797b72cb4f26eebbe92e64c3be1d9979efdf9fd79c3dd7e5e7bf7e7f5e70f741d30a0e9d71a064cb2e362df132cadd8b460e33316ce596272ddb32c2e30b962e19e4c6d7333c4d5be560d9ce36199cb372d5937cad9bb0c787132c98593941cf9e5ddcb0e8/128^i%128
def Al:Tryz.pinned.checked.prog.initOrder=String.ofList (gJ.map Char.ofNat):=by kernel_rfl
def qf:Tryz.pinned.checked.prog.initOrder.toList=gJ.map Char.ofNat:=by rw[Al,String.toList_ofList]
def qg:(behindMainWord (wordsSigns (gJ.map Char.ofNat))).head?=some "cut".toList:=by kernel_rfl
def qh:∃r,behindMainWord (wordsSigns (gJ.map Char.ofNat))= "cut".toList::r:=by
 have h:=qg;revert h;generalize behindMainWord (wordsSigns (gJ.map Char.ofNat))=l;intro h;cases l with
 |nil=>cases h
 |cons x r=>exact⟨r,by rw[cE h]⟩
def t1:("cut".toList== "gc".toList)=false:=by kernel_rfl
def t2:("cut".toList== "spec".toList)=false:=by kernel_rfl
def t3:("cut".toList== "cut".toList)=true:=by kernel_rfl
def t4:("cut".toList== "carried".toList)=false:=by kernel_rfl
def t5(r:List (List Char)):(stripLifts liftWords ("cut".toList::r))=([], "cut".toList::r):=by kernel_rfl
def t9:((some "cut".toList:Option (List Char))==some "cut".toList)=true:=by kernel_rfl
def t10:([]:List String).contains "finals" =false:=by kernel_rfl
def t11:([]:List String).contains "reflectrows" =false:=by kernel_rfl
def t12:([]:List String).contains "leanrows" =false:=by kernel_rfl
def qi(P:cf)(r:List (List Char))(h:behindMainWord (wordsSigns P.initOrder.toList)= "cut".toList::r):P.make=some .cut:=by unfold Program.make;rw[h];dsimp only;rw[t1,t2,t3,Bool.or_self,cr Bool.false_ne_true,Bool.true_or,cx rfl]
def jq(P:cf)(r:List (List Char))(h:behindMainWord (wordsSigns P.initOrder.toList)= "cut".toList::r)(a:P.laysLater=false)(b:P.bearsReflect=false)(c:P.doorFits []=true):P.mayEnter=true:=by unfold Program.mayEnter;rw[h];dsimp only;rw[t5,t1,t2,t4,a,b,c];dsimp only;rw[List.head?_cons,t9,t10,t11,t12];rfl
def io(P:cf)(r:List (List Char))(h:behindMainWord (wordsSigns P.initOrder.toList)= "cut".toList::r):P.liftsFinal=false:=by unfold Program.liftsFinal Program.headLifts;rw[h];kernel_rfl
def iN:∃r,behindMainWord (wordsSigns Tryz.pinned.checked.prog.initOrder.toList)= "cut".toList::r:=by rw[qf];exact qh
def t6:Tryz.pinned.checked.prog.laysLater=false:=by kernel_rfl
def t7:Tryz.pinned.checked.prog.bearsReflect=false:=by kernel_rfl
def t8:Tryz.pinned.checked.prog.doorFits []=true:=by kernel_rfl
def mD:Tryz.pinned.checked.prog.mayEnter=true:=iN.elim λr h=>jq _ r h t6 t7 t8
def kO:Tryz.pinned.checked.prog.liftsFinal=false:=iN.elim λr h=>io _ r h
def kP:Tryz.pinned.checked.prog.make=some .cut:=iN.elim λr h=>qi _ r h
def cL{a b:Bool}(h:a=true)(k:b=true):(a&&b)=true:=by rw[h,k];rfl
def Tryz.own:ownKnob Tryz.prog.godebug=none:=by kernel_rfl
def Tryz.laidOut:laidOutB Tryz.prog=true:=by kernel_rfl
def Tryz.qj:Tryz.prog.cellsOf 3=1:=by kernel_rfl
def Tryz.iy:Tryz.prog.underlying 27=some (.slice 3):=by kernel_rfl
def Tryz.xU:Tryz.prog.underlying 3=some (.int .i64):=by kernel_rfl
def Tryz.Dy:Tryz.prog.underlying 4=some .bool:=by kernel_rfl
def jC{P:cf}{w:cd}{r:Reach}{b:Nat}{t e:cg}{a:Addr}{l c:Nat}(d:P.underlying t=some (.slice e))(h:Value.okWide P w r b t (.slice (some a) l c)):a.spot=none/\∃x,w.shape? a.block=some x:=by simp only[Value.okWide,d,Cell.okWide,Cell.ok]at h;obtain⟨_,_,_,f,g,cells,i,_⟩:=h;exact⟨f,_,i⟩
def t14:(Rows.roundLaterRow.lifted==false)=true:=by kernel_rfl
def kQ:(Rows.roundLaterRow.lifted==Tryz.pinned.checked.prog.liftsFinal)=true:=(cM (λx=>Rows.roundLaterRow.lifted==x) kO).trans t14
def t13:(some Make.cut==some Rows.roundLaterRow.make)=true:=by kernel_rfl
def kR:(Tryz.pinned.checked.prog.make==some Rows.roundLaterRow.make)=true:=(cM (λx=>x==some Rows.roundLaterRow.make) kP).trans t13
def gK:joinedFacts Tryz.pinned.checked.prog 8 Tryz.f8 Rows.roundLaterSpec Rows.roundLaterRow=true:=by unfold joinedFacts;exact(cL (cL (cL (cL (cL (cL (cL (cL (cL (cL (cL (cL (cL (cL (cL (cL (cL (cL (cL (cL (cL (cL (cL (cL (cL (cL (cL (cL (cL (cL (cL (by kernel_rfl) (by kernel_rfl)) (by kernel_rfl)) (by kernel_rfl)) (by kernel_rfl)) (by kernel_rfl)) (by kernel_rfl)) (by kernel_rfl)) (by kernel_rfl)) (by kernel_rfl)) (by kernel_rfl)) (by kernel_rfl)) (by kernel_rfl)) (by kernel_rfl)) (by kernel_rfl)) (by kernel_rfl)) (by kernel_rfl)) (by kernel_rfl)) (by kernel_rfl)) (by kernel_rfl)) (by kernel_rfl)) (by kernel_rfl)) (by kernel_rfl)) (by kernel_rfl)) (by kernel_rfl)) mD) kQ) kR) (by kernel_rfl)) (by kernel_rfl)) (by kernel_rfl)) (by kernel_rfl))
end Go.Proofs.YteeagjkaflglpaaGreat
namespace Go.Proofs.W
open Go.RowKit
def c8(a b:Sp):Prop:=match b with
 |none=>True
 |some (_,c,d)=>match a with
  |none=>False
  |some (_,m,k)=>m<c\/m=c/\k<=d
def c8.refl(a:Sp):c8 a a:=by rcases a with _|⟨l,m,k⟩;trivial;exact .inr ⟨rfl,Int.le_refl _⟩
def c8.trans{a b c:Sp}(h:c8 a b)(k:c8 b c):c8 a c:=by rcases c with _|⟨d,e,f⟩;trivial;rcases b with _|⟨g,i,j⟩;exact k.elim;rcases a with _|⟨l,m,n⟩;exact h.elim;simp only[c8]at h k⊢;omega
def uo(a b:Sp):c8 (lM a b) a/\c8 (lM a b) b:=by rcases a with _|⟨l,m,k⟩;rw[nq];exact⟨trivial,c8.refl _⟩;rcases b with _|⟨c,d,e⟩;exact⟨c8.refl _,trivial⟩;simp only[lM,kI,jk];split;rename_i h;refine⟨?_,c8.refl _⟩;simp only[c8];omega;rename_i h;refine⟨c8.refl _,?_⟩;simp only[c8];omega
def c7(D:dR):Nat->List Nat->(Nat->Nat)->Nat->Nat
 |_,[],L=>L
 |k,p::ps,L=>c7 D (k+1) ps (jz (fh D k) ((dz D k).getD p []) L)
theorem nP(D:dR):∀(n:Nat) (ps:List Nat) (L:Nat->Nat) (b:Sp),c8 (dS D n ps L b) b/\∀qs:List Nat,qs.length=n->(∀k (h:k<qs.length),qs[k]<(dz D (ps.length+k)).length)->c8 (dS D n ps L b) (dX D (c7 D ps.length qs L) (ps++qs))
 |0,ps,L,b=>by simp only[dS];refine⟨(uo _ _).1,λqs a _=>?_⟩;obtain rfl:=l9 a;rw[List.append_nil];exact(uo _ _).2
 |n+1,ps,L,b=>by
  simp only[dS]
  have d:∀(e:List Nat) (b:Sp),c8 (e.foldl (λb i=>dS D n (ps++[i]) (jz (fh D ps.length) ((dz D ps.length).getD i []) L) b) b) b/\∀i∈e,∀qs:List Nat,qs.length=n->(∀k (h:k<qs.length),qs[k]<(dz D (ps.length+1+k)).length)->c8 (e.foldl (λb i=>dS D n (ps++[i]) (jz (fh D ps.length) ((dz D ps.length).getD i []) L) b) b) (dX D (c7 D ps.length (i::qs) L) (ps++i::qs)):=by
   intro e;induction e with
   |nil=>exactλb=>⟨c8.refl _,λi f=>by cases f⟩
   |cons x r l=>
    intro b;rw[mP];obtain⟨m,o⟩:=nP D n (ps++[x]) (jz (fh D ps.length) ((dz D ps.length).getD x []) L) b;obtain⟨g,j⟩:=l (dS D n (ps++[x]) (jz (fh D ps.length) ((dz D ps.length).getD x []) L) b);refine⟨g.trans m,λi f qs a c=>?_⟩;rcases eQ.1 f with rfl|f;have:=o qs a λk h=>by have:=c k h;simpa[yz]using this
    rw[fX,List.append_assoc]at this;exact g.trans this;exact j i f qs a c
  obtain⟨g,j⟩:=d (List.range (dz D ps.length).length) b;refine⟨g,λqs a c=>?_⟩;match qs,a,c with
  |q::qs,a,c=>
   refine j q (eJ.2 (c 0 (by simp))) qs (by simpa using a) λk h=>?_;have:=c (k+1) (by simpa using h);simpa[yz,Nat.add_comm 1 k]using this
def oN(D:dR){qs:List Nat}(a:qs.length=D.opn.length)(b:Jv D qs):c8 (gm D) (dX D (c7 D 0 qs L0) qs):=by
 have:=(nP D D.opn.length [] L0 none).2 qs a λk h=>by simpa using b k h
 unfold gm;simpa using this
def nc(D:dR):Sp->Prop
 |none=>True
 |some (l,m,k)=>∃qs:List Nat,qs.length=D.opn.length/\Jv D qs/\dX D (c7 D 0 qs L0) qs=some (l,m,k)
theorem nv(D:dR):∀(qs:List Nat) (k:Nat) (L:Nat->Nat) (q:Nat),c7 D k (qs++[q]) L=jz (fh D (k+qs.length)) ((dz D (k+qs.length)).getD q []) (c7 D k qs L)
 |[],k,L,q=>rfl
 |x::r,k,L,q=>by simp only[qn,c7,dW];rw[nv D r (k+1),show k+1+r.length=k+(r.length+1) by omega]
theorem oO(D:dR):∀(n:Nat) (ps:List Nat) (b:Sp),ps.length+n=D.opn.length->Jv D ps->nc D b->nc D (dS D n ps (c7 D 0 ps L0) b)
 |0,ps,b,j,a,c=>by
  simp only[dS];rcases Gc b (dX D (c7 D 0 ps L0) ps)with h|h;rw[h];cases o:dX D (c7 D 0 ps L0) ps with
  |none=>trivial
  |some x=>
   obtain⟨l,m,k⟩:=x;exact⟨ps,by omega,a,o⟩
  rw[h];exact c
 |n+1,ps,b,j,a,c=>by
  simp only[dS]
  have d:∀(g:List Nat) (b:Sp),(∀i∈g,i<(dz D ps.length).length)->nc D b->nc D (g.foldl (λb i=>dS D n (ps++[i]) (jz (fh D ps.length) ((dz D ps.length).getD i []) (c7 D 0 ps L0)) b) b):=by
   intro g;induction g with
   |nil=>intro b _ c;exact c
   |cons i r p=>
    intro b e c;rw[mP];refine p _ (λx q=>e x (eI _ q)) ?_
    have:=oO D n (ps++[i]) b (by simp;omega) (λk s=>by
     rcases eA k ps.length with f|t;rw[lI f];exact a k f;obtain rfl:k=ps.length:=by simp at s;omega
     simp only[qI (cz _),lf,mS];exact e i eR) c
    rw[nv,cB]at this;exact this
  exact d _ b (λi u=>eJ.1 u) c
def jN(D:dR):nc D (gm D):=oO D _ [] none (by simp) (λk a=>by simp at a) trivial
def lR(W:Nat->Nat->Int)(a:Nat):List Nat->Nat->Int
 |[],z=>W a z
 |d::r,z=>W a (d+1)+lR W (d+1) r z
def lS(W:Nat->Nat->Int)(l:List Nat):pN W l=lR W 0 l 0:=by
 have b:∀k,k<=l.length->tF W l k+lR W (uG l k) (l.drop k) 0=lR W 0 l 0:=by
  intro k;induction k with
  |zero=>intro _;simp[tF,uG]
  |succ k c=>
   intro d;have a:k<l.length:=d;rw[<-c (by omega),qH a];have:uG l (k+1)=l[k]+1:=by simp[uG,ew a]
   simp only[tF,lR,getD_eq a,this];omega
 rw[<-b l.length (cz _),List.drop_length];rfl
theorem Ca{W:Nat->Nat->Int}{d:Nat}(b:∀i j,W i j<=W i (d+1)+W (d+1) j)(y:List Nat):∀(x:List Nat) (a z:Nat),lR W a (x++y) z<=lR W a (x++d::y) z
 |[],a,z=>by
  cases y with
  |nil=>exact b a z
  |cons e r=>
   have:=b a (e+1);simp only[sM,lR];omega
 |e::r,a,z=>by have:=Ca b y r (e+1) z;simp only[qn,lR];omega
def OI{c:Int}(h:0<=c){a b x:Dr}(k:0<=a.at_)(l:0<=b.at_)(n:0<=x.at_):vY c a b<=vY c a x+vY c x b:=by
 have j:∀p q,0<=l5 p q:=λp q=>by unfold l5;omega
 have d:l5 a.st b.st<=l5 a.st x.st+l5 x.st b.st:=by unfold l5;omega
 have m:=Int.mul_le_mul_of_nonneg_left d h;rw[Int.mul_add]at m;have o:=yx h (j a.st x.st);have r:=yx h (j x.st b.st);unfold vY;by_cases g:a.st=b.st;by_cases f:a.st=x.st;rw[cx g,cx f,cx (f.symm.trans g)];unfold l5;omega;rw[cx g,cr f,cr (λe=>f (g.trans e.symm))];unfold l5 at*;omega;by_cases f:a.st=x.st;rw[cr g,cx f,cr (λe=>g (f.trans e)),<-f];have:a.at_<=l5 a.at_ x.at_+x.at_:=by unfold l5;omega
 omega;by_cases i:x.st=b.st;rw[cr g,cr f,cx i,i];have:b.at_<=x.at_+l5 x.at_ b.at_:=by unfold l5;omega
 omega;rw[cr g,cr f,cr i];omega
def OJ{G:Gd}(h:G.Ok){d:Nat}(m:d<G.doors.length)(i j:Nat):jK G i j<=jK G i (d+1)+jK G (d+1) j:=by
 have e:=(mq h i (d+1)).1;have f:=(mq h (d+1) j).1;have g:∀x∈dH G,0<=x.at_:=λx c=>by rcases eQ.1 c with rfl|c;simp;exact(h.door x c).2.1.1
 obtain⟨x,c⟩:∃x,(dH G)[d+1]? =some x:=⟨G.doors[d],by simp[dH,ew m]⟩;unfold jK at e f⊢;rw[c]at e f⊢;cases k:(dH G)[i]? with
 |none=>rw[k]at e;simpa using f
 |some a=>
  cases l:(dH G)[j]? with
  |none=>
   rw[k]at e;rw[l]at f;simpa using e
  |some b=>exact OI (by have:=h.corner;omega) (g a (nR k)) (g b (nR l)) (g x (nR c))
theorem Gp:∀(l m:List Int),(l++m).sum=l.sum+m.sum
 |[],m=>by simp
 |a::r,m=>by have:=Gp r m;simp only[qn,List.sum_cons];omega
def iD(G:Gd)(l m:List Nat):gQ G (l++m)=gQ G l+gQ G m:=by unfold gQ;rw[nQ,Gp]
def Lx{G:Gd}(h:G.Ok)(d:Nat):0<=gQ G [d]:=by
 have e:gQ G [d]=((G.doors[d]?).map (·.talk)).getD 0:=by simp[gQ]
 rw[e];cases a:G.doors[d]? with
 |none=>simp
 |some x=>
  have:=(h.door x (nR a)).2.2;simp only[iX,kC];omega
def xw{G:Gd}(h:G.Ok){d:Nat}(a:d<G.doors.length)(x y:List Nat):dr G (x++y)<=dr G (x++d::y):=by
 have b:=Ca (OJ h a) y x 0 0;have c:=h.knock;unfold dr tG;rw[lS,lS];have e:(((x++d::y).length:Nat):Int)=((x++y).length:Nat)+1:=by simp;omega
 rw[e,Int.add_mul];omega
def An{G:Gd}(h:G.Ok){d:Nat}(a:d<G.doors.length)(x y:List Nat):dF G (x++y)<=dF G (x++d::y):=by have b:=xw h a x y;have c:=Lx h d;have e:=iD G x y;have f:=iD G x (d::y);have g:gQ G (d::y)=gQ G [d]+gQ G y:=iD G [d] y;unfold dF;omega
def TH{α:Type}{xs ys:Array α}{v f:α}{n k:Nat}(h:ys=xs.setIfInBounds n v)(a:k≠n)(b:xs[k]? =some f):ys[k]? =some f:=by subst h;rw[eY (fO a)];exact b
def V.OK:V.prog.funcs=Tryz.prog.funcs.setIfInBounds 163 V.f163:=by kernel_rfl
def V.fn{k:Nat}{f:Func}(h:Tryz.prog.funcs[k]? =some f)(a:k≠163):V.prog.funcs[k]? =some f:=TH V.OK a h
def Ap{a:Nat}{w:cd}(h:gI a w)(n:Int)(c: -1000000<=n/\n<=1000000):Calls V.prog 93 #[cK a,.int .i64 n] w (fy λv w'=>(∃b,v=.bool b)/\DE a w w'):=by refine go (V.fn Tryz.func93 (by decide)) Tryz.ntmps93 ?_;refine fx (ck (nJ h (n-1) (by omega)) ?_);rintro _ e ⟨⟨z,rfl,_⟩,d⟩;exact eh ⟨_,rfl,⟨_,rfl⟩,d⟩
theorem AA{α a:Type}{f g:α->List a}:∀{l:List α},(∀x∈l,f x=g x)->l.flatMap f=l.flatMap g
 |[],_=>rfl
 |x::r,h=>by rw[ky,ky,h x eR,AA λy b=>h y (eI _ b)]
def eM:Nat->List Nat->List (List Nat)
 |0,_=>[[]]
 |n+1,l=>(List.range l.length).flatMap λi=>(eM n (l.eraseIdx i)).map (l.getD i 0::·)
def OS(l:List Nat):List (List Nat):=eM l.length l
def getD_map{l:List Nat}{f:Nat->Nat}{i:Nat}(h:i<l.length):(l.map f).getD i 0=f (l.getD i 0):=by rw[gU,gU,mR,ew h];rfl
theorem Cj(f:Nat->Nat):∀(l:List Nat) (i:Nat),(l.map f).eraseIdx i=(l.eraseIdx i).map f
 |[],_=>rfl
 |x::r,0=>rfl
 |x::r,i+1=>by simp only[jP,List.eraseIdx_cons_succ,Cj f r i]
theorem Ck(f:Nat->Nat):∀(n:Nat) (l:List Nat),eM n (l.map f)=(eM n l).map (·.map f)
 |0,l=>rfl
 |n+1,l=>by simp only[eM,List.map_flatMap,kV];refine AA λi a=>?_;rw[getD_map (eJ.1 a),Cj,Ck f n,List.map_map,List.map_map];rfl
theorem Cm{l:List Nat}{m:Nat}(d:l.length=m)(f:Nat->Nat)(g:∀i,i<m->l.getD i 0=f i):∀(n:Nat) (b:List Nat) (a:List Bool),nE l n (b.map f) a=(nE (List.range m) n b a).map (·.map f)
 |0,b,a=>rfl
 |n+1,b,a=>by
  simp only[nE,List.map_flatMap,List.length_range,d];refine AA λi c=>?_;have c:=eJ.1 c;split;rfl;have e:(List.range m).getD i 0=i:=by rw[gU,ew (by simpa using c)];simp
  rw[g i c,e,<-Cm d f g n,nQ];rfl
def DC:∀m:Nat,m<=5->eM m (List.range m)=nE (List.range m) m [] (List.replicate m false):=by decide+kernel
def u9{l:List Nat}(h:l.length<=5):OS l=mv l:=by
 have e:l=(List.range l.length).map λi=>l.getD i 0:=by refine List.ext_getElem (by simp) λi a b=>?_;simp[gU,ew a]
 have a:=Cm (l:=l) rfl (λi=>l.getD i 0) (λ_ _=>rfl) l.length [] (List.replicate l.length false);unfold OS mv;rw[qK]at a;rw[a,<-DC _ h,<-Ck,<-e]
theorem tU:∀{l:List Nat} {i:Nat} (a:i<l.length),(l[i]::l.eraseIdx i).Perm l
 |x::r,0,_=>List.Perm.refl _
 |x::r,i+1,a=>by
  have b:i<r.length:=by simpa using a
  exact(List.Perm.swap x r[i] _).trans ((tU b).cons x)
theorem te:∀(n:Nat) (l:List Nat),l.length=n->∀r∈eM n l,r.Perm l
 |0,l,h,r,a=>by obtain rfl:=l9 h;rw[show r=[] by simpa[eM]using a]
 |n+1,l,h,r,a=>by simp only[eM,lJ,eJ,jj]at a;obtain⟨i,b,y,c,rfl⟩:=a;have d:=te n _ (by rw[List.length_eraseIdx_of_lt b];omega) y c;rw[getD_eq b];exact(d.cons _).trans (tU b)
theorem tg:∀(n:Nat) (l:List Nat),l.length=n->∀r,r.Perm l->r∈eM n l
 |0,l,h,r,a=>by obtain rfl:=l9 h;rw[a.eq_nil];simp[eM]
 |n+1,l,h,r,a=>by
  have b:=a.length_eq;match r,a,b with
  |[],_,b=>rw[h]at b;cases b
  |x::r,a,_=>
   obtain⟨i,c,rfl⟩:=List.getElem_of_mem (a.mem_iff.1 eR);have d:=List.Perm.cons_inv (a.trans (tU c).symm);simp only[eM,lJ,eJ,jj];exact⟨i,c,r,tg n _ (by rw[List.length_eraseIdx_of_lt c];omega) r d,by rw[getD_eq c]⟩
def tV{l:List Nat}(h:l.length<=5)(r:List Nat):r∈mv l↔r.Perm l:=by rw[<-u9 h];exact⟨te _ _ rfl r,tg _ _ rfl r⟩
theorem xB{W:Nat->Nat->Int}(b:∀i j,0<=W i j):∀(l:List Nat) (a z:Nat),0<=lR W a l z
 |[],a,z=>b a z
 |d::r,a,z=>by have:=xB b r (d+1) z;have:=b a (d+1);simp only[lR];omega
def xC{G:Gd}(h:G.Ok)(l:List Nat):0<=ik G l:=by unfold ik;rw[lS];exact xB (λi j=>(mq h i j).1) l 0 0
theorem tW(G:Gd)(g:G.Ok):∀(rows:List (List Nat)) (a:List Nat×Int),0<=a.2->a.2=ik G a.1->((rows.foldl (ed G) a).1=a.1\/(rows.foldl (ed G) a).1∈rows)/\(rows.foldl (ed G) a).2=ik G (rows.foldl (ed G) a).1/\(rows.foldl (ed G) a).2<=a.2/\∀r∈rows,(rows.foldl (ed G) a).2<=ik G r
 |[],a,m,h=>⟨.inl rfl,h,Int.le_refl _,λr c=>by cases c⟩
 |x::rows,a,m,h=>by have n:=xC g x;simp only[mP];obtain⟨d,b⟩:∃d,d=ed G a x:=⟨_,rfl⟩;rw[<-b];unfold ed at b;split at b;rename_i i;subst b;obtain⟨j,k,f,l⟩:=tW G g rows (x,ik G x) n rfl;refine⟨.inr (j.elim (λe=>by rw[e];exact eR) (eI _)),k,?_,λr c=>?_⟩;simp only at f;omega;rcases eQ.1 c with rfl|c;exact f;exact l r c;rename_i i;subst b;obtain⟨j,k,f,l⟩:=tW G g rows d m h;refine⟨j.imp id (eI _),k,f,λr c=>?_⟩;rcases eQ.1 c with rfl|c;omega;exact l r c
def mG{G:Gd}(g:G.Ok)(s:Nat):(cH G s).Perm (dK s)/\∀r,r.Perm (dK s)->ik G (cH G s)<=ik G r:=by
 have f:=sj s;have b:dK s∈mv (dK s):=(tV f _).2 (List.Perm.refl _);obtain⟨rows,a⟩:∃rows,rows=mv (dK s):=⟨_,rfl⟩;have c:(eH G rows).1∈rows/\∀r∈rows,ik G (eH G rows).1<=ik G r:=by
  rw[<-a]at b;match rows,b with
  |x::rows,_=>
   have h:=xC g x;have e:eH G (x::rows)=rows.foldl (ed G) (x,ik G x):=by unfold eH;rw[mP];congr 1
   obtain⟨i,j,k,l⟩:=tW G g rows (x,ik G x) h rfl;rw[e];refine⟨i.elim (λq=>by rw[q];exact eR) (eI _),λr d=>?_⟩;rw[<-j];rcases eQ.1 d with rfl|d;exact k;exact l r d
 unfold cH;rw[<-a];refine⟨(tV f _).1 (by rw[<-a];exact c.1),λr d=>c.2 r ?_⟩;rw[a];exact(tV f _).2 d
def It(G:Gd){l r:List Nat}(h:l.Perm r):gQ G l=gQ G r:=by
 induction h with
 |nil=>rfl
 | @cons x e f _ g=>
  have a:=iD G [x] e;have b:=iD G [x] f;simp only[List.singleton_append]at a b;omega
 |swap x y l=>
  have a:=iD G [y] (x::l);have b:=iD G [x] (y::l);have c:=iD G [x] l;have d:=iD G [y] l;simp only[List.singleton_append]at a b c d;omega
 |trans _ _ a b=>exact a.trans b
def Iu{G:Gd}{l r:List Nat}(h:l.Perm r)(a:ik G l<=ik G r):dF G l<=dF G r:=by have b:=It G h;have c:=h.length_eq;unfold ik at a;unfold dF dr tG;rw[b,c];omega
theorem qk{G:Gd}(a:G.Ok)(q:Nat->Bool):∀(y x:List Nat),(∀d∈y,d<G.doors.length)->dF G (x++y.filter q)<=dF G (x++y)
 |[],x,_=>Int.le_refl _
 |d::y,x,h=>by have c:=h d eR;have b:∀d∈y,d<G.doors.length:=λe f=>h e (eI _ f);rw[List.filter_cons];split;have:=qk a q y (x++[d]) b;simpa using this;exact Int.le_trans (qk a q y x b) (An a c x y)
def OY{G:Gd}(a:G.Ok){s:Nat}{r:List Nat}(h:r.Perm (dK s)):dF G (cH G s)<=dF G r:=
 Iu ((mG a s).1.trans h.symm) ((mG a s).2 r h)
def Gz{s t:Nat}(h:∀d,d<5->s.testBit d=true->t.testBit d=true):(dK t).filter (s.testBit ·)=dK s:=by unfold dK mu;rw[List.filter_filter];refine List.filter_congr λd a=>?_;have:=h d (eJ.1 a);cases b:s.testBit d<;>simp_all
def LP{G:Gd}(a:G.Ok){s t:Nat}(c:∀d∈dK t,d<G.doors.length)(h:∀d,d<5->s.testBit d=true->t.testBit d=true):dF G (cH G s)<=dF G (cH G t):=by
 have b:=(mG a t).1;have e:((cH G t).filter (s.testBit ·)).Perm (dK s):=by rw[<-Gz h];exact b.filter _
 have f:=qk a (s.testBit ·) (cH G t) [] λd g=>c d (b.mem_iff.1 g);exact Int.le_trans (OY a e) (by simpa using f)
def LQ{G:Gd}(b:G.Ok){s t:Nat}(c:∀d∈dK t,d<G.doors.length)(h:∀d,d<5->s.testBit d=true->t.testBit d=true)(a:jH G t=true):jH G s=true:=by unfold jH at a⊢;have:=cY a;exact decide_eq_true (Int.le_trans (LP b c h) this)
def gB(a:List (List Nat))(d i:Nat):List (List Nat):=if i<a.length then a.set i (a.getD i []++[d])else a++[[d]]
def gM:List Nat->List (List Nat)->List (List (List Nat))
 |[],a=>[a]
 |d::r,a=>(List.range (a.length+1)).flatMap λi=>gM r (gB a d i)
def lT(G:Gd)(g:List Nat):Bool:=jH G (dB g)
def kS(G:Gd)(D:List (List Nat)):Bool:=D.all (lT G)
theorem vg(d:Nat):∀(l:List Nat) (s:Nat),setFrom s (l++[d])=nZ (setFrom s l) d
 |[],s=>rfl
 |x::r,s=>vg d r (nZ s x)
def Cp(g:List Nat)(d:Nat):dB (g++[d])=nZ (dB g) d:=vg d g 0
def Q5:∀s:Nat,s<32->∀d:Nat,d<5->∀x:Nat,x<5->s.testBit x=true->(nZ s d).testBit x=true:=by decide+kernel
def Sb(a b:List Nat):Prop:=∀x,x<5->(dB a).testBit x=true->(dB b).testBit x=true
def Q6{g:List Nat}(h:∀d∈g,d<5):dB g<32:=pP g 0 (by omega) h
def Sb.snoc{g:List Nat}{d:Nat}(h:∀x∈g,x<5)(a:d<5):Sb g (g++[d]):=λx b c=>by rw[Cp];exact Q5 _ (Q6 h) d a x b c
def mM(a:List (List Nat))(d i:Nat):(gB a d i).length=if i<a.length then a.length else a.length+1:=by unfold gB;split<;>simp
def sC{c:List (List Nat)}{d i:Nat}{n:Nat}(h:∀g∈c,∀x∈g,x<n)(e:d<n):∀g∈gB c d i,∀x∈g,x<n:=by unfold gB;split;rename_i f;intro g b x a;rcases oS b with b|rfl;exact h g b x a;rw[getD_eq f]at a;rcases gl.1 a with a|a;exact h _ (dt f) x a;rw[fD.1 a];exact e;intro g b x a;rcases gl.1 b with b|b;exact h g b x a;rw[fD.1 b]at a;rw[fD.1 a];exact e
theorem pw{n:Nat}(m:n<=5):∀(l:List Nat) (a:List (List Nat)),(∀d∈l,d<n)->(∀g∈a,∀x∈g,x<n)->∀D∈gM l a,a.length<=D.length/\(∀g∈D,∀x∈g,x<n)/\∀i (b:i<a.length),∃h:i<D.length,Sb a[i] D[i]
 |[],a,_,k,D,c=>by
  obtain rfl:D=a:=by simpa[gM]using c
  exact⟨cz _,k,λi b=>⟨b,λx _ h=>h⟩⟩
 |d::r,a,s,k,D,c=>by
  simp only[gM,lJ,eJ]at c;obtain⟨j,C,c⟩:=c;have t:=s d eR;obtain⟨u,v,w⟩:=pw m r (gB a d j) (λx f=>s x (eI _ f)) (sC k t) D c;have y:=mM a d j;have o:a.length<=(gB a d j).length:=by rw[y];split<;>omega
  refine⟨cJ o u,v,λi b=>?_⟩;obtain⟨z,A⟩:=w i (by omega);refine⟨z,λx f p=>A x f ?_⟩;have q:=k _ (dt b);simp only[gB];split;rename_i B;rw[List.getElem_set];split;rename_i e;subst e;rw[getD_eq b];exact Sb.snoc (λx f=>by have:=q x f;omega) (by omega) x f p;exact p;rw[lI b];exact p
def rU{G:Gd}{D:List (List Nat)}:kS G D=true↔∀g∈D,lT G g=true:=jF
def mN{α:Type}{p:α->Bool}{l:List α}(h:∀x∈l,p x=false):l.find? p=none:=by rw[List.find?_eq_none];intro x a;rw[h x a];decide
def ol(G:Gd)(most:Nat)(D:List (List Nat)):Bool:=decide (D.length<=most)&&kS G D
def Cq{G:Gd}(b:G.Ok){most:Nat}{l:List Nat}{a:List (List Nat)}(j:∀d∈l,d<G.doors.length)(k:∀g∈a,∀x∈g,x<G.doors.length){i:Nat}(m:i<a.length)(h:lT G a[i]=false):(gM l a).find? (ol G most)=none:=by
 refine mN λD n=>?_;obtain⟨s,o,p⟩:=pw b.many l a j k D n;obtain⟨c,q⟩:=p i m;cases e:kS G D with
 |false=>unfold ol;rw[e,Bool.and_false]
 |true=>
  have r:=rU.1 e _ (dt c);have f:=LQ b (lP.dB b.many (o _ (dt c))).2 q r;unfold lT at h;rw[h]at f;cases f
def LR{G:Gd}{a:List (List Nat)}(h:kS G a=true){d i:Nat}(e:i<a.length)(c:lT G (a[i]++[d])=true):kS G (a.set i (a[i]++[d]))=true:=rU.2 λg b=>by rcases oS b with b|rfl;exact rU.1 h g b;exact c
theorem nM{α a:Type}{f g:α->Option a}:∀{l:List α},(∀x∈l,f x=g x)->l.findSome? f=l.findSome? g
 |[],_=>rfl
 |x::r,h=>by simp only[List.findSome?_cons,h x eR,nM λy b=>h y (eI _ b)]
theorem xD{G:Gd}(o:G.Ok)(most:Nat):∀(l:List Nat) (a:List (List Nat)),(∀d∈l,d<G.doors.length)->(∀g∈a,∀x∈g,x<G.doors.length)->kS G a=true->a.length<=most->eD G most l (a.map dB)=((gM l a).find? (ol G most)).map (·.map dB)
 |[],a,_,_,f,p=>by simp only[eD,gM,List.find?_cons,ol,decide_eq_true p,f,Bool.true_and,iX]
 |d::r,a,s,t,f,p=>by
  have u:=s d eR;have m:∀x∈r,x<G.doors.length:=λx y=>s x (eI _ y);have v:=xD o most r
  have z:((List.range a.length).findSome? λi=>if jH G (nZ ((a.map dB).getD i 0) d)then eD G most r ((a.map dB).set i (nZ ((a.map dB).getD i 0) d))else none)=((List.range a.length).findSome? λi=>(gM r (gB a d i)).find? (ol G most)).map (·.map dB):=by
   rw[List.map_findSome?];refine nM λi j=>?_;have j:=eJ.1 j;have e:(a.map dB).getD i 0=dB a[i]:=by rw[gU,mR,ew j];rfl
   have n:gB a d i=a.set i (a[i]++[d]):=by rw[gB,cx j,getD_eq j]
   have b:∀g∈a.set i (a[i]++[d]),∀x∈g,x<G.doors.length:=by rw[<-n];exact sC t u
   simp only[Function.comp];rw[e,<-Cp,<-List.map_set,n];split;rename_i k;exact v _ m b (LR f j k) (by rw[qJ];exact p);rename_i k;rw[Cq o m b (i:=i) (by rw[qJ];exact j) (by rw[List.getElem_set_self];unfold lT;simpa using k)];rfl
  have w:(if(a.map dB).length<most/\jH G (dB [d])=true then eD G most r (a.map dB++[dB [d]])else none)=((gM r (gB a d a.length)).find? (ol G most)).map (·.map dB):=by
   have n:gB a d a.length=a++[[d]]:=by rw[gB,cr (by omega)]
   have b:∀g∈a++[[d]],∀x∈g,x<G.doors.length:=by rw[<-n];exact sC t u
   rw[n,kV];split;rename_i k;have:=v (a++[[d]]) m b (rU.2 λg c=>by rcases gl.1 c with c|c;exact rU.1 f g c;rw[fD.1 c];exact k.2) (by simp;omega);rw[<-this];simp;rename_i k;by_cases q:a.length<most
   rw[Cq o m b (i:=a.length) (by simp) (by simp only[qI (cz _),lf,mS];unfold lT;cases h:jH G (dB [d])with
    |false=>rfl
    |true=>exact absurd ⟨q,h⟩ k)]
   rfl;rw[mN λD A=>?_];rfl;have:=(pw o.many r _ m b D A).1;simp only[fX,dW,fC]at this;unfold ol;rw[jT (by omega),Bool.false_and]
  simp only[eD,gM];rw[kV]at w⊢;rw[z,w,List.find?_flatMap,kA,List.findSome?_append];cases((List.range a.length).findSome? λi=>(gM r (gB a d i)).find? (ol G most))with
  |some x=>rfl
  |none=>simp
def qz(p:List (List Nat)->Bool)(a:Option (List (List Nat)))(D:List (List Nat)):Option (List (List Nat)):=match a with
 |some b=>if b.length<=D.length then some b else if p D then some D else some b
 |none=>if p D then some D else none
def om(p:List (List Nat)->Bool)(a:List (List (List Nat))):Option (List (List Nat)):=a.foldl (qz p) none
def AH(p:List (List Nat)->Bool)(a:List (List (List Nat)))(D:List (List Nat)):om p (a++[D])=qz p (om p a) D:=by simp only[om,uf,mP,List.foldl_nil]
def wI{α:Type}(p:α->Bool)(l:List α)(x:α):(l++[x]).find? p=(l.find? p).or (if p x then some x else none):=by rw[List.find?_append];congr 1;simp only[List.find?_cons,List.find?_nil];cases p x<;>rfl
def OZ(p:List (List Nat)->Bool)(a:List (List (List Nat))):Option (List (List Nat))->Prop
 |none=>∀D∈a,p D=false
 |some b=>b∈a/\(∀D∈a,p D=true->b.length<=D.length)/\a.find? (λD=>decide (D.length<=b.length)&&p D)=some b
theorem AI(p:List (List Nat)->Bool)(d:List (List (List Nat))):∀k,k<=d.length->OZ p (d.take k) (om p (d.take k))
 |0,_=>λD i=>by simp at i
 |k+1,v=>by
  have e:=AI p d k (by omega);obtain⟨D,i⟩:∃D,D=d[k]:=⟨_,rfl⟩;rw[gP (by omega),<-i,AH];obtain⟨l,r⟩:∃l,l=d.take k:=⟨_,rfl⟩;rw[<-r]at e⊢;cases q:om p l with
  |none=>
   rw[q]at e;have e:∀D∈l,p D=false:=e;cases g:p D with
   |false=>
    simp only[qz,g,iq,eo];intro E a;rcases gl.1 a with a|a;exact e E a;rw[fD.1 a];exact g
   |true=>
    simp only[qz,g,cX];refine⟨by simp,λE a c=>?_,?_⟩;rcases gl.1 a with a|a;rw[e E a]at c;cases c;rw[fD.1 a];exact cz _;rw[wI,mN λx j=>by rw[e x j,Bool.and_false]];simp[g]
  |some b=>
   rw[q]at e;obtain⟨s,m,t⟩:b∈l/\(∀D∈l,p D=true->b.length<=D.length)/\l.find? (λD=>decide (D.length<=b.length)&&p D)=some b:=e;have f:(b.length<=D.length\/p D=false)->OZ p (l++[D]) (some b):=λh=>by refine⟨List.mem_append_left _ s,λE a c=>?_,?_⟩;rcases gl.1 a with a|a;exact m E a c;rw[fD.1 a]at c⊢;rcases h with h|h;exact h;rw[h]at c;cases c;rw[wI,t];rfl
   simp only[qz];split;rename_i n;exact f (.inl n);rename_i u;cases g:p D with
   |false=>simpa using f (.inr g)
   |true=>
    simp only[cX];refine⟨by simp,λE a c=>?_,?_⟩;rcases gl.1 a with a|a;have:=m E a c;omega;rw[fD.1 a];exact cz _;rw[wI,mN λx j=>?_];simp[g];cases o:p x with
    |false=>rw[Bool.and_false]
    |true=>
     have:=m x j o;rw[jT (by omega),Bool.false_and]
theorem vh:∀(l:List Nat) (a:List (List Nat)),∀D∈gM l a,D.length<=a.length+l.length
 |[],a,D,b=>by
  obtain rfl:D=a:=by simpa[gM]using b
  exact cz _
 |d::r,a,D,b=>by simp only[gM,lJ,eJ]at b;obtain⟨j,e,b⟩:=b;have f:=vh r _ D b;have c:=mM a d j;rw[dW];split at c<;>omega
def O0:∀s:Nat,s<32->s≠0->0<(dK s).length:=by decide+kernel
def Iv{G:Gd}(v:G.Ok){s:Nat}(w:lP G s):fJ G s=(om (kS G) (gM (dK s) [])).map λD=>D.map λg=>cH G (dB g):=by
 have z:=v.many;unfold fJ;split;rename_i h;subst h;rfl;rename_i h;obtain⟨l,n⟩:∃l,l=dK s:=⟨_,rfl⟩;have o:0<l.length:=by rw[n];exact O0 s w.1 h
 have a:∀d∈l,d<G.doors.length:=by rw[n];exact w.2
 rw[<-n];have A:((List.range l.length).findSome? λm=>eD G (m+1) l [])=(List.range l.length).findSome? λm=>((gM l []).find? (ol G (m+1))).map (·.map dB):=nM λm _=>xD v (m+1) l [] a (λg p=>by cases p) rfl (fN _);rw[A];have f:∀D∈gM l [],1<=D.length:=by
  match l,o,a with
  |d::r,_,a=>
   intro D c;simp only[gM,lJ,eJ]at c;obtain⟨j,H,c⟩:=c;have q:=(pw z r (gB [] d j) (λx B=>a x (eI _ B)) (sC (λg p=>by cases p) (a d eR)) D c).1;have t:=mM [] d j;simp at t;omega
 have e:=AI (kS G) (gM l []) _ (cz _);rw[kX]at e;cases y:om (kS G) (gM l [])with
 |none=>
  rw[y]at e;have e:∀D∈gM l [],kS G D=false:=e;have:((List.range l.length).findSome? λm=>((gM l []).find? (ol G (m+1))).map (·.map dB))=none:=by rw[List.findSome?_eq_none_iff];intro m _;rw[mN λD c=>by unfold ol;rw[e D c,Bool.and_false]];rfl
  rw[this];rfl
 |some b=>
  rw[y]at e;obtain⟨q,t,C⟩:b∈gM l []/\(∀D∈gM l [],kS G D=true->b.length<=D.length)/\(gM l []).find? (λD=>decide (D.length<=b.length)&&kS G D)=some b:=e;have u:=vh l [] b q;have E:=f b q;simp only[fC,cB]at u
  have:((List.range l.length).findSome? λm=>((gM l []).find? (ol G (m+1))).map (·.map dB))=some (b.map dB):=by
   refine rJ (k:=b.length-1) (by omega) (λi I=>?_) ?_;rw[mN λD c=>?_];rfl;unfold ol;cases F:kS G D with
   |false=>rw[Bool.and_false]
   |true=>
    have:=t D c F;rw[jT (by omega),Bool.false_and]
   rw[show b.length-1+1=b.length by omega,show ol G b.length=λD=>decide (D.length<=b.length)&&kS G D from rfl,C];rfl
  rw[this];simp[yw]
def nW(G:Gd)(s:Nat):Int:=match fJ G s with
 |some a=>(a.length:Int)
 |none=> -1
def vm:∀s:Nat,s<32->∀d:Nat,d<5->∀x:Nat,x<5->(nZ s d).testBit x=(s.testBit x||decide (x=d)):=by decide+kernel
theorem oP{x:Nat}:∀(l:List Nat) (s:Nat),s<32->(∀d∈l,d<5)->x<5->((setFrom s l).testBit x=true↔s.testBit x=true\/x∈l)
 |[],s,_,_,_=>by simp[setFrom]
 |d::r,s,a,h,b=>by have c:=h d eR;have:=oP (x:=x) r (nZ s d) (Hj s a d c) (λy e=>h y (eI _ e)) b;show(setFrom (nZ s d) r).testBit x=true↔_;rw[this,vm s a d c x b,L4,decide_eq_true_iff,eQ,or_assoc]
def qx{x:Nat}{l:List Nat}(h:∀d∈l,d<5)(a:x<5):(dB l).testBit x=true↔x∈l:=by have:=oP l 0 (by omega) h a;unfold dB;rw[this];simp
def nK{s x:Nat}:x∈dK s↔x<5/\s.testBit x=true:=by unfold dK mu;rw[ug,eJ]
theorem qD:∀(l:List Nat) (b:List (List Nat)),∀D∈gM l b,∀x,(x∈l\/∃g∈b,x∈g)->∃g∈D,x∈g
 |[],b,D,c,x,h=>by
  obtain rfl:D=b:=by simpa[gM]using c
  rcases h with h|h;cases h;exact h
 |d::r,b,D,c,x,h=>by
  simp only[gM,lJ,eJ]at c;obtain⟨j,o,c⟩:=c;refine qD r _ D c x ?_;have m:∀g∈b,x∈g->∃g∈gB b d j,x∈g:=λg k e=>by obtain⟨i,n,rfl⟩:=List.getElem_of_mem k;unfold gB;split;rename_i a;by_cases f:j=i;subst f;exact⟨_,List.mem_set a _,by rw[getD_eq a];exact List.mem_append_left _ e⟩;exact⟨b[i],List.mem_iff_getElem.2 ⟨i,by simpa using n,by rw[List.getElem_set_ne f]⟩,e⟩;exact⟨_,List.mem_append_left _ k,e⟩
  rcases h with h|⟨g,k,e⟩;rcases eQ.1 h with rfl|h;refine .inr ?_;unfold gB;split;rename_i a;exact⟨_,List.mem_set a _,by simp⟩;exact⟨[x],by simp,by simp⟩;exact .inl h;exact .inr (m g k e)
theorem o7:∀(l:List Nat) (a:List (List Nat)),a++l.map (λd=>[d])∈gM l a
 |[],a=>by simp[gM]
 |d::r,a=>by
  simp only[gM,lJ,eJ];refine⟨a.length,by omega,?_⟩;have e:gB a d a.length=a++[[d]]:=by rw[gB,cr (by omega)]
  have:=o7 r (a++[[d]]);rw[e];simpa using this
def rT{G:Gd}(m:G.Ok){s:Nat}(n:lP G s):0<=nW G s↔∀d∈dK s,jH G (dB [d])=true:=by
 have t:=m.many;have o:∀d∈dK s,d<5:=λd e=>by have:=n.2 d e;omega
 have u:0<=nW G s↔∃b,om (kS G) (gM (dK s) [])=some b:=by
  unfold nW;rw[Iv m n];cases om (kS G) (gM (dK s) [])with
  |none=>simp
  |some b=>simp
 have a:=AI (kS G) (gM (dK s) []) _ (cz _);rw[kX]at a;rw[u];constructor;rintro⟨b,f⟩ d e;rw[f]at a;obtain⟨k,p,v⟩:=a;have i:kS G b=true:=by have:=List.find?_some v;rw[ez]at this;exact this.2
 obtain⟨g,c,q⟩:=qD _ _ b k d (.inl e);have j:=(pw t (dK s) [] n.2 (λg c=>by cases c) b k).2.1 g c;have r:∀x∈g,x<5:=λx l=>by have:=j x l;omega
 refine LQ m (lP.dB t j).2 (λx l f=>?_) (rU.1 i g c);rw[qx (by simpa using o d e) l,fD]at f;rw[qx r l,f];exact q;intro h;cases f:om (kS G) (gM (dK s) [])with
 |some b=>exact⟨b,rfl⟩
 |none=>
  rw[f]at a;have a:∀D∈gM (dK s) [],kS G D=false:=a;have k:=a _ (o7 (dK s) []);have p:kS G ([]++(dK s).map λd=>[d])=true:=rU.2 λg c=>by simp only[sM,jj]at c;obtain⟨d,e,rfl⟩:=c;exact h d e
  rw[k]at p;cases p
def vw:((List.range 6).all λn=>(List.range 32).all λs=>!((List.range 5).all λx=>!s.testBit x||decide (x<n))||decide (s<2^n))=true:=by decide+kernel
def vB{n s:Nat}(a:n<6)(b:s<32)(h:∀x,x<5->s.testBit x=true->x<n):s<2^n:=by
 have:=jF.1 (jF.1 vw n (eJ.2 a)) s (eJ.2 b)
 have c:((List.range 5).all λx=>!s.testBit x||decide (x<n))=true:=jF.2 λx d=>by
  cases e:s.testBit x with
  |false=>rfl
  |true=>simp[h x (eJ.1 d) e]
 rw[c]at this;exact cY (by simpa using this)
def vf{G:Gd}{xs:List Sx}(i:xs.length<=5)(f:Nat){s:Nat}(j:s<32)(h:∀x,x<5->s.testBit x=true->x∈cW G.tries xs):(iU G xs f).counts.getD s 0=nW G s:=by
 have c:∀d∈cW G.tries xs,d<5:=λd k=>by have:=kh k;omega
 have a:Qr s (dB (cW G.tries xs))=true:=jF.2 λx b=>by
  cases e:s.testBit x with
  |false=>rfl
  |true=>rw[(qx c (eJ.1 b)).2 (h x (eJ.1 b) e)];rfl
 have g:=vB (n:=xs.length) (by omega) j λx i e=>kh (h x i e);show(ie G _ _).getD s 0=_;unfold ie;rw[gU,mR,List.getElem?_range j];show(if s<2^xs.length then pX G (dB (cW G.tries xs)) s else 0)=_;rw[cx g,pX,cx a];rfl
theorem sv(D:dR)(f:∀k,fh D k<5):∀(qs:List Nat) (k:Nat) (L:Nat->Nat),(∀s,L s<32)->∀s,c7 D k qs L s<32/\∀x,x<5->((c7 D k qs L s).testBit x=true↔(L s).testBit x=true\/∃j,∃h:j<qs.length,fh D (k+j)=x/\s∈(dz D (k+j)).getD qs[j] [])
 |[],k,L,d,s=>⟨d s,λx g=>by simp[c7]⟩
 |q::qs,k,L,d,s=>by
  have e:∀s,jz (fh D k) ((dz D k).getD q []) L s<32:=λs=>by unfold jz;split;exact Hj _ (d s) _ (f k);exact d s
  obtain⟨l,m⟩:=sv D f qs (k+1) _ e s;refine⟨l,λx g=>?_⟩;simp only[c7];rw[m x g];have n:(jz (fh D k) ((dz D k).getD q []) L s).testBit x=true↔(L s).testBit x=true\/(fh D k=x/\s∈(dz D k).getD q []):=by unfold jz;split;rename_i i;rw[vm _ (d s) _ (f k) x g,L4,decide_eq_true_iff];exact or_congr l8 ⟨λh=>⟨h.symm,i⟩,λh=>h.1.symm⟩;rename_i i;exact⟨.inl,λh=>h.elim id λh=>absurd h.2 i⟩
  rw[n,or_assoc];refine or_congr l8 ⟨?_,?_⟩;rintro(⟨a,b⟩|⟨j,c,a,b⟩);exact⟨0,by simp,by simpa using a,by simpa using b⟩;exact⟨j+1,by simpa using c,by rw[show k+(j+1)=k+1+j by omega];exact a,by rw[show k+(j+1)=k+1+j by omega];simpa using b⟩;rintro⟨j,c,a,b⟩;match j,c,a,b with
  |0,c,a,b=>exact .inl ⟨by simpa using a,by simpa using b⟩
  |j+1,c,a,b=>
   rw[show k+(j+1)=k+1+j by omega]at a b;exact .inr ⟨j,by simpa using c,a,by simpa using b⟩
def u4{L:Nat}{x:Sx}{u:Du}{l t:List Nat}{a b:Nat}(h:a<=b):∀{f:Nat},t∈jI L x u f l b->t∈jI L x u f l a
 |0,c=>c
 |f+1,c=>by simp only[jI]at c⊢;split;rename_i d;rw[cx d]at c;exact c;rename_i d;rw[cr d]at c;obtain⟨i,e,c⟩:=lJ.1 c;have e:=eJ.1 e;refine lJ.2 ⟨b+i-a,eJ.2 (by omega),?_⟩;rw[show a+(b+i-a)=b+i by omega];exact c
theorem sB{L:Nat}{x:Sx}{u:Du}:∀{f:Nat} {l t:List Nat} {a:Nat},t∈jI L x u f l a->(t.length:Int)=u.tries
 |0,l,t,a,h=>by cases h
 |f+1,l,t,a,h=>by simp only[jI]at h;split at h;rename_i b;split at h;rw[fD.1 h];exact b;cases h;obtain⟨i,_,h⟩:=lJ.1 h;split at h;cases h;exact sB h
def pu{G:Gd}{x:Sx}{a b:Nat}(h:a<=b){t:List Nat}(c:t∈il G x b):t∈il G x a:=u4 h c
def vx{G:Gd}(d:1<=G.tries){x:Sx}(e:0<=x.mornings/\0<=x.evenings)(h:gA G.tries x=false):1<=(fQ G x).tries:=by
 unfold gA at h;simp only[Bool.or_eq_false_iff,Bool.and_eq_false_iff,decide_eq_false_iff_not]at h;obtain⟨_,h⟩:=h;simp only[fQ,FX,sJ,uS];rcases h with h|⟨f,g⟩;omega;have c:decide (2<=G.tries)=true:=decide_eq_true (by omega);rw[c,Bool.true_and,Bool.true_and];have:x.mornings=0\/x.evenings=0:=by omega
 have a:∀b:Bool,0<=FW b:=λb=>by cases b<;>decide
 have i:=a (decide (x.mornings=0));have j:=a (decide (x.evenings=0));rcases this with h|h;have:FW (decide (x.mornings=0))=1:=by rw[h];rfl
 omega;have:FW (decide (x.evenings=0))=1:=by rw[h];rfl
 omega
section
variable{G:Gd}{xs:List Sx}
def mL(f k:Nat):fh (iU G xs f) k=(cW G.tries xs).getD k 0:=rfl
def jD(f:Nat){k:Nat}(a:k<(cW G.tries xs).length):dz (iU G xs f) k=il G (xs.getD (cW G.tries xs)[k] oe) f:=by show((cW G.tries xs).map λd=>il G (xs.getD d oe) f).getD k []=_;rw[gU,mR,ew a];rfl
def sD(f:Nat){k:Nat}(a:¬k<(cW G.tries xs).length):dz (iU G xs f) k=[]:=by show((cW G.tries xs).map λd=>il G (xs.getD d oe) f).getD k []=_;rw[gU,IA (by rw[kV];omega)];rfl
theorem u5{D D':dR}(b:∀k,fh D k=fh D' k)(c:∀k,∀t∈dz D' k,t∈dz D k):∀(qs:List Nat) (k:Nat),(∀j (h:j<qs.length),qs[j]<(dz D' (k+j)).length)->∃ps:List Nat,ps.length=qs.length/\(∀j (h:j<ps.length),ps[j]<(dz D (k+j)).length)/\∀L,c7 D k ps L=c7 D' k qs L
 |[],k,_=>⟨[],rfl,λj h=>by simp at h,λL=>rfl⟩
 |q::qs,k,h=>by
  obtain⟨ps,f,g,i⟩:=u5 b c qs (k+1) λj a=>by have:=h (j+1) (by simpa using a);rw[show k+1+j=k+(j+1) by omega];simpa using this
  have d:q<(dz D' k).length:=h 0 (by simp);obtain⟨p,e,l⟩:=List.getElem_of_mem (c k _ (dt d));refine⟨p::ps,by simp[f],λj a=>?_,λL=>?_⟩;match j,a with
  |0,a=>simpa using e
  |j+1,a=>
   have:=g j (by simpa using a);rw[show k+(j+1)=k+1+j by omega];simpa using this
  simp only[c7];rw[i,b,getD_eq e,getD_eq d,l]
def ve{D D':dR}(a:D.counts=D'.counts){L:Nat->Nat}{ps qs:List Nat}{l:List Int}{m k:Int}(h:dX D' L qs=some (l,m,k)):dX D L ps=some (ps.map Int.ofNat,m,k):=by unfold dX gH at h⊢;rw[a];split at h;cases h;rename_i b;rw[cr b];injection h with h;injection h with _ h;injection h with c d;rw[c,d]
def vi{a b:Nat}(h:a<=b):c8 (gm (iU G xs a)) (gm (iU G xs b)):=by
 have c:=jN (iU G xs b);cases i:gm (iU G xs b)with
 |none=>trivial
 |some s=>
  obtain⟨l,m,k⟩:=s;rw[i]at c;obtain⟨qs,n,o,p⟩:=c;obtain⟨q,r,u,v⟩:=u5 (D:=iU G xs a) (D':=iU G xs b) (λ_=>rfl) (λk t e=>by by_cases g:k<(cW G.tries xs).length;rw[jD _ g]at e⊢;exact pu h e;rw[sD _ g]at e;cases e) qs 0 λj f=>by simpa using o j f
  have d:=oN (iU G xs a) (qs:=q) (by rw[r,n];rfl) λj f=>by simpa using u j f
  rw[v,ve (D:=iU G xs a) (D':=iU G xs b) rfl p]at d;exact d
def tc{a b:Nat}(h:a<=b)(e:(uV (iU G xs b)).2=true):(uV (iU G xs a)).2=true/\(uV (iU G xs a)).1<=(uV (iU G xs b)).1:=by
 have c:=vi (G:=G) (xs:=xs) h;simp only[uV]at e⊢;cases f:gm (iU G xs b)with
 |none=>rw[f]at e;cases e
 |some s=>
  obtain⟨l,m,k⟩:=s;rw[f]at c;cases d:gm (iU G xs a)with
  |none=>rw[d]at c;exact c.elim
  |some g=>
   obtain⟨j,i,n⟩:=g;rw[d]at c;refine⟨rfl,?_⟩;simp only[c8]at c;show i<=m;omega
def vk{a b:Nat}(h:a<=b){d:Nat}(e:d∈Gi G xs a):d∈Gi G xs b:=by unfold Gi at e⊢;obtain⟨f,c⟩:=ug.1 e;refine ug.2 ⟨f,?_⟩;unfold ki at c⊢;rw[L4]at c⊢;refine c.imp (λc=>?_) id;rw[List.isEmpty_iff]at c⊢;refine List.eq_nil_iff_forall_not_mem.2 λt g=>?_;have:=pu h g;rw[c]at this;cases this
def vr{d:Nat}(h:d∈cW G.tries xs):∃b:d<xs.length,gA G.tries xs[d]=false/\xs.getD d oe=xs[d]:=by have a:=kh h;refine⟨a,?_,getD_eq a⟩;have:=(ug.1 h).2;rw[ew a]at this;simpa using this
def qw(g:xs.length<=5){f:Nat}{qs:List Nat}(o:qs.length=(cW G.tries xs).length)(s:Nat):c7 (iU G xs f) 0 qs L0 s<32/\∀x,x<5->((c7 (iU G xs f) 0 qs L0 s).testBit x=true↔∃j,∃h:j<qs.length,∃p:j<(cW G.tries xs).length,(cW G.tries xs)[j]=x/\s∈(il G (xs.getD (cW G.tries xs)[j] oe) f).getD qs[j] []):=by
 have d:∀k,fh (iU G xs f) k<5:=λk=>by rw[mL];by_cases i:k<(cW G.tries xs).length;rw[getD_eq i];have:=kh (dt i);omega;rw[gU,IA (by omega)];decide
 obtain⟨l,m⟩:=sv (iU G xs f) d qs 0 L0 (λ_=>by show 0<32;decide) s;refine⟨l,λx g=>?_⟩;rw[m x g];have n:¬(L0 s).testBit x=true:=by simp[L0]
 constructor;rintro(h|⟨j,e,b,c⟩);exact absurd h n;rw[cB]at b c;have a:j<(cW G.tries xs).length:=by omega
 rw[mL,getD_eq a]at b;rw[jD f a]at c;exact⟨j,e,a,b,c⟩;rintro⟨j,e,a,b,c⟩;refine .inr ⟨j,e,?_,?_⟩;rw[cB,mL,getD_eq a];exact b;rw[cB,jD f a];exact c
def vn(b:xs.length<=5){f:Nat}{qs:List Nat}(c:qs.length=(cW G.tries xs).length):gH (iU G xs f) (c7 (iU G xs f) 0 qs L0)=(List.range 6).map λs=>nW G (c7 (iU G xs f) 0 qs L0 s):=by show((List.range 6).map (c7 (iU G xs f) 0 qs L0)).map _=_;rw[List.map_map];refine List.map_congr_left λs _=>?_;simp only[Function.comp];obtain⟨d,e⟩:=qw (G:=G) b (f:=f) c s;exact vf b f d λx a g=>by obtain⟨j,_,h,i,_⟩:=(e x a).1 g;rw[<-i];exact dt h
def vp(D:G.Ok)(W:xs.length=G.doors.length)(Q:∀x∈xs,0<=x.mornings/\0<=x.evenings)(f:Nat):(gm (iU G xs f)).isSome=(Gi G xs f).isEmpty:=by
 have hm:=D.many;have X:=D.tries;have E:∀{qs:List Nat},qs.length=(cW G.tries xs).length->∀s,lP G (c7 (iU G xs f) 0 qs L0 s):=λF s=>by obtain⟨u,R⟩:=qw (G:=G) (xs:=xs) (f:=f) (by omega) F s;refine⟨u,λd v=>?_⟩;obtain⟨c,w⟩:=nK.1 v;obtain⟨j,_,g,p,_⟩:=(R d c).1 w;rw[<-p,<-W];exact kh (dt g)
 rw[Bool.eq_iff_iff,List.isEmpty_iff];constructor;intro h;obtain⟨⟨l,m,k⟩,V⟩:=Option.isSome_iff_exists.1 h;have H:=jN (iU G xs f);rw[V]at H;obtain⟨qs,u,R,p⟩:=H;have u:qs.length=(cW G.tries xs).length:=u;refine List.eq_nil_iff_forall_not_mem.2 λd v=>?_;obtain⟨I,a⟩:=ug.1 v;obtain⟨j,g,z⟩:=List.getElem_of_mem I;have F:=R j (by omega);rw[jD f g,z]at F;obtain⟨S,A,J⟩:=vr I;have q:=dt F;have t:=sB q;have i:=vx X.1 (Q _ (dt S)) A;rw[<-J]at i;obtain⟨s,K⟩:∃s,s∈(il G (xs.getD d oe) f)[qs[j]]:=by
  cases Y:(il G (xs.getD d oe) f)[qs[j]]with
  |nil=>rw[Y]at t;rw[<-t]at i;simp at i
  |cons s r=>exact⟨s,by simp⟩
 have T:s<6:=((sn D _ f).2 _ q).2 s K;have c:d<5:=by omega
 have L:=((qw (G:=G) (xs:=xs) (f:=f) (by omega) u s).2 d c).2 ⟨j,by omega,g,z,by rw[z,getD_eq F];exact K⟩;have M:0<=nW G (c7 (iU G xs f) 0 qs L0 s):=by unfold dX at p;rw[vn (by omega) u]at p;split at p;cases p;rename_i n;refine Int.not_lt.1 λb=>n (List.any_eq_true.2 ⟨_,jj.2 ⟨s,eJ.2 T,rfl⟩,decide_eq_true b⟩)
 have B:=(rT D (E u s)).1 M d (nK.2 ⟨c,L⟩);unfold ki at a;rw[B]at a;have:(il G (xs.getD d oe) f).isEmpty=true:=by simpa using a
 rw[List.isEmpty_iff]at this;have U:=cM List.length this;simp only[fC]at U;omega;intro h
 have N:∀d∈cW G.tries xs,ki G xs f d=false:=λd v=>by
  cases w:ki G xs f d with
  |false=>rfl
  |true=>
   have:d∈Gi G xs f:=ug.2 ⟨v,w⟩;rw[h]at this;cases this
 obtain⟨qs,O⟩:∃qs,qs=List.replicate (cW G.tries xs).length 0:=⟨_,rfl⟩;have o:qs.length=(cW G.tries xs).length:=by rw[O,List.length_replicate]
 have C:=oN (iU G xs f) (qs:=qs) o λj g=>by
  have P:j<(cW G.tries xs).length:=by omega
  have:=N _ (dt P);unfold ki at this;rw[Bool.or_eq_false_iff]at this;rw[jD f P];have U:qs[j]=0:=by simp[O]
  rw[U];refine List.length_pos_iff.2 λe=>?_;rw[e]at this;exact absurd this.1 (by simp)
 have g:∃m k,dX (iU G xs f) (c7 (iU G xs f) 0 qs L0) qs=some (qs.map Int.ofNat,m,k):=by
  unfold dX;rw[vn (by omega) o];split;rename_i n;obtain⟨y,Z,b⟩:=List.any_eq_true.1 n;obtain⟨s,V,rfl⟩:=jj.1 Z;have b:=cY b;have:=(rT D (E o s)).2 λd v=>by obtain⟨c,w⟩:=nK.1 v;obtain⟨j,_,g,p,_⟩:=((qw (G:=G) (xs:=xs) (f:=f) (by omega) o s).2 d c).1 w;have:=N d (by rw[<-p];exact dt g);unfold ki at this;rw[Bool.or_eq_false_iff]at this;simpa using this.2
  omega;exact⟨_,_,rfl⟩
 obtain⟨m,k,g⟩:=g;rw[g]at C;cases w:gm (iU G xs f)with
 |none=>rw[w]at C;exact C.elim
 |some s=>rfl
end
def Pf(t:Ty):Tq:=⟨t.door,t.shift,t.opened⟩
def wE(w:cd)(a:Option Addr)(l:List Ty):Prop:=∀k (h:k<l.length),∃b o,a=some ⟨b,o,none⟩/\∀j v,(tL l[k])[j]? =some v->w.cell? ⟨b,o+k*3+j,none⟩=some v
def wE.ext{w w':cd}{a:Option Addr}{l:List Ty}(h:wE w a l)(e:Ext w w'):wE w' a l:=λk c=>by obtain⟨b,o,d,f⟩:=h k c;exact⟨b,o,d,λj v g=>e.cell (f j v g)⟩
def wE.q{w:cd}{a:Option Addr}{l:List Ty}(h:wE w a l):sI w a (l.map Pf):=λk c=>by obtain⟨b,o,d,e⟩:=h k (by simpa using c);exact⟨b,o,d,λj v f=>e j v (by simpa[Pc,Pf,tL]using f)⟩
def fM(l:List Ty)(d h:Nat):Nat:=(l.filter λt=>decide (t.door=d/\t.shift%2=h)).length
def Ar(l:List Ty)(d:Nat):Bool:=l.any λt=>decide (t.door=d)&&t.opened
def lH(l:List Ty)(d a:Nat):Bool:=l.any λt=>decide (t.door=d)&&decide (t.shift/2=a)
def tS(l:List Ty)(t:Ty)(d h:Nat):fM (l++[t]) d h=fM l d h+if t.door=d/\t.shift%2=h then 1 else 0:=by simp only[fM,List.filter_append,fX];congr 1;by_cases c:t.door=d/\t.shift%2=h<;>simp[List.filter,c]
def tT(l:List Ty)(t:Ty)(d:Nat):Ar (l++[t]) d=(Ar l d||(decide (t.door=d)&&t.opened)):=by simp[Ar]
def As(l:List Ty)(t:Ty)(d a:Nat):lH (l++[t]) d a=(lH l d a||(decide (t.door=d)&&decide (t.shift/2=a))):=by simp[lH]
def nL(l:List Ty)(d h:Nat):fM l d h<=l.length:=List.length_filter_le ..
def JD{m n:Nat}(a:0<n)(w:cd):Calls V.prog 34 #[.int .i64 m,.int .i64 n] w (fy λv w'=>v=.int .i64 ((m%n:Nat):Int)/\w'=w):=by refine go (V.fn Tryz.func34 (by decide)) Tryz.ntmps34 ?_;exact C8 a (cV (iG (by simp;omega) ⟨_,rfl,rfl,rfl⟩))
def pt{l:List Ty}{la:Option Addr}{lc:Nat}{w:cd}(t:wE w la l)(s:l.length<=100000)(d h:Nat):Calls V.prog 74 #[.slice la l.length lc,.int .i64 d,.int .i64 h] w (fy λv w'=>v=.tuple #[.int .i64 (fM l d h),.bool (Ar l d)]/\w'=w):=by
 refine go (V.fn Tryz.func74 (by decide)) Tryz.ntmps74 ?_;refine dZ l.length (λk (_:Unit)=>[(0,.slice la l.length lc),(1,.int .i64 d),(2,.int .i64 h),(8,.int .i64 (fM (l.take k) d h)),(9,.bool (Ar (l.take k) d)),(10,.int .i64 k)]) (λ_ _ w'=>w'=w) () ⟨⟨rfl,rfl,rfl,rfl,rfl,rfl,trivial⟩,rfl⟩ ?_;rintro k _ x y rfl;refine cD (cV ⟨λm=>?_,λp=>?_⟩);have a:k<l.length:=by simpa using m
 obtain⟨b,o,rfl,j⟩:=t k a;have u:=nL (l.take k) d h;rw[yy]at u;have f:=tS (l.take k) l[k] d h;have g:=tT (l.take k) l[k] d;rw[<-gP a]at f g;refine fF k 3 a (cu (j 0 _ rfl) (eh ⟨λi=>?_,λi=>?_⟩));have i:l[k].door=d:=Int.ofNat.inj (cY i);rw[decide_eq_true i,Bool.true_and]at g;refine⟨λr=>?_,λr=>?_⟩;rw[r,Bool.true_or]at g;refine fF k 3 a (cu (j 1 _ rfl) (cS (JD (n:=2) (by omega) _) (eh ⟨λc=>?_,λc=>?_⟩)));have c:l[k].shift%2=h:=Int.ofNat.inj (cY c);rw[cx ⟨i,c⟩]at f;refine cq (cq ⟨a,(),⟨rfl,rfl,rfl,?_,?_,rfl,trivial⟩,rfl⟩);show some _=some _;rw[f];rfl;show some _=some _;rw[g];have c:¬l[k].shift%2=h:=λe=>dQ c (cM Int.ofNat e);rw[cr (λq=>c q.2),mT (fM (l.take k) d h)]at f;refine cq ⟨a,(),⟨rfl,rfl,rfl,?_,?_,rfl,trivial⟩,rfl⟩;show some _=some _;rw[f];show some _=some _;rw[g];rw[r,Bool.false_or]at g;refine fF k 3 a (cu (j 2 _ rfl) (fF k 3 a (cu (j 1 _ rfl) (cS (JD (n:=2) (by omega) _) (eh ⟨λc=>?_,λc=>?_⟩)))));have c:l[k].shift%2=h:=Int.ofNat.inj (cY c);rw[cx ⟨i,c⟩]at f;refine cq (cq ⟨a,(),⟨rfl,rfl,rfl,?_,?_,rfl,trivial⟩,rfl⟩);show some _=some _;rw[f];rfl;show some _=some _;rw[g];have c:¬l[k].shift%2=h:=λe=>dQ c (cM Int.ofNat e);rw[cr (λq=>c q.2),mT (fM (l.take k) d h)]at f;refine cq ⟨a,(),⟨rfl,rfl,rfl,?_,?_,rfl,trivial⟩,rfl⟩;show some _=some _;rw[f];show some _=some _;rw[g];have i:¬l[k].door=d:=λe=>dQ i (cM Int.ofNat e);rw[cr (λq=>i q.1),mT (fM (l.take k) d h)]at f;rw[jT i,Bool.false_and,Bool.or_false]at g;refine cq ⟨a,(),⟨rfl,rfl,rfl,?_,?_,rfl,trivial⟩,rfl⟩;show some _=some _;rw[f];show some _=some _;rw[g];obtain rfl:k=l.length:=by simp at p;omega
 rw[kX];exact⟨_,rfl,rfl,rfl⟩
def u6(G:Gd)(a b:Nat):Bool:=decide (G.tries<=(a:Int)+b)&&(decide (G.tries<2)||(decide (0<(a:Int))&&decide (0<(b:Int))))
def Au{G:Gd}{h:Option Addr}{dc:Nat}{w:cd}(a b:Nat)(k:a<=1000000)(i:b<=1000000):Calls V.prog 75 #[gV G h dc,.int .i64 a,.int .i64 b] w (fy λv w'=>v=.bool (u6 G a b)/\Ext w w'):=by refine go (V.fn Tryz.func75 (by decide)) Tryz.ntmps75 ?_;refine fo λl m e j g=>cq (cu (ci g rfl) (n6 ⟨λd=>?_,λd=>?_⟩));refine cu (ci g rfl) (cV ⟨λf=>?_,λf=>?_⟩);exact⟨_,rfl,by simp[u6,d,f],e⟩;refine ny ⟨λc=>?_,λc=>?_⟩;have c:0<(a:Int):=cY c;exact ny ⟨_,rfl,by rw[u6,d,f,decide_eq_true c];rfl,e⟩;have c:¬0<(a:Int):=dQ c;exact⟨_,rfl,by rw[u6,d,f,jT c];rfl,e⟩;exact⟨_,rfl,by simp[u6,d],e⟩
def oM(G:Gd)(l:List Ty)(d:Nat):Bool:=Ar l d||u6 G (fM l d 0) (fM l d 1)
def mF{G:Gd}{f:Option Addr}{dc:Nat}{l:List Ty}{la:Option Addr}{lc:Nat}{w:cd}(e:wE w la l)(a:l.length<=100000)(d:Nat):Calls V.prog 49 #[gV G f dc,.slice la l.length lc,.int .i64 d] w (fy λv w'=>v=.bool (oM G l d)/\Ext w w'):=by refine go (V.fn Tryz.func49 (by decide)) Tryz.ntmps49 ?_;refine fo λj k b g h=>?_;have m:=nL l d 0;have n:=nL l d 1;refine cS (pt (e.ext b) a d 0) (cS (pt (e.ext b) a d 1) ⟨λc=>?_,λc=>?_⟩);exact⟨_,rfl,by simp[oM,c],b⟩;refine di h (dq (Au (fM l d 0) (fM l d 1) (by omega) (by omega)) λo i=>⟨_,rfl,by simp[oM,c],b.trans i⟩)
def xx{l:List Ty}{la:Option Addr}{lc:Nat}{w:cd}(s:wE w la l)(q:l.length<=100000)(u:∀t∈l,t.shift<=1000000)(d a:Nat):Calls V.prog 98 #[.slice la l.length lc,.int .i64 d,.int .i64 a] w (fy λv w'=>v=.bool (lH l d a)/\w'=w):=by
 refine go (V.fn Tryz.func98 (by decide)) Tryz.ntmps98 ?_;refine dZ l.length (λk (_:Unit)=>[(0,.slice la l.length lc),(1,.int .i64 d),(2,.int .i64 a),(7,.int .i64 k)]) (λk _ w'=>w'=w/\lH (l.take k) d a=false) () ⟨⟨rfl,rfl,rfl,rfl,trivial⟩,rfl,by simp[lH]⟩ ?_;rintro k _ y z ⟨rfl,h⟩;refine cD (cV ⟨λi=>?_,λj=>?_⟩);have c:k<l.length:=by simpa using i
 obtain⟨b,o,rfl,r⟩:=s k c;have m:=As (l.take k) l[k] d a;rw[<-gP c,h,Bool.false_or]at m;have x:=u _ (dt c);have p:l[k].door=d->l[k].shift/2=a->lH l d a=true:=λf g=>List.any_eq_true.2 ⟨_,dt c,by simp[f,g]⟩;refine fF k 3 c (cu (r 0 _ rfl) (eh ⟨λf=>?_,λf=>?_⟩));have f:l[k].door=d:=Int.ofNat.inj (cY f);refine fF k 3 c (cu (r 1 _ rfl) (rG (n:=2) (by omega) (by omega) (eh ⟨λg=>?_,λg=>?_⟩)));have g:l[k].shift/2=a:=Int.ofNat.inj (cY g);exact⟨_,rfl,by rw[p f g];rfl,rfl⟩;have g:¬l[k].shift/2=a:=λe=>dQ g (cM Int.ofNat e);exact cq ⟨c,(),⟨rfl,rfl,rfl,rfl,trivial⟩,rfl,by rw[m,jT g,Bool.and_false]⟩;have f:¬l[k].door=d:=λe=>dQ f (cM Int.ofNat e);exact iG rfl (cq ⟨c,(),⟨rfl,rfl,rfl,rfl,trivial⟩,rfl,by rw[m,jT f,Bool.false_and]⟩);obtain rfl:k=l.length:=by simp at j;omega
 rw[kX]at h;exact⟨_,rfl,by rw[h];rfl,rfl⟩
def jM(l:List Ty)(d:Nat):Sx:=⟨((fM l d 0+fM l d 1:Nat):Int),(fM l d 0:Nat),(fM l d 1:Nat),Ar l d,lH l d 0,lH l d 1,lH l d 2,false⟩
def wF(G:Gd)(l:List Ty)(d:Nat):gA G.tries (jM l d)=oM G l d:=by simp only[gA,jM,oM,u6,Bool.false_or,Int.natCast_add];rfl
def OL(l:List Ty)(d k:Nat)(a:k<3):tH (jM l d) k=lH l d k:=by
 obtain rfl|rfl|rfl:k=0\/k=1\/k=2:=by omega
 all_goals rfl
def Ii(l:List Ty)(d s:Nat)(o:Bool)(c:s<6):iJ (jM l d) s o=jM (l++[⟨d,s,o⟩]) d:=by
 have b:s%2=0\/s%2=1:=by omega
 have a:s/2=0\/s/2=1\/s/2=2:=by omega
 simp only[iJ,jM,tS,tT,As,true_and,decide_true,Bool.true_and];rcases b with b|b<;>rcases a with a|a|a<;>simp[b,a]<;>omega
def Ij(l:List Ty)(t:Ty)(d:Nat)(h:t.door≠d):jM (l++[t]) d=jM l d:=by simp only[jM,tS,tT,As,h,false_and,eo,mT,decide_false,Bool.false_and,Bool.or_false]
def lastT(b:Int)(l:List Tq):Int:=match l.getLast? with
 |some t=>t.shift
 |none=>b
theorem Cd(G:Gd)(t:Tq):∀(l:List Tq) (xs ys:List Sx) (b:Int),rL G xs b l=(0,ys)->rL G xs b (l++[t])=rL G ys (lastT b l) [t]
 |[],xs,ys,b,h=>by simp only[rL,Prod.mk.injEq,true_and]at h;subst h;rfl
 |x::r,xs,ys,b,h=>by
  have e:lastT b (x::r)=lastT x.shift r:=by unfold lastT;rw[List.getLast?_cons];cases r.getLast?<;>rfl
  rw[e,qn];simp only[rL]at h;conv=>lhs;unfold rL
  split at h;rename_i a;rw[cx a];split at h;simp at h;rename_i c;rw[cr c];split at h;simp at h;rename_i d;rw[cr d];split at h;simp at h;rename_i f;rw[cr f];exact Cd G t r _ ys _ h;simp at h
structure Made(G:Gd)(l:List Ty)(s:Nat):Prop where
 log:gO G (l.map Pf)=(0,(List.range G.doors.length).map (jM l))
 last:∀t∈l,t.shift<=s
def Made.nil(G:Gd):Made G [] 0:=⟨by simp only[gO,qK,rL];congr 1;refine List.ext_getElem (by simp) λi a b=>?_;simp only[List.getElem_replicate,List.getElem_map];rfl,λt h=>by cases h⟩
def Made.up{G:Gd}{l:List Ty}{s s':Nat}(h:Made G l s)(a:s<=s'):Made G l s':=⟨h.log,λt b=>cJ (h.last t b) a⟩
def Made.more{G:Gd}{l:List Ty}{s d:Nat}{o:Bool}(h:Made G l s)(c:d<G.doors.length)(p:(s:Int)<2*G.days)(q:G.days<=3)(f:lH l d (s/2)=false)(g:oM G l d=false):Made G (l++[⟨d,s,o⟩]) s:=by
 refine⟨?_,λt a=>?_⟩;have j:((List.range G.doors.length).map (jM l)).getD d oe=jM l d:=by rw[gU,mR,List.getElem?_range c];rfl
 have r:lastT 0 (l.map Pf)<=s:=by
  unfold lastT;rw[List.getLast?_map];cases k:l.getLast? with
  |none=>exact Int.natCast_nonneg s
  |some t=>exact Int.ofNat_le.2 (h.last t (List.mem_of_getLast? k))
 have e:=Cd G ⟨(d:Int),(s:Int),o⟩ _ _ _ 0 h.log;have m:(jX (d:Int) 0 ((G.doors.length:Int)-1)&&jX (s:Int) 0 (2*G.days-1))=true:=by simp[jX];omega
 rw[gO,nQ,jP,qK];refine e.trans ?_;have b:((List.range G.doors.length).map (jM l)).getD ((d:Int)).toNat oe=jM l d:=j;simp only[rL,m,cX];rw[cr (by omega),b,OL l d _ (by omega),wF];simp only[ql];rw[f,g];simp only[iq,eo,rL];congr 1;rw[Ii l d s o (by omega)];refine List.ext_getElem (by simp) λi u n=>?_;have v:i<G.doors.length:=by simpa using n
 rw[List.getElem_set];simp only[List.getElem_map,List.getElem_range];split;rename_i e;rw[e];rename_i e;exact(Ij l ⟨d,s,o⟩ i e).symm;rcases gl.1 a with a|a;exact h.last t a;rw[fD.1 a];exact cz _
def U6:FD 25 84 [.int .i64 0,.int .i64 0,.bool false]:=⟨by kernel_rfl,Tryz.t84,_,by kernel_rfl,rfl,by kernel_rfl,by kernel_rfl,by decide+kernel,by decide⟩
def sK(n0:Nat)(w:cd)(v:ce)(l:List Ty):Prop:=cA n0 84 [.int .i64 0,.int .i64 0,.bool false] w v l.length (l.flatMap tL)
theorem OM{α:Type}{f:α->List ce}{n:Nat}(a:∀x,(f x).length=n):∀l:List α,(l.flatMap f).length=l.length*n
 |[]=>by simp
 |t::r=>by rw[ky,fX,a,OM a r,dW,Nat.add_mul,Nat.one_mul,Nat.add_comm]
theorem Ik{α:Type}{f:α->List ce}{n:Nat}(a:∀x,(f x).length=n):∀(l:List α) (k:Nat) (b:k<l.length) (j:Nat) (v:ce),(f l[k])[j]? =some v->(l.flatMap f)[k*n+j]? =some v
 |x::r,0,_,j,v,h=>by have c:j<(f x).length:=(gy.1 h).1;rw[ky,Nat.zero_mul,cB,kz c];exact h
 |x::r,k+1,b,j,v,h=>by have d:=Ik a r k (by simpa using b) j v (by simpa using h);rw[ky,mQ (by rw[a,Nat.add_mul];omega),a,show(k+1)*n+j-n=k*n+j by rw[Nat.add_mul];omega];exact d
def Lz(l:List Ty):(l.flatMap tL).length=l.length*3:=OM (f:=tL) (n:=3) (λ_=>rfl) l
def LA(l:List Ty)(k:Nat)(a:k<l.length)(j:Nat)(v:ce)(h:(tL l[k])[j]? =some v):(l.flatMap tL)[k*3+j]? =some v:=Ik (f:=tL) (n:=3) (λ_=>rfl) l k a j v h
def sK.row{n0:Nat}{w:cd}{v:ce}{l:List Ty}(h:sK n0 w v l):∃a c,v=.slice a l.length c/\wE w a l/\l.length<=c:=by obtain⟨p,⟨d,rfl⟩|⟨b,c,q,r,rfl,g,s,i,t,m,u⟩⟩:=h;exact⟨none,0,by rw[d],λk e=>by omega,by omega⟩;refine⟨_,c,rfl,λk e=>⟨b,0,rfl,λj v f=>ci g ?_⟩,i⟩;have n:j<(tL l[k]).length:=(gy.1 f).1;have o:(tL l[k]).length=3:=rfl;have d:=Lz l;rw[cB,m _ (by omega)];exact LA l k e j v f
def sK.low{n0 a:Nat}{w:cd}{v:ce}{l:List Ty}(h:sK n0 w v l)(g:a<=n0):sK a w v l:=by obtain⟨d,h|⟨b,c,e,i,f⟩⟩:=h;exact⟨d,.inl h⟩;exact⟨d,.inr ⟨b,c,e,by omega,f⟩⟩
def Ce{d:Nat}{w:cd}(h:gI d w){G:Gd}{O:Option Addr}{dc:Nat}(hG:eg G=0):Calls V.prog 29 #[cK d,gV G O dc] w (fy λv w'=>DE d w w'/\∃l s,sK w.heap.size w' v l/\Made G l s/\(s:Int)<2*G.days/\l.length<=30):=by
 have ok:=ek hG;have hm:=ok.many;have T:=ok.days;refine go (V.fn Tryz.func29 (by decide)) Tryz.ntmps29 ?_;refine fo λj r u af A=>?_;have ag:=h.lt;have ah:=cF.lt_of_heap A;refine cu (ci A rfl) (tE (fx (ck (nJ (h.ext u) (2*G.days-1) (by omega)) ?_)));rintro _ w2 ⟨⟨z,rfl,ai,hz⟩,d2⟩;have U:=d2.1.fg A (show¬r=d by omega);have aj:z<=2*G.days-1:=by omega
 refine dZ z.toNat (λs (x:ce×List Ty)=>[(0,cK d),(3,cK r),(5,x.1),(6,.int .i64 z),(7,.int .i64 s)]) (λs x w'=>DE d j w'/\w'.heap[r]? =some (.cells (gV G O dc).cells 24)/\sK j.heap.size w' x.1 x.2/\Made G x.2 s/\x.2.length<=5*s) (.slice none 0 0,[]) ⟨⟨rfl,rfl,rfl,rfl,rfl,trivial⟩,d2,U,cA.nil _ _ _ _,Made.nil G,cz _⟩ ?_;rintro s ⟨v,l⟩ w3 hs ⟨d3,W,y,k,m⟩;simp only at y k m;refine cV ⟨λB=>?_,λC=>?_⟩;have X:(s:Int)<z:=cY B;refine dZ G.doors.length (λi (x:ce×List Ty)=>[(0,cK d),(3,cK r),(5,x.1),(6,.int .i64 z),(7,.int .i64 s),(8,.int .i64 i)]) (λi x w'=>DE d j w'/\w'.heap[r]? =some (.cells (gV G O dc).cells 24)/\sK j.heap.size w' x.1 x.2/\Made G x.2 s/\x.2.length<=5*s+i) (v,l) ⟨⟨rfl,rfl,rfl,rfl,rfl,rfl,trivial⟩,d3,W,y,k,m⟩ ?_;rintro i ⟨v,l⟩ w4 hi ⟨Y,D,y,k,m⟩;simp only at y k m;refine cu (ci D rfl) (cD (cV ⟨λB=>?_,λC=>?_⟩));have f:i<G.doors.length:=by simpa using B
 refine ck (Ap (Y.2 (h.ext u)) 3 (by omega)) ?_;rintro _ P ⟨⟨b,rfl⟩,Z⟩;have E:=Z.1.fg D (show¬r=d by omega);have F:=Y.trans Z;have o:sK j.heap.size P v l:=cA.keep y Z.1 λb A e=>by have:=(cA.blk y A).1;have:=u.size;omega
 obtain⟨a,c,rfl,L,hc⟩:=o.row;have g:∀I,Ext P I->DE d j I/\I.heap[r]? =some (.cells (gV G O dc).cells 24)/\sK j.heap.size I (.slice a l.length c) l/\Made G l s/\l.length<=5*s+(i+1):=λI p=>⟨F.trans (p.de d),p.at_ E,cA.ext o p,k,by omega⟩;refine⟨λaa=>?_,λaa=>?_⟩;refine rG (n:=2) (by omega) (by omega) (cS (xx L (by omega) (λt ht=>by have:=k.last t ht;omega) i (s/2)) (eu ⟨λQ=>?_,λQ=>?_⟩));have Q:lH l i (s/2)=false:=by simpa using Q
 refine di E (dq (mF L (by omega) i) λI p=>eu ⟨λR=>?_,λR=>?_⟩);have R:oM G l i=false:=by simpa using R
 have ab:=p.at_ E;refine ck (Ap ((p.de d).2 (F.2 (h.ext u))) 4 (by omega)) ?_;rintro _ w7 ⟨⟨S,rfl⟩,d7⟩;have ac:=d7.1.fg ab (show¬r=d by omega);have q:sK j.heap.size w7 (.slice a l.length c) l:=cA.keep (cA.ext o p) d7.1 λb A e=>by have:=(cA.blk o A).1;have:=u.size;omega
 have M:=(F.trans (p.de d)).trans d7;refine dA (.agg (tL ⟨i,s,S⟩).toArray) (dJ (tL ⟨i,s,S⟩) 84 λw8 nb J ak ad=>fP U6 (cA.ext q J) (by have:=M.1.size;have:=J.size;omega) ad (by omega) λv' w9 ae k9 _=>cq ⟨f,(v',l++[⟨i,s,S⟩]),⟨rfl,rfl,rfl,rfl,rfl,rfl,trivial⟩,?_,?_,?_,k.more f (by omega) (by omega) Q R,by simp;omega⟩);have N:=M.trans (J.de d);refine⟨(N.1.trans k9 (H:=λx=>x=d\/j.heap.size<=x) (λ_ _ h=>.inl h) λx _ K=>.inr (cA.blk (cA.ext q J) K).1).trans (cN.refl (λ_=>False) _) (λx K h=>h.elim id λh=>by omega) λ_ _ h=>h.elim,λhD=>(N.2 hD).keep k9 λx K=>?_⟩;have:=(cA.blk (cA.ext q J) K).1;have:=u.size;omega;refine k9.fg (J.at_ ac) λK=>?_;have:=(cA.blk (cA.ext q J) K).1;omega;unfold sK;rw[fX,List.flatMap_append];have h9:cA j.heap.size 84 [.int .i64 0,.int .i64 0,.bool false] w9 v' (l.length+1) (l.flatMap tL++tL ⟨i,s,S⟩):=ae;simpa using h9;exact cq ⟨f,(.slice a l.length c,l),⟨rfl,rfl,rfl,rfl,rfl,rfl,trivial⟩,g I p⟩;exact iG rfl (cq ⟨f,(.slice a l.length c,l),⟨rfl,rfl,rfl,rfl,rfl,rfl,trivial⟩,g P (Ext.refl _)⟩);exact iG rfl (iG rfl (cq ⟨f,(.slice a l.length c,l),⟨rfl,rfl,rfl,rfl,rfl,rfl,trivial⟩,g P (Ext.refl _)⟩));obtain rfl:i=G.doors.length:=by simp at C;omega
 exact cq ⟨by omega,(v,l),⟨rfl,rfl,rfl,rfl,rfl,trivial⟩,Y,D,y,k.up (by omega),by simp only;omega⟩;have X:¬(s:Int)<z:=dQ C;exact⟨_,rfl,(u.de d).trans d3,l,s,y.low u.size,k,by omega,by omega⟩
def Cf(G:Gd)(xs:List Sx)(ds:List Nat):List ce:=ds.flatMap λd=>qE d (fQ G (xs.getD d oe))
theorem Cg(G:Gd)(xs:List Sx):∀ds,(Cf G xs ds).length=ds.length*4
 |[]=>rfl
 |d::r=>by have:=Cg G xs r;simp only[Cf,ky,fX,dW]at this⊢;rw[this];show 4+_=_;omega
def Ci(n0:Nat)(w:cd)(v:ce)(G:Gd)(xs:List Sx)(ds:List Nat):Prop:=cA n0 101 [.int .i64 0,.int .i64 0,.bool false,.bool false] w v ds.length (Cf G xs ds)
structure TE(n0:Nat)(X:Array ce)(a b:cd):Prop where
 k:cN (λx=>n0<=x) a b
 d:∀x:Nat,a.heap[x]? =some (.cells X 56)->b.heap[x]? =some (.cells X 56)
 z:∀(x:Nat) cs,a.heap[x]? =some (.cells cs 56)->∃tl,b.heap[x]? =some (.cells tl 56)/\tl.size=cs.size
theorem TE.trans{n0:Nat}{X:Array ce}{a b c:cd}(h:TE n0 X a b)(k:TE n0 X b c):TE n0 X a c:=⟨h.k.trans k.k (λ_ _ h=>h) λ_ _ h=>h,λx e=>k.d x (h.d x e),λx f e=>by obtain⟨g,i,j⟩:=h.z x f e;obtain⟨l,m,n⟩:=k.z x g i;exact⟨l,m,n.trans j⟩⟩
theorem eW.blk{n0:Nat}{w:cd}{v:ce}{a:List (List Nat)}(h:eW n0 w v a){b:Nat}(c:cw v b):n0<=b/\b<w.heap.size:=by obtain⟨e,d,_⟩:=h;exact d.blk c
def qy(l:List Ty):Nat:=match l.getLast? with
 |some t=>t.shift
 |none=>0
def Io{l:List Ty}{la:Option Addr}{lc:Nat}{w:cd}(d:wE w la l)(c:l.length<=100000):Calls V.prog 31 #[.slice la l.length lc] w (fy λv w'=>v=.int .i64 (qy l)/\w'=w):=by
 refine go (V.fn Tryz.func31 (by decide)) Tryz.ntmps31 ?_;refine cD (eh ⟨λh=>?_,λh=>?_⟩);have h:l.length=0:=Int.ofNat.inj (cY h);obtain rfl:l=[]:=l9 h;exact⟨_,rfl,rfl,rfl⟩;have h:¬l.length=0:=λe=>dQ h (cM Int.ofNat e);have a:l.length-1<l.length:=by omega
 obtain⟨b,o,rfl,f⟩:=d _ a;have g:qy l=l[l.length-1].shift:=by unfold qy;rw[List.getLast?_eq_getElem?,ew a]
 rw[g];refine cD (fx ?_);rw[show((l.length:Int)-1)=((l.length-1:Nat):Int) by omega];exact fF (l.length-1) 3 a (cu (f 1 _ rfl) ⟨_,rfl,rfl,rfl⟩)
def xA{l:List Nat}{la:Option Addr}{lc:Nat}{w:cd}(m:eO w la l)(j:l.length<=100000)(d:Nat):Calls V.prog 54 #[.slice la l.length lc,.int .i64 d] w (fy λv w'=>(∃z:Int,v=.int .i64 z/\(0<=z↔d∈l))/\w'=w):=by
 refine go (V.fn Tryz.func54 (by decide)) Tryz.ntmps54 ?_;refine dZ l.length (λk (_:Unit)=>[(0,.slice la l.length lc),(1,.int .i64 d),(5,.int .i64 k)]) (λk _ w'=>w'=w/\d∉l.take k) () ⟨⟨rfl,rfl,rfl,trivial⟩,rfl,by simp⟩ ?_;rintro k _ p q ⟨rfl,c⟩;refine cD (cV ⟨λg=>?_,λi=>?_⟩);have a:k<l.length:=by simpa using g
 obtain⟨b,o,rfl,n⟩:=m k a;refine dI k a (cu n (eh ⟨λf=>?_,λf=>?_⟩));have f:l[k]=d:=Int.ofNat.inj (cY f);exact⟨_,rfl,⟨k,rfl,by rw[<-f];exact⟨λ_=>dt a,λ_=>by omega⟩⟩,rfl⟩;have f:¬l[k]=d:=λe=>dQ f (cM Int.ofNat e);refine cq ⟨a,(),⟨rfl,rfl,rfl,trivial⟩,rfl,?_⟩;rw[gP a,gl,fD];rintro(h|h);exact c h;exact f h.symm;obtain rfl:k=l.length:=by simp at i;omega
 rw[kX]at c;exact⟨_,rfl,⟨-1,rfl,⟨λh=>absurd h (by decide),λh=>absurd h c⟩⟩,rfl⟩
def DD{a:Nat}{w w1 b:cd}(e:Ext w w1)(d:DE a w1 b)(h:w.heap.size<=a):Ext w b:=⟨d.1.os.trans e.os,d.1.tape.trans e.tape,d.1.output.trans e.output,cJ e.size d.1.size,cJ e.drawn d.1.drawn,λx c=>(d.1.block x (dl c e.size) (by omega)).trans (e.block x c)⟩
def LM(G:Gd)(xs:List Sx)(ds:List Nat)(k:Nat)(a:k<ds.length)(j:Nat)(v:ce)(h:(qE ds[k] (fQ G (xs.getD ds[k] oe)))[j]? =some v):(Cf G xs ds)[k*4+j]? =some v:=Ik (f:=λd=>qE d (fQ G (xs.getD d oe))) (n:=4) (λ_=>rfl) ds k a j v h
def Ci.row{n0:Nat}{w:cd}{v:ce}{G:Gd}{xs:List Sx}{ds:List Nat}(h:Ci n0 w v G xs ds):∃a c,v=.slice a ds.length c/\∀k (d:k<ds.length),∃b o,a=some ⟨b,o,none⟩/\∀j v,(qE ds[k] (fQ G (xs.getD ds[k] oe)))[j]? =some v->w.cell? ⟨b,o+k*4+j,none⟩=some v:=by obtain⟨n,⟨e,rfl⟩|⟨b,c,p,q,rfl,g,r,s,t,i,u⟩⟩:=h;exact⟨none,0,by rw[e],λk d=>by omega⟩;refine⟨_,c,rfl,λk d=>⟨b,0,rfl,λj v f=>ci g ?_⟩⟩;have l:j<(qE ds[k] (fQ G (xs.getD ds[k] oe))).length:=(gy.1 f).1;have m:(qE ds[k] (fQ G (xs.getD ds[k] oe))).length=4:=rfl;have e:=Cg G xs ds;rw[cB,i _ (by omega)];exact LM G xs ds k d j v f
def DF(l:List Ty):iK (l.map Pf)=qy l:=by unfold iK qy;rw[List.getLast?_map];cases l.getLast?<;>rfl
def OV{G:Gd}{l:List Ty}{s:Nat}(h:Made G l s):qy l<=s:=by
 unfold qy;cases a:l.getLast? with
 |none=>exact fN _
 |some t=>exact h.last t (List.mem_of_getLast? a)
def Bb{G:Gd}{l:List Ty}{s:Nat}(a:eg G=0)(h:Made G l s){f:Nat}(c:qy l<=f)(d:(f:Int)<=2*G.days-1):ee G (l.map Pf) f 0=0:=by
 have e:wn G (l.map Pf)=0:=by rw[wn,cx a,h.log]
 have b:jX (f:Int) 0 (2*G.days-1)=true:=by simp[jX];omega
 have g:rH G (iK (l.map Pf)) f=0:=by rw[rH,b,DF,cx rfl,cr (by omega)]
 rw[ee,cx e,cx g];rfl
def kq.vy{P:cf}{N:Nat}{x y:Code}{l:L}{w:cd}{Q:QW}(h:kq P N x l w (Ry (λl' w'=>kq P N y l' w' Q) Q)):kq P N (.seq x y) l w Q:=⟨λa d=>by
 refine jU (lV (h.out a d) ?_);rintro e f w' ⟨l',b,c⟩;cases e with
 |normal=>exact c.out f b
 |_=>exact⟨l',b,c⟩⟩
def vA{b:Nat}{Q:QW}{N:Nat}{e:Exit}{a:Act}{w:cd}(h:∃l',Fr N l' a/\kJ b Q e l' w):Exit.inBlock b (lift N Q) e a w:=by
 obtain⟨g,c,f⟩:=h;cases e with
 |exit j=>
  simp only[Exit.inBlock];by_cases d:j=b;subst d;rw[cx rfl];simp only[kJ,yA]at f;exact⟨g,c,f⟩;rw[cr d];have:Nat.beq j b=false:=by
   cases i:Nat.beq j b with
   |false=>rfl
   |true=>exact absurd (gE i) d
  simp only[kJ,this]at f;exact⟨g,c,f⟩
 |_=>exact⟨g,c,f⟩
theorem kq.block{P:cf}{N b:Nat}{c:Code}{l:L}{w:cd}{Q:QW}(h:kq P N c l w (kJ b Q)):kq P N (.block b c) l w Q:=⟨λa d=>by refine wp_block (lV (h.out a d) ?_);intro e g i f;exact vA f⟩
def vz{h:Type}{N b:Nat}(n:Nat){d:Code}{l:L}{w:cd}{Q:QW}(c:Nat->h->L)(J:Nat->h->cd->Prop)(i:h)(p:Sub (c 0 i) l/\J 0 i w)
 (f:∀k s w,k<=n->J k s w->kq V.prog N d (c k s) w (λe l' w'=>match e with
  | .normal=>k<n/\∃s',Sub (c (k+1) s') l'/\J (k+1) s' w'
  |e=>kJ b Q e l' w')):kq V.prog N (Code.block b (Code.loop d)) l w Q:=by
 refine⟨λa m=>?_⟩;refine wp_block ?_;refine pJ (λj a w=>∃k s,k<=n/\j=n-k/\Fr N (c k s) a/\J k s w) n ⟨0,i,fN _,by omega,m.sub p.1,p.2⟩ ?_;rintro j a w ⟨k,s,r,rfl,m,t⟩;refine lV ((f k s w r t).out a m) ?_;rintro e y z ⟨q,g,o⟩;cases e with
 |normal=>
  obtain⟨u,s',v,x⟩:=o;exact⟨n-(k+1),by omega,k+1,s',by omega,rfl,g.sub v,x⟩
 |exit j=>
  simp only[Exit.then];exact vA (e:=.exit j) ⟨q,g,o⟩
 |_=>exact⟨q,g,o⟩
theorem mE{P:cf}{T:BC}{N:Nat}{Q:Exit->Act->cd->Prop}{r0:Option Nat}{ds:List Deferred}(B:n5 P T)(ys:List Nat){K:L->cd->Prop}{pan:L->List PanicEntry->cd->Prop}{ops:Array Oper}(C:∀l a w,rp ds N l a->K l w->wpOpsIn (wd r0) 0 P ops Q ys a w)(D:∀l c a w,rp ds N l a->pan l c w->Q (.panic c) a w):∀(r:List Oper) (i:Nat) (e:List Nat) (l:L) (a:Act) (w:cd),(∀j,j<r.length->r[j]? =ops[i+j]?)->rp ds N l a->pK P T N K pan ops.toList r e l w->wpOpsIn (wd r0) 0 P ops Q (List.range' i r.length++ys) a w
 |[],i,e,l,a,w,_,f,h=>by rw[fC,List.range'_zero,sM];exact C l a w f h
 |o::r,i,e,l,a,w,H,f,h=>by
  have I:ops[i]? =some o:=(H 0 (by simp)).symm;have t:∀j,j<r.length->r[j]? =ops[i+1+j]? :=λj M=>by have:=H (j+1) (by simpa using M);simpa[yz,Nat.add_comm 1 j]using this
  obtain⟨h,F⟩:=I2 h
  have p:∀e l,rp ds N l a->Region.wanted o (yielded ops a.tmps)=true->Fo P T e l w o (λv s=>pK P T N K pan ops.toList r e (ins N o.dst v l) s) (λs=>pK P T N K pan ops.toList r e (ins N o.dst undef l) s) (pan l)->
   wpOpsIn (wd r0) 0 P ops Q (List.range' i (o::r).length++ys) a w:=by
   intro e l f n h;rw[dW,Rc,qn];simp only[wpOpsIn,I,n,cX];refine(Ht B f.b h (λv s u=>?_) (λs u=>?_) λc s u=>D l c a s f u);exact mE B ys C D r (i+1) e _ _ s t (f.put o.dst v F) u;exact mE B ys C D r (i+1) e _ _ s t (f.put o.dst undef F) u
  have skip:∀e l,rp ds N l a->Region.wanted o (yielded ops a.tmps)=false->pK P T N K pan ops.toList r e (ins N o.dst undef l) w->wpOpsIn (wd r0) 0 P ops Q (List.range' i (o::r).length++ys) a w:=by intro e l f n h;rw[dW,Rc,qn];simp only[wpOpsIn,I,n,iq,eo];refine⟨λ_ _=>trivial,?_⟩;exact mE B ys C D r (i+1) e _ _ w t (f.put o.dst undef F) h
  split at h;rename_i E;exact p e l f (by simp[Region.wanted,E]) h;rename_i g m E;split at h;exact h.elim;rename_i d y;rw[pf]at y;have z:(ops[g]?).bind (·.dst)=some d:=by simpa using y
  split at h;rename_i b A;have k:a.eval (.tmp d)=.bool b:=f.b.at_ d _ A;have G:yielded ops a.tmps g=some b:=by
   rw[kH]at k;unfold yielded;rw[z];simp only[vI];cases J:a.tmps[d]? with
   |none=>rw[J]at k;simp[undef]at k
   |some x=>rw[J]at k;simp at k;subst k;rfl
  have n:Region.wanted o (yielded ops a.tmps)=(b==m):=by simp[Region.wanted,E,G]
  split at h;cases b<;>cases m<;>simp only at h;exact p e l f (by rw[n];rfl) h;exact skip e l f (by rw[n];rfl) h;exact skip e l f (by rw[n];rfl) h;exact p e l f (by rw[n];rfl) h;cases b with
  |true=>
   have h:=h.1 rfl;have q:=f.zk A;cases m with
   |true=>simp only at h;exact p (d::e) ((d,.bool true)::l) q (by rw[n];rfl) h
   |false=>exact skip (d::e) ((d,.bool true)::l) q (by rw[n];rfl) h
  |false=>
   have h:=h.2 rfl;have q:=f.zk A;cases m with
   |true=>exact skip (d::e) ((d,.bool false)::l) q (by rw[n];rfl) h
   |false=>simp only at h;exact p (d::e) ((d,.bool false)::l) q (by rw[n];rfl) h
  rename_i O A;have k:a.eval (.tmp d)=.tuple O:=f.b.at_ d _ A;have G:yielded ops a.tmps g=none:=wZ z k;exact skip e l f (by simp[Region.wanted,E,G]) h;exact h.elim
structure nx(P:cf)(N:Nat)(ops:Array Oper)(i:Nat)(l:L)(w:cd)(Q:QW):Prop where
 out:∀a,Fr N l a->wpOpsIn (wd none) 0 P ops (lift N Q) (List.range' i (ops.size-i)) a w
def nx.start{P:cf}{N id:Nat}{ops:Array Oper}{l:L}{w:cd}{Q:QW}(h:nx P N ops 0 l w Q):kq P N (.region id ops false) l w Q:=⟨λa b=>by refine wpIn_wide.1 (wpIn_region (n:=0) ?_);have:=h.out a b;rw[Nat.sub_zero,<-List.range_eq_range']at this;exact this⟩
def nx.cut{P:cf}{T:BC}{N:Nat}(n:Nat)(f:n5 P T){ops:Array Oper}{i:Nat}{l:L}{w:cd}{Q:QW}(h:pK P T N (λl w=>nx P N ops (i+n) l w Q) (λl c w=>Q (.panic c) l w) ops.toList ((ops.toList.drop i).take n) [] l w)(e:Nat.ble (i+n) ops.size=true:=by rfl):nx P N ops i l w Q:=⟨λa b=>by
 have e:=sO e;have g:((ops.toList.drop i).take n).length=n:=by rw[yy,List.length_drop,Array.length_toList];omega
 have:=mE (r0:=none) (ds:=[]) f (List.range' (i+n) (ops.size-(i+n))) (Q:=lift N Q) (λl a w b d=>d.out a b.fr) (λl c a w b d=>⟨l,b.fr,d⟩) ((ops.toList.drop i).take n) i [] l a w (λj k=>by rw[List.getElem?_take_of_lt (by omega),List.getElem?_drop,Array.getElem?_toList]) b.Zd h;rw[g,List.range'_append_1,show n+(ops.size-(i+n))=ops.size-i by omega]at this;exact this⟩
def nx.fin{P:cf}{N:Nat}{ops:Array Oper}{i:Nat}{l:L}{w:cd}{Q:QW}(h:Q .normal l w)(b:Nat.ble ops.size i=true:=by rfl):nx P N ops i l w Q:=⟨λa c=>by have b:=sO b;rw[show ops.size-i=0 by omega];exact⟨l,c,h⟩⟩
def nx.qA{P:cf}{N:Nat}{ops:Array Oper}{i:Nat}{l l0:L}{w:cd}{Q:QW}(b:Sub l0 l)(h:nx P N ops i l0 w Q):nx P N ops i l w Q:=⟨λa c=>h.out a (c.sub b)⟩
def nx.to{P:cf}{N:Nat}{ops:Array Oper}{i:Nat}{l l0:L}{w:cd}{Q:QW}(h:nx P N ops i l0 w Q)(a:Sub l0 l):nx P N ops i l w Q:=nx.qA a h
def vt(p:Int×Bool):ce:=if p.2 then .tuple #[.int .i64 p.1,.int .i64 0]else .tuple #[.int .i64 0,.int .i64 11]
def tf{G:Gd}{o:Option Addr}{dc:Nat}{w:cd}{l:List Tq}{la:Option Addr}{lc:Nat}(s:gD w o G.doors)(d:G.doors.length<=100000)(t: -1000000<=G.streets/\G.streets<=1000000)(u:sI w la l)(j:l.length<=100000)(a:Int):
 Calls V.prog 46 #[gV G o dc,.slice la l.length lc,.int .i64 a] w (qa λv w'=>Ext w w'/\((ee G l a 0≠0/\v=.tuple #[.int .i64 0,.int .i64 (ee G l a 0)])\/(ee G l a 0=0/\v=vt (uV (iU G (gO G l).2 a.toNat))))):=by
 refine go (V.fn Tryz.func46 (by decide)) Tryz.ntmps46 ?_;refine fo λC D e x m=>di m (ck (mB (dc:=dc) (s.ext e) d t (u.ext e) j a 0) ?_);rintro v E ⟨p,⟨c,rfl⟩|⟨c,F,H,mk,I,rfl,i,y⟩⟩;exact eG (iR (by simpa using c) (.inl ⟨_,rfl,e.trans p,.inl ⟨c,rfl⟩⟩));have z:=i.g.lo;have J:=e.size;obtain⟨f,rfl,n,_⟩:=lG i.k.g.tY c;refine eG (iG (by simp) (fG (Ld (n0:=w.heap.size) i.k (λb m=>m.elim) i.g.U1 (by omega) (by omega) y n) (λw' h=>.inr ⟨rfl,h⟩) ?_));rintro _ A ⟨B,rfl⟩;have q:Ext w A:=B.1.from (e.trans p) (cz _);rw[ql];cases r:(uV (iU G (gO G l).2 f)).2 with
 |false=>exact eu (iR rfl (.inl ⟨_,rfl,q,.inr ⟨c,by unfold vt;rw[r];rfl⟩⟩))
 |true=>exact eu (iG rfl (.inl ⟨_,rfl,q,.inr ⟨c,by unfold vt;rw[r];rfl⟩⟩))
def vC{w:cd}{k:ce->cd->Prop}{x y:dj}{a b:Bool}(h:k (.bool (a !=b)) w):iO V.prog (do eqGuard .neq 4 x y (.bool a) (.bool b);binOp .neq 4 (.bool a) (.bool b)) w k:=by refine⟨.bool (a !=b),w,?_,h⟩;cases a<;>cases b<;>go_simp
def rV(D:dR):0<=(uV D).1:=by
 have h:=jN D;unfold uV;cases e:gm D with
 |none=>exact Int.le_refl _
 |some s=>
  obtain⟨l,m,k⟩:=s;rw[e]at h;obtain⟨b,_,_,c⟩:=h;unfold dX at c;split at c;cases c;injection c with c;injection c with _ c;injection c with c _;show 0<=m;rw[<-c]
  have d:∀(l:List Int) (a:Int),a<=l.foldl max a:=λl=>by
   induction l with
   |nil=>exactλa=>Int.le_refl a
   |cons x r f=>exactλa=>Int.le_trans (Int.le_max_left a x) (f _)
  exact d _ 0
def th{w:cd}{ns:List Int}{la:Option Addr}{lc:Nat}(hr:ja w la ns)(hl:ns.length<=9223372036854775807):Calls V.prog 8 #[.slice la ns.length lc] w (qa λv w'=>v=.bool true/\Ext w w'):=by
 refine go (V.fn Tryz.func8 (by decide)) Tryz.ntmps8 ?_;refine ck (ko hr hl) ?_;rintro _ w1 ⟨e1,db,rfl,aa,hD⟩;refine ck (jB hD 4 (by omega)) ?_;rintro _ w2 ⟨d2,G,da,dc,rfl,hO,az,hG,aA⟩;have ok:=ek hG;have aB:=ok.tries;have aC:=ok.days;have hm:=ok.many;have E2:Ext w w2:=DD e1 d2 aa;refine eF λw3 D e3 ai aj=>cZ aj λw4 k4 H=>?_;replace H:w4.heap[D]? =some (.cells (gL G da dc).toArray 24):=H.trans (cM (λa=>some (Obj.cells a 24)) (dV (sH 24).toArray (gL G da dc) rfl));have I:Ext w2 w4:=Ext.cy e3 k4 ai;refine di H (ck (Ce (dc:=dc) ((d2.2 hD).ext I) hG) ?_);rintro _ w5 ⟨d5,l,s,hu,hM,hs,ax⟩;obtain⟨a,c,rfl,P,hc⟩:=hu.row;have s1:=e1.size;have s2:=d2.1.size;have s4:=I.size;have aD:=hD.lt;have g5:w5.heap[D]? =some (.cells (gL G da dc).toArray 24):=d5.1.fg H (show¬D=db by omega);have M:gD w5 da G.doors:=mC.Ie (cA.keep (cA.ext hO I) d5.1 λb hb e=>by have:=(cA.blk hO hb).1;omega);have E4:=E2.trans I;have E5:Ext w w5:=DD E4 d5 aa;have ak:=OV hM;obtain⟨xs,Q⟩:∃xs,xs=(List.range G.doors.length).map (jM l):=⟨_,rfl⟩;have al:xs.length=G.doors.length:=by rw[Q,kV,List.length_range]
 have am:∀x∈xs,0<=x.mornings/\0<=x.evenings:=λx hx=>by rw[Q]at hx;obtain⟨d,_,rfl⟩:=jj.1 hx;exact⟨Int.natCast_nonneg _,Int.natCast_nonneg _⟩
 have O:gO G (l.map Pf)=(0,xs):=by rw[hM.log,Q]
 refine cS (Io P (by omega)) ?_;obtain⟨N,hN⟩:∃N,N=(2*G.days).toNat-qy l:=⟨_,rfl⟩;refine vz N (λk (x:(Int×Bool)×ce×List Nat)=>[(4,cK D),(5,.slice a l.length c),(6,.int .i64 x.1.1),(7,.bool x.1.2),(8,x.2.1),(9,.int .i64 ((qy l+k:Nat):Int))]) (λk x w'=>Ext w5 w'/\dE w5.heap.size w' x.2.1 x.2.2/\((uV (iU G xs (qy l+k))).2=true->x.1.2=false/\x.1.1<=(uV (iU G xs (qy l+k))).1)/\∀d∈x.2.2,d∈Gi G xs (qy l+k)) ((0,false),.slice none 0 0,[]) ⟨⟨rfl,rfl,rfl,rfl,rfl,rfl,trivial⟩,Ext.refl _,cA.nil _ _ _ _,λ_=>⟨rfl,rV _⟩,λd hd=>by cases hd⟩ ?_;rintro k ⟨⟨m,p⟩,lv,g⟩ w6 hk ⟨e6,R,hF,S⟩;simp only at R hF S;have g6:=e6.at_ g5;refine kq.seq jG (cu (ci g6 rfl) (tE (cV ⟨λan=>?_,λao=>?_⟩)))
 ·have ab:k<N:=by have:=cY an;omega
  obtain⟨f,hf⟩:∃f,f=qy l+k:=⟨_,rfl⟩;have ap:(f:Int)<=2*G.days-1:=by omega
  have ac:=Bb hG hM (f:=f) (by omega) ap;have E:=tf (dc:=dc) (lc:=c) (M.ext e6) (by omega) (by have:=ok.streets;omega) (P.ext e6).q (by rw[kV];omega) f;rw[kV,O]at E;simp only[ql]at E;rw[<-hf]at hF S⊢;refine kq.qA (l0:=[(4,cK D),(5,.slice a l.length c),(6,.int .i64 m),(7,.bool p),(8,lv),(9,.int .i64 (f:Nat))]) ⟨rfl,rfl,rfl,rfl,rfl,rfl,trivial⟩ (kq.vy (kq.block (kq.seq jG (di g6 (fG E (λw' h=>.inr ⟨rfl,h⟩) ?_)))));rintro _ w7 ⟨e7,⟨h,_⟩|⟨_,rfl⟩⟩;exact absurd ac h;have J:=e6.trans e7;have t:=Ad (dc:=dc) (lc:=c) (M.ext J) (by omega) (by have:=ok.streets;omega) (P.ext J).q (by rw[kV];omega) f;rw[kV,O]at t;simp only[ql]at t;have y:=vp (G:=G) (xs:=xs) ok al am f;have ad:f+1=qy l+(k+1):=by omega
  have T:(uV (iU G xs (f+1))).2=true->(uV (iU G xs f)).2=true/\(uV (iU G xs f)).1<=(uV (iU G xs (f+1))).1:=λh=>tc (by omega) h;have U:∀d∈Gi G xs f,d∈Gi G xs (f+1):=λd hd=>vk (by omega) hd;have ae:(Gi G xs f).length<=100000:=cJ (List.length_filter_le ..) (by have:=pm G.tries xs;omega);have aE:g.length<2^63:=by obtain⟨_,_,_,K,W⟩:=cA.len R;omega
  obtain⟨A,B,rfl,af,_⟩:=R.row;obtain⟨C,n,hv,i⟩:∃C n:Int,vt (uV (iU G xs f))=.tuple #[.int .i64 C,.int .i64 n]/\(((uV (iU G xs f)).2=true/\C=(uV (iU G xs f)).1/\n=0)\/((uV (iU G xs f)).2=false/\C=0/\n=11)):=by
   unfold vt;cases W:(uV (iU G xs f)).2 with
   |true=>exact⟨_,_,rfl,.inl ⟨rfl,rfl,rfl⟩⟩
   |false=>exact⟨_,_,rfl,.inr ⟨rfl,rfl,rfl⟩⟩
  rw[hv];refine kq.qA (l0:=[(4,cK D),(5,.slice a l.length c),(6,.int .i64 m),(7,.bool p),(8,.slice A g.length B),(9,.int .i64 (f:Nat)),(10,.int .i64 C),(11,.int .i64 n)]) ⟨rfl,rfl,rfl,rfl,rfl,rfl,rfl,rfl,trivial⟩ (kq.seq jG (di (e7.at_ g6) (ck t ?_)));rintro _ w8 ⟨e8,⟨h,_⟩|⟨_,u,rfl,ag⟩⟩;exact absurd ac h;obtain⟨X,Y,rfl,aq,_⟩:=ag.row;have ar:=J.trans e8;have Z:(decide (n=11) !=decide (0<((Gi G xs f).length:Int)))=false:=by
   have y:(uV (iU G xs f)).2=(Gi G xs f).isEmpty:=y;rcases i with⟨W,_,rfl⟩|⟨W,_,rfl⟩;rw[W]at y;rw[List.isEmpty_iff.1 y.symm];rfl;rw[W]at y;cases hq:Gi G xs f with
   |nil=>rw[hq]at y;cases y
   |cons x r=>simp[show(0:Int)<(r.length:Int)+1 by omega]
  have F:decide (n≠0)=false->p=false/\m<=C:=λh=>by
   have h0:n=0:=by simpa using h
   rcases i with⟨W,h3,_⟩|⟨_,_,h4⟩;rw[h3];exact hF W;omega
  refine kq.vy (kq.vy (nx.start (nx.qA (l0:=[(4,cK D),(5,.slice a l.length c),(6,.int .i64 m),(7,.bool p),(8,.slice A g.length B),(9,.int .i64 (f:Nat)),(10,.int .i64 C),(11,.int .i64 n),(12,.slice X (Gi G xs f).length Y),(13,.int .i64 0)]) ⟨rfl,rfl,rfl,rfl,rfl,rfl,rfl,rfl,rfl,rfl,trivial⟩ (nx.cut 6 jG ?_))));refine(λ(o:nx V.prog 93 _ 6 [(4,cK D),(5,.slice a l.length c),(6,.int .i64 m),(7,.bool p),(8,.slice A g.length B),(9,.int .i64 (f:Nat)),(10,.int .i64 C),(11,.int .i64 n),(12,.slice X (Gi G xs f).length Y),(13,.int .i64 0),(50,.bool false)] w8 _)=>(eG ⟨λK=>eG (nx.to o ⟨rfl,rfl,rfl,rfl,rfl,rfl,rfl,rfl,rfl,rfl,?tagA,trivial⟩),λK=>nx.to o ⟨rfl,rfl,rfl,rfl,rfl,rfl,rfl,rfl,rfl,rfl,rfl,trivial⟩⟩)) ?tagB;case tagA=>
   have K:n≠0:=cY K;have au:n=11:=by rcases i with⟨_,_,h⟩|⟨_,_,h⟩;exact absurd h K;exact h
   subst au;rfl
  case tagB=>
  refine nx.cut 4 jG (iG rfl (eG (nx.qA (l0:=[(4,cK D),(5,.slice a l.length c),(6,.int .i64 m),(7,.bool p),(8,.slice A g.length B),(9,.int .i64 (f:Nat)),(10,.int .i64 C),(11,.int .i64 n),(12,.slice X (Gi G xs f).length Y),(13,.int .i64 0),(54,.bool false)]) ⟨rfl,rfl,rfl,rfl,rfl,rfl,rfl,rfl,rfl,rfl,rfl,trivial⟩ (nx.cut 12 jG (iG rfl (eh ?_))))));refine(λ(o:nx V.prog 93 _ 22 [(4,cK D),(5,.slice a l.length c),(6,.int .i64 m),(7,.bool p),(8,.slice A g.length B),(9,.int .i64 (f:Nat)),(10,.int .i64 C),(11,.int .i64 n),(12,.slice X (Gi G xs f).length Y),(13,.int .i64 0),(66,.bool false)] w8 _)=>⟨λK=>iG (F ?tagC).1 (cV (nx.to o ⟨rfl,rfl,rfl,rfl,rfl,rfl,rfl,rfl,rfl,rfl,?tagD,trivial⟩)),λK=>nx.to o ⟨rfl,rfl,rfl,rfl,rfl,rfl,rfl,rfl,rfl,rfl,rfl,trivial⟩⟩) ?tagE;case tagC=>exact jT (by have:=cY K;simpa using this)
  case tagD=>
   have:=(F (jT (by have:=cY K;simpa using this))).2;show some (Value.bool (decide (C<m)))=some (.bool false);rw[jT (by omega)]
  case tagE=>
  refine nx.cut 8 jG (iG rfl (eh (cD (ny (vC (nx.fin (kq.of jG (iG Z (kq.qA (l0:=[(4,cK D),(5,.slice a l.length c),(8,.slice A g.length B),(9,.int .i64 (f:Nat)),(10,.int .i64 C),(11,.int .i64 n),(12,.slice X (Gi G xs f).length Y)]) ⟨rfl,rfl,rfl,rfl,rfl,rfl,rfl,trivial⟩ ?_)))))))));refine kq.vy (kq.seq jG ?_);refine dZ g.length (λj (_:Unit)=>[(4,cK D),(5,.slice a l.length c),(8,.slice A g.length B),(9,.int .i64 (f:Nat)),(10,.int .i64 C),(11,.int .i64 n),(12,.slice X (Gi G xs f).length Y),(14,.int .i64 j)]) (λ_ _ w'=>w'=w8) () ⟨⟨rfl,rfl,rfl,rfl,rfl,rfl,rfl,rfl,trivial⟩,rfl⟩ ?_;rintro j _ w9 hj rfl;refine cD (cV ⟨λah=>?_,λay=>?_⟩);have L:j<g.length:=by simpa using ah
  obtain⟨b1,o1,rfl,av⟩:=(af.ext (e7.trans e8)) j L;refine dI j L (cu av (ck (xA aq ae g[j]) ?_));rintro _ _ ⟨⟨z,rfl,hz⟩,rfl⟩;have aF:=hz.2 (S _ (dt L));exact cV (iG (jT (by omega)) (cq ⟨L,(),⟨rfl,rfl,rfl,rfl,rfl,rfl,rfl,rfl,trivial⟩,rfl⟩));refine kq.of jG (eG (kq.of jG (cq ?_)));rw[show((f:Nat):Int)+1=((qy l+(k+1):Nat):Int) by omega];refine⟨ab,((C,decide (n≠0)),.slice X (Gi G xs f).length Y,Gi G xs f),⟨rfl,rfl,rfl,rfl,rfl,rfl,trivial⟩,ar,ag.low J.size,λh=>?_,λd hd=>?_⟩;rw[<-ad]at h⊢;obtain⟨h3,h4⟩:=T h;rcases i with⟨_,rfl,rfl⟩|⟨h5,_,_⟩;exact⟨rfl,h4⟩;rw[h3]at h5;cases h5;rw[<-ad];exact U d hd
 have ab:k=N:=by have:=dQ ao;omega
 refine fG (ii w6) (λw' h=>.inr ⟨rfl,h⟩) ?_;rintro v aG ⟨rfl,aw⟩;exact .inl ⟨_,rfl,rfl,(E5.trans e6).trans aw⟩
end Go.Proofs.W
namespace Go.Proofs.W
def vu:List Nat:=[8,26,27,28,29,30,31,34,35,38,42,44,46,48,49,53,54,55,58,59,69,71,74,75,93,95,96,97,98,104,105,106,107,108,109,113,114,115,116,117,119,120,121,122,123,125,128,129,130,131,133,134,135,137,144,146,153,154,155,156,157,158,159,160,161,162,163,164,165,166,167,168,169,170,171,172,173,174,175,176,178,179,180,184,185,186,195,196,197,198,199,200,201,222,231]
def vo:List Nat:=[8,26,27,28,29,30,31,34,35,38,42,44,46,48,49,53,54,55,58,59,69,71,74,75,93,95,96,97,98,104,105,106,107,108,109,113,114,115,116,117,119,120,121,122,123,125,128,129,130,131,133,134,135,137,144,146,153,154,155,156,157,158,159,160,161,162,163,164,165,166,167,168,169,170,171,172,173,174,175,176,178,179,180,184,185,186,190,194,195,196,197,198,199,200,201,215,216,222,227,228,229,231]
def vv:vu.all (OC vu)=true:=by kernel_rfl
def vq:vo.all (okF vo false Ls)=true:=by kernel_rfl
end Go.Proofs.W
namespace Go.Proofs.YteeagjkaflglpaaGreat
open Go.ChangeShapes Go.WideShapes Go.ChangeAt Go.RowKit Go.Conc
def eC(Z:Os)(f:Z.Started)(H:Type)(enc:cg×ce->H):ReturnsInLeavingWide {} Tryz.checked Z 8 .any (Rows.roundLaterSpec.pre6 enc Tryz.prog Tryz.f8 Rows.roundLaterRow.domain false) (Rows.roundLaterSpec.post enc Tryz.prog Tryz.f8 false true false false):=by
 refine returnsInLeavingWide_of_change_sized (C:=Tryz.checked) Tryz.own f Tryz.func8 (ChangeSpec.witness6 (enc:=enc) (C:=Tryz.checked) false ⟨#[],#[.slice none 0 0],[]⟩ 8 (by kernel_rfl) (by kernel_rfl) (by kernel_rfl) (by kernel_rfl)) ?_;intro g D r ds gs N k hW _ _ _;have s:∀(j:Nat) t v,Tryz.f8.params[j]? =some t->r[j]? =some v->Value.okWide Tryz.prog g .any D t v:=k;have u:=hW;obtain⟨p,q,E,hV,rfl,_,_⟩:=hW;have hA:DataW.TrodAll enc Tryz.prog g 0 (λ_=>true) true Tryz.f8.params.toList r.toList ds p:=E;have F:Tryz.f8.params=#[27]:=by kernel_rfl
 rw[F]at hA s;obtain⟨v0,d0,rfl,rfl,h0⟩:=trodAll_one hA;obtain⟨rfl,rfl⟩:=trodVars_none hV;have I:=s 0 27 v0 rfl rfl;obtain⟨A,c,cap,rfl⟩:=okWide_slice Tryz.iy I;have P:=h0;obtain⟨aa,hf⟩:=h0;clear E k;simp only[List.append_nil]at u;have Q:∀x∈p,x.block<g.heap.size:=λx R=>by simpa using u.lt x R
 have y:∀(l:cd),Go.RowKit.Below g.heap.size g l->DataW.Trod enc Tryz.prog l 0 (λb=>decide (b<g.heap.size)) true 27 (.slice A c cap) d0 p:=
  λl S=>Below.trod Tryz.laidOut (by kernel_rfl) (cY (by kernel_rfl)) P S Q
 have m:∀(J:List Int),J.length=c->c<=9223372036854775807->(∀B,A=some B->B.spot=none/\(∃x,g.shape? B.block=some x)/\∀i,i<c->g.cell? (B.add i)=some (.int .i64 (J.getD i 0)))->(A=none->c=0)->∃M last o K O,runNT Tryz.checked.prog (M+1) (solo (G (Frame.enter Tryz.checked.prog 8 #[.slice A c cap] .normal) []) g) #[]=(.ended o K,O)/\runN Tryz.checked.prog M (solo (G (Frame.enter Tryz.checked.prog 8 #[.slice A c cap] .normal) []) g)=.next last/\step Tryz.checked.prog last=.ended o K/\
   Conc.Good Tryz.checked.prog (λv l=>Rows.roundLaterSpec.post enc Tryz.checked.prog Tryz.f8 false true false false g #[.slice A c cap] v l) last o K O:=by
  intro J T S U L;obtain⟨M,last,o,K,O,X,Y,h3,h4⟩:=Go.Proofs.W.mK Go.Proofs.W.vv Go.Proofs.W.vq (Go.Proofs.W.V.fn Tryz.func8 (by decide)) (tm:=2) (by kernel_rfl) (by decide) (by decide) (by decide) (by kernel_rfl) (λns la lc w X Y=>Go.Proofs.W.th X Y) T S U L (cap:=cap);refine⟨M,last,o,K,O,X,Y,h3,h4.mono λv hF=>?_⟩;obtain⟨rfl,d⟩:=hF;exact⟨_,_,_,[],p,[],u,trodAll_mk1 (shut_bool Tryz.Dy true),trodAll_mk1 (y _ d),rfl,d.frame _,λh=>by cases h⟩
 rcases open_ints Tryz.iy Tryz.xU Tryz.qj hf with⟨n,R⟩|⟨a,ab,ac,J,n,_,hl,hm,T,R,z,ae⟩;simp[Value.cells]at n;obtain⟨rfl,rfl,rfl⟩:=n;exact m [] rfl (by omega) (λB h=>by cases h) λ_=>rfl;simp[Value.cells]at n;obtain⟨rfl,rfl,rfl⟩:=n;simp only[cX]at T;obtain⟨e1,e2⟩:=jC Tryz.iy I;refine m (J.take c) (by simp;omega) (by simp only[maxLen]at hm;omega) (λB e=>?_) (λh=>by cases h);cases e;refine⟨e1,e2,λi hi=>?_⟩;rw[z i (by omega)];simp[gU,hi]
def iE:Tryz.pinned.checked.prog.funcNamed Rows.roundLaterRow.func=some 8:=by kernel_rfl
def jr:Tryz.f8.isInstance Tryz.pinned.checked.prog Rows.roundLaterRow.origin Rows.roundLaterRow.targs:=cY (by kernel_rfl)
def ju:Tryz.f8.isWrapper Tryz.pinned.checked.prog Rows.roundLaterRow.wrapper Rows.roundLaterRow.mainSum:=by unfold Func.isWrapper;first|(rw[cx (by decide+kernel)];kernel_rfl)|(rw[cr (by decide+kernel)];exact⟨rfl,rfl⟩)
def roundLater_holds:Rows.RoundLaterSaid:=
 OpenClaim.holds_of_wide_leaving 8 Tryz.f8 rfl rfl rfl rfl rfl rfl rfl ⟨rfl,rfl,rfl,rfl,rfl⟩ rfl rfl rfl rfl rfl iE Tryz.func8 gK jr ju (λc a H b _=>eC c a H b)
#print axioms roundLater_holds
end Go.Proofs.YteeagjkaflglpaaGreat
