/- RoundDue holds: with the tries of Due a door is done if it stays shut, and with no fewer tries, nor without a morning or an evening where one is due, for every list of numbers. Conditions: none. -/
import Derived.Conc.CrowdTrace
import Derived.Below
import Derived.Conc.LeavingOf
import Derived.Carry
import Derived.ChangeSlices
import Derived.WideShapes
import Derived.Test.YteeagjkaflglpaaGreatRows
import Derived.JoinedOf
import Derived.KernelRfl
import Derived.Test.YteeagjkaflglpaaGreatX25
set_option maxRecDepth 100000
set_option maxHeartbeats 8000000
set_option linter.all false
namespace Go.Proofs.W
open Go.Conc Go.cF Go.RowKit
noncomputable def OC(L:List Nat)(f:Nat):Bool:=f==163||okF L false (λ_=>false) f
noncomputable def OD(L:List Nat)(B:Nat->Prop)(sh:Nat->Option Nat):cR where
 S:=λg=>L.contains g
 dim:=false
 ok:=λf=>gh V.prog (λg=>L.contains g) false false
 df:=λ_=>false
 fs:=PR.funcs
 hole:=λf=>f==163
 sh:=sh
 r:=λb c=>b=c/\B b
 inj₁:=λ_ _ _ h a=>h.1.symm.trans a.1
 inj₂:=λ_ _ _ h a=>h.1.trans a.1.symm
def Dx{L:List Nat}(h:L.all (OC L)=true)(f:Nat)(b:L.contains f=true)(a:f≠163):
 ∃fn c,V.prog.funcs[f]? =some fn/\fn.body=some c/\gh V.prog (λg=>L.contains g) false false c=true/\(fn.name== "runtime.NumGoroutine")=false:=by
 have:=jF.1 h f (by simpa using b);unfold OC at this;rw[show(f==163)=false by simpa using a,Bool.false_or]at this;unfold okF at this;split at this;rename_i fn d;split at this;rename_i c e;simp only[ez,yu]at this;exact⟨fn,c,d,e,this.1,this.2⟩;cases this;cases this
def QV:(V.f163.name== "runtime.NumGoroutine")=false:=by kernel_rfl
def OE:(Tryz.f163.name== "runtime.NumGoroutine")=false:=by kernel_rfl
def OF:∃c,Tryz.f163.body=some c:=⟨_,yX⟩
def Lq{L:List Nat}{B:Nat->Prop}{sh:Nat->Option Nat}(h:L.all (OC L)=true):Go.cF.Good V.prog (OD L B sh):=by
 refine⟨⟨V.zero,λf a=>?_,V.EI,Bv _,V.bad⟩,rfl,λf a j=>?_,⟨λf a=>?_⟩,λ⟨f,a⟩=>by cases a⟩;by_cases e:f=163;subst e;exact⟨V.f163,V.xX,V.func163,QV,rfl⟩;obtain⟨d,c,b,g,_,i⟩:=Dx h f a e;exact⟨d,c,b,i,g⟩;have e:f≠163:=λe=>by subst e;cases j
 obtain⟨d,c,b,g,k,_⟩:=Dx h f a e;exact⟨d,c,b,g,k⟩;by_cases e:f=163;subst e;obtain⟨c,l⟩:=OF;exact⟨Tryz.f163,c,Tryz.func163,OE,l,λh=>by cases h⟩;obtain⟨d,c,b,g,_,i⟩:=Dx h f a e;exact⟨d,c,(V.xY f e).symm.trans b,i,g,λ_=>b⟩
noncomputable def Ig(L:List Nat)(df:Nat->Bool)(B:Nat->Prop)(sh:Nat->Option Nat):cR where
 S:=λg=>L.contains g
 dim:=false
 ok:=λf=>gh V.prog (λg=>L.contains g) false (df f)
 df:=df
 fs:=V.prog.funcs
 hole:=λ_=>false
 sh:=sh
 r:=λb c=>b=c/\B b
 inj₁:=λ_ _ _ h a=>h.1.symm.trans a.1
 inj₂:=λ_ _ _ h a=>h.1.trans a.1.symm
def OG{P:cf}{ρ:cR}(a:ρ.fs=P.funcs)(h:∀f,ρ.S f=true->∃fn c,P.funcs[f]? =some fn/\(fn.name== "runtime.NumGoroutine")=false/\fn.body=some c):Rj P ρ:=⟨λf d=>by obtain⟨fn,c,b,e,g⟩:=h f d;exact⟨fn,c,by rw[a];exact b,e,g,λ_=>b⟩⟩
def Lr{L:List Nat}{g:Nat->Bool}{B:Nat->Prop}{sh:Nat->Option Nat}(h:L.all (okF L false g)=true):Go.cF.Good V.prog (Ig L g B sh):=by refine⟨V.fit h,rfl,λf a _=>?_,OG (by unfold Ig;dsimp only) λf a=>?_,λ_ _=>rfl⟩;obtain⟨b,c,d,e,i,_⟩:=uz h f a;exact⟨b,c,d,e,i⟩;obtain⟨b,c,d,e,_,j⟩:=uz h f a;exact⟨b,c,d,j,e⟩
def runNT_then{Q:cf}{N K:Nat}{m b:Machine}{t c:Trace}(h:runNT Q N m t=(.next b,c)):runNT Q (N+K) m t=runNT Q K b c:=by
 induction N generalizing m t with
 |zero=>
  simp only[runNT]at h;injection h with a d;injection a with a;subst a d;rw[cB]
 |succ N e=>
  rw[show N+1+K=(N+K)+1 from by omega];simp only[runNT]at h⊢;cases f:stepT Q m with
  |mk s g=>
   rw[f]at h;cases s with
   |next i=>exact e h
   |ended o w=>simp only at h;injection h with a d;cases a
def Jz(e:Ending)(w':cd):Prop:=e=.returned (.bool true)\/(e=.panicked iL/\R2 w')
theorem Gm{L LI:List Nat}{T1:Nat->Bool}(hL:L.all (OC L)=true)(ZC:LI.all (okF LI false T1)=true){f:FuncId}{fn:Func}{tm:Tmp}(hf:V.prog.funcs[f]? =some fn)(ZD:fn.results=#[.tmp tm])(R8:f≠163)(ZF:L.contains f=true)(ZG:LI.contains f=true) (ZH:PR.inits.idxOf? f=none){args xs:Array Value}{W v:World}{B:Nat->Prop}{sh:Nat->Option Nat} (hrel:∀b,B b->∃o o',v.heap[b]? =some o/\W.heap[b]? =some o'/\GJ (OD L B sh) (sh b) o o'/\GJ (Ig LI T1 B sh) (sh b) o o'/\wN v b)(U3:∀c,W.heap.size<=c->sh c=none)(ZI:eT (OD L B sh) xs args)(ZJ:eT (Ig LI T1 B sh) xs args) (hC:∀T:Ta,Go.cF.Below v T->Calls V.prog f xs (cI v T) Jz):∃N last o w' t',runNT PR (N+1) (solo (G (Frame.enter PR f args .normal) []) W) #[]=(.ended o w',t')/\runN PR N (solo (G (Frame.enter PR f args .normal) []) W)=.next last/\Go.step PR last=.ended o w'/\
  Go.Conc.Good PR (λx w'=>x=.bool true/\Go.RowKit.Below W.heap.size W w') last o w' t':=by
 have Yi:Go.cF.Good V.prog (OD L B sh):=Lq hL;have Yj:Go.cF.Good V.prog (Ig LI T1 B sh):=Lr ZC;have ev:(V.prog.ir PR.funcs)=PR:=PZ;have hinv:Inv V.prog ⟨Frame.enter V.prog f xs .normal,[floor],v⟩:=by
  have h:Inv V.prog ⟨Frame.enter V.prog f xs .normal,[floor],cI v (qq v W)⟩:=
   ⟨Ig LI T1 B sh,W,G (Frame.enter (V.prog.ir (Ig LI T1 B sh).fs) f args .normal) [],Yj,λ_=>rfl,WR.qq ⟨λb c hr=>by obtain⟨rfl,hb⟩:=hr;obtain⟨o,o',h1,h2,_,h3,_⟩:=hrel b hb;exact⟨o,o',h1,h2,h3⟩,U3⟩,rX Yj ZG ZJ .normal (.inl rfl),⟨[],[],rfl,rfl,.nil⟩,⟨rfl,rfl⟩,⟨rfl,rfl⟩,⟨rfl,rfl⟩⟩
  exact h.cI v.tape
 have TD:Go.cF.Reach V.prog (sZ f (λx _=>x=.bool true)) ⟨Frame.enter V.prog f xs .normal,[floor],v⟩:=by
  refine qS sZ.callers (λc T hi hs=>?_) hinv λT hT=>?_
  ·rcases hs with hs|⟨h1,h2,h3,h4,h5⟩
   ·exact .inl (Go.cF.Left.cI (λx w T h=>h) c T hi hs)
   ·exact .inr ⟨h1,h2,h3,h4,h5.cI T⟩
  ·obtain⟨e,w',fr,hp,hs,TR,hl⟩:=hC T hT [floor];rcases hp with rfl|⟨rfl,hp⟩
   ·obtain⟨n,hn⟩:=hs;exact⟨n,fr,[floor],w',hn,.inl ⟨rfl,TR,_,rfl,hl⟩⟩
   ·obtain⟨n,hn⟩:=hs;exact⟨n,fr,[floor],w',hn,.inr ⟨rfl,TR,hl.1,hl.2.1,hp⟩⟩
 have hI:Eb V.prog PR.funcs W (OD L B sh) (λ_=>False) ⟨Frame.enter V.prog f xs .normal,[floor],v⟩ #[G (Frame.enter (V.prog.ir PR.funcs) f args .normal) []] (G (Frame.enter (V.prog.ir PR.funcs) f args .normal) []) W #[] (λ_=>0):=by
  refine⟨hinv,Yi,rfl,rfl,⟨rX Yi ZF ZI .normal (.inl rfl),⟨[],[],rfl,rfl,.nil⟩,⟨rfl,rfl⟩,⟨rfl,rfl⟩,⟨rfl,rfl⟩⟩,⟨λb c hr=>?_,U3⟩,⟨λi g hi hg=>?_,λj _=>Go.ConcN.Deaf_absent (by simp)⟩,?_,λb h=>h.elim,λ_ _ _ h=>h,λb c hr hc=>?_,Nat.le_refl _,λ_ _=>rfl,⟨rfl,rfl,rfl⟩,⟨λg hg=>?_,rfl,λ⟨g,hg⟩=>by cases hg⟩⟩
  ·obtain⟨rfl,hb⟩:=hr;obtain⟨o,o',h1,h2,h3,_,_⟩:=hrel b hb;exact⟨o,o',h1,h2,h3⟩
  ·have:i<1:=(Array.getElem?_eq_some_iff.1 hg).1;omega
  ·have h:=past_nil;exact⟨h.clean,λi a ha hm=>by simp[touchAt,Trace.act?]at ha,h.over,h.hears,λop Uf=>by simp at Uf⟩
  ·obtain⟨rfl,hb⟩:=hr;obtain⟨_,_,_,_,_,_,h⟩:=hrel b hb;exact h
  ·have e:g=163:=by
    have:(g==163)=true:=hg;simpa using this
   subst e;rw[V.func163,show PR.funcs[163]? =some Tryz.f163 from Tryz.func163];intro e;have:=congrArg Func.ntmps (Option.some.inj e);rw[Tryz.ntmps163]at this;cases this
 obtain⟨N,um,w',un,t',q',c',mV,X',a',r1,r2,r3,_⟩:=lead (fs:=PR.funcs) sZ.callers (Qy Lc R8 W) _ TD _ _ _ _ _ none _ _ hI
 have ZK:Go.cF.Left V.prog f (λx _=>x=.bool true) c'.fr c'.cl c'.v:=by
  rcases r3 with h|⟨h1,h2,h3,h4,h5⟩
  ·exact h
  ·exfalso;have GT:dC V.prog mV c'.fr a'.frame:=by
    have yH:=r2.gor.fr;generalize GT:(G c'.fr c'.cl).frame=fr at yH;generalize JS:a'.frame=oQ at yH;cases yH with
    |fr hf=>subst GT;exact hf
    | @hole g hS hh xs xs' hx=>
     have:c'.fr=Frame.enter V.prog g xs .normal:=GT;rw[this]at h3;cases h3
   have hm:=GT.mode;rw[h3]at hm;generalize a'.frame.mode=m at hm;cases hm with
   |panicking hc=>
    unfold iL at hc;cases hc with
    |cons hp _=>
     rcases hp.ok with h|h
     ·exact r2.holes.2.2 h
     ·exact h 3 _ _ rfl
 have ZL:mV.hole f=false:=by
  cases h:mV.hole f with
  |false=>rfl
  |true=>
   exfalso;exact r2.holes.1 f h (V.xY f R8)
 obtain⟨M,last,o,w2,t2,s1,s2,s3,s4⟩:=r2.ends (sl:=un) ZK hf ZD ZL (by rw[ev];exact ZH) (Post:=λx w'=>x=.bool true/\Go.RowKit.Below W.heap.size W w') λx x' d hx hv=>by subst hx;cases hv;exact⟨rfl,r2.world.2.1,r2.world.1,r2.world.2.2,r2.grown,λb hb=>r2.kept b hb⟩
 rw[ev]at r1 s1 s2 s3 s4;have CO:runNT PR (N+(M+1)) (solo (G (Frame.enter PR f args .normal) []) W) #[]=(.ended o w2,t2):=(runNT_then r1).trans s1;refine⟨N+M,last,o,w2,t2,CO,?_,s3,s4⟩;have h1:runNT PR (N+M) (solo (G (Frame.enter PR f args .normal) []) W) #[]=runNT PR M (crowd um w' un) t':=runNT_then r1;have h2:=runNT_fst PR (N+M) (solo (G (Frame.enter PR f args .normal) []) W) #[];rw[h1,runNT_fst,s2]at h2;exact h2.symm
def U4:List Nat:=[4,26,27,28,30,35,38,42,43,44,45,48,53,55,58,59,60,69,71,95,96,97,104,105,106,107,108,109,113,114,115,116,117,119,120,121,122,123,125,128,129,130,131,133,134,135,137,144,146,153,154,155,156,157,158,159,160,161,162,163,164,165,166,167,168,169,170,171,172,173,174,175,176,178,179,180,184,185,186,195,196,197,198,199,200,201,222,231]
def R9:List Nat:=[4,26,27,28,30,35,38,42,43,44,45,48,53,55,58,59,60,69,71,95,96,97,104,105,106,107,108,109,113,114,115,116,117,119,120,121,122,123,125,128,129,130,131,133,134,135,136,137,144,146,153,154,155,156,157,158,159,160,161,162,163,164,165,166,167,168,169,170,171,172,173,174,175,176,178,179,180,184,185,186,190,194,195,196,197,198,199,200,201,215,216,222,227,228,229,231]
def Ls(f:Nat):Bool:=f==190||f==163
def TG:U4.all (OC U4)=true:=by kernel_rfl
def QX:R9.all (okF R9 false Ls)=true:=by kernel_rfl
def OH(b a:Nat)(c:Nat):Option Nat:=if c=b then some a else none
def mK{L H:List Nat}{I:Nat->Bool}(U:L.all (OC L)=true)(q:H.all (okF H false I)=true){f:cm}{fn:Func}{tm:Tmp}(X:V.prog.funcs[f]? =some fn)(s:fn.results=#[.tmp tm])(l:f≠163)(u:L.contains f=true)(z:H.contains f=true)
 (A:PR.inits.idxOf? f=none)(hC:∀(ns:List Int) (la:Option Addr) (lc:Nat) (w:cd),ja w la ns->ns.length<=9223372036854775807->Calls V.prog f #[.slice la ns.length lc] w (qa λv w'=>v=.bool true/\Ext w w'))
 {W:cd}{a:Option Addr}{d cap:Nat}{zs:List Int}(g:zs.length=d)(Y:d<=9223372036854775807)(ha:∀ad,a=some ad->ad.spot=none/\(∃x,W.shape? ad.block=some x)/\∀i,i<d->W.cell? (ad.add i)=some (.int .i64 (zs.getD i 0)))(hn:a=none->d=0):∃N last o w' Z,runNT PR (N+1) (solo (G (Frame.enter PR f #[.slice a d cap] .normal) []) W) #[]=(.ended o w',Z)/\runN PR N (solo (G (Frame.enter PR f #[.slice a d cap] .normal) []) W)=.next last/\Go.step PR last=.ended o w'/\Go.Conc.Good PR (λx w'=>x=.bool true/\Go.RowKit.Below W.heap.size W w') last o w' Z:=by
 have m:∀{ns:List Int} {la:Option Addr} {w:cd},ja w la ns->ns.length<=9223372036854775807->Calls V.prog f #[.slice la ns.length cap] w Jz:=λJ Y=>(hC _ _ _ _ J Y).mono λe w' h=>by rcases h with⟨v,rfl,rfl,_⟩|h;exact .inl rfl;exact .inr h
 cases a with
 |none=>
  obtain rfl:=hn rfl;have hz:zs=[]:=l9 g;refine Gm (v:=W) (B:=λ_=>False) (sh:=λ_=>none) U q X s l u z A (λb h=>h.elim) (λ_ _=>rfl) (xs:=#[.slice none 0 cap]) (eT.one (.fc _ _)) (eT.one (.fc _ _)) λT hT=>?_;exact m (ns:=[]) (la:=none) (λk K=>by simp at K) (by simp)
 |some ad=>
  obtain⟨b,j,aa⟩:=ad;obtain⟨rfl,⟨x,C⟩,hc⟩:=ha _ rfl;obtain⟨F,t,M,O⟩:∃F t M,W.heap[b]? =some (.cells F t M):=by simp only[World.shape?]at C;split at C;rename_i c e f h;exact⟨c,e,f,h⟩;cases C
  have hb:=lt_of_heap O;have P:({W with heap:=W.heap.setIfInBounds b (.cells (zs.map (Value.int .i64)).toArray qO (0,d))}:cd).heap[b]? =some (.cells (zs.map (Value.int .i64)).toArray qO (0,d)):=by simp[hb]
  have n:∀ρ:cR,T5 ρ j (.cells (zs.map (Value.int .i64)).toArray qO (0,d)) (.cells F t M):=λρ=>by
   refine⟨_,_,_,_,_,rfl,rfl,λo Q=>⟨fN _,by simpa[g]using Q⟩,λi y R=>?_⟩;have hi:i<zs.length:=by have:=(eP.1 R).1;simpa using this
   have S:y=.int .i64 zs[i]:=by simp[ew hi]at R;exact R.symm
   have h:=hc i (by omega);rw[fL]at h;simp only[World.cell?,O]at h;refine⟨.int .i64 zs[i],?_,by rw[S];exact .int _ _⟩;rw[Nat.add_comm];rw[getD_eq hi]at h;simpa using h
  have p:OH b j b=some j:=by simp[OH]
  have D:∀ρ:cR,ρ.r b b->ρ.sh=OH b j->eT ρ #[.slice (some ⟨b,0,none⟩) d cap] #[.slice (some ⟨b,j,none⟩) d cap]:=λρ J hs=>by refine eT.one (.slice _ _ ?_);have h:=AR.mk (ρ:=ρ) 0 none J;rw[hs,p]at h;simpa using h
  refine Gm (v:={W with heap:=W.heap.setIfInBounds b (.cells (zs.map (Value.int .i64)).toArray qO (0,d))}) (B:=λx=>x=b) (sh:=OH b j) U q X s l u z A (λx C=>?_) (λc hc=>?_) (xs:=#[.slice (some ⟨b,0,none⟩) d cap]) (D _ ⟨rfl,rfl⟩ rfl) (D _ ⟨rfl,rfl⟩ rfl) λT hT=>?_;subst C;refine⟨_,_,P,O,?_,?_,?_⟩;rw[p];exact .inr ⟨_,rfl,n _⟩;rw[p];exact .inr ⟨_,rfl,n _⟩;exact⟨_,_,_,P,λo Q=>⟨fN _,by simpa[g]using Q⟩⟩;unfold OH;rw[cr (by omega)];have E:ja (cI {W with heap:=W.heap.setIfInBounds b (.cells (zs.map (Value.int .i64)).toArray qO (0,d))} T) (some ⟨b,0,none⟩) zs:=λk K=>⟨b,0,rfl,by show(match({W with heap:=W.heap.setIfInBounds b (.cells (zs.map (Value.int .i64)).toArray qO (0,d))}:cd).heap[b]? with|some (.cells F _ _)=>_|_=>_)=_;rw[P];simp[ew K]⟩;have h:=m E (by omega);rw[g]at h;exact h
end Go.Proofs.W
namespace Go.Proofs.YteeagjkaflglpaaGreat
open Go.ChangeShapes Go.WideShapes Go.ChangeAt Go.RowKit Go.Conc
def gJ:List Nat:=(List.range 883).map λi=>0x1bbbefdd2f26eebbe92e64c3be1d9979efdf9fd79c3dd7e5e7bf7e7f5e70f741932ebd986be4ddd77d25cc9877c3b32f3dfbf3faf387bafcbcf7efcfebce1ee839f7cb3b26eebbe92e64c3be1d9979efdf9fd79c3dd7e5e7bf7e7f5e70f741cf5ecc35f26eebbe92e64c3be1d9979efdf9fd79c3dd7e5e7bf7e7f5e70f741cf3ef9993775df4973261df0eccbcf7efcfebce1eebf2f3dfbf3faf387ba0e9cf0ccc9bbaefa4b9930ef87665e7bf7e7f5e70f75f979efdf9fd79c3dd072cbd3341c9bbaefa4b9930ef87665e7bf7e7f5e70f75f979efdf9fd79c3dd065eb1326eebbe92e64c3be1d9979efdf9fd79c3dd7e5e7bf7e7f5e70f741cf2ebc35326eebbe92e64c3be1d9979efdf9fd79c3dd7e5e7bf7e7f5e70f741932e4d3db4c4c9bbaefa4b9930ef87665e7bf7e7f5e70f75f979efdf9fd79c3dd074e797a72dfa29e4ddd77d25cc9877c3b32f3dfbf3faf387bafcbcf7efcfebce1ee839eed39f2c2c9bbaefa4b9930ef87665e7bf7e7f5e70f75f979efdf9fd79c3dd074e7be664ddd77d25cc9877c3b32f3dfbf3faf387bafcbcf7efcfebce1ee83265e59716debbb2d2c9bbaefa4b9930ef87665e7bf7e7f5e70f75f979efdf9fd79c3dd072cba79e18b93775df4973261df0eccbcf7efcfebce1eebf2f3dfbf3faf387ba0e99b2ccc9bbaefa4b9930ef87665e7bf7e7f5e70f75f979efdf9fd79c3dd072cbd30ccc9bbaefa4b9930ef87665e7bf7e7f5e70f75f979efdf9fd79c3dd064cbdb965a793775df4973261df0eccbcf7efcfebce1eebf2f3dfbf3faf387ba0e9cf2f7cb1b26eebbe92e64c3be1d9979efdf9fd79c3dd7e5e7bf7e7f5e70f741cf761d94326eebbe92e64c3be1d9979efdf9fd79c3dd7e5e7bf7e7f5e70f741932f3e597b65a593775df4973261df0eccbcf7efcfebce1eebf2f3dfbf3faf387ba0e797b72cb4f26eebbe92e64c3be1d9979efdf9fd79c3dd7e5e7bf7e7f5e70f741d30a0e9d71a064cb2e362df132cadd8b460e33316ce596272ddb32c2e30b962e19e4c6d7333c4d5be560d9ce36199cb372d5937cad9bb0c787132c98593941cf9e5ddcb0e8/128^i%128
def Al:Tryz.pinned.checked.prog.initOrder=String.ofList (gJ.map Char.ofNat):=by kernel_rfl
def qf:Tryz.pinned.checked.prog.initOrder.toList=gJ.map Char.ofNat:=by rw[Al,String.toList_ofList]
def qg:(behindMainWord (wordsSigns (gJ.map Char.ofNat))).head?=some "cut".toList:=by kernel_rfl
def qh:∃r,behindMainWord (wordsSigns (gJ.map Char.ofNat))= "cut".toList::r:=by
 have h:=qg;revert h;generalize behindMainWord (wordsSigns (gJ.map Char.ofNat))=l;intro h;cases l with
 |nil=>cases h
 |cons x r=>exact⟨r,by rw[cE h]⟩
def t1:("cut".toList== "gc".toList)=false:=by kernel_rfl
def t2:("cut".toList== "spec".toList)=false:=by kernel_rfl
def t3:("cut".toList== "cut".toList)=true:=by kernel_rfl
def t4:("cut".toList== "carried".toList)=false:=by kernel_rfl
def t5(r:List (List Char)):(stripLifts liftWords ("cut".toList::r))=([], "cut".toList::r):=by kernel_rfl
def t9:((some "cut".toList:Option (List Char))==some "cut".toList)=true:=by kernel_rfl
def t10:([]:List String).contains "finals" =false:=by kernel_rfl
def t11:([]:List String).contains "reflectrows" =false:=by kernel_rfl
def t12:([]:List String).contains "leanrows" =false:=by kernel_rfl
def qi(P:cf)(r:List (List Char))(h:behindMainWord (wordsSigns P.initOrder.toList)= "cut".toList::r):P.make=some .cut:=by unfold Program.make;rw[h];dsimp only;rw[t1,t2,t3,Bool.or_self,cr Bool.false_ne_true,Bool.true_or,cx rfl]
def jq(P:cf)(r:List (List Char))(h:behindMainWord (wordsSigns P.initOrder.toList)= "cut".toList::r)(a:P.laysLater=false)(b:P.bearsReflect=false)(c:P.doorFits []=true):P.mayEnter=true:=by unfold Program.mayEnter;rw[h];dsimp only;rw[t5,t1,t2,t4,a,b,c];dsimp only;rw[List.head?_cons,t9,t10,t11,t12];rfl
def io(P:cf)(r:List (List Char))(h:behindMainWord (wordsSigns P.initOrder.toList)= "cut".toList::r):P.liftsFinal=false:=by unfold Program.liftsFinal Program.headLifts;rw[h];kernel_rfl
def iN:∃r,behindMainWord (wordsSigns Tryz.pinned.checked.prog.initOrder.toList)= "cut".toList::r:=by rw[qf];exact qh
def t6:Tryz.pinned.checked.prog.laysLater=false:=by kernel_rfl
def t7:Tryz.pinned.checked.prog.bearsReflect=false:=by kernel_rfl
def t8:Tryz.pinned.checked.prog.doorFits []=true:=by kernel_rfl
def mD:Tryz.pinned.checked.prog.mayEnter=true:=iN.elim λr h=>jq _ r h t6 t7 t8
def kO:Tryz.pinned.checked.prog.liftsFinal=false:=iN.elim λr h=>io _ r h
def kP:Tryz.pinned.checked.prog.make=some .cut:=iN.elim λr h=>qi _ r h
def cL{a b:Bool}(h:a=true)(k:b=true):(a&&b)=true:=by rw[h,k];rfl
def Tryz.own:ownKnob Tryz.prog.godebug=none:=by kernel_rfl
def Tryz.laidOut:laidOutB Tryz.prog=true:=by kernel_rfl
def Tryz.qj:Tryz.prog.cellsOf 3=1:=by kernel_rfl
def Tryz.iy:Tryz.prog.underlying 27=some (.slice 3):=by kernel_rfl
def Tryz.xU:Tryz.prog.underlying 3=some (.int .i64):=by kernel_rfl
def Tryz.Dy:Tryz.prog.underlying 4=some .bool:=by kernel_rfl
def jC{P:cf}{w:cd}{r:Reach}{b:Nat}{t e:cg}{a:Addr}{l c:Nat}(d:P.underlying t=some (.slice e))(h:Value.okWide P w r b t (.slice (some a) l c)):a.spot=none/\∃x,w.shape? a.block=some x:=by simp only[Value.okWide,d,Cell.okWide,Cell.ok]at h;obtain⟨_,_,_,f,g,cells,i,_⟩:=h;exact⟨f,_,i⟩
def t14:(Rows.roundDueRow.lifted==false)=true:=by kernel_rfl
def kQ:(Rows.roundDueRow.lifted==Tryz.pinned.checked.prog.liftsFinal)=true:=(cM (λx=>Rows.roundDueRow.lifted==x) kO).trans t14
def t13:(some Make.cut==some Rows.roundDueRow.make)=true:=by kernel_rfl
def kR:(Tryz.pinned.checked.prog.make==some Rows.roundDueRow.make)=true:=(cM (λx=>x==some Rows.roundDueRow.make) kP).trans t13
def gK:joinedFacts Tryz.pinned.checked.prog 17 Tryz.f17 Rows.roundDueSpec Rows.roundDueRow=true:=by unfold joinedFacts;exact(cL (cL (cL (cL (cL (cL (cL (cL (cL (cL (cL (cL (cL (cL (cL (cL (cL (cL (cL (cL (cL (cL (cL (cL (cL (cL (cL (cL (cL (cL (cL (by kernel_rfl) (by kernel_rfl)) (by kernel_rfl)) (by kernel_rfl)) (by kernel_rfl)) (by kernel_rfl)) (by kernel_rfl)) (by kernel_rfl)) (by kernel_rfl)) (by kernel_rfl)) (by kernel_rfl)) (by kernel_rfl)) (by kernel_rfl)) (by kernel_rfl)) (by kernel_rfl)) (by kernel_rfl)) (by kernel_rfl)) (by kernel_rfl)) (by kernel_rfl)) (by kernel_rfl)) (by kernel_rfl)) (by kernel_rfl)) (by kernel_rfl)) (by kernel_rfl)) (by kernel_rfl)) mD) kQ) kR) (by kernel_rfl)) (by kernel_rfl)) (by kernel_rfl)) (by kernel_rfl))
end Go.Proofs.YteeagjkaflglpaaGreat
namespace Go.Proofs.W
open Go.RowKit
def TH{α:Type}{xs ys:Array α}{v f:α}{n k:Nat}(h:ys=xs.setIfInBounds n v)(a:k≠n)(b:xs[k]? =some f):ys[k]? =some f:=by subst h;rw[eY (fO a)];exact b
def V.OK:V.prog.funcs=Tryz.prog.funcs.setIfInBounds 163 V.f163:=by kernel_rfl
def V.fn{k:Nat}{f:Func}(h:Tryz.prog.funcs[k]? =some f)(a:k≠163):V.prog.funcs[k]? =some f:=TH V.OK a h
def Ap{a:Nat}{w:cd}(h:gI a w)(n:Int)(c: -1000000<=n/\n<=1000000):Calls V.prog 93 #[cK a,.int .i64 n] w (fy λv w'=>(∃b,v=.bool b)/\DE a w w'):=by refine go (V.fn Tryz.func93 (by decide)) Tryz.ntmps93 ?_;refine fx (ck (nJ h (n-1) (by omega)) ?_);rintro _ e ⟨⟨z,rfl,_⟩,d⟩;exact eh ⟨_,rfl,⟨_,rfl⟩,d⟩
def Pf(t:Ty):Tq:=⟨t.door,t.shift,t.opened⟩
def wE(w:cd)(a:Option Addr)(l:List Ty):Prop:=∀k (h:k<l.length),∃b o,a=some ⟨b,o,none⟩/\∀j v,(tL l[k])[j]? =some v->w.cell? ⟨b,o+k*3+j,none⟩=some v
def wE.ext{w w':cd}{a:Option Addr}{l:List Ty}(h:wE w a l)(e:Ext w w'):wE w' a l:=λk c=>by obtain⟨b,o,d,f⟩:=h k c;exact⟨b,o,d,λj v g=>e.cell (f j v g)⟩
def wE.q{w:cd}{a:Option Addr}{l:List Ty}(h:wE w a l):sI w a (l.map Pf):=λk c=>by obtain⟨b,o,d,e⟩:=h k (by simpa using c);exact⟨b,o,d,λj v f=>e j v (by simpa[Pc,Pf,tL]using f)⟩
def fM(l:List Ty)(d h:Nat):Nat:=(l.filter λt=>decide (t.door=d/\t.shift%2=h)).length
def Ar(l:List Ty)(d:Nat):Bool:=l.any λt=>decide (t.door=d)&&t.opened
def lH(l:List Ty)(d a:Nat):Bool:=l.any λt=>decide (t.door=d)&&decide (t.shift/2=a)
def tS(l:List Ty)(t:Ty)(d h:Nat):fM (l++[t]) d h=fM l d h+if t.door=d/\t.shift%2=h then 1 else 0:=by simp only[fM,List.filter_append,fX];congr 1;by_cases c:t.door=d/\t.shift%2=h<;>simp[List.filter,c]
def tT(l:List Ty)(t:Ty)(d:Nat):Ar (l++[t]) d=(Ar l d||(decide (t.door=d)&&t.opened)):=by simp[Ar]
def As(l:List Ty)(t:Ty)(d a:Nat):lH (l++[t]) d a=(lH l d a||(decide (t.door=d)&&decide (t.shift/2=a))):=by simp[lH]
def nL(l:List Ty)(d h:Nat):fM l d h<=l.length:=List.length_filter_le ..
def JD{m n:Nat}(a:0<n)(w:cd):Calls V.prog 34 #[.int .i64 m,.int .i64 n] w (fy λv w'=>v=.int .i64 ((m%n:Nat):Int)/\w'=w):=by refine go (V.fn Tryz.func34 (by decide)) Tryz.ntmps34 ?_;exact C8 a (cV (iG (by simp;omega) ⟨_,rfl,rfl,rfl⟩))
def pt{l:List Ty}{la:Option Addr}{lc:Nat}{w:cd}(t:wE w la l)(s:l.length<=100000)(d h:Nat):Calls V.prog 74 #[.slice la l.length lc,.int .i64 d,.int .i64 h] w (fy λv w'=>v=.tuple #[.int .i64 (fM l d h),.bool (Ar l d)]/\w'=w):=by
 refine go (V.fn Tryz.func74 (by decide)) Tryz.ntmps74 ?_;refine dZ l.length (λk (_:Unit)=>[(0,.slice la l.length lc),(1,.int .i64 d),(2,.int .i64 h),(8,.int .i64 (fM (l.take k) d h)),(9,.bool (Ar (l.take k) d)),(10,.int .i64 k)]) (λ_ _ w'=>w'=w) () ⟨⟨rfl,rfl,rfl,rfl,rfl,rfl,trivial⟩,rfl⟩ ?_;rintro k _ x y rfl;refine cD (cV ⟨λm=>?_,λp=>?_⟩);have a:k<l.length:=by simpa using m
 obtain⟨b,o,rfl,j⟩:=t k a;have u:=nL (l.take k) d h;rw[yy]at u;have f:=tS (l.take k) l[k] d h;have g:=tT (l.take k) l[k] d;rw[<-gP a]at f g;refine fF k 3 a (cu (j 0 _ rfl) (eh ⟨λi=>?_,λi=>?_⟩));have i:l[k].door=d:=Int.ofNat.inj (cY i);rw[decide_eq_true i,Bool.true_and]at g;refine⟨λr=>?_,λr=>?_⟩;rw[r,Bool.true_or]at g;refine fF k 3 a (cu (j 1 _ rfl) (cS (JD (n:=2) (by omega) _) (eh ⟨λc=>?_,λc=>?_⟩)));have c:l[k].shift%2=h:=Int.ofNat.inj (cY c);rw[cx ⟨i,c⟩]at f;refine cq (cq ⟨a,(),⟨rfl,rfl,rfl,?_,?_,rfl,trivial⟩,rfl⟩);show some _=some _;rw[f];rfl;show some _=some _;rw[g];have c:¬l[k].shift%2=h:=λe=>dQ c (cM Int.ofNat e);rw[cr (λq=>c q.2),mT (fM (l.take k) d h)]at f;refine cq ⟨a,(),⟨rfl,rfl,rfl,?_,?_,rfl,trivial⟩,rfl⟩;show some _=some _;rw[f];show some _=some _;rw[g];rw[r,Bool.false_or]at g;refine fF k 3 a (cu (j 2 _ rfl) (fF k 3 a (cu (j 1 _ rfl) (cS (JD (n:=2) (by omega) _) (eh ⟨λc=>?_,λc=>?_⟩)))));have c:l[k].shift%2=h:=Int.ofNat.inj (cY c);rw[cx ⟨i,c⟩]at f;refine cq (cq ⟨a,(),⟨rfl,rfl,rfl,?_,?_,rfl,trivial⟩,rfl⟩);show some _=some _;rw[f];rfl;show some _=some _;rw[g];have c:¬l[k].shift%2=h:=λe=>dQ c (cM Int.ofNat e);rw[cr (λq=>c q.2),mT (fM (l.take k) d h)]at f;refine cq ⟨a,(),⟨rfl,rfl,rfl,?_,?_,rfl,trivial⟩,rfl⟩;show some _=some _;rw[f];show some _=some _;rw[g];have i:¬l[k].door=d:=λe=>dQ i (cM Int.ofNat e);rw[cr (λq=>i q.1),mT (fM (l.take k) d h)]at f;rw[jT i,Bool.false_and,Bool.or_false]at g;refine cq ⟨a,(),⟨rfl,rfl,rfl,?_,?_,rfl,trivial⟩,rfl⟩;show some _=some _;rw[f];show some _=some _;rw[g];obtain rfl:k=l.length:=by simp at p;omega
 rw[kX];exact⟨_,rfl,rfl,rfl⟩
def u6(G:Gd)(a b:Nat):Bool:=decide (G.tries<=(a:Int)+b)&&(decide (G.tries<2)||(decide (0<(a:Int))&&decide (0<(b:Int))))
def Au{G:Gd}{h:Option Addr}{dc:Nat}{w:cd}(a b:Nat)(k:a<=1000000)(i:b<=1000000):Calls V.prog 75 #[gV G h dc,.int .i64 a,.int .i64 b] w (fy λv w'=>v=.bool (u6 G a b)/\Ext w w'):=by refine go (V.fn Tryz.func75 (by decide)) Tryz.ntmps75 ?_;refine fo λl m e j g=>cq (cu (ci g rfl) (n6 ⟨λd=>?_,λd=>?_⟩));refine cu (ci g rfl) (cV ⟨λf=>?_,λf=>?_⟩);exact⟨_,rfl,by simp[u6,d,f],e⟩;refine ny ⟨λc=>?_,λc=>?_⟩;have c:0<(a:Int):=cY c;exact ny ⟨_,rfl,by rw[u6,d,f,decide_eq_true c];rfl,e⟩;have c:¬0<(a:Int):=dQ c;exact⟨_,rfl,by rw[u6,d,f,jT c];rfl,e⟩;exact⟨_,rfl,by simp[u6,d],e⟩
def oM(G:Gd)(l:List Ty)(d:Nat):Bool:=Ar l d||u6 G (fM l d 0) (fM l d 1)
def mF{G:Gd}{f:Option Addr}{dc:Nat}{l:List Ty}{la:Option Addr}{lc:Nat}{w:cd}(e:wE w la l)(a:l.length<=100000)(d:Nat):Calls V.prog 49 #[gV G f dc,.slice la l.length lc,.int .i64 d] w (fy λv w'=>v=.bool (oM G l d)/\Ext w w'):=by refine go (V.fn Tryz.func49 (by decide)) Tryz.ntmps49 ?_;refine fo λj k b g h=>?_;have m:=nL l d 0;have n:=nL l d 1;refine cS (pt (e.ext b) a d 0) (cS (pt (e.ext b) a d 1) ⟨λc=>?_,λc=>?_⟩);exact⟨_,rfl,by simp[oM,c],b⟩;refine di h (dq (Au (fM l d 0) (fM l d 1) (by omega) (by omega)) λo i=>⟨_,rfl,by simp[oM,c],b.trans i⟩)
def xx{l:List Ty}{la:Option Addr}{lc:Nat}{w:cd}(s:wE w la l)(q:l.length<=100000)(u:∀t∈l,t.shift<=1000000)(d a:Nat):Calls V.prog 98 #[.slice la l.length lc,.int .i64 d,.int .i64 a] w (fy λv w'=>v=.bool (lH l d a)/\w'=w):=by
 refine go (V.fn Tryz.func98 (by decide)) Tryz.ntmps98 ?_;refine dZ l.length (λk (_:Unit)=>[(0,.slice la l.length lc),(1,.int .i64 d),(2,.int .i64 a),(7,.int .i64 k)]) (λk _ w'=>w'=w/\lH (l.take k) d a=false) () ⟨⟨rfl,rfl,rfl,rfl,trivial⟩,rfl,by simp[lH]⟩ ?_;rintro k _ y z ⟨rfl,h⟩;refine cD (cV ⟨λi=>?_,λj=>?_⟩);have c:k<l.length:=by simpa using i
 obtain⟨b,o,rfl,r⟩:=s k c;have m:=As (l.take k) l[k] d a;rw[<-gP c,h,Bool.false_or]at m;have x:=u _ (dt c);have p:l[k].door=d->l[k].shift/2=a->lH l d a=true:=λf g=>List.any_eq_true.2 ⟨_,dt c,by simp[f,g]⟩;refine fF k 3 c (cu (r 0 _ rfl) (eh ⟨λf=>?_,λf=>?_⟩));have f:l[k].door=d:=Int.ofNat.inj (cY f);refine fF k 3 c (cu (r 1 _ rfl) (rG (n:=2) (by omega) (by omega) (eh ⟨λg=>?_,λg=>?_⟩)));have g:l[k].shift/2=a:=Int.ofNat.inj (cY g);exact⟨_,rfl,by rw[p f g];rfl,rfl⟩;have g:¬l[k].shift/2=a:=λe=>dQ g (cM Int.ofNat e);exact cq ⟨c,(),⟨rfl,rfl,rfl,rfl,trivial⟩,rfl,by rw[m,jT g,Bool.and_false]⟩;have f:¬l[k].door=d:=λe=>dQ f (cM Int.ofNat e);exact iG rfl (cq ⟨c,(),⟨rfl,rfl,rfl,rfl,trivial⟩,rfl,by rw[m,jT f,Bool.false_and]⟩);obtain rfl:k=l.length:=by simp at j;omega
 rw[kX]at h;exact⟨_,rfl,by rw[h];rfl,rfl⟩
def jM(l:List Ty)(d:Nat):Sx:=⟨((fM l d 0+fM l d 1:Nat):Int),(fM l d 0:Nat),(fM l d 1:Nat),Ar l d,lH l d 0,lH l d 1,lH l d 2,false⟩
def wF(G:Gd)(l:List Ty)(d:Nat):gA G.tries (jM l d)=oM G l d:=by simp only[gA,jM,oM,u6,Bool.false_or,Int.natCast_add];rfl
def OL(l:List Ty)(d k:Nat)(a:k<3):tH (jM l d) k=lH l d k:=by
 obtain rfl|rfl|rfl:k=0\/k=1\/k=2:=by omega
 all_goals rfl
def Ii(l:List Ty)(d s:Nat)(o:Bool)(c:s<6):iJ (jM l d) s o=jM (l++[⟨d,s,o⟩]) d:=by
 have b:s%2=0\/s%2=1:=by omega
 have a:s/2=0\/s/2=1\/s/2=2:=by omega
 simp only[iJ,jM,tS,tT,As,true_and,decide_true,Bool.true_and];rcases b with b|b<;>rcases a with a|a|a<;>simp[b,a]<;>omega
def Ij(l:List Ty)(t:Ty)(d:Nat)(h:t.door≠d):jM (l++[t]) d=jM l d:=by simp only[jM,tS,tT,As,h,false_and,eo,mT,decide_false,Bool.false_and,Bool.or_false]
def lastT(b:Int)(l:List Tq):Int:=match l.getLast? with
 |some t=>t.shift
 |none=>b
theorem Cd(G:Gd)(t:Tq):∀(l:List Tq) (xs ys:List Sx) (b:Int),rL G xs b l=(0,ys)->rL G xs b (l++[t])=rL G ys (lastT b l) [t]
 |[],xs,ys,b,h=>by simp only[rL,Prod.mk.injEq,true_and]at h;subst h;rfl
 |x::r,xs,ys,b,h=>by
  have e:lastT b (x::r)=lastT x.shift r:=by unfold lastT;rw[List.getLast?_cons];cases r.getLast?<;>rfl
  rw[e,qn];simp only[rL]at h;conv=>lhs;unfold rL
  split at h;rename_i a;rw[cx a];split at h;simp at h;rename_i c;rw[cr c];split at h;simp at h;rename_i d;rw[cr d];split at h;simp at h;rename_i f;rw[cr f];exact Cd G t r _ ys _ h;simp at h
structure Made(G:Gd)(l:List Ty)(s:Nat):Prop where
 log:gO G (l.map Pf)=(0,(List.range G.doors.length).map (jM l))
 last:∀t∈l,t.shift<=s
def Made.nil(G:Gd):Made G [] 0:=⟨by simp only[gO,qK,rL];congr 1;refine List.ext_getElem (by simp) λi a b=>?_;simp only[List.getElem_replicate,List.getElem_map];rfl,λt h=>by cases h⟩
def Made.up{G:Gd}{l:List Ty}{s s':Nat}(h:Made G l s)(a:s<=s'):Made G l s':=⟨h.log,λt b=>cJ (h.last t b) a⟩
def Made.more{G:Gd}{l:List Ty}{s d:Nat}{o:Bool}(h:Made G l s)(c:d<G.doors.length)(p:(s:Int)<2*G.days)(q:G.days<=3)(f:lH l d (s/2)=false)(g:oM G l d=false):Made G (l++[⟨d,s,o⟩]) s:=by
 refine⟨?_,λt a=>?_⟩;have j:((List.range G.doors.length).map (jM l)).getD d oe=jM l d:=by rw[gU,mR,List.getElem?_range c];rfl
 have r:lastT 0 (l.map Pf)<=s:=by
  unfold lastT;rw[List.getLast?_map];cases k:l.getLast? with
  |none=>exact Int.natCast_nonneg s
  |some t=>exact Int.ofNat_le.2 (h.last t (List.mem_of_getLast? k))
 have e:=Cd G ⟨(d:Int),(s:Int),o⟩ _ _ _ 0 h.log;have m:(jX (d:Int) 0 ((G.doors.length:Int)-1)&&jX (s:Int) 0 (2*G.days-1))=true:=by simp[jX];omega
 rw[gO,nQ,jP,qK];refine e.trans ?_;have b:((List.range G.doors.length).map (jM l)).getD ((d:Int)).toNat oe=jM l d:=j;simp only[rL,m,cX];rw[cr (by omega),b,OL l d _ (by omega),wF];simp only[ql];rw[f,g];simp only[iq,eo,rL];congr 1;rw[Ii l d s o (by omega)];refine List.ext_getElem (by simp) λi u n=>?_;have v:i<G.doors.length:=by simpa using n
 rw[List.getElem_set];simp only[List.getElem_map,List.getElem_range];split;rename_i e;rw[e];rename_i e;exact(Ij l ⟨d,s,o⟩ i e).symm;rcases gl.1 a with a|a;exact h.last t a;rw[fD.1 a];exact cz _
def U6:FD 25 84 [.int .i64 0,.int .i64 0,.bool false]:=⟨by kernel_rfl,Tryz.t84,_,by kernel_rfl,rfl,by kernel_rfl,by kernel_rfl,by decide+kernel,by decide⟩
def sK(n0:Nat)(w:cd)(v:ce)(l:List Ty):Prop:=cA n0 84 [.int .i64 0,.int .i64 0,.bool false] w v l.length (l.flatMap tL)
theorem OM{α:Type}{f:α->List ce}{n:Nat}(a:∀x,(f x).length=n):∀l:List α,(l.flatMap f).length=l.length*n
 |[]=>by simp
 |t::r=>by rw[ky,fX,a,OM a r,dW,Nat.add_mul,Nat.one_mul,Nat.add_comm]
theorem Ik{α:Type}{f:α->List ce}{n:Nat}(a:∀x,(f x).length=n):∀(l:List α) (k:Nat) (b:k<l.length) (j:Nat) (v:ce),(f l[k])[j]? =some v->(l.flatMap f)[k*n+j]? =some v
 |x::r,0,_,j,v,h=>by have c:j<(f x).length:=(gy.1 h).1;rw[ky,Nat.zero_mul,cB,kz c];exact h
 |x::r,k+1,b,j,v,h=>by have d:=Ik a r k (by simpa using b) j v (by simpa using h);rw[ky,mQ (by rw[a,Nat.add_mul];omega),a,show(k+1)*n+j-n=k*n+j by rw[Nat.add_mul];omega];exact d
def Lz(l:List Ty):(l.flatMap tL).length=l.length*3:=OM (f:=tL) (n:=3) (λ_=>rfl) l
def LA(l:List Ty)(k:Nat)(a:k<l.length)(j:Nat)(v:ce)(h:(tL l[k])[j]? =some v):(l.flatMap tL)[k*3+j]? =some v:=Ik (f:=tL) (n:=3) (λ_=>rfl) l k a j v h
def sK.row{n0:Nat}{w:cd}{v:ce}{l:List Ty}(h:sK n0 w v l):∃a c,v=.slice a l.length c/\wE w a l/\l.length<=c:=by obtain⟨p,⟨d,rfl⟩|⟨b,c,q,r,rfl,g,s,i,t,m,u⟩⟩:=h;exact⟨none,0,by rw[d],λk e=>by omega,by omega⟩;refine⟨_,c,rfl,λk e=>⟨b,0,rfl,λj v f=>ci g ?_⟩,i⟩;have n:j<(tL l[k]).length:=(gy.1 f).1;have o:(tL l[k]).length=3:=rfl;have d:=Lz l;rw[cB,m _ (by omega)];exact LA l k e j v f
def sK.low{n0 a:Nat}{w:cd}{v:ce}{l:List Ty}(h:sK n0 w v l)(g:a<=n0):sK a w v l:=by obtain⟨d,h|⟨b,c,e,i,f⟩⟩:=h;exact⟨d,.inl h⟩;exact⟨d,.inr ⟨b,c,e,by omega,f⟩⟩
def Ce{d:Nat}{w:cd}(h:gI d w){G:Gd}{O:Option Addr}{dc:Nat}(hG:eg G=0):Calls V.prog 29 #[cK d,gV G O dc] w (fy λv w'=>DE d w w'/\∃l s,sK w.heap.size w' v l/\Made G l s/\(s:Int)<2*G.days/\l.length<=30):=by
 have ok:=ek hG;have hm:=ok.many;have T:=ok.days;refine go (V.fn Tryz.func29 (by decide)) Tryz.ntmps29 ?_;refine fo λj r u af A=>?_;have ag:=h.lt;have ah:=cF.lt_of_heap A;refine cu (ci A rfl) (tE (fx (ck (nJ (h.ext u) (2*G.days-1) (by omega)) ?_)));rintro _ w2 ⟨⟨z,rfl,ai,hz⟩,d2⟩;have U:=d2.1.fg A (show¬r=d by omega);have aj:z<=2*G.days-1:=by omega
 refine dZ z.toNat (λs (x:ce×List Ty)=>[(0,cK d),(3,cK r),(5,x.1),(6,.int .i64 z),(7,.int .i64 s)]) (λs x w'=>DE d j w'/\w'.heap[r]? =some (.cells (gV G O dc).cells 24)/\sK j.heap.size w' x.1 x.2/\Made G x.2 s/\x.2.length<=5*s) (.slice none 0 0,[]) ⟨⟨rfl,rfl,rfl,rfl,rfl,trivial⟩,d2,U,cA.nil _ _ _ _,Made.nil G,cz _⟩ ?_;rintro s ⟨v,l⟩ w3 hs ⟨d3,W,y,k,m⟩;simp only at y k m;refine cV ⟨λB=>?_,λC=>?_⟩;have X:(s:Int)<z:=cY B;refine dZ G.doors.length (λi (x:ce×List Ty)=>[(0,cK d),(3,cK r),(5,x.1),(6,.int .i64 z),(7,.int .i64 s),(8,.int .i64 i)]) (λi x w'=>DE d j w'/\w'.heap[r]? =some (.cells (gV G O dc).cells 24)/\sK j.heap.size w' x.1 x.2/\Made G x.2 s/\x.2.length<=5*s+i) (v,l) ⟨⟨rfl,rfl,rfl,rfl,rfl,rfl,trivial⟩,d3,W,y,k,m⟩ ?_;rintro i ⟨v,l⟩ w4 hi ⟨Y,D,y,k,m⟩;simp only at y k m;refine cu (ci D rfl) (cD (cV ⟨λB=>?_,λC=>?_⟩));have f:i<G.doors.length:=by simpa using B
 refine ck (Ap (Y.2 (h.ext u)) 3 (by omega)) ?_;rintro _ P ⟨⟨b,rfl⟩,Z⟩;have E:=Z.1.fg D (show¬r=d by omega);have F:=Y.trans Z;have o:sK j.heap.size P v l:=cA.keep y Z.1 λb A e=>by have:=(cA.blk y A).1;have:=u.size;omega
 obtain⟨a,c,rfl,L,hc⟩:=o.row;have g:∀I,Ext P I->DE d j I/\I.heap[r]? =some (.cells (gV G O dc).cells 24)/\sK j.heap.size I (.slice a l.length c) l/\Made G l s/\l.length<=5*s+(i+1):=λI p=>⟨F.trans (p.de d),p.at_ E,cA.ext o p,k,by omega⟩;refine⟨λaa=>?_,λaa=>?_⟩;refine rG (n:=2) (by omega) (by omega) (cS (xx L (by omega) (λt ht=>by have:=k.last t ht;omega) i (s/2)) (eu ⟨λQ=>?_,λQ=>?_⟩));have Q:lH l i (s/2)=false:=by simpa using Q
 refine di E (dq (mF L (by omega) i) λI p=>eu ⟨λR=>?_,λR=>?_⟩);have R:oM G l i=false:=by simpa using R
 have ab:=p.at_ E;refine ck (Ap ((p.de d).2 (F.2 (h.ext u))) 4 (by omega)) ?_;rintro _ w7 ⟨⟨S,rfl⟩,d7⟩;have ac:=d7.1.fg ab (show¬r=d by omega);have q:sK j.heap.size w7 (.slice a l.length c) l:=cA.keep (cA.ext o p) d7.1 λb A e=>by have:=(cA.blk o A).1;have:=u.size;omega
 have M:=(F.trans (p.de d)).trans d7;refine dA (.agg (tL ⟨i,s,S⟩).toArray) (dJ (tL ⟨i,s,S⟩) 84 λw8 nb J ak ad=>fP U6 (cA.ext q J) (by have:=M.1.size;have:=J.size;omega) ad (by omega) λv' w9 ae k9 _=>cq ⟨f,(v',l++[⟨i,s,S⟩]),⟨rfl,rfl,rfl,rfl,rfl,rfl,trivial⟩,?_,?_,?_,k.more f (by omega) (by omega) Q R,by simp;omega⟩);have N:=M.trans (J.de d);refine⟨(N.1.trans k9 (H:=λx=>x=d\/j.heap.size<=x) (λ_ _ h=>.inl h) λx _ K=>.inr (cA.blk (cA.ext q J) K).1).trans (cN.refl (λ_=>False) _) (λx K h=>h.elim id λh=>by omega) λ_ _ h=>h.elim,λhD=>(N.2 hD).keep k9 λx K=>?_⟩;have:=(cA.blk (cA.ext q J) K).1;have:=u.size;omega;refine k9.fg (J.at_ ac) λK=>?_;have:=(cA.blk (cA.ext q J) K).1;omega;unfold sK;rw[fX,List.flatMap_append];have h9:cA j.heap.size 84 [.int .i64 0,.int .i64 0,.bool false] w9 v' (l.length+1) (l.flatMap tL++tL ⟨i,s,S⟩):=ae;simpa using h9;exact cq ⟨f,(.slice a l.length c,l),⟨rfl,rfl,rfl,rfl,rfl,rfl,trivial⟩,g I p⟩;exact iG rfl (cq ⟨f,(.slice a l.length c,l),⟨rfl,rfl,rfl,rfl,rfl,rfl,trivial⟩,g P (Ext.refl _)⟩);exact iG rfl (iG rfl (cq ⟨f,(.slice a l.length c,l),⟨rfl,rfl,rfl,rfl,rfl,rfl,trivial⟩,g P (Ext.refl _)⟩));obtain rfl:i=G.doors.length:=by simp at C;omega
 exact cq ⟨by omega,(v,l),⟨rfl,rfl,rfl,rfl,rfl,trivial⟩,Y,D,y,k.up (by omega),by simp only;omega⟩;have X:¬(s:Int)<z:=dQ C;exact⟨_,rfl,(u.de d).trans d3,l,s,y.low u.size,k,by omega,by omega⟩
def W8:FD 95 101 [.int .i64 0,.int .i64 0,.bool false,.bool false]:=⟨by kernel_rfl,Tryz.t101,_,by kernel_rfl,rfl,by kernel_rfl,by kernel_rfl,by decide+kernel,by decide⟩
def Cf(G:Gd)(xs:List Sx)(ds:List Nat):List ce:=ds.flatMap λd=>qE d (fQ G (xs.getD d oe))
theorem Cg(G:Gd)(xs:List Sx):∀ds,(Cf G xs ds).length=ds.length*4
 |[]=>rfl
 |d::r=>by have:=Cg G xs r;simp only[Cf,ky,fX,dW]at this⊢;rw[this];show 4+_=_;omega
def Ci(n0:Nat)(w:cd)(v:ce)(G:Gd)(xs:List Sx)(ds:List Nat):Prop:=cA n0 101 [.int .i64 0,.int .i64 0,.bool false,.bool false] w v ds.length (Cf G xs ds)
def ON{G:Gd}{z:Option Addr}{dc:Nat}{w:cd}(K:gD w z G.doors)(A:eg G=0){l:List Tq}{la:Option Addr}{lc:Nat}(L:sI w la l)(M:l.length<=1000)(N:(gO G l).1=0):
 Calls V.prog 72 #[gV G z dc,.slice la l.length lc] w (fy λv w'=>Ext w w'/\∃u,v=.tuple #[u,.int .i64 0]/\Ci w.heap.size w' u G (gO G l).2 (cW G.tries (gO G l).2)):=by
 have B:=ek A;have hm:=B.many;have hs:=B.streets;refine go (V.fn Tryz.func72 (by decide)) Tryz.ntmps72 ?_;refine fo λw1 gb j O P=>di P (ck (wo (dc:=dc) (K.ext j) (by omega) (by omega) (L.ext j) (by omega)) ?_);rintro v w2 ⟨Q,⟨C,rfl⟩|⟨C,R,gp,mk,ms,rfl,S,D⟩⟩;exact absurd (by rw[wn,cx A];exact N) C;obtain⟨a,m⟩:∃a,a=(gO G l).2:=⟨_,rfl⟩;have g:=S.k;rw[<-m]at g D⊢;have T:=g.len;have E:=pm G.tries a;refine eG (iG (by simp) (ck (yi g) ?_));rintro ov p ⟨F,q⟩;obtain⟨U,W,rfl,r,X⟩:=q.row;have H:=(j.trans Q).trans F;refine cD (gC (n:=(cW G.tries a).length) (λk v=>[(6,cK R),(8,v),(21,.slice U (cW G.tries a).length W),(22,.int .i64 (cW G.tries a).length),(23,.int .i64 k)]) (λk v w'=>Ext p w'/\Ci p.heap.size w' v G a ((cW G.tries a).take k)) (.slice none 0 0) ⟨⟨rfl,rfl,rfl,rfl,rfl,trivial⟩,Ext.refl _,cA.nil _ _ _ _⟩ ?_ ?_ ?_);rintro k v I Y Z;exact cV ⟨rfl,rfl,⟨rfl,rfl,rfl,rfl,rfl,trivial⟩,Z⟩;rintro k v I c ⟨e,f⟩;obtain⟨b,o,rfl,hc⟩:=(r.ext e) k c;have d:(cW G.tries a)[k]<a.length:=kh (dt c);have s:a.getD (cW G.tries a)[k] oe=a[(cW G.tries a)[k]]:=by rw[gU,ew d];rfl
 have t:=D _ (dt d);refine dI k c (cu hc (dq (NV (g.ext (F.trans e)) d (by obtain⟨q1,q2,q3⟩:=t;exact⟨⟨by omega,by omega⟩,⟨by omega,by omega⟩,by omega,by omega⟩)) λw5 h=>?_));refine dJ (qE (cW G.tries a)[k] (fQ G a[(cW G.tries a)[k]])) 101 λw6 nb i aa x=>fP W8 (cA.ext (cA.ext f h) i) (by have:=e.size;have:=h.size;have:=i.size;omega) x (by simp;omega) λJ w7 y k7 _=>cq ⟨J,⟨rfl,rfl,rfl,rfl,rfl,trivial⟩,((e.trans h).trans i).iS k7 (cA.ext (cA.ext f h) i) (cz _),?_⟩;unfold Ci;have h9:cA p.heap.size 101 [.int .i64 0,.int .i64 0,.bool false,.bool false] w7 J (((cW G.tries a).take k).length+1) (Cf G a ((cW G.tries a).take k)++qE (cW G.tries a)[k] (fQ G a[(cW G.tries a)[k]])):=y;rw[gP c,fX];simpa only[Cf,List.flatMap_append,ky,List.flatMap_nil,List.append_nil,s,dW,fC,cB]using h9;rintro v I ⟨e,f⟩;rw[kX]at f;exact⟨_,rfl,H.trans e,v,rfl,cA.low f H.size⟩
def oN(T:Int)(xs:List Sx)(k:Nat):List Nat:=(List.range k).filter λd=>gA T (xs.getD d oe)
def xy(T:Int)(xs:List Sx)(k:Nat)(a:k<xs.length):oN T xs (k+1)=if gA T xs[k]then oN T xs k++[k]else oN T xs k:=by
 have e:xs.getD k oe=xs[k]:=by rw[gU,ew a];rfl
 simp only[oN,kA,List.filter_append,List.filter_cons,List.filter_nil,e];cases h:gA T xs[k]<;>simp
def Av(T:Int)(xs:List Sx)(k:Nat):(oN T xs k).length<=k:=cJ (List.length_filter_le ..) (by simp)
def LD{G:Gd}{F:Option Addr}{dc:Nat}{w:cd}(m:gD w F G.doors)(s:eg G=0){l:List Tq}{la:Option Addr}{lc:Nat}(O:sI w la l)(P:l.length<=1000)(Q:(gO G l).1=0):
 Calls V.prog 73 #[gV G F dc,.slice la l.length lc] w (fy λv w'=>Ext w w'/\∃u,v=.tuple #[u,.int .i64 0]/\dE w.heap.size w' u (oN G.tries (gO G l).2 (gO G l).2.length)):=by
 have H:=ek s;have hm:=H.many;have hs:=H.streets;refine go (V.fn Tryz.func73 (by decide)) Tryz.ntmps73 ?_;refine fo λR gb p S y=>di y (ck (wo (dc:=dc) (m.ext p) (by omega) (by omega) (O.ext p) (by omega)) ?_);rintro v I ⟨d,⟨t,rfl⟩|⟨t,T,gp,mk,ms,rfl,U,W⟩⟩;exact absurd (by rw[wn,cx s];exact Q) t;obtain⟨c,z⟩:∃c,c=(gO G l).2:=⟨_,rfl⟩;have q:=U.k;rw[<-z]at q W⊢;have X:=q.len;have J:=p.trans d;obtain⟨Y,Z,t,h2,h3,h4⟩:=q.at_;refine eG (iG (by simp) (cu h2 (cD (gC (n:=c.length) (λk v=>[(6,cK T),(8,v),(23,.slice Y c.length Z),(24,.int .i64 c.length),(25,.int .i64 k)]) (λk v w'=>Ext I w'/\dE I.heap.size w' v (oN G.tries c k)) (.slice none 0 0) ⟨⟨rfl,rfl,rfl,rfl,rfl,trivial⟩,Ext.refl _,cA.nil _ _ _ _⟩ ?_ ?_ ?_))));rintro k v w' q ⟨e,i⟩;exact cV ⟨rfl,rfl,⟨rfl,rfl,rfl,rfl,rfl,trivial⟩,e,i⟩;rintro k v w' f ⟨e,i⟩;obtain⟨b,o,rfl,hc⟩:=(h4.ext e) k f;have K:=Av G.tries c k;refine fF k 8 f (dP (vs:=kY c[k]) hc (eF λR nb p A y=>cZ y λB k2 r=>?_));have d:Ext w' B:=p.cy k2 A;have C:B.heap[nb]? =some (.cells (kY c[k]).toArray 166):=r.trans (cM (λa=>some (Obj.cells a 166)) (dV (sH 166).toArray (kY c[k]) rfl));have s:=(q.g.ext e).ext d;clear r;refine cQ cO (cG (d.cell (e.cell t)) (dx (.agg (kY c[k]).toArray) (λL h=>dP (vs:=kY c[k]) (λj v hj=>by rw[cB];exact ci (h.at_ C) (by simpa using hj)) ⟨rfl,Ext.refl _⟩) (je (.bool (gA G.tries c[k])) (λL h=>uL (s.ext h) c[k]) λL h=>⟨λm=>?_,λm=>?_⟩)));have M:=(e.trans d).trans h;refine dJ [Value.int .i64 k] 3 λB aa x N D=>fP oG (((i.ext d).ext h).ext x) (cJ M.size x.size) D (by omega) λv' w6 E k6 _=>cq ⟨v',⟨rfl,rfl,rfl,rfl,rfl,trivial⟩,(M.trans x).iS k6 (((i.ext d).ext h).ext x) (cz _),?_⟩;rw[xy _ _ _ f,m];simpa[dE,fi]using E;refine cq ⟨v,⟨rfl,rfl,rfl,rfl,rfl,trivial⟩,(e.trans d).trans h,?_⟩;rw[xy _ _ _ f,m];exact(i.ext d).ext h;rintro v w' ⟨e,i⟩;exact⟨_,rfl,J.trans e,v,rfl,i.low J.size⟩
def qw(T:Int)(a b:Nat):Bool:=decide (T<=(a:Int)+b)&&(decide (T<2)||(decide (0<(a:Int))&&decide (0<(b:Int))))
def yp(G:Gd)(a b:Nat):u6 G a b=qw G.tries a b:=rfl
def Aw(T:Int)(a b m n:Nat)(c:Int×Bool×Bool):Int×Bool×Bool:=if qw T (a+m) (b+n)then(min c.1 ((m+n:Nat):Int),c.2.1&&decide (0<m),c.2.2&&decide (0<n))else c
def QZ(T:Int)(a b m:Nat):Nat->Int×Bool×Bool->Int×Bool×Bool
 |0,c=>c
 |n+1,c=>Aw T a b m n (QZ T a b m n c)
def pu(T:Int)(a b:Nat):Nat->Int×Bool×Bool
 |0=>(6,true,true)
 |m+1=>QZ T a b m 4 (pu T a b m)
def Gq(T:Int)(a b:Nat):Int×Bool×Bool:=(max (max (T-((a+b:Nat):Int)) 0) (FW (decide (2<=T)&&decide ((a:Int)=0))+FW (decide (2<=T)&&decide ((b:Int)=0))),decide (2<=T)&&decide ((a:Int)=0),decide (2<=T)&&decide ((b:Int)=0))
def Il:((List.range 4).all λT=>(List.range 4).all λa=>(List.range 4).all λb=>decide (T<1)||(qw ((T:Nat):Int) a b||decide (pu T a b 4=Gq T a b)))=true:=by decide+kernel
def LG(T:Nat)(c:T<4)(a:Nat)(d:a<4)(b:Nat)(e:b<4)(f:1<=T)(h:qw ((T:Nat):Int) a b=false):pu T a b 4=Gq T a b:=by have:=jF.1 (jF.1 (jF.1 Il T (eJ.2 c)) a (eJ.2 d)) b (eJ.2 e);rw[jT (by omega),h,Bool.false_or,Bool.false_or]at this;exact cY this
def mL{T:Int}(f:T<=3)(a b:Nat):qw T a b=qw T (min a 3) (min b 3):=by unfold qw;have c:decide (T<=(a:Int)+b)=decide (T<=((min a 3:Nat):Int)+(min b 3:Nat)):=decide_eq_decide.2 (by omega);have d:decide (0<(a:Int))=decide (0<((min a 3:Nat):Int)):=decide_eq_decide.2 (by omega);have e:decide (0<(b:Int))=decide (0<((min b 3:Nat):Int)):=decide_eq_decide.2 (by omega);rw[c,d,e]
def LH{T:Int}(c:T<=3)(a b m n:Nat)(d:Int×Bool×Bool):Aw T a b m n d=Aw T (min a 3) (min b 3) m n d:=by unfold Aw;rw[mL c (a+m),mL c (min a 3+m),show min (a+m) 3=min (min a 3+m) 3 by omega,show min (b+n) 3=min (min b 3+n) 3 by omega]
theorem JE{T:Int}(d:T<=3)(a b m:Nat)(c:Int×Bool×Bool):∀n,QZ T a b m n c=QZ T (min a 3) (min b 3) m n c
 |0=>rfl
 |n+1=>by simp only[QZ];rw[JE d a b m c n,LH d]
theorem Gr{T:Int}(c:T<=3)(a b:Nat):∀m,pu T a b m=pu T (min a 3) (min b 3) m
 |0=>rfl
 |m+1=>by simp only[pu];rw[Gr c a b m,JE c]
def Q0{T:Int}(g:1<=T)(c:T<=3)(a b:Nat)(h:qw T a b=false):pu T a b 4=Gq T a b:=by have e:=LG T.toNat (by omega) (min a 3) (by omega) (min b 3) (by omega) (by omega);rw[show((T.toNat:Nat):Int)=T by omega,<-mL c]at e;rw[Gr c,e h];unfold Gq;have d:decide (((min a 3:Nat):Int)=0)=decide ((a:Int)=0):=decide_eq_decide.2 (by omega);have f:decide (((min b 3:Nat):Int)=0)=decide ((b:Int)=0):=decide_eq_decide.2 (by omega);rw[d,f,show max (T-((min a 3+min b 3:Nat):Int)) 0=max (T-((a+b:Nat):Int)) 0 by omega]
def Q1{G:Gd}(a:1<=G.tries)(b:G.tries<=3)(l:List Ty)(d:Nat)(h:oM G l d=false):fQ G (jM l d)=(λp:Int×Bool×Bool=>Du.mk p.1 p.2.1 p.2.2) (pu G.tries (fM l d 0) (fM l d 1) 4):=by
 have h:qw G.tries (fM l d 0) (fM l d 1)=false:=by unfold oM at h;rw[Bool.or_eq_false_iff]at h;exact h.2
 rw[Q0 a b _ _ h];rfl
def xA{l:List Nat}{la:Option Addr}{lc:Nat}{w:cd}(m:eO w la l)(j:l.length<=100000)(d:Nat):Calls V.prog 54 #[.slice la l.length lc,.int .i64 d] w (fy λv w'=>(∃z:Int,v=.int .i64 z/\(0<=z↔d∈l))/\w'=w):=by
 refine go (V.fn Tryz.func54 (by decide)) Tryz.ntmps54 ?_;refine dZ l.length (λk (_:Unit)=>[(0,.slice la l.length lc),(1,.int .i64 d),(5,.int .i64 k)]) (λk _ w'=>w'=w/\d∉l.take k) () ⟨⟨rfl,rfl,rfl,trivial⟩,rfl,by simp⟩ ?_;rintro k _ p q ⟨rfl,c⟩;refine cD (cV ⟨λg=>?_,λi=>?_⟩);have a:k<l.length:=by simpa using g
 obtain⟨b,o,rfl,n⟩:=m k a;refine dI k a (cu n (eh ⟨λf=>?_,λf=>?_⟩));have f:l[k]=d:=Int.ofNat.inj (cY f);exact⟨_,rfl,⟨k,rfl,by rw[<-f];exact⟨λ_=>dt a,λ_=>by omega⟩⟩,rfl⟩;have f:¬l[k]=d:=λe=>dQ f (cM Int.ofNat e);refine cq ⟨a,(),⟨rfl,rfl,rfl,trivial⟩,rfl,?_⟩;rw[gP a,gl,fD];rintro(h|h);exact c h;exact f h.symm;obtain rfl:k=l.length:=by simp at i;omega
 rw[kX]at c;exact⟨_,rfl,⟨-1,rfl,⟨λh=>absurd h (by decide),λh=>absurd h c⟩⟩,rfl⟩
def TJ{w:cd}{k:ce->cd->Prop}{a:Array cg}{t:cg}{cs:Array Bool}{m n:Int}(h:k (.int .i64 (min m n)) w):wY V.prog (builtin .min a t cs #[.int .i64 m,.int .i64 n]) w k:=by
 refine⟨_,w,?_,h⟩;have b:Sem.run V.prog (Builtin.min_ a t #[.int .i64 m,.int .i64 n]) w=.ok (.int .i64 (min m n)) w:=by unfold Builtin.min_;simp only[List.foldlM_cons,List.foldlM_nil,Builtin.min2,pure_bind,Sem.run_pure];congr 2;show(if n<m then n else m)=_;split<;>omega
 unfold builtin;simp only[Sem.run_bind,b,Result.andThen_ok,Sem.run_pure]
def LL{x y:dj}(d t:Int)(m e:Bool)(w:cd):Sem.run V.prog (do eqGuard .neq 101 x y (.agg #[.int .i64 d,.int .i64 t,.bool m,.bool e]) (.agg #[.int .i64 d,.int .i64 t,.bool m,.bool e]);binOp .neq 101 (.agg #[.int .i64 d,.int .i64 t,.bool m,.bool e]) (.agg #[.int .i64 d,.int .i64 t,.bool m,.bool e])) w=.ok (.bool false) w:=by go_simp
def nP(G:Gd)(l:List Ty)(k:Nat):List Nat:=(List.range k).filter λd=>!oM G l d
def wH(G:Gd)(l:List Ty)(k:Nat):nP G l (k+1)=if oM G l k then nP G l k else nP G l k++[k]:=by simp only[nP,kA,List.filter_append,List.filter_cons,List.filter_nil];cases oM G l k<;>simp
theorem JF{G:Gd}{l:List Ty}{i:Nat}(h:oM G l i=false):∀n,i<n->(nP G l n)[(nP G l i).length]? =some i
 |0,c=>by omega
 |n+1,c=>by
  rw[wH];rcases eA i n with a|d;have b:=JF h n a;have e:=(gy.1 b).1;split;exact b;rw[kz e];exact b;obtain rfl:i=n:=by omega
  rw[h];simp
def AG(G:Gd)(l:List Ty)(n:Nat):cW G.tries ((List.range n).map (jM l))=nP G l n:=by unfold cW pR nP;rw[kV,List.length_range];refine List.filter_congr λd a=>?_;have a:=eJ.1 a;simp[mR,List.getElem?_range a,wF]
def Gx(G:Gd)(l:List Ty)(n d:Nat)(a:d<n):d∈oN G.tries ((List.range n).map (jM l)) ((List.range n).map (jM l)).length↔oM G l d=true:=by
 unfold oN;rw[kV,List.length_range,ug,eJ];have:((List.range n).map (jM l)).getD d oe=jM l d:=by rw[gU,mR,List.getElem?_range a];rfl
 rw[this,wF];exact⟨λh=>h.2,λh=>⟨a,h⟩⟩
def DD{a:Nat}{w w1 b:cd}(e:Ext w w1)(d:DE a w1 b)(h:w.heap.size<=a):Ext w b:=⟨d.1.os.trans e.os,d.1.tape.trans e.tape,d.1.output.trans e.output,cJ e.size d.1.size,cJ e.drawn d.1.drawn,λx c=>(d.1.block x (dl c e.size) (by omega)).trans (e.block x c)⟩
def Pg(p:Int×Bool×Bool):Du:=⟨p.1,p.2.1,p.2.2⟩
def LM(G:Gd)(xs:List Sx)(ds:List Nat)(k:Nat)(a:k<ds.length)(j:Nat)(v:ce)(h:(qE ds[k] (fQ G (xs.getD ds[k] oe)))[j]? =some v):(Cf G xs ds)[k*4+j]? =some v:=Ik (f:=λd=>qE d (fQ G (xs.getD d oe))) (n:=4) (λ_=>rfl) ds k a j v h
def Ci.row{n0:Nat}{w:cd}{v:ce}{G:Gd}{xs:List Sx}{ds:List Nat}(h:Ci n0 w v G xs ds):∃a c,v=.slice a ds.length c/\∀k (d:k<ds.length),∃b o,a=some ⟨b,o,none⟩/\∀j v,(qE ds[k] (fQ G (xs.getD ds[k] oe)))[j]? =some v->w.cell? ⟨b,o+k*4+j,none⟩=some v:=by obtain⟨n,⟨e,rfl⟩|⟨b,c,p,q,rfl,g,r,s,t,i,u⟩⟩:=h;exact⟨none,0,by rw[e],λk d=>by omega⟩;refine⟨_,c,rfl,λk d=>⟨b,0,rfl,λj v f=>ci g ?_⟩⟩;have l:j<(qE ds[k] (fQ G (xs.getD ds[k] oe))).length:=(gy.1 f).1;have m:(qE ds[k] (fQ G (xs.getD ds[k] oe))).length=4:=rfl;have e:=Cg G xs ds;rw[cB,i _ (by omega)];exact LM G xs ds k d j v f
def Ir{w:cd}{ns:List Int}{la:Option Addr}{lc:Nat}(hr:ja w la ns)(hl:ns.length<=9223372036854775807):Calls V.prog 17 #[.slice la ns.length lc] w (qa λv w'=>v=.bool true/\Ext w w'):=by
 refine go (V.fn Tryz.func17 (by decide)) Tryz.ntmps17 ?_;refine ck (ko hr hl) ?_;rintro _ w1 ⟨e1,db,rfl,aq,hD⟩;refine ck (jB hD 5 (by omega)) ?_;rintro _ w2 ⟨d2,G,da,dc,rfl,hO,a5,hG,a6⟩;have ok:=ek hG;have aI:=ok.tries;have a7:=ok.days;have hm:=ok.many;have E2:Ext w w2:=DD e1 d2 aq;refine eF λw3 gb e3 aJ aK=>cZ aK λw4 k4 S=>?_;replace S:w4.heap[gb]? =some (.cells (gL G da dc).toArray 24):=S.trans (cM (λa=>some (Obj.cells a 24)) (dV (sH 24).toArray (gL G da dc) rfl));have ag:Ext w2 w4:=Ext.cy e3 k4 aJ;refine di S (ck (Ce (dc:=dc) ((d2.2 hD).ext ag) hG) ?_);rintro _ w5 ⟨d5,l,s,hu,hM,hs,a1⟩;obtain⟨a,c,rfl,ah,hc⟩:=hu.row;have s1:=e1.size;have s2:=d2.1.size;have a8:=hD.lt;have g5:w5.heap[gb]? =some (.cells (gL G da dc).toArray 24):=d5.1.fg S (show¬gb=db by omega);have ac:gD w5 da G.doors:=mC.Ie (cA.keep (cA.ext hO ag) d5.1 λb hb e=>by have:=(cA.blk hO hb).1;omega);have E4:=E2.trans ag;have E5:Ext w w5:=DD E4 d5 aq;have ar:(l.map Pf).length=l.length:=kV ..;have hL:(gO G (l.map Pf)).1=0:=by rw[hM.log]
 have K:=ON (dc:=dc) (lc:=c) ac hG ah.q (by omega) hL;rw[ar,hM.log]at K;simp only[AG]at K;refine di g5 (ck K ?_);rintro _ w6 ⟨e6,u,rfl,au⟩;have L:=LD (dc:=dc) (lc:=c) (ac.ext e6) hG (ah.ext e6).q (by omega) hL;rw[ar,hM.log]at L;refine di (e6.at_ g5) (ck L ?_);rintro _ w7 ⟨e7,u2,rfl,M⟩;obtain⟨a2,c2,rfl,ai,aL⟩:=M.row;have F:=Av G.tries ((List.range G.doors.length).map (jM l)) ((List.range G.doors.length).map (jM l)).length;obtain⟨DL,av⟩:∃DL,DL=oN G.tries ((List.range G.doors.length).map (jM l)) ((List.range G.doors.length).map (jM l)).length:=⟨_,rfl⟩;have ad:∀d,d<G.doors.length->(d∈DL↔oM G l d=true):=λd hd=>by rw[av];exact Gx G l _ d hd
 rw[<-av]at M ai aL F⊢;simp only[kV,List.length_range]at F;have aj:=e6.trans e7;have g7:=aj.at_ g5;have aM:=ah.ext aj;have a3:(nP G l G.doors.length).length<=5:=cJ (List.length_filter_le ..) (by simpa using hm);obtain⟨xs,aw⟩:∃xs,xs=(List.range G.doors.length).map (jM l):=⟨_,rfl⟩;rw[<-aw]at au;have ax:=cA.ext au e7;have aN:∃ua uc,u=.slice ua (nP G l G.doors.length).length uc/\∀i,(nP G l G.doors.length)[(nP G l i).length]? =some i->∃b o,ua=some ⟨b,o,none⟩/\∀j v,(qE i (fQ G (xs.getD i oe)))[j]? =some v->w7.cell? ⟨b,o+(nP G l i).length*4+j,none⟩=some v:=by obtain⟨ua,uc,rfl,hq⟩:=Ci.row ax;refine⟨ua,uc,rfl,λi hi=>?_⟩;obtain⟨h1,h2⟩:=gy.1 hi;obtain⟨b,o,g1,g2⟩:=hq _ h1;rw[h2]at g2;exact⟨b,o,g1,g2⟩
 obtain⟨ua,uc,rfl,aO⟩:=aN;refine eG ⟨λh=>absurd h (by simp),λ_=>eG (iG (by simp) ?_)⟩;refine dZ G.doors.length (λi (_:Unit)=>[(4,cK gb),(5,.slice a l.length c),(6,.slice ua (nP G l G.doors.length).length uc),(8,.slice a2 DL.length c2),(10,.int .i64 (nP G l i).length),(11,.int .i64 i)]) (λi _ w'=>Ext w7 w') () ⟨⟨rfl,rfl,rfl,rfl,rfl,rfl,trivial⟩,Ext.refl _⟩ ?_;rintro i _ w8 hi e8;have g8:=e8.at_ g7;have ak:=aM.ext e8;refine cu (ci g8 rfl) (cD (cV ⟨λaP=>?_,λaQ=>?_⟩));have I:i<G.doors.length:=by simpa using aP
 have J:=λ(w9:cd) (N:Ext w8 w9)=>@mF G da dc l a c w9 (ak.ext N) (by omega) i;cases hf:oM G l i with
 |true=>
  rw[hf]at J;refine di g8 (dq (J w8 (Ext.refl _)) λw9 N=>?_);refine ck (xA (ai.ext (e8.trans N)) (by omega) i) ?_;rintro _ T ⟨⟨z,rfl,hz⟩,rfl⟩;have hz:0<=z:=hz.2 ((ad i I).2 hf);refine n6 ?_;rw[decide_eq_true hz];refine dA (.bool false) (iG rfl ?_);refine di (N.at_ g8) (dq (J T N) λU al=>iR rfl (cq ⟨I,(),⟨rfl,rfl,rfl,rfl,?_,rfl,trivial⟩,(e8.trans N).trans al⟩));show some _=some _;rw[wH,hf];rfl
 |false=>
  rw[hf]at J;refine di g8 (dq (J w8 (Ext.refl _)) λw9 N=>?_);refine ck (xA (ai.ext (e8.trans N)) (by omega) i) ?_;rintro _ T ⟨⟨z,rfl,hz⟩,rfl⟩;have hz:¬0<=z:=λh=>by have:=(ad i I).1 (hz.1 h);rw[hf]at this;cases this
  refine n6 ?_;rw[jT hz];refine dA (.bool false) (iG rfl ?_);refine di (N.at_ g8) (dq (J T N) λU al=>iG rfl ?_);have y:=N.trans al;refine cS (pt (ak.ext y) (by omega) i 0) (cS (pt (ak.ext y) (by omega) i 1) ?_);have aR:=y.at_ g8;have hA:=nL l i 0;have hB:=nL l i 1;have ay:=JF hf _ I;obtain⟨az,a4⟩:=gy.1 ay;obtain⟨ub,uo,rfl,aA⟩:=aO i ay;obtain⟨A,aB⟩:∃A,A=fM l i 0:=⟨_,rfl⟩;obtain⟨B,aC⟩:∃B,B=fM l i 1:=⟨_,rfl⟩;have aD:fQ G (xs.getD i oe)=Pg (pu G.tries A B 4):=by
   have:xs.getD i oe=jM l i:=by rw[aw,gU,mR,List.getElem?_range I];rfl
   rw[this,aB,aC];exact Q1 aI.1 (by omega) l i hf
  rw[<-aB]at hA⊢;rw[<-aC]at hB⊢;rw[aD]at aA;refine dA (.agg (qE i ⟨6,true,true⟩).toArray) (eF λa9 tb aS x aE=>cZ aE λaF aT O=>?_);replace O:aF.heap[tb]? =some (.cells (qE i (Pg (pu G.tries A B 0))).toArray 101):=O;have aU:Ext U aF:=aS.cy aT x;refine dZ 4 (λm (_:Unit)=>[(4,cK gb),(5,.slice a l.length c),(6,.slice (some ⟨ub,uo,none⟩) (nP G l G.doors.length).length uc),(8,.slice a2 DL.length c2),(10,.int .i64 (nP G l i).length),(11,.int .i64 i),(12,.int .i64 A),(14,.int .i64 B),(16,cK tb),(17,.int .i64 m)]) (λm _ w'=>Ext U w'/\w'.heap[tb]? =some (.cells (qE i (Pg (pu G.tries A B m))).toArray 101)) () ⟨⟨rfl,rfl,rfl,rfl,rfl,rfl,rfl,rfl,rfl,rfl,trivial⟩,aU,O⟩ ?_;rintro m _ aV ba ⟨am,ae⟩;refine sW ⟨λan=>?_,λan=>?_⟩;have aW:m<4:=by have:=cY an;omega
  refine dZ 4 (λn (_:Unit)=>[(4,cK gb),(5,.slice a l.length c),(6,.slice (some ⟨ub,uo,none⟩) (nP G l G.doors.length).length uc),(8,.slice a2 DL.length c2),(10,.int .i64 (nP G l i).length),(11,.int .i64 i),(12,.int .i64 A),(14,.int .i64 B),(16,cK tb),(17,.int .i64 m),(18,.int .i64 n)]) (λn _ w'=>Ext U w'/\w'.heap[tb]? =some (.cells (qE i (Pg (QZ G.tries A B m n (pu G.tries A B m)))).toArray 101)) () ⟨⟨rfl,rfl,rfl,rfl,rfl,rfl,rfl,rfl,rfl,rfl,rfl,trivial⟩,am,ae⟩ ?_;rintro n _ aX bb ⟨W,H⟩;refine sW ⟨λP=>?_,λP=>?_⟩;have Q:n<4:=by have:=cY P;omega
  have R:=@Au G da dc aX (A+m) (B+n) (by omega) (by omega);rw[Int.natCast_add,Int.natCast_add]at R;obtain⟨Z,aG⟩:∃Z,Z=QZ G.tries A B m n (pu G.tries A B m):=⟨_,rfl⟩;have M:QZ G.tries A B m (n+1) (pu G.tries A B m)=Aw G.tries A B m n Z:=by rw[aG];rfl
  rw[<-aG]at H;refine di (W.at_ aR) (cq (cq ?_));cases hv:u6 G (A+m) (B+n)with
  |false=>
   rw[hv]at R;refine dq R λaH C=>eu (iR rfl (cq ⟨Q,(),⟨rfl,rfl,rfl,rfl,rfl,rfl,rfl,rfl,rfl,rfl,rfl,trivial⟩,W.trans C,?_⟩));rw[M,Aw,<-yp,hv];exact C.at_ H
  |true=>
   rw[hv]at R;refine dq R λaH C=>eu (iG rfl ?_);have aa:∀(p:cd) (X Y:Bool),p.heap[tb]? =some (.cells #[.int .i64 i,.int .i64 (min Z.1 ((m:Int)+n)),.bool X,.bool Y] 101)->X=(Z.2.1&&decide (0<m))->Y=(Z.2.2&&decide (0<n))->p.heap[tb]? =some (.cells (qE i (Pg (QZ G.tries A B m (n+1) (pu G.tries A B m)))).toArray 101):=by intro p X Y h hX hY;rw[M,Aw,<-yp,hv,cx rfl,h,hX,hY];rfl
   have af:=C.at_ H;refine cu (ci af rfl) (cq (TJ (cZ af λaY aZ k=>?_)));replace k:aY.heap[tb]? =some (.cells #[.int .i64 i,.int .i64 (min Z.1 ((m:Int)+n)),.bool Z.2.1,.bool Z.2.2] 101):=k;have ab:=(W.trans C).cy aZ x;have f:decide (0<(m:Int))=decide (0<m):=decide_eq_decide.2 (by omega);have g:decide (0<(n:Int))=decide (0<n):=decide_eq_decide.2 (by omega);refine cu (ci k rfl) ⟨λh3=>?_,λh3=>?_⟩;refine ny (cu (ci k rfl) ⟨λh4=>?_,λh4=>?_⟩);exact ny (cZ k λao D r=>cZ r λp E t=>cq ⟨Q,(),⟨rfl,rfl,rfl,rfl,rfl,rfl,rfl,rfl,rfl,rfl,rfl,trivial⟩,(ab.cy D x).cy E x,aa p _ _ t (by rw[h3,Bool.true_and];exact f) (by rw[h4,Bool.true_and];exact g)⟩);exact cZ k λao D r=>cZ r λp E t=>cq ⟨Q,(),⟨rfl,rfl,rfl,rfl,rfl,rfl,rfl,rfl,rfl,rfl,rfl,trivial⟩,(ab.cy D x).cy E x,aa p _ _ t (by rw[h3,Bool.true_and];exact f) (by rw[h4,Bool.false_and])⟩;refine cu (ci k rfl) ⟨λh4=>?_,λh4=>?_⟩;exact ny (cZ k λao D r=>cZ r λp E t=>cq ⟨Q,(),⟨rfl,rfl,rfl,rfl,rfl,rfl,rfl,rfl,rfl,rfl,rfl,trivial⟩,(ab.cy D x).cy E x,aa p _ _ t (by rw[h3,Bool.false_and]) (by rw[h4,Bool.true_and];exact g)⟩);exact cZ k λao D r=>cZ r λp E t=>cq ⟨Q,(),⟨rfl,rfl,rfl,rfl,rfl,rfl,rfl,rfl,rfl,rfl,rfl,trivial⟩,(ab.cy D x).cy E x,aa p _ _ t (by rw[h3,Bool.false_and]) (by rw[h4,Bool.false_and])⟩
  obtain rfl:n=4:=by have:=dQ P;omega
  exact cq ⟨aW,(),⟨rfl,rfl,rfl,rfl,rfl,rfl,rfl,rfl,rfl,rfl,trivial⟩,W,H⟩;obtain rfl:m=4:=by have:=dQ an;omega
  have ap:∀j v,(qE i (Pg (pu G.tries A B 4)))[j]? =some v->aV.cell? ⟨ub,uo+(nP G l i).length*4+j,none⟩=some v:=λj v hj=>am.cell (y.cell (e8.cell (aA j v hj)));refine cQ cO (jW (dx _ (λw3 _=>n6 ⟨rfl,Ext.refl _⟩) ⟨λh=>absurd (cY h) (by omega),λ_=>kK (nP G l i).length 4 az (dx (.agg (qE i (Pg (pu G.tries A B 4))).toArray) (λw3 e3=>dP (vs:=qE i (Pg (pu G.tries A B 4))) (λj v hj=>e3.cell (ap j v hj)) ⟨rfl,Ext.refl _⟩) (dx (.agg (qE i (Pg (pu G.tries A B 4))).toArray) (λw3 e3=>dP (vs:=qE i (Pg (pu G.tries A B 4))) (λj v hj=>by rw[cB];exact ci (e3.at_ ae) (by simpa using hj)) ⟨rfl,Ext.refl _⟩) (dx (.bool false) (λw3 e3=>dA (.bool false) ⟨rfl,Ext.refl _⟩ λw=>LL _ _ _ _ w) λaH C=>iG rfl (cq (cq ⟨I,(),⟨rfl,rfl,rfl,rfl,?_,rfl,trivial⟩,((e8.trans y).trans am).trans C⟩)))))⟩));show some _=some _;rw[wH,hf];simp only[iq,eo,fX];rfl
 obtain rfl:i=G.doors.length:=by simp at aQ;omega
 refine cD (eh ⟨λ_=>?_,λh=>absurd h (by simp)⟩);refine fG (ii w8) (λw' h=>.inr ⟨rfl,h⟩) ?_;rintro v T ⟨rfl,a0⟩;exact .inl ⟨_,rfl,rfl,((E5.trans aj).trans e8).trans a0⟩
end Go.Proofs.W
namespace Go.Proofs.W
def Vp:List Nat:=[17,26,27,28,29,30,34,35,38,42,44,48,49,53,54,55,58,59,69,71,72,73,74,75,93,95,96,97,98,104,105,106,107,108,109,113,114,115,116,117,119,120,121,122,123,125,128,129,130,131,133,134,135,137,144,146,153,154,155,156,157,158,159,160,161,162,163,164,165,166,167,168,169,170,171,172,173,174,175,176,178,179,180,184,185,186,195,196,197,198,199,200,201,222,231]
def Sm:List Nat:=[17,26,27,28,29,30,34,35,38,42,44,48,49,53,54,55,58,59,69,71,72,73,74,75,93,95,96,97,98,104,105,106,107,108,109,113,114,115,116,117,119,120,121,122,123,125,128,129,130,131,133,134,135,137,144,146,153,154,155,156,157,158,159,160,161,162,163,164,165,166,167,168,169,170,171,172,173,174,175,176,178,179,180,184,185,186,190,194,195,196,197,198,199,200,201,215,216,222,227,228,229,231]
def TN:Vp.all (OC Vp)=true:=by kernel_rfl
def Q9:Sm.all (okF Sm false Ls)=true:=by kernel_rfl
end Go.Proofs.W
namespace Go.Proofs.YteeagjkaflglpaaGreat
open Go.ChangeShapes Go.WideShapes Go.ChangeAt Go.RowKit Go.Conc
def eC(Z:Os)(f:Z.Started)(H:Type)(enc:cg×ce->H):ReturnsInLeavingWide {} Tryz.checked Z 17 .any (Rows.roundDueSpec.pre6 enc Tryz.prog Tryz.f17 Rows.roundDueRow.domain false) (Rows.roundDueSpec.post enc Tryz.prog Tryz.f17 false true false false):=by
 refine returnsInLeavingWide_of_change_sized (C:=Tryz.checked) Tryz.own f Tryz.func17 (ChangeSpec.witness6 (enc:=enc) (C:=Tryz.checked) false ⟨#[],#[.slice none 0 0],[]⟩ 8 (by kernel_rfl) (by kernel_rfl) (by kernel_rfl) (by kernel_rfl)) ?_;intro g D r ds gs N k hW _ _ _;have s:∀(j:Nat) t v,Tryz.f17.params[j]? =some t->r[j]? =some v->Value.okWide Tryz.prog g .any D t v:=k;have u:=hW;obtain⟨p,q,E,hV,rfl,_,_⟩:=hW;have hA:DataW.TrodAll enc Tryz.prog g 0 (λ_=>true) true Tryz.f17.params.toList r.toList ds p:=E;have F:Tryz.f17.params=#[27]:=by kernel_rfl
 rw[F]at hA s;obtain⟨v0,d0,rfl,rfl,h0⟩:=trodAll_one hA;obtain⟨rfl,rfl⟩:=trodVars_none hV;have I:=s 0 27 v0 rfl rfl;obtain⟨A,c,cap,rfl⟩:=okWide_slice Tryz.iy I;have P:=h0;obtain⟨aa,hf⟩:=h0;clear E k;simp only[List.append_nil]at u;have Q:∀x∈p,x.block<g.heap.size:=λx R=>by simpa using u.lt x R
 have y:∀(l:cd),Go.RowKit.Below g.heap.size g l->DataW.Trod enc Tryz.prog l 0 (λb=>decide (b<g.heap.size)) true 27 (.slice A c cap) d0 p:=
  λl S=>Below.trod Tryz.laidOut (by kernel_rfl) (cY (by kernel_rfl)) P S Q
 have m:∀(J:List Int),J.length=c->c<=9223372036854775807->(∀B,A=some B->B.spot=none/\(∃x,g.shape? B.block=some x)/\∀i,i<c->g.cell? (B.add i)=some (.int .i64 (J.getD i 0)))->(A=none->c=0)->∃M last o K O,runNT Tryz.checked.prog (M+1) (solo (G (Frame.enter Tryz.checked.prog 17 #[.slice A c cap] .normal) []) g) #[]=(.ended o K,O)/\runN Tryz.checked.prog M (solo (G (Frame.enter Tryz.checked.prog 17 #[.slice A c cap] .normal) []) g)=.next last/\step Tryz.checked.prog last=.ended o K/\
   Conc.Good Tryz.checked.prog (λv l=>Rows.roundDueSpec.post enc Tryz.checked.prog Tryz.f17 false true false false g #[.slice A c cap] v l) last o K O:=by
  intro J T S U L;obtain⟨M,last,o,K,O,X,Y,h3,h4⟩:=Go.Proofs.W.mK Go.Proofs.W.TN Go.Proofs.W.Q9 (Go.Proofs.W.V.fn Tryz.func17 (by decide)) (tm:=2) (by kernel_rfl) (by decide) (by decide) (by decide) (by kernel_rfl) (λns la lc w X Y=>Go.Proofs.W.Ir X Y) T S U L (cap:=cap);refine⟨M,last,o,K,O,X,Y,h3,h4.mono λv hF=>?_⟩;obtain⟨rfl,d⟩:=hF;exact⟨_,_,_,[],p,[],u,trodAll_mk1 (shut_bool Tryz.Dy true),trodAll_mk1 (y _ d),rfl,d.frame _,λh=>by cases h⟩
 rcases open_ints Tryz.iy Tryz.xU Tryz.qj hf with⟨n,R⟩|⟨a,ab,ac,J,n,_,hl,hm,T,R,z,ae⟩;simp[Value.cells]at n;obtain⟨rfl,rfl,rfl⟩:=n;exact m [] rfl (by omega) (λB h=>by cases h) λ_=>rfl;simp[Value.cells]at n;obtain⟨rfl,rfl,rfl⟩:=n;simp only[cX]at T;obtain⟨e1,e2⟩:=jC Tryz.iy I;refine m (J.take c) (by simp;omega) (by simp only[maxLen]at hm;omega) (λB e=>?_) (λh=>by cases h);cases e;refine⟨e1,e2,λi hi=>?_⟩;rw[z i (by omega)];simp[gU,hi]
def iE:Tryz.pinned.checked.prog.funcNamed Rows.roundDueRow.func=some 17:=by kernel_rfl
def jr:Tryz.f17.isInstance Tryz.pinned.checked.prog Rows.roundDueRow.origin Rows.roundDueRow.targs:=cY (by kernel_rfl)
def ju:Tryz.f17.isWrapper Tryz.pinned.checked.prog Rows.roundDueRow.wrapper Rows.roundDueRow.mainSum:=by unfold Func.isWrapper;first|(rw[cx (by decide+kernel)];kernel_rfl)|(rw[cr (by decide+kernel)];exact⟨rfl,rfl⟩)
def roundDue_holds:Rows.RoundDueSaid:=
 OpenClaim.holds_of_wide_leaving 17 Tryz.f17 rfl rfl rfl rfl rfl rfl rfl ⟨rfl,rfl,rfl,rfl,rfl⟩ rfl rfl rfl rfl rfl iE Tryz.func17 gK jr ju (λc a H b _=>eC c a H b)
#print axioms roundDue_holds
end Go.Proofs.YteeagjkaflglpaaGreat
