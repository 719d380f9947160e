/- Laws that the proof needs, part 5. Conditions: none. -/
import Derived.Conc.CrowdComm
import Derived.Conc.WrBase2
import Derived.Conc.CrowdBase
import Derived.Test.YteeagjkaflglpaaGreatX04
set_option maxRecDepth 100000
set_option maxHeartbeats 8000000
set_option linter.all false
namespace Go.ck.Cr
open Go.Conc Go.ck Go.ck.Kn
open Go.ConcR (KK wgBlock WgAt stA smA mk)
open Go.ConcN (sumTo upd sumTo_upd upd_ne upd_same sumTo_congr le_sumTo sumTo_le)
abbrev eK:=(Nat->Prop)->Goroutine->World->Prop
abbrev ci:Nat->Prop:=λ_=>False
def Lv(ty:TypeId)(Wg:Nat)(w:World):Prop:=∃a b,WgAt ty Wg w a b
section
variable(P:Program)(ty:TypeId)(Wg Ch n:Nat)(rd:Nat->Prop)(val:Nat->Value->(Nat->Prop)->World->Prop)
def Wy(main:Bool)(rd:Nat->Prop)(S:eK):eK:=λown g w=>∃τ,Way P main rd (Lv ty Wg) S τ own g w
def lN(main:Bool)(m:Mark)(Next:eK):eK:=λown g w=>g.status=.running/\∃a,stepG P main g w=.go a w #[mk m]/\Next own a w
def Sl(S:Goroutine->World->Prop):Goroutine->World->Prop:=λg w=>∃m,Goes P false (cO ci ci (Lv ty Wg)) ConcR.DC0 S m g w
def D4:Goroutine->World->Prop:=λg w=>g.status=.running/\mayWake P g=true/\(WgAt ty Wg w 0 0->∃a,stepG P false g w=.go a (w.setCell (smA Wg) (.int .u32 1)) (semEvents (smA Wg))/\∃q,QuitsD P q 1 a)
def D3:Goroutine->World->Prop:=λg w=>g.status=.running/\(WgAt ty Wg w 1 0->∃a,stepG P false g w=.go a (w.setCell (stA Wg) (.int .u64 0)) #[ConcR.wr (stA Wg)]/\Sl P ty Wg (D4 P ty Wg) a (w.setCell (stA Wg) (.int .u64 0)))
def D2:Goroutine->World->Prop:=λg w=>g.status=.running/\(WgAt ty Wg w 1 0->∃a,stepG P false g w=.go a w #[ConcR.rd (stA Wg)]/\Sl P ty Wg (D3 P ty Wg) a w)
def D1:Goroutine->World->Prop:=λg w=>g.status=.running/\∀v a:Nat,a<=1->v<2147483647->WgAt ty Wg w ((v+1)*KK+a) 0->
 ∃b,stepG P false g w=.go b (w.setCell (stA Wg) (.int .u64 (v*KK+a))) #[ConcR.rd (stA Wg),ConcR.wr (stA Wg)]/\((v=0/\a=1)->Sl P ty Wg (D2 P ty Wg) b (w.setCell (stA Wg) (.int .u64 (v*KK+a))))/\(¬(v=0/\a=1)->∃q,QuitsD P q 1 b)
def K1:Goroutine->World->Prop:=λg w=>g.status=.running/\∃a,stepG P false g w=.go a w #[mk .disable]/\Sl P ty Wg (D1 P ty Wg) a w
def R0:Goroutine->World->Prop:=λg w=>g.status=.running/\∃a,stepG P false g w=.go a w #[mk (.releaseMerge (stA Wg))]/\Sl P ty Wg (K1 P ty Wg) a w
def AtSend(i:Nat)(v z:Value):eK:=λown g w=>g.status=.running/\(∀w,stepG P false g w=.comm g #[scase Ch v z] true .send w #[])/\val i v own w/\Sl P ty Wg (R0 P ty Wg) (Conc.served g undef) w
def Sends(i:Nat):eK:=λown g w=>∃v z,AtSend P ty Wg Ch val i v z own g w
def Mg:eK:=λ_ g w=>g.status=.running/\mayWake P g=true/\∃a,a.status=.running/\(∀s r,w.heap[Ch]? =some (.chan 0 #[] false s r false)->stepG P false g w=.go a (w.setChan Ch 0 #[] true s r false) #[⟨.obj Ch,false,true⟩,⟨.obj Ch,true,true⟩])/\∃q,QuitsD P q 0 a
def Pe(a:Nat->Prop):eK:=lN P false (.acquire (stA Wg)) (Wy P ty Wg false a (Mg P Ch))
def NF(a:Nat->Prop):eK:=lN P false .enable (Wy P ty Wg false a (Pe P ty Wg Ch a))
def Pf(a:Nat->Prop):eK:=λown g w=>g.status=.running/\(WgAt ty Wg w 0 0->∃b,stepG P false g w=.go b w #[ConcR.rd (stA Wg)]/\Wy P ty Wg false a (NF P ty Wg Ch a) own b w)
def MI(a:Nat->Prop):eK:=λown g w=>g.status=.running/\g.offers=none/\
 ((∃c,WgAt ty Wg w c 0)->stepG P false g w=.go {g with status:=.blocked} w #[])/\
 (WgAt ty Wg w 0 1->∃b,stepG P false g w=.go b (w.setCell (smA Wg) (.int .u32 0)) (semEvents (smA Wg))/\Wy P ty Wg false a (Pf P ty Wg Ch a) own b (w.setCell (smA Wg) (.int .u32 0)))
def Pg(a:Nat->Prop):eK:=lN P false (.write (smA Wg)) (Wy P ty Wg false a (MI P ty Wg Ch a))
def Ph(c:Nat->Prop)(a:eK)(vs:Nat):eK:=λown g w=>g.status=.running/\∀v:Nat,v<2147483648->WgAt ty Wg w (v*KK) 0->
 (v=vs->∃b,stepG P false g w=.go b (w.setCell (stA Wg) (.int .u64 (v*KK+1))) #[ConcR.rd (stA Wg),ConcR.wr (stA Wg)]/\Wy P ty Wg false c (Pg P ty Wg Ch c) own b (w.setCell (stA Wg) (.int .u64 (v*KK+1))))/\(v≠vs->∃b,stepG P false g w=.go b w #[ConcR.rd (stA Wg)]/\Wy P ty Wg false c a own b w)
def Pi(b:Nat->Prop)(a:eK):eK:=λown g w=>g.status=.running/\∀v:Nat,v<2147483648->WgAt ty Wg w (v*KK) 0->∃c,stepG P false g w=.go c w #[ConcR.rd (stA Wg)]/\
 (v=0->Wy P ty Wg false b (NF P ty Wg Ch b) own c w)/\(v≠0->Wy P ty Wg false b (Ph P ty Wg Ch b a v) own c w)
def NG(b:Nat->Prop)(a:eK):eK:=lN P false .disable (Wy P ty Wg false b a)
structure Anchor(rc:Nat->Prop)(mM:eK):Prop where
 walk:∀own g w,mM own g w->Wy P ty Wg false rc (Pi P ty Wg Ch rc mM) own g w
def ES(b:Nat->Prop):eK:=λown g w=>∃a,Anchor P ty Wg Ch b a/\Wy P ty Wg false b (NG P ty Wg b a) own g w
def KT(End:eK)(z:Value):eK:=λown g w=>g.status=.running/\(∀w,stepG P true g w=.comm g #[rcase Ch z] true (.recv true) w #[])/\End own (Conc.served g (.tuple #[z,.bool false])) w
def KU(z:Value)(Next:Nat->eK)(S:Nat->Bool):eK:=λown g w=>g.status=.running/\(∀w,stepG P true g w=.comm g #[rcase Ch z] true (.recv true) w #[])/\
 ∀i v a,i<n->S i=false->val i v a w->(∀b,a b->¬own b)->Next i (λb=>own b\/a b) (Conc.served g (.tuple #[v,.bool true])) w
def j7(End:eK)(z:Value):Nat->(Nat->Bool)->eK
 |0,_=>KT P Ch End z
 |r+1,S=>KU P Ch n val z (λi=>Wy P ty Wg true rd (j7 End z r (upd S i true))) S
def ET(End:eK):eK:=λown g w=>g.status=.running/\∃(c child:Goroutine) (a:Nat->Prop) (z:Value),stepG P true g w=.spawn c child w #[]/\child.status=.running/\(∀b,a b->own b)/\
 ES P ty Wg Ch (λb=>rd b\/a b) ci child w/\Wy P ty Wg true rd (j7 P ty Wg Ch n rd val End z n (λ_=>false)) (λb=>own b/\¬a b) c w
def NH(i:Nat)(Next:eK):eK:=λown g w=>g.status=.running/\∃(c child:Goroutine) (a:Nat->Prop),stepG P true g w=.spawn c child w #[]/\child.status=.running/\(∀b,a b->own b)/\
 Wy P ty Wg false (λb=>rd b\/a b) (Sends P ty Wg Ch val i) ci child w/\Next (λb=>own b/\¬a b) c w
def NI(i:Nat)(Next:eK):eK:=lN P true .enable (Wy P ty Wg true rd (NH P ty Wg Ch rd val i Next))
def Pj(i:Nat)(Next:eK):eK:=lN P true (.read (smA Wg)) (Wy P ty Wg true rd (NI P ty Wg Ch rd val i Next))
def Pk(i:Nat)(Next:eK):eK:=λown g w=>g.status=.running/\∀v:Nat,v<2147483647->WgAt ty Wg w (v*KK) 0->
 ∃a,stepG P true g w=.go a (w.setCell (stA Wg) (.int .u64 ((v+1)*KK))) #[ConcR.rd (stA Wg),ConcR.wr (stA Wg)]/\(v=0->Wy P ty Wg true rd (Pj P ty Wg Ch rd val i Next) own a (w.setCell (stA Wg) (.int .u64 ((v+1)*KK))))/\(v≠0->Wy P ty Wg true rd (NI P ty Wg Ch rd val i Next) own a (w.setCell (stA Wg) (.int .u64 ((v+1)*KK))))
def MJ(i:Nat)(Next:eK):eK:=lN P true .disable (Wy P ty Wg true rd (Pk P ty Wg Ch rd val i Next))
def kG(End:eK):Nat->eK
 |0=>Wy P ty Wg true rd (ET P ty Wg Ch n rd val End)
 |r+1=>Wy P ty Wg true rd (MJ P ty Wg Ch rd val (n-(r+1)) (kG End r))
end
inductive CT where
 |kd|w1|w2 (vs:Nat)|sw|w3|blk|w4|ke|ac|cl|quit
inductive cN where
 |none
 |old
 |st (r s:Nat)
 |nW
 |rc (r:Nat) (S:Nat->Bool) (s:Nat)
 |wk (i s:Nat)
 |cl (c:CT)
section
variable(P:Program)(ty:TypeId)(Wg Ch n:Nat)(rd0:Nat->Prop)(val:Nat->Value->(Nat->Prop)->World->Prop)(End:eK)
inductive im:cN->WT->Nat->(Nat->Prop)->(Nat->Prop)->Goroutine->World->Prop
 |old {q d:Nat} {own rd:Nat->Prop} {g:Goroutine} {w:World} (h:QuitsD P q d g):im .old (.num q) d own rd g w
 |skd {r:Nat} {τ:WT} {own:Nat->Prop} {g:Goroutine} {w:World} (hr:r<n) (h:Way P true rd0 (Lv ty Wg) (MJ P ty Wg Ch rd0 val (n-(r+1)) (kG P ty Wg Ch n rd0 val End r)) τ own g w):im (.st r 6) τ 0 own rd0 g w
 |sa1 {r:Nat} {τ:WT} {own:Nat->Prop} {g:Goroutine} {w:World} (hr:r<n) (h:Way P true rd0 (Lv ty Wg) (Pk P ty Wg Ch rd0 val (n-(r+1)) (kG P ty Wg Ch n rd0 val End r)) τ own g w):im (.st r 5) τ 1 own rd0 g w
 |JJ {r:Nat} {τ:WT} {own:Nat->Prop} {g:Goroutine} {w:World} (hr:r<n) (h:Way P true rd0 (Lv ty Wg) (Pj P ty Wg Ch rd0 val (n-(r+1)) (kG P ty Wg Ch n rd0 val End r)) τ own g w):im (.st r 4) τ 1 own rd0 g w
 |ske {r:Nat} {τ:WT} {own:Nat->Prop} {g:Goroutine} {w:World} (hr:r<n) (h:Way P true rd0 (Lv ty Wg) (NI P ty Wg Ch rd0 val (n-(r+1)) (kG P ty Wg Ch n rd0 val End r)) τ own g w):im (.st r 3) τ 1 own rd0 g w
 |sgo {r:Nat} {τ:WT} {own:Nat->Prop} {g:Goroutine} {w:World} (hr:r<n) (h:Way P true rd0 (Lv ty Wg) (NH P ty Wg Ch rd0 val (n-(r+1)) (kG P ty Wg Ch n rd0 val End r)) τ own g w):im (.st r 2) τ 0 own rd0 g w
 |HB {τ:WT} {own:Nat->Prop} {g:Goroutine} {w:World} (h:Way P true rd0 (Lv ty Wg) (ET P ty Wg Ch n rd0 val End) τ own g w):im .nW τ 0 own rd0 g w
 |src {r:Nat} {S:Nat->Bool} {z:Value} {τ:WT} {own:Nat->Prop} {g:Goroutine} {w:World} (h:Way P true rd0 (Lv ty Wg) (j7 P ty Wg Ch n rd0 val End z r S) τ own g w):im (.rc r S 2) τ 0 own rd0 g w
 |EB {r:Nat} {S:Nat->Bool} {z:Value} {τ:WT} {own:Nat->Prop} {g:Goroutine} {w:World} (h:∀w1,cO own rd0 (Lv ty Wg) w w1->j7 P ty Wg Ch n rd0 val End z r S own g w1):
  im (.rc r S 1) τ 0 own rd0 (parked g #[rcase Ch z] (.recv true)) w
 |sup {S:Nat->Bool} {z:Value} {τ:WT} {own:Nat->Prop} {g:Goroutine} {w:World} (h:∀w1,cO own rd0 (Lv ty Wg) w w1->j7 P ty Wg Ch n rd0 val End z 0 S own g w1):
  im (.rc 0 S 2) τ 0 own rd0 {parked g #[rcase Ch z] (.recv true)with status:=.running} w
 |HE {i:Nat} {τ:WT} {own rd:Nat->Prop} {g:Goroutine} {w:World} (h:Way P false rd (Lv ty Wg) (Sends P ty Wg Ch val i) τ own g w):im (.wk i 9) τ 0 own rd g w
 |ou {i:Nat} {v z:Value} {τ:WT} {own rd:Nat->Prop} {g:Goroutine} {w:World} (h:∀w1,cO own rd (Lv ty Wg) w w1->AtSend P ty Wg Ch val i v z own g w1):
  im (.wk i 8) τ 0 own rd (parked g #[scase Ch v z] .send) w
 |r0 {i m:Nat} {own rd:Nat->Prop} {g:Goroutine} {w:World} (h:Goes P false (cO ci ci (Lv ty Wg)) ConcR.DC0 (R0 P ty Wg) m g w):im (.wk i 7) (.num m) 0 own rd g w
 |k1 {i m:Nat} {own rd:Nat->Prop} {g:Goroutine} {w:World} (h:Goes P false (cO ci ci (Lv ty Wg)) ConcR.DC0 (K1 P ty Wg) m g w):im (.wk i 6) (.num m) 0 own rd g w
 |d1 {i m:Nat} {own rd:Nat->Prop} {g:Goroutine} {w:World} (h:Goes P false (cO ci ci (Lv ty Wg)) ConcR.DC0 (D1 P ty Wg) m g w):im (.wk i 5) (.num m) 1 own rd g w
 |d2 {i m:Nat} {own rd:Nat->Prop} {g:Goroutine} {w:World} (h:Goes P false (cO ci ci (Lv ty Wg)) ConcR.DC0 (D2 P ty Wg) m g w):im (.wk i 4) (.num m) 1 own rd g w
 |d3 {i m:Nat} {own rd:Nat->Prop} {g:Goroutine} {w:World} (h:Goes P false (cO ci ci (Lv ty Wg)) ConcR.DC0 (D3 P ty Wg) m g w):im (.wk i 3) (.num m) 1 own rd g w
 |d4 {i m:Nat} {own rd:Nat->Prop} {g:Goroutine} {w:World} (h:Goes P false (cO ci ci (Lv ty Wg)) ConcR.DC0 (D4 P ty Wg) m g w):im (.wk i 2) (.num m) 1 own rd g w
 |quit {i q d:Nat} {own rd:Nat->Prop} {g:Goroutine} {w:World} (h:QuitsD P q d g):im (.wk i 1) (.num q) d own rd g w
 |JK {τ:WT} {own rd:Nat->Prop} {mM:eK} {g:Goroutine} {w:World} (hA:Anchor P ty Wg Ch rd mM) (h:Way P false rd (Lv ty Wg) (NG P ty Wg rd mM) τ own g w):im (.cl .kd) τ 0 own rd g w
 |HF {τ:WT} {own rd:Nat->Prop} {mM:eK} {g:Goroutine} {w:World} (hA:Anchor P ty Wg Ch rd mM) (h:Way P false rd (Lv ty Wg) (Pi P ty Wg Ch rd mM) τ own g w):im (.cl .w1) τ 1 own rd g w
 |JL {τ:WT} {own rd:Nat->Prop} {mM:eK} {vs:Nat} {g:Goroutine} {w:World} (hA:Anchor P ty Wg Ch rd mM) (h:Way P false rd (Lv ty Wg) (Ph P ty Wg Ch rd mM vs) τ own g w):im (.cl (.w2 vs)) τ 1 own rd g w
 |JM {τ:WT} {own rd:Nat->Prop} {g:Goroutine} {w:World} (h:Way P false rd (Lv ty Wg) (Pg P ty Wg Ch rd) τ own g w):im (.cl .sw) τ 1 own rd g w
 |HG {τ:WT} {own rd:Nat->Prop} {g:Goroutine} {w:World} (h:Way P false rd (Lv ty Wg) (MI P ty Wg Ch rd) τ own g w):im (.cl .w3) τ 1 own rd g w
 |HH {τ:WT} {own rd:Nat->Prop} {g:Goroutine} {w:World} (h:∀w1,cO own rd (Lv ty Wg) w w1->MI P ty Wg Ch rd own g w1):im (.cl .blk) τ 1 own rd {g with status:=.blocked} w
 |JN {τ:WT} {own rd:Nat->Prop} {g:Goroutine} {w:World} (h:Way P false rd (Lv ty Wg) (Pf P ty Wg Ch rd) τ own g w):im (.cl .w4) τ 1 own rd g w
 |HI {τ:WT} {own rd:Nat->Prop} {g:Goroutine} {w:World} (h:Way P false rd (Lv ty Wg) (NF P ty Wg Ch rd) τ own g w):im (.cl .ke) τ 1 own rd g w
 |JO {τ:WT} {own rd:Nat->Prop} {g:Goroutine} {w:World} (h:Way P false rd (Lv ty Wg) (Pe P ty Wg Ch rd) τ own g w):im (.cl .ac) τ 0 own rd g w
 |JP {τ:WT} {own rd:Nat->Prop} {g:Goroutine} {w:World} (h:Way P false rd (Lv ty Wg) (Mg P Ch) τ own g w):im (.cl .cl) τ 0 own rd g w
 |Hn {q d:Nat} {own rd:Nat->Prop} {g:Goroutine} {w:World} (h:QuitsD P q d g):im (.cl .quit) (.num q) d own rd g w
end
section
variable{P:Program}{ty:TypeId}{Wg Ch n:Nat}{rd0:Nat->Prop}{val:Nat->Value->(Nat->Prop)->World->Prop}{End:eK}{ro:cN}{τ:WT}{d:Nat}{own rd:Nat->Prop}{g:Goroutine}{w w1:World}
theorem _root_.Go.ck.cO.none{own rd:Nat->Prop}{L:World->Prop}{w w1:World}(h:cO own rd L w w1):cO ci ci L w w1:=⟨h.tape,h.os,h.output,h.size,λ_ _ a=>(a.elim id id).elim,h.live⟩
theorem im.rely(h:im P ty Wg Ch n rd0 val End ro τ d own rd g w)(c:cO own rd (Lv ty Wg) w w1):im P ty Wg Ch n rd0 val End ro τ d own rd g w1:=by
 cases h with
 |old h=>exact .old h
 |skd e h=>exact .skd e (h.rely c)
 |sa1 e h=>exact .sa1 e (h.rely c)
 |JJ e h=>exact .JJ e (h.rely c)
 |ske e h=>exact .ske e (h.rely c)
 |sgo e h=>exact .sgo e (h.rely c)
 |HB h=>exact .HB (h.rely c)
 |src h=>exact .src (h.rely c)
 |EB h=>exact .EB λf i=>h f (c.trans i)
 |sup h=>exact .sup λf i=>h f (c.trans i)
 |HE h=>exact .HE (h.rely c)
 |ou h=>exact .ou λf i=>h f (c.trans i)
 |r0 h=>exact .r0 (Goes.rely (λ_ _ _ a b=>a.trans b) h c.none)
 |k1 h=>exact .k1 (Goes.rely (λ_ _ _ a b=>a.trans b) h c.none)
 |d1 h=>exact .d1 (Goes.rely (λ_ _ _ a b=>a.trans b) h c.none)
 |d2 h=>exact .d2 (Goes.rely (λ_ _ _ a b=>a.trans b) h c.none)
 |d3 h=>exact .d3 (Goes.rely (λ_ _ _ a b=>a.trans b) h c.none)
 |d4 h=>exact .d4 (Goes.rely (λ_ _ _ a b=>a.trans b) h c.none)
 |quit h=>exact .quit h
 |JK j h=>exact .JK j (h.rely c)
 |HF j h=>exact .HF j (h.rely c)
 |JL j h=>exact .JL j (h.rely c)
 |JM h=>exact .JM (h.rely c)
 |HG h=>exact .HG (h.rely c)
 |HH h=>exact .HH λf i=>h f (c.trans i)
 |JN h=>exact .JN (h.rely c)
 |HI h=>exact .HI (h.rely c)
 |JO h=>exact .JO (h.rely c)
 |JP h=>exact .JP (h.rely c)
 |Hn h=>exact .Hn h
end
theorem Way.running{P:Program}{main:Bool}{rd:Nat->Prop}{L:World->Prop}{S:eK}{τ:WT}{own:Nat->Prop}{g:Goroutine}{w:World}(a:∀own g w,S own g w->g.status=.running)(h:Way P main rd L S τ own g w):g.status=.running:=by
 cases h with
 |here h=>exact a _ _ _ (h w (.refl _ _ _ _))
 |step b _ _=>exact b
section
variable{P:Program}{ty:TypeId}{Wg Ch n:Nat}{rd0:Nat->Prop}{val:Nat->Value->(Nat->Prop)->World->Prop}{End:eK}
theorem fP{z:Value}{S:Nat->Bool}:∀{r:Nat} {own:Nat->Prop} {g:Goroutine} {w:World},j7 P ty Wg Ch n rd0 val End z r S own g w->g.status=.running/\∀w,stepG P true g w=.comm g #[rcase Ch z] true (.recv true) w #[]
 |0,_,_,_,h=>⟨h.1,h.2.1⟩
 |_+1,_,_,_,h=>⟨h.1,h.2.1⟩
def cN.idle:cN->Prop
 | .old| .rc _ _ 1| .wk _ 8| .wk _ 1| .cl .blk| .cl .quit=>True
 |_=>False
variable{ro:cN}{τ:WT}{d:Nat}{own rd:Nat->Prop}{g:Goroutine}{w w1:World}
theorem im.running(h:im P ty Wg Ch n rd0 val End ro τ d own rd g w):g.status=.running\/(ro.idle/\(g.status=.blocked\/g.status=.finished)):=by
 cases h with
 |old h=>exact h.status.elim .inl λx=>.inr ⟨trivial,.inr x⟩
 |skd _ h=>exact .inl (Way.running (λ_ _ _ x=>x.1) h)
 |sa1 _ h=>exact .inl (Way.running (λ_ _ _ x=>x.1) h)
 |JJ _ h=>exact .inl (Way.running (λ_ _ _ x=>x.1) h)
 |ske _ h=>exact .inl (Way.running (λ_ _ _ x=>x.1) h)
 |sgo _ h=>exact .inl (Way.running (λ_ _ _ x=>x.1) h)
 |HB h=>exact .inl (Way.running (λ_ _ _ x=>x.1) h)
 |src h=>exact .inl (Way.running (λ_ _ _ x=>(fP x).1) h)
 |EB h=>exact .inr ⟨trivial,.inl rfl⟩
 |sup h=>exact .inl rfl
 |HE h=>exact .inl (Way.running (λ_ _ _ ⟨_,_,x⟩=>x.1) h)
 |ou h=>exact .inr ⟨trivial,.inl rfl⟩
 |r0 h=>exact .inl (Goes.running (λ_ _ x=>x.1) w (.refl _ _ _ _) h)
 |k1 h=>exact .inl (Goes.running (λ_ _ x=>x.1) w (.refl _ _ _ _) h)
 |d1 h=>exact .inl (Goes.running (λ_ _ x=>x.1) w (.refl _ _ _ _) h)
 |d2 h=>exact .inl (Goes.running (λ_ _ x=>x.1) w (.refl _ _ _ _) h)
 |d3 h=>exact .inl (Goes.running (λ_ _ x=>x.1) w (.refl _ _ _ _) h)
 |d4 h=>exact .inl (Goes.running (λ_ _ x=>x.1) w (.refl _ _ _ _) h)
 |quit h=>exact h.status.elim .inl λx=>.inr ⟨trivial,.inr x⟩
 |JK _ h=>exact .inl (Way.running (λ_ _ _ x=>x.1) h)
 |HF a h=>exact .inl (Way.running (λ_ _ _ x=>x.1) h)
 |JL a h=>exact .inl (Way.running (λ_ _ _ x=>x.1) h)
 |JM h=>exact .inl (Way.running (λ_ _ _ x=>x.1) h)
 |HG h=>exact .inl (Way.running (λ_ _ _ x=>x.1) h)
 |HH h=>exact .inr ⟨trivial,.inl rfl⟩
 |JN h=>exact .inl (Way.running (λ_ _ _ x=>x.1) h)
 |HI h=>exact .inl (Way.running (λ_ _ _ x=>x.1) h)
 |JO h=>exact .inl (Way.running (λ_ _ _ x=>x.1) h)
 |JP h=>exact .inl (Way.running (λ_ _ _ x=>x.1) h)
 |Hn h=>exact h.status.elim .inl λx=>.inr ⟨trivial,.inr x⟩
def jb(b:Bool):cN->cN
 | .cl .blk=>if b then .cl .w3 else .cl .blk
 |r=>r
def fq(P:Program)(g g':Goroutine):Bool:=mayWake P g&&g'.status != .blocked&&g'.status != .waiting
theorem xw(g g' o:Goroutine)(w':World):woken P g g' w' o=if fq P g g' then o.again w' else o:=by unfold woken fq;rfl
theorem im.again(h:im P ty Wg Ch n rd0 val End ro τ d own rd g w)(b:Bool){s:Nat}{c:Bool}(k:w.heap[Ch]? =some (.chan 0 #[] c s s false))(l:c=true->(∀r S,ro≠ .rc r S 1)/\∀i,ro≠ .wk i 8):
 im P ty Wg Ch n rd0 val End (jb b ro) τ d own rd (if b then g.again w else g) w:=by
 cases b with
 |false=>
  simp only[Bool.false_eq_true,if_false];have:jb false ro=ro:=by unfold jb;split<;>simp
  rw[this];exact h
 |true=>
  simp only[if_true];have a:g.status=.running\/g.status=.finished->jb true ro=ro->im P ty Wg Ch n rd0 val End (jb true ro) τ d own rd (g.again w) w:=λf e=>by rw[again_running w f,e];exact h
  rcases h.running with f|⟨j,f⟩
  ·refine a (.inl f) ?_;cases h with
   |HH h=>cases f
   |_=>rfl
  ·cases h with
   |old h=>exact a (.inr (f.resolve_left (by rcases h.status with x|x<;>rw[x]<;>simp))) rfl
   |EB h=>
    cases c with
    |true=>exact absurd rfl ((l rfl).1 _ _)
    |false=>rw[again_recv_open k];exact .EB h
   |ou h=>
    cases c with
    |true=>exact absurd rfl ((l rfl).2 _)
    |false=>rw[again_send_open k];exact .ou h
   |quit h=>exact a (.inr (f.resolve_left (by rcases h.status with x|x<;>rw[x]<;>simp))) rfl
   |HH h=>
    have m:=h w (.refl _ _ _ _);rw[Go.ConcR.again_blocked m.1 m.2.1];exact .HG (.here h)
   |Hn h=>exact a (.inr (f.resolve_left (by rcases h.status with x|x<;>rw[x]<;>simp))) rfl
   |_=>exact j.elim
end
section
variable(P:Program)(ty:TypeId)(Wg Ch n:Nat)(rd0:Nat->Prop)(val:Nat->Value->(Nat->Prop)->World->Prop)(End:eK)(w0:World)(B0 m0:Nat)
structure Com(ro:Nat->cN)(rk:Nat->WT)(dd:Nat->Nat)(G:Gh)(cl:Bool)(gs:Array Goroutine)(w:World)(t:Trace):Prop where
 sit:∀(k:Nat) (g:Goroutine),gs[k]? =some g->im P ty Wg Ch n rd0 val End (ro k) (rk k) (dd k) (G.own k) (G.rd k) g w
 kn:Kn.dP G w.heap.size t
 fits:G.Fits w.heap.size
 deaf:∀k,Deaf t k=dd k
 above:∀k,gs.size<=k->dd k=0
 wg:∀b,G.wg b↔b=Wg\/b=Ch
 off:∀k b,G.own k b\/G.rd k b->b≠Ch
 wgch:Wg≠Ch
 wglow:Wg<w.heap.size
 gsz:∀i k,G.t0<=i->t.g? i=some k->k<gs.size
 new:∀k b,G.own k b->B0<=b
 base:∀b,b<B0->b≠Wg->b≠Ch->w.heap[b]? =w0.heap[b]?
 grown:B0<=w.heap.size
 world:w.tape=w0.tape/\w.os=w0.os/\w.output=w0.output
 live:Lv ty Wg w
 ch:∃s,w.heap[Ch]? =some (.chan 0 #[] cl s s false)
end
section
variable{P:Program}{ty:TypeId}{Wg Ch n:Nat}{rd0:Nat->Prop}{val:Nat->Value->(Nat->Prop)->World->Prop}{End:eK}{w0:World}{B0 m0:Nat} {ro:Nat->cN}{rk:Nat->WT}{dd:Nat->Nat}{G:Gh}{cl:Bool}{gs:Array Goroutine}{w w':World}{t:Trace}
structure r9(Wg:Nat)(own:Nat->Prop)(w w':World):Prop where
 tape:w'.tape=w.tape
 os:w'.os=w.os
 output:w'.output=w.output
 size:w.heap.size<=w'.heap.size
 same:∀b,b<w.heap.size->¬own b->b≠Wg->w'.heap[b]? =w.heap[b]?
theorem Com.KV(h:Com P ty Wg Ch n rd0 val End w0 B0 ro rk dd G cl gs w t){k:Nat}(c:r9 Wg (G.own k) w w')(e:Lv ty Wg w'){x:Nat}(f:x≠k):cO (G.own x) (G.rd x) (Lv ty Wg) w w':=by
 refine⟨c.tape,c.os,c.output,c.size,λb g a=>c.same b g (λd=>?_) ?_,λ_=>e⟩
 ·rcases a with a|a
  ·exact f (h.fits.one _ _ _ a d)
  ·exact h.fits.still _ _ _ d a
 ·rintro rfl;rcases a with a|a
  ·exact h.fits.ownwg _ _ a ((h.wg _).2 (.inl rfl))
  ·exact h.fits.rdwg _ _ a ((h.wg _).2 (.inl rfl))
theorem Com.go(h:Com P ty Wg Ch n rd0 val End w0 B0 ro rk dd G cl gs w t){k:Nat}{g g':Goroutine}{es:Array Event}{r':cN}{τ':WT}(J:gs[k]? =some g) (K:cl=true->∀x,x<gs.size->(∀r S,ro x≠ .rc r S 1)/\∀i,ro x≠ .wk i 8) (c:r9 Wg (G.own k) w w')(D:Lv ty Wg w')(A:jz G k (dd k) w.heap.size w'.heap.size es)(E:G.done k->w'.heap.size=w.heap.size) (L:im P ty Wg Ch n rd0 val End r' τ' (deafBehind (dd k) es) ((G.grow k w.heap.size w'.heap.size).own k) (G.rd k) g' w'):
 Com P ty Wg Ch n rd0 val End w0 B0 (upd (λx=>jb (fq P g g') (ro x)) k r') (upd rk k τ') (upd dd k (deafBehind (dd k) es)) (G.grow k w.heap.size w'.heap.size) cl
  ((gs.map (woken P g g' w')).setIfInBounds k g') w' (t++MemOp.ofEvents k g.frame.fn g.frame.place es):=by
 have m:k<gs.size:=(Array.getElem?_eq_some_iff.1 J).1;obtain⟨s,f⟩:=h.ch;have d:w'.heap[Ch]? =some (.chan 0 #[] cl s s false):=by rw[c.same Ch (lt_of_heap f) (λx=>h.off k _ (.inl x) rfl) (Ne.symm h.wgch)];exact f
 have F:∀v∈MemOp.ofEvents k g.frame.fn g.frame.place es,v.g=k:=λv j=>by obtain⟨e,_,rfl⟩:=Go.Conc.mem_ofEvents j;rfl
 refine⟨λx o z=>?_,h.kn.step h.fits c.size E (by rw[h.deaf];exact A),h.fits.grow c.size k E,λx=>?_,λx B=>?_,h.wg,λx b a=>?_,h.wgch,Nat.lt_of_lt_of_le h.wglow c.size,λi x M B=>?_,λx b a=>?_,λb a H N=>?_,Nat.le_trans h.grown c.size,
  ⟨c.tape.trans h.world.1,c.os.trans h.world.2.1,c.output.trans h.world.2.2⟩,D,⟨s,d⟩⟩
 ·by_cases e:x=k
  ·subst e;rw[Array.getElem?_setIfInBounds_self_of_lt (by simpa using m)]at z;obtain rfl:=Option.some.inj z;rw[upd_same,upd_same,upd_same];exact L
  ·rw[Array.getElem?_setIfInBounds_ne (Ne.symm e),Array.getElem?_map]at z;obtain⟨y,I,rfl⟩:=Option.map_eq_some_iff.1 z;rw[upd_ne _ _ e,upd_ne _ _ e,upd_ne _ _ e,xw];have O:(G.grow k w.heap.size w'.heap.size).own x=G.own x:=by
    funext b;apply propext;exact⟨λa=>a.elim id λa=>absurd a.1 e,.inl⟩
   rw[O];exact((h.sit x y I).rely (h.KV c D e)).again _ d (λQ=>K Q x (Array.getElem?_eq_some_iff.1 I).1)
 ·by_cases e:x=k
  ·subst e;rw[Deaf_own,h.deaf,upd_same]
  ·rw[Deaf_other t (Ne.symm e) _ F,h.deaf,upd_ne _ _ e]
 ·have C:gs.size<=x:=by simpa using B
  rw[upd_ne _ _ (by omega)];exact h.above x C
 ·rcases a with(a|⟨_,p,R⟩)|a
  ·exact h.off x b (.inl a)
  ·have:=lt_of_heap f;omega
  ·exact h.off x b (.inr a)
 ·obtain⟨v,j,l⟩:=Option.map_eq_some_iff.1 B;rcases getElem?_append_cases j with⟨T,q⟩|⟨_,u⟩
  ·have:=h.gsz i x M (by simp[Trace.g?,q,l]);simpa using this
  ·rw[F v u]at l;subst l;simpa using m
 ·rcases a with a|⟨_,p,_⟩
  ·exact h.new x b a
  ·exact Nat.le_trans h.grown p
 ·rw[c.same b (Nat.lt_of_lt_of_le a h.grown) (λx=>by have:=h.new k b x;omega) H];exact h.base b a H N
end
def fV:cN->Nat
 | .wk _ s=>s
 |_=>0
def cnt(s:Nat):Nat:=if 5<=s then 1 else 0
def V(n m0:Nat)(ro:Nat->cN):Nat:=sumTo n λi=>cnt (fV (ro (m0+i)))
def Sg(n m0:Nat)(ro:Nat->cN):Nat:=sumTo n λi=>fV (ro (m0+i))
def pend:cN->Nat
 | .st _ s=>if s<=4 then 1 else 0
 |_=>0
def isOpen:cN->Prop
 | .none| .cl .kd| .cl .w1| .cl (.w2 _)=>True
 |_=>False
def isW3:cN->Prop
 | .cl .sw| .cl .w3| .cl .blk=>True
 |_=>False
def isFin:cN->Prop
 | .cl .w4| .cl .ke| .cl .ac| .cl .cl| .cl .quit=>True
 |_=>False
def OpenSt(n m0:Nat)(ro:Nat->cN):Prop:=∀i,i<n->fV (ro (m0+i))=0\/5<=fV (ro (m0+i))\/fV (ro (m0+i))=1
def AllQuit(n m0:Nat)(ro:Nat->cN):Prop:=∀i,i<n->fV (ro (m0+i))=1
inductive Mode (n m0:Nat) (ro:Nat->cN):Int->Int->Prop
 |opn:isOpen (ro (m0+n))->OpenSt n m0 ro->(∀vs,ro (m0+n)=.cl (.w2 vs)->V n m0 ro<=vs/\1<=vs)->Mode n m0 ro (((V n m0 ro+pend (ro 0):Nat):Int)*KK) 0
 |reg:isW3 (ro (m0+n))->OpenSt n m0 ro->1<=V n m0 ro->Mode n m0 ro (((V n m0 ro:Nat):Int)*KK+1) 0
 |last (L:Nat):isW3 (ro (m0+n))->L<n->(fV (ro (m0+L))=4\/fV (ro (m0+L))=3\/fV (ro (m0+L))=2)->(∀i,i<n->i≠L->fV (ro (m0+i))=1)->Mode n m0 ro (if fV (ro (m0+L))=2 then 0 else 1) 0
 |sema:(ro (m0+n)=.cl .sw\/ro (m0+n)=.cl .w3)->AllQuit n m0 ro->Mode n m0 ro 0 1
 |fin:isFin (ro (m0+n))->AllQuit n m0 ro->Mode n m0 ro 0 0
inductive Mh (n m0:Nat) (ro:Nat->cN) (cl:Bool) (size:Nat):Prop
 |st (r s:Nat) (h0:ro 0=.st r s) (hs:2<=s/\s<=6) (hr:r<n) (hc:ro (m0+n)=.none) (hz:size=m0+(n-(r+1))) (hw:∀i,i<n-(r+1)->∃s,ro (m0+i)=.wk i s/\(s=9\/s=8)) (hn:∀i,n-(r+1)<=i->i<n->ro (m0+i)=.none)
 |nW (h0:ro 0=.nW) (hc:ro (m0+n)=.none) (hz:size=m0+n) (hw:∀i,i<n->∃s,ro (m0+i)=.wk i s/\(s=9\/s=8))
 |rc (r:Nat) (S:Nat->Bool) (s:Nat) (h0:ro 0=.rc r S s) (hc:∃c,ro (m0+n)=.cl c) (hz:size=m0+n+1) (hw:∀i,i<n->∃s,ro (m0+i)=.wk i s/\1<=s/\s<=9/\(S i=true↔s<=7))
  (hS:r+sumTo n (λi=>if S i then 1 else 0)=n) (hs:s=2\/(s=1/\cl=false/\∀i,i<n->fV (ro (m0+i))≠8))
def sayOf(m0 n:Nat):cN->Nat
 | .none=>0
 |_=>m0+n
structure Pl(n m0:Nat)(ro:Nat->cN)(cl:Bool)(G:Gh)(size:Nat)(st sm:Int):Prop where
 pos:0<m0
 lay:Mh n m0 ro cl size
 old:∀k,0<k->k<m0->ro k=.old
 clq:cl=true↔ro (m0+n)=.cl .quit
 mode:Mode n m0 ro st sm
 usr:∀k,G.user k↔k=0\/(m0<=k/\k<size)
 say:G.sayer=sayOf m0 n (ro (m0+n))
 done:∀k,G.done k↔(0<k/\k<m0)\/∃i s,ro k=.wk i s/\s<=7
def ow(n:Nat):cN->Nat
 | .st r s=>12*n+64+20*(r+1)+s
 | .nW=>12*n+64
 | .rc r _ s=>4*r+s
 |_=>0
def kH(n v:Nat):cN->Nat
 | .cl .kd=>8*n+9
 | .cl .w1=>8*v+7
 | .cl (.w2 vs)=>8*vs+6
 | .cl .sw=>9
 | .cl .w3=>8
 | .cl .blk=>8
 | .cl .w4=>7
 | .cl .ke=>6
 | .cl .ac=>5
 | .cl .cl=>4
 | .cl .quit=>1
 |_=>0
def xx:cN->Nat
 | .cl .w3=>1
 |_=>0
def meas(n m0:Nat)(ro:Nat->cN):Nat:=ow n (ro 0)+Sg n m0 ro+kH n (V n m0 ro) (ro (m0+n))
theorem CQ(n:Nat){v a:Nat}(h:a<=v)(r:cN):kH n a r<=kH n v r:=by unfold kH;split<;>omega
theorem j8(b:Bool)(r:cN):fV (jb b r)=fV r:=by
 unfold jb;split
 ·cases b<;>rfl
 ·rfl
theorem EU(n:Nat)(b:Bool)(r:cN):ow n (jb b r)=ow n r:=by
 unfold jb;split
 ·cases b<;>rfl
 ·rfl
theorem EV(n v:Nat)(b:Bool)(r:cN):kH n v (jb b r)=kH n v r:=by
 unfold jb;split
 ·cases b<;>rfl
 ·rfl
theorem lO(b:Bool)(r:cN):jb b r=r\/(b=true/\r=.cl .blk/\jb b r=.cl .w3):=by
 unfold jb;split
 ·cases b
  ·exact .inl rfl
  ·exact .inr ⟨rfl,rfl,rfl⟩
 ·exact .inl rfl
theorem pW{b:Bool}{r:cN}(h:r≠ .cl .blk):jb b r=r:=(lO b r).resolve_right λx=>h x.2.1
theorem KX(b:Bool)(r:cN)(i s:Nat):jb b r=.wk i s↔r=.wk i s:=by
 rcases lO b r with h|⟨_,a,c⟩
 ·rw[h]
 ·rw[c,a];simp
section
variable{n m0:Nat}{ro:Nat->cN}{cl:Bool}{G:Gh}{size:Nat}{st sm:Int}
theorem uJ(b:Bool):V n m0 (λx=>jb b (ro x))=V n m0 ro:=sumTo_congr λi _=>by simp only[j8]
theorem KY(b:Bool):Sg n m0 (λx=>jb b (ro x))=Sg n m0 ro:=sumTo_congr λi _=>by simp only[j8]
theorem oZ(b:Bool):meas n m0 (λx=>jb b (ro x))=meas n m0 ro:=by unfold meas;rw[uJ,KY,EU,EV]
theorem Pl.HJ(h:Pl n m0 ro cl G size st sm)(b:Bool):Pl n m0 (λx=>jb b (ro x)) cl G size st sm:=by
 refine⟨h.pos,?_,λk a d=>by simp only[h.old k a d];rfl,?_,?_,h.usr,?_,λk=>?_⟩
 ·cases h.lay with
  |st r s j q v g l m w=>
   exact .st r s (by simp only[j];rfl) q v (by simp only[g];rfl) l (λi f=>let⟨s,a,d⟩:=m i f;⟨s,by simp only[a];rfl,d⟩) (λi a d=>by simp only[w i a d];rfl)
  |nW j g l m=>exact .nW (by simp only[j];rfl) (by simp only[g];rfl) l (λi f=>let⟨s,a,d⟩:=m i f;⟨s,by simp only[a];rfl,d⟩)
  |rc r S s j g l m A q=>
   refine .rc r S s (by simp only[j];rfl) ?_ l (λi f=>let⟨s,a,d⟩:=m i f;⟨s,by simp only[a];rfl,d⟩) A (q.imp id λ⟨x,y,z⟩=>⟨x,y,λi f=>by rw[j8];exact z i f⟩);obtain⟨c,g⟩:=g;rcases lO b (ro (m0+n))with e|⟨_,_,e⟩
   ·exact⟨c,by(try simp only);rw[e];exact g⟩
   ·exact⟨_,e⟩
 ·rw[h.clq];rcases lO b (ro (m0+n))with e|⟨_,o,e⟩
  ·(try simp only);rw[e]
  ·(try simp only);rw[e,o];simp
 ·have t:OpenSt n m0 ro->OpenSt n m0 (λx=>jb b (ro x)):=λh i f=>by simp only[j8];exact h i f
  have u:AllQuit n m0 ro->AllQuit n m0 (λx=>jb b (ro x)):=λh i f=>by simp only[j8];exact h i f
  cases h.mode with
  |opn a d p=>
   have e:jb b (ro (m0+n))=ro (m0+n):=pW λe=>by rw[e]at a;exact a
   have:=Mode.opn (n:=n) (m0:=m0) (ro:=λx=>jb b (ro x)) (by(try simp only);rw[e];exact a) (t d) (λB C=>by rw[uJ];exact p B (e.symm.trans C));rw[uJ]at this;have D:pend (jb b (ro 0))=pend (ro 0):=by
    rcases lO b (ro 0)with e|⟨_,o,e⟩
    ·rw[e]
    ·rw[e,o];rfl
   simp only[D]at this;exact this
  |reg a d p=>
   have:=Mode.reg (n:=n) (m0:=m0) (ro:=λx=>jb b (ro x)) (by
    rcases lO b (ro (m0+n))with e|⟨_,_,e⟩
    ·(try simp only);rw[e];exact a
    ·(try simp only);rw[e];trivial) (t d) (by rw[uJ];exact p)
   rw[uJ]at this;exact this
  |last L a d p E=>
   have:=Mode.last (n:=n) (m0:=m0) (ro:=λx=>jb b (ro x)) L (by
    rcases lO b (ro (m0+n))with e|⟨_,_,e⟩
    ·(try simp only);rw[e];exact a
    ·(try simp only);rw[e];trivial) d (by simp only[j8];exact p) (λi f F=>by simp only[j8];exact E i f F)
   simp only[j8]at this;exact this
  |sema a d=>exact .sema (by rcases a with a|a<;>simp only[a]<;>simp[jb]) (u d)
  |fin a d=>
   refine .fin ?_ (u d);have e:jb b (ro (m0+n))=ro (m0+n):=pW λe=>by rw[e]at a;exact a
   (try simp only);rw[e];exact a
 ·rw[h.say];rcases lO b (ro (m0+n))with e|⟨_,o,e⟩
  ·rw[e]
  ·rw[e,o];rfl
 ·rw[h.done];simp only[KX]
theorem Pl.lt_size(h:Pl n m0 ro cl G size st sm){k:Nat}(q:k<size):k=0\/(0<k/\k<m0)\/(∃i s,i<n/\k=m0+i/\ro k=.wk i s/\1<=s/\s<=9)\/(k=m0+n/\∃c,ro k=.cl c):=by
 rcases Nat.eq_zero_or_pos k with rfl|m
 ·exact .inl rfl
 rcases Nat.lt_or_ge k m0 with d|d
 ·exact .inr (.inl ⟨m,d⟩)
 obtain⟨i,rfl⟩:=Nat.exists_eq_add_of_le d;cases h.lay with
 |st r s j o t e l a u=>
  obtain⟨s,b,f⟩:=a i (by omega);exact .inr (.inr (.inl ⟨i,s,by omega,rfl,b,by omega,by omega⟩))
 |nW j e l a=>
  obtain⟨s,b,f⟩:=a i (by omega);exact .inr (.inr (.inl ⟨i,s,by omega,rfl,b,by omega,by omega⟩))
 |rc r S s j e l a v o=>
  rcases Nat.lt_or_ge i n with g|g
  ·obtain⟨s,b,f,p,_⟩:=a i g;exact .inr (.inr (.inl ⟨i,s,g,rfl,b,f,p⟩))
  ·obtain rfl:i=n:=by omega
   exact .inr (.inr (.inr ⟨rfl,e⟩))
end
section
variable{n m0:Nat}{ro:Nat->cN}{cl:Bool}{G:Gh}{size:Nat}{st sm:Int}{r':cN}
theorem nI(ro:Nat->cN)(m0 i:Nat)(x:cN)(a:Nat):upd ro (m0+i) x (m0+a)=upd (λa=>ro (m0+a)) i x a:=by
 unfold upd;by_cases h:a=i
 ·subst h;simp
 ·rw[if_neg (by omega),if_neg h]
theorem EX(i:Nat)(b:i<n)(x:cN):V n m0 (upd ro (m0+i) x)+cnt (fV (ro (m0+i)))=V n m0 ro+cnt (fV x):=by have:=sumTo_upd (λa=>ro (m0+a)) x (λr=>cnt (fV r)) b;simp only[V,nI];exact this
theorem JQ(i:Nat)(b:i<n)(x:cN):Sg n m0 (upd ro (m0+i) x)+fV (ro (m0+i))=Sg n m0 ro+fV x:=by have:=sumTo_upd (λa=>ro (m0+a)) x fV b;simp only[Sg,nI];exact this
theorem kY{k:Nat}(a:k<m0\/m0+n<=k)(x:cN):V n m0 (upd ro k x)=V n m0 ro:=sumTo_congr λi b=>by rw[upd_ne ro x (by omega)]
theorem mN{k:Nat}(a:k<m0\/m0+n<=k)(x:cN):Sg n m0 (upd ro k x)=Sg n m0 ro:=sumTo_congr λi b=>by rw[upd_ne ro x (by omega)]
theorem kZ{α:Type}(f:Nat->α)(k:Nat):upd f k (f k)=f:=by
 funext a;unfold upd;split
 ·next h=>rw[h]
 ·rfl
theorem EY(n m0:Nat)(ro:Nat->cN):V n m0 ro<=n:=by
 have:=sumTo_le (f:=λi=>cnt (fV (ro (m0+i)))) (c:=1) (j:=n) λi _=>by simp only[cnt];split<;>omega
 simpa[V]using this
theorem EZ{i:Nat}(a:i<n)(h:5<=fV (ro (m0+i))):1<=V n m0 ro:=by have:=le_sumTo (f:=λi=>cnt (fV (ro (m0+i)))) a;simp only[V];simp only[cnt,if_pos h]at this;exact this
theorem jB(a:0<m0)(h:ow n r'<ow n (ro 0)):meas n m0 (upd ro 0 r')<meas n m0 ro:=by unfold meas;rw[kY (.inl a),mN (.inl a),upd_same,upd_ne ro r' (show m0+n≠0 by omega)];omega
theorem jc(b:0<m0){i:Nat}(a:i<n)(c:fV r'<fV (ro (m0+i))):meas n m0 (upd ro (m0+i) r')<meas n m0 ro:=by
 unfold meas;have d:=EX (ro:=ro) (m0:=m0) i a r';have e:=JQ (ro:=ro) (m0:=m0) i a r';rw[upd_ne ro r' (show 0≠m0+i by omega),upd_ne ro r' (show m0+n≠m0+i by omega)];have f:cnt (fV r')<=cnt (fV (ro (m0+i))):=by simp only[cnt];split<;>split<;>omega
 have:=CQ n (show V n m0 (upd ro (m0+i) r')<=V n m0 ro by omega) (ro (m0+n));omega
theorem iG(a:0<m0)(h:kH n (V n m0 ro) r'<kH n (V n m0 ro) (ro (m0+n))):meas n m0 (upd ro (m0+n) r')<meas n m0 ro:=by unfold meas;rw[kY (.inr (Nat.le_refl _)),mN (.inr (Nat.le_refl _)),upd_same,upd_ne ro r' (show 0≠m0+n by omega)];omega
theorem Mode.zero(k:0<m0)(h:Mode n m0 ro st sm)(l:pend r'=pend (ro 0)):Mode n m0 (upd ro 0 r') st sm:=by
 have e:upd ro 0 r' (m0+n)=ro (m0+n):=upd_ne ro r' (by omega);have d:∀i,upd ro 0 r' (m0+i)=ro (m0+i):=λi=>upd_ne ro r' (by omega);have g:V n m0 (upd ro 0 r')=V n m0 ro:=kY (.inl k) r';cases h with
 |opn a b f=>
  have:=Mode.opn (n:=n) (m0:=m0) (ro:=upd ro 0 r') (by rw[e];exact a) (λi c=>by rw[d];exact b i c) (λm j=>by rw[g];rw[e]at j;exact f m j);rwa[g,upd_same,l]at this
 |reg a b f=>
  have:=Mode.reg (n:=n) (m0:=m0) (ro:=upd ro 0 r') (by rw[e];exact a) (λi c=>by rw[d];exact b i c) (by rw[g];exact f);rwa[g]at this
 |last L a b f o=>
  have:=Mode.last (n:=n) (m0:=m0) (ro:=upd ro 0 r') L (by rw[e];exact a) b (by rw[d];exact f) (λi c p=>by rw[d];exact o i c p);rwa[d]at this
 |sema a b=>exact .sema (by rw[e];exact a) λi c=>by rw[d];exact b i c
 |fin a b=>exact .fin (by rw[e];exact a) λi c=>by rw[d];exact b i c
theorem Pl.zero(h:Pl n m0 ro cl G size st sm)(b:Mh n m0 (upd ro 0 r') cl size)(c:∀i s,r'≠ .wk i s)(d:∀i s,ro 0≠ .wk i s){st' sm':Int}(f:Mode n m0 (upd ro 0 r') st' sm'):Pl n m0 (upd ro 0 r') cl G size st' sm':=by
 have a:upd ro 0 r' (m0+n)=ro (m0+n):=upd_ne ro r' (by have:=h.pos;omega);refine⟨h.pos,b,λk g j=>by rw[upd_ne ro r' (by omega)];exact h.old k g j,by rw[a];exact h.clq,f,h.usr,by rw[a];exact h.say,λk=>?_⟩;rw[h.done];refine or_congr Iff.rfl ?_;by_cases e:k=0
 ·subst e;rw[upd_same];exact⟨λ⟨i,s,x,_⟩=>absurd x (d i s),λ⟨i,s,x,_⟩=>absurd x (c i s)⟩
 ·rw[upd_ne ro r' e]
theorem Pl.E7(h:Pl n m0 ro cl G size st sm){r s s':Nat}(b:ro 0=.st r s)(f:2<=s'/\s'<=6):Mh n m0 (upd ro 0 (.st r s')) cl size:=by
 have t:=h.pos;cases h.lay with
 |st g j a k l c d e m=>
  rw[b]at a;cases a;exact .st r s' (upd_same _ _ _) f l (by rw[upd_ne ro _ (by omega)];exact c) d (λi o=>by rw[upd_ne ro _ (by omega)];exact e i o) (λi p q=>by rw[upd_ne ro _ (by omega)];exact m i p q)
 |nW a c d e=>rw[b]at a;cases a
 |rc g S j a c d e u k=>rw[b]at a;cases a
theorem Pl.vT(h:Pl n m0 ro cl G size st sm){r s s':Nat}(a:ro 0=.st r s)(b:2<=s'/\s'<=6)(c:s<=4↔s'<=4):Pl n m0 (upd ro 0 (.st r s')) cl G size st sm:=
 h.zero (h.E7 a b) (by simp) (by simp[a]) (h.mode.zero h.pos (by rw[a];simp only[pend,c]))
theorem Pl.vU(h:Pl n m0 ro cl G size st sm){r s:Nat}(b:ro 0=.st r s):ro (m0+n)=.none/\r<n/\size=m0+(n-(r+1)):=by
 cases h.lay with
 |st f g a i j c d e k=>rw[b]at a;cases a;exact⟨c,j,d⟩
 |nW a c d e=>rw[b]at a;cases a
 |rc f S g a c d e l i=>rw[b]at a;cases a
theorem Pl.Ai(h:Pl n m0 ro cl G size st sm){r s':Nat}(c:ro 0=.st r 5)(g:s'=4\/s'=3):st=((V n m0 ro:Nat):Int)*KK/\sm=0/\Pl n m0 (upd ro 0 (.st r s')) cl G size (((V n m0 ro:Nat)+1:Int)*KK) 0:=by
 have b:=(h.vU c).1;have j:=h.pos;cases s:h.mode with
 |opn a k l=>
  rw[c];refine⟨by simp[pend],rfl,h.zero (h.E7 c (by omega)) (by simp) (by simp[c]) ?_⟩;have d:upd ro 0 (cN.st r s') (m0+n)=ro (m0+n):=upd_ne ro _ (by omega);have m:∀i,upd ro 0 (cN.st r s') (m0+i)=ro (m0+i):=λi=>upd_ne ro _ (by omega);have e:V n m0 (upd ro 0 (cN.st r s'))=V n m0 ro:=kY (.inl j) _;have:=Mode.opn (n:=n) (m0:=m0) (ro:=upd ro 0 (cN.st r s')) (by rw[d];exact a) (λi o=>by rw[m];exact k i o) (λp f=>by rw[e];rw[d]at f;exact l p f);rw[e,upd_same]at this;have q:pend (cN.st r s')=1:=by rcases g with rfl|rfl<;>rfl
  rw[q]at this;simpa using this
 |reg a _ _=>rw[b]at a;exact a.elim
 |last L a _ _ _=>rw[b]at a;exact a.elim
 |sema a _=>rw[b]at a;rcases a with a|a<;>cases a
 |fin a _=>rw[b]at a;exact a.elim
def kI:Nat->cN
 |0=>.nW
 |r+1=>.st r 6
theorem Pl.spawn{G':Gh}(h:Pl n m0 ro cl G size st sm){r:Nat}(j:ro 0=.st r 2)(E:∀k,G'.user k↔G.user k\/k=size)(q:G'.sayer=G.sayer)(F:G'.done=G.done):Pl n m0 (upd (upd ro size (.wk (n-(r+1)) 9)) 0 (kI r)) cl G' (size+1) st sm/\meas n m0 (upd (upd ro size (.wk (n-(r+1)) 9)) 0 (kI r))<meas n m0 ro:=by
 have t:=h.pos;cases h.lay with
 |nW d c u o=>rw[j]at d;cases d
 |rc H S I d c u o N J=>rw[j]at d;cases d
 |st H I d J O c u o B=>
 rw[j]at d;cases d;generalize l:kI r=x;have v:∀i s,x≠ .wk i s:=by subst l;cases r<;>simp[kI]
 subst u;have w:n-(r+1)<n:=by omega
 have A:ro (m0+(n-(r+1)))=.none:=B _ (Nat.le_refl _) w;have b:∀i,upd (upd ro (m0+(n-(r+1))) (cN.wk (n-(r+1)) 9)) 0 x (m0+i)=if i=n-(r+1)then cN.wk (n-(r+1)) 9 else ro (m0+i):=by intro i;rw[upd_ne _ _ (by omega),nI];rfl
 have f:upd (upd ro (m0+(n-(r+1))) (cN.wk (n-(r+1)) 9)) 0 x (m0+n)=.none:=by rw[b,if_neg (by omega)];exact c
 have C:V n m0 (upd (upd ro (m0+(n-(r+1))) (cN.wk (n-(r+1)) 9)) 0 x)=V n m0 ro+1:=by rw[kY (.inl t)];have:=EX (ro:=ro) (m0:=m0) (n-(r+1)) w (.wk (n-(r+1)) 9);rw[A]at this;simpa[fV,cnt]using this
 have K:Sg n m0 (upd (upd ro (m0+(n-(r+1))) (cN.wk (n-(r+1)) 9)) 0 x)=Sg n m0 ro+9:=by rw[mN (.inl t)];have:=JQ (ro:=ro) (m0:=m0) (n-(r+1)) w (.wk (n-(r+1)) 9);rw[A]at this;simpa[fV]using this
 refine⟨⟨t,?_,λk a m=>by rw[upd_ne _ _ (by omega),upd_ne _ _ (by omega)];exact h.old k a m,?_,?_,λk=>?_,?_,λk=>?_⟩,?_⟩
 ·cases r with
  |zero=>
   subst l;refine .nW (upd_same _ _ _) f (by omega) λi g=>?_;rw[b];split
   ·next e=>subst e;exact⟨9,rfl,.inl rfl⟩
   ·exact o i (by omega)
  |succ r=>
   subst l;refine .st r 6 (upd_same _ _ _) (by omega) (by omega) f (by omega) (λi g=>?_) λi a m=>?_
   ·rw[b];split
    ·next e=>subst e;exact⟨9,rfl,.inl rfl⟩
    ·exact o i (by omega)
   ·rw[b,if_neg (by omega)];exact B i (by omega) m
 ·rw[f,h.clq,c]
 ·cases P:h.mode with
  |opn a m Q=>
   have:=Mode.opn (n:=n) (m0:=m0) (ro:=upd (upd ro (m0+(n-(r+1))) (cN.wk (n-(r+1)) 9)) 0 x) (by rw[f];trivial) (λi g=>by
    rw[b];split
    ·exact .inr (.inl (by simp[fV]))
    ·exact m i g) (λR D=>by rw[f]at D;cases D)
   rw[C,upd_same]at this;have M:pend x=0:=by subst l;cases r<;>rfl
   have p:pend (ro 0)=1:=by rw[j];rfl
   rw[M]at this;rw[p];simpa using this
  |reg a _ _=>rw[c]at a;exact a.elim
  |last L a _ _ _=>rw[c]at a;exact a.elim
  |sema a _=>rw[c]at a;rcases a with a|a<;>cases a
  |fin a _=>rw[c]at a;exact a.elim
 ·rw[E,h.usr];omega
 ·rw[f,q,h.say,c]
 ·rw[F,h.done];refine or_congr Iff.rfl ?_;by_cases e:k=0
  ·subst e;rw[upd_same,j];exact⟨λ⟨i,s,y,_⟩=>(nomatch y),λ⟨i,s,y,_⟩=>absurd y (v i s)⟩
  ·rw[upd_ne _ _ e];by_cases p:k=m0+(n-(r+1))
   ·subst p;rw[upd_same,A];exact⟨λ⟨i,s,y,_⟩=>(nomatch y),λ⟨i,s,y,z⟩=>by cases y;omega⟩
   ·rw[upd_ne _ _ p]
 ·unfold meas;rw[C,K,f,upd_same,c,j];subst l;cases r<;>simp[kI,ow,kH]<;>omega
end
end Go.ck.Cr
