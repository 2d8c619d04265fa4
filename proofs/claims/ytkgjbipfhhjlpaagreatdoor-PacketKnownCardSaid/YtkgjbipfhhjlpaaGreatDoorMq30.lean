import Derived.Test.YtkgjbipfhhjlpaaGreatDoorMq29d
import Derived.Test.YtkgjbipfhhjlpaaGreatDoorTie
import Derived.LaidMore
import Derived.Lay
import Derived.SevenTiedAt
import Derived.Stop.LaidErr
import Derived.HandedShaped
set_option linter.unusedVariables false
set_option linter.unusedSimpArgs false
set_option maxRecDepth 100000
set_option maxHeartbeats 32000000
namespace Go.Proofs.YtkgjbipfhhjlpaaGreatDoor
open Go.Proofs.Tryz
section
open Go.RowKit
theorem Jes{p:Prop}(h:p:=by
 obtain⟨r,rfl,ae,g⟩:=h;exact⟨g,λbE V=>⟨r,rfl,(V.block r (Ja ae).1).trans ae,Wx g V⟩⟩):p:=h
section
variable {P:Program} {ops:Array Oper} {φ:Option Nat} {R:Nat} {B:World}
def stB (B:World):FC:=λ_ w=>Ji B w
theorem Ad {s:Act->World->Prop}:∀(l:List (Kd×Oper)) (u:Nat->World->Prop) (t:List Nat) (k:Nat) (g r:FC) (a:Act),(∀b w,g b w->r b w)->ZA P ops φ R (λp n=>∀d,p φ d->s n d) l u t k r a->ZA P ops φ R (λp n=>∀d,p φ d->s n d) l u t k g a
 |[],_,_,_,g,r,a,I,h=>λw e=>h w (I _ _ e)
 |(.w,o)::l,_,_,_,_,_,_,I,⟨z,j,y,Y⟩=>⟨z,⟨j.1,λw e=>j.2 w (I _ w e)⟩,y,Y⟩
 |(.c,o)::l,_,_,_,_,_,_,I,⟨v,A,j,y,Y⟩=>⟨v,A,j,λb w e=>y b w (I b w e),Ad l _ _ _ _ _ _ I Y⟩
 |(.h,o)::l,_,_,_,_,_,_,I,⟨v,j,Y⟩=>⟨v,j,Ad l _ _ _ _ _ _ I Y⟩
 |(.q,o)::l,_,_,_,_,_,_,I,⟨v,j,Y⟩=>⟨v,j,Ad l _ _ _ _ _ _ I Y⟩
 |(.f,o)::l,_,_,_,_,_,_,I,⟨v,j,Y⟩=>⟨v,j,Ad l _ _ _ _ _ _ I Y⟩
theorem Qt {p:Act->World->Prop}{rest:List (Kd×Oper)}{C:Oper}{o:Nat->World->Prop}{s:List Nat}{k:Nat}{a:Act}(b:Value)(t:∀r w,Ji B w->o r w)(z:Region.wanted C (yielded ops a.tmps)=true)(u:∀w,Ji B w->(execOp a.eval C).run P w=.ok (.value b) w)
 (h:ZA P ops φ R (λn j=>∀d,n φ d->p j d) rest o s (k+1) (stB B) (a.put C.dst b)):ZA P ops φ R (λn j=>∀d,n φ d->p j d) ((.w,C)::rest) o s k (stB B) a:=
 ⟨λv _ w=>v=b/\Ji B w,⟨z,λw g=>.inl ⟨b,w,⟨rfl,g⟩,.inl (u w g)⟩⟩,λv y r _ w g=>t r w g.2,λv ⟨w,e,_⟩=>by
   subst e;exact Ad _ _ _ _ _ _ _ (λy w g=>g.2) h⟩
theorem Ae {s:Act->World->Prop}{rest:List (Kd×Oper)}{C:Oper}{p:Nat->World->Prop}{t:List Nat}{k:Nat}{a:Act}(b:Value)(f:FuncId)(n:Array Value)(y:∀r w,Ji B w->p r w)(A:Region.wanted C (yielded ops a.tmps)=true)(u:∀w,(execOp a.eval C).run P w=.ok (.enter f n) w)(I:∀w,Ji B w->Calls P f n w (Jz w b))
 (h:ZA P ops φ R (λo j=>∀d,o φ d->s j d) rest p t (k+1) (stB B) (a.put C.dst b)):ZA P ops φ R (λo j=>∀d,o φ d->s j d) ((.w,C)::rest) p t k (stB B) a:=
 ⟨λv _ w=>v=b/\Ji B w,⟨A,λw g=>.inr ⟨f,n,u w,(I w g).mono λe w2 ⟨F,E⟩=>⟨b,F,rfl,Wx g E⟩⟩⟩,λv z r _ w g=>y r w g.2,λv ⟨w,e,_⟩=>by
   subst e;exact Ad _ _ _ _ _ _ _ (λz w g=>g.2) h⟩
theorem F3 {p:Act->World->Prop}{rest:List (Kd×Oper)}{C:Oper}{o:Nat->World->Prop}{e:List Nat}{k:Nat}{a:Act}(j:Value)(r:Region.wanted C (yielded ops a.tmps)=true)(u:∀w,Ji B w->(execOp a.eval C).run P w=.ok (.value j) w)
 (h:ZA P ops φ R (λb n=>∀d,b φ d->p n d) rest (Sf o e.length λw=>Ji B w) (e++[R]) k (stB B) (a.put C.dst j)):ZA P ops φ R (λb n=>∀d,b φ d->p n d) ((.c,C)::rest) o e k (stB B) a:=
 ⟨j,λw=>Ji B w,⟨r,u⟩,λ_ _ g=>g,h⟩
theorem Qd {a:Nat->World->Prop}{n:Nat}(b:∀r w,Ji B w->a r w):∀r w,Ji B w->Sf a n (λw=>Ji B w) r w:=λr w h=>by
 unfold Sf;split
 ·exact h
 ·exact b r w h
end
theorem TH (d:Operand->Value)(w:World){u:Option Tmp}{t p:TypeId}{j:String}{s:Array Edge}{r:Option (Nat×Bool)}{x Q:Operand}(a b:List UInt8)(ha:a.length<=100000)(g:b.length<=100000)(o:d x=.string ⟨a.toArray⟩)(n:d Q=.string ⟨b.toArray⟩):
 (execOp d ⟨u,.binOp .add 9 x Q p,t,j,s,r⟩).run prog w=.ok (.value (.string ⟨(a++b).toArray⟩)) w:=by
 have e:(⟨a.toArray⟩:ByteArray)++⟨b.toArray⟩=⟨(a++b).toArray⟩:=by
  apply ByteArray.ext;simp
 simp[execOp,go_sem,o,n];rw[Yw O,e]
theorem Sw (b:Operand->Value)(w:World){s:Option Tmp}{o:TypeId}{e:String}{n:Array Edge}{r:Option (Nat×Bool)}(d:Array (Nat×Operand))
 (g:Instr.fill (λi=>some (i*1,1)) ((Array.range (4*1)).map ((Value.string ⟨#[]⟩).cells[·%(Value.string ⟨#[]⟩).cells.size]!)) (d.map λ(i,x)=>(i,b x)).toList=some (#[.string ⟨#[]⟩,.string ⟨#[]⟩,.string ⟨#[32]⟩,.string ⟨#[48]⟩]:Array Value)):
 (execOp b ⟨s,.buildSlice 76 4 d,o,e,n,r⟩).run prog w=.ok (.value (.slice (some ⟨w.heap.size,0,none⟩) 4 4)) (w.alloc (.cells #[Jbn,Jbn,.string ⟨#[32]⟩,.string ⟨#[48]⟩] 9)):=by
 obtain⟨t,j,p,a,u⟩:=WT DL;refine ET b w 76 9 4 d _ t (.string ⟨#[]⟩) K j p ?_ ?_ ?_
 ·rw[a];omega
 ·rw[a];omega
 ·rw[a];exact g
theorem PQ (w:World)(n:Nat)(j:n<=4096):(Instr.makeSlice 22 (Jk n) (Jk n)).run prog w=.ok (.slice (some ⟨w.heap.size,0,none⟩) n n) (w.alloc (.cells ((JP n).map (.int .u8)).toArray 5)):=by
 obtain⟨g,d,e,a,b⟩:=WT Bits.infoU8;have h:=run_makeSlice (P:=prog) (w:=w) 22 5 g (Jq 0) underlying22 d e .i64 .i64 (n:Int) (n:Int) O (YC _) (by rw[a];simp;omega) (by rw[b];omega) O;rw[a,JaA,Jak] at h;rw[h,<-Im];rfl
theorem Sx (b:Operand->Value)(w:World){s:Option Tmp}{o:TypeId}{e:String}{n:Array Edge}{r:Option (Nat×Bool)}(d:Array (Nat×Operand))
 (g:Instr.fill (λi=>some (i*1,1)) ((Array.range (1*1)).map ((Value.int .u8 0).cells[·%(Value.int .u8 0).cells.size]!)) (d.map λ(i,x)=>(i,b x)).toList=some (#[.int .u8 1]:Array Value)):
 (execOp b ⟨s,.buildSlice 22 1 d,o,e,n,r⟩).run prog w=.ok (.value (.slice (some ⟨w.heap.size,0,none⟩) 1 1)) (w.alloc (.cells #[(1:Int)] 5)):=by
 obtain⟨t,j,p,a,u⟩:=WT MP;refine ET b w 22 5 1 d _ t (Jq 0) K j p ?_ ?_ ?_
 ·rw[a];omega
 ·rw[a];omega
 ·rw[a];exact g
theorem PR (w:World)(bS:Env w):Jf 8 #[] w (Jz w (.bool true)):=by
 have aR:=H bS;clear bS;go_enter func8,ntmps8
 go_wp2_with fail
 go_loopg [1,2,3,4,5] 250 (λr u1 u2 u3 u4 u5 wr=>∃(bg:World) (k:Nat),bg=wr/\k+r=250/\u1=.int .i64 (k:Int)/\Hid (Ji w bg))
 case atStart=>exact⟨_,0,rfl,rfl,rfl,H (Jc _ _)⟩
 case round=>
  obtain⟨bg,k,bD,cI,rfl,aI⟩:=hrel;subst bD;by_cases aK:k<250
  ·have aF:=H (λw=>AT (knE k) (Iw k) w);have br:=H (BL (Iw k));have aT:=Ve k aK;unfold knM at aT;have be:=Sh (knE k);generalize spL (knE k)=G at aF br aT be;generalize Qy (knE k)=cR at aF;have bO:=H aT;have cz:=H be;clear aT be;have bd:=H (λcD w h=>Oy (knE k).k (knK (k*31)) cD (Iw k).k (Fu _) w h);have a6:=H (λw h=>F1 (knE k) (Iw k) w h);have ao:=H (λbF bp a8 w r h=>Mz (knE k) (knK (k*31)) bF bp a8 _ (Iw k) (Fu _) (UL k aK) w r h);have aU:=H (λw h=>Sr (knE k) (k:Int) (Iw k) O (UM k aK) w h);have aX:=H (λw h=>Cr (knK (k*31)) (Fu _) w h);have a5:=VS k aK;have ap:=H (λw=>F2 k O w);have a2:=H (λw=>F2 (k*31) O w);rw[<-TW] at ap a2;have bH:=H (UK k);have bP:=H (Vd k);have bI:Hid (knF k=if knP k != 6&&decide (0<k%13) then 0 else ((k*5%64:Nat):Int)):=H rfl;simp only[knE,knK,spV,kyV,kyC] at bd a6 ao aU aX ap a2 aF a5;generalize QY _=X at aX a5;generalize lst (knT k)=u at*;generalize lst (knU k)=n at*;generalize lst (knS k)=Z at*;generalize knX k=x at*;generalize knP k=p at*;generalize knA k=a at*;generalize knB k=b at*;generalize knF k=f at*;generalize lst (knT (k*31))=o at*;generalize lst (knS (k*31))=s at*;generalize knX (k*31)=U at*;generalize knP (k*31)=au at*;generalize knA (k*31)=az at*;generalize knB (k*31)=aB at*;obtain⟨N,bL⟩:∃N:Int,((k*k%90:Nat):Int)=N:=⟨_,rfl⟩
   rw[bL] at a6 ao aU aF;obtain⟨aE,bG⟩:∃N:Int,((k*5%64:Nat):Int)=N:=⟨_,rfl⟩
   obtain⟨aO,aZ⟩:∃m:Nat,k*k=m:=⟨_,rfl⟩
   have cx:aO<=62001:=by rw[<-aZ];exact Nat.mul_le_mul (show k<=249 from O) (show k<=249 from O)
   have bb:(k:Int)*(k:Int)=(aO:Int):=by rw[<-aZ];exact(Int.natCast_mul k k).symm
   have c9:wrap64 ((k:Int)*(k:Int))=(aO:Int):=by rw[bb];exact Jbk _ O
   have db:IntKind.i64.wrap ((k:Int)*(k:Int))=(aO:Int):=by rw[bb];exact Jay _ O
   rw[aZ] at bL;have di:(aO:Int)%90=N:=O;have co:(k:Int)*5%64=aE:=O;clear aZ bb;go_wp2_with fail
   refine Jb (ap _) ?_;rintro ak ac ⟨rfl,aA⟩;have ag:Hid (Bx w (ac.alloc (.cells (Jbw x x p (Jl a) (Jl b) aE (Jk N) Z u) 47)) [(ac.heap.size,.cells (Jbw x x p (Jl a) (Jl b) aE (Jk N) Z u) 47 (0,0))]):=H (Bx.box ⟨λ_ _ h=>absurd h YF,Wx aI aA⟩ _ _);have bc:Hid (w.heap.size<=ac.heap.size):=H (Wx aI aA).size;clear aA aI cx;go_upto_region 5 with fail
   generalize ac.alloc _=ay at*;have cH:Jg ay ac.heap.size 34 (Jq p):=ag.cell 0 34 rfl rfl;go_cut [31] from 8 to 112 (λcu Q=>cu=.bool (p != 6&&decide (0<(k:Int)%13))/\ay=Q)
   case first=>
    cases k6:(p != 6)
    ·go_wp2_with fail
     go_meet
     exact⟨by rw[k6];rfl,rfl⟩
    ·go_wp2_with fail
     go_meet
     exact⟨by rw[k6];rfl,rfl⟩
   case rest=>
   obtain⟨rfl,bD⟩:=hcut;subst bD;obtain⟨c,aH⟩:∃c,(p != 6&&decide (0<(k:Int)%13))=c:=⟨_,rfl⟩
   have bB:f=if c then 0 else aE:=by
    rw[bI.out,bG,<-aH,show decide (0<(k:Int)%13)=decide (0<k%13) from decide_eq_decide.2 O]
   rw[aH];clear aH bI cH;generalize ac.heap.size=E at*;go_upto_if 31 with fail
   go_cut [] from 8 to 112 (λQ=>Hid (Bx w Q [(E,.cells (Jbw x x p (Jl a) (Jl b) f (Jk N) Z u) 47 (0,0))]))
   case first=>
    have dh:Jg ay E 37 (Jq aE):=ag.cell 0 37 rfl rfl;have da:=Jad _ _ 37 _ _ (ag.at 0 rfl);cases c
    ·obtain rfl:f=aE:=bB;go_wp2_with fail
     go_meet
     exact ag
    ·obtain rfl:f=0:=bB;go_wp2_with fail
     go_meet
     exact H (ag.cellSet 37 (Jq 0) bc (λq af=>by cases af))
   case rest=>
   have ar:=hcut;clear hcut ag bB bG co;have cc:(((k*31:Nat):Int))=(k:Int)*31:=Int.natCast_mul k 31;rw[cc] at a2;clear cc;go_wp2_with fail
   refine ar.ret (a2 _) ?_;intro bf V bA;have a4:=H (bA.box (Jbs U U au (Jl az) (Jl aB) s o) 30);have cA:Hid (E<bf.heap.size):=H (bA.lt 0 rfl);clear V bA ar;go_upto_if 38 with fail
   generalize bf.alloc _=y at*;generalize bf.heap.size=W at*;go_cut [] from 8 to 112 (λQ=>Hid (Bx w Q [(W,.cells (Jbs U U au (Jl az) (Jl aB) s o) 30 (0,0)),(E,.cells (Jbw x x p (Jl a) (Jl b) f (Jk N) Z n) 47 (0,0))]))
   case first=>
    by_cases aY:k%17=0
    ·have cC:((k:Int)%17==0)=true:=by simp;omega
     have c4:k%12<12:=Yu _ D;have a9:=a4.at 1 rfl;have ch:=H (bH aY x Z p a b f N);generalize ax:k%12=J at*;have cP:(k:Int)%12=(J:Int):=O
     have dc:Jg y E (18+(4+J)) (Jq (u (4+J))):=by
      rw[WN _ _ _ _ _ _ a9];rcases(by omega:J=0\/J=1\/J=2\/J=3\/J=4\/J=5\/J=6\/J=7\/J=8\/J=9\/J=10\/J=11) with rfl|rfl|rfl|rfl|rfl|rfl|rfl|rfl|rfl|rfl|rfl|rfl<;>rfl
     have cQ:=Jad _ _ (18+(4+J)) _ _ a9;clear aY ax a9;go_wp2_with fail
     go_meet
     have h:=a4.cellSet1 (18+(4+J)) (Jq 1) bc (by show W≠E;have:=cA.out;omega) (λq af=>by cases af);rw[show 18+(4+J)=22+J from O,ch.out] at h;rw[show 18+(4+J)=22+J from O];exact H h
    ·have cC:((k:Int)%17==0)=false:=by simp;omega
     have cw:=bP.out aY;clear aY;go_wp2_with fail
     go_meet
     rw[cw];exact a4
   case rest=>
   have aD:=hcut;generalize wc=y at*;clear hcut a4 bH bP;obtain⟨m,b6⟩:∃m,k%9=m:=⟨_,rfl⟩
   have df:m<=8:=O;have cl:(k:Int)%9=(m:Int):=O;rw[b6] at ao
   obtain⟨ah,bZ,cb⟩:∃ah:List UInt8,(#[Jbn,Jbn,.string ⟨#[32]⟩,.string ⟨#[48]⟩]:Array Value)[k%4]? =some (.string ⟨ah.toArray⟩)/\ah.length<=1:=by
    have cS:k%4<4:=Yu _ D;generalize k%4=i at*;rcases(by omega:i=0\/i=1\/i=2\/i=3) with rfl|rfl|rfl|rfl
    ·exact⟨[],rfl,D⟩
    ·exact⟨[],rfl,D⟩
    ·exact⟨[32],rfl,D⟩
    ·exact⟨[48],rfl,D⟩
   have dj:k%4<4:=Yu _ D;have cq:Int.tmod (k:Int) 4=((k%4:Nat):Int):=by rw[Jax O];omega
   have cZ:(k:Int)%4=((k%4:Nat):Int):=O;have cJ:Int.tmod (k:Int) 9=(m:Int):=by rw[Jax O];omega
   generalize k%4=q at*;have ci:(0:Int)<=(q:Int):=O;have ct:(q:Int)<4:=O;have dd:(q:Int)<((4:Nat):Int):=O;have aG:=H (λw=>Zs w m O);have a3:=H (aR.below aD.out.out)
   have S:Hid (∀w2,Ji y w2->Jv w2 E 0 37=(Jbs x x p (Jl a) (Jl b) Z n:Array Value)/\Jv w2 W 0 37=(Jbs U U au (Jl az) (Jl aB) s o:Array Value)/\Jv w2 E 0 39=(Jbw x x p (Jl a) (Jl b) f (Jk N) Z n:Array Value)):=H (λw2 g=>by
    have ai:=aD.go g;exact⟨by rw[JG _ _ _ _ _ _ _ (ai.at 1 rfl)];simp,ai.part 0 rfl rfl,ai.part 1 rfl rfl⟩)
   have M:Hid (∀w2,Ji y w2->Env w2):=H (λw2 g=>a3.below g);have bv:=H (And.intro bZ cb);have bM:=H a5;have aV:E<y.heap.size:=aD.lt 1 rfl;have b1:W<y.heap.size:=aD.lt 0 rfl;clear bZ cb a5 b6 cl;go_upto_region 10 with fail
   go_cut [78] from 8 to 112 (λcF Q=>cF=.bool false/\Hid (Bx w Q [(W,.cells (Jbs U U au (Jl az) (Jl aB) s o) 30 (0,0)),(E,.cells (Jbw x x p (Jl a) (Jl b) f (Jk N) Z n) 47 (0,0))]))
   case first=>
    refine Ez [.h,.h,.h,.h,.w,.w,.h,.h] [(0,4,0),(1,4,0),(2,4,0),(3,3,0),(6,1,0),(7,1,0)] (λ_ d=>Ji y d) [4] [(.w,5),(.w,8),(.w,9)] [(.w,10),(.w,11),(.w,12),(.w,13),(.w,14),(.w,15),(.w,16),(.w,17),(.w,18),(.c,19),(.c,20),(.w,21),(.w,22),(.w,23),(.w,24),(.w,25),(.w,26),(.w,27),(.c,28),(.w,29),(.w,30),(.w,31),(.w,32)] 4 (.string ⟨X.toArray⟩) K K rfl rfl K K ?_;apply Exists.intro;refine⟨λQ an=>?_,?_,?_,?_⟩
    ·obtain⟨bs,au,-⟩:=S.out Q an;have ce:E<Q.heap.size:=Jd aV an.size;have cN:W<Q.heap.size:=Jd b1 an.size;clear an;exact JcB
    ·intro q af cr am;simp only[YE,YF,YG] at af;rcases af with rfl|rfl|rfl|rfl|rfl|rfl
     ·cases am;exact⟨_,rfl,rfl,λw2 aa=>K⟩
     ·cases am;exact⟨_,rfl,rfl,λw2 aa=>Z3 _ w2 E _ K (S w2 aa).1 rfl⟩
     ·cases am;exact⟨_,rfl,rfl,λw2 aa=>Z3 _ w2 W _ K (S w2 aa).2.1 rfl⟩
     ·cases am;exact⟨_,rfl,rfl,λw2 aa=>Z3 _ w2 W _ K (S w2 aa).2.1 rfl⟩
     ·cases am;exact⟨_,rfl,rfl,λw2 aa=>K⟩
     ·cases am;exact⟨_,rfl,rfl,λw2 aa=>by simp[execOp,go_sem,cq]⟩
    ·refine⟨rfl,28,#[.agg (Jbs U U au (Jl az) (Jl aB) s o:Array Value)],λw2 t=>⟨K,?_⟩⟩;exact aX w2 (M w2 t)
    simp only[Qp,Ja0,Jbf];refine⟨λv A w2=>∃r,v=.slice (some ⟨r,0,none⟩) 4 4/\Jh w2 r #[Jbn,Jbn,.string ⟨#[32]⟩,.string ⟨#[48]⟩] 9/\Ji y w2,λA=>JX.made rfl ?_,λv A r _ w2 h=>(by obtain⟨_,-,-,g⟩:=h;exact g),λv w2 h=>?_,?_⟩
    ·rintro d ⟨aL,rfl⟩;exact⟨_,_,Sw _ _ _ K,aL.world.heap.size,rfl,WP _ _,Below.all aL.below _⟩
    ·exact Jes
    rintro v ⟨cd,bq,r,rfl,-⟩;refine⟨λv A w2=>v=.pointer (some ⟨r,q,none⟩)/\Jh w2 r #[Jbn,Jbn,.string ⟨#[32]⟩,.string ⟨#[48]⟩] 9/\Ji y w2,λA=>JX.made rfl ?_,λv A r _ w2 h=>h.2.2,λv w2 h=>?_,?_⟩
    ·rintro d ⟨cG,aq,ae,g⟩;obtain rfl:r=cG:=by simpa using aq
     exact⟨.pointer (some ⟨r,q,none⟩),d,by simp[execOp,go_sem,ci,ct],rfl,ae,g⟩
    ·exact⟨h.2.2,λbE V=>⟨h.1,(V.block r (Ja h.2.1).1).trans h.2.1,Wx h.2.2 V⟩⟩
    rintro v ⟨cs,cg,rfl,-⟩;refine⟨λv A w2=>v=.string ⟨ah.toArray⟩/\Ji y w2,λA=>JX.made rfl ?_,λv A r _ w2 h=>h.2,λv w2 h=>⟨h.2,λbE V=>⟨h.1,Wx h.2 V⟩⟩,?_⟩
    ·rintro d ⟨-,ae,g⟩;have aH:Jg d r q (.string ⟨ah.toArray⟩):=(WN _ _ q _ _ (0,0) ae).trans bv.1;exact⟨.string ⟨ah.toArray⟩,d,by simp[execOp,go_sem,aH],rfl,g⟩
    rintro v ⟨cv,cm,rfl,-⟩;intro cL;clear bq cg cm cd cs cv;refine Ad _ _ _ _ _ (stB y) _ (λA w2 h=>h.2) ?_;have z:∀(r:Nat) w2,Ji y w2->(λ(_:Nat) d=>Ji y d) r w2:=λ_ _ h=>h
    refine Qt (.string ⟨(X++ah).toArray⟩) z K (λw2 t=>TH _ w2 X ah (WJ bM D) (WJ bv.2 D) K K) ?_;refine Ae (.bool true) 6 _ z K (λ_=>K) (λw2 t=>bd.out ⟨(X++ah).toArray⟩ w2 (M w2 t)) ?_;refine Qt (.bool false) z K (λw2 t=>K) ?_;refine Qt (.bool false) z K (λw2 t=>K) ?_;refine Qt (.agg (Jbw x x p (Jl a) (Jl b) f (Jk N) Z n)) z K (λw2 t=>AP _ w2 E _ K (S w2 t).2.2 rfl) ?_;refine Ae (.bool true) 4 _ z K (λ_=>K) (λw2 t=>a6.out w2 (M w2 t)) ?_;refine Qt (.bool false) z K (λw2 t=>K) ?_;refine Qt (.bool false) z K (λw2 t=>K) ?_;refine Qt (.bool false) z K (λw2 t=>K) ?_;refine F3 (.agg (Jbw x x p (Jl a) (Jl b) f (Jk N) Z n)) K (λw2 t=>AP _ w2 E _ K (S w2 t).2.2 rfl) ?_;refine F3 (.agg (Jbs U U au (Jl az) (Jl aB) s o)) K (λw2 t=>Z3 _ w2 W _ K (S w2 t).2.1 rfl) ?_;refine Qt (Jk (k:Int)) (Qd (Qd z)) K (λw2 t=>K) ?_;refine Qt (Jk (m:Int)) (Qd (Qd z)) K (λw2 t=>by simp[execOp,go_sem,cJ]) ?_;refine⟨λv A w2=>∃T,v=.slice (some ⟨T,0,none⟩) m m/\Jh w2 T ((JP m).map (.int .u8)).toArray 5/\Ji y w2,JX.made K ?_,λv A r _ w2 h=>(by obtain⟨_,-,-,g⟩:=h;exact Qd (Qd z) r w2 g),?_⟩
    ·rintro d g;exact⟨_,_,Cs _ _ (vx:=.int .i64 m) (vy:=.int .i64 m) K K (aG d),d.heap.size,rfl,WP _ _,Below.all g _⟩
    rintro v ⟨bo,T,rfl,-⟩;refine⟨λv A w2=>v=.bool true/\Ji y w2,⟨K,λd aM=>?_⟩,λv A r _ w2 h=>Qd (Qd z) r w2 h.2,?_⟩
    ·obtain⟨aN,aq,aJ,g⟩:=aM;obtain rfl:T=aN:=by simpa using aq
     have aw:=AA aJ (by simp[JP,maxLen];omega);rw[show((JP m).map (Value.int .u8)).length=m by simp[JP]] at aw;have aQ:=aw.reads (λv aP=>by rw[List.eq_of_mem_replicate aP];decide);exact .inr ⟨7,_,K,(ao (some ⟨T,0,none⟩) m m d aQ (M d g)).mono λak w2 aj=>⟨_,aj.1,rfl,Wx g aj.2⟩⟩
    rintro v ⟨bu,rfl,-⟩;refine Ad _ _ _ _ _ (stB y) _ (λA w2 h=>h.2) ?_;refine Qt (.bool false) (Qd (Qd z)) K (λw2 t=>K) ?_;refine Qt (.bool false) (Qd (Qd z)) K (λw2 t=>K) ?_;refine Qt (.bool false) (Qd (Qd z)) K (λw2 t=>K) ?_;refine F3 (.agg (Jbw x x p (Jl a) (Jl b) f (Jk N) Z n)) K (λw2 t=>AP _ w2 E _ K (S w2 t).2.2 rfl) ?_;refine Qt (Jk (k:Int)) (Qd (Qd (Qd z))) K (λw2 t=>K) ?_;refine Ae (.bool true) 5 _ (Qd (Qd (Qd z))) K (λ_=>K) (λw2 t=>aU.out w2 (M w2 t)) ?_;refine Qt (.bool false) (Qd (Qd (Qd z))) K (λw2 t=>K) ?_;refine Qt (.bool false) (Qd (Qd (Qd z))) K (λw2 t=>K) ?_;intro bi bh;have av:=H (aD.go bh);clear bo bu;simp only[Act.put,Ja6,Ja7,Ja8];go_wp2_with fail
    go_meet
    exact⟨rfl,av⟩
   case rest=>
   obtain⟨rfl,av⟩:=hcut;generalize wc=bi at*;clear bd a6 ao aU aX aG bv bM aD a3 M S aV b1;have ck:Jv bi E 0 39=_:=av.part 1 rfl rfl;have a7:=H av.out.out;clear av bc;go_wp2_with fail
   refine Jb (aF _) ?_;rintro ak c3 ⟨cE,aS,rfl,b0,b8⟩;have ba:=H b0;have bw:=H (Wx a7 b8);clear b0 b8 ck aF;go_wp2_with fail
   refine Jb (C2 cE G.length aS G _ (ba.reads br) bO.1 (aR.below bw)) ?_;rintro ak bY ⟨rfl,bC⟩;have bN:=H (ba.below bC);have bt:=H (Wx bw bC);clear bC ba bw;have c7:=cz.out;by_cases bj:0<G.length
   rotate_left
   ·have de:decide ((G.length:Int)>0)=false:=YA O;have cY:decide ((0:Int)<(G.length:Int))=false:=YA O;go_wp2_with fail
    go_roundg (250-(k+1))
    case measure=>omega
    case rel=>exact⟨_,k+1,rfl,O,by go_num,bt⟩
   ·obtain⟨J,ax⟩:∃J,k*7%G.length=J:=⟨_,rfl⟩
    have c0:J<G.length:=by rw[<-ax];exact Yu _ bj
    have cO:(k:Int)*7%(G.length:Int)=(J:Int):=by rw[<-ax];simp
    have aW:=bO.2;rw[ax,Yv (show k<256 from O),List.length_set] at aW;obtain⟨i,a0⟩:∃i,k*5%G.length=i:=⟨_,rfl⟩
    have cj:i<G.length:=by rw[<-a0];exact Yu _ bj
    have cW:(k:Int)*5%(G.length:Int)=(i:Int):=by rw[<-a0];simp
    rw[a0] at aW;have bQ:=H aW;have a1:=bN.out;obtain⟨r,bm,rfl,c8,cV,cK,b7⟩:=a1.here bj;have cT:=a1.le;obtain⟨ai,aj⟩:=b7 J O;obtain⟨c5,cU⟩:=W7.1 ai;have bz:=H (a1.set J O (Jq (k:Int)));have bx:Hid (Below w.heap.size w (bY.setCell ⟨r,bm+J,none⟩ (Jq (k:Int)))):=H (bt.setCell (by show w.heap.size<=r;have:=a7.size;omega) _);clear a1 cK b7 ai aW bN bt ax a0 a7;go_wp2_with fail
    generalize bY.setCell _ _=c6 at*;have c2:(G.set J (k:Int)).length=G.length:=List.length_set;have ca:(G.map (Value.int .u8)).set J (.int .u8 (k:Int))=(G.set J (k:Int)).map (.int .u8):=by rw[List.map_set]
    rw[ca] at bz
    have b9:Hid (JF (G.set J (k:Int))):=H (λv aP=>by
     rcases List.mem_or_eq_of_mem_set aP with h|rfl
     ·exact br v h
     ·omega)
    generalize G.set J (k:Int)=bT at*;have bl:=H (bz.reads b9);clear ca b9 bz;refine Jb (C2 _ G.length aS bT _ bl bQ.1 (aR.below bx)) ?_;rintro ak c1 ⟨rfl,bn⟩;have b3:=H (bl.below bn);have bk:=H (Wx bx bn);have hcut:∀w,(Instr.slice 22 (.slice (some ⟨r,bm,none⟩) G.length aS) none (some (.int .i64 (i:Int))) none).run prog w=.ok (.slice (some ⟨r,bm,none⟩) i aS) w:=λw=>B5 22 _ _ _ 1 Bits.elemBytes Bits.sizeBytes i (i:Int) rfl O w
    clear bn bl bx;go_wp2_with fail
    refine Jb (C2 _ i aS (bT.take i) _ (b3.take i (Ja1 cj)) bQ.2 (aR.below bk)) ?_;rintro ak cX ⟨rfl,bU⟩;have cy:=H (Wx bk bU);clear bU b3 bk;go_wp2_with fail
    go_roundg (250-(k+1))
    case measure=>omega
    case rel=>exact⟨_,k+1,rfl,O,by go_num,cy⟩
  ·obtain rfl:k=250:=O;clear cI aK;go_wp2_with fail
   have aC:=H (λw=>F2 0 D w);have ap:=H (λw=>F2 1 D w);rw[<-TW] at aC ap;have ao:=H (λbF bp a8 w r h=>Mz knW (knK 1) bF bp a8 [1] ⟨Fu 0,D,D⟩ (Fu 1) Vm w r h);have b2:=H (λw h=>F1 ⟨knK 0,0,2009⟩ ⟨Fu 0,D,D⟩ w h);have bJ:=H (λw h=>F1 ⟨knK 0,0,9223372036854775807⟩ ⟨Fu 0,D,D⟩ w h);have bR:=H (λw h=>F1 ⟨knK 0,0,-9223372036854775808⟩ ⟨Fu 0,D,D⟩ w h);have bW:=H (λw h=>Oy ⟨false,λ_=>0,false,λ_=>0,0,0,0⟩ ⟨true,λ_=>0,false,λ_=>0,0,0,0⟩ ⟨#[]⟩ ⟨λ_=>⟨YC 0,by show(0:Int)<256;decide⟩,λ_=>⟨YC 0,by show(0:Int)<256;decide⟩,D,D,D⟩ ⟨λ_=>⟨YC 0,by show(0:Int)<256;decide⟩,λ_=>⟨YC 0,by show(0:Int)<256;decide⟩,D,D,D⟩ w h);have aG:=H (λw=>PQ w 2049 D);obtain⟨al,bK,b4,bV,bX⟩:∃al:List Int,JP 2049=al/\al.length=2049/\NoB al/\JF al:=⟨_,rfl,List.length_replicate,λh=>absurd h (by decide+kernel),λv aP=>by rw[List.eq_of_mem_replicate aP];decide⟩
   rw[bK] at aG;have cn:=H bV;have cp:=H bX;clear bK bV bX;simp only[knW,knK,spV,kyV,kyC] at aC ap ao b2 bJ bR bW;generalize knX 0=F at*;generalize lst (knS 0)=e at*;generalize lst (knT 0)=j at*;generalize knP 0=ad at*;generalize knA 0=Y at*;generalize knB 0=ab at*;generalize knX 1=b5 at*;generalize lst (knS 1)=I at*;generalize lst (knT 1)=L at*;generalize knP 1=bs at*;generalize knA 1=cB at*;generalize knB 1=cf at*;refine Jb (aC _) ?_;rintro ak ac ⟨rfl,aA⟩;have ag:Hid (Bx w (ac.alloc (.cells (JbT F F ad (Jl Y) (Jl ab) (Jk 2008) e j) 47)) [(ac.heap.size,.cells (JbT F F ad (Jl Y) (Jl ab) (Jk 2008) e j) 47 (0,0))]):=H (Bx.box ⟨λ_ _ h=>absurd h YF,Wx aI aA⟩ _ _);clear aA aI;go_wp2_with fail
   refine Jb (aC _) ?_;rintro ak ay ⟨rfl,t⟩;have ar:=H ((ag.go t).box (JbT F F ad (Jl Y) (Jl ab) (Jk 2009) e j) 47);clear t ag;go_upto_region 21 with fail
   generalize ac.heap.size=E at*;generalize ay.heap.size=W at*;generalize ay.alloc _=y at*;have a3:=H (aR.below ar.out.out);have M:Hid (∀w2,Ji y w2->Env w2):=H (λw2 g=>a3.below g)
   have S:Hid (∀w2,Ji y w2->Jv w2 E 0 39=(JbT F F ad (Jl Y) (Jl ab) (Jk 2008) e j:Array Value)/\Jv w2 W 0 39=(JbT F F ad (Jl Y) (Jl ab) (Jk 2009) e j:Array Value)):=H (λw2 g=>by
    have ai:=ar.go g;exact⟨ai.part 1 rfl rfl,ai.part 0 rfl rfl⟩)
   have aV:E<y.heap.size:=ar.lt 1 rfl;have z:∀(r:Nat) w2,Ji y w2->(λ(_:Nat) d=>Ji y d) r w2:=λ_ _ h=>h
   refine Ez [.h,.w,.w] [(0,1,0)] (λ_ d=>Ji y d) [1] [(.w,2)] [(.w,3),(.w,4),(.c,5),(.w,6),(.w,7),(.w,8),(.w,9),(.w,10),(.w,11),(.w,12),(.w,13),(.w,14),(.w,15),(.w,16),(.w,17),(.w,18),(.w,19),(.w,20),(.w,21),(.w,22),(.q,23),(.q,24),(.q,25),(.w,26),(.w,27),(.w,28),(.w,29),(.w,30),(.w,31)] 1 (.agg (Jbs b5 b5 bs (Jl cB) (Jl cf) I L)) K K rfl rfl K K ?_;apply Exists.intro;refine⟨λQ an=>?_,?_,?_,?_⟩
   ·obtain⟨bs,-⟩:=S.out Q an;have ce:E<Q.heap.size:=Jd aV an.size;clear an;exact JcB
   ·intro q af cr am;simp only[YE,YF,YG] at af;subst af;cases am;exact⟨_,rfl,rfl,λw2 aa=>AP _ w2 E _ K (S w2 aa).1 rfl⟩
   ·exact⟨rfl,33,#[Jk 1],λw2 t=>⟨K,ap.out w2⟩⟩
   simp only[Qp,Ja0,Jbf];refine⟨λv A w2=>∃r,v=.slice (some ⟨r,0,none⟩) 1 1/\Jh w2 r #[(1:Int)] 5/\Ji y w2,λA=>JX.made rfl ?_,λv A r _ w2 h=>(by obtain⟨_,-,-,g⟩:=h;exact g),λv w2 h=>?_,?_⟩
   ·rintro d ⟨aL,rfl⟩;exact⟨_,_,Sx _ _ _ K,aL.world.heap.size,rfl,WP _ _,Below.all aL.below _⟩
   ·exact Jes
   rintro v ⟨cd,bq,r,rfl,-⟩;intro cL;refine⟨λv A w2=>v=.bool true/\Ji y w2,⟨K,λd aM=>?_⟩,λv A r _ w2 h=>h.2,?_⟩
   ·obtain⟨aN,aq,aJ,g⟩:=aM;obtain rfl:r=aN:=by simpa using aq
    have aw:=AA (vs:=[.int .u8 1]) aJ (by simp[maxLen]);have aQ:=J8.reads (l:=[1]) aw D;exact .inr ⟨7,_,K,(ao (some ⟨r,0,none⟩) 1 1 d aQ (M d g)).mono λak w2 aj=>⟨_,aj.1,rfl,Wx g aj.2⟩⟩
   rintro v ⟨bu,rfl,-⟩;refine Ad _ _ _ _ _ (stB y) _ (λA w2 h=>h.2) ?_;refine Qt (.bool true) z K (λw2 t=>K) ?_;refine F3 (.agg (JbT F F ad (Jl Y) (Jl ab) (Jk 2009) e j)) K (λw2 t=>AP _ w2 W _ K (S w2 t).2 rfl) ?_;refine Ae (.bool true) 4 _ (Qd z) K (λ_=>K) (λw2 t=>b2.out w2 (M w2 t)) ?_;refine Qt (.bool true) (Qd z) K (λw2 t=>K) ?_;refine Qt (.bool true) (Qd z) K (λw2 t=>K) ?_;refine Ae (.agg (Jbs F F ad (Jl Y) (Jl ab) e j)) 33 _ (Qd z) K (λ_=>K) (λw2 t=>aC.out w2) ?_;refine Qt (.agg (JbT F F ad (Jl Y) (Jl ab) (Jk 9223372036854775807) e j)) (Qd z) K (λw2 t=>K) ?_;refine Ae (.bool true) 4 _ (Qd z) K (λ_=>K) (λw2 t=>bJ.out w2 (M w2 t)) ?_;refine Qt (.bool true) (Qd z) K (λw2 t=>K) ?_;refine Qt (.bool true) (Qd z) K (λw2 t=>K) ?_;refine Ae (.agg (Jbs F F ad (Jl Y) (Jl ab) e j)) 33 _ (Qd z) K (λ_=>K) (λw2 t=>aC.out w2) ?_;refine Qt (.agg (JbT F F ad (Jl Y) (Jl ab) (Jk (-9223372036854775808)) e j)) (Qd z) K (λw2 t=>K) ?_;refine Ae (.bool true) 4 _ (Qd z) K (λ_=>K) (λw2 t=>bR.out w2 (M w2 t)) ?_;refine Qt (.bool true) (Qd z) K (λw2 t=>K) ?_;refine Qt (.bool true) (Qd z) K (λw2 t=>K) ?_;refine⟨λv A w2=>∃T,v=.slice (some ⟨T,0,none⟩) 2049 2049/\Jh w2 T (al.map (.int .u8)).toArray 5/\Ji y w2,JX.made K ?_,λv A r _ w2 h=>(by obtain⟨_,-,-,g⟩:=h;exact Qd z r w2 g),?_⟩
   ·rintro d g;exact⟨_,_,Cs _ _ (vx:=.int .i64 2049) (vy:=.int .i64 2049) K K (aG d),d.heap.size,rfl,WP _ _,Below.all g _⟩
   rintro v ⟨bo,T,rfl,-⟩;refine⟨λv A w2=>v=.bool true/\Ji y w2,⟨K,λd aM=>?_⟩,λv A r _ w2 h=>Qd z r w2 h.2,?_⟩
   ·obtain⟨aN,aq,aJ,g⟩:=aM;obtain rfl:T=aN:=by simpa using aq
    have aw:=AA aJ (by simp[b4,maxLen]);rw[show(al.map (Value.int .u8)).length=2049 by simp[b4]] at aw;have aQ:=aw.reads cp;exact .inr ⟨3,_,K,(C2 (some ⟨T,0,none⟩) 2049 2049 al d aQ cn (M d g)).mono λak w2 aj=>⟨_,aj.1,rfl,Wx g aj.2⟩⟩
   rintro v ⟨cM,rfl,-⟩;refine Ad _ _ _ _ _ (stB y) _ (λA w2 h=>h.2) ?_;refine Qt (.bool true) (Qd z) K (λw2 t=>K) ?_;refine Qt (.bool true) (Qd z) K (λw2 t=>K) ?_;refine⟨.agg (JbJ false false),⟨K,λw2=>K⟩,?_⟩;refine⟨.agg (JbF true),⟨K,λw2=>K⟩,?_⟩;refine⟨.agg (JbJ true false),⟨K,λw2=>K⟩,?_⟩;refine Ae (.bool true) 6 _ (Qd z) K (λ_=>K) (λw2 t=>bW.out w2 (M w2 t)) ?_;refine Qt (.bool true) (Qd z) K (λw2 t=>K) ?_;refine Qt (.bool true) (Qd z) K (λw2 t=>K) ?_;refine Ae (.bool true) 9 _ (Qd z) K (λ_=>K) (λw2 t=>Xg w2 (M w2 t)) ?_;refine Qt (.bool true) (Qd z) K (λw2 t=>K) ?_;refine Qt (.bool true) (Qd z) K (λw2 t=>K) ?_;intro bi bh;have av:=H (ar.go bh);clear bq bo bu cM;simp only[Act.put,Ja6,Ja7,Ja8];go_wp2_with fail
   go_ret;exact .mk rfl av.out.out
end
section
open Go.ChangeShapes Go.WideShapes Go.ChangeAt Go.RowKit
def BR:List (String×DataW Unit):=[("math/bits.deBruijn32tab",Rows.laid_math_bits_deBruijn32tab),("math/bits.deBruijn64tab",Rows.laid_math_bits_deBruijn64tab),("internal/strconv.uint64pow10",Rows.laid_internal_strconv_uint64pow10),("unicode/utf8.acceptRanges",Rows.laid_unicode_utf8_acceptRanges),("strconv.ErrRange",Rows.laid_strconv_ErrRange),("strconv.ErrSyntax",Rows.laid_strconv_ErrSyntax),("unicode/utf8.first",Rows.laid_unicode_utf8_first)]
def Vn:List Int:=[0,1,56,2,57,49,28,3,61,58,42,50,38,29,17,4,62,47,59,36,45,43,51,22,53,39,33,30,24,18,12,5,63,55,48,27,60,41,37,16,46,35,44,21,52,32,23,11,54,26,40,15,34,20,31,10,25,14,19,9,13,8,7,6]
theorem Sy:(Rows.laid_math_bits_deBruijn64tab:DataW Unit)=Lib.tabData .u8 Vn:=K
theorem TI:(Rows.laid_internal_strconv_uint64pow10:DataW Unit)=Lib.tabData .u64 Lib.pow10Tab:=K
theorem Sz: "*"++ "errors.errorString"= "*errors.errorString":=D
theorem SA (u:TypeId)(h:prog.typeName? 3 u=some "*errors.errorString"):u=311:=
 typeName_ptr_named (nm:= "errors.errorString") (by rw[Sz];kernel_rfl) K D u (by rw[Sz];exact h)
theorem NW {a:World}(h:laidMetH prog BR a)(z:a.ShapedOpen prog):Env a:=by
 rw[MakeChecks.laidMetH_plain _ _ _ K] at h;have j:=h.tail;have y:=j.tail;have b:=y.tail.tail;have d:=b.tail;obtain⟨r,A,l,-⟩:=laid_sentinel b (g:=2) (ti:=126) (tp:=311) (te:=313) (ts:=9) K K underlying126 SA underlying311 underlying313 rfl rfl underlying9 K K;obtain⟨o,v,u,-⟩:=laid_sentinel d (g:=1) (ti:=126) (tp:=311) (te:=313) (ts:=9) K K underlying126 SA underlying311 underlying313 rfl rfl underlying9 K K;rw[Sy] at j;rw[TI] at y;have s:=Lib.tabIs_of_head (g:=7) (t:=329) (e:=5) (n:=64) K K underlying329 underlying5 K K j;have p:=Lib.tabIs_of_head (g:=3) (t:=315) (e:=124) (n:=20) K K underlying315 underlying124 K K y;refine⟨cell_of_shapedOpen_int (zero:=#[Jk 0]) (t:=3) z (JaV K) K rfl K K underlying3,⟨311,.pointer (some o),?_⟩,⟨311,.pointer (some r),?_⟩,p,?_⟩
 ·simpa using World.var?_cell (g:=1) K u 0
 ·simpa using World.var?_cell (g:=2) K l 0
 ·exact Lib.TabIs.cell s K 15 D
theorem KS {r:Type}{enc:TypeId×Value->r}{a:Assume}{C:Checked}{os:Os}{f:FuncId}{d:Func}{G:ChangeSpec}{z:List PathCond}{j u A s:Bool}{X:World->Array Value->Prop}
 (Y:∀(w w':World) (b:Array Value),w.heap=w'.heap->X w b->X w' b)
 (own:ownKnob C.prog.godebug=none)(N:os.Started)(Q:C.prog.inits.idxOf? f=none)(M:C.prog.funcs[f]? =some d)
 (I:∃(w:World) (g:Tape) (i:Input),w.os=os/\(w.forCall g i).Shaped C.prog/\i.vars=[]/\Input.okWide C.prog (w.forCall g i) .any w.heap.size f i/\
   ((G.pre enc C.prog d z j (w.forCall g i).memory i.args/\X (w.forCall g i).memory i.args)/\sizedMet enc C.prog d (OpenSpec.ofChange G) j (w.forCall g i).memory i.args)/\a.holds C.prog (lone (Frame.enter C.prog f i.args .normal) [] (w.forCall g i)))
 (V:∀(l:World) (T:Nat) (b:Array Value) (p n:List (DataW r)) (o:List MemPlace),
   (∀(J:Nat) t v,d.params[J]? =some t->b[J]? =some v->Value.okWide C.prog l .any T t v)->
   DataW.Whole enc C.prog d.params.toList G.vars j l b.toList p n o->X l b->l.ShapedOpen C.prog->
   Calls C.prog f b l λe y=>∃v,e=.returned v/\G.post enc C.prog d j u A s l b v y):
 ReturnsInHanded a C os f .any (λw b=>(G.pre enc C.prog d z j w b/\X w b)/\sizedMet enc C.prog d (OpenSpec.ofChange G) j w b) (G.post enc C.prog d j u A s):=by
 refine returnsInHanded_of_calls own N Q I ?_;intro w g i _ W _ aa S ac;obtain⟨_,_,_,L,F,_,_,_,_,B⟩:=aa;have e:L=d:=Yp (F.symm.trans M);subst e;obtain⟨⟨⟨p,n,o,R,ab⟩,P⟩,ad⟩:=S;have U:=DataW.Whole.of_heap (w':=w.forCall g i) (by rfl) R;refine(V (w.forCall g i) w.heap.size i.args p n o B U (Y _ _ _ (by rfl) P) W).mono λe y ⟨v,Z,E⟩=>?_
 subst Z;exact ChangeSpec.post_blind E
theorem own:ownKnob prog.godebug=none:=K
theorem UO:laidOutB prog=true:=K
theorem TJ (os:Os)(a:Array Value):laidMetH prog BR ((World.laidAll prog os BR).forCall (λ_ _=>0) ⟨#[],a,[]⟩).memory:=by
 rw[MakeChecks.laidMetH_plain _ _ _ K];exact laidMet_laidAll _ K K
end
end Go.Proofs.YtkgjbipfhhjlpaaGreatDoor
