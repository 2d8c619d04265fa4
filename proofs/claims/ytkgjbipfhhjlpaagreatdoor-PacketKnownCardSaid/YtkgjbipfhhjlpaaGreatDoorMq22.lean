import Derived.Test.YtkgjbipfhhjlpaaGreatDoorMq21
set_option linter.unusedVariables false
set_option linter.unusedSimpArgs false
set_option maxRecDepth 100000
set_option maxHeartbeats 32000000
namespace Go.Proofs.YtkgjbipfhhjlpaaGreatDoor
open Go.Proofs.Tryz
section
open Go.RowKit
theorem PA (l:List Int)(h:(l.all λv=>decide (Jm v))=true):U8 λi=>l.getD i 0:=λi=>
 QC (λv a=>JaV (Y4.1 h v a)) i
theorem Wd (w:World)(h:Env w):Jf 22 #[.string ⟨#[54,32,49,48,46,48,46,48,46,49,32,53,32,49,48,46,48,46,48,46,50,32,56,48]⟩] w (Jz w (.tuple #[.agg (Jce false (10:Int) (1:Int) false (10:Int) (2:Int) (6:Int) (Jl 5) (Jl 80):Array Value),Jk 0])):=by
 have j:=AR [54,32,49,48,46,48,46,48,46,49,32,53,32,49,48,46,48,46,48,46,50,32,56,48] w D h;rw[show As (XB [54,32,49,48,46,48,46,48,46,49,32,53,32,49,48,46,48,46,48,46,50,32,56,48])=.tuple #[.agg (Jce false (10:Int) (1:Int) false (10:Int) (2:Int) (6:Int) (Jl 5) (Jl 80):Array Value),Jk 0] from K] at j;exact j
theorem We (w:World)(h:Env w):Jf 22 #[.string ⟨#[49,32,49,48,46,48,46,48,46,49,32,48,32,49,48,46,48,46,48,46,50,32,50,48,52,56]⟩] w (Jz w (.tuple #[.agg (Jcf false (10:Int) (1:Int) false (10:Int) (2:Int) (1:Int) (Jl 2048):Array Value),Jk 0])):=by
 have j:=AR [49,32,49,48,46,48,46,48,46,49,32,48,32,49,48,46,48,46,48,46,50,32,50,48,52,56] w D h;rw[show As (XB [49,32,49,48,46,48,46,48,46,49,32,48,32,49,48,46,48,46,48,46,50,32,50,48,52,56])=.tuple #[.agg (Jcf false (10:Int) (1:Int) false (10:Int) (2:Int) (1:Int) (Jl 2048):Array Value),Jk 0] from K] at j;exact j
theorem Wf (w:World)(h:Env w):Jf 22 #[.string ⟨#[49,55,32,58,58,49,32,57,32,58,58,50,32,53,51]⟩] w (Jz w (.tuple #[.agg (Jb5 true (1:Int) true (2:Int) (17:Int) (Jl 9) (Jl 53):Array Value),Jk 0])):=by
 have j:=AR [49,55,32,58,58,49,32,57,32,58,58,50,32,53,51] w D h;rw[show As (XB [49,55,32,58,58,49,32,57,32,58,58,50,32,53,51])=.tuple #[.agg (Jb5 true (1:Int) true (2:Int) (17:Int) (Jl 9) (Jl 53):Array Value),Jk 0] from K] at j;exact j
theorem Wg (w:World)(h:Env w):Jf 22 #[.string ⟨#[54,32,49,48,46,48,46,48,46,49,32,48,53,32,49,48,46,48,46,48,46,50,32,56,48]⟩] w (Jz w (.tuple #[.agg (JbJ false false:Array Value),Jk 40])):=by
 have j:=AR [54,32,49,48,46,48,46,48,46,49,32,48,53,32,49,48,46,48,46,48,46,50,32,56,48] w D h;rw[show As (XB [54,32,49,48,46,48,46,48,46,49,32,48,53,32,49,48,46,48,46,48,46,50,32,56,48])=.tuple #[.agg (JbJ false false:Array Value),Jk 40] from K] at j;exact j
theorem Wh (w:World)(h:Env w):Jf 22 #[.string ⟨#[49,32,58,58,49,32,49,32,58,58,49,32,48]⟩] w (Jz w (.tuple #[.agg (JbJ false false:Array Value),Jk 40])):=by
 have j:=AR [49,32,58,58,49,32,49,32,58,58,49,32,48] w D h;rw[show As (XB [49,32,58,58,49,32,49,32,58,58,49,32,48])=.tuple #[.agg (JbJ false false:Array Value),Jk 40] from K] at j;exact j
def Tv:Sp:=(⟨⟨false,(λi=>([10,0,0,1]:List Int).getD i 0),false,(λi=>([10,0,0,2]:List Int).getD i 0),6,5,80⟩,2,0⟩:Sp)
theorem V4:EA Tv:=⟨⟨PA _ D,PA _ D,D,D,D⟩,D,D⟩
theorem Wi:Qy Tv=0:=by decide+kernel
theorem Wj:(spL Tv).length=40:=by decide+kernel
theorem Wk (w:World):Jf 15 #[.agg (Jcq false (10:Int) (1:Int) false (10:Int) (2:Int) (6:Int) (Jl 5) (Jl 80) (2:Int) (Jk 0):Array Value)] w (JO w (spL Tv) 0):=by
 have h:=AT Tv V4 w;rw[Wi] at h;exact h
def TU:Sp:=(⟨⟨false,(λi=>([10,0,0,1]:List Int).getD i 0),false,(λi=>([10,0,0,2]:List Int).getD i 0),1,0,2048⟩,0,8⟩:Sp)
theorem V5:EA TU:=⟨⟨PA _ D,PA _ D,D,D,D⟩,D,D⟩
theorem Wl:Qy TU=0:=by decide+kernel
theorem Wm:(spL TU).length=32:=by decide+kernel
theorem Wn (w:World):Jf 15 #[.agg (Jcr false (10:Int) (1:Int) false (10:Int) (2:Int) (1:Int) (Jl 2048) (Jk 8):Array Value)] w (JO w (spL TU) 0):=by
 have h:=AT TU V5 w;rw[Wl] at h;exact h
def UB:Sp:=(⟨⟨true,(λi=>([0,0,0,0,0,0,0,0,0,0,0,0,0,0,0,1]:List Int).getD i 0),true,(λi=>([0,0,0,0,0,0,0,0,0,0,0,0,0,0,0,2]:List Int).getD i 0),17,9,53⟩,0,1⟩:Sp)
theorem V6:EA UB:=⟨⟨PA _ D,PA _ D,D,D,D⟩,D,D⟩
theorem Wo:Qy UB=0:=by decide+kernel
theorem Wp:(spL UB).length=49:=by decide+kernel
theorem Wq (w:World):Jf 15 #[.agg (Jcs true (1:Int) true (2:Int) (17:Int) (Jl 9) (Jl 53) (Jk 1):Array Value)] w (JO w (spL UB) 0):=by
 have h:=AT UB V6 w;rw[Wo] at h;exact h
theorem VK:(spL TU).getD 20 0=8:=by decide+kernel
theorem wkQ (s:Option Addr)(o:Nat)(w:World)(h:JA w s 40 o (spL Tv)):Jf 11 #[.slice s 40 o] w (Jz w (.tuple #[.agg (Jb6 false (10:Int) (1:Int) false (10:Int) (2:Int) (6:Int) (Jl 5) (Jl 80) (Jk 40) (2:Int) false:Array Value),Jk 0])):=by
 have j:=G4 s 40 o _ w h D D (by decide+kernel);rw[show pkR (spL Tv)=.tuple #[.agg (Jb6 false (10:Int) (1:Int) false (10:Int) (2:Int) (6:Int) (Jl 5) (Jl 80) (Jk 40) (2:Int) false:Array Value),Jk 0] from K] at j;exact j
def SE (w:World)(m:Nat)(l:List Int)(err:Int):Ending->World->Prop:=λe d=>∃a o,e=.returned (.tuple #[.slice a m o,Jk err])/\JA d a m o l/\Ji w d
theorem JO.n {w:World}{m:Nat}{l:List Int}{err:Int}(W:l.length=m)(M:∀v∈l,Jm v){e:Ending}{d:World}(h:JO w l err e d):SE w m l err e d:=by
 subst W;obtain⟨A,o,h1,j,Y⟩:=h;exact⟨A,o,h1,j.reads M,Y⟩
theorem Xg (w:World)(G:Env w):Jf 9 #[] w (Jz w (.bool true)):=by
 have a:=H G;clear G;have ag:Hid (∀w,Jf 15 #[.agg (Jcq false (10:Int) (1:Int) false (10:Int) (2:Int) (6:Int) (Jl 5) (Jl 80) (2:Int) (Jk 0):Array Value)] w (SE w 40 (spL Tv) 0)):=H λw=>(Wk w).mono λ_ _ h=>h.n Wj (BL V4)
 have an:Hid (∀w,Jf 15 #[.agg (Jcr false (10:Int) (1:Int) false (10:Int) (2:Int) (1:Int) (Jl 2048) (Jk 8):Array Value)] w (SE w 32 (spL TU) 0)):=H λw=>(Wn w).mono λ_ _ h=>h.n Wm (BL V5)
 have ad:Hid (∀w,Jf 15 #[.agg (Jcs true (1:Int) true (2:Int) (17:Int) (Jl 9) (Jl 53) (Jk 1):Array Value)] w (SE w 49 (spL UB) 0)):=H λw=>(Wq w).mono λ_ _ h=>h.n Wp (BL V6)
 have am:=H wkQ;have aj:=H VK;have s:=H (Bx.start w);generalize spL Tv=az at*;generalize spL TU=aN at*;generalize spL UB=ay at*;go_enter func9,ntmps9
 go_wp2_with fail
 refine s.ret (Wd _ (a.below s.out.out)) ?_;intro u1 al T;have p:=H (T.box (Jce false (10:Int) (1:Int) false (10:Int) (2:Int) (6:Int) (Jl 5) (Jl 80)) 30);clear al T s;obtain⟨av,Z⟩:∃b,b=u1.heap.size:=⟨_,rfl⟩
 go_wp2_with fail
 rw[<-Z] at p|-;clear Z;generalize u1.alloc _=aQ at*;refine Jb (ag _) ?_;rintro e u2 ⟨ap,aq,rfl,z,P⟩;have J:=H (p.go P);have u:=H z;clear P z p;go_wp2_with fail
 refine J.ret (am ap aq _ u) ?_;intro u3 W aa;have j:=H (aa.box (Jb6 false (10:Int) (1:Int) false (10:Int) (2:Int) (6:Int) (Jl 5) (Jl 80) (Jk 40) (2:Int) false) 32);have ak:=H ((u.below W).alloc (.cells (Jb6 false (10:Int) (1:Int) false (10:Int) (2:Int) (6:Int) (Jl 5) (Jl 80) (Jk 40) (2:Int) false) 32));clear W aa J u;obtain⟨aC,X⟩:∃b,b=u3.heap.size:=⟨_,rfl⟩
 go_wp2_with fail
 rw[<-X] at j|-;clear X;generalize u3.alloc _=ax at*;clear ak;refine j.ret (We _ (a.below j.out.out)) ?_;intro u4 af F;have v:=H (F.box (Jcf false (10:Int) (1:Int) false (10:Int) (2:Int) (1:Int) (Jl 2048)) 30);clear af F j;obtain⟨aA,E⟩:∃b,b=u4.heap.size:=⟨_,rfl⟩
 go_wp2_with fail
 rw[<-E] at v|-;clear E;generalize u4.alloc _=aH at*;refine Jb (an _) ?_;rintro e u5 ⟨aO,aB,rfl,S,Y⟩;have t:=H (v.go Y);have U:=H S;clear Y S v;go_wp2_with fail
 refine t.ret (Wf _ (a.below t.out.out)) ?_;intro u6 V I;have o:=H (I.box (Jb5 true (1:Int) true (2:Int) (17:Int) (Jl 9) (Jl 53)) 30);have ac:=H ((U.below V).alloc (.cells (Jb5 true (1:Int) true (2:Int) (17:Int) (Jl 9) (Jl 53)) 30));clear V I t U;obtain⟨aP,L⟩:∃b,b=u6.heap.size:=⟨_,rfl⟩
 go_wp2_with fail
 rw[<-L] at o|-;clear L;generalize u6.alloc _=aE at*;refine Jb (ad _) ?_;rintro e u7 ⟨aK,aD,rfl,ao,y⟩;have r:=H (o.go y);have N:=H (ac.below y);clear y ao o ac;go_wp2_with fail
 refine r.ret (Wg _ (a.below r.out.out)) ?_;intro u8 C B;have g:=H (B.box (JbJ false false) 30);have R:=H ((N.below C).alloc (.cells (JbJ false false) 30));clear C B r N;obtain⟨aJ,M⟩:∃b,b=u8.heap.size:=⟨_,rfl⟩
 go_wp2_with fail
 rw[<-M] at g|-;clear M;generalize u8.alloc _=ar at*;refine g.ret (Wh _ (a.below g.out.out)) ?_;intro u9 Q ab;have d:=H (ab.box (JbJ false false) 30);have ah:=H ((R.below Q).alloc (.cells (JbJ false false) 30));clear Q ab g R;obtain⟨aL,aI,ae,aF,A⟩:=ah.here D;subst ae;have ai:=A 20 D;rw[aj.out] at ai;have aG:=d.part (n:=40) 4 rfl rfl;have aM:=d.part (n:=37) 5 rfl rfl;have aw:=d.lt 4 rfl;have au:=d.lt 5 rfl;clear A;go_wp2_with fail
 go_ret;exact .mk rfl d.out.out
open Go.RowKit Bits
theorem JcK{p:Prop}(h:p:=by
 by_cases X:(JV p g).err=0
 ·obtain⟨rfl,rfl,rfl⟩:=Q X;have U:=H (A (F.trans X));rw[X];clear A F X Q;generalize (JV p g).src=B at*;generalize (JV p g).dst=E at*;generalize (JV p g).flags=s at*;have aE:Jv C r 0 40=(Jbt true true p (Jl B) (Jl E) (Jk n) s false Z e:Array Value):=Q6 (a:=(Jbt true true p (Jl B) (Jl E) (Jk n) s false Z e)) (c:=#[.slice P Y aa,false]) an rfl;go_wp2_with fail
  exact Q3 (cs:=(Jbt true true p (Jl B) (Jl E) (Jk n) s false Z e)) o rfl rfl (Ju (JC V) rfl) rfl U (ap.trans (Jy _ (Jbh af.symm)))
 ·have U:=H (XJ (l:=l) F X);have a7:((JV p g).err != 0)=true:=by simpa using X
  clear A F X Q;generalize (JV p g).err=a2 at*;go_wp2_with fail
  exact Q3 (cs:=Z8) o rfl rfl (Ju (JC V) rfl) rfl U (ap.trans (Jy _ (Jbh af.symm)))):p:=h
theorem JcL{p:Prop}(h:p:=by
 by_cases X:(J3 p g).err=0
 ·obtain⟨rfl,rfl,rfl⟩:=Q X;have U:=H (A (F.trans X));rw[X];clear A F X Q;generalize (J3 p g).src=B at*;generalize (J3 p g).dst=E at*;generalize (J3 p g).flags=s at*;have aE:Jv C r 0 40=(Jbt true true p (Jl B) (Jl E) (Jk n) s false Z e:Array Value):=Q6 (a:=(Jbt true true p (Jl B) (Jl E) (Jk n) s false Z e)) (c:=#[.slice P Y aa,true]) an rfl;go_wp2_with fail
  exact Q3 (cs:=(Jbt true true p (Jl B) (Jl E) (Jk n) s false Z e)) o rfl rfl (Ju (JC V) rfl) rfl U (ap.trans (Jy _ (Jbh af.symm)))
 ·have U:=H (XJ (l:=l) F X);have a7:((J3 p g).err != 0)=true:=by simpa using X
  clear A F X Q;generalize (J3 p g).err=a2 at*;go_wp2_with fail
  exact Q3 (cs:=Z8) o rfl rfl (Ju (JC V) rfl) rfl U (ap.trans (Jy _ (Jbh af.symm)))):p:=h
theorem PB (bH:Option Addr)(aw bt:Nat)(l:List Int)(w:World)(aG:JA w bH aw bt l)(bJ:0<aw)(cc:aw<=2048)(aQ:l.getD 0 0/16=6):
 Jf 11 #[.slice bH aw bt] w (Jz w (pkR l)):=by
 obtain⟨aZ,bj,rfl,bE,bN⟩:=aG.here bJ;have a6:=bN 0 bJ;have b4:=QC aG.byte 0;rw[Jal] at a6;obtain⟨bA,br⟩:∃x:Nat,l.getD 0 0=(x:Int):=⟨(l.getD 0 0).toNat,O⟩
 have bG:=H br;rw[br] at a6 b4 aQ;have cb:decide ((aw:Int)>2048)=false:=by simp;omega
 have ck:((aw:Int)==0)=false:=by simp;omega
 have bU:(0:Int)<(aw:Int):=O;have ci:=aG.len;have aT:=WP w (.cells Z8 32);have aR:Below w.heap.size w (w.alloc (.cells Z8 32)):=Below.all (Jc _ _) _;have be:=H (aG.alloc (.cells Z8 32));have bY:=H aG.byte;unfold Z8 at aT aR be;clear aG;have bc:=(JK aR bE (⟨aZ,bj,none⟩:Addr) rfl).trans a6;have a9:aZ<(w.alloc (.cells (Jbx false false (Jk 0) false) 32)).heap.size:=Jd bE aR.size;have bx:Hid (∀T d,d.heap[T]? =some (.map Ar 2)->(Instr.lookup 81 (.map (some T)) (Jq 6) true).run prog d=.ok (.tuple #[.agg #[Jr 80],true]) d):=H (λT d h=>HK T d h);clear bN br a6;go_enter func11,ntmps11
 go_wp2_with fail
 obtain⟨o,bh⟩:∃b,b=w.heap.size:=⟨_,rfl⟩
 rw[<-bh] at aT|-;have af:=H bh;clear bh;generalize w.alloc (.cells (Jbx false false (Jk 0) false) 32)=aI at*;have bm:o<aI.heap.size:=(Ja aT).1;have bK:=H aT;have bB:=H aR;clear aT aR;refine QZ [.w,.h,.h,.h,.h] [(1,1,0),(2,1,0),(3,1,0),(4,1,0)] (λ_ d=>Jg d aZ bj (Jq (bA:Int))) [1] [(.w,0),(.w,5),(.q,6),(.q,7),(.q,8)] [(.w,10),(.q,11)] 9 (.cells #[.nilFunc] 79) K K rfl rfl ⟨λ_=>rfl,λ_ _=>K⟩ K K ?_;apply Exists.intro;refine⟨λbO I=>?_,?_,?_⟩
 ·have ce:Jg bO aZ bj (Jq (bA:Int)):=(JK I a9 _ rfl).trans bc;have cf:aZ<bO.heap.size:=Jd a9 I.size;exact JcB
 ·exact Jc4
 simp only[Qp,Ja0,Jbf];refine⟨λaq s w2=>∃T,aq=.map (some T)/\Pz aI T s w2,?_,?_,?_,?_⟩
 ·exact Jdb
 ·rintro aq s cj-w2 ⟨T,-,aA⟩;exact(JK aA.1 a9 _ rfl).trans bc
 ·exact JdM
 rintro aq ⟨b9,b7,T,rfl,-⟩;refine⟨λaq s w2=>aq=.tuple #[.agg #[Jr 80],true]/\Pz aI T s w2,?_,λ_ _=>J4 rfl,?_,?_⟩
 ·rintro s-;refine JX.made rfl ?_;rintro d ⟨ch,b8,aA⟩;cases b8;exact⟨.tuple #[.agg #[Jr 80],true],d,Z5 _ _ (vm:=.map (some T)) (vx:=.int .u8 6) K K (bx T d aA.2.2.1),rfl,aA⟩
 ·exact JdR
 rintro aq ⟨bW,bP,rfl,-⟩;refine⟨.tuple #[.agg #[Jr 80],true],⟨rfl,λ_=>K⟩,?_⟩;refine⟨.agg #[Jr 80],⟨rfl,λ_=>K⟩,?_⟩;refine⟨.bool true,⟨rfl,λ_=>K⟩,?_⟩;intro aC;refine⟨λaq s w2=>aq=undef/\Ji aI w2/\aI.heap.size<=aC/\Jh w2 aC #[Jr 80] 79,?_,λ_ _=>J4 rfl,(λh=>by cases h),?_⟩
 ·rintro s rfl;refine JX.skip rfl ?_;rintro d ⟨-,aA⟩;obtain⟨ba,I⟩:=aA.2.2.2 aC rfl;have bQ:=WF 0 I;have ca:=Jad _ _ 0 _ _ I;refine⟨_,?_,aA.1.setCell (p:=⟨aC,0,none⟩) ba (Jr 80),ba,(Jae _ aC 0 _ _ (Jr 80) I).trans rfl⟩;simp[execOp,go_sem,XK,bQ,ca]
 rintro aq ⟨bX,bR,rfl,-⟩;refine⟨.bool true,⟨rfl,λ_=>K⟩,?_⟩;rintro bi ⟨-,aX,ba,bu⟩;have a3:=H (Wx bB aX);have aS:=H ((aX.block o bm).trans bK);have bn:=H (be.below aX);have a4:=H bu;have aN:o<bi.heap.size:=Jd bm aX.size;have b3:aC≠o:=O;have ar:JE bi o 40=true:=by rw[Jw _ _ _ _ _ aS.out];rfl
 clear aX bu ba bc a9 bm b7 bP bR b9 bW bX bK bB be bx;unfold XK;simp only[Act.put,Ja6,Ja7,Ja8];have bL:=WF 0 a4;have bz:aC<bi.heap.size:=(Ja a4).1;have a1:Hid (Q1 l=if JT l≠0 then JT l else (BW (Xi l)).err):=H (by unfold Q1;rw[Yw O,Yw O,bG.out,aQ];rw[Yw D,YH rfl]);have L:Hid (Q1 l=0->Hg l=OW (Xi l) (BW (Xi l))):=H (λh=>by unfold Hg;rw[h,Yw D,bG.out,aQ];rfl);clear aQ;go_wp2_with fail
 refine Jb (Tt _ _ _ _ _ bn O) ?_;rintro aj ab (⟨X,rfl,av⟩|⟨X,P,aa,rfl,bq,av⟩)
 ·have b6:=H (XJ (l:=l) (err:=JT l) (by rw[a1.out,YH X]) X);have cl:(JT l==0)=false:=by simpa using X
  have a7:(JT l != 0)=true:=by simpa using X
  have aF:=H (Wx a3 av);have aY:=H ((av.block o aN).trans aS);have aW:o<ab.heap.size:=Jd aN av.size;clear av X a3 aS bn a4 bL bz ar a1 L;generalize JT l=a2 at*;exact JcG
 have bg:Hid (Xi l=⟨true,(Xi l).src,(Xi l).dst,(Xi l).proto,(Xi l).len,(Xi l).frag,(Xi l).more,(Xi l).body⟩):=H rfl;have bw:=H (Tu (l:=l) bY);have aL:=H (Sb l);have bM:Q1 l=(BW (Xi l)).err:=by rw[a1.out,Yw (by rw[X];decide)]
 have W:=H bM;have aF:=H (Wx a3 av);have aY:=H ((av.block o aN).trans aS);have aW:o<ab.heap.size:=Jd aN av.size;have bD:=H (λa (ha:P=some a)=>(bq.lt ha));have bf:=H bq;clear av X a3 aS bn a4 bL bz ar bM a1 bq aN;unfold VJ;generalize Xi l=bZ at*;obtain⟨b1,Z,e,p,n,ae,ac,g⟩:=bZ;simp only at bg bw aL W L bf|-;obtain rfl:b1=true:=congrArg Hr.six bg;have bl:=H (bf.reads bw);obtain⟨Y,bb⟩:∃aw,g.length=aw:=⟨_,rfl⟩
 have cd:=H bb;rw[bb] at bl aL|-;clear bb bf bg;go_wp2_with fail
 have ay:=WP ab (.cells (JbO true true p (Jk n) ae (.slice P Y aa) ac Z e) 85);have ax:Below ab.heap.size ab (ab.alloc (.cells (JbO true true p (Jk n) ae (.slice P Y aa) ac Z e) 85)):=Below.all (Jc _ _) _;generalize ab.alloc (.cells (JbO true true p (Jk n) ae (.slice P Y aa) ac Z e) 85)=bV at*;have aB:=H ((ax.block o aW).trans aY);have aM:=H (Wx aF ax);have bC:=H (bl.below ax);obtain⟨r,aH⟩:∃b,b=ab.heap.size:=⟨_,rfl⟩
 rw[<-aH] at ay|-;have aD:=H ay;have aJ:Hid ((∀a,P=some a->a.block≠r)/\r≠o):=H ⟨λa ha=>by have:=(bD a ha).2;omega,O⟩;have a8:Hid (w.heap.size<=r):=H (by rw[aH];exact aF.size);clear ay ax aY aF aH aW bD bl b3;refine Jb (Zr p _) ?_;rintro aj ad ⟨rfl,au⟩;have v:=H ((au.block o (Ja aB).1).trans aB);have j:=H ((au.block r (Ja aD).1).trans aD);have M:=H (Wx aM au);have ai:=H (bC.below au);clear au aB aD aM bC;have aP:Hid ((J1 p=true->p=6\/p=17\/p=1\/p=58)/\(Qb p=true->p=6\/p=17\/p=1\/p=58)):=H ⟨λh=>by unfold J1 at h;simp at h;omega,λh=>by unfold Qb at h;simp at h;omega⟩;have S:Hid (BW ⟨true,Z,e,p,n,ae,ac,g⟩=if (J1 p||Qb p)&&!ae then (if ac then J3 p g else JV p g) else ⟨0,0,0,0⟩):=H rfl;have aO:Hid (∀d,Jf 36 #[p] d (Jz d (.bool (Qb p)))):=H (λd=>XT p d);obtain⟨b2,bd⟩:∃b,J1 p=b:=⟨_,rfl⟩
 obtain⟨bS,bs⟩:∃b,Qb p=b:=⟨_,rfl⟩
 rw[bd,bs] at S aP;rw[bs] at aO;rw[bd];clear bd bs;cases b2
 ·cases bS
  ·skip
   have ag:r<ad.heap.size:=(Ja j).1;have ah:=WF 34 j;have J:=WF 39 j;have G:=WF 41 j;have u:BW ⟨true,Z,e,p,n,ae,ac,g⟩=⟨0,0,0,0⟩:=by rw[S.out];rfl
   have y:Q1 l=0:=by rw[W.out,u]
   have A:Hid (pkR l=.tuple #[.agg (Jbv true true p (Jk n) ae Z e:Array Value),Jk 0]):=H (by unfold pkR;rw[y,L.out y,u];rfl);clear u y S W L;clear J G;go_wp2_with fail
   refine Jb (aO _) ?_;rintro aj R ⟨rfl,t⟩;have N:=H ((t.block o (Ja v).1).trans v);have z:=H ((t.block r (Ja j).1).trans j);have am:=H (Wx M t);have az:=H (ai.below t);clear t ah ag v j M ai;have bk:r<R.heap.size:=(Ja z).1;have J:=WF 39 z;have G:=WF 41 z;have aE:Jv R r 0 40=(Jbv true true p (Jk n) ae Z e:Array Value):=Q6 (a:=(Jbv true true p (Jk n) ae Z e)) (c:=#[.slice P Y aa,ac]) z rfl;have ar:JE R o 40=true:=by rw[Jw _ _ _ _ _ N.out];rfl
   go_wp2_with fail
   exact Q3 (cs:=(Jbv true true p (Jk n) ae Z e)) o rfl rfl (Ju (JC N) rfl) rfl A (am.trans (Jy _ (Jbh af.symm)))
  ·cases ae
   ·cases ac
    ·skip
     have ag:r<ad.heap.size:=(Ja j).1;have ah:=WF 34 j;have J:=WF 39 j;have G:=WF 41 j;clear J G;go_wp2_with fail
     refine Jb (aO _) ?_;rintro aj R ⟨rfl,t⟩;have N:=H ((t.block o (Ja v).1).trans v);have z:=H ((t.block r (Ja j).1).trans j);have am:=H (Wx M t);have az:=H (ai.below t);clear t ah ag v j M ai;have bk:r<R.heap.size:=(Ja z).1;have J:=WF 39 z;have G:=WF 41 z;have u:BW ⟨true,Z,e,p,n,false,false,g⟩=JV p g:=by rw[S.out];rfl
     have y:Q1 l=(JV p g).err:=by rw[W.out,u]
     have F:=H y;have A:Hid (Q1 l=0->pkR l=.tuple #[.agg (Jbt true true p (Jl (JV p g).src) (Jl (JV p g).dst) (Jk n) (Jq (JV p g).flags) false Z e:Array Value),Jk 0]):=H (λh=>by unfold pkR;rw[h,L.out h,u];rfl);clear u y S W L;have al:=H (FZ r true true Z e p n false false P Y aa g R (aP.2 (by first|rfl|trivial)) az (by have:=aL.out;omega) z);go_wp2_with fail
     refine Jb al ?_;rintro aj C ⟨B,E,s,⟨rfl,I,ak,ao⟩,Q⟩;have V:=H ((ao o aJ.2.symm (Ja N).1).trans N);have an:=H I;have ap:Hid (Ji w C):=H (am.trans (ak.mono a8));have ar:JE C o 40=true:=by rw[Jw _ _ _ _ _ V.out];rfl
     have bo:r<C.heap.size:=(Ja an).1;clear I ak ao al N z am az J G;exact JcK
    ·skip
     have ag:r<ad.heap.size:=(Ja j).1;have ah:=WF 34 j;have J:=WF 39 j;have G:=WF 41 j;clear J G;go_wp2_with fail
     refine Jb (aO _) ?_;rintro aj R ⟨rfl,t⟩;have N:=H ((t.block o (Ja v).1).trans v);have z:=H ((t.block r (Ja j).1).trans j);have am:=H (Wx M t);have az:=H (ai.below t);clear t ah ag v j M ai;have bk:r<R.heap.size:=(Ja z).1;have J:=WF 39 z;have G:=WF 41 z;have u:BW ⟨true,Z,e,p,n,false,true,g⟩=J3 p g:=by rw[S.out];rfl
     have y:Q1 l=(J3 p g).err:=by rw[W.out,u]
     have F:=H y;have A:Hid (Q1 l=0->pkR l=.tuple #[.agg (Jbt true true p (Jl (J3 p g).src) (Jl (J3 p g).dst) (Jk n) (Jq (J3 p g).flags) false Z e:Array Value),Jk 0]):=H (λh=>by unfold pkR;rw[h,L.out h,u];rfl);clear u y S W L;have al:=H (FY r true true Z e p n false true P Y aa g R (aP.2 (by first|rfl|trivial)) az (by have:=aL.out;omega) aJ.1 z);go_wp2_with fail
     refine Jb al ?_;rintro aj C ⟨B,E,s,⟨rfl,I,ak,ao⟩,Q⟩;have V:=H ((ao o aJ.2.symm (Ja N).1).trans N);have an:=H I;have ap:Hid (Ji w C):=H (am.trans (ak.mono a8));have ar:JE C o 40=true:=by rw[Jw _ _ _ _ _ V.out];rfl
     have bo:r<C.heap.size:=(Ja an).1;clear I ak ao al N z am az J G;exact JcL
   ·skip
    have ag:r<ad.heap.size:=(Ja j).1;have ah:=WF 34 j;have J:=WF 39 j;have G:=WF 41 j;have u:BW ⟨true,Z,e,p,n,true,ac,g⟩=⟨0,0,0,0⟩:=by rw[S.out];rfl
    have y:Q1 l=0:=by rw[W.out,u]
    have A:Hid (pkR l=.tuple #[.agg (Jbv true true p (Jk n) true Z e:Array Value),Jk 0]):=H (by unfold pkR;rw[y,L.out y,u];rfl);clear u y S W L;clear J G;go_wp2_with fail
    refine Jb (aO _) ?_;rintro aj R ⟨rfl,t⟩;have N:=H ((t.block o (Ja v).1).trans v);have z:=H ((t.block r (Ja j).1).trans j);have am:=H (Wx M t);have az:=H (ai.below t);clear t ah ag v j M ai;have bk:r<R.heap.size:=(Ja z).1;have J:=WF 39 z;have G:=WF 41 z;have aE:Jv R r 0 40=(Jbv true true p (Jk n) true Z e:Array Value):=Q6 (a:=(Jbv true true p (Jk n) true Z e)) (c:=#[.slice P Y aa,ac]) z rfl;have ar:JE R o 40=true:=by rw[Jw _ _ _ _ _ N.out];rfl
    go_wp2_with fail
    exact Q3 (cs:=(Jbv true true p (Jk n) true Z e)) o rfl rfl (Ju (JC N) rfl) rfl A (am.trans (Jy _ (Jbh af.symm)))
 ·cases ae
  ·cases ac
   ·skip
    have ag:r<ad.heap.size:=(Ja j).1;have ah:=WF 34 j;have J:=WF 39 j;have G:=WF 41 j;have u:BW ⟨true,Z,e,p,n,false,false,g⟩=JV p g:=by rw[S.out];rfl
    have y:Q1 l=(JV p g).err:=by rw[W.out,u]
    have F:=H y;have A:Hid (Q1 l=0->pkR l=.tuple #[.agg (Jbt true true p (Jl (JV p g).src) (Jl (JV p g).dst) (Jk n) (Jq (JV p g).flags) false Z e:Array Value),Jk 0]):=H (λh=>by unfold pkR;rw[h,L.out h,u];rfl);clear u y S W L;have al:=H (FZ r true true Z e p n false false P Y aa g ad (aP.1 (by first|rfl|trivial)) ai (by have:=aL.out;omega) j);go_wp2_with fail
    refine Jb al ?_;rintro aj C ⟨B,E,s,⟨rfl,I,ak,ao⟩,Q⟩;have V:=H ((ao o aJ.2.symm (Ja v).1).trans v);have an:=H I;have ap:Hid (Ji w C):=H (M.trans (ak.mono a8));have ar:JE C o 40=true:=by rw[Jw _ _ _ _ _ V.out];rfl
    have bo:r<C.heap.size:=(Ja an).1;clear I ak ao al v j M ai J G;exact JcK
   ·skip
    have ag:r<ad.heap.size:=(Ja j).1;have ah:=WF 34 j;have J:=WF 39 j;have G:=WF 41 j;have u:BW ⟨true,Z,e,p,n,false,true,g⟩=J3 p g:=by rw[S.out];rfl
    have y:Q1 l=(J3 p g).err:=by rw[W.out,u]
    have F:=H y;have A:Hid (Q1 l=0->pkR l=.tuple #[.agg (Jbt true true p (Jl (J3 p g).src) (Jl (J3 p g).dst) (Jk n) (Jq (J3 p g).flags) false Z e:Array Value),Jk 0]):=H (λh=>by unfold pkR;rw[h,L.out h,u];rfl);clear u y S W L;have al:=H (FY r true true Z e p n false true P Y aa g ad (aP.1 (by first|rfl|trivial)) ai (by have:=aL.out;omega) aJ.1 j);go_wp2_with fail
    refine Jb al ?_;rintro aj C ⟨B,E,s,⟨rfl,I,ak,ao⟩,Q⟩;have V:=H ((ao o aJ.2.symm (Ja v).1).trans v);have an:=H I;have ap:Hid (Ji w C):=H (M.trans (ak.mono a8));have ar:JE C o 40=true:=by rw[Jw _ _ _ _ _ V.out];rfl
    have bo:r<C.heap.size:=(Ja an).1;clear I ak ao al v j M ai J G;exact JcL
  ·skip
   have ag:r<ad.heap.size:=(Ja j).1;have ah:=WF 34 j;have J:=WF 39 j;have G:=WF 41 j;have u:BW ⟨true,Z,e,p,n,true,ac,g⟩=⟨0,0,0,0⟩:=by rw[S.out];rfl
   have y:Q1 l=0:=by rw[W.out,u]
   have A:Hid (pkR l=.tuple #[.agg (Jbv true true p (Jk n) true Z e:Array Value),Jk 0]):=H (by unfold pkR;rw[y,L.out y,u];rfl);clear u y S W L;have aE:Jv ad r 0 40=(Jbv true true p (Jk n) true Z e:Array Value):=Q6 (a:=(Jbv true true p (Jk n) true Z e)) (c:=#[.slice P Y aa,ac]) j rfl;have ar:JE ad o 40=true:=by rw[Jw _ _ _ _ _ v.out];rfl
   go_wp2_with fail
   exact Q3 (cs:=(Jbv true true p (Jk n) true Z e)) o rfl rfl (Ju (JC v) rfl) rfl A (M.trans (Jy _ (Jbh af.symm)))
theorem AF (s:Option Addr)(n o:Nat)(l:List Int)(w:World)(u:JA w s n o l):Jf 11 #[.slice s n o] w (Jz w (pkR l)):=by
 by_cases j:2048<n
 ·exact Mb s n o l w u j
 by_cases y:n=0
 ·exact ND s n o l w u y
 by_cases a:l.getD 0 0/16=4
 ·exact G4 s n o l w u O O a
 by_cases b:l.getD 0 0/16=6
 ·exact PB s n o l w u O O b
 exact FD s n o l w u O O ⟨a,b⟩
open Go.RowKit Bits
def AU (p:Int)(l:List Int)(a:Bool):M5:=if J1 p||Qb p then (if a then JV p l else J3 p l) else ⟨0,0,0,0⟩
def upV (u:M5):Value:=.tuple #[Jl u.src,Jl u.dst,Jq u.flags,Jk u.err]
theorem Mc {p:Int}{l:List Int}(h:p=6\/p=17):(Qo p l).type=0/\(Qo p l).code=0:=by
 unfold Qo Fy UQ;split
 ·rcases h with rfl|rfl
  ·rw[YH rfl];exact⟨rfl,rfl⟩
  ·rw[Yw D,YH rfl];exact⟨rfl,rfl⟩
 ·exact⟨rfl,rfl⟩
theorem NE {p:Int}{l:List Int}(h:p=1\/p=58):(Qo p l).dst=0:=by
 unfold Qo Fy UQ;split
 ·rw[Yw O,Yw O]
 ·rfl
theorem PC {p:Int}{l:List Int}(M:JF l):0<=(Qo p l).dst/\(Qo p l).dst<65536:=by
 have j:=Xw M 2;unfold Qo Fy UQ;split
 ·split
  ·exact j
  ·split
   ·exact j
   ·exact⟨YC 0,(show(0:Int)<65536 from D)⟩
 ·exact⟨YC 0,(show(0:Int)<65536 from D)⟩
theorem NF (p:Int)(s:Option Addr)(n o:Nat)(b:Bool)(w:World)(j:J1 p=false)(y:Qb p=false):Jf 41 #[p,.slice s n o,b] w (Jz w (upV ⟨0,0,0,0⟩)):=by
 have r:Hid (∀d,Jf 46 #[p] d (Jz d (.bool false))):=H (λd=>j▸Xn p d);have t:Hid (∀d,Jf 47 #[p] d (Jz d (.bool false))):=H (λd=>y▸XH p d);clear j y;go_enter func41,ntmps41
 go_wp2_with fail
 refine Jb (r _) ?_;rintro e V ⟨rfl,a⟩;go_wp2_with fail
 refine Jb (t _) ?_;rintro e w2 ⟨rfl,l⟩;have g:=H (Wx a l);go_wp2_with fail
 refine Jag (v:=upV ⟨0,0,0,0⟩) (by simp[results,go_sem,f41,upV]) rfl ?_;exact .mk rfl g
theorem Et (p:Int)(E:p=6\/p=17)(s:Option Addr)(n o:Nat)(l:List Int)(w:World)(u:JA w s n o l)(aq:n<=100000):Jf 41 #[p,.slice s n o,true] w (Jz w (upV (JV p l))):=by
 have ae:Hid (∀d,Jf 46 #[p] d (Jz d (.bool true))):=H (λd=>by have:=Xn p d;rwa [show J1 p=true by rcases E with rfl|rfl<;>rfl] at this);have ap:=u.len;have B:Hid (∀d,Jf 87 #[p,.string (strOfNums l)] d (Jz d (rtR p l))):=H (λd=>G0 p O l u.byte O d);have Z:Hid (∀d,JA d s n o l->(convert 22 9 (.slice s n o)).run prog d=.ok (.string (strOfNums l)) d):=H (λd h=>Qm 22 5 underlying22 underlying5 h 9 underlying9);have R:=Mc (l:=l) E;have F:=PC (p:=p) u.byte;have J:Hid (JV p l=⟨Ab p l,(Qo p l).src,(Qo p l).dst,(Qo p l).flags⟩):=H (by unfold JV;rw[show Qb p=false by rcases E with rfl|rfl<;>rfl];rfl);rw[J.out];have T:=H u;unfold rtR rtC at B;generalize Ab p l=af at*;generalize Qo p l=t at*;obtain⟨z,a,b,C,I,e,y,A,U,al,ah,W⟩:=t;simp only at B R F|-;obtain⟨rfl,rfl⟩:=R;generalize strOfNums U=G at*;generalize strOfNums W=j at*;generalize strOfNums l=an at*;clear u J E;unfold upV;go_enter func41,ntmps41
 go_wp2_with fail
 refine Jb (ae _) ?_;rintro ab V ⟨rfl,r⟩;have X:=H (T.below r);have Y:=H r;have S:=Z.out V X;clear r;go_wp2_with fail
 refine Jb (B _) ?_;rintro ab w2 ⟨rfl,g⟩;have L:=H (Wx Y g);clear g S;go_wp2_with fail
 have P:=WP w2 (.cells (JbM z (Jl a) (Jl b) (Jp C) (Jp I) e (Jl y) (Jl A) (.string G) (.string j)) 102);have N:Below w2.heap.size w2 (w2.alloc (.cells (JbM z (Jl a) (Jl b) (Jp C) (Jp I) e (Jl y) (Jl A) (.string G) (.string j)) 102)):=Below.all (Jc _ _) _;obtain⟨ad,M⟩:∃aa,aa=w2.heap.size:=⟨_,rfl⟩
 rw[<-M] at P|-;generalize w2.alloc (.cells (JbM z (Jl a) (Jl b) (Jp C) (Jp I) e (Jl y) (Jl A) (.string G) (.string j)) 102)=Q at*;have ac:=H (Wx L N);have am:ad<Q.heap.size:=(Ja P).1;have ak:=WF 1 P;have ai:=WF 2 P;have ar:=WF 9 P;have ag:=WF 10 P;have ao:=WF 5 P;clear P N M L;have aj:=F.1;have au:=F.2;refine JM K K ?_;repeat go_big_quiet_step (fail)
 refine Jaa ?_;intro x;go_wp2_with fail
 refine Jag (v:=.tuple #[Jl a,Jl b,e,Jk af]) (by simp[results,go_sem,f41]) rfl ?_;exact .mk rfl (Wx ac x.below)
theorem E5 (p:Int)(E:p=1\/p=58)(s:Option Addr)(n o:Nat)(l:List Int)(w:World)(u:JA w s n o l)(ay:n<=100000):Jf 41 #[p,.slice s n o,true] w (Jz w (upV (JV p l))):=by
 have ai:Hid (∀d,Jf 46 #[p] d (Jz d (.bool false))):=H (λd=>by have:=Xn p d;rwa [show J1 p=false by rcases E with rfl|rfl<;>rfl] at this);have af:Hid (∀d,Jf 47 #[p] d (Jz d (.bool true))):=H (λd=>by have:=XH p d;rwa [show Qb p=true by rcases E with rfl|rfl<;>rfl] at this);have ax:=u.len;have C:Hid (∀d,Jf 87 #[p,.string (strOfNums l)] d (Jz d (rtR p l))):=H (λd=>G0 p O l u.byte O d);have ac:Hid (∀d,JA d s n o l->(convert 22 9 (.slice s n o)).run prog d=.ok (.string (strOfNums l)) d):=H (λd h=>Qm 22 5 underlying22 underlying5 h 9 underlying9);have R:=NE (l:=l) E;have S:=Ma (p:=p) u.byte;have J:Hid (JV p l=⟨Ab p l,(Qo p l).src,(Qo p l).type*256+(Qo p l).code,(Qo p l).flags⟩):=H (by unfold JV;rw[show Qb p=true by rcases E with rfl|rfl<;>rfl];rfl);rw[J.out];have X:=H u;unfold rtR rtC at C;generalize Ab p l=aj at*;generalize Qo p l=ad at*;obtain⟨A,b,ap,F,I,r,z,B,Y,j,a,Z⟩:=ad;simp only at C R S|-;obtain rfl:=R;generalize strOfNums Y=G at*;generalize strOfNums Z=t at*;generalize strOfNums l=au at*;clear u J E;unfold upV;go_enter func41,ntmps41
 go_wp2_with fail
 refine Jb (ai _) ?_;rintro e aw ⟨rfl,U⟩;go_wp2_with fail
 refine Jb (af _) ?_;rintro e V ⟨rfl,T⟩;have y:=Wx U T;have aa:=H (X.below y);have ab:=H y;have W:=ac.out V aa;clear y U T;go_wp2_with fail
 refine Jb (C _) ?_;rintro e w2 ⟨rfl,g⟩;have L:=H (Wx ab g);clear g W;go_wp2_with fail
 have P:=WP w2 (.cells (Jcg A (Jl b) (Jp F) (Jp I) r (Jl z) (Jl B) (.string G) j a (.string t)) 102);have N:Below w2.heap.size w2 (w2.alloc (.cells (Jcg A (Jl b) (Jp F) (Jp I) r (Jl z) (Jl B) (.string G) j a (.string t)) 102)):=Below.all (Jc _ _) _;obtain⟨ah,M⟩:∃ae,ae=w2.heap.size:=⟨_,rfl⟩
 rw[<-M] at P|-;generalize w2.alloc (.cells (Jcg A (Jl b) (Jp F) (Jp I) r (Jl z) (Jl B) (.string G) j a (.string t)) 102)=Q at*;have ag:=H (Wx L N);have ar:ah<Q.heap.size:=(Ja P).1;have ao:=WF 1 P;have am:=WF 2 P;have az:=WF 9 P;have ak:=WF 10 P;have av:=WF 5 P;clear P N M L;obtain⟨⟨an,aA⟩,aq,al⟩:=S;refine JM K K ?_;repeat go_big_quiet_step (fail)
 refine Jaa ?_;intro x;go_wp2_with fail
 refine Jag (v:=.tuple #[Jl b,Jl (j*256+a),r,Jk aj]) ?_ rfl ?_
 ·simp[results,go_sem,f41];omega
 exact .mk rfl (Wx ag x.below)
theorem FE (p:Int)(E:p=1\/p=58)(s:Option Addr)(n o:Nat)(l:List Int)(w:World)(u:JA w s n o l)(B:n<=100000):Jf 41 #[p,.slice s n o,false] w (Jz w (upV (J3 p l))):=by
 have a:Hid (∀d,Jf 46 #[p] d (Jz d (.bool false))):=H (λd=>by have:=Xn p d;rwa [show J1 p=false by rcases E with rfl|rfl<;>rfl] at this);have r:Hid (∀d,Jf 47 #[p] d (Jz d (.bool true))):=H (λd=>by have:=XH p d;rwa [show Qb p=true by rcases E with rfl|rfl<;>rfl] at this);have P:=u.len;have C:=H u;have z:Hid (J3 p l=if l.length<2 then ⟨10,0,0,0⟩ else ⟨0,0,w2 l 0,0⟩):=H (by unfold J3;rw[show Qb p=true by rcases E with rfl|rfl<;>rfl];rfl);rw[z.out,P];clear z E;by_cases y:n<2
 ·have L:decide ((n:Int)<2)=true:=by simp;omega
  rw[YH y];clear u;unfold upV;go_enter func41,ntmps41
  go_wp2_with fail
  refine Jb (a _) ?_;rintro e N ⟨rfl,t⟩;go_wp2_with fail
  refine Jb (r _) ?_;rintro e V ⟨rfl,b⟩;go_wp2_with fail
  refine Jb (a _) ?_;rintro e J ⟨rfl,j⟩;have g:=H (Wx (Wx t b) j);go_wp2_with fail
  refine Jag (v:=.tuple #[Jbl,Jbl,(),Jk 10]) (by simp[results,go_sem,f41]) rfl ?_;exact .mk rfl g
 ·have L:decide ((n:Int)<2)=false:=by simp;omega
  have G:Hid (∀d,JA d s n o l->Jf 88 #[.slice s n o,Jk 0,Jk 2] d (Jz d (.tuple #[Jo (w2 l 0),Jk 0]))):=H (λd h=>by
   have:=Bo s n o l 0 2 d h D D O O;rwa [Qw l 0 O] at this)
  have Q:=Xw u.byte 0;rw[Yw y];generalize w2 l 0=v at*;clear u;unfold upV;go_enter func41,ntmps41
  go_wp2_with fail
  refine Jb (a _) ?_;rintro e N ⟨rfl,t⟩;go_wp2_with fail
  refine Jb (r _) ?_;rintro e V ⟨rfl,b⟩;go_wp2_with fail
  refine Jb (a _) ?_;rintro e J ⟨rfl,j⟩;have A:=H (Wx (Wx t b) j);go_wp2_with fail
  refine Jb (G _ (C.below A)) ?_;rintro e R ⟨rfl,F⟩;have M:=H (Wx A F);go_wp2_with fail
  refine Jb (r _) ?_;rintro e w4 ⟨rfl,I⟩;have g:=H (Wx M I);go_wp2_with fail
  refine Jag (v:=.tuple #[Jbl,Jl v,(),Jk 0]) (by simp[results,go_sem,f41]) rfl ?_;exact .mk rfl g
open Go.RowKit Bits
theorem JcR{p:Prop}(h:p:=by
 unfold upV;go_enter func41,ntmps41
 go_wp2_with fail
 refine Jb (F _) ?_;rintro e W ⟨rfl,j⟩;go_wp2_with fail
 refine Jb (F _) ?_;rintro e V ⟨rfl,g⟩;have b:=H (Wx j g);clear j g;go_wp2_with fail
 refine Jb (Q _ (I.below b)) ?_;rintro e ac ⟨rfl,z⟩;have C:=H (Wx b z);clear z b;go_wp2_with fail
 refine Jb (U _) ?_;rintro e w4 ⟨rfl,A⟩;have a:=H (Wx C A);clear A C;go_wp2_with fail
 refine Jb (S _ (I.below a)) ?_;rintro e X ⟨rfl,B⟩;have G:=H (Wx a B);clear B a;go_wp2_with fail
 refine Jag (v:=.tuple #[Jl v,Jl J,(),Jk 0]) (by simp[results,go_sem,f41]) rfl ?_;exact .mk rfl G):p:=h
theorem E6 (p:Int)(E:p=6\/p=17)(ad:Option Addr)(n o:Nat)(l:List Int)(w:World)(u:JA w ad n o l)(au:n<=100000):Jf 41 #[p,.slice ad n o,false] w (Jz w (upV (J3 p l))):=by
 have F:Hid (∀d,Jf 46 #[p] d (Jz d (.bool true))):=H (λd=>by have:=Xn p d;rwa [show J1 p=true by rcases E with rfl|rfl<;>rfl] at this);have U:Hid (∀d,Jf 47 #[p] d (Jz d (.bool false))):=H (λd=>by have:=XH p d;rwa [show Qb p=false by rcases E with rfl|rfl<;>rfl] at this);have ab:=u.len;have I:=H u;have P:Hid (J3 p l=if l.length<4 then ⟨10,0,0,0⟩ else ⟨0,w2 l 0,w2 l 2,if p=6/\14<=l.length then l.getD 13 0 else 0⟩):=H (by unfold J3;rw[show Qb p=false by rcases E with rfl|rfl<;>rfl];rfl);by_cases L:n<4
 ·have ag:decide ((n:Int)<4)=true:=by simp;omega
  have t:Hid (J3 p l=⟨10,0,0,0⟩):=H (by rw[P.out,ab,YH L]);rw[t.out];clear u P t E;unfold upV;go_enter func41,ntmps41
  go_wp2_with fail
  refine Jb (F _) ?_;rintro e W ⟨rfl,j⟩;go_wp2_with fail
  refine Jb (F _) ?_;rintro e V ⟨rfl,g⟩;have af:=H (Wx j g);go_wp2_with fail
  refine Jag (v:=.tuple #[Jbl,Jbl,(),Jk 10]) (by simp[results,go_sem,f41]) rfl ?_;exact .mk rfl af
 have ag:decide ((n:Int)<4)=false:=by simp;omega
 have ap:decide ((n:Int)<2)=false:=by simp;omega
 obtain⟨r,s,rfl,Y,Z⟩:=u.here O
 have T:Hid (∀(i:Nat) (R:Int) d,R=(i:Int)->i+2<=n->JA d (some ⟨r,s,none⟩) n o l->Jf 88 #[.slice (some ⟨r,s,none⟩) n o,Jk R,Jk 2] d (Jz d (.tuple #[Jo (w2 l i),Jk 0]))):=H (λi R d ae ar h=>by
  subst ae;have:=Bo (some ⟨r,s,none⟩) n o l i 2 d h D D O O;rwa [Qw l i O] at this)
 have Q:Hid (∀d,JA d (some ⟨r,s,none⟩) n o l->Jf 88 #[.slice (some ⟨r,s,none⟩) n o,Jk 0,Jk 2] d (Jz d (.tuple #[Jo (w2 l 0),Jk 0]))):=H (λd h=>T.out 0 0 d rfl O h);have S:Hid (∀d,JA d (some ⟨r,s,none⟩) n o l->Jf 88 #[.slice (some ⟨r,s,none⟩) n o,Jk 2,Jk 2] d (Jz d (.tuple #[Jo (w2 l 2),Jk 0]))):=H (λd h=>T.out 2 2 d rfl O h);have ak:=Xw u.byte 0;have ao:=Xw u.byte 2;have aj:Hid (14<=n->Jg w r (s+13) (Jq (l.getD 13 0))):=H (λh=>Z 13 O);have t:Hid (J3 p l=⟨0,w2 l 0,w2 l 2,if p=6/\14<=n then l.getD 13 0 else 0⟩):=H (by rw[P.out,ab,Yw L]);generalize w2 l 0=v at*;generalize w2 l 2=J at*;generalize l.getD 13 0=aa at*;clear u P Z T;by_cases N:p=6
 ·subst N;by_cases M:14<=n
  ·have ai:decide ((n:Int)>=14)=true:=by simp;omega
   have al:(13:Int)<(n:Int):=O;have y:Hid (J3 6 l=⟨0,v,J,aa⟩):=H (by rw[t.out,YH ⟨rfl,M⟩]);rw[y.out];have ah:=aj.out M;clear t y L M;unfold upV;go_enter func41,ntmps41
   go_wp2_with fail
   refine Jb (F _) ?_;rintro e W ⟨rfl,j⟩;go_wp2_with fail
   refine Jb (F _) ?_;rintro e V ⟨rfl,g⟩;have b:=H (Wx j g);clear j g;go_wp2_with fail
   refine Jb (Q _ (I.below b)) ?_;rintro e ac ⟨rfl,z⟩;have C:=H (Wx b z);clear z b;go_wp2_with fail
   refine Jb (U _) ?_;rintro e w4 ⟨rfl,A⟩;have a:=H (Wx C A);clear A C;go_wp2_with fail
   refine Jb (S _ (I.below a)) ?_;rintro e X ⟨rfl,B⟩;have G:=H (Wx a B);clear B a;have an:=(JK G Y (⟨r,s+13,none⟩:Addr) rfl).trans ah;have aq:r<X.heap.size:=Jd Y G.size;go_wp2_with fail
   refine Jag (v:=.tuple #[Jl v,Jl J,aa,Jk 0]) (by simp[results,go_sem,f41]) rfl ?_;exact .mk rfl G
  ·have ai:decide ((n:Int)>=14)=false:=by simp;omega
   have y:Hid (J3 6 l=⟨0,v,J,0⟩):=H (by rw[t.out,Yw (λh=>M h.2)]);rw[y.out];clear t y L M;exact JcR
 ·have am:(p==6)=false:=by simpa using N
  have y:Hid (J3 p l=⟨0,v,J,0⟩):=H (by rw[t.out,Yw (λh=>N h.1)]);rw[y.out];clear t y L N E;exact JcR
theorem Io (p:Int)(s:Option Addr)(n o:Nat)(l:List Int)(a:Bool)(w:World)(u:JA w s n o l)(B:n<=100000):Jf 41 #[p,.slice s n o,a] w (Jz w (upV (AU p l a))):=by
 by_cases E:J1 p=true
 ·have e:p=6\/p=17:=by unfold J1 at E;simp at E;exact E
  have z:AU p l a=if a then JV p l else J3 p l:=by unfold AU;rw[E];rfl
  rw[z];cases a
  ·exact E6 p e s n o l w u B
  ·exact Et p e s n o l w u B
 by_cases F:Qb p=true
 ·have j:p=1\/p=58:=by unfold Qb at F;simp at F;exact F
  have z:AU p l a=if a then JV p l else J3 p l:=by unfold AU;rw[F,Bool.or_true];rfl
  rw[z];cases a
  ·exact FE p j s n o l w u B
  ·exact E5 p j s n o l w u B
 have b:J1 p=false:=by simpa using E
 have d:Qb p=false:=by simpa using F
 have z:AU p l a=⟨0,0,0,0⟩:=by unfold AU;rw[b,d];rfl
 rw[z];exact NF p s n o a w b d
open Go.RowKit Bits
theorem JdU{p:Prop}(h:p:=by
 rintro v z aR-w2 ⟨-,x,rfl⟩;exact(WH (a:=⟨j,4,none⟩) (Ja5 _ _ _ _ aP)).trans ((JK x.below t (⟨j,4,none⟩:Addr) rfl).trans az)):p:=h
theorem Fs {e:Program}{j:Func}{p q T G:Tmp}{d:TypeId}(h:j.results=#[.cell p d,.tmp q,.tmp T,.tmp G])(a:Array Value)(w:World)(b n:Nat)(N:TypeDesc)(v g x:Value)
 (r:e.underlying d=some N)(L:(match N with| .struct _| .array _ _=>true|_=>false)=true)(F:(e.info? d).map (·.size)=some n)
 (E:a.getD p undef=.pointer (some ⟨b,0,none⟩))(s:a.getD q undef=v)(u:a.getD T undef=g)(y:a.getD G undef=x)(S:Array Value)(I:Jv w b 0 n=S)(z:S.size=n):
 (results j a).run e w=.ok (.tuple #[.agg S,v,g,x]) w:=by
 subst I;have t:a[p]?.getD undef=.pointer (some ⟨b,0,none⟩):=by simpa using E
 have l:a[q]?.getD undef=v:=by simpa using s
 have o:a[T]?.getD undef=g:=by simpa using u
 have A:a[G]?.getD undef=x:=by simpa using y
 simp[results,h,t,l,o,A,asAddr,Q8 w b 0 n d N r L F z]
def pkO (o:Hr):Array Value:=#[.bool o.six,.int .u8 (o.src 0),.int .u8 (o.src 1),.int .u8 (o.src 2),.int .u8 (o.src 3),.int .u8 (o.src 4),.int .u8 (o.src 5),.int .u8 (o.src 6),.int .u8 (o.src 7),.int .u8 (o.src 8),.int .u8 (o.src 9),.int .u8 (o.src 10),.int .u8 (o.src 11),.int .u8 (o.src 12),.int .u8 (o.src 13),.int .u8 (o.src 14),.int .u8 (o.src 15),.bool o.six,.int .u8 (o.dst 0),.int .u8 (o.dst 1),.int .u8 (o.dst 2),.int .u8 (o.dst 3),.int .u8 (o.dst 4),.int .u8 (o.dst 5),.int .u8 (o.dst 6),.int .u8 (o.dst 7),.int .u8 (o.dst 8),.int .u8 (o.dst 9),.int .u8 (o.dst 10),.int .u8 (o.dst 11),.int .u8 (o.dst 12),.int .u8 (o.dst 13),.int .u8 (o.dst 14),.int .u8 (o.dst 15),.int .u8 o.proto,.int .u16 0,.int .u16 0,.int .i64 o.len,.int .u8 0,.bool o.frag]
def F0 (w:World)(g:Option Addr)(C:Hr)(err:Int):Ending->World->Prop:=λe d=>
 (err≠0/\e=.returned (.tuple #[.agg Z8,Jbo,false,Jk err])/\Ji w d)\/
 (err=0/\∃s o,e=.returned (.tuple #[.agg (pkO C),.slice s C.body.length o,.bool C.more,Jk 0])/\JA d s C.body.length o C.body/\Ji w d/\∀a,s=some a->∃b,g=some b/\b.block=a.block)
theorem Ip {g:Ending->World->Prop}{d:World}{e cs:Array Value}{v u x:Value}(b:Nat)(E:e.getD 2 undef=.pointer (some ⟨b,0,none⟩))(Y:e.getD 3 undef=v)(l:e.getD 4 undef=u)(j:e.getD 5 undef=x)(I:Jv d b 0 40=cs)(z:cs.size=40)(n:g (.returned (.tuple #[.agg cs,v,u,x])) d):
 bodyPost prog f39 g .ret { tmps:=e,defers:=[] } d:=
 Jag (v:=.tuple #[.agg cs,v,u,x]) (Fs rfl _ _ b 40 _ _ _ _ underlying40 rfl D1 E Y l j cs I z) rfl n
theorem PD (s:Option Addr)(n o:Nat)(l:List Int)(w:World)(M:JA w s n o l)(B:n<=100000):
 Jf 39 #[.slice s n o] w (F0 w s (QP l) (JR l)):=by
 have bu:=M.len;have P:=WP w (.cells Z8 40);have an:Below w.heap.size w (w.alloc (.cells Z8 40)):=Below.all (Jc _ _) _;have U:=H (M.alloc (.cells Z8 40));have V:=H M.byte
 have a5:Hid (∀a,s=some a->0<n->a.block<w.heap.size):=H (λa ha B=>by
  obtain⟨aR,bB,ac,a3,-⟩:=M.here B;rw[ha] at ac;cases ac;exact a3)
 unfold Z8 at P an U;clear M;go_enter func39,ntmps39
 go_wp2_with fail
 obtain⟨e,ap⟩:∃ay,ay=w.heap.size:=⟨_,rfl⟩
 rw[<-ap] at P|-;have aq:=H ap;clear ap;generalize w.alloc (.cells (Jbx false false (Jk 0) false) 40)=bp at*;refine Jb (Nf _ _ _ _ _ U B) ?_;rintro ac aI ⟨G,I,rfl,aS,g,aJ⟩;have T:=H aS;have af:=H (Wx an g);have Q:=H ((g.block e (Ja P).1).trans P);have aK:=H (U.below g);have aH:=H aJ;have aN:e<aI.heap.size:=(Ja Q).1;have a9:JE aI e 40=true:=by rw[Jw _ _ _ _ _ Q.out];rfl
 clear g aS an U aJ;have bD:=H P;clear P;by_cases X:JR l=0
 rotate_left
 ·have Y:=H X;have bz:(JR l != 0)=true:=by simpa using X
  clear X;generalize JR l=aY at*;generalize (QK l).length=L at*;go_wp2_with fail
  exact Ip (cs:=Z8) (v:=.slice none 0 0) (u:=.bool false) (x:=.int .i64 aY) e rfl rfl rfl rfl (Ju (JC Q) rfl) rfl (.inl ⟨Y.out,rfl,af.trans (Jy _ (Jbh aq.symm))⟩)
 have aF:Hid (QK l=AZ l):=H (by unfold QK;rw[YH X]);have Y:Hid (QJ l=0):=H (In X);have aM:Hid (QP l=⟨false,Qj ((l.drop 12).take 4),Qj ((l.drop 16).take 4),l.getD 9 0,w2 l 2,decide (0<w2 l 6%8192),(w2 l 6/8192%2==1),AZ l⟩):=H rfl;have bl:20<=l.length:=by have:=FP Y.out;omega
 have aX:Hid (∀a,G=some a->a.block≠e):=H (λa ha=>by
  obtain⟨a0,bd,bC⟩:=aH.out a ha;have:=a5.out a0 bd O;have:=aq.out;omega)
 have aw:Hid (((l.drop 12).take 4).length=4/\JF ((l.drop 12).take 4)):=H ⟨by rw[WR,W4];omega,QL (Qv V _) _⟩;have ak:Hid (((l.drop 16).take 4).length=4/\JF ((l.drop 16).take 4)):=H ⟨by rw[WR,W4];omega,QL (Qv V _) _⟩;have aQ:=Xw V 2;have bb:=Xw V 6
 have ag:Hid (∀d,JA d s n o l->Jf 83 #[.slice s n o] d (Jz d (.tuple #[.agg (SC l),Jk (ipHl l:Int),Jk 0]))):=H (λd h=>by
  have:=Fh s n o l d h B;unfold SD at this;rwa [YH Y.out] at this)
 have aO:Hid (∀d,Jf 84 #[.string (strOfNums ((l.drop 12).take 4))] d (Jz d (adV false (Qj ((l.drop 12).take 4))))):=H (λd=>Ig _ aw.2 aw.1 d);have aG:Hid (∀d,Jf 84 #[.string (strOfNums ((l.drop 16).take 4))] d (Jz d (adV false (Qj ((l.drop 16).take 4))))):=H (λd=>Ig _ ak.2 ak.1 d);rw[aF.out] at T|-;have bc:=H X;rw[X];unfold SC at ag;unfold adV at aO aG;clear X aF bl aw ak;generalize Qj ((l.drop 12).take 4)=Z at*;generalize Qj ((l.drop 16).take 4)=b at*;generalize strOfNums ((l.drop 12).take 4)=al at*;generalize strOfNums ((l.drop 16).take 4)=am at*;generalize strOfNums ((l.drop 20).take (ipHl l-20))=av at*;generalize AZ l=ah at*;generalize w2 l 2=A at*;generalize w2 l 6=ai at*;generalize l.getD 9 0=E at*;generalize l.getD 1 0=ax at*;generalize w2 l 4=aj at*;generalize l.getD 8 0=au at*;generalize (ai/16384%2==1)=ae at*;generalize (ai/8192%2==1)=F at*;obtain⟨r,aL⟩:∃f,ai%8192=f:=⟨_,rfl⟩
 have br:0<=r:=O;rw[aL] at ag aM;clear aL bb;generalize ipHl l=bt at*;obtain⟨L,ad⟩:∃k,ah.length=k:=⟨_,rfl⟩
 have aD:=H ad;rw[ad] at T|-;clear ad;go_wp2_with fail
 refine Jb (ag _ aK) ?_;rintro ac J ⟨rfl,W⟩;have aU:=H (T.below W);have aB:=H (Wx af W);have aa:=H ((W.block e aN).trans Q);clear W T af Q aK a9 aN;go_wp2_with fail
 obtain⟨j,aT⟩:∃ay,ay=J.heap.size:=⟨_,rfl⟩
 have y:=WP J (.cells (JbR ax (Jl A) (Jl aj) ae F (Jl r) au E (.string al) (.string am) (.string av)) 106);have ab:Below J.heap.size J (J.alloc (.cells (JbR ax (Jl A) (Jl aj) ae F (Jl r) au E (.string al) (.string am) (.string av)) 106)):=Below.all (Jc _ _) _;rw[<-aT] at y|-;generalize J.alloc (.cells (JbR ax (Jl A) (Jl aj) ae F (Jl r) au E (.string al) (.string am) (.string av)) 106)=S at*;have aE:=H (Wx aB ab);have aA:=H (aU.below ab);have N:=H ((ab.block e (Ja aa).1).trans aa);have t:j<S.heap.size:=(Ja y).1;have aZ:=WF 1 y;have az:=WF 4 y;have bi:=WF 5 y;have a6:=WF 7 y;have a7:=WF 8 y;have bg:=WF 9 y;have bF:=aQ.1;have bn:=aQ.2;have aP:Hid (j≠e):=H (by have:=(Ja aa).1;omega);clear y ab aB aU aa aT;refine QN [.h,.h,.h,.h,.h,.h,.h,.h,.h,.h,.h,.h,.h,.h,.h,.h,.h,.h,.h] [(16,1,0),(17,2,0),(18,2,0)] (λ_ d=>Jg d j 4 (.bool F)) [2] [(.w,19),(.w,20),(.w,21),(.w,22)] K K K K ?_;apply Exists.intro;refine⟨λbk C=>?_,?_,?_⟩
 ·have bm:j<bk.heap.size:=Jd t C.size;have bE:=(JK C t (⟨j,1,none⟩:Addr) rfl).trans aZ;have bv:=(JK C t (⟨j,4,none⟩:Addr) rfl).trans az;have bo:=(JK C t (⟨j,5,none⟩:Addr) rfl).trans bi;have bA:=(JK C t (⟨j,7,none⟩:Addr) rfl).trans a6;have bx:=(JK C t (⟨j,8,none⟩:Addr) rfl).trans a7;have bs:=(JK C t (⟨j,9,none⟩:Addr) rfl).trans bg;simp only[JW];repeat go_big_quiet_step ((first|(with_reducible exact JD (aO.out _))|(with_reducible exact JD (aG.out _))))
  exact Jaa rfl
 ·intro q aC bq ao;simp only[YE,YF,YG] at aC;rcases aC with rfl|rfl|rfl
  ·cases ao;exact⟨_,rfl,rfl,λw2 ar=>K⟩
  ·cases ao;exact⟨_,rfl,rfl,λw2 ar=>K⟩
  ·cases ao;exact⟨_,rfl,rfl,λw2 ar=>by simp[execOp,go_sem,ar]⟩
 simp only[Qp,Ja0,Jbf];refine⟨λv z w2=>v=undef/\∃x:J2 S,w2=x.world.setRow e (Jbv false false E (Jk A) (.bool (decide (0<r))) Z b),?_,?_,(λh=>by cases h),?_⟩
 ·rintro z rfl;refine JX.skip rfl ?_;rintro d ⟨⟨x,rfl⟩,-⟩;have C:=(x.below.block e (Ja N).1).trans N;exact⟨_,Ei _ x.world e (Jbv false false E (Jk A) (.bool (decide (0<r))) Z b) K K (by rw[Jw _ _ _ _ _ C];rfl) rfl rfl,x,rfl⟩
 ·exact JdU
 rintro v ⟨bj,bf,rfl,-⟩;refine⟨λv z w2=>v=.slice G L I/\∃x:J2 S,w2=x.world.setRow e (Jbv false false E (Jk A) (.bool (decide (0<r))) Z b),?_,?_,(λh=>by cases h),?_⟩
 ·rintro z rfl;refine JX.made rfl ?_;rintro d ⟨-,R⟩;exact⟨.slice G L I,d,K,rfl,R⟩
 ·exact JdU
 rintro v ⟨a1,aV,rfl,-⟩;refine⟨λv z w2=>v=.bool F/\∃x:J2 S,w2=x.world.setRow e (Jbv false false E (Jk A) (.bool (decide (0<r))) Z b),?_,λ_ _=>J4 rfl,(λh=>by cases h),?_⟩
 ·rintro z rfl;refine JX.made rfl ?_;rintro d ⟨-,R⟩;exact⟨.bool F,d,K,rfl,R⟩
 rintro v ⟨a2,aW,rfl,-⟩;refine⟨λv z w2=>v=.int .i64 0/\∃x:J2 S,w2=x.world.setRow e (Jbv false false E (Jk A) (.bool (decide (0<r))) Z b),?_,λ_ _=>J4 rfl,(λh=>by cases h),?_⟩
 ·rintro z rfl;refine JX.made rfl ?_;rintro d ⟨-,R⟩;exact⟨.int .i64 0,d,K,rfl,R⟩
 rintro v ⟨ba,be,rfl,-⟩;rintro bw ⟨-,x,rfl⟩;have a8:=H (Wx aE x.below);have a4:=H (aA.below x.below);have bh:=H ((x.below.block e (Ja N).1).trans N);clear aE aA N bj bf a1 aV a2 aW ba be;generalize x.world=w4 at*;go_wp2_with fail
 refine Ip (cs:=(Jbv false false E (Jk A) (.bool (decide (0<r))) Z b)) (v:=.slice G L I) (u:=.bool F) (x:=.int .i64 0) e rfl rfl rfl rfl (Ju (JC bh) rfl) rfl ?_;show F0 w s (QP l) (JR l) _ _;rw[aM.out,bc.out];refine .inr ⟨rfl,G,I,?_,?_,a8.trans (Jy _ (Jbh aq.symm)),aH.out⟩
 ·show Ending.returned (.tuple #[_,.slice G L I,_,_])=.returned (.tuple #[_,.slice G ah.length I,_,_]);rw[aD.out];rfl
 ·show JA _ _ ah.length _ _;rw[aD.out];exact a4.keep (by simp) (λa ha _=>Ja5 _ _ _ _ (aX a ha))
open Go.RowKit Bits
def UC (a:AB):List Value:=a.flatMap λx=>[.int .u8 x.1,.string (strOfNums x.2)]
abbrev Sc (w:World)(d:Nat)(e:Option Addr)(b:Nat)(a:AB):Prop:=J8 w d 2 e a.length b (UC a)
open Go.RowKit Bits
theorem G5:(prog.info? 161).map (·.size)=some 2:=K
def PE (w:World)(n:Nat)(c:PW):Ending->World->Prop:=λe d=>match c with
 | .err er=>e=.returned (.tuple #[.agg #[.slice none 0 0,Jq 0],Jk 0,Jk er])/\er≠0/\Ji w d
 | .done xs p i=>(∃b a,e=.returned (.tuple #[.agg #[.slice b xs.length a,Jq p],Jk (i:Int),Jk 0])/\Sc d w.heap.size b a xs)/\Ji w d/\MC xs/\(Qe p=false\/QQ xs=true)/\(Jm p)/\i<=n
theorem NG {e:Ending->World->Prop}{d:World}{a S:Array Value}{iv ev:Value}{t:TypeId}(b:Nat)(E:a.getD 4 undef=.pointer (some ⟨b,0,none⟩))(g:a.getD 5 undef=iv)(j:a.getD 6 undef=ev)(n:Jh d b S t)(z:S.size=2)(l:e (.returned (.tuple #[.agg S,iv,ev])) d):
 bodyPost prog f147 e .ret { tmps:=a,defers:=[] } d:=
 Jag (v:=.tuple #[.agg S,iv,ev]) (XR rfl _ _ b 2 _ _ _ underlying161 rfl G5 E g j S (Ju n z) z) rfl l
open Go.RowKit Bits
def BM (w:World)(n:Option Addr)(l:List Int):Ending->World->Prop:=λe d=>
 (JT l≠0/\e=.returned (.tuple #[.agg FB,.agg #[.slice none 0 0,Jq 0],Jbo,Jk (JT l)])/\Ji w d)\/
 (JT l=0/\∃g b s o,e=.returned (.tuple #[.agg (TR l),.agg #[.slice g (Xb l).length b,Jq (Xh l)],.slice s (Xk l).length o,Jk 0])/\
   Sc d w.heap.size g b (Xb l)/\JA d s (Xk l).length o (Xk l)/\Ji w d/\MC (Xb l)/\(Qe (Xh l)=false\/QQ (Xb l)=true)/\(0<=Xh l/\Xh l<256)/\∀a,s=some a->∃j,n=some j/\j.block=a.block)
open Go.RowKit Bits
def Tw (l:List Int):Prop:=40<=l.length->Qe (l.getD 6 0)=false
def NoB (l:List Int):Prop:=l.getD 0 0/16=6->Tw l
theorem Md (a:Int)(F:Option Addr)(n o:Nat)(l:List Int)(w:World)(t:Qe a=false)(E:Jm a):
 Jf 147 #[a,.slice F n o] w (PE w n (By 17 [] a 0 l)):=by
 rw[EX t];obtain⟨b,g⟩:∃b,b=w.heap.size:=⟨_,rfl⟩
 have s:Hid (Jh ((w.alloc (.cells #[Jbo,()] 161)).alloc (.cells #[Jbo,()] 161)) (b+1) #[Jbo,()] 161):=H (by have:=WP (w.alloc (.cells #[Jbo,()] 161)) (.cells #[Jbo,()] 161);rw[g];simpa using this);have y:Hid (Jh ((w.alloc (.cells #[Jbo,()] 161)).alloc (.cells #[Jbo,()] 161)) b #[Jbo,()] 161):=H (by rw[g];exact(YU _ _ (by simp)).trans (WP w _));have B:Hid (Below w.heap.size w ((w.alloc (.cells #[Jbo,()] 161)).alloc (.cells #[Jbo,()] 161))):=H (Below.all (Below.all (Jc _ _) _) _);have J:Hid (∀d,Jf 192 #[a] d λe I=>e=.returned (.bool false)/\d=I):=H (λd=>by have:=RP a d;rwa [t] at this);have z:=H g;go_enter func147,ntmps147
 go_wp2_with fail
 rw[<-g];clear g;generalize (w.alloc (.cells #[Jbo,()] 161)).alloc (.cells #[Jbo,()] 161)=j at*;go_loopg [0,8,9] 17 (λr u0 u8 u9 wr=>j=wr/\u0=.int .u8 a/\u8=.int .i64 0/\u9=.bool false)
 case atStart=>exact⟨rfl,rfl,rfl,rfl⟩
 case round=>
  obtain⟨L,rfl,rfl,rfl⟩:=hrel;subst L;have M:b<j.heap.size:=(Ja y).1;have N:b+1<j.heap.size:=(Ja s).1;have S:JE j b 2=true:=by rw[Jw _ _ _ _ _ y.out];rfl
  have Q:=WF 1 s;have U:=Jad _ _ 1 _ _ s;go_wp2_with fail
  refine Jb (J _) ?_;rintro e T ⟨rfl,rfl⟩;have A:Jh (j.setCell ⟨b+1,1,none⟩ (Jq a)) (b+1) #[Jbo,a] 161:=(Jae _ (b+1) 1 _ _ (Jq a) s).trans rfl;have G:Hid (Jh (j.setCell ⟨b+1,1,none⟩ (Jq a)) b #[Jbo,()] 161):=H ((YX j ⟨b+1,1,none⟩ b (Jq a) (by show b≠b+1;omega)).trans y);have R:Jv (j.setCell ⟨b+1,1,none⟩ (Jq a)) (b+1) 0 2=#[.slice none 0 0,.int .u8 a]:=Ju A rfl;have C:Hid (Below w.heap.size w ((j.setCell ⟨b+1,1,none⟩ (Jq a)).setRow b #[Jbo,a])):=H ((B.setCell (p:=⟨b+1,1,none⟩) (by show w.heap.size<=b+1;rw[z.out];omega) _).trans (Jy _ (Jbh z.symm)));clear A;go_wp2_with fail
  refine NG (iv:=.int .i64 0) (ev:=.int .i64 0) b rfl rfl rfl (JC G) rfl ?_;exact⟨⟨none,0,rfl,J8.nil _ _ _⟩,C.out,MC.nil,.inl t,E,WG _⟩
theorem PF (a:Option Addr)(b:Nat)(p:Int)(w:World):
 Jf 86 #[.agg #[.slice a 0 b,Jq p]] w (CV w []):=by
 have j:Hid (Below w.heap.size w (w.alloc (.cells #[.slice a 0 b,p] 161))):=H (Below.all (Jc _ _) _);have g:=H (WP w (.cells #[.slice a 0 b,p] 161));have n:Hid (∀(e:Ending) w',(∃(id:Int) (ok:Bool),e=.returned (.tuple #[Jbl,false,Jp id,ok]))/\Ji w w'->CV w [] e w'):=H (λ_ _ h=>h);go_enter func86,ntmps86
 go_wp2_with fail
 generalize w.alloc (.cells #[.slice a 0 b,p] 161)=d at*;go_loopg [6] 0 (λr u6 wr=>d=wr/\u6=.int .i64 0)
 case atStart=>exact⟨rfl,rfl⟩
 case round=>
  obtain⟨l,rfl⟩:=hrel;subst l;have t:w.heap.size<d.heap.size:=(Ja g).1;have s:Jg d w.heap.size 0 (.slice a 0 b):=WF 0 g;have o:Jv d w.heap.size 0 2=#[.slice a 0 b,.int .u8 p]:=Ju g rfl;go_wp2_with fail
  refine Jag (v:=.tuple #[Jbl,false,Jbm,false]) (by simp[results,go_sem,f86]) rfl ?_;exact n _ _ ⟨⟨0,false,rfl⟩,j.out⟩
end
end Go.Proofs.YtkgjbipfhhjlpaaGreatDoor
