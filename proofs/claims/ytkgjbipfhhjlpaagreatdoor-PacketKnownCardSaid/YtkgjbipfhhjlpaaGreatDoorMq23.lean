import Derived.Test.YtkgjbipfhhjlpaaGreatDoorMq22
set_option linter.unusedVariables false
set_option linter.unusedSimpArgs false
set_option maxRecDepth 100000
set_option maxHeartbeats 32000000
namespace Go.Proofs.YtkgjbipfhhjlpaaGreatDoor
open Go.Proofs.Tryz
section
open Go.RowKit Bits
theorem Eu {j:Ending->World->Prop}{d:World}{a cs cs2:Array Value}{v u:Value}{o:TypeId}(b e:Nat)(E:a.getD 2 undef=.pointer (some ⟨b,0,none⟩))(p:a.getD 3 undef=.pointer (some ⟨e,0,none⟩))(n:a.getD 4 undef=v)(l:a.getD 5 undef=u)(I:Jv d b 0 7=cs)(z:cs.size=7)(s:Jh d e cs2 o)(g:cs2.size=2)(r:j (.returned (.tuple #[.agg cs,.agg cs2,v,u])) d):
 bodyPost prog f85 j .ret { tmps:=a,defers:=[] } d:=
 Jag (v:=.tuple #[.agg cs,.agg cs2,v,u]) (El rfl _ _ b e 7 2 _ _ _ _ underlying109 rfl Lx underlying161 rfl G5 E p n l cs cs2 I z (Ju s g) g) rfl r
theorem NH (s:Option Addr)(n o:Nat)(l:List Int)(w:World)(aG:JA w s n o l)(b0:n<=100000)(b1:∀a,s=some a->a.block<w.heap.size)(ba:Tw l):Jf 85 #[.slice s n o] w (BM w s l):=by
 have bZ:=aG.len;have bl:=H aG.byte;have aT:=WP w (.cells FB 109);have aZ:=Below.all (Jc w.heap.size w) (.cells FB 109);obtain⟨ao,aE⟩:∃x,w.alloc (.cells FB 109)=x:=⟨_,rfl⟩
 have aU:ao.heap.size=w.heap.size+1:=by rw[<-aE];simp
 rw[aE] at aT aZ;have ab:=WP ao (.cells #[Jbo,()] 161);have F:=Below.all (Jc ao.heap.size ao) (.cells #[Jbo,()] 161);obtain⟨aF,aA⟩:∃x,ao.alloc (.cells #[Jbo,()] 161)=x:=⟨_,rfl⟩
 rw[aA,aU] at ab;rw[aA] at F;have aD:Hid (Ji w aF):=H (Wx aZ F);have aY:=H (aG.below aD);have aj:=H ((F.block _ O).trans aT);have ar:=H ab;have bt:aF.heap.size=w.heap.size+2:=by rw[<-aA];simp[aU]
 have a6:Hid ((w.alloc (.cells FB 109)).alloc (.cells #[Jbo,()] 161)=aF):=H (by rw[aE,aA]);clear aT aZ aE aU ab F aA aG;have ag:=H (LU s n o l aF aY b0);obtain⟨b,au⟩:∃az,az=w.heap.size:=⟨_,rfl⟩
 have N:=H au;unfold FB at a6 aj;by_cases X:Zm l=0
 rotate_left
 ·have aC:Hid (O7 l=.tuple #[.agg FB,Jk (Zm l)]):=H (by unfold O7;rw[Yw X]);have I:Hid (JT l=Zm l):=H (by unfold JT;rw[YH X]);have b5:(Zm l != 0)=true:=by simpa using X
  have cz:=H X;have a9:Hid (∀d,Ji w d->BM w s l (.returned (.tuple #[.agg FB,.agg #[.slice none 0 0,Jq 0],Jbo,Jk (Zm l)])) d):=H (λd ax=>.inl ⟨by rw[I.out];exact X,by rw[I.out],ax⟩);rw[aC.out] at ag;clear X aC I;generalize Zm l=am at*;unfold FB at ag;go_enter func85,ntmps85
  go_wp2_with fail
  rw[a6.out];rw[<-au] at aj ar bt|-;clear au;refine Jb ag ?_;rintro e L ⟨rfl,S⟩;have af:=H ((S.block _ O).trans aj);have ad:=H ((S.block _ O).trans ar);have ai:=H (Wx aD S);have ct:b<L.heap.size:=(Ja af).1;have cj:b+1<L.heap.size:=(Ja ad).1;have a2:JE L b 7=true:=by rw[Jw _ _ _ _ _ af.out];rfl
  have aX:JE L (b+1) 2=true:=by rw[Jw _ _ _ _ _ ad.out];rfl
  clear S;have T:=af;have R:=ad;go_wp2_with fail
  refine Eu (cs:=FB) (cs2:=#[Jbo,()]) (v:=.slice none 0 0) (u:=.int .i64 am) b (b+1) rfl rfl rfl rfl (Ju ((YU _ _ (by simp;omega)).trans ((Ja5 _ _ _ _ O).trans (JC T))) rfl) rfl ((YU _ _ (by simp;omega)).trans (JC ((Ja5 _ _ _ _ O).trans R))) rfl ?_;exact a9 _ (Below.all ((ai.trans (Jy JbW (Jbh N.symm))).trans (Jy #[Jbo,()] (by have:=N.out;omega))) _)
 have aC:Hid (O7 l=.tuple #[.agg (TR l),Jk 0]):=H (by unfold O7;rw[YH X])
 have cy:40<=n:=by
  unfold Zm at X;by_cases h:l.length<40
  ·rw[YH h] at X;cases X
  ·omega
 have bh:=Xw bl 4;have bE:=QC bl 6;have b6:=H (ba O);clear ba
 have ah:Hid (JT l=if (l.length:Int)<40+w2 l 4 then 10 else match XP l with
  | .err e=>e
  | .done _ _ _=>0):=H (by unfold JT;rw[Yw (by rw[X];decide)];cases XP l<;>rfl)
 have aW:Hid (JT l=10->∀d,Ji w d->BM w s l (.returned (.tuple #[.agg FB,.agg #[.slice none 0 0,Jq 0],Jbo,Jk 10])) d):=H (λh d ax=>.inl ⟨by rw[h];decide,by rw[h],ax⟩);have aK:Hid (XP l=By 17 [] (l.getD 6 0) 0 ((l.drop 40).take (w2 l 4).toNat)):=H rfl;have aP:Hid (TR l=(JbC (Jq (w4 l 0/1048576%256)) (Jp (w4 l 0%1048576)) (Jl (w2 l 4)) (Jq (l.getD 6 0)) (Jq (l.getD 7 0)) (.string (strOfNums ((l.drop 8).take 16))) (.string (strOfNums ((l.drop 24).take 16))):Array Value)):=H rfl;rw[aC.out,aP.out] at ag;clear X aC;generalize w4 l 0/1048576%256=j at*;generalize w4 l 0%1048576=t at*;generalize l.getD 7 0=A at*;generalize l.getD 6 0=y at*;generalize strOfNums ((l.drop 8).take 16)=B at*;generalize strOfNums ((l.drop 24).take 16)=C at*;obtain⟨g,bB⟩:∃bK:Nat,w2 l 4=(bK:Int):=⟨(w2 l 4).toNat,O⟩
 have b7:=H bB;rw[bB] at ag bh ah aK aP;rw[bZ] at ah;have cC:(0:Int)<=(g:Int):=O;have ck:(g:Int)<=65535:=O;clear bh;go_enter func85,ntmps85
 go_wp2_with fail
 rw[a6.out];rw[<-au] at aj ar bt|-;clear au;refine Jb ag ?_;rintro e Q ⟨rfl,S⟩;have Z:=WP Q (.cells (JbC j (Jp t) (Jl (g:Int)) y A (.string B) (.string C)) 109);have ak:=Below.all (Jc Q.heap.size Q) (.cells (JbC j (Jp t) (Jl (g:Int)) y A (.string B) (.string C)) 109);have al:=H ((S.block _ O).trans aj);have an:=H ((S.block _ O).trans ar);have aV:=H (Wx aD S);have a7:=H (aY.below S);have bm:b<Q.heap.size:=(Ja al).1;have bz:b+1<Q.heap.size:=(Ja an).1;have a2:JE Q b 7=true:=by rw[Jw _ _ _ _ _ al.out];rfl
 have aX:JE Q (b+1) 2=true:=by rw[Jw _ _ _ _ _ an.out];rfl
 clear S aj ar aD aY ag;by_cases b2:n<40+g
 ·have bH:decide ((n:Int)<40+(g:Int))=true:=by simp;omega
  have I:=H (aW (by rw[ah.out,YH O]));have T:=al;have R:=an;clear ah aW b2 Z ak;go_wp2_with fail
  refine Eu (cs:=FB) (cs2:=#[Jbo,()]) (v:=.slice none 0 0) (u:=.int .i64 10) b (b+1) rfl rfl rfl rfl (Ju ((YU _ _ (by simp;omega)).trans ((Ja5 _ _ _ _ O).trans (JC T))) rfl) rfl ((YU _ _ (by simp;omega)).trans (JC ((Ja5 _ _ _ _ O).trans R))) rfl ?_;exact I _ (Below.all ((aV.trans (Jy JbW (Jbh N.symm))).trans (Jy #[Jbo,()] (by have:=N.out;omega))) _)
 have bH:decide ((n:Int)<40+(g:Int))=false:=by simp;omega
 have aO:Hid (JT l=match XP l with
  | .err e=>e
  | .done _ _ _=>0):=H (by rw[ah.out,Yw O])
 have cn:=a7.le
 have hcut:∀w,(Instr.slice 22 (.slice s n o) (some (.int .i64 40)) (some (.int .i64 (40+(g:Int)))) none).run prog w=.ok (.slice (JQ s 40 o 1) g (o-40)) w:=λw=>by
  have:=QB (P:=prog) 22 s n o 1 elemBytes sizeBytes 40 (40+g) 40 (40+(g:Int)) rfl O O O w;rwa [show 40+g-40=g from O] at this
 clear ah aW Z;go_wp2_with fail
 obtain⟨ac,bo⟩:∃az,az=Q.heap.size:=⟨_,rfl⟩
 have Z:=WP Q (.cells (JbC j (Jp t) (Jl (g:Int)) y A (.string B) (.string C)) 109);rw[<-bo] at Z|-;generalize Q.alloc (.cells (JbC j (Jp t) (Jl (g:Int)) y A (.string B) (.string C)) 109)=L at*;have af:=H ((ak.block _ bm).trans al);have ad:=H ((ak.block _ bz).trans an);have ai:=H (Wx aV ak);have bx:=H (a7.below ak);have bp:=H Z;have cv:b+1<ac:=O;have cd:ac<L.heap.size:=(Ja Z).1;have a1:Hid (JA L (JQ s 40 o 1) g (o-40) ((l.drop 40).take g)):=H ((bx.cut 40 O).take g O)
 have bP:Hid (∀a,JQ s 40 o 1=some a->a.block<w.heap.size):=H (λa ha=>by
  obtain⟨j,aw,aB⟩:=CR _ _ _ _ _ ha;rw[<-aB];exact b1 j aw)
 have bO:=H (λa=>CR s 40 o 1 a);obtain⟨av,aq⟩:∃bM,(l.drop 40).take g=bM:=⟨_,rfl⟩
 have cg:=H aq;have bk:av.length=g:=by rw[<-aq,WR,W4];omega
 rw[aq] at a1;rw[Jak,aq] at aK;generalize JQ s 40 o 1=Y at*;generalize o-40=J at*;have bc:Jg L ac 3 (Jq y):=WF 3 Z;clear Z ak bo al an aV a7 bm bz a2 aX aq;have aL:=H (Md y Y g J av L b6 bE);rw[<-aK.out] at aL;have M:Hid (Xb l=(match XP l with| .err _=>[]| .done xs _ _=>xs)/\Xh l=(match XP l with| .err _=>0| .done _ p _=>p)/\U1 l=(match XP l with| .err _=>0| .done _ _ i=>i)):=H ⟨rfl,rfl,rfl⟩;have bw:Hid (Xk l=av.drop (U1 l)):=H (by unfold Xk;rw[b7.out,Jak,cg.out]);generalize XP l=b3 at*;clear aK;refine Jb aL ?_;intro e W bv;cases b3 with
 |err am=>
  obtain⟨rfl,aQ,G⟩:=bv;have I:=H aO.out;simp only at I;have b5:(am != 0)=true:=by simpa using aQ
  have a9:Hid (∀d,Ji w d->BM w s l (.returned (.tuple #[.agg FB,.agg #[.slice none 0 0,Jq 0],Jbo,Jk am])) d):=H (λd ax=>.inl ⟨by rw[I.out];exact aQ,by rw[I.out],ax⟩);have T:=H ((G.block _ O).trans af);have R:=H ((G.block _ O).trans ad);have aM:=H (Wx ai G);have l10:b<W.heap.size:=(Ja T).1;have cw:b+1<W.heap.size:=(Ja R).1;have a2:JE W b 7=true:=by rw[Jw _ _ _ _ _ T.out];rfl
  have aX:JE W (b+1) 2=true:=by rw[Jw _ _ _ _ _ R.out];rfl
  clear G aO aL M aQ bc;go_wp2_with fail
  refine Eu (cs:=FB) (cs2:=#[Jbo,()]) (v:=.slice none 0 0) (u:=.int .i64 am) b (b+1) rfl rfl rfl rfl (Ju ((YU _ _ (by simp;omega)).trans ((Ja5 _ _ _ _ O).trans (JC T))) rfl) rfl ((YU _ _ (by simp;omega)).trans (JC ((Ja5 _ _ _ _ O).trans R))) rfl ?_;exact a9 _ (Below.all ((aM.trans (Jy JbW (Jbh N.symm))).trans (Jy #[Jbo,()] (by have:=N.out;omega))) _)
 |done xs p i=>
  obtain⟨⟨r,z,rfl,a4⟩,G,bC,bq,bb,br⟩:=bv;have I:=H aO.out;simp only at I M;obtain⟨E,a0⟩:∃k,xs.length=k:=⟨_,rfl⟩
  have bX:=H a0;rw[a0];have bf:=H (J8.mono a4 (show w.heap.size<=L.heap.size from ai.size));have bi:Hid (∀a,r=some a->L.heap.size<=a.block):=H (λa ha=>(a4.lt ha).1);have T:=H ((G.block _ O).trans af);have R:=H ((G.block _ O).trans ad);have bA:=H ((G.block _ cd).trans bp);have aM:=H (Wx ai G);have a3:=H (a1.below G);have cu:=G.size;have aR:=H (And.intro bC (And.intro bq bb));clear G a4 bC bq bb aO aL bc a0 af ad bp ai bx a1;go_wp2_with fail
  have ab:=WP W (.cells #[.slice r E z,p] 161);have F:=Below.all (Jc W.heap.size W) (.cells #[.slice r E z,p] 161);obtain⟨V,bs⟩:∃az,az=W.heap.size:=⟨_,rfl⟩
  rw[<-bs] at ab|-;generalize W.alloc (.cells #[.slice r E z,p] 161)=ae at*;have bj:=H ((F.block _ O).trans T);have bu:=H ((F.block _ O).trans R);have bW:=H ((F.block _ O).trans bA);have a8:=H ab;have bT:=H (Wx aM F);have bN:=H (a3.below F);have ce:=H (J8.below bf F);have aI:V<ae.heap.size:=(Ja ab).1;have bD:ac<ae.heap.size:=O;have cB:ac<V:=O;have cp:=a3.le;have ca:∀w,(Instr.slice 22 (.slice Y g J) (some (.int .i64 (i:Int))) none none).run prog w=.ok (.slice (JQ Y i J 1) (g-i) (J-i)) w:=λw=>B4 _ Y g J 1 elemBytes sizeBytes i _ rfl br w
  have aS:=λa=>CR Y i J 1 a
  have bY:Hid (JA ae (JQ Y i J 1) (g-i) (J-i) (av.drop i)):=H (bN.cut i br)
  have bd:Hid (∀a,JQ Y i J 1=some a->a.block<w.heap.size):=H (λa ha=>by
   obtain⟨j,aw,aB⟩:=aS a ha;rw[<-aB];exact bP j aw)
  have bL:Hid (∀a,JQ Y i J 1=some a->∃j,s=some j/\j.block=a.block):=H (λa ha=>by
   obtain⟨t,aw,aB⟩:=aS a ha;obtain⟨bU,ci,bR⟩:=bO.out t aw;exact⟨bU,ci,bR.trans aB⟩)
  generalize JQ Y i J 1=ap at*;generalize J-i=ay at*;clear ab F bs T R bA aM a3 bf aS hcut;refine QN [.h,.h,.h,.h,.h] [(1,1,0),(2,2,0),(3,2,0),(4,2,0)] (λ_ d=>Jv d V 0 2=#[.slice r E z,.int .u8 p]) [2] [(.w,5),(.w,6),(.w,7),(.w,8)] K K K K ?_;apply Exists.intro;refine⟨λaN aa=>?_,?_,?_⟩
  ·have cA:ac<aN.heap.size:=Jd bD aa.size;have cl:V<aN.heap.size:=Jd aI aa.size;have cx:Jv aN ac 0 7=(JbC j (Jp t) (Jl (g:Int)) y A (.string B) (.string C):Array Value):=Ju ((aa.block ac bD).trans bW) rfl;have co:Jv aN V 0 2=#[.slice r E z,.int .u8 p]:=Ju ((aa.block V aI).trans a8) rfl;exact JcB
  ·intro q be cm aH;simp only[YE,YF,YG] at be;rcases be with rfl|rfl|rfl|rfl
   ·cases aH;exact⟨_,rfl,rfl,λw2 aJ=>LW _ w2 V #[.slice r E z,p] K aJ rfl⟩
   ·cases aH;exact⟨_,rfl,rfl,λw2 aJ=>K⟩
   ·cases aH;exact⟨_,rfl,rfl,λw2 aJ=>K⟩
   ·cases aH;exact⟨_,rfl,rfl,λw2 aJ=>by simp[execOp,go_sem,ca]⟩
  simp only[Qp,Ja0,Jbf];refine⟨λv U w2=>v=undef/\∃x:J2 ae,w2=x.world.setRow b (JbC j (Jp t) (Jl (g:Int)) y A (.string B) (.string C)),?_,?_,(λh=>by cases h),?_⟩
  ·rintro U rfl;refine JX.skip rfl ?_;rintro d ⟨⟨x,rfl⟩,-⟩;have aa:=(x.below.block b O).trans bj;exact⟨_,KC _ x.world b (JbC j (Jp t) (Jl (g:Int)) y A (.string B) (.string C)) K K (by rw[Jw _ _ _ _ _ aa];rfl) rfl rfl,x,rfl⟩
  ·rintro v U cc-w2 ⟨-,x,rfl⟩;exact Ju ((Ja5 _ _ _ _ O).trans ((x.below.block V aI).trans a8)) rfl
  rintro v ⟨ch,b9,rfl,-⟩;refine⟨λv U w2=>v=undef/\∃x:J2 ae,w2=(x.world.setRow b (JbC j (Jp t) (Jl (g:Int)) y A (.string B) (.string C))).setRow (b+1) #[.slice r E z,p],?_,?_,(λh=>by cases h),?_⟩
  ·rintro U rfl;refine JX.skip rfl ?_;rintro d ⟨-,x,rfl⟩;have aa:=(Ja5 x.world b (b+1) (JbC j (Jp t) (Jl (g:Int)) y A (.string B) (.string C)) O).trans ((x.below.block (b+1) O).trans bu);exact⟨_,KB _ _ (b+1) #[.slice r E z,p] K K (by rw[Jw _ _ _ _ _ aa];rfl) rfl rfl,x,rfl⟩
  ·rintro v U cc-w2 ⟨-,x,rfl⟩;exact Ju ((Ja5 _ _ _ _ O).trans ((Ja5 _ _ _ _ O).trans ((x.below.block V aI).trans a8))) rfl
  rintro v ⟨bQ,bF,rfl,-⟩;refine⟨λv U w2=>v=.slice ap (g-i) ay/\∃x:J2 ae,w2=(x.world.setRow b (JbC j (Jp t) (Jl (g:Int)) y A (.string B) (.string C))).setRow (b+1) #[.slice r E z,p],?_,λ_ _=>J4 rfl,(λh=>by cases h),?_⟩
  ·rintro U rfl;refine JX.made rfl ?_;rintro d ⟨-,a5⟩;exact⟨.slice ap (g-i) ay,d,K,rfl,a5⟩
  rintro v ⟨bV,bI,rfl,-⟩;refine⟨λv U w2=>v=.int .i64 0/\∃x:J2 ae,w2=(x.world.setRow b (JbC j (Jp t) (Jl (g:Int)) y A (.string B) (.string C))).setRow (b+1) #[.slice r E z,p],?_,λ_ _=>J4 rfl,(λh=>by cases h),?_⟩
  ·rintro U rfl;refine JX.made rfl ?_;rintro d ⟨-,a5⟩;exact⟨.int .i64 0,d,K,rfl,a5⟩
  rintro v ⟨b4,b8,rfl,-⟩;rintro cr ⟨-,x,rfl⟩;have bn:=(x.below.block b O).trans bj;have bg:=(x.below.block (b+1) O).trans bu;have cf:=H ((Ja5 (x.world.setRow b (JbC j (Jp t) (Jl (g:Int)) y A (.string B) (.string C))) (b+1) b #[.slice r E z,p] O).trans (JC bn));have bJ:=H (JC (cs:=#[.slice r E z,p]) ((Ja5 x.world b (b+1) (JbC j (Jp t) (Jl (g:Int)) y A (.string B) (.string C)) O).trans bg));have bS:Hid (Below w.heap.size w ((x.world.setRow b (JbC j (Jp t) (Jl (g:Int)) y A (.string B) (.string C))).setRow (b+1) #[.slice r E z,p])):=H (((Wx bT x.below).trans (Jy _ (Jbh N.symm))).trans (Jy _ (by have:=N.out;omega)));have bG:Hid (JA ((x.world.setRow b (JbC j (Jp t) (Jl (g:Int)) y A (.string B) (.string C))).setRow (b+1) #[.slice r E z,p]) ap (g-i) ay (av.drop i)):=H ((bY.below x.below).keep (by simp) (λa ha _=>(Ja5 _ _ _ _ (by have:=bd.out a ha;have:=N.out;omega)).trans (Ja5 _ _ _ _ (by have:=bd.out a ha;have:=N.out;omega))));have cb:Hid (Sc ((x.world.setRow b (JbC j (Jp t) (Jl (g:Int)) y A (.string B) (.string C))).setRow (b+1) #[.slice r E z,p]) w.heap.size r z xs):=H (J8.keep (J8.below ce x.below) (by simp) (λa ha=>(Ja5 _ _ _ _ (by have:=bi.out a ha;omega)).trans (Ja5 _ _ _ _ (by have:=bi.out a ha;omega))));clear bn bg ch bQ bV b4 b9 bF bI b8;generalize (x.world.setRow b (JbC j (Jp t) (Jl (g:Int)) y A (.string B) (.string C))).setRow (b+1) #[.slice r E z,p]=cq at*;go_wp2_with fail
  refine Eu (cs:=(JbC j (Jp t) (Jl (g:Int)) y A (.string B) (.string C))) (cs2:=#[.slice r E z,p]) (v:=.slice ap (g-i) ay) (u:=.int .i64 0) b (b+1) rfl rfl rfl rfl (Ju cf rfl) rfl bJ rfl (.inr ⟨by rw[I.out],r,z,ap,ay,?_,?_,?_,bS.out,?_,?_,?_,bL.out⟩)
  ·rw[aP.out,M.1,M.2.1,bw.out,M.2.2,bX.out,W4,bk]
  ·rw[M.1];exact cb
  ·rw[bw.out,M.2.2,W4,bk];exact bG
  ·rw[M.1];exact aR.out.1
  ·rw[M.1,M.2.1];exact aR.out.2.1
  ·rw[M.2.1];exact aR.out.2.2
theorem Me {e:Ending->World->Prop}{d:World}{a cs:Array Value}{v u x:Value}(b:Nat)(E:a.getD 2 undef=.pointer (some ⟨b,0,none⟩))(Y:a.getD 3 undef=v)(j:a.getD 4 undef=u)(g:a.getD 5 undef=x)(I:Jv d b 0 40=cs)(z:cs.size=40)(l:e (.returned (.tuple #[.agg cs,v,u,x])) d):
 bodyPost prog f40 e .ret { tmps:=a,defers:=[] } d:=
 Jag (v:=.tuple #[.agg cs,v,u,x]) (Fs rfl _ _ b 40 _ _ _ _ underlying40 rfl D1 E Y j g cs I z) rfl l
theorem Sd (s:Option Addr)(aC aK:Nat)(l:List Int)(w:World)(Y:JA w s aC aK l)(bo:aC<=100000)(aW:∀a,s=some a->a.block<w.heap.size)(ae:Tw l):
 Jf 40 #[.slice s aC aK] w (F0 w s (Xi l) (JT l)):=by
 have bO:=Y.len;have P:=WP w (.cells Z8 40);have I:Below w.heap.size w (w.alloc (.cells Z8 40)):=Below.all (Jc _ _) _;have W:=H (Y.alloc (.cells Z8 40));have aq:=H Y.byte;unfold Z8 at P I W;clear Y;go_enter func40,ntmps40
 go_wp2_with fail
 obtain⟨e,ax⟩:∃aF,aF=w.heap.size:=⟨_,rfl⟩
 rw[<-ax] at P|-;have bq:=H ax;generalize w.alloc (.cells (Jbx false false (Jk 0) false) 40)=aP at*;have bc:w.heap.size<=e:=O;clear ax;have bT:=I.size;have bn:Hid (∀a,s=some a->a.block<e):=H (λa ha=>by have:=aW a ha;omega);refine Jb (NH _ _ _ _ _ W bo (λa ha=>by have:=aW a ha;omega) ae) ?_;rintro bC V (⟨X,rfl,g⟩|⟨X,y,z,E,J,rfl,aZ,a4,g,a7,a5,bb,am⟩)
 ·have R:=H (Wx I g);have B:=H ((g.block e (Ja P).1).trans P);have bp:e<V.heap.size:=(Ja B).1;have bG:e<V.heap.size+1:=O;have bQ:JE V e 40=true:=by rw[Jw _ _ _ _ _ B.out];rfl
  have bv:=H X;have bR:(JT l != 0)=true:=by simpa using X
  clear g P I W X;generalize JT l=bg at*;unfold FB;go_wp2_with fail
  refine Me (cs:=Z8) (v:=.slice none 0 0) (u:=.bool false) (x:=.int .i64 bg) e rfl rfl rfl rfl ?_ rfl (.inl ⟨bv.out,rfl,?_⟩)
  ·exact Ju ((YU _ _ (by simpa using bG)).trans ((YU _ _ (by simpa using bp)).trans (JC B))) rfl
  ·exact Below.all (Below.all (R.trans (Jy _ bc)) _) _
 have bi:=H am;have ak:=H aZ;have ag:=H a4
 have bf:Hid (∀a,E=some a->a.block≠e):=H (λa ha=>by
  obtain⟨bh,j,bV⟩:=am a ha;have:=bn.out bh j;omega)
 have R:=H (Wx I g);have B:=H ((g.block e (Ja P).1).trans P);have bm:=H a7;have bN:=H a5;have bu:=H X;have aV:Hid (Xi l=⟨true,Qj ((l.drop 8).take 16),Qj ((l.drop 24).take 16),Xh l,40+w2 l 4,decide (0<A8 (Xb l)),Aa (Xb l),Xk l⟩):=H rfl
 have a6:40<=l.length:=by
  have j:Zm l=0:=by
   unfold JT at X;by_cases h:Zm l=0
   ·exact h
   ·rw[YH h] at X;exact X
  unfold Zm at j;by_cases h:l.length<40
  ·rw[YH h] at j;cases j
  ·omega
 have a1:Xb l=[]:=by unfold Xb XP;rw[EX (ae a6)]
 have af:Hid (∀d,Sc d aP.heap.size y z (Xb l)->Jf 86 #[.agg #[.slice y (Xb l).length z,Jq (Xh l)]] d (CV d (Xb l))):=H (λd h=>by rw[a1];exact PF y z _ d);have aB:Hid (((l.drop 8).take 16).length=16/\JF ((l.drop 8).take 16)):=H ⟨by rw[WR,W4];omega,QL (Qv aq _) _⟩;have an:Hid (((l.drop 24).take 16).length=16/\JF ((l.drop 24).take 16)):=H ⟨by rw[WR,W4];omega,QL (Qv aq _) _⟩;have aY:Hid (∀d,Jf 84 #[.string (strOfNums ((l.drop 8).take 16))] d (Jz d (adV true (Qj ((l.drop 8).take 16))))):=H (λd=>G1 _ aB.2 aB.1 d);have aQ:Hid (∀d,Jf 84 #[.string (strOfNums ((l.drop 24).take 16))] d (Jz d (adV true (Qj ((l.drop 24).take 16))))):=H (λd=>G1 _ an.2 an.1 d);have ai:=Xw aq 4;unfold adV at aY aQ;clear a7 a5 aZ a4 g P I W X a6 a1 ae aB an am bb;unfold TR;generalize Qj ((l.drop 8).take 16)=Z at*;generalize Qj ((l.drop 24).take 16)=b at*;generalize strOfNums ((l.drop 8).take 16)=au at*;generalize strOfNums ((l.drop 24).take 16)=av at*;generalize w2 l 4=t at*;generalize w4 l 0/1048576%256=al at*;generalize w4 l 0%1048576=aD at*;generalize l.getD 6 0=aI at*;generalize l.getD 7 0=aG at*;generalize Xh l=o at*;obtain⟨C,a3⟩:∃C,Xb l=C:=⟨_,rfl⟩
 rw[a3] at ak af aV bm|-;clear a3;obtain⟨ab,ap⟩:∃k,C.length=k:=⟨_,rfl⟩
 have bD:=H ap;have a0:Hid (∀d,Sc d aP.heap.size y z C->Jf 86 #[.agg #[.slice y ab z,Jq o]] d (CV d C)):=H (λd h=>by rw[<-bD.out];exact af d h);rw[ap];clear ap af;generalize Xk l=aj at*;obtain⟨S,ad⟩:∃k,aj.length=k:=⟨_,rfl⟩
 have aN:=H ad;rw[ad] at ag|-;clear ad;go_wp2_with fail
 obtain⟨n,aw⟩:∃aF,aF=V.heap.size:=⟨_,rfl⟩
 have U:=WP V (.cells (JbC al (Jp aD) (Jl t) aI aG (.string au) (.string av)) 109);have ar:=Below.all (Jc V.heap.size V) (.cells (JbC al (Jp aD) (Jl t) aI aG (.string au) (.string av)) 109);obtain⟨L,ah⟩:∃x,V.alloc (.cells (JbC al (Jp aD) (Jl t) aI aG (.string au) (.string av)) 109)=x:=⟨_,rfl⟩
 have a2:L.heap.size=n+1:=by rw[<-ah,aw];simp
 rw[ah] at U ar|-;have aA:=WP L (.cells #[.slice y ab z,o] 161);have aa:=Below.all (Jc L.heap.size L) (.cells #[.slice y ab z,o] 161);obtain⟨bX,ay⟩:∃x,L.alloc (.cells #[.slice y ab z,o] 161)=x:=⟨_,rfl⟩
 rw[ay,a2] at aA;rw[ay] at aa|-;rw[<-aw] at U|-;have M:=Wx ar aa;have az:=H ((M.block e (Ja B).1).trans B);have aE:=H ((aa.block n O).trans U);have aH:=H aA;have aO:=H (Wx R M);have aL:=H (ag.below M);have aJ:=H (J8.below ak M);clear U ar ah aA aa ay M a2 aw R ag ak B;refine Jb (a0 _ aJ) ?_;rintro bC w4 ⟨⟨id,ok,rfl⟩,G⟩;generalize A8 C=F at*;generalize Aa C=ao at*;have Q:=H ((G.block e (Ja az).1).trans az);have ac:=H ((G.block n (Ja aE).1).trans aE);have aT:=H ((G.block (n+1) (Ja aH).1).trans aH);have aX:=H (Wx aO G);have aS:=H (aL.below G);clear G az aE aH aO aL aJ a0;have T:n<w4.heap.size:=(Ja ac).1;have aR:n+1<w4.heap.size:=(Ja aT).1;have bk:=WF 2 ac;have bE:=WF 5 ac;have be:=WF 6 ac;have ba:=WF 1 aT;have bY:=ai.1;have bJ:=ai.2;clear ai;go_wp2_with fail
 refine QN [.h,.h,.h,.h,.h,.h,.h,.h,.h,.h,.h,.h,.h,.h,.h,.h,.h,.h] [(16,1,0),(17,2,0)] (λ_ _=>True) [2] [(.w,18),(.w,19),(.w,20),(.w,21)] K K K K ?_;apply Exists.intro;refine⟨λa8 A=>?_,?_,?_⟩
 ·have bI:n<a8.heap.size:=Jd T A.size;have bL:n+1<a8.heap.size:=Jd aR A.size;have bH:=(JK A T (⟨n,2,none⟩:Addr) rfl).trans bk;have bK:=(JK A T (⟨n,5,none⟩:Addr) rfl).trans bE;have bS:=(JK A T (⟨n,6,none⟩:Addr) rfl).trans be;have bW:=(JK A aR (⟨n+1,1,none⟩:Addr) rfl).trans ba;simp only[JW];repeat go_big_quiet_step ((first|(with_reducible exact JD (aY.out _))|(with_reducible exact JD (aQ.out _))))
  exact Jaa rfl
 ·intro q aM bM aU;simp only[YE,YF,YG] at aM;rcases aM with rfl|rfl
  ·cases aU;exact⟨_,rfl,rfl,λw2 bs=>K⟩
  ·cases aU;exact⟨_,rfl,rfl,λw2 bs=>K⟩
 simp only[Qp,Ja0,Jbf];refine⟨λv r w2=>v=undef/\∃x:J2 w4,w2=x.world.setRow e (Jbv true true o (Jk (40+t)) (.bool (decide (0<F))) Z b),?_,?_,(λh=>by cases h),?_⟩
 ·rintro r rfl;refine JX.skip rfl ?_;rintro d ⟨⟨x,rfl⟩,-⟩;have A:=(x.below.block e (Ja Q).1).trans Q;exact⟨_,Ei _ x.world e (Jbv true true o (Jk (40+t)) (.bool (decide (0<F))) Z b) K K (by rw[Jw _ _ _ _ _ A];rfl) rfl rfl,x,rfl⟩
 ·rintro v r bA-w2-;trivial
 rintro v ⟨bF,bx,rfl,-⟩;refine⟨λv r w2=>v=.slice E S J/\∃x:J2 w4,w2=x.world.setRow e (Jbv true true o (Jk (40+t)) (.bool (decide (0<F))) Z b),?_,?_,(λh=>by cases h),?_⟩
 ·rintro r rfl;refine JX.made rfl ?_;rintro d ⟨-,N⟩;exact⟨.slice E S J,d,K,rfl,N⟩
 ·rintro v r bA-w2-;trivial
 rintro v ⟨bj,a9,rfl,-⟩;refine⟨λv r w2=>v=.bool ao/\∃x:J2 w4,w2=x.world.setRow e (Jbv true true o (Jk (40+t)) (.bool (decide (0<F))) Z b),?_,λ_ _=>J4 rfl,(λh=>by cases h),?_⟩
 ·rintro r rfl;refine JX.made rfl ?_;rintro d ⟨-,N⟩;exact⟨.bool ao,d,K,rfl,N⟩
 rintro v ⟨bl,bd,rfl,-⟩;refine⟨λv r w2=>v=.int .i64 0/\∃x:J2 w4,w2=x.world.setRow e (Jbv true true o (Jk (40+t)) (.bool (decide (0<F))) Z b),?_,λ_ _=>J4 rfl,(λh=>by cases h),?_⟩
 ·rintro r rfl;refine JX.made rfl ?_;rintro d ⟨-,N⟩;exact⟨.int .i64 0,d,K,rfl,N⟩
 rintro v ⟨br,bw,rfl,-⟩;rintro bP ⟨-,x,rfl⟩;have bB:=H (Wx aX x.below);have bz:=H (aS.below x.below);have bt:=H ((x.below.block e (Ja Q).1).trans Q);clear aX aS Q bF bx bj a9 bl bd br bw;generalize x.world=bU at*;go_wp2_with fail
 refine Me (cs:=(Jbv true true o (Jk (40+t)) (.bool (decide (0<F))) Z b)) (v:=.slice E S J) (u:=.bool ao) (x:=.int .i64 0) e rfl rfl rfl rfl (Ju (JC bt) rfl) rfl ?_;show F0 w s (Xi l) (JT l) _ _;rw[aV.out,bu.out];refine .inr ⟨rfl,E,J,?_,?_,bB.trans (Jy _ (Jbh bq.symm)),bi.out⟩
 ·show Ending.returned (.tuple #[_,.slice E S J,_,_])=.returned (.tuple #[_,.slice E aj.length J,_,_]);rw[aN.out];rfl
 ·show JA _ _ aj.length _ _;rw[aN.out];exact bz.keep (by simp) (λa ha _=>Ja5 _ _ _ _ (bf a ha))
theorem Jdn{p:Prop}(h:p:=by
 have d:=H P;have b:Hid (Below w.heap.size w (w.alloc (.cells (Jbx false false (Jk 0) false) 40))):=H (Below.all (Jc _ _) _);clear P u;go_enter func12,ntmps12
 go_wp2_with fail
 exact ZQ (cs:=Z8) w.heap.size rfl rfl (Ju d rfl) rfl a b):p:=h
theorem ZQ {w d:World}{e:Value}{a cs:Array Value}{err:Int}(b:Nat)(E:a.getD 2 undef=.pointer (some ⟨b,0,none⟩))(Y:a.getD 3 undef=.int .i64 err)(I:Jv d b 0 40=cs)(z:cs.size=40)(j:e=.tuple #[.agg cs,Jk err])(g:Ji w d):
 bodyPost prog f12 (Jz w e) .ret { tmps:=a,defers:=[] } d:=
 Jag (v:=.tuple #[.agg cs,Jk err]) (QS rfl _ _ b 40 _ _ underlying40 rfl D1 E Y cs I z) rfl (.mk j.symm g)
theorem KN (s:Option Addr)(n o:Nat)(l:List Int)(w:World)(u:JA w s n o l)(B:2048<n):
 Jf 12 #[.slice s n o] w (Jz w (pkR l)):=by
 have g:=u.len;have L:decide ((n:Int)>2048)=true:=by simp;omega
 have a:=H (XJ (l:=l) (err:=3) (by unfold Q1;rw[YH O]) D);have P:=WP w (.cells (Jbx false false (Jk 0) false) 40);have e:JE (w.alloc (.cells (Jbx false false (Jk 0) false) 40)) w.heap.size 40=true:=by rw[Jw _ _ _ _ _ P];rfl
 exact Jdn
theorem Mf (s:Option Addr)(n o:Nat)(l:List Int)(w:World)(u:JA w s n o l)(B:n=0):
 Jf 12 #[.slice s n o] w (Jz w (pkR l)):=by
 have j:=u.len;have L:decide ((n:Int)>2048)=false:=by simp;omega
 have e:((n:Int)==0)=true:=by simp;omega
 have a:=H (XJ (l:=l) (err:=10) (by unfold Q1;rw[Yw O,YH O]) D);have P:=WP w (.cells (Jbx false false (Jk 0) false) 40);have g:JE (w.alloc (.cells (Jbx false false (Jk 0) false) 40)) w.heap.size 40=true:=by rw[Jw _ _ _ _ _ P];rfl
 exact Jdn
theorem E7 (s:Option Addr)(n o:Nat)(l:List Int)(w:World)(u:JA w s n o l)(I:0<n)(Z:n<=2048)(A:¬l.getD 0 0/16=4/\¬l.getD 0 0/16=6):
 Jf 12 #[.slice s n o] w (Jz w (pkR l)):=by
 obtain⟨r,ad,rfl,ac,G⟩:=u.here I;have E:=G 0 I;have M:=QC u.byte 0;have ag:=H u.byte;have ah:=u.len;rw[Jal] at E;obtain⟨e,v⟩:∃x:Nat,l.getD 0 0=(x:Int):=⟨(l.getD 0 0).toNat,O⟩
 have N:=H v;rw[v] at E M A;have L:decide ((n:Int)>2048)=false:=by simp;omega
 have ab:((n:Int)==0)=false:=by simp;omega
 have af:(0:Int)<(n:Int):=O;have T:r<w.heap.size+1:=O;have S:Int.tdiv (e:Int) 16=(e:Int)/16:=Jaw O;have B:=WP w (.cells (Jbx false false (Jk 0) false) 40);have z:=Below.all (Jc w.heap.size w) (.cells (Jbx false false (Jk 0) false) 40);obtain⟨a,j⟩:∃x,w.alloc (.cells (Jbx false false (Jk 0) false) 40)=x:=⟨_,rfl⟩
 have p:a.heap.size=w.heap.size+1:=by rw[<-j];simp
 rw[j] at B z;have t:=WP a (.cells (Jbx false false (Jk 0) false) 40);have g:=Below.all (Jc a.heap.size a) (.cells (Jbx false false (Jk 0) false) 40);obtain⟨V,d⟩:∃x,a.alloc (.cells (Jbx false false (Jk 0) false) 40)=x:=⟨_,rfl⟩
 rw[d,p] at t;rw[d] at g;have y:Hid ((w.alloc (.cells (Jbx false false (Jk 0) false) 40)).alloc (.cells (Jbx false false (Jk 0) false) 40)=V):=H (by rw[j,d]);have F:Hid (Ji w V):=H (Wx z g);have X:=H (u.below F);have C:=H ((g.block _ O).trans B);have ae:=H t;have aa:V.heap.size=w.heap.size+2:=by rw[<-d];simp[p]
 obtain⟨J,Q⟩:∃b,b=w.heap.size:=⟨_,rfl⟩
 have U:=H Q;clear B z j p t g d u G v;have R:((e:Int)/16==4)=false:=by simpa using A.1
 have ai:((e:Int)/16==6)=false:=by simpa using A.2
 have P:=H (XJ (l:=l) (err:=50) (by unfold Q1;rw[Yw O,Yw O,N.out,Yw A.1,Yw A.2]) D);have Y:J<V.heap.size:=O;have W:JE ((w.alloc (.cells (Jbx false false (Jk 0) false) 40)).alloc (.cells (Jbx false false (Jk 0) false) 40)) w.heap.size 40=true:=by rw[y.out,Jw _ _ _ _ _ C.out];rfl
 clear A;go_enter func12,ntmps12
 go_wp2_with fail
 refine ZQ (cs:=Z8) w.heap.size rfl rfl ?_ rfl P ?_
 ·rw[y.out];exact Ju C rfl
 ·rw[y.out];exact F
theorem Jeh{p:Prop}(h:p:=by
 clear P Y X;go_wp2_with fail
 exact ZQ (cs:=Z8) e rfl rfl (Ju (JC ai) rfl) rfl ay (aK.trans (Jy _ (Jbh v.symm)))):p:=h
theorem Mg (aW:Option Addr)(n aI:Nat)(l:List Int)(w:World)(u:JA w aW n aI l)(aS:0<n)(bk:n<=2048)(A:l.getD 0 0/16=4):
 Jf 12 #[.slice aW n aI] w (Jz w (pkR l)):=by
 obtain⟨r,aR,rfl,ag,aV⟩:=u.here aS;have N:=aV 0 aS;have a5:=QC u.byte 0;have bl:=H u.byte;have bt:=u.len;rw[Jal] at N;obtain⟨ad,aG⟩:∃x:Nat,l.getD 0 0=(x:Int):=⟨(l.getD 0 0).toNat,O⟩
 have aO:=H aG;rw[aG] at N a5 A;have bi:decide ((n:Int)>2048)=false:=by simp;omega
 have bw:((n:Int)==0)=false:=by simp;omega
 have bm:(0:Int)<(n:Int):=O;have aF:r<w.heap.size+1:=O;have bh:Int.tdiv (ad:Int) 16=(ad:Int)/16:=Jaw O;have aq:=WP w (.cells (Jbx false false (Jk 0) false) 40);have aw:=Below.all (Jc w.heap.size w) (.cells (Jbx false false (Jk 0) false) 40);obtain⟨R,ac⟩:∃x,w.alloc (.cells (Jbx false false (Jk 0) false) 40)=x:=⟨_,rfl⟩
 have ar:R.heap.size=w.heap.size+1:=by rw[<-ac];simp
 rw[ac] at aq aw;have aA:=WP R (.cells (Jbx false false (Jk 0) false) 40);have af:=Below.all (Jc R.heap.size R) (.cells (Jbx false false (Jk 0) false) 40);obtain⟨ae,U⟩:∃x,R.alloc (.cells (Jbx false false (Jk 0) false) 40)=x:=⟨_,rfl⟩
 rw[U,ar] at aA;rw[U] at af;have bd:Hid ((w.alloc (.cells (Jbx false false (Jk 0) false) 40)).alloc (.cells (Jbx false false (Jk 0) false) 40)=ae):=H (by rw[ac,U]);have Q:Hid (Ji w ae):=H (Wx aw af);have av:=H (u.below Q);have T:=H ((af.block _ O).trans aq);have S:=H aA;have aD:ae.heap.size=w.heap.size+2:=by rw[<-U];simp[ar]
 obtain⟨e,ax⟩:∃a9,a9=w.heap.size:=⟨_,rfl⟩
 have v:=H ax;clear aq aw ac ar aA af U u aV aG;have bg:((ad:Int)/16==4)=true:=by simp[A]
 have bo:((ad:Int)/16==6)=false:=by simp[A]
 have aa:Hid (Q1 l=if JR l≠0 then JR l else (BW (QP l)).err):=H (by unfold Q1;rw[Yw O,Yw O,aO.out,A];rw[YH rfl]);have M:Hid (Q1 l=0->Hg l=OW (QP l) (BW (QP l))):=H (λh=>by unfold Hg;rw[h,Yw D,aO.out,A];rfl);clear A;go_enter func12,ntmps12
 go_wp2_with fail
 rw[bd.out];rw[<-ax] at T S aD aF|-;clear ax;refine Jb (PD _ _ _ _ ae av O) ?_;rintro be s (⟨X,rfl,g⟩|⟨X,V,al,rfl,aU,g,aM⟩)
 ·have a6:=H (XJ (l:=l) (err:=JR l) (by rw[aa.out,YH X]) X);have a7:(JR l != 0)=true:=by simpa using X
  have B:=H ((g.block e O).trans T);have z:=H ((g.block (e+1) O).trans S);have I:=H (Wx Q g);have aC:e<s.heap.size:=(Ja B).1;have ao:e+1<s.heap.size:=(Ja z).1;have aB:JE s e 40=true:=by rw[Jw _ _ _ _ _ B.out];rfl
  have aQ:JE s (e+1) 40=true:=by rw[Jw _ _ _ _ _ z.out];rfl
  have aP:r<s.heap.size:=O;have aJ:=(JK I ag (⟨r,aR,none⟩:Addr) rfl).trans N;have ba:r≠e+1:=by have:=v.out;omega
  clear g X T S Q av aa M N ag aF aD;generalize JR l=bp at*;unfold Z8;go_wp2_with fail
  exact ZQ (cs:=Z8) e rfl rfl (Ju (JC ((Ja5 _ _ _ _ O).trans B)) rfl) rfl a6 ((I.trans (Jy _ (by have:=v.out;omega))).trans (Jy _ (Jbh v.symm)))
 have W:Hid (Q1 l=(BW (QP l)).err):=H (by rw[aa.out,Yw (by rw[X];decide)]);have aN:Hid ((QP l).six=false):=H rfl;have aE:=H (Ov l);have B:=H ((g.block e O).trans T);have z:=H ((g.block (e+1) O).trans S);have I:=H (Wx Q g);have aC:e<s.heap.size:=(Ja B).1;have ao:e+1<s.heap.size:=(Ja z).1;have aB:JE s e 40=true:=by rw[Jw _ _ _ _ _ B.out];rfl
 have aQ:JE s (e+1) 40=true:=by rw[Jw _ _ _ _ _ z.out];rfl
 have aP:r<s.heap.size:=O;have aJ:=(JK I ag (⟨r,aR,none⟩:Addr) rfl).trans N;have ba:r≠e+1:=by have:=v.out;omega
 have ak:=H aU
 have aY:Hid (∀a,V=some a->a.block≠e+1):=H (λa ha=>by
  obtain⟨bq,a4,bb⟩:=aM a ha;cases a4;simp only at bb;omega)
 clear g X T S Q av aa N ag aF aD aU aM;unfold pkO;generalize QP l=a0 at*;obtain⟨a1,Z,b,p,j,G,t,o⟩:=a0;simp only at aN aE W M ak|-;obtain rfl:a1=false:=aN.out;obtain⟨ab,aH⟩:∃n,o.length=n:=⟨_,rfl⟩
 rw[aH] at ak aE|-;clear aH;have ah:Hid (BW ⟨false,Z,b,p,j,G,t,o⟩=if (J1 p||Qb p)&&!G then (if t then J3 p o else JV p o) else ⟨0,0,0,0⟩):=H rfl;have aZ:Jv (s.setRow (e+1) (Jbv false false p (Jk j) G Z b)) (e+1) 0 40=(Jbv false false p (Jk j) G Z b:Array Value):=Ju (JC z) rfl;have aX:=WF 39 (JC (cs:=(Jbv false false p (Jk j) G Z b)) z);have bf:=WF 34 (JC (cs:=(Jbv false false p (Jk j) G Z b)) z);cases G;rotate_left
 ·have L:BW ⟨false,Z,b,p,j,true,t,o⟩=⟨0,0,0,0⟩:=by rw[ah.out];simp
  have az:Q1 l=0:=by rw[W.out,L]
  have P:Hid (pkR l=.tuple #[.agg (Jbv false false p (Jk j) true Z b:Array Value),Jk 0]):=H (by unfold pkR;rw[az,M.out az,L];rfl);clear L az ah W M;go_wp2_with fail
  exact ZQ (cs:=(Jbv false false p (Jk j) true Z b)) e rfl rfl (Ju (JC ((Ja5 _ _ _ _ O).trans B)) rfl) rfl P ((I.trans (Jy _ (by have:=v.out;omega))).trans (Jy _ (Jbh v.symm)))
 have L:BW ⟨false,Z,b,p,j,false,t,o⟩=AU p o (!t):=by
  rw[ah.out];unfold AU;cases t<;>simp
 have Y:Hid (Q1 l=(AU p o (!t)).err):=H (by rw[W.out,L]);have P:Hid (Q1 l=0->pkR l=.tuple #[.agg (Jbt false false p (Jl (AU p o (!t)).src) (Jl (AU p o (!t)).dst) (Jk j) (Jq (AU p o (!t)).flags) false Z b:Array Value),Jk 0]):=H (λh=>by unfold pkR;rw[h,M.out h,L];rfl);have aL:Hid (∀d,JA d V ab al o->Jf 41 #[p,.slice V ab al,.bool (!t)] d (Jz d (upV (AU p o (!t))))):=H (λd h=>Io p V ab al o (!t) d h (by have:=aE.out;omega));clear L ah W M;go_wp2_with fail
 have am:=H ((Ja5 s (e+1) e (Jbv false false p (Jk j) false Z b) O).trans B);have aj:=H (JC (cs:=(Jbv false false p (Jk j) false Z b)) z);have ap:Hid (Below w.heap.size w (s.setRow (e+1) (Jbv false false p (Jk j) false Z b))):=H (I.trans (Jy _ (by have:=v.out;omega)));have au:Hid (JA (s.setRow (e+1) (Jbv false false p (Jk j) false Z b)) V ab al o):=H (ak.keep (by simp) (λa ha _=>Ja5 _ _ _ _ (aY a ha)));clear aB aQ aC ao aZ aX bf B z I ak aJ aP;generalize s.setRow (e+1) (Jbv false false p (Jk j) false Z b)=br at am aj ap au|-;refine Jb (aL _ au) ?_;rintro be E ⟨rfl,an⟩;have ai:=H ((an.block e (Ja am).1).trans am);have F:=H ((an.block (e+1) (Ja aj).1).trans aj);have aK:=H (Wx ap an);generalize AU p o (!t)=a3 at*;obtain⟨aT,y,C,J⟩:=a3;simp only at Y P;unfold upV;have aC:e<E.heap.size:=(Ja ai).1;have aB:JE E e 40=true:=by rw[Jw _ _ _ _ _ ai.out];rfl
 clear an am aj ap au aL;by_cases X:aT=0
 rotate_left
 ·have ay:=H (XJ (l:=l) Y X);have a7:(aT != 0)=true:=by simpa using X
  exact Jeh
 subst X;have ay:=H (P Y);clear P Y;have ao:e+1<E.heap.size:=(Ja F).1;have bn:=Jad _ _ 35 _ _ F;have bu:=Jad _ _ 36 _ _ F;have bv:=Jad _ _ 38 _ _ F;have bz:=WF 35 F;have bs:=WF 36 F;have bx:=WF 38 F;have a8:=H ((Jae _ (e+1) 38 (Jct false false p (Jl y) (Jl C) (Jk j) false Z b) _ (Jq J) ((Jae _ (e+1) 36 (Jcu false false p (Jl y) (Jk j) false Z b) _ (Jl C) ((Jae _ (e+1) 35 _ _ (Jl y) F).trans rfl)).trans rfl)).trans (rfl:_=some (Obj.cells (Jbt false false p (Jl y) (Jl C) (Jk j) J false Z b) 40 (0,0))));have bj:Jv (((E.setCell ⟨e+1,35,none⟩ (Jl y)).setCell ⟨e+1,36,none⟩ (Jl C)).setCell ⟨e+1,38,none⟩ (Jq J)) (e+1) 0 40=(Jbt false false p (Jl y) (Jl C) (Jk j) J false Z b:Array Value):=Ju a8 rfl;have bc:=H ((YX ((E.setCell ⟨e+1,35,none⟩ (Jl y)).setCell ⟨e+1,36,none⟩ (Jl C)) ⟨e+1,38,none⟩ e (Jq J) (by show e≠e+1;omega)).trans ((YX (E.setCell ⟨e+1,35,none⟩ (Jl y)) ⟨e+1,36,none⟩ e (Jl C) (by show e≠e+1;omega)).trans ((YX E ⟨e+1,35,none⟩ e (Jl y) (by show e≠e+1;omega)).trans ai)));have a2:Hid (Below w.heap.size w (((E.setCell ⟨e+1,35,none⟩ (Jl y)).setCell ⟨e+1,36,none⟩ (Jl C)).setCell ⟨e+1,38,none⟩ (Jq J))):=H (((aK.setCell (p:=⟨e+1,35,none⟩) (by have:=v.out;show w.heap.size<=e+1;omega) _).setCell (p:=⟨e+1,36,none⟩) (by have:=v.out;show w.heap.size<=e+1;omega) _).setCell (p:=⟨e+1,38,none⟩) (by have:=v.out;show w.heap.size<=e+1;omega) _);go_wp2_with fail
 exact ZQ (cs:=(Jbt false false p (Jl y) (Jl C) (Jk j) J false Z b)) e rfl rfl (Ju (JC bc) rfl) rfl ay (a2.trans (Jy _ (Jbh v.symm)))
theorem NI (aW:Option Addr)(n aI:Nat)(l:List Int)(w:World)(u:JA w aW n aI l)(aS:0<n)(bl:n<=2048)(A:l.getD 0 0/16=6)(aX:Tw l):
 Jf 12 #[.slice aW n aI] w (Jz w (pkR l)):=by
 obtain⟨r,aR,rfl,ag,aV⟩:=u.here aS;have N:=aV 0 aS;have a6:=QC u.byte 0;have bm:=H u.byte;have bu:=u.len;rw[Jal] at N;obtain⟨ad,aG⟩:∃x:Nat,l.getD 0 0=(x:Int):=⟨(l.getD 0 0).toNat,O⟩
 have aO:=H aG;rw[aG] at N a6 A;have bj:decide ((n:Int)>2048)=false:=by simp;omega
 have bx:((n:Int)==0)=false:=by simp;omega
 have bn:(0:Int)<(n:Int):=O;have aF:r<w.heap.size+1:=O;have bi:Int.tdiv (ad:Int) 16=(ad:Int)/16:=Jaw O;have aq:=WP w (.cells (Jbx false false (Jk 0) false) 40);have aw:=Below.all (Jc w.heap.size w) (.cells (Jbx false false (Jk 0) false) 40);obtain⟨R,ac⟩:∃x,w.alloc (.cells (Jbx false false (Jk 0) false) 40)=x:=⟨_,rfl⟩
 have ar:R.heap.size=w.heap.size+1:=by rw[<-ac];simp
 rw[ac] at aq aw;have aA:=WP R (.cells (Jbx false false (Jk 0) false) 40);have af:=Below.all (Jc R.heap.size R) (.cells (Jbx false false (Jk 0) false) 40);obtain⟨ae,U⟩:∃x,R.alloc (.cells (Jbx false false (Jk 0) false) 40)=x:=⟨_,rfl⟩
 rw[U,ar] at aA;rw[U] at af;have be:Hid ((w.alloc (.cells (Jbx false false (Jk 0) false) 40)).alloc (.cells (Jbx false false (Jk 0) false) 40)=ae):=H (by rw[ac,U]);have Q:Hid (Ji w ae):=H (Wx aw af);have av:=H (u.below Q);have T:=H ((af.block _ O).trans aq);have S:=H aA;have aD:ae.heap.size=w.heap.size+2:=by rw[<-U];simp[ar]
 obtain⟨e,ax⟩:∃ba,ba=w.heap.size:=⟨_,rfl⟩
 have v:=H ax;clear aq aw ac ar aA af U u aV aG;have bh:((ad:Int)/16==4)=false:=by simp[A]
 have bp:((ad:Int)/16==6)=true:=by simp[A]
 have aa:Hid (Q1 l=if JT l≠0 then JT l else (BW (Xi l)).err):=H (by unfold Q1;rw[Yw O,Yw O,aO.out,A];rw[Yw D,YH rfl]);have M:Hid (Q1 l=0->Hg l=OW (Xi l) (BW (Xi l))):=H (λh=>by unfold Hg;rw[h,Yw D,aO.out,A];rfl);clear A;go_enter func12,ntmps12
 go_wp2_with fail
 rw[be.out];rw[<-ax] at T S aD aF|-;clear ax;refine Jb (Sd _ _ _ _ ae av O (λa ha=>by cases ha;show r<_;omega) aX) ?_;rintro bf s (⟨X,rfl,g⟩|⟨X,V,al,rfl,aU,g,aM⟩)
 ·have a7:=H (XJ (l:=l) (err:=JT l) (by rw[aa.out,YH X]) X);have a8:(JT l != 0)=true:=by simpa using X
  have B:=H ((g.block e O).trans T);have z:=H ((g.block (e+1) O).trans S);have I:=H (Wx Q g);have aC:e<s.heap.size:=(Ja B).1;have ao:e+1<s.heap.size:=(Ja z).1;have aB:JE s e 40=true:=by rw[Jw _ _ _ _ _ B.out];rfl
  have aQ:JE s (e+1) 40=true:=by rw[Jw _ _ _ _ _ z.out];rfl
  have aP:r<s.heap.size:=O;have aJ:=(JK I ag (⟨r,aR,none⟩:Addr) rfl).trans N;have bb:r≠e+1:=by have:=v.out;omega
  clear g X T S Q av aa M N ag aF aD;generalize JT l=bq at*;unfold Z8;go_wp2_with fail
  exact ZQ (cs:=Z8) e rfl rfl (Ju (JC ((Ja5 _ _ _ _ O).trans B)) rfl) rfl a7 ((I.trans (Jy _ (by have:=v.out;omega))).trans (Jy _ (Jbh v.symm)))
 have W:Hid (Q1 l=(BW (Xi l)).err):=H (by rw[aa.out,Yw (by rw[X];decide)]);have aN:Hid ((Xi l).six=true):=H rfl;have aE:=H (Sb l);have B:=H ((g.block e O).trans T);have z:=H ((g.block (e+1) O).trans S);have I:=H (Wx Q g);have aC:e<s.heap.size:=(Ja B).1;have ao:e+1<s.heap.size:=(Ja z).1;have aB:JE s e 40=true:=by rw[Jw _ _ _ _ _ B.out];rfl
 have aQ:JE s (e+1) 40=true:=by rw[Jw _ _ _ _ _ z.out];rfl
 have aP:r<s.heap.size:=O;have aJ:=(JK I ag (⟨r,aR,none⟩:Addr) rfl).trans N;have bb:r≠e+1:=by have:=v.out;omega
 have ak:=H aU
 have aZ:Hid (∀a,V=some a->a.block≠e+1):=H (λa ha=>by
  obtain⟨br,a5,bc⟩:=aM a ha;cases a5;simp only at bc;omega)
 clear g X T S Q av aa N ag aF aD aU aM;unfold pkO;generalize Xi l=a1 at*;obtain⟨a2,Z,b,p,j,G,t,o⟩:=a1;simp only at aN aE W M ak|-;obtain rfl:a2=true:=aN.out;obtain⟨ab,aH⟩:∃n,o.length=n:=⟨_,rfl⟩
 rw[aH] at ak aE|-;clear aH;have ah:Hid (BW ⟨true,Z,b,p,j,G,t,o⟩=if (J1 p||Qb p)&&!G then (if t then J3 p o else JV p o) else ⟨0,0,0,0⟩):=H rfl;have a0:Jv (s.setRow (e+1) (Jbv true true p (Jk j) G Z b)) (e+1) 0 40=(Jbv true true p (Jk j) G Z b:Array Value):=Ju (JC z) rfl;have aY:=WF 39 (JC (cs:=(Jbv true true p (Jk j) G Z b)) z);have bg:=WF 34 (JC (cs:=(Jbv true true p (Jk j) G Z b)) z);cases G;rotate_left
 ·have L:BW ⟨true,Z,b,p,j,true,t,o⟩=⟨0,0,0,0⟩:=by rw[ah.out];simp
  have az:Q1 l=0:=by rw[W.out,L]
  have P:Hid (pkR l=.tuple #[.agg (Jbv true true p (Jk j) true Z b:Array Value),Jk 0]):=H (by unfold pkR;rw[az,M.out az,L];rfl);clear L az ah W M;go_wp2_with fail
  exact ZQ (cs:=(Jbv true true p (Jk j) true Z b)) e rfl rfl (Ju (JC ((Ja5 _ _ _ _ O).trans B)) rfl) rfl P ((I.trans (Jy _ (by have:=v.out;omega))).trans (Jy _ (Jbh v.symm)))
 have L:BW ⟨true,Z,b,p,j,false,t,o⟩=AU p o (!t):=by
  rw[ah.out];unfold AU;cases t<;>simp
 have Y:Hid (Q1 l=(AU p o (!t)).err):=H (by rw[W.out,L]);have P:Hid (Q1 l=0->pkR l=.tuple #[.agg (Jbt true true p (Jl (AU p o (!t)).src) (Jl (AU p o (!t)).dst) (Jk j) (Jq (AU p o (!t)).flags) false Z b:Array Value),Jk 0]):=H (λh=>by unfold pkR;rw[h,M.out h,L];rfl);have aL:Hid (∀d,JA d V ab al o->Jf 41 #[p,.slice V ab al,.bool (!t)] d (Jz d (upV (AU p o (!t))))):=H (λd h=>Io p V ab al o (!t) d h (by have:=aE.out;omega));clear L ah W M;go_wp2_with fail
 have am:=H ((Ja5 s (e+1) e (Jbv true true p (Jk j) false Z b) O).trans B);have aj:=H (JC (cs:=(Jbv true true p (Jk j) false Z b)) z);have ap:Hid (Below w.heap.size w (s.setRow (e+1) (Jbv true true p (Jk j) false Z b))):=H (I.trans (Jy _ (by have:=v.out;omega)));have au:Hid (JA (s.setRow (e+1) (Jbv true true p (Jk j) false Z b)) V ab al o):=H (ak.keep (by simp) (λa ha _=>Ja5 _ _ _ _ (aZ a ha)));clear aB aQ aC ao a0 aY bg B z I ak aJ aP;generalize s.setRow (e+1) (Jbv true true p (Jk j) false Z b)=bs at am aj ap au|-;refine Jb (aL _ au) ?_;rintro bf E ⟨rfl,an⟩;have ai:=H ((an.block e (Ja am).1).trans am);have F:=H ((an.block (e+1) (Ja aj).1).trans aj);have aK:=H (Wx ap an);generalize AU p o (!t)=a4 at*;obtain⟨aT,y,C,J⟩:=a4;simp only at Y P;unfold upV;have aC:e<E.heap.size:=(Ja ai).1;have aB:JE E e 40=true:=by rw[Jw _ _ _ _ _ ai.out];rfl
 clear an am aj ap au aL;by_cases X:aT=0
 rotate_left
 ·have ay:=H (XJ (l:=l) Y X);have a8:(aT != 0)=true:=by simpa using X
  exact Jeh
 subst X;have ay:=H (P Y);clear P Y;have ao:e+1<E.heap.size:=(Ja F).1;have bo:=Jad _ _ 35 _ _ F;have bv:=Jad _ _ 36 _ _ F;have bw:=Jad _ _ 38 _ _ F;have bA:=WF 35 F;have bt:=WF 36 F;have bz:=WF 38 F;have a9:=H ((Jae _ (e+1) 38 (Jct true true p (Jl y) (Jl C) (Jk j) false Z b) _ (Jq J) ((Jae _ (e+1) 36 (Jcu true true p (Jl y) (Jk j) false Z b) _ (Jl C) ((Jae _ (e+1) 35 _ _ (Jl y) F).trans rfl)).trans rfl)).trans (rfl:_=some (Obj.cells (Jbt true true p (Jl y) (Jl C) (Jk j) J false Z b) 40 (0,0))));have bk:Jv (((E.setCell ⟨e+1,35,none⟩ (Jl y)).setCell ⟨e+1,36,none⟩ (Jl C)).setCell ⟨e+1,38,none⟩ (Jq J)) (e+1) 0 40=(Jbt true true p (Jl y) (Jl C) (Jk j) J false Z b:Array Value):=Ju a9 rfl;have bd:=H ((YX ((E.setCell ⟨e+1,35,none⟩ (Jl y)).setCell ⟨e+1,36,none⟩ (Jl C)) ⟨e+1,38,none⟩ e (Jq J) (by show e≠e+1;omega)).trans ((YX (E.setCell ⟨e+1,35,none⟩ (Jl y)) ⟨e+1,36,none⟩ e (Jl C) (by show e≠e+1;omega)).trans ((YX E ⟨e+1,35,none⟩ e (Jl y) (by show e≠e+1;omega)).trans ai)));have a3:Hid (Below w.heap.size w (((E.setCell ⟨e+1,35,none⟩ (Jl y)).setCell ⟨e+1,36,none⟩ (Jl C)).setCell ⟨e+1,38,none⟩ (Jq J))):=H (((aK.setCell (p:=⟨e+1,35,none⟩) (by have:=v.out;show w.heap.size<=e+1;omega) _).setCell (p:=⟨e+1,36,none⟩) (by have:=v.out;show w.heap.size<=e+1;omega) _).setCell (p:=⟨e+1,38,none⟩) (by have:=v.out;show w.heap.size<=e+1;omega) _);go_wp2_with fail
 exact ZQ (cs:=(Jbt true true p (Jl y) (Jl C) (Jk j) J false Z b)) e rfl rfl (Ju (JC bd) rfl) rfl ay (a3.trans (Jy _ (Jbh v.symm)))
theorem NJ (s:Option Addr)(n o:Nat)(l:List Int)(w:World)(u:JA w s n o l)(d:NoB l):Jf 12 #[.slice s n o] w (Jz w (pkR l)):=by
 by_cases j:2048<n
 ·exact KN s n o l w u j
 by_cases y:n=0
 ·exact Mf s n o l w u y
 by_cases b:l.getD 0 0/16=4
 ·exact Mg s n o l w u O O b
 by_cases a:l.getD 0 0/16=6
 ·exact NI s n o l w u O O a (d a)
 exact E7 s n o l w u O O ⟨b,a⟩
open Go.RowKit
theorem FF (w:World)(d:Nat)(s:Bool)(S:Nat->Int)(t:Bool)(T:Nat->Int)(p a b n f:Int)(r:Bool):
 (Op.equalIn (d+7) 40 (.agg (Jbt s t p (Jl a) (Jl b) (Jk n) f r S T)) (.agg (Jbt s t p (Jl a) (Jl b) (Jk n) f r S T))).run prog w=.ok true w:=by
 simp[go_sem,RK]
attribute [go_sem 5000] FF
theorem C2 (s:Option Addr)(n o:Nat)(l:List Int)(w:World)(u:JA w s n o l)(ag:NoB l)(X:Env w):Jf 3 #[.slice s n o] w (Jz w (.bool true)):=by
 have ad:=H X;have ai:=H u;have P:=u.len;clear X;by_cases aq:n<=2100
 ·have V:Hid (Jf 10 #[.slice s n o] w (AY w n l)):=H ((MQ s n o l w u O).mono λ_ _ h=>h.n P u.byte);have r:Hid (∀w,JA w s n o l->Jf 11 #[.slice s n o] w (Jz w (pkR l))):=H (λw h=>AF s n o l w h);have y:Hid (∀s o w,JA w s n o l->Jf 12 #[.slice s n o] w (Jz w (pkR l))):=H (λs o w h=>NJ s n o l w h ag);have ap:Hid (∀A E w,JA w A n E l->JA w s n o l->Jf 14 #[.slice A n E,.slice s n o] w (Jz w (.bool true))):=H (λA E w h am=>IH A n E s o l w h am O);unfold pkR at r y;generalize Q1 l=az at*;obtain⟨k,ab⟩:∃k,Hg l=k:=⟨_,rfl⟩
  rw[ab] at r y;clear ab;obtain⟨G,Z,d,p,a,b,e,f,T⟩:=k;unfold Xl at r y;simp only at r y;have aj:=H (λw=>No G Z G d p a b e f T w);have al:¬((n:Int)>2100):=O;clear u P aq;go_enter func3,ntmps3
  go_wp2_with fail
  refine Jb V ?_;rintro ac ax ⟨ah,ao,rfl,Y,M⟩;have U:=H Y;have N:=H (ai.below M);have W:=H M;clear Y M V;go_wp2_with fail
  refine Jb (r _ N) ?_;rintro ac w2 ⟨rfl,J⟩;have I:Hid (Below w.heap.size w (w2.alloc (.cells (Xl ⟨G,Z,d,p,a,b,e,f,T⟩) 32))):=H (Below.all (Wx W J) _);have v:=H ((U.below J).alloc (.cells (Xl ⟨G,Z,d,p,a,b,e,f,T⟩) 32));have B:=H ((N.below J).alloc (.cells (Xl ⟨G,Z,d,p,a,b,e,f,T⟩) 32));have g:=H (WP w2 (.cells (Xl ⟨G,Z,d,p,a,b,e,f,T⟩) 32));clear J U N W;unfold Xl at I v B g;simp only at I v B g;go_wp2_with fail
  obtain⟨C,aa⟩:∃b,b=w2.heap.size:=⟨_,rfl⟩
  rw[<-aa] at g|-;clear aa;generalize w2.alloc _=an at*;refine Jb (y _ _ _ v) ?_;rintro ac w4 ⟨rfl,j⟩;have t:Hid (Below w.heap.size w (w4.alloc (.cells (Xl ⟨G,Z,d,p,a,b,e,f,T⟩) 40))):=H (Below.all (Wx I j) _);have R:=H ((v.below j).alloc (.cells (Xl ⟨G,Z,d,p,a,b,e,f,T⟩) 40));have L:=H ((B.below j).alloc (.cells (Xl ⟨G,Z,d,p,a,b,e,f,T⟩) 40));have S:C<an.heap.size:=(Ja g).1;have F:=H ((YU _ (.cells (Xl ⟨G,Z,d,p,a,b,e,f,T⟩) 40) (Jd S j.size)).trans ((j.block C S).trans g));have z:=H (WP w4 (.cells (Xl ⟨G,Z,d,p,a,b,e,f,T⟩) 40));clear j v B I g S;unfold Xl at t R L F z;simp only at t R L F z;go_wp2_with fail
  obtain⟨ae,af⟩:∃b,b=w4.heap.size:=⟨_,rfl⟩
  rw[<-af] at z|-;clear af;generalize w4.alloc _=Q at*;have ak:=H (λ(x:J2 Q)=>ap.out ah ao x.world (R.later x) (L.later x));have ar:=H (λ(x:J2 Q)=>Xg x.world ((ad.below t).later x));have av:Jv Q C 0 40=(Jbt G G p (Jl a) (Jl b) (Jk e) f T Z d:Array Value):=Ju F rfl;have ay:Jv Q ae 0 40=(Jbt G G p (Jl a) (Jl b) (Jk e) f T Z d:Array Value):=Ju z rfl;have au:C<Q.heap.size:=(Ja F).1;have aw:ae<Q.heap.size:=(Ja z).1;refine JM K K ?_;repeat go_big_quiet_step (first|(go_at_call 13;exact JD (aj _))|(go_at_call 14;exact JD (ak _))|(go_at_call 9;exact JD (ar _)))
  refine Jaa ?_;intro x;go_wp2_with fail
  go_ret;exact .mk rfl (t.trans (x.below.mono t.size))
 ·have al:(n:Int)>2100:=O;clear P u;go_enter func3,ntmps3
  go_wp2_with fail
  refine Calls.later (Xg _ ad) ?_;exact JdP
theorem BN (p a b f r o:Int)(l:ByteArray)(n:Nat)(C:l.size=n)(B:n<=100000)(w:World):
 Jf 99 #[.agg (JbG p (Jl a) (Jl b) f r o (.string l):Array Value)] w (Jz w (Jk ((tHead p:Int)+(n:Int)))):=by
 have A:Hid (∀d,Jf 96 #[p] d (Jz d (Jk (tHead p:Int)))):=H (λd=>Aq p d);have g:tHead p<=20:=by unfold tHead;split;decide;split;decide;split;decide;decide
 generalize tHead p=s at*;have X:(0:Int)<=(s:Int)+(n:Int):=O;have j:(s:Int)+(n:Int)<=1000000:=O;have u:Below w.heap.size w (w.alloc (.cells (JbG p (Jl a) (Jl b) f r o (.string l)) 102)):=Below.all (Jc _ _) _;have e:=H (WP w (.cells (JbG p (Jl a) (Jl b) f r o (.string l)) 102));go_enter func99,ntmps99
 go_wp2_with fail
 generalize z:w.alloc (.cells (JbG p (Jl a) (Jl b) f r o (.string l)) 102)=Q at*;obtain⟨y,v⟩:∃b,b=w.heap.size:=⟨_,rfl⟩
 rw[<-v] at e|-;have F:y<Q.heap.size:=(Ja e).1;have E:=WF 0 e;have I:=WF 8 e;have G:=WF 11 e;have t:=H u;clear u z v;refine JM K K ?_;repeat go_big_quiet_step ((with_reducible exact JD (A.out _)))
 refine Jaa ?_;intro x;go_wp2_with fail
 go_ret;exact .mk rfl (t.trans (x.below.mono t.size))
theorem NK (a b f J:Int)(j:List Int)(c:Int)(ab:JF j)(au:j.length<=60000)(ha:Jn a)(g:Jn b)(X:Jm f)(I:Jn c)(w:World):
 Jf 101 #[.agg (JbK (6:Int) (Jl a) (Jl b) f (.string (strOfNums j)):Array Value),Jl c] w (Jz w (.string (strOfNums (JU 6 a b f J c j)))):=by
 obtain⟨z,t⟩:∃Z,Z=strOfNums (be2 a):=⟨_,rfl⟩
 have av:z.size=2:=by rw[t,Jbe];rfl
 have W:Hid (∀d,Jf 154 #[Jl a] d (Jz d (.string z))):=H (λd=>t▸Ac a ha d);obtain⟨U,y⟩:∃Z,Z=strOfNums (be2 b):=⟨_,rfl⟩
 have aq:U.size=2:=by rw[y,Jbe];rfl
 have N:Hid (∀d,Jf 154 #[Jl b] d (Jz d (.string U))):=H (λd=>y▸Ac b g d);obtain⟨r,n⟩:∃Z,Z=strOfNums (be4 0):=⟨_,rfl⟩
 have ac:r.size=4:=by rw[n,Jbe];rfl
 have Y:Hid (∀d,Jf 155 #[Jbm] d (Jz d (.string r))):=H (λd=>n▸GY 0 D d);obtain⟨A,u⟩:∃Z,Z=strOfNums ([80]):=⟨_,rfl⟩
 have ak:A.size=1:=by rw[u,Jbe];rfl
 have R:Hid (∀d,Jf 153 #[(80:Int)] d (Jz d (.string A))):=H (λd=>u▸CU 80 D d);obtain⟨B,hF⟩:∃Z,Z=strOfNums ([f]):=⟨_,rfl⟩
 have aj:B.size=1:=by rw[hF,Jbe];rfl
 have M:Hid (∀d,Jf 153 #[f] d (Jz d (.string B))):=H (λd=>hF▸CU f X d);obtain⟨v,o⟩:∃Z,Z=strOfNums (be2 0):=⟨_,rfl⟩
 have am:v.size=2:=by rw[o,Jbe];rfl
 have T:Hid (∀d,Jf 154 #[Jbl] d (Jz d (.string v))):=H (λd=>o▸Ac 0 D d);obtain⟨C,s⟩:∃Z,Z=strOfNums (be2 c):=⟨_,rfl⟩
 have ad:C.size=2:=by rw[s,Jbe];rfl
 have V:Hid (∀d,Jf 154 #[Jl c] d (Jz d (.string C))):=H (λd=>s▸Ac c I d);obtain⟨l,p⟩:∃Z,Z=strOfNums j:=⟨_,rfl⟩
 have ah:l.size=j.length:=by rw[p,Jbe]
 have G:Hid (strOfNums (JU 6 a b f J c j)=z++U++r++r++A++B++v++C++v++⟨#[]⟩++l):=H (by rw[t,y,n,u,hF,o,s,p];rw[show(⟨#[]⟩:ByteArray)=strOfNums [] from rfl];simp only[Zd];congr 1);rw[G.out,<-p];clear G p t y n u hF o s;generalize j.length=ar at*;have F:Below w.heap.size w (w.alloc (.cells (JbK (6:Int) (Jl a) (Jl b) f (.string l)) 102)):=Below.all (Jc _ _) _;have e:=H (WP w (.cells (JbK (6:Int) (Jl a) (Jl b) f (.string l)) 102));go_enter func101,ntmps101
 go_wp2_with fail
 generalize S:w.alloc (.cells (JbK (6:Int) (Jl a) (Jl b) f (.string l)) 102)=Q at*;obtain⟨P,L⟩:∃b,b=w.heap.size:=⟨_,rfl⟩
 rw[<-L] at e|-;have al:P<Q.heap.size:=(Ja e).1;have ag:=WF 1 e;have ae:=WF 2 e;have aa:=WF 3 e;have af:=WF 4 e;have ao:=WF 5 e;have ai:=WF 6 e;have ap:=WF 7 e;have aw:=WF 8 e;have an:=WF 11 e;have E:=H F;clear F S L;refine JM K K ?_;repeat go_big_quiet_step ((first|(with_reducible exact JD (W.out _))|(with_reducible exact JD (N.out _))|(with_reducible exact JD (Y.out _))|(with_reducible exact JD (R.out _))|(with_reducible exact JD (M.out _))|(with_reducible exact JD (T.out _))|(with_reducible exact JD (V.out _))))
 refine Jaa ?_;intro x;go_wp2_with fail
 go_ret;exact .mk rfl (E.trans (x.below.mono E.size))
theorem NL (a b:Int)(e:List Int)(c:Int)(P:JF e)(B:e.length<=60000)(ha:Jn a)(g:Jn b)(I:Jn c)(w:World):
 Jf 101 #[.agg (JbI (17:Int) (Jl a) (Jl b) (.string (strOfNums e)):Array Value),Jl c] w (Jz w (.string (strOfNums (JU 17 a b 0 (8+(e.length:Int)) c e)))):=by
 obtain⟨u,r⟩:∃Z,Z=strOfNums (be2 a):=⟨_,rfl⟩
 have aa:u.size=2:=by rw[r,Jbe];rfl
 have N:Hid (∀d,Jf 154 #[Jl a] d (Jz d (.string u))):=H (λd=>r▸Ac a ha d);obtain⟨U,s⟩:∃Z,Z=strOfNums (be2 b):=⟨_,rfl⟩
 have Y:U.size=2:=by rw[s,Jbe];rfl
 have F:Hid (∀d,Jf 154 #[Jl b] d (Jz d (.string U))):=H (λd=>s▸Ac b g d);obtain⟨v,t⟩:∃Z,Z=strOfNums (be2 (8+(e.length:Int))):=⟨_,rfl⟩
 have ab:v.size=2:=by rw[t,Jbe];rfl
 have M:Hid (∀d,Jf 154 #[Jl (8+(e.length:Int))] d (Jz d (.string v))):=H (λd=>t▸Ac _ O d);obtain⟨y,p⟩:∃Z,Z=strOfNums (be2 c):=⟨_,rfl⟩
 have R:y.size=2:=by rw[p,Jbe];rfl
 have L:Hid (∀d,Jf 154 #[Jl c] d (Jz d (.string y))):=H (λd=>p▸Ac c I d);obtain⟨l,o⟩:∃Z,Z=strOfNums e:=⟨_,rfl⟩
 have V:l.size=e.length:=by rw[o,Jbe]
 have C:Hid (strOfNums (JU 17 a b 0 (8+(e.length:Int)) c e)=u++U++v++y++l):=H (by rw[r,s,t,p,o];simp only[Zd];congr 1);rw[C.out,<-o];clear C o r s t p;generalize e.length=n at*;have A:Below w.heap.size w (w.alloc (.cells (JbI (17:Int) (Jl a) (Jl b) (.string l)) 102)):=Below.all (Jc _ _) _;have j:=H (WP w (.cells (JbI (17:Int) (Jl a) (Jl b) (.string l)) 102));go_enter func101,ntmps101
 go_wp2_with fail
 generalize J:w.alloc (.cells (JbI (17:Int) (Jl a) (Jl b) (.string l)) 102)=Q at*;obtain⟨G,E⟩:∃b,b=w.heap.size:=⟨_,rfl⟩
 rw[<-E] at j|-;have W:G<Q.heap.size:=(Ja j).1;have T:=WF 1 j;have S:=WF 2 j;have X:=WF 11 j;have z:=H A;clear A J E;refine JM K K ?_;repeat go_big_quiet_step ((first|(with_reducible exact JD (N.out _))|(with_reducible exact JD (F.out _))|(with_reducible exact JD (M.out _))|(with_reducible exact JD (L.out _))))
 refine Jaa ?_;intro x;go_wp2_with fail
 go_ret;exact .mk rfl (z.trans (x.below.mono z.size))
theorem Mh (p a b B:Int)(e:List Int)(c:Int)(P:JF e)(aa:e.length<=60000)(E:p=1\/p=58)(ha:Jm a)(g:Jm b)(I:Jn c)(w:World):
 Jf 101 #[.agg (JbD p a b (.string (strOfNums e)):Array Value),Jl c] w (Jz w (.string (strOfNums (JU p a b 0 B c e)))):=by
 obtain⟨u,s⟩:∃Z,Z=strOfNums ([a]):=⟨_,rfl⟩
 have ac:u.size=1:=by rw[s,Jbe];rfl
 have M:Hid (∀d,Jf 153 #[a] d (Jz d (.string u))):=H (λd=>s▸CU a ha d);obtain⟨U,t⟩:∃Z,Z=strOfNums ([b]):=⟨_,rfl⟩
 have Y:U.size=1:=by rw[t,Jbe];rfl
 have F:Hid (∀d,Jf 153 #[b] d (Jz d (.string U))):=H (λd=>t▸CU b g d);obtain⟨v,r⟩:∃Z,Z=strOfNums (be2 c):=⟨_,rfl⟩
 have R:v.size=2:=by rw[r,Jbe];rfl
 have L:Hid (∀d,Jf 154 #[Jl c] d (Jz d (.string v))):=H (λd=>r▸Ac c I d);obtain⟨l,o⟩:∃Z,Z=strOfNums e:=⟨_,rfl⟩
 have S:l.size=e.length:=by rw[o,Jbe]
 have A:Hid (strOfNums (JU p a b 0 B c e)=u++U++v++l):=H (by rw[s,t,r,o];rcases E with rfl|rfl<;>(simp only[Zd];congr 1));rw[A.out,<-o];clear A o s t r;generalize e.length=n at*;have W:(p==6)=false:=by rcases E with rfl|rfl<;>rfl
 have V:(p==17)=false:=by rcases E with rfl|rfl<;>rfl
 have z:Below w.heap.size w (w.alloc (.cells (JbD p a b (.string l)) 102)):=Below.all (Jc _ _) _;have j:=H (WP w (.cells (JbD p a b (.string l)) 102));go_enter func101,ntmps101
 go_wp2_with fail
 generalize J:w.alloc (.cells (JbD p a b (.string l)) 102)=Q at*;obtain⟨G,C⟩:∃b,b=w.heap.size:=⟨_,rfl⟩
 rw[<-C] at j|-;have T:G<Q.heap.size:=(Ja j).1;have ab:=WF 9 j;have N:=WF 10 j;have X:=WF 11 j;have y:=H z;clear z J C;refine JM K K ?_;repeat go_big_quiet_step ((first|(with_reducible exact JD (M.out _))|(with_reducible exact JD (F.out _))|(with_reducible exact JD (L.out _))))
 refine Jaa ?_;intro x;go_wp2_with fail
 go_ret;exact .mk rfl (y.trans (x.below.mono y.size))
theorem Mi (p n:Int)(b a:List Int)(z:b.length=4)(L:a.length=4)(E:Jm p)(B:Jn n)(w:World):
 Jf 98 #[p,Jk n,.string (strOfNums b),.string (strOfNums a)] w (Jz w (.tuple #[.string (strOfNums (Qh p n b a)),true])):=by
 by_cases j:p=1
 ·subst j;have r:Hid (strOfNums (Qh 1 n b a)=⟨#[]⟩):=H rfl;rw[r.out];have C:(strOfNums b).size=4:=by rw[Jbe,z]
  have I:(strOfNums a).size=4:=by rw[Jbe,L]
  generalize strOfNums b=Z at*;generalize strOfNums a=J at*;go_enter func98,ntmps98
  go_wp2_with fail
  go_ret2;exact .mk rfl (Jc _ _)
 have N:(p==1)=false:=by simpa using j
 obtain⟨t,g⟩:∃Z,Z=strOfNums ([0]):=⟨_,rfl⟩
 have R:t.size=1:=by rw[g,Jbe];rfl
 have y:Hid (∀d,Jf 153 #[()] d (Jz d (.string t))):=H (λd=>g▸CU 0 D d);obtain⟨s,l⟩:∃Z,Z=strOfNums ([p]):=⟨_,rfl⟩
 have P:s.size=1:=by rw[l,Jbe];rfl
 have M:Hid (∀d,Jf 153 #[p] d (Jz d (.string s))):=H (λd=>l▸CU p E d);obtain⟨u,o⟩:∃Z,Z=strOfNums (be2 n):=⟨_,rfl⟩
 have Q:u.size=2:=by rw[o,Jbe];rfl
 have F:Hid (∀d,Jf 154 #[Jl n] d (Jz d (.string u))):=H (λd=>o▸Ac n B d);have r:Hid (strOfNums (Qh p n b a)=strOfNums b++strOfNums a++t++s++u):=H (by rw[g,l,o];simp only[Zd];unfold Qh;rw[Yw j,YH z];congr 1;simp);rw[r.out];have C:(strOfNums b).size=4:=by rw[Jbe,z]
 have I:(strOfNums a).size=4:=by rw[Jbe,L]
 clear r g l o;generalize strOfNums b=Z at*;generalize strOfNums a=J at*;go_enter func98,ntmps98
 go_wp2_with fail
 refine Jb (y _) ?_;rintro e V ⟨rfl,v⟩;go_wp2_with fail
 refine Jb (M _) ?_;rintro e w2 ⟨rfl,G⟩;go_wp2_with fail
 refine Jb (F _) ?_;rintro e S ⟨rfl,A⟩;go_wp2_with fail
 go_ret2;exact .mk rfl (Wx (Wx v G) A)
theorem NM (p n:Int)(b a:List Int)(z:b.length=16)(L:a.length=16)(E:Jm p)(B:Jn n)(w:World):
 Jf 98 #[p,Jk n,.string (strOfNums b),.string (strOfNums a)] w (Jz w (.tuple #[.string (strOfNums (Qh p n b a)),true])):=by
 by_cases j:p=1
 ·subst j;have o:Hid (strOfNums (Qh 1 n b a)=⟨#[]⟩):=H rfl;rw[o.out];have u:(strOfNums b).size=16:=by rw[Jbe,z]
  have A:(strOfNums a).size=16:=by rw[Jbe,L]
  generalize strOfNums b=Z at*;generalize strOfNums a=C at*;go_enter func98,ntmps98
  go_wp2_with fail
  go_ret2;exact .mk rfl (Jc _ _)
 have G:(p==1)=false:=by simpa using j
 obtain⟨s,l⟩:∃Z,Z=strOfNums (be4 n):=⟨_,rfl⟩
 have J:s.size=4:=by rw[l,Jbe];rfl
 have v:Hid (∀d,Jf 155 #[Jp n] d (Jz d (.string s))):=H (λd=>l▸GY n O d);obtain⟨r,g⟩:∃Z,Z=strOfNums (be4 p):=⟨_,rfl⟩
 have I:r.size=4:=by rw[g,Jbe];rfl
 have F:Hid (∀d,Jf 155 #[Jp p] d (Jz d (.string r))):=H (λd=>g▸GY p O d);have o:Hid (strOfNums (Qh p n b a)=strOfNums b++strOfNums a++s++r):=H (by rw[l,g];simp only[Zd];unfold Qh;rw[Yw j,Yw O];congr 1;unfold be4 be2;simp;omega);rw[o.out];have u:(strOfNums b).size=16:=by rw[Jbe,z]
 have A:(strOfNums a).size=16:=by rw[Jbe,L]
 clear o l g;generalize strOfNums b=Z at*;generalize strOfNums a=C at*;go_enter func98,ntmps98
 go_wp2_with fail
 refine Jb (v _) ?_;rintro e V ⟨rfl,t⟩;go_wp2_with fail
 refine Jb (F _) ?_;rintro e w2 ⟨rfl,y⟩;go_wp2_with fail
 go_ret2;exact .mk rfl (Wx t y)
end
end Go.Proofs.YtkgjbipfhhjlpaaGreatDoor
