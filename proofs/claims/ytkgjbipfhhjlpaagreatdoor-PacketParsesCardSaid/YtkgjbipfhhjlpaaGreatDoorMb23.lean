import Derived.Test.YtkgjbipfhhjlpaaGreatDoorMb22
set_option linter.unusedVariables false
set_option linter.unusedSimpArgs false
set_option maxRecDepth 100000
set_option maxHeartbeats 32000000
namespace Go.Proofs.YtkgjbipfhhjlpaaGreatDoor
section
open Go.RowKit Bits
theorem J2.ext {w:World}{lo:Nat}{oe:Option Addr}{ce:Nat}{xs:XV}{es:List QN}(h:J2 w lo oe ce xs es)(j:Nat)(x:Int×List Int)(hx:xs[j]? =some x):
 ∃g off oD cD,oe=some ⟨g,off,none⟩∧g<w.heap.size∧w.cell? ⟨g,off+j*2,none⟩=some (.int .u8 x.1)∧w.cell? ⟨g,off+j*2+1,none⟩=some (.slice oD x.2.length cD)∧Ji w oD x.2.length cD x.2:=by
 have hj:=(List.getElem?_eq_some_iff.1 hx).1
 have hl:=h.len
 obtain⟨e,hxe⟩:∃e,es[j]? =some e:=⟨es[j],List.getElem?_eq_getElem (by omega)⟩
 have hat:=h.each j e x hxe hx
 have hcs:=JaL es j e hxe
 obtain⟨g,off,rfl,hg0,hg1,hc,-⟩:=h.own.here (by omega)
 have hm:e.m=x.2.length:=hat.rd.len.symm
 refine⟨g,off,e.a,e.c,rfl,hg1,?_,?_,?_⟩
 ·have:=hc _ _ hcs.1
  rw[show off+j*2=off+2*j by omega,this,hat.k]
 ·have:=hc _ _ hcs.2
  rw[show off+j*2+1=off+(2*j+1) by omega,this,hm]
 ·have:=hat.rd
  rwa [hm] at this
theorem Jkr (k:Int)(oa:Option Addr)(n c:Nat)(w:World):Calls Tryz.prog 191 #[.agg #[.int .u8 k,.slice oa n c]] w (Jh w (.bool (k==44))):=by
 go_enter Tryz.func191,Tryz.ntmps191
 go_wp2_with fail
 go_ret
 exact .mk rfl (Below.all (Jpd _ _) _)
theorem JiZ (k:Int)(oa:Option Addr)(cap:Nat)(d:List Int)(w:World)(hr:Ji w oa d.length cap d)(hn:d.length≤100000):Calls Tryz.prog 90 #[.agg #[.int .u8 k,.slice oa d.length cap]] w (Jh w (.bool (!JX k d))):=by
 have HR:=Jpa hr
 have HS:Hid (∀w1,Ji w1 oa d.length cap d→Calls Tryz.prog 91 #[.agg #[.int .u8 k,.slice oa d.length cap]] w1 (Jh w1 (.bool (JX k d)))):=Jpa (fun w1 h1=>Jfg k oa cap d w1 h1 hn)
 clear hr
 generalize JX k d=V at*
 generalize d.length=n at*
 go_enter Tryz.func90,Tryz.ntmps90
 go_wp2_with fail
 refine Jo4 (HS.out _ (HR.out.alloc _)) ?_
 intro x
 go_wp2_with fail
 go_ret
 exact .mk rfl x.below
def J3 (t:Int×List Int→Bool):XV→Nat→Int
 |[],_=>-1
 |x::xs,i=>if t x then (i:Int) else J3 t xs (i+1)
theorem Jck (t:Int×List Int→Bool)(xs:XV)(j:Nat)(x:Int×List Int)(hx:xs[j]? =some x):J3 t (xs.drop j) j=if t x then (j:Int) else J3 t (xs.drop (j+1)) (j+1):=by
 have hj:=(List.getElem?_eq_some_iff.1 hx).1
 rw[List.drop_eq_getElem_cons hj,J3]
 have:xs[j]=x:=by have:=List.getElem?_eq_getElem hj;rw[hx] at this;exact(Option.some.inj this).symm
 rw[this]
theorem Jcl (t:Int×List Int→Bool):∀(xs:XV) (i:Nat),(∀x∈xs,t x=false)→J3 t xs i=-1
 |[],_,_=>rfl
 |x::xs,i,h=>by rw[J3,h x (by simp)];exact Jcl t xs (i+1) (fun y hy=>h y (by simp[hy]))
theorem Ji0 (lo:Nat)(oe:Option Addr)(ce:Nat)(xs:XV)(es:List QN)(w:World)(h:J2 w lo oe ce xs es)(hn:xs.length≤16):
 Calls Tryz.prog 150 #[.slice oe xs.length ce,.func (.func 191) #[] #[]] w (Jh w (.int .i64 (J3 (fun x=>x.1==44) xs 0))):=by
 have HX:=Jpa h
 have HL:Hid (∀j x,xs[j]? =some x→j<xs.length):=Jpa (fun j x hx=>(List.getElem?_eq_some_iff.1 hx).1)
 obtain⟨n,hnn⟩:∃n,xs.length=n:=⟨_,rfl⟩
 have HN:=Jpa hnn
 rw[hnn] at hn⊢
 clear h hnn
 go_enter Tryz.func150,Tryz.ntmps150
 go_wp2_with fail
 go_loopg [8] n (fun g u8 wr=>∃(z:World) (j:Nat),z=wr∧j+g=n∧u8=.int .i64 (j:Int)∧Hid (J3 (fun x=>x.1==44) xs 0=J3 (fun x=>x.1==44) (xs.drop j) j)∧Hid (J2 z lo oe ce xs es)∧Hid (Below w.heap.size w z))
 case atStart=>exact⟨_,0,rfl,by omega,rfl,Jpa rfl,HX,Jpa (Jpd _ _)⟩
 case round=>
  obtain⟨z,j,hz,hjg,rfl,HI,HE,HB⟩:=hrel
  subst hz
  by_cases hlt:j<n
  ·obtain⟨x,hx⟩:∃x,xs[j]? =some x:=⟨_,List.getElem?_eq_getElem (by rw[HN.out];exact hlt)⟩
   have HXX:=Jpa hx
   have HST:=Jpa (Jck (fun x=>x.1==44) xs j x hx)
   obtain⟨g,off,oD,cD,rfl,hg,hc0,hc1,hrd⟩:=HE.out.ext j x hx
   have HRD:=Jpa hrd
   clear hx hrd
   have hd:decide ((j:Int)<(n:Int))=true:=by simp;omega
   obtain⟨k,d⟩:=x
   simp only at hc0 hc1 HRD HST
   skip
   go_wp2_with fail
   refine Jpc (Jkr k oD d.length cD _) ?_
   rintro e z2 ⟨rfl,hb⟩
   have HB2:=Jpa (Jo3 HB.out hb)
   have HE2:=Jpa (HE.out.below hb)
   clear hb HE HB hc0 hc1
   cases hT:(fun x=>x.1==44) (k,d)
   ·simp only at hT
    have HI2:Hid (J3 (fun x=>x.1==44) xs 0=J3 (fun x=>x.1==44) (xs.drop (j+1)) (j+1)):=Jpa (by rw[HI.out,HST.out,hT];rfl)
    rw[hT]
    go_wp2_with fail
    go_roundg (n-(j+1))
    case measure=>omega
    case rel=>exact⟨_,j+1,rfl,by omega,by go_num,HI2,HE2,HB2⟩
   ·simp only at hT
    have HI2:Hid (J3 (fun x=>x.1==44) xs 0=(j:Int)):=Jpa (by rw[HI.out,HST.out,hT];rfl)
    rw[hT]
    go_wp2_with fail
    go_ret
    exact .mk (Jas HI2.out.symm) HB2.out
  ·have hj:j=n:=by omega
   have HI2:Hid (J3 (fun x=>x.1==44) xs 0=-1):=Jpa (by rw[HI.out,List.drop_eq_nil_of_le (by rw[HN.out];omega)];rfl)
   have hd:decide ((j:Int)<(n:Int))=false:=by simp;omega
   go_wp2_with fail
   go_ret
   exact .mk (Jas HI2.out.symm) HB.out
theorem JhS (lo:Nat)(oe:Option Addr)(ce:Nat)(xs:XV)(es:List QN)(w:World)(h:J2 w lo oe ce xs es)(hn:xs.length≤16)(hd0:∀x∈xs,x.2.length≤100000):
 Calls Tryz.prog 150 #[.slice oe xs.length ce,.func (.func 90) #[] #[]] w (Jh w (.int .i64 (J3 (fun x=>!JX x.1 x.2) xs 0))):=by
 have HX:=Jpa h
 have HL:Hid (∀j x,xs[j]? =some x→j<xs.length):=Jpa (fun j x hx=>(List.getElem?_eq_some_iff.1 hx).1)
 obtain⟨n,hnn⟩:∃n,xs.length=n:=⟨_,rfl⟩
 have HN:=Jpa hnn
 rw[hnn] at hn⊢
 clear h hnn
 go_enter Tryz.func150,Tryz.ntmps150
 go_wp2_with fail
 go_loopg [8] n (fun g u8 wr=>∃(z:World) (j:Nat),z=wr∧j+g=n∧u8=.int .i64 (j:Int)∧Hid (J3 (fun x=>!JX x.1 x.2) xs 0=J3 (fun x=>!JX x.1 x.2) (xs.drop j) j)∧Hid (J2 z lo oe ce xs es)∧Hid (Below w.heap.size w z))
 case atStart=>exact⟨_,0,rfl,by omega,rfl,Jpa rfl,HX,Jpa (Jpd _ _)⟩
 case round=>
  obtain⟨z,j,hz,hjg,rfl,HI,HE,HB⟩:=hrel
  subst hz
  by_cases hlt:j<n
  ·obtain⟨x,hx⟩:∃x,xs[j]? =some x:=⟨_,List.getElem?_eq_getElem (by rw[HN.out];exact hlt)⟩
   have HXX:=Jpa hx
   have HST:=Jpa (Jck (fun x=>!JX x.1 x.2) xs j x hx)
   obtain⟨g,off,oD,cD,rfl,hg,hc0,hc1,hrd⟩:=HE.out.ext j x hx
   have HRD:=Jpa hrd
   clear hx hrd
   have hd:decide ((j:Int)<(n:Int))=true:=by simp;omega
   obtain⟨k,d⟩:=x
   simp only at hc0 hc1 HRD HST
   skip
   go_wp2_with fail
   refine Jpc (JiZ k oD cD d _ HRD.out (hd0 _ (List.mem_of_getElem? HXX.out))) ?_
   rintro e z2 ⟨rfl,hb⟩
   have HB2:=Jpa (Jo3 HB.out hb)
   have HE2:=Jpa (HE.out.below hb)
   clear hb HE HB hc0 hc1
   cases hT:(fun x=>!JX x.1 x.2) (k,d)
   ·simp only at hT
    have HI2:Hid (J3 (fun x=>!JX x.1 x.2) xs 0=J3 (fun x=>!JX x.1 x.2) (xs.drop (j+1)) (j+1)):=Jpa (by rw[HI.out,HST.out,hT];rfl)
    rw[hT]
    go_wp2_with fail
    go_roundg (n-(j+1))
    case measure=>omega
    case rel=>exact⟨_,j+1,rfl,by omega,by go_num,HI2,HE2,HB2⟩
   ·simp only at hT
    have HI2:Hid (J3 (fun x=>!JX x.1 x.2) xs 0=(j:Int)):=Jpa (by rw[HI.out,HST.out,hT];rfl)
    rw[hT]
    go_wp2_with fail
    go_ret
    exact .mk (Jas HI2.out.symm) HB2.out
  ·have hj:j=n:=by omega
   have HI2:Hid (J3 (fun x=>!JX x.1 x.2) xs 0=-1):=Jpa (by rw[HI.out,List.drop_eq_nil_of_le (by rw[HN.out];omega)];rfl)
   have hd:decide ((j:Int)<(n:Int))=false:=by simp;omega
   go_wp2_with fail
   go_ret
   exact .mk (Jas HI2.out.symm) HB.out
theorem JgE (lo:Nat)(oe:Option Addr)(ce:Nat)(xs:XV)(es:List QN)(w:World)(h:J2 w lo oe ce xs es)(hn:xs.length≤16)(hd0:∀x∈xs,x.2.length≤100000)(hr:∀x∈xs,JX x.1 x.2=true):
 Calls Tryz.prog 89 #[.slice oe xs.length ce,.func (.func 90) #[] #[]] w (Jh w (.bool false)):=by
 have HC:=Jpa (JhS lo oe ce xs es w h hn hd0)
 rw[Jcl _ _ _ (fun x hx=>by simp[hr x hx])] at HC
 clear h hr hd0
 generalize xs.length=n at*
 go_enter Tryz.func89,Tryz.ntmps89
 go_wp2_with fail
 refine Jpc HC.out ?_
 rintro e z ⟨rfl,hb⟩
 go_wp2_with fail
 go_ret
 exact .mk rfl hb
theorem Jek (lo:Nat)(oe:Option Addr)(ce:Nat)(xs:XV)(es:List QN)(p:Int)(w:World)(h:J2 w lo oe ce xs es)(hk:Jex xs)(hd0:∀x∈xs,x.2.length≤100000):
 Calls Tryz.prog 42 #[.agg #[.slice oe xs.length ce,.int .u8 p]] w (Jh w (.bool (!JJ p||JE xs))):=by
 have HX:=Jpa h
 have HCK:=Jpa hk
 have HD:=Jpa hd0
 have hn16:=hk.le
 have HCO:Hid (∀w',J2 w' lo oe ce xs es→Calls Tryz.prog 89 #[.slice oe xs.length ce,.func (.func 90) #[] #[]] w' (Jh w' (.bool false))):=Jpa (fun w' h'=>JgE lo oe ce xs es w' h' HCK.out.le HD.out HCK.out.right)
 have HLL:Hid (∀m,xs.length=m+1→∀x,xs[m]? =some x→JE xs=Qw x.1 x.2):=Jpa (fun m hm x hx=>by
  unfold JE
  rw[List.getLast?_eq_getElem?,hm,Nat.add_sub_cancel,hx])
 have HL0:Hid (xs.length=0→JE xs=false):=Jpa (fun h=>by rw[List.eq_nil_of_length_eq_zero h];rfl)
 obtain⟨n,hnn⟩:∃n,xs.length=n:=⟨_,rfl⟩
 have HN:=Jpa hnn
 rw[hnn] at hn16 HCO HLL HL0⊢
 clear h hk hd0 hnn
 have HB0:Hid (Below w.heap.size w (w.alloc (.cells #[.slice oe n ce,p] 96))):=Jpa (Below.all (Jpd _ _) _)
 have hbx:=heap_alloc_new w (.cells #[.slice oe n ce,p] 96)
 have HX0:=Jpa (HX.out.below HB0.out)
 generalize hLL:JE xs=LL at*
 generalize hBB:JJ p=BB at*
 go_enter Tryz.func42,Tryz.ntmps42
 have hn16d:decide ((16:Int)<(n:Int))=false:=by simp;omega
 go_wp2_with fail
 generalize hw0:w.alloc (.cells #[.slice oe n ce,p] 96)=w1 at*
 refine Jpc (HCO.out _ HX0.out) ?_
 rintro e w2 ⟨rfl,hb⟩
 have HB2:=Jpa (Jo3 HB0.out hb)
 have HX2:=Jpa (HX0.out.below hb)
 have HBX2:=Jpa ((hb.block _ (Jpb hbx).1).trans hbx)
 clear hb hbx HB0 HX0 HX hw0
 have hc0:w2.cell? ⟨w.heap.size,0,none⟩=some (.slice oe n ce):=cell_of_row _ _ 0 _ _ (0,0) HBX2.out
 go_wp2_with fail
 go_loopg [22] n (fun g u22 wr=>∃(z:World) (j:Nat),z=wr∧j+g=n∧u22=.int .i64 (j:Int)∧Hid (J2 z lo oe ce xs es)∧Hid (Below w.heap.size w z)∧Hid (z.heap[w.heap.size]? =some (.cells #[.slice oe n ce,p] 96 (0,0))))
 case atStart=>exact⟨_,0,rfl,by omega,rfl,HX2,HB2,HBX2⟩
 case round=>
  obtain⟨z,j,hz,hjg,rfl,HE,HB,HBX⟩:=hrel
  subst hz
  by_cases hlt:j<n
  ·obtain⟨x,hx⟩:∃x,xs[j]? =some x:=⟨_,List.getElem?_eq_getElem (by rw[HN.out];exact hlt)⟩
   obtain⟨g,off,oD,cD,rfl,hg,hq0,hq1,hrd⟩:=HE.out.ext j x hx
   have HRD:=Jpa hrd
   have hop:=HCK.out.hop j
   have hea:=HCK.out.early j
   have hdl:=HD.out x (List.mem_of_getElem? hx)
   obtain⟨k,d⟩:=x
   have hop':0<j→k≠0:=fun h=>hop h _ hx
   have hea':j+1<n→Qw k d=false:=fun h=>hea (by rw[HN.out];exact h) _ hx
   simp only at hq0 hq1 HRD hdl
   have HL:Hid (∀w',Ji w' oD d.length cD d→Calls Tryz.prog 92 #[.agg #[.int .u8 k,.slice oD d.length cD]] w' (Jh w' (.bool (Qw k d)))):=Jpa (fun w' h=>JcK k oD cD d w' h hdl)
   clear hrd hx hop hea hdl
   generalize Qw k d=XL at*
   have hd:decide ((j:Int)<(n:Int))=true:=by simp;omega
   have hj0:(k==0)=false∨((k==0)=true∧decide (0<j)=false):=by
    by_cases h:k=0
    ·refine .inr ⟨by simp[h],?_⟩
     have:¬0<j:=fun h'=>hop' h' h
     simp;omega
    ·exact .inl (by simpa using h)
   rcases hj0 with hk0|⟨hk0,hj0⟩
   all_goals
    go_wp2_with fail
    refine Jpc (HL.out _ (HRD.out.alloc _)) ?_
    rintro e z2 ⟨rfl,hb⟩
    have HB2:=Jpa (Jo3 HB.out (Jo3 (Below.all (Jpd _ _) _) hb))
    have HE2:=Jpa (HE.out.below (Jo3 (Below.all (Jpd _ _) _) hb))
    have HBX2:=Jpa (((Jo3 (Below.all (Jpd _ _) _) hb).block _ (Jpb HBX.out).1).trans HBX.out)
    clear hb HE HB HBX hq0 hq1 HRD HL
    cases XL
    ·go_wp2_with fail
     go_roundg (n-(j+1))
     case measure=>omega
     case rel=>exact⟨_,j+1,rfl,by omega,by go_num,HE2,HB2,HBX2⟩
    ·have hjn:¬j+1<n:=fun h=>by have:=hea' h;cases this
     have hjd:decide ((j:Int)<(n:Int)-1)=false:=by simp;omega
     go_wp2_with fail
     go_roundg (n-(j+1))
     case measure=>omega
     case rel=>exact⟨_,j+1,rfl,by omega,by go_num,HE2,HB2,HBX2⟩
  ·have hd:decide ((j:Int)<(n:Int))=false:=by simp;omega
   have hc0:z.cell? ⟨w.heap.size,0,none⟩=some (.slice oe n ce):=cell_of_row _ _ 0 _ _ (0,0) HBX.out
   have hc1:z.cell? ⟨w.heap.size,1,none⟩=some (.int .u8 p):=cell_of_row _ _ 1 _ _ (0,0) HBX.out
   have HBB:=Jpa hBB
   clear hBB
   cases BB
   ·go_wp2_with (go_at_call 93;refine(XD _ _).mono ?_;rintro e w' ⟨rfl,rfl⟩;rw[HBB.out])
    go_ret
    exact .mk rfl HB.out
   ·rcases Nat.eq_zero_or_pos n with hn0|hn0
    ·have hm:decide ((0:Int)≤(n:Int)-1)=false:=by simp;omega
     have hLf:LL=false:=HL0.out hn0
     go_wp2_with (go_at_call 93;refine(XD _ _).mono ?_;rintro e w' ⟨rfl,rfl⟩;rw[HBB.out])
     go_ret
     exact .mk (by rw[hLf];rfl) HB.out
    ·obtain⟨m,rfl⟩:∃m,n=m+1:=⟨n-1,by omega⟩
     obtain⟨x,hx⟩:∃x,xs[m]? =some x:=⟨_,List.getElem?_eq_getElem (by rw[HN.out];omega)⟩
     obtain⟨g,off,oD,cD,rfl,hg,hq0,hq1,hrd⟩:=HE.out.ext m x hx
     have HRD:=Jpa hrd
     have hdl:=HD.out x (List.mem_of_getElem? hx)
     have hlast:=HLL.out m rfl x hx
     obtain⟨k,d⟩:=x
     simp only at hq0 hq1 HRD hdl hlast
     have HL:Hid (∀w',Ji w' oD d.length cD d→Calls Tryz.prog 92 #[.agg #[.int .u8 k,.slice oD d.length cD]] w' (Jh w' (.bool (Qw k d)))):=Jpa (fun w' h=>JcK k oD cD d w' h hdl)
     rw[←hlast] at HL
     clear hrd hx hdl hlast
     have hm1:((m+1:Nat):Int)-1=(m:Int):=by omega
     have hm:decide ((0:Int)≤(m:Int))=true:=by simp
     have hmi:(m:Int)<(m:Int)+1:=by omega
     go_wp2_with (go_at_call 93;refine(XD _ _).mono ?_;rintro e w' ⟨rfl,rfl⟩;rw[HBB.out])
     refine Jpc (HL.out _ HRD.out) ?_
     rintro e z2 ⟨rfl,hb⟩
     go_wp2_with fail
     go_ret
     exact .mk rfl (Jo3 HB.out hb)
theorem Jcm:∀(xs:XV) (i:Nat),(J3 (fun x=>x.1==44) xs i=-1∧Zq xs=none)∨(∃(j:Nat) (d:List Int),J3 (fun x=>x.1==44) xs i=((i+j:Nat):Int)∧xs[j]? =some (44,d)∧Zq xs=some d)
 |[],_=>.inl ⟨rfl,rfl⟩
 |(k,d)::xs,i=>by
  by_cases h:k=44
  ·subst h
   exact .inr ⟨0,d,by simp[J3],rfl,rfl⟩
  ·have hb:(k==44)=false:=by simpa using h
   rcases Jcm xs (i+1) with ⟨h1,h2⟩|⟨j,d',h1,h2,h3⟩
   ·exact .inl ⟨by rw[J3];simp only[hb];exact h1,by rw[Zq,if_neg h];exact h2⟩
   ·refine .inr ⟨j+1,d',?_,by simpa using h2,by rw[Zq,if_neg h];exact h3⟩
    rw[J3];simp only[hb]
    rw[show i+(j+1)=i+1+j by omega];exact h1
def Jba (w:World)(xs:XV):Ending→World→Prop:=fun e w'=>(∃(id:Int) (ok:Bool),e=.returned (.tuple #[.int .u16 (Xv xs),.bool (QU xs),.int .u32 id,ok]))∧Below w.heap.size w w'
theorem Jm0 (lo:Nat)(oe:Option Addr)(ce:Nat)(xs:XV)(es:List QN)(p:Int)(w:World)(h:J2 w lo oe ce xs es)(hk:Jex xs)(hd0:∀x∈xs,x.2.length≤100000)(hp:JJ p=false∨JE xs=true):
 Calls Tryz.prog 141 #[.agg #[.slice oe xs.length ce,.int .u8 p]] w (Jba w xs):=by
 have HX:=Jpa h
 have hn16:=hk.le
 have HI:Hid (∀w',J2 w' lo oe ce xs es→Calls Tryz.prog 150 #[.slice oe xs.length ce,.func (.func 191) #[] #[]] w' (Jh w' (.int .i64 (J3 (fun x=>x.1==44) xs 0)))):=Jpa (fun w' h'=>Ji0 lo oe ce xs es w' h' hn16)
 have HRT:Hid (∀w',J2 w' lo oe ce xs es→Calls Tryz.prog 42 #[.agg #[.slice oe xs.length ce,.int .u8 p]] w' (Jh w' (.bool true))):=Jpa (fun w' h'=>by
  have:=Jek lo oe ce xs es p w' h' hk hd0
  rwa [show(!JJ p||JE xs)=true by rcases hp with h|h<;>rw[h]<;>simp] at this)
 have HB0:Hid (Below w.heap.size w (w.alloc (.cells #[.slice oe xs.length ce,p] 96))):=Jpa (Below.all (Jpd _ _) _)
 have hbx:=heap_alloc_new w (.cells #[.slice oe xs.length ce,p] 96)
 have HX0:=Jpa (HX.out.below HB0.out)
 rcases Jcm xs 0 with ⟨hf,hfo⟩|⟨j,d,hf,hxj,hfo⟩
 ·have HFP:Hid (Xv xs=0∧QU xs=false):=Jpa (by unfold Xv QU;rw[hfo];exact⟨rfl,rfl⟩)
  rw[hf] at HI
  clear h hk hd0 hp hf hfo hbx
  generalize xs.length=n at*
  go_enter Tryz.func141,Tryz.ntmps141
  go_wp2_with fail
  refine Jpc (HI.out _ HX0.out) ?_
  rintro e w2 ⟨rfl,hb⟩
  have HB2:=Jpa (Jo3 HB0.out hb)
  clear hb
  go_wp2_with fail
  refine bodyPost_ret (v:=.tuple #[Jpg,false,Jph,false]) (by simp[results,go_sem,Tryz.f141]) rfl ?_
  exact⟨⟨0,false,by rw[HFP.out.1,HFP.out.2]⟩,HB2.out⟩
 ·have HFP:Hid (Xv xs=QP d/8∧QU xs=(QP d%2==1)):=Jpa (by unfold Xv QU;rw[hfo];exact⟨rfl,rfl⟩)
  have hjn:=(List.getElem?_eq_some_iff.1 hxj).1
  have hrt:=hk.right _ (List.mem_of_getElem? hxj)
  have hd6:d.length=6:=by unfold JX at hrt;rw[if_pos rfl] at hrt;simp only[Bool.and_eq_true,decide_eq_true_eq] at hrt;exact hrt.1
  have HXJ:=Jpa hxj
  rw[hf,Nat.zero_add] at HI
  have HSY:Hid (∀w' oD cD,Ji w' oD d.length cD d→Calls Tryz.prog 151 #[.agg #[.int .u8 44,.slice oD d.length cD]] w' (Jh w' (JmS d))):=Jpa (fun w' oD cD h=>Jgu 44 oD cD d w' h (by omega))
  have HGT:Hid (∀w' oD cD,Ji w' oD d.length cD d→Calls Tryz.prog 81 #[.slice oD d.length cD,.int .i64 2,.int .i64 4] w' (Jh w' (.tuple #[.int .u64 (numAt d 2 4),.int .i64 0]))):=Jpa (fun w' oD cD h=>get_ok oD d.length cD d 2 4 w' h (by decide) (by decide) (by omega) (by omega))
  clear h hk hd0 hp hf hfo hrt hxj hd6
  unfold JmS at HSY
  generalize QP d=sd at*
  generalize numAt d 2 4=nd at*
  generalize xs.length=n at*
  go_enter Tryz.func141,Tryz.ntmps141
  go_wp2_with fail
  generalize hw0:w.alloc (.cells #[.slice oe n ce,p] 96)=w1 at*
  refine Jpc (HI.out _ HX0.out) ?_
  rintro e w2 ⟨rfl,hb⟩
  have HB2:=Jpa (Jo3 HB0.out hb)
  have HX2:=Jpa (HX0.out.below hb)
  have HBX2:=Jpa ((hb.block _ (Jpb hbx).1).trans hbx)
  clear hb hbx HB0 HX0 HX hw0 HI
  have hjd:decide ((j:Int)<0)=false:=by simp
  have hpt:Jf w2 w.heap.size 0 2=#[.slice oe n ce,.int .u8 p]:=Ja HBX2.out rfl
  go_wp2_with fail
  refine Jpc (HRT.out _ HX2.out) ?_
  rintro e w3 ⟨rfl,hb⟩
  have HB3:=Jpa (Jo3 HB2.out hb)
  have HX3:=Jpa (HX2.out.below hb)
  have HBX3:=Jpa ((hb.block _ (Jpb HBX2.out).1).trans HBX2.out)
  clear hb HB2 HX2 HBX2 hpt HRT
  obtain⟨g,off,oD,cD,rfl,hg,hq0,hq1,hrd⟩:=HX3.out.ext j _ HXJ.out
  have hc0:w3.cell? ⟨w.heap.size,0,none⟩=some (.slice (some ⟨g,off,none⟩) n ce):=cell_of_row _ _ 0 _ _ (0,0) HBX3.out
  have hjn':(j:Int)<(n:Int):=by omega
  simp only at hq0 hq1 hrd
  have HRD:=Jpa hrd
  clear hrd
  go_wp2_with fail
  refine Jpc (HSY.out _ oD cD HRD.out) ?_
  rintro e w4 ⟨rfl,hb⟩
  have HB4:=Jpa (Jo3 HB3.out hb)
  have HRD4:=Jpa (HRD.out.below hb)
  have hq1':w4.cell? ⟨g,off+j*2+1,none⟩=some (.slice oD d.length cD):=(Je hb hg (⟨g,off+j*2+1,none⟩:Addr) rfl).trans hq1
  have hc0':w4.cell? ⟨w.heap.size,0,none⟩=some (.slice (some ⟨g,off,none⟩) n ce):=(Je hb (Jpb HBX3.out).1 (⟨w.heap.size,0,none⟩:Addr) rfl).trans hc0
  clear hb HB3 HX3 HBX3 hq0 hq1 hc0 HRD
  go_wp2_with fail
  refine Jpc (HGT.out _ oD cD HRD4.out) ?_
  rintro e w5 ⟨rfl,hb⟩
  have HB5:=Jpa (Jo3 HB4.out hb)
  clear hb
  go_wp2_with fail
  refine bodyPost_ret (v:=.tuple #[.int .u16 (sd/8),.bool (sd%2==1),.int .u32 (nd%4294967296),true]) (by simp[results,go_sem,Tryz.f141]) rfl ?_
  exact⟨⟨_,true,by rw[HFP.out.1,HFP.out.2]⟩,HB5.out⟩
theorem X3 (l:List Int)(hl:Jl l)(j:Nat)(h:j<l.length)(i:Int)(hi:i=(j:Int))(w:World):(Instr.index 9 (.string (strOfNums l)) (.int .i64 i)).run Tryz.prog w=.ok (.int .u8 (l.getD j 0)) w:=by
 subst hi
 have hs:j<(strOfNums l).size:=by rw[strOfNums_size];exact h
 have h2:=Jjy l hl j h
 rw[JjR (strOfNums l) j hs _ rfl w,←h2]
 congr 3
 show _=((strOfNums l).data.toList.getD j 0).toNat
 rw[List.getD_eq_getElem?_getD,Array.getElem?_toList,Array.getElem?_eq_getElem (by rw[ByteArray.size_data];exact hs)]
 rfl
theorem Zn (k:Int)(d:List Int)(w:World)(hd:Jl d)(hn:d.length≤100000):
 Calls Tryz.prog 193 #[.agg #[.int .u8 k,.string (strOfNums d)]] w (Jh w (.bool (JX k d))):=by
 have hsz:(strOfNums d).size=d.length:=strOfNums_size _
 have HV:Hid (JX k d=if k=44 then decide (d.length=6)&&decide (QP d/2%4=0) else JJ k&&(decide (d.length%8=6)&&decide (d.length≤2046))):=Jpa rfl
 generalize JX k d=V at*
 by_cases h44:k=44
 ·subst h44
  by_cases h6:d.length=6
  ·have hix:=fun w=>X3 d hd 1 (by omega) 1 rfl w
   have hv:=Jy hd 1
   have hv0:=Jy hd 0
   have HS:Hid (QP d/2%4=d.getD 1 0/2%4):=Jpa (by unfold QP w2;rw[if_neg (by omega)];simp only[Nat.zero_add];omega)
   generalize d.getD 1 0=v at*
   generalize strOfNums d=S at*
   have hn6:((S.size:Int)==6)=true:=by rw[hsz];simp;omega
   have ht1:Int.tdiv v 2=v/2:=Int.tdiv_eq_ediv_of_nonneg hv.1
   have ht2:Int.tmod (v/2) 4=v/2%4:=Int.tmod_eq_emod_of_nonneg (by omega)
   have HE:Hid (V=(v/2%4==0)):=Jpa (by rw[HV.out,if_pos rfl,h6,HS.out];simp only[decide_true,Bool.true_and];rfl)
   clear HV HS hv0 hd
   go_enter Tryz.func193,Tryz.ntmps193
   go_wp2_with fail
   go_ret
   exact .mk (JK HE.out.symm) (Below.all (Jpd _ _) _)
  ·have HE:Hid (V=false):=Jpa (by rw[HV.out,if_pos rfl,decide_eq_false h6];rfl)
   generalize strOfNums d=S at*
   have hn6:((S.size:Int)==6)=false:=by rw[hsz];simp;omega
   clear HV hd
   go_enter Tryz.func193,Tryz.ntmps193
   go_wp2_with fail
   go_ret
   exact .mk (JK HE.out.symm) (Below.all (Jpd _ _) _)
 ·have hk:(k==44)=false:=by simpa using h44
  have hkd:decide (k=44)=false:=by simpa using h44
  have HE:Hid (V=(JJ k&&(decide (d.length%8=6)&&decide (d.length≤2046)))):=Jpa (by rw[HV.out,if_neg h44])
  generalize strOfNums d=S at*
  generalize d.length=n at*
  have HK:Hid (∀w',Calls Tryz.prog 192 #[k] w' fun e w''=>e=.returned (.bool (JJ k))∧w'=w''):=Jpa (fun w'=>Jd7 k w')
  generalize JJ k=B at*
  have htm:Int.tmod (S.size:Int) 8=(S.size:Int)%8:=Int.tmod_eq_emod_of_nonneg (by omega)
  clear HV hd h44
  cases B
  ·go_enter Tryz.func193,Tryz.ntmps193
   go_wp2_with fail
   refine Jpc (HK.out _) ?_
   rintro e w2 ⟨rfl,rfl⟩
   go_wp2_with fail
   go_ret
   exact .mk (JK HE.out.symm) (Below.all (Jpd _ _) _)
  ·by_cases h8:n%8=6
   ·have h8':((S.size:Int)%8==6)=true:=by rw[hsz];simp;omega
    go_enter Tryz.func193,Tryz.ntmps193
    go_wp2_with fail
    refine Jpc (HK.out _) ?_
    rintro e w2 ⟨rfl,rfl⟩
    go_wp2_with fail
    go_ret
    refine .mk (JK ?_) (Below.all (Jpd _ _) _)
    rw[HE.out,decide_eq_true h8]
    simp only[Bool.true_and,decide_eq_decide]
    omega
   ·have h8':((S.size:Int)%8==6)=false:=by rw[hsz];simp;omega
    go_enter Tryz.func193,Tryz.ntmps193
    go_wp2_with fail
    refine Jpc (HK.out _) ?_
    rintro e w2 ⟨rfl,rfl⟩
    go_wp2_with fail
    go_ret
    refine .mk (JK ?_) (Below.all (Jpd _ _) _)
    rw[HE.out,decide_eq_false h8]
    rfl
theorem Jbb (k:Int)(d:List Int)(w:World)(hd:Jl d)(hn:d.length≤100000):
 Calls Tryz.prog 194 #[.agg #[.int .u8 k,.string (strOfNums d)]] w (Jh w (.bool (Qw k d))):=by
 have hsz:(strOfNums d).size=d.length:=strOfNums_size _
 have HV:Hid (Qw k d=(decide (k=44)&&decide (0<QP d/8))):=Jpa rfl
 generalize Qw k d=V at*
 by_cases h44:k=44
 ·subst h44
  by_cases h2:d.length<2
  ·have HE:Hid (V=false):=Jpa (by rw[HV.out];unfold QP;rw[if_pos h2];rfl)
   generalize strOfNums d=S at*
   have hn6:decide ((S.size:Int)>1)=false:=by rw[hsz];simp;omega
   have hn7:decide ((1:Int)<(S.size:Int))=false:=by rw[hsz];simp;omega
   clear HV hd
   go_enter Tryz.func194,Tryz.ntmps194
   go_wp2_with fail
   go_ret
   exact .mk (JK HE.out.symm) (Below.all (Jpd _ _) _)
  ·have hix0:=fun w=>X3 d hd 0 (by omega) 0 rfl w
   have hix:=fun w=>X3 d hd 1 (by omega) 1 rfl w
   have hv:=Jy hd 1
   have hv0:=Jy hd 0
   have HS:Hid (QP d=d.getD 0 0*256+d.getD 1 0):=Jpa (by unfold QP w2;rw[if_neg h2])
   generalize d.getD 1 0=v at*
   generalize d.getD 0 0=v0 at*
   generalize strOfNums d=S at*
   have hn6:decide ((S.size:Int)>1)=true:=by rw[hsz];simp;omega
   have hn7:decide ((1:Int)<(S.size:Int))=true:=by rw[hsz];simp;omega
   clear hd
   by_cases h0:0<v0
   ·have HE:Hid (V=true):=Jpa (by rw[HV.out,HS.out];simp;omega)
    have h0':decide (0<v0)=true:=by simpa using h0
    clear HV HS
    go_enter Tryz.func194,Tryz.ntmps194
    go_wp2_with fail
    go_ret
    exact .mk (JK HE.out.symm) (Below.all (Jpd _ _) _)
   ·have HE:Hid (V=decide (8≤v)):=Jpa (by rw[HV.out,HS.out];simp;omega)
    have h0':decide (0<v0)=false:=by simpa using h0
    clear HV HS
    go_enter Tryz.func194,Tryz.ntmps194
    go_wp2_with fail
    go_ret
    exact .mk (JK HE.out.symm) (Below.all (Jpd _ _) _)
 ·have hk:(k==44)=false:=by simpa using h44
  have hkd:decide (k=44)=false:=by simpa using h44
  have HE:Hid (V=false):=Jpa (by rw[HV.out,hkd];rfl)
  generalize strOfNums d=S at*
  clear HV hd h44
  go_enter Tryz.func194,Tryz.ntmps194
  go_wp2_with fail
  go_ret
  exact .mk (JK HE.out.symm) (Below.all (Jpd _ _) _)
theorem JgF (l:List Int):strOfNums l=ByteArray.mk (l.map fun v=>UInt8.ofNat v.toNat).toArray:=by
 apply ByteArray.ext
 apply Array.ext'
 rw[strOfNums_data]
theorem Jfm (l:List Int)(i j:Nat)(hij:i≤j)(hj:j≤l.length)(iv jv:Int)(hi:iv=(i:Int))(hjv:jv=(j:Int))(w:World):
 (Instr.slice 9 (.string (strOfNums l)) (some (.int .i64 iv)) (some (.int .i64 jv)) none).run Tryz.prog w=.ok (.string (strOfNums ((l.take j).drop i))) w:=by
 subst hi hjv
 rw[run_slice_string w 9 (strOfNums l) .i64 .i64 (i:Int) (j:Int) Tryz.underlying9 (by omega) (by omega) (by rw[strOfNums_size];omega),Int.toNat_natCast,Int.toNat_natCast,JgF,ByteArray.extract_mk,JgF,List.drop_take,List.map_take,List.map_drop]
theorem Jbs (l:List Int)(i:Nat)(hi:i≤l.length)(iv:Int)(hiv:iv=(i:Int))(w:World):
 (Instr.slice 9 (.string (strOfNums l)) (some (.int .i64 iv)) none none).run Tryz.prog w=.ok (.string (strOfNums (l.drop i))) w:=by
 subst hiv
 rw[run_slice_string_l w 9 (strOfNums l) Tryz.underlying9 .i64 (i:Int) (by omega) (by rw[strOfNums_size];omega),Int.toNat_natCast,strOfNums_size,JgF,ByteArray.extract_mk,JgF,List.map_drop,List.take_of_length_le (by rw[List.length_drop,List.length_map];exact Jpf _)]
def rtC (s:Seg):Array Value:=(JpA (.int .u8 s.proto) (.int .u16 s.src) (.int .u16 s.dst) (.int .u32 s.seq) (.int .u32 s.ack) (.int .u8 s.flags) (.int .u16 s.win) (.int .u16 s.urg) (.string (strOfNums s.opt)) (.int .u8 s.type) (.int .u8 s.code) (.string (strOfNums s.data)))
def rtZ:Array Value:=Jpv
theorem Joy:rtC JnS=rtZ:=rfl
def rtR (p:Int)(l:List Int):Value:=.tuple #[.agg (rtC (JT p l)),.int .i64 (Zh p l)]
theorem Xj {w w':World}{V:Value}{cs:Array Value}{err:Int}{tmps:Array Value}(b:Nat)(hp:tmps.getD 4 undef=.pointer (some ⟨b,0,none⟩))(h5:tmps.getD 5 undef=.int .i64 err)(hc:Jf w' b 0 12=cs)(hs:cs.size=12)(hv:V=.tuple #[.agg cs,.int .i64 err])(hb:Below w.heap.size w w'):
 bodyPost Tryz.prog Tryz.f87 (Jh w V) .ret { tmps:=tmps,defers:=[] } w':=
 bodyPost_ret (v:=.tuple #[.agg cs,.int .i64 err]) (Qi rfl _ _ b 12 _ _ Tryz.underlying102 rfl Jll hp h5 cs hc hs) rfl (.mk hv.symm hb)
theorem ZO {p:Int}{l:List Int}{err:Int}(h:Zh p l=err)(h0:err≠0):rtR p l=.tuple #[.agg rtZ,.int .i64 err]:=by
 unfold rtR JT;rw[h,if_neg h0,Joy]
theorem JhT (p:Int)(hp:p=1∨p=58)(l:List Int)(hl:Jl l)(hn:l.length≤100000)(w:World):
 Calls Tryz.prog 87 #[p,.string (strOfNums l)] w (Jh w (rtR p l)):=by
 have hth:tHead p=4:=by rcases hp with rfl|rfl<;>rfl
 have HH:Hid (∀w',Calls Tryz.prog 96 #[p] w' (Jh w' (.int .i64 4))):=Jpa (fun w'=>by have:=Jej p w';rw[hth] at this;exact this)
 have HX:=Jpa (heap_alloc_new w (.cells Jpv 102))
 have HB:Hid (Below w.heap.size w (w.alloc (.cells Jpv 102))):=Jpa (Below.all (Jpd _ _) _)
 obtain⟨S,hS⟩:∃S,strOfNums l=S:=⟨_,rfl⟩
 have hsz:S.size=l.length:=by rw[←hS,strOfNums_size]
 have HT:Hid (Zh p l=if l.length<4 then 10 else if 65535<l.length then 51 else if p=6 then (if Jfa l<20 then 51 else if l.length<Jfa l then 10 else 0) else if p=17 then (if w2 l 4<8 then 51 else if (l.length:Int)<w2 l 4 then 10 else 0) else 0):=Jpa (by unfold Zh;rw[hth,if_neg (by decide)])
 obtain⟨b4,hb4⟩:∃b,b=w.heap.size:=⟨_,rfl⟩
 have HB4:=Jpa hb4
 obtain⟨n,hnn⟩:∃n,l.length=n:=⟨_,rfl⟩
 have HN:=Jpa hnn
 rw[hnn] at hsz HT hn
 by_cases h1:n<4
 ·have hd1:decide ((n:Int)<4)=true:=by simp;omega
  have HE:=Jpa (ZO (err:=10) (by rw[HT.out,if_pos h1]) (by decide))
  rw[HE.out,hS]
  clear HE HT hth hS hnn
  go_enter Tryz.func87,Tryz.ntmps87
  go_wp2_with fail
  rw[←hb4] at HX⊢
  generalize w.alloc (.cells Jpv 102)=y at*
  refine Jpc (HH.out _) ?_
  rintro e y1 ⟨rfl,hb⟩
  have HX1:=Jpa ((hb.block _ (Jpb HX.out).1).trans HX.out)
  have HB1:=Jpa (Jo3 HB.out hb)
  clear hb HX HB hb4
  go_wp2_with fail
  refine Jpc (HH.out _) ?_
  rintro e y2 ⟨rfl,hb⟩
  have HX2:=Jpa ((hb.block _ (Jpb HX1.out).1).trans HX1.out)
  have HB2:=Jpa (Jo3 HB1.out hb)
  have hrf:Jg y2 b4 12=true:=by rw[Jc _ _ _ _ _ HX2.out];rfl
  have hlt4:b4<y2.heap.size:=(Jpb HX2.out).1
  clear hb HX1 HB1
  go_wp2_with fail
  exact Xj (cs:=rtZ) b4 rfl rfl (Ja (Jd HX2.out) rfl) rfl rfl (HB2.out.trans (Jb _ (Nat.le_of_eq HB4.out.symm)))
 have hd1:decide ((n:Int)<4)=false:=by simp;omega
 by_cases h2:65535<n
 ·have hd2:decide ((n:Int)>65535)=true:=by simp;omega
  have HE:=Jpa (ZO (err:=51) (by rw[HT.out,if_neg h1,if_pos h2]) (by decide))
  rw[HE.out,hS]
  clear HE HT hth hS hnn
  go_enter Tryz.func87,Tryz.ntmps87
  go_wp2_with fail
  rw[←hb4] at HX⊢
  generalize w.alloc (.cells Jpv 102)=y at*
  refine Jpc (HH.out _) ?_
  rintro e y1 ⟨rfl,hb⟩
  have HX1:=Jpa ((hb.block _ (Jpb HX.out).1).trans HX.out)
  have HB1:=Jpa (Jo3 HB.out hb)
  clear hb HX HB hb4
  go_wp2_with fail
  refine Jpc (HH.out _) ?_
  rintro e y2 ⟨rfl,hb⟩
  have HX2:=Jpa ((hb.block _ (Jpb HX1.out).1).trans HX1.out)
  have HB2:=Jpa (Jo3 HB1.out hb)
  have hrf:Jg y2 b4 12=true:=by rw[Jc _ _ _ _ _ HX2.out];rfl
  have hlt4:b4<y2.heap.size:=(Jpb HX2.out).1
  clear hb HX1 HB1
  go_wp2_with fail
  exact Xj (cs:=rtZ) b4 rfl rfl (Ja (Jd HX2.out) rfl) rfl rfl (HB2.out.trans (Jb _ (Nat.le_of_eq HB4.out.symm)))
 have hd2:decide ((n:Int)>65535)=false:=by simp;omega
 have HE0:Hid (Zh p l=0):=Jpa (by rw[HT.out,if_neg h1,if_neg h2,if_neg (by omega),if_neg (by omega)])
 have HV:Hid (rtR p l=.tuple #[.agg #[.int .u8 p,.int .u16 0,.int .u16 0,.int .u32 0,.int .u32 0,.int .u8 0,.int .u16 0,.int .u16 0,.string ⟨#[]⟩,.int .u8 (l.getD 0 0),.int .u8 (l.getD 1 0),.string (strOfNums (l.drop 4))],.int .i64 0]):=Jpa (by
  unfold rtR JT Jlf rtC;rw[HE0.out,if_pos rfl,if_neg (by omega),if_neg (by omega)];rfl)
 have b6:(p==6)=false:=by rcases hp with rfl|rfl<;>rfl
 have b17:(p==17)=false:=by rcases hp with rfl|rfl<;>rfl
 have hi0:=fun w=>X3 l hl 0 (by omega) 0 rfl w
 have hi1:=fun w=>X3 l hl 1 (by omega) 1 rfl w
 have hs4:=fun w=>Jbs l 4 (by omega) 4 rfl w
 rw[HV.out]
 rw[hS] at hi0 hi1 hs4⊢
 generalize l.getD 0 0=v0 at*
 generalize l.getD 1 0=v1 at*
 generalize strOfNums (l.drop 4)=R at*
 clear HE0 HT hth hS hnn HV
 go_enter Tryz.func87,Tryz.ntmps87
 go_wp2_with fail
 rw[←hb4] at HX⊢
 generalize w.alloc (.cells Jpv 102)=y at*
 refine Jpc (HH.out _) ?_
 rintro e y1 ⟨rfl,hb⟩
 have HX1:=Jpa ((hb.block _ (Jpb HX.out).1).trans HX.out)
 have HB1:=Jpa (Jo3 HB.out hb)
 clear hb HX HB hb4
 go_wp2_with fail
 refine Jpc (HH.out _) ?_
 rintro e y2 ⟨rfl,hb⟩
 have HX2:=Jpa ((hb.block _ (Jpb HX1.out).1).trans HX1.out)
 have HB2:=Jpa (Jo3 HB1.out hb)
 have hrf:Jg y2 b4 12=true:=by rw[Jc _ _ _ _ _ HX2.out];rfl
 have hlt4:b4<y2.heap.size:=(Jpb HX2.out).1
 clear hb HX1 HB1
 go_wp2_with fail
 refine Xj (cs:=(Jqb p v0 v1 (.string R))) b4 rfl rfl ?_ rfl rfl ?_
 ·exact Ja ((heap_alloc_old _ _ (by simpa using hlt4)).trans (Jd HX2.out)) rfl
 ·exact Below.all (HB2.out.trans (Jb _ (Nat.le_of_eq HB4.out.symm))) _
theorem Ji1 (p:Int)(hp:p=17)(l:List Int)(hl:Jl l)(hn:l.length≤100000)(w:World):
 Calls Tryz.prog 87 #[p,.string (strOfNums l)] w (Jh w (rtR p l)):=by
 have hth:tHead p=8:=by subst hp;rfl
 have HH:Hid (∀w',Calls Tryz.prog 96 #[p] w' (Jh w' (.int .i64 8))):=Jpa (fun w'=>by have:=Jej p w';rw[hth] at this;exact this)
 have HX:=Jpa (heap_alloc_new w (.cells Jpv 102))
 have HB:Hid (Below w.heap.size w (w.alloc (.cells Jpv 102))):=Jpa (Below.all (Jpd _ _) _)
 obtain⟨S,hS⟩:∃S,strOfNums l=S:=⟨_,rfl⟩
 have hsz:S.size=l.length:=by rw[←hS,strOfNums_size]
 have HT:Hid (Zh p l=if l.length<8 then 10 else if 65535<l.length then 51 else if p=6 then (if Jfa l<20 then 51 else if l.length<Jfa l then 10 else 0) else if p=17 then (if w2 l 4<8 then 51 else if (l.length:Int)<w2 l 4 then 10 else 0) else 0):=Jpa (by unfold Zh;rw[hth,if_neg (by decide)])
 obtain⟨b4,hb4⟩:∃b,b=w.heap.size:=⟨_,rfl⟩
 have HB4:=Jpa hb4
 obtain⟨n,hnn⟩:∃n,l.length=n:=⟨_,rfl⟩
 have HN:=Jpa hnn
 rw[hnn] at hsz HT hn
 subst hp
 by_cases h1:n<8
 ·have hd1:decide ((n:Int)<8)=true:=by simp;omega
  have HE:=Jpa (ZO (err:=10) (by rw[HT.out,if_pos h1]) (by decide))
  rw[HE.out,hS]
  clear HE HT hth hS hnn
  go_enter Tryz.func87,Tryz.ntmps87
  go_wp2_with fail
  rw[←hb4] at HX⊢
  generalize w.alloc (.cells Jpv 102)=y at*
  refine Jpc (HH.out _) ?_
  rintro e y1 ⟨rfl,hb⟩
  have HX1:=Jpa ((hb.block _ (Jpb HX.out).1).trans HX.out)
  have HB1:=Jpa (Jo3 HB.out hb)
  clear hb HX HB hb4
  go_wp2_with fail
  refine Jpc (HH.out _) ?_
  rintro e y2 ⟨rfl,hb⟩
  have HX2:=Jpa ((hb.block _ (Jpb HX1.out).1).trans HX1.out)
  have HB2:=Jpa (Jo3 HB1.out hb)
  have hrf:Jg y2 b4 12=true:=by rw[Jc _ _ _ _ _ HX2.out];rfl
  have hlt4:b4<y2.heap.size:=(Jpb HX2.out).1
  clear hb HX1 HB1
  go_wp2_with fail
  exact Xj (cs:=rtZ) b4 rfl rfl (Ja (Jd HX2.out) rfl) rfl rfl (HB2.out.trans (Jb _ (Nat.le_of_eq HB4.out.symm)))
 have hd1:decide ((n:Int)<8)=false:=by simp;omega
 by_cases h2:65535<n
 ·have hd2:decide ((n:Int)>65535)=true:=by simp;omega
  have HE:=Jpa (ZO (err:=51) (by rw[HT.out,if_neg h1,if_pos h2]) (by decide))
  rw[HE.out,hS]
  clear HE HT hth hS hnn
  go_enter Tryz.func87,Tryz.ntmps87
  go_wp2_with fail
  rw[←hb4] at HX⊢
  generalize w.alloc (.cells Jpv 102)=y at*
  refine Jpc (HH.out _) ?_
  rintro e y1 ⟨rfl,hb⟩
  have HX1:=Jpa ((hb.block _ (Jpb HX.out).1).trans HX.out)
  have HB1:=Jpa (Jo3 HB.out hb)
  clear hb HX HB hb4
  go_wp2_with fail
  refine Jpc (HH.out _) ?_
  rintro e y2 ⟨rfl,hb⟩
  have HX2:=Jpa ((hb.block _ (Jpb HX1.out).1).trans HX1.out)
  have HB2:=Jpa (Jo3 HB1.out hb)
  have hrf:Jg y2 b4 12=true:=by rw[Jc _ _ _ _ _ HX2.out];rfl
  have hlt4:b4<y2.heap.size:=(Jpb HX2.out).1
  clear hb HX1 HB1
  go_wp2_with fail
  exact Xj (cs:=rtZ) b4 rfl rfl (Ja (Jd HX2.out) rfl) rfl rfl (HB2.out.trans (Jb _ (Nat.le_of_eq HB4.out.symm)))
 have hd2:decide ((n:Int)>65535)=false:=by simp;omega
 have HE1:Hid (Zh 17 l=if w2 l 4<8 then 51 else if (n:Int)<w2 l 4 then 10 else 0):=Jpa (by rw[HT.out,if_neg h1,if_neg h2,if_neg (by decide),if_pos rfl])
 have HN4:Hid (∀w',Calls Tryz.prog 149 #[.string (strOfNums l),.int .i64 4,.int .i64 2] w' (Jh w' (.int .u64 (w2 l 4)))):=Jpa (fun w'=>by
  have:=Q0 l hl 4 2 (by decide) (by decide) (by omega) (by omega) 4 2 rfl rfl w'
  rwa [JY l 4 (by omega)] at this)
 have HN0:Hid (∀w',Calls Tryz.prog 149 #[.string (strOfNums l),.int .i64 0,.int .i64 2] w' (Jh w' (.int .u64 (w2 l 0)))):=Jpa (fun w'=>by
  have:=Q0 l hl 0 2 (by decide) (by decide) (by omega) (by omega) 0 2 rfl rfl w'
  rwa [JY l 0 (by omega)] at this)
 have HN2:Hid (∀w',Calls Tryz.prog 149 #[.string (strOfNums l),.int .i64 2,.int .i64 2] w' (Jh w' (.int .u64 (w2 l 2)))):=Jpa (fun w'=>by
  have:=Q0 l hl 2 2 (by decide) (by decide) (by omega) (by omega) 2 2 rfl rfl w'
  rwa [JY l 2 (by omega)] at this)
 have hw:=QB hl 4
 have hw0:=QB hl 0
 have hw2:=QB hl 2
 obtain⟨N,hN⟩:∃N:Nat,w2 l 4=(N:Int):=⟨(w2 l 4).toNat,by omega⟩
 have HNN:=Jpa hN
 rw[hN] at HE1 HN4 hw
 have hN0:(0:Int)≤(N:Int):=by omega
 have hN1:(N:Int)≤65535:=by omega
 by_cases h8:N<8
 ·have hd8:decide ((N:Int)<8)=true:=by simp;omega
  have HE:=Jpa (ZO (err:=51) (by rw[HE1.out,if_pos (by omega)]) (by decide))
  rw[HE.out]
  rw[hS] at HN4⊢
  clear HE HE1 HT hth hS hnn hN hw HN0 HN2 hw0 hw2
  go_enter Tryz.func87,Tryz.ntmps87
  go_wp2_with fail
  rw[←hb4] at HX⊢
  generalize w.alloc (.cells Jpv 102)=y at*
  refine Jpc (HH.out _) ?_
  rintro e y1 ⟨rfl,hb⟩
  have HX1:=Jpa ((hb.block _ (Jpb HX.out).1).trans HX.out)
  have HB1:=Jpa (Jo3 HB.out hb)
  clear hb HX HB hb4
  go_wp2_with fail
  refine Jpc (HH.out _) ?_
  rintro e y2 ⟨rfl,hb⟩
  have HX2:=Jpa ((hb.block _ (Jpb HX1.out).1).trans HX1.out)
  have HB2:=Jpa (Jo3 HB1.out hb)
  have hrf:Jg y2 b4 12=true:=by rw[Jc _ _ _ _ _ HX2.out];rfl
  have hlt4:b4<y2.heap.size:=(Jpb HX2.out).1
  clear hb HX1 HB1
  go_wp2_with fail
  have HSb:=Jpa (heap_alloc_new y2 (.cells (Jpz (17:Int)) 102))
  have HX2b:Hid (_=_):=Jpa ((heap_alloc_old y2 (.cells (Jpz (17:Int)) 102) hlt4).trans HX2.out)
  have HB2b:Hid (Below w.heap.size w (y2.alloc (.cells (Jpz (17:Int)) 102))):=Jpa (Below.all HB2.out _)
  obtain⟨b6,hb6⟩:∃b,b=y2.heap.size:=⟨_,rfl⟩
  rw[←hb6] at HSb⊢
  have hne6:b4≠b6:=by omega
  have HB6:Hid (w.heap.size≤b6):=Jpa (by rw[hb6];exact HB2.out.size)
  generalize y2.alloc (.cells (Jpz (17:Int)) 102)=y2b at*
  clear hb6 HX2 HB2 hrf hlt4
  go_wp2_with fail
  refine Jpc (HN4.out _) ?_
  rintro e y3 ⟨rfl,hb⟩
  have HX3:=Jpa ((hb.block _ (Jpb HX2b.out).1).trans HX2b.out)
  have HB3:=Jpa (Jo3 HB2b.out hb)
  have HS3:=Jpa ((hb.block _ (Jpb HSb.out).1).trans HSb.out)
  have hlt3:b4<y3.heap.size:=(Jpb HX3.out).1
  have hrf:Jg y3 b4 12=true:=by rw[Jc _ _ _ _ _ HX3.out];rfl
  clear hb HX2b HB2b HSb
  go_wp2_with fail
  exact Xj (cs:=rtZ) b4 rfl rfl (Ja (Jd HX3.out) rfl) rfl rfl (HB3.out.trans (Jb _ (Nat.le_of_eq HB4.out.symm)))
 have hd8:decide ((N:Int)<8)=false:=by simp;omega
 by_cases hlN:n<N
 ·have hdN:decide ((n:Int)<(N:Int))=true:=by simp;omega
  have HE:=Jpa (ZO (err:=10) (by rw[HE1.out,if_neg (by omega),if_pos (by omega)]) (by decide))
  rw[HE.out]
  rw[hS] at HN4⊢
  clear HE HE1 HT hth hS hnn hN hw HN0 HN2 hw0 hw2
  go_enter Tryz.func87,Tryz.ntmps87
  go_wp2_with fail
  rw[←hb4] at HX⊢
  generalize w.alloc (.cells Jpv 102)=y at*
  refine Jpc (HH.out _) ?_
  rintro e y1 ⟨rfl,hb⟩
  have HX1:=Jpa ((hb.block _ (Jpb HX.out).1).trans HX.out)
  have HB1:=Jpa (Jo3 HB.out hb)
  clear hb HX HB hb4
  go_wp2_with fail
  refine Jpc (HH.out _) ?_
  rintro e y2 ⟨rfl,hb⟩
  have HX2:=Jpa ((hb.block _ (Jpb HX1.out).1).trans HX1.out)
  have HB2:=Jpa (Jo3 HB1.out hb)
  have hrf:Jg y2 b4 12=true:=by rw[Jc _ _ _ _ _ HX2.out];rfl
  have hlt4:b4<y2.heap.size:=(Jpb HX2.out).1
  clear hb HX1 HB1
  go_wp2_with fail
  have HSb:=Jpa (heap_alloc_new y2 (.cells (Jpz (17:Int)) 102))
  have HX2b:Hid (_=_):=Jpa ((heap_alloc_old y2 (.cells (Jpz (17:Int)) 102) hlt4).trans HX2.out)
  have HB2b:Hid (Below w.heap.size w (y2.alloc (.cells (Jpz (17:Int)) 102))):=Jpa (Below.all HB2.out _)
  obtain⟨b6,hb6⟩:∃b,b=y2.heap.size:=⟨_,rfl⟩
  rw[←hb6] at HSb⊢
  have hne6:b4≠b6:=by omega
  have HB6:Hid (w.heap.size≤b6):=Jpa (by rw[hb6];exact HB2.out.size)
  generalize y2.alloc (.cells (Jpz (17:Int)) 102)=y2b at*
  clear hb6 HX2 HB2 hrf hlt4
  go_wp2_with fail
  refine Jpc (HN4.out _) ?_
  rintro e y3 ⟨rfl,hb⟩
  have HX3:=Jpa ((hb.block _ (Jpb HX2b.out).1).trans HX2b.out)
  have HB3:=Jpa (Jo3 HB2b.out hb)
  have HS3:=Jpa ((hb.block _ (Jpb HSb.out).1).trans HSb.out)
  have hlt3:b4<y3.heap.size:=(Jpb HX3.out).1
  have hrf:Jg y3 b4 12=true:=by rw[Jc _ _ _ _ _ HX3.out];rfl
  clear hb HX2b HB2b HSb
  go_wp2_with fail
  exact Xj (cs:=rtZ) b4 rfl rfl (Ja (Jd HX3.out) rfl) rfl rfl (HB3.out.trans (Jb _ (Nat.le_of_eq HB4.out.symm)))
 have hdN:decide ((n:Int)<(N:Int))=false:=by simp;omega
 have HE0:Hid (Zh 17 l=0):=Jpa (by rw[HE1.out,if_neg (by omega),if_neg (by omega)])
 have HV:Hid (rtR 17 l=.tuple #[.agg #[.int .u8 17,.int .u16 (w2 l 0),.int .u16 (w2 l 2),.int .u32 0,.int .u32 0,.int .u8 0,.int .u16 0,.int .u16 0,.string ⟨#[]⟩,.int .u8 0,.int .u8 0,.string (strOfNums ((l.take N).drop 8))],.int .i64 0]):=Jpa (by
  unfold rtR JT Jlf rtC;rw[HE0.out,if_pos rfl,if_neg (by decide),if_pos rfl,HNN.out,Int.toNat_natCast];rfl)
 have hs8:=fun w=>Jfm l 8 N (by omega) (by omega) 8 (N:Int) rfl rfl w
 rw[HV.out]
 rw[hS] at HN4 HN0 HN2 hs8⊢
 generalize w2 l 0=v0 at*
 generalize w2 l 2=v2 at*
 generalize strOfNums ((l.take N).drop 8)=R at*
 clear HE0 HE1 HT hth hS hnn HV hN hw
 go_enter Tryz.func87,Tryz.ntmps87
 go_wp2_with fail
 rw[←hb4] at HX⊢
 generalize w.alloc (.cells Jpv 102)=y at*
 refine Jpc (HH.out _) ?_
 rintro e y1 ⟨rfl,hb⟩
 have HX1:=Jpa ((hb.block _ (Jpb HX.out).1).trans HX.out)
 have HB1:=Jpa (Jo3 HB.out hb)
 clear hb HX HB hb4
 go_wp2_with fail
 refine Jpc (HH.out _) ?_
 rintro e y2 ⟨rfl,hb⟩
 have HX2:=Jpa ((hb.block _ (Jpb HX1.out).1).trans HX1.out)
 have HB2:=Jpa (Jo3 HB1.out hb)
 have hrf:Jg y2 b4 12=true:=by rw[Jc _ _ _ _ _ HX2.out];rfl
 have hlt4:b4<y2.heap.size:=(Jpb HX2.out).1
 clear hb HX1 HB1
 go_wp2_with fail
 have HSb:=Jpa (heap_alloc_new y2 (.cells (Jpz (17:Int)) 102))
 have HX2b:Hid (_=_):=Jpa ((heap_alloc_old y2 (.cells (Jpz (17:Int)) 102) hlt4).trans HX2.out)
 have HB2b:Hid (Below w.heap.size w (y2.alloc (.cells (Jpz (17:Int)) 102))):=Jpa (Below.all HB2.out _)
 obtain⟨b6,hb6⟩:∃b,b=y2.heap.size:=⟨_,rfl⟩
 rw[←hb6] at HSb⊢
 have hne6:b4≠b6:=by omega
 have HB6:Hid (w.heap.size≤b6):=Jpa (by rw[hb6];exact HB2.out.size)
 generalize y2.alloc (.cells (Jpz (17:Int)) 102)=y2b at*
 clear hb6 HX2 HB2 hrf hlt4
 go_wp2_with fail
 refine Jpc (HN4.out _) ?_
 rintro e y3 ⟨rfl,hb⟩
 have HX3:=Jpa ((hb.block _ (Jpb HX2b.out).1).trans HX2b.out)
 have HB3:=Jpa (Jo3 HB2b.out hb)
 have HS3:=Jpa ((hb.block _ (Jpb HSb.out).1).trans HSb.out)
 have hlt3:b4<y3.heap.size:=(Jpb HX3.out).1
 have hrf:Jg y3 b4 12=true:=by rw[Jc _ _ _ _ _ HX3.out];rfl
 clear hb HX2b HB2b HSb
 go_wp2_with fail
 refine Jpc (HN0.out _) ?_
 rintro e y4 ⟨rfl,hb⟩
 have HX4:=Jpa ((hb.block _ (Jpb HX3.out).1).trans HX3.out)
 have HB4':=Jpa (Jo3 HB3.out hb)
 have HS4:=Jpa ((hb.block _ (Jpb HS3.out).1).trans HS3.out)
 have g1:=cell_of_row _ _ 1 _ _ (0,0) HS4.out
 have f1:=frozen_of_row _ _ 1 _ _ HS4.out
 clear hb HX3 HB3 HS3 hlt3 hrf
 go_wp2_with fail
 have HS5:=Jpa (heap_setCell_same _ b6 1 _ _ (.int .u16 v0) HS4.out)
 have HX5:=Jpa ((heap_setCell_other y4 ⟨b6,1,none⟩ b4 (.int .u16 v0) hne6).trans HX4.out)
 have HB5:=Jpa (HB4'.out.setCell (p:=⟨b6,1,none⟩) HB6.out (.int .u16 v0))
 generalize y4.setCell ⟨b6,1,none⟩ (.int .u16 v0)=y5 at*
 refine Jpc (HN2.out _) ?_
 rintro e y6 ⟨rfl,hb⟩
 have HX6:=Jpa ((hb.block _ (Jpb HX5.out).1).trans HX5.out)
 have HB6':=Jpa (Jo3 HB5.out hb)
 have HS6:Hid (y6.heap[b6]? =some (.cells #[(17:Int),.int .u16 v0,Jpg,Jph,Jph,(),Jpg,Jpg,Jpi,(),(),Jpi] 102 (0,0))):=Jpa ((hb.block _ (Jpb HS5.out).1).trans HS5.out)
 have g2:=cell_of_row _ _ 2 _ _ (0,0) HS6.out
 have f2:=frozen_of_row _ _ 2 _ _ HS6.out
 have g11:=cell_of_row _ _ 11 _ _ (0,0) HS6.out
 have f11:=frozen_of_row _ _ 11 _ _ HS6.out
 have HS7:Hid (((y6.setCell ⟨b6,2,none⟩ (.int .u16 v2)).setCell ⟨b6,11,none⟩ (.string R)).heap[b6]? =some (.cells (JpU (17:Int) (.int .u16 v0) (.int .u16 v2) (.string R)) 102 (0,0))):=Jpa (heap_setCell_same _ b6 11 _ _ (.string R) (heap_setCell_same _ b6 2 _ _ (.int .u16 v2) HS6.out))
 have HX7:=Jpa ((heap_setCell_other (y6.setCell ⟨b6,2,none⟩ (.int .u16 v2)) ⟨b6,11,none⟩ b4 (.string R) hne6).trans ((heap_setCell_other y6 ⟨b6,2,none⟩ b4 (.int .u16 v2) hne6).trans HX6.out))
 have HB7:=Jpa ((HB6'.out.setCell (p:=⟨b6,2,none⟩) HB6.out (.int .u16 v2)).setCell (p:=⟨b6,11,none⟩) HB6.out (.string R))
 have hpt:Jf ((y6.setCell ⟨b6,2,none⟩ (.int .u16 v2)).setCell ⟨b6,11,none⟩ (.string R)) b6 0 12=(JpU (17:Int) (.int .u16 v0) (.int .u16 v2) (.string R):Array Value):=Ja HS7.out rfl
 have hrf:Jg y6 b4 12=true:=by rw[Jc _ _ _ _ _ HX6.out];rfl
 clear hb g1 f1
 go_wp2_with fail
 exact Xj (cs:=(JpU (17:Int) (.int .u16 v0) (.int .u16 v2) (.string R))) b4 rfl rfl (Ja (Jd HX7.out) rfl) rfl rfl (HB7.out.trans (Jb _ (Nat.le_of_eq HB4.out.symm)))
theorem Ji2 (p:Int)(hp:p=6)(l:List Int)(hl:Jl l)(hn:l.length≤100000)(w:World):
 Calls Tryz.prog 87 #[p,.string (strOfNums l)] w (Jh w (rtR p l)):=by
 have hth:tHead p=20:=by subst hp;rfl
 have HH:Hid (∀w',Calls Tryz.prog 96 #[p] w' (Jh w' (.int .i64 20))):=Jpa (fun w'=>by have:=Jej p w';rw[hth] at this;exact this)
 have HX:=Jpa (heap_alloc_new w (.cells Jpv 102))
 have HB:Hid (Below w.heap.size w (w.alloc (.cells Jpv 102))):=Jpa (Below.all (Jpd _ _) _)
 obtain⟨S,hS⟩:∃S,strOfNums l=S:=⟨_,rfl⟩
 have hsz:S.size=l.length:=by rw[←hS,strOfNums_size]
 have HT:Hid (Zh p l=if l.length<20 then 10 else if 65535<l.length then 51 else if p=6 then (if Jfa l<20 then 51 else if l.length<Jfa l then 10 else 0) else if p=17 then (if w2 l 4<8 then 51 else if (l.length:Int)<w2 l 4 then 10 else 0) else 0):=Jpa (by unfold Zh;rw[hth,if_neg (by decide)])
 obtain⟨b4,hb4⟩:∃b,b=w.heap.size:=⟨_,rfl⟩
 have HB4:=Jpa hb4
 obtain⟨n,hnn⟩:∃n,l.length=n:=⟨_,rfl⟩
 have HN:=Jpa hnn
 rw[hnn] at hsz HT hn
 subst hp
 by_cases h1:n<20
 ·have hd1:decide ((n:Int)<20)=true:=by simp;omega
  have HE:=Jpa (ZO (err:=10) (by rw[HT.out,if_pos h1]) (by decide))
  rw[HE.out,hS]
  clear HE HT hth hS hnn
  go_enter Tryz.func87,Tryz.ntmps87
  go_wp2_with fail
  rw[←hb4] at HX⊢
  generalize w.alloc (.cells Jpv 102)=y at*
  refine Jpc (HH.out _) ?_
  rintro e y1 ⟨rfl,hb⟩
  have HX1:=Jpa ((hb.block _ (Jpb HX.out).1).trans HX.out)
  have HB1:=Jpa (Jo3 HB.out hb)
  clear hb HX HB hb4
  go_wp2_with fail
  refine Jpc (HH.out _) ?_
  rintro e y2 ⟨rfl,hb⟩
  have HX2:=Jpa ((hb.block _ (Jpb HX1.out).1).trans HX1.out)
  have HB2:=Jpa (Jo3 HB1.out hb)
  have hrf:Jg y2 b4 12=true:=by rw[Jc _ _ _ _ _ HX2.out];rfl
  have hlt4:b4<y2.heap.size:=(Jpb HX2.out).1
  clear hb HX1 HB1
  go_wp2_with fail
  exact Xj (cs:=rtZ) b4 rfl rfl (Ja (Jd HX2.out) rfl) rfl rfl (HB2.out.trans (Jb _ (Nat.le_of_eq HB4.out.symm)))
 have hd1:decide ((n:Int)<20)=false:=by simp;omega
 by_cases h2:65535<n
 ·have hd2:decide ((n:Int)>65535)=true:=by simp;omega
  have HE:=Jpa (ZO (err:=51) (by rw[HT.out,if_neg h1,if_pos h2]) (by decide))
  rw[HE.out,hS]
  clear HE HT hth hS hnn
  go_enter Tryz.func87,Tryz.ntmps87
  go_wp2_with fail
  rw[←hb4] at HX⊢
  generalize w.alloc (.cells Jpv 102)=y at*
  refine Jpc (HH.out _) ?_
  rintro e y1 ⟨rfl,hb⟩
  have HX1:=Jpa ((hb.block _ (Jpb HX.out).1).trans HX.out)
  have HB1:=Jpa (Jo3 HB.out hb)
  clear hb HX HB hb4
  go_wp2_with fail
  refine Jpc (HH.out _) ?_
  rintro e y2 ⟨rfl,hb⟩
  have HX2:=Jpa ((hb.block _ (Jpb HX1.out).1).trans HX1.out)
  have HB2:=Jpa (Jo3 HB1.out hb)
  have hrf:Jg y2 b4 12=true:=by rw[Jc _ _ _ _ _ HX2.out];rfl
  have hlt4:b4<y2.heap.size:=(Jpb HX2.out).1
  clear hb HX1 HB1
  go_wp2_with fail
  exact Xj (cs:=rtZ) b4 rfl rfl (Ja (Jd HX2.out) rfl) rfl rfl (HB2.out.trans (Jb _ (Nat.le_of_eq HB4.out.symm)))
 have hd2:decide ((n:Int)>65535)=false:=by simp;omega
 have HE1:Hid (Zh 6 l=if Jfa l<20 then 51 else if n<Jfa l then 10 else 0):=Jpa (by rw[HT.out,if_neg h1,if_neg h2,if_pos rfl])
 have hv:=Jy hl 12
 have HTN:Hid (Jfa l=(l.getD 12 0/16).toNat*4):=Jpa rfl
 have hix:=fun w=>X3 l hl 12 (by omega) 12 rfl w
 have hix13:=fun w=>X3 l hl 13 (by omega) 13 rfl w
 obtain⟨V,hV⟩:∃V:Nat,l.getD 12 0=(V:Int):=⟨(l.getD 12 0).toNat,by omega⟩
 rw[hV] at hv hix HTN
 obtain⟨N,hN⟩:∃N:Nat,V/16*4=N:=⟨_,rfl⟩
 have HTV:Hid (Jfa l=N):=Jpa (by rw[HTN.out,←hN];omega)
 rw[HTV.out] at HE1
 have hV0:(0:Int)≤(V:Int):=by omega
 have hV1:(V:Int)≤255:=by omega
 have htd:Int.tdiv (V:Int) 16=(V:Int)/16:=Int.tdiv_eq_ediv_of_nonneg hV0
 have hVN:(V:Int)/16*4=(N:Int):=by omega
 have hNl:N≤60:=by omega
 by_cases h8:N<20
 ·have hd8:decide ((N:Int)<20)=true:=by simp;omega
  have HE:=Jpa (ZO (err:=51) (by rw[HE1.out,if_pos h8]) (by decide))
  rw[HE.out]
  rw[hS] at hix⊢
  clear HE HE1 HT hth hS hnn hN hv hix13 HTN HTV hV hNl
  go_enter Tryz.func87,Tryz.ntmps87
  go_wp2_with fail
  rw[←hb4] at HX⊢
  generalize w.alloc (.cells Jpv 102)=y at*
  refine Jpc (HH.out _) ?_
  rintro e y1 ⟨rfl,hb⟩
  have HX1:=Jpa ((hb.block _ (Jpb HX.out).1).trans HX.out)
  have HB1:=Jpa (Jo3 HB.out hb)
  clear hb HX HB hb4
  go_wp2_with fail
  refine Jpc (HH.out _) ?_
  rintro e y2 ⟨rfl,hb⟩
  have HX2:=Jpa ((hb.block _ (Jpb HX1.out).1).trans HX1.out)
  have HB2:=Jpa (Jo3 HB1.out hb)
  have hrf:Jg y2 b4 12=true:=by rw[Jc _ _ _ _ _ HX2.out];rfl
  have hlt4:b4<y2.heap.size:=(Jpb HX2.out).1
  clear hb HX1 HB1
  go_wp2_with fail
  refine Xj (cs:=rtZ) b4 rfl rfl ?_ rfl rfl ?_
  ·exact Ja ((heap_alloc_old _ _ (by simpa using hlt4)).trans (Jd HX2.out)) rfl
  ·exact Below.all (HB2.out.trans (Jb _ (Nat.le_of_eq HB4.out.symm))) _
 have hd8:decide ((N:Int)<20)=false:=by simp;omega
 by_cases hlN:n<N
 ·have hdN:decide ((n:Int)<(N:Int))=true:=by simp;omega
  have HE:=Jpa (ZO (err:=10) (by rw[HE1.out,if_neg h8,if_pos hlN]) (by decide))
  rw[HE.out]
  rw[hS] at hix⊢
  clear HE HE1 HT hth hS hnn hN hv hix13 HTN HTV hV hNl
  go_enter Tryz.func87,Tryz.ntmps87
  go_wp2_with fail
  rw[←hb4] at HX⊢
  generalize w.alloc (.cells Jpv 102)=y at*
  refine Jpc (HH.out _) ?_
  rintro e y1 ⟨rfl,hb⟩
  have HX1:=Jpa ((hb.block _ (Jpb HX.out).1).trans HX.out)
  have HB1:=Jpa (Jo3 HB.out hb)
  clear hb HX HB hb4
  go_wp2_with fail
  refine Jpc (HH.out _) ?_
  rintro e y2 ⟨rfl,hb⟩
  have HX2:=Jpa ((hb.block _ (Jpb HX1.out).1).trans HX1.out)
  have HB2:=Jpa (Jo3 HB1.out hb)
  have hrf:Jg y2 b4 12=true:=by rw[Jc _ _ _ _ _ HX2.out];rfl
  have hlt4:b4<y2.heap.size:=(Jpb HX2.out).1
  clear hb HX1 HB1
  go_wp2_with fail
  refine Xj (cs:=rtZ) b4 rfl rfl ?_ rfl rfl ?_
  ·exact Ja ((heap_alloc_old _ _ (by simpa using hlt4)).trans (Jd HX2.out)) rfl
  ·exact Below.all (HB2.out.trans (Jb _ (Nat.le_of_eq HB4.out.symm))) _
 have hdN:decide ((n:Int)<(N:Int))=false:=by simp;omega
 have HE0:Hid (Zh 6 l=0):=Jpa (by rw[HE1.out,if_neg h8,if_neg hlN])
 have HN0:Hid (∀w',Calls Tryz.prog 149 #[.string (strOfNums l),.int .i64 0,.int .i64 2] w' (Jh w' (.int .u64 (w2 l 0)))):=Jpa (fun w'=>by
  have:=Q0 l hl 0 2 (by decide) (by decide) (by omega) (by omega) 0 2 rfl rfl w'
  rwa [JY l 0 (by omega)] at this)
 have HN2:Hid (∀w',Calls Tryz.prog 149 #[.string (strOfNums l),.int .i64 2,.int .i64 2] w' (Jh w' (.int .u64 (w2 l 2)))):=Jpa (fun w'=>by
  have:=Q0 l hl 2 2 (by decide) (by decide) (by omega) (by omega) 2 2 rfl rfl w'
  rwa [JY l 2 (by omega)] at this)
 have HN4:Hid (∀w',Calls Tryz.prog 149 #[.string (strOfNums l),.int .i64 4,.int .i64 4] w' (Jh w' (.int .u64 (w4 l 4)))):=Jpa (fun w'=>by
  have:=Q0 l hl 4 4 (by decide) (by decide) (by omega) (by omega) 4 4 rfl rfl w'
  rwa [XW l 4 (by omega)] at this)
 have HN8:Hid (∀w',Calls Tryz.prog 149 #[.string (strOfNums l),.int .i64 8,.int .i64 4] w' (Jh w' (.int .u64 (w4 l 8)))):=Jpa (fun w'=>by
  have:=Q0 l hl 8 4 (by decide) (by decide) (by omega) (by omega) 8 4 rfl rfl w'
  rwa [XW l 8 (by omega)] at this)
 have HN14:Hid (∀w',Calls Tryz.prog 149 #[.string (strOfNums l),.int .i64 14,.int .i64 2] w' (Jh w' (.int .u64 (w2 l 14)))):=Jpa (fun w'=>by
  have:=Q0 l hl 14 2 (by decide) (by decide) (by omega) (by omega) 14 2 rfl rfl w'
  rwa [JY l 14 (by omega)] at this)
 have HN18:Hid (∀w',Calls Tryz.prog 149 #[.string (strOfNums l),.int .i64 18,.int .i64 2] w' (Jh w' (.int .u64 (w2 l 18)))):=Jpa (fun w'=>by
  have:=Q0 l hl 18 2 (by decide) (by decide) (by omega) (by omega) 18 2 rfl rfl w'
  rwa [JY l 18 (by omega)] at this)
 have bv0:=QB hl 0
 have bv2:=QB hl 2
 have bv4:=Jia hl 4
 have bv8:=Jia hl 8
 have bv14:=QB hl 14
 have bv18:=QB hl 18
 have HV:Hid (rtR 6 l=.tuple #[.agg #[.int .u8 6,.int .u16 (w2 l 0),.int .u16 (w2 l 2),.int .u32 (w4 l 4),.int .u32 (w4 l 8),.int .u8 (l.getD 13 0),.int .u16 (w2 l 14),.int .u16 (w2 l 18),.string (strOfNums ((l.take N).drop 20)),.int .u8 0,.int .u8 0,.string (strOfNums (l.drop N))],.int .i64 0]):=Jpa (by
  unfold rtR JT Jlf rtC;rw[HE0.out,if_pos rfl,if_pos rfl,HTV.out])
 have hs1:=fun w=>Jfm l 20 N (by omega) (by omega) 20 (N:Int) rfl rfl w
 have hs2:=fun w=>Jbs l N (by omega) (N:Int) rfl w
 rw[HV.out]
 rw[hS] at HN0 HN2 HN4 HN8 HN14 HN18 hs1 hs2 hix hix13⊢
 generalize w2 l 0=v0 at*
 generalize w2 l 2=v2 at*
 generalize w4 l 4=v4 at*
 generalize w4 l 8=v8 at*
 generalize w2 l 14=v14 at*
 generalize w2 l 18=v18 at*
 generalize l.getD 13 0=v13 at*
 generalize strOfNums ((l.take N).drop 20)=R1 at*
 generalize strOfNums (l.drop N)=R2 at*
 clear HE0 HE1 HT hth hS hnn HV hN hv HTN HTV hV
 go_enter Tryz.func87,Tryz.ntmps87
 go_wp2_with fail
 rw[←hb4] at HX⊢
 generalize w.alloc (.cells Jpv 102)=y at*
 refine Jpc (HH.out _) ?_
 rintro e y1 ⟨rfl,hb⟩
 have HX1:=Jpa ((hb.block _ (Jpb HX.out).1).trans HX.out)
 have HB1:=Jpa (Jo3 HB.out hb)
 clear hb HX HB hb4
 go_wp2_with fail
 refine Jpc (HH.out _) ?_
 rintro e y2 ⟨rfl,hb⟩
 have HX2:=Jpa ((hb.block _ (Jpb HX1.out).1).trans HX1.out)
 have HB2:=Jpa (Jo3 HB1.out hb)
 have hrf:Jg y2 b4 12=true:=by rw[Jc _ _ _ _ _ HX2.out];rfl
 have hlt4:b4<y2.heap.size:=(Jpb HX2.out).1
 clear hb HX1 HB1
 go_wp2_with fail
 have HSb:=Jpa (heap_alloc_new y2 (.cells (Jpz (6:Int)) 102))
 have HX2b:Hid (_=_):=Jpa ((heap_alloc_old y2 (.cells (Jpz (6:Int)) 102) hlt4).trans HX2.out)
 have HB2b:Hid (Below w.heap.size w (y2.alloc (.cells (Jpz (6:Int)) 102))):=Jpa (Below.all HB2.out _)
 obtain⟨b6,hb6⟩:∃b,b=y2.heap.size:=⟨_,rfl⟩
 rw[←hb6] at HSb⊢
 have hne6:b4≠b6:=by omega
 have HB6:Hid (w.heap.size≤b6):=Jpa (by rw[hb6];exact HB2.out.size)
 generalize y2.alloc (.cells (Jpz (6:Int)) 102)=y2b at*
 clear hb6 HX2 HB2 hrf hlt4
 obtain⟨pv0,qv0⟩:=bv0
 obtain⟨pv2,qv2⟩:=bv2
 obtain⟨pv4,qv4⟩:=bv4
 obtain⟨pv8,qv8⟩:=bv8
 obtain⟨pv14,qv14⟩:=bv14
 obtain⟨pv18,qv18⟩:=bv18
 have hl6:b6<y2b.heap.size:=(Jpb HSb.out).1
 refine QI 28 (by kernel_rfl) (by kernel_rfl) ?_
 simp only[List.take_succ_cons,List.take_zero]
 repeat go_big_quiet_step ((first|(with_reducible exact Jp (HN0.out _))|(with_reducible exact Jp (HN2.out _))|(with_reducible exact Jp (HN4.out _))|(with_reducible exact Jp (HN8.out _))|(with_reducible exact Jp (HN14.out _))|(with_reducible exact Jp (HN18.out _))))
 refine wpQuiet_nil ?_
 intro x
 simp only[List.drop_succ_cons,List.drop_zero]
 have HX3:=Jpa ((x.below.block _ (Jpb HX2b.out).1).trans HX2b.out)
 have HS3:=Jpa ((x.below.block _ hl6).trans HSb.out)
 have HB3:=Jpa (Jo3 HB2b.out x.below)
 clear HX2b HSb HB2b
 generalize x.world=y3 at*
 have hrf6:Jg y3 b6 12=true:=by rw[Jc _ _ _ _ _ HS3.out];rfl
 have HS7:Hid ((y3.setRow b6 (JpC (6:Int) (.int .u16 v0) (.int .u16 v2) (.int .u32 v4) (.int .u32 v8) v13 (.int .u16 v14) (.int .u16 v18) (.string R1) (.string R2))).heap[b6]? =some (.cells (JpC (6:Int) (.int .u16 v0) (.int .u16 v2) (.int .u32 v4) (.int .u32 v8) v13 (.int .u16 v14) (.int .u16 v18) (.string R1) (.string R2)) 102 (0,0))):=Jpa (Jd HS3.out)
 have HX7:=Jpa ((setRow_other y3 b6 b4 (JpC (6:Int) (.int .u16 v0) (.int .u16 v2) (.int .u32 v4) (.int .u32 v8) v13 (.int .u16 v14) (.int .u16 v18) (.string R1) (.string R2)) hne6).trans HX3.out)
 have HB7:=Jpa (HB3.out.trans (Jb (JpC (6:Int) (.int .u16 v0) (.int .u16 v2) (.int .u32 v4) (.int .u32 v8) v13 (.int .u16 v14) (.int .u16 v18) (.string R1) (.string R2)) HB6.out))
 have hpt:Jf (y3.setRow b6 (JpC (6:Int) (.int .u16 v0) (.int .u16 v2) (.int .u32 v4) (.int .u32 v8) v13 (.int .u16 v14) (.int .u16 v18) (.string R1) (.string R2))) b6 0 12=(JpC (6:Int) (.int .u16 v0) (.int .u16 v2) (.int .u32 v4) (.int .u32 v8) v13 (.int .u16 v14) (.int .u16 v18) (.string R1) (.string R2):Array Value):=Ja HS7.out rfl
 have hrf:Jg (y3.setRow b6 (JpC (6:Int) (.int .u16 v0) (.int .u16 v2) (.int .u32 v4) (.int .u32 v8) v13 (.int .u16 v14) (.int .u16 v18) (.string R1) (.string R2))) b4 12=true:=by rw[Jc _ _ _ _ _ HX7.out];rfl
 go_wp2_with fail
 exact Xj (cs:=(JpC (6:Int) (.int .u16 v0) (.int .u16 v2) (.int .u32 v4) (.int .u32 v8) v13 (.int .u16 v14) (.int .u16 v18) (.string R1) (.string R2))) b4 rfl rfl (Ja (Jd HX7.out) rfl) rfl rfl (HB7.out.trans (Jb _ (Nat.le_of_eq HB4.out.symm)))
theorem Jel (p:Int)(hp:p=6∨p=17∨p=1∨p=58)(l:List Int)(hl:Jl l)(hn:l.length≤100000)(w:World):
 Calls Tryz.prog 87 #[p,.string (strOfNums l)] w (Jh w (rtR p l)):=by
 rcases hp with h|h|h
 ·exact Ji2 p h l hl hn w
 ·exact Ji1 p h l hl hn w
 ·exact JhT p h l hl hn w
theorem Z0 (p:Int)(w:World):Calls Tryz.prog 46 #[p] w (Jh w (.bool (JO p))):=by
 by_cases h6:p=6
 ·subst h6
  go_enter Tryz.func46,Tryz.ntmps46
  go_wp2_with fail
  go_ret
  exact .mk rfl (Jpd _ _)
 ·have hb:(p==6)=false:=by simpa using h6
  have hd:decide (p=6)=false:=by simpa using h6
  have hi:JO p=(p==17):=by unfold JO;rw[hb];rfl
  rw[hi]
  go_enter Tryz.func46,Tryz.ntmps46
  go_wp2_with fail
  go_ret
  exact .mk rfl (Jpd _ _)
theorem Jbc (p:Int)(w:World):Calls Tryz.prog 47 #[p] w (Jh w (.bool (JS p))):=by
 by_cases h6:p=1
 ·subst h6
  go_enter Tryz.func47,Tryz.ntmps47
  go_wp2_with fail
  go_ret
  exact .mk rfl (Jpd _ _)
 ·have hb:(p==1)=false:=by simpa using h6
  have hd:decide (p=1)=false:=by simpa using h6
  have hi:JS p=(p==58):=by unfold JS;rw[hb];rfl
  rw[hi]
  go_enter Tryz.func47,Tryz.ntmps47
  go_wp2_with fail
  go_ret
  exact .mk rfl (Jpd _ _)
theorem JhU {w w':World}{cs:Array Value}{tmps:Array Value}(b:Nat)(hp:tmps.getD 2 undef=.pointer (some ⟨b,0,none⟩))(hc:Jf w' b 0 17=cs)(hs:cs.size=17)(hb:Below w.heap.size w w'):
 bodyPost Tryz.prog Tryz.f84 (Jh w (.agg cs)) .ret { tmps:=tmps,defers:=[] } w':=
 bodyPost_ret (v:=.agg cs) (XH rfl _ _ b 17 _ Tryz.underlying36 rfl (by kernel_rfl) hp cs hc hs) rfl (.mk rfl hb)
theorem Jfn (l:List Int)(hl:Jl l)(hn:l.length=4)(w:World):Calls Tryz.prog 84 #[.string (strOfNums l)] w (Jh w (adV false (JM l))):=by
 have HX:=Jpa (heap_alloc_new w (.cells (JpF false) 36))
 have HB:Hid (Below w.heap.size w (w.alloc (.cells (JpF false) 36))):=Jpa (Below.all (Jpd _ _) _)
 have HF:Hid (∀w' oa cap,Ji w' oa 4 cap l→Calls Tryz.prog 145 #[.slice oa 4 cap] w' (Jh w' (.tuple #[adV false (JM l),.int .i64 0]))):=Jpa (fun w' oa cap hr=>by
  have:=JgV oa 4 cap l w' hr (by decide)
  rwa [JdH hn] at this)
 obtain⟨S,hS⟩:∃S,strOfNums l=S:=⟨_,rfl⟩
 have HS:=Jpa hS
 rw[hS]
 unfold adV at*
 generalize JM l=B at*
 clear hS
 obtain⟨b0,hb0⟩:∃b,b=w.heap.size:=⟨_,rfl⟩
 go_enter Tryz.func84,Tryz.ntmps84
 go_wp2_with (with_reducible refine Jdr 7 ?_)
 rw[←hb0] at HX⊢
 have HB0:=Jpa hb0
 clear hb0
 generalize w.alloc (.cells (JpF false) 36)=y at*
 refine Jt.mk ?_
 refine X7 _ rfl 9 22 _ rfl 5 Tryz.underlying9 Tryz.underlying22 Tryz.underlying5 l (by show Value.string S=_;rw[HS.out]) hl (by omega) ?_
 intro c1 w1 hb hr
 rw[hn] at hr⊢
 have HR:=Jpa hr
 have HX1:=Jpa ((hb.block _ (Jpb HX.out).1).trans HX.out)
 have HB1:=Jpa (Jo3 HB.out hb)
 clear hr hb HX HB
 go_wp2_with fail
 refine Jpc (HF.out _ _ _ HR.out) ?_
 rintro e w2 ⟨rfl,hb⟩
 have HX2:=Jpa ((hb.block _ (Jpb HX1.out).1).trans HX1.out)
 have HB2:=Jpa (Jo3 HB1.out hb)
 have hlt:b0<w2.heap.size:=(Jpb HX2.out).1
 have hrf:Jg w2 b0 17=true:=by rw[Jc _ _ _ _ _ HX2.out];rfl
 clear hb HX1 HB1
 go_wp2_with fail
 refine JhU b0 rfl ?_ rfl ?_
 ·exact Ja ((heap_alloc_old _ _ (by simpa using hlt)).trans (Jd HX2.out)) rfl
 ·exact Below.all (HB2.out.trans (Jb _ (Nat.le_of_eq HB0.out.symm))) _
theorem Jem (l:List Int)(hl:Jl l)(hn:l.length=16)(w:World):Calls Tryz.prog 84 #[.string (strOfNums l)] w (Jh w (adV true (JM l))):=by
 have HX:=Jpa (heap_alloc_new w (.cells (JpF false) 36))
 have HB:Hid (Below w.heap.size w (w.alloc (.cells (JpF false) 36))):=Jpa (Below.all (Jpd _ _) _)
 have HF:Hid (∀w' oa cap,Ji w' oa 16 cap l→Calls Tryz.prog 145 #[.slice oa 16 cap] w' (Jh w' (.tuple #[adV true (JM l),.int .i64 0]))):=Jpa (fun w' oa cap hr=>by
  have:=JgV oa 16 cap l w' hr (by decide)
  rwa [JbQ hn] at this)
 obtain⟨S,hS⟩:∃S,strOfNums l=S:=⟨_,rfl⟩
 have HS:=Jpa hS
 rw[hS]
 unfold adV at*
 generalize JM l=B at*
 clear hS
 obtain⟨b0,hb0⟩:∃b,b=w.heap.size:=⟨_,rfl⟩
 go_enter Tryz.func84,Tryz.ntmps84
 go_wp2_with (with_reducible refine Jdr 7 ?_)
 rw[←hb0] at HX⊢
 have HB0:=Jpa hb0
 clear hb0
 generalize w.alloc (.cells (JpF false) 36)=y at*
 refine Jt.mk ?_
 refine X7 _ rfl 9 22 _ rfl 5 Tryz.underlying9 Tryz.underlying22 Tryz.underlying5 l (by show Value.string S=_;rw[HS.out]) hl (by omega) ?_
 intro c1 w1 hb hr
 rw[hn] at hr⊢
 have HR:=Jpa hr
 have HX1:=Jpa ((hb.block _ (Jpb HX.out).1).trans HX.out)
 have HB1:=Jpa (Jo3 HB.out hb)
 clear hr hb HX HB
 go_wp2_with fail
 refine Jpc (HF.out _ _ _ HR.out) ?_
 rintro e w2 ⟨rfl,hb⟩
 have HX2:=Jpa ((hb.block _ (Jpb HX1.out).1).trans HX1.out)
 have HB2:=Jpa (Jo3 HB1.out hb)
 have hlt:b0<w2.heap.size:=(Jpb HX2.out).1
 have hrf:Jg w2 b0 17=true:=by rw[Jc _ _ _ _ _ HX2.out];rfl
 clear hb HX1 HB1
 go_wp2_with fail
 refine JhU b0 rfl ?_ rfl ?_
 ·exact Ja ((heap_alloc_old _ _ (by simpa using hlt)).trans (Jd HX2.out)) rfl
 ·exact Below.all (HB2.out.trans (Jb _ (Nat.le_of_eq HB0.out.symm))) _
end
end Go.Proofs.YtkgjbipfhhjlpaaGreatDoor
