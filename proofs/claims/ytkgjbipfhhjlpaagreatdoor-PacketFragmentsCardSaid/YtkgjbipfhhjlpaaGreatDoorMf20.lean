import Derived.Test.YtkgjbipfhhjlpaaGreatDoorMf19
set_option linter.unusedVariables false
set_option linter.unusedSimpArgs false
set_option maxRecDepth 100000
set_option maxHeartbeats 32000000
namespace Go.Proofs.YtkgjbipfhhjlpaaGreatDoor
section
open Go.RowKit Bits
theorem JS.ext {w:World}{lo:Nat}{oe:Option Addr}{ce:Nat}{xs:Zq}{es:List QB}(h:JS w lo oe ce xs es)(j:Nat)(x:Int×List Int)(hx:xs[j]? =some x):
 ∃g off oD cD,oe=some ⟨g,off,none⟩∧g<w.heap.size∧w.cell? ⟨g,off+j*2,none⟩=some (.int .u8 x.1)∧w.cell? ⟨g,off+j*2+1,none⟩=some (.slice oD x.2.length cD)∧Jj w oD x.2.length cD x.2:=by
 have hj:=(List.getElem?_eq_some_iff.1 hx).1
 have hl:=h.len
 obtain⟨e,hxe⟩:∃e,es[j]? =some e:=⟨es[j],List.getElem?_eq_getElem (by omega)⟩
 have hat:=h.each j e x hxe hx
 have hcs:=JaD es j e hxe
 obtain⟨g,off,rfl,hg0,hg1,hc,-⟩:=h.own.here (by omega)
 have hm:e.m=x.2.length:=hat.rd.len.symm
 refine⟨g,off,e.a,e.c,rfl,hg1,?_,?_,?_⟩
 ·have:=hc _ _ hcs.1
  rw[show off+j*2=off+2*j by omega,this,hat.k]
 ·have:=hc _ _ hcs.2
  rw[show off+j*2+1=off+(2*j+1) by omega,this,hm]
 ·have:=hat.rd
  rwa [hm] at this
theorem JiF (k:Int)(oa:Option Addr)(n c:Nat)(w:World):Calls Tryz.prog 191 #[.agg #[.int .u8 k,.slice oa n c]] w (Jk w (.bool (k==44))):=by
 go_enter Tryz.func191,Tryz.ntmps191
 go_wp2_with fail
 go_ret
 exact .mk rfl (Below.all (Jny _ _) _)
theorem Jht (k:Int)(oa:Option Addr)(cap:Nat)(d:List Int)(w:World)(hr:Jj w oa d.length cap d)(hn:d.length≤100000):Calls Tryz.prog 90 #[.agg #[.int .u8 k,.slice oa d.length cap]] w (Jk w (.bool (!Qc k d))):=by
 have HR:=Jnv hr
 have HS:Hid (∀w1,Jj w1 oa d.length cap d→Calls Tryz.prog 91 #[.agg #[.int .u8 k,.slice oa d.length cap]] w1 (Jk w1 (.bool (Qc k d)))):=Jnv (fun w1 h1=>Jei k oa cap d w1 h1 hn)
 clear hr
 generalize Qc k d=V at*
 generalize d.length=n at*
 go_enter Tryz.func90,Tryz.ntmps90
 go_wp2_with fail
 refine Jnp (HS.out _ (HR.out.alloc _)) ?_
 intro x
 go_wp2_with fail
 go_ret
 exact .mk rfl x.below
def JT (t:Int×List Int→Bool):Zq→Nat→Int
 |[],_=>-1
 |x::xs,i=>if t x then (i:Int) else JT t xs (i+1)
theorem JbS (t:Int×List Int→Bool)(xs:Zq)(j:Nat)(x:Int×List Int)(hx:xs[j]? =some x):JT t (xs.drop j) j=if t x then (j:Int) else JT t (xs.drop (j+1)) (j+1):=by
 have hj:=(List.getElem?_eq_some_iff.1 hx).1
 rw[List.drop_eq_getElem_cons hj,JT]
 have:xs[j]=x:=by have:=List.getElem?_eq_getElem hj;rw[hx] at this;exact(Option.some.inj this).symm
 rw[this]
theorem JbT (t:Int×List Int→Bool):∀(xs:Zq) (i:Nat),(∀x∈xs,t x=false)→JT t xs i=-1
 |[],_,_=>rfl
 |x::xs,i,h=>by rw[JT,h x (by simp)];exact JbT t xs (i+1) (fun y hy=>h y (by simp[hy]))
theorem Jhu (lo:Nat)(oe:Option Addr)(ce:Nat)(xs:Zq)(es:List QB)(w:World)(h:JS w lo oe ce xs es)(hn:xs.length≤16):
 Calls Tryz.prog 150 #[.slice oe xs.length ce,.func (.func 191) #[] #[]] w (Jk w (.int .i64 (JT (fun x=>x.1==44) xs 0))):=by
 have HX:=Jnv h
 have HL:Hid (∀j x,xs[j]? =some x→j<xs.length):=Jnv (fun j x hx=>(List.getElem?_eq_some_iff.1 hx).1)
 obtain⟨n,hnn⟩:∃n,xs.length=n:=⟨_,rfl⟩
 have HN:=Jnv hnn
 rw[hnn] at hn⊢
 clear h hnn
 go_enter Tryz.func150,Tryz.ntmps150
 go_wp2_with fail
 go_loopg [8] n (fun g u8 wr=>∃(z:World) (j:Nat),z=wr∧j+g=n∧u8=.int .i64 (j:Int)∧Hid (JT (fun x=>x.1==44) xs 0=JT (fun x=>x.1==44) (xs.drop j) j)∧Hid (JS z lo oe ce xs es)∧Hid (Below w.heap.size w z))
 case atStart=>exact⟨_,0,rfl,by omega,rfl,Jnv rfl,HX,Jnv (Jny _ _)⟩
 case round=>
  obtain⟨z,j,hz,hjg,rfl,HI,HE,HB⟩:=hrel
  subst hz
  by_cases hlt:j<n
  ·obtain⟨x,hx⟩:∃x,xs[j]? =some x:=⟨_,List.getElem?_eq_getElem (by rw[HN.out];exact hlt)⟩
   have HXX:=Jnv hx
   have HST:=Jnv (JbS (fun x=>x.1==44) xs j x hx)
   obtain⟨g,off,oD,cD,rfl,hg,hc0,hc1,hrd⟩:=HE.out.ext j x hx
   have HRD:=Jnv hrd
   clear hx hrd
   have hd:decide ((j:Int)<(n:Int))=true:=by simp;omega
   obtain⟨k,d⟩:=x
   simp only at hc0 hc1 HRD HST
   skip
   go_wp2_with fail
   refine Jnx (JiF k oD d.length cD _) ?_
   rintro e z2 ⟨rfl,hb⟩
   have HB2:=Jnv (Jno HB.out hb)
   have HE2:=Jnv (HE.out.below hb)
   clear hb HE HB hc0 hc1
   cases hT:(fun x=>x.1==44) (k,d)
   ·simp only at hT
    have HI2:Hid (JT (fun x=>x.1==44) xs 0=JT (fun x=>x.1==44) (xs.drop (j+1)) (j+1)):=Jnv (by rw[HI.out,HST.out,hT];rfl)
    rw[hT]
    go_wp2_with fail
    go_roundg (n-(j+1))
    case measure=>omega
    case rel=>exact⟨_,j+1,rfl,by omega,by go_num,HI2,HE2,HB2⟩
   ·simp only at hT
    have HI2:Hid (JT (fun x=>x.1==44) xs 0=(j:Int)):=Jnv (by rw[HI.out,HST.out,hT];rfl)
    rw[hT]
    go_wp2_with fail
    go_ret
    exact .mk (Jal HI2.out.symm) HB2.out
  ·have hj:j=n:=by omega
   have HI2:Hid (JT (fun x=>x.1==44) xs 0=-1):=Jnv (by rw[HI.out,List.drop_eq_nil_of_le (by rw[HN.out];omega)];rfl)
   have hd:decide ((j:Int)<(n:Int))=false:=by simp;omega
   go_wp2_with fail
   go_ret
   exact .mk (Jal HI2.out.symm) HB.out
theorem JgC (lo:Nat)(oe:Option Addr)(ce:Nat)(xs:Zq)(es:List QB)(w:World)(h:JS w lo oe ce xs es)(hn:xs.length≤16)(hd0:∀x∈xs,x.2.length≤100000):
 Calls Tryz.prog 150 #[.slice oe xs.length ce,.func (.func 90) #[] #[]] w (Jk w (.int .i64 (JT (fun x=>!Qc x.1 x.2) xs 0))):=by
 have HX:=Jnv h
 have HL:Hid (∀j x,xs[j]? =some x→j<xs.length):=Jnv (fun j x hx=>(List.getElem?_eq_some_iff.1 hx).1)
 obtain⟨n,hnn⟩:∃n,xs.length=n:=⟨_,rfl⟩
 have HN:=Jnv hnn
 rw[hnn] at hn⊢
 clear h hnn
 go_enter Tryz.func150,Tryz.ntmps150
 go_wp2_with fail
 go_loopg [8] n (fun g u8 wr=>∃(z:World) (j:Nat),z=wr∧j+g=n∧u8=.int .i64 (j:Int)∧Hid (JT (fun x=>!Qc x.1 x.2) xs 0=JT (fun x=>!Qc x.1 x.2) (xs.drop j) j)∧Hid (JS z lo oe ce xs es)∧Hid (Below w.heap.size w z))
 case atStart=>exact⟨_,0,rfl,by omega,rfl,Jnv rfl,HX,Jnv (Jny _ _)⟩
 case round=>
  obtain⟨z,j,hz,hjg,rfl,HI,HE,HB⟩:=hrel
  subst hz
  by_cases hlt:j<n
  ·obtain⟨x,hx⟩:∃x,xs[j]? =some x:=⟨_,List.getElem?_eq_getElem (by rw[HN.out];exact hlt)⟩
   have HXX:=Jnv hx
   have HST:=Jnv (JbS (fun x=>!Qc x.1 x.2) xs j x hx)
   obtain⟨g,off,oD,cD,rfl,hg,hc0,hc1,hrd⟩:=HE.out.ext j x hx
   have HRD:=Jnv hrd
   clear hx hrd
   have hd:decide ((j:Int)<(n:Int))=true:=by simp;omega
   obtain⟨k,d⟩:=x
   simp only at hc0 hc1 HRD HST
   skip
   go_wp2_with fail
   refine Jnx (Jht k oD cD d _ HRD.out (hd0 _ (List.mem_of_getElem? HXX.out))) ?_
   rintro e z2 ⟨rfl,hb⟩
   have HB2:=Jnv (Jno HB.out hb)
   have HE2:=Jnv (HE.out.below hb)
   clear hb HE HB hc0 hc1
   cases hT:(fun x=>!Qc x.1 x.2) (k,d)
   ·simp only at hT
    have HI2:Hid (JT (fun x=>!Qc x.1 x.2) xs 0=JT (fun x=>!Qc x.1 x.2) (xs.drop (j+1)) (j+1)):=Jnv (by rw[HI.out,HST.out,hT];rfl)
    rw[hT]
    go_wp2_with fail
    go_roundg (n-(j+1))
    case measure=>omega
    case rel=>exact⟨_,j+1,rfl,by omega,by go_num,HI2,HE2,HB2⟩
   ·simp only at hT
    have HI2:Hid (JT (fun x=>!Qc x.1 x.2) xs 0=(j:Int)):=Jnv (by rw[HI.out,HST.out,hT];rfl)
    rw[hT]
    go_wp2_with fail
    go_ret
    exact .mk (Jal HI2.out.symm) HB2.out
  ·have hj:j=n:=by omega
   have HI2:Hid (JT (fun x=>!Qc x.1 x.2) xs 0=-1):=Jnv (by rw[HI.out,List.drop_eq_nil_of_le (by rw[HN.out];omega)];rfl)
   have hd:decide ((j:Int)<(n:Int))=false:=by simp;omega
   go_wp2_with fail
   go_ret
   exact .mk (Jal HI2.out.symm) HB.out
theorem Jfv (lo:Nat)(oe:Option Addr)(ce:Nat)(xs:Zq)(es:List QB)(w:World)(h:JS w lo oe ce xs es)(hn:xs.length≤16)(hd0:∀x∈xs,x.2.length≤100000)(hr:∀x∈xs,Qc x.1 x.2=true):
 Calls Tryz.prog 89 #[.slice oe xs.length ce,.func (.func 90) #[] #[]] w (Jk w (.bool false)):=by
 have HC:=Jnv (JgC lo oe ce xs es w h hn hd0)
 rw[JbT _ _ _ (fun x hx=>by simp[hr x hx])] at HC
 clear h hr hd0
 generalize xs.length=n at*
 go_enter Tryz.func89,Tryz.ntmps89
 go_wp2_with fail
 refine Jnx HC.out ?_
 rintro e z ⟨rfl,hb⟩
 go_wp2_with fail
 go_ret
 exact .mk rfl hb
theorem JdB (lo:Nat)(oe:Option Addr)(ce:Nat)(xs:Zq)(es:List QB)(p:Int)(w:World)(h:JS w lo oe ce xs es)(hk:Jh5 xs)(hd0:∀x∈xs,x.2.length≤100000):
 Calls Tryz.prog 42 #[.agg #[.slice oe xs.length ce,.int .u8 p]] w (Jk w (.bool (!JP p||Qe xs))):=by
 have HX:=Jnv h
 have HCK:=Jnv hk
 have HD:=Jnv hd0
 have hn16:=hk.le
 have HCO:Hid (∀w',JS w' lo oe ce xs es→Calls Tryz.prog 89 #[.slice oe xs.length ce,.func (.func 90) #[] #[]] w' (Jk w' (.bool false))):=Jnv (fun w' h'=>Jfv lo oe ce xs es w' h' HCK.out.le HD.out HCK.out.right)
 have HLL:Hid (∀m,xs.length=m+1→∀x,xs[m]? =some x→Qe xs=X0 x.1 x.2):=Jnv (fun m hm x hx=>by
  unfold Qe
  rw[List.getLast?_eq_getElem?,hm,Nat.add_sub_cancel,hx])
 have HL0:Hid (xs.length=0→Qe xs=false):=Jnv (fun h=>by rw[List.eq_nil_of_length_eq_zero h];rfl)
 obtain⟨n,hnn⟩:∃n,xs.length=n:=⟨_,rfl⟩
 have HN:=Jnv hnn
 rw[hnn] at hn16 HCO HLL HL0⊢
 clear h hk hd0 hnn
 have HB0:Hid (Below w.heap.size w (w.alloc (.cells #[.slice oe n ce,p] 96))):=Jnv (Below.all (Jny _ _) _)
 have hbx:=heap_alloc_new w (.cells #[.slice oe n ce,p] 96)
 have HX0:=Jnv (HX.out.below HB0.out)
 generalize hLL:Qe xs=LL at*
 generalize hBB:JP p=BB at*
 go_enter Tryz.func42,Tryz.ntmps42
 have hn16d:decide ((16:Int)<(n:Int))=false:=by simp;omega
 go_wp2_with fail
 generalize hw0:w.alloc (.cells #[.slice oe n ce,p] 96)=w1 at*
 refine Jnx (HCO.out _ HX0.out) ?_
 rintro e w2 ⟨rfl,hb⟩
 have HB2:=Jnv (Jno HB0.out hb)
 have HX2:=Jnv (HX0.out.below hb)
 have HBX2:=Jnv ((hb.block _ (Jnw hbx).1).trans hbx)
 clear hb hbx HB0 HX0 HX hw0
 have hc0:w2.cell? ⟨w.heap.size,0,none⟩=some (.slice oe n ce):=cell_of_row _ _ 0 _ _ (0,0) HBX2.out
 go_wp2_with fail
 go_loopg [22] n (fun g u22 wr=>∃(z:World) (j:Nat),z=wr∧j+g=n∧u22=.int .i64 (j:Int)∧Hid (JS z lo oe ce xs es)∧Hid (Below w.heap.size w z)∧Hid (z.heap[w.heap.size]? =some (.cells #[.slice oe n ce,p] 96 (0,0))))
 case atStart=>exact⟨_,0,rfl,by omega,rfl,HX2,HB2,HBX2⟩
 case round=>
  obtain⟨z,j,hz,hjg,rfl,HE,HB,HBX⟩:=hrel
  subst hz
  by_cases hlt:j<n
  ·obtain⟨x,hx⟩:∃x,xs[j]? =some x:=⟨_,List.getElem?_eq_getElem (by rw[HN.out];exact hlt)⟩
   obtain⟨g,off,oD,cD,rfl,hg,hq0,hq1,hrd⟩:=HE.out.ext j x hx
   have HRD:=Jnv hrd
   have hop:=HCK.out.hop j
   have hea:=HCK.out.early j
   have hdl:=HD.out x (List.mem_of_getElem? hx)
   obtain⟨k,d⟩:=x
   have hop':0<j→k≠0:=fun h=>hop h _ hx
   have hea':j+1<n→X0 k d=false:=fun h=>hea (by rw[HN.out];exact h) _ hx
   simp only at hq0 hq1 HRD hdl
   have HL:Hid (∀w',Jj w' oD d.length cD d→Calls Tryz.prog 92 #[.agg #[.int .u8 k,.slice oD d.length cD]] w' (Jk w' (.bool (X0 k d)))):=Jnv (fun w' h=>Jck k oD cD d w' h hdl)
   clear hrd hx hop hea hdl
   generalize X0 k d=XL at*
   have hd:decide ((j:Int)<(n:Int))=true:=by simp;omega
   have hj0:(k==0)=false∨((k==0)=true∧decide (0<j)=false):=by
    by_cases h:k=0
    ·refine .inr ⟨by simp[h],?_⟩
     have:¬0<j:=fun h'=>hop' h' h
     simp;omega
    ·exact .inl (by simpa using h)
   rcases hj0 with hk0|⟨hk0,hj0⟩
   all_goals
    go_wp2_with fail
    refine Jnx (HL.out _ (HRD.out.alloc _)) ?_
    rintro e z2 ⟨rfl,hb⟩
    have HB2:=Jnv (Jno HB.out (Jno (Below.all (Jny _ _) _) hb))
    have HE2:=Jnv (HE.out.below (Jno (Below.all (Jny _ _) _) hb))
    have HBX2:=Jnv (((Jno (Below.all (Jny _ _) _) hb).block _ (Jnw HBX.out).1).trans HBX.out)
    clear hb HE HB HBX hq0 hq1 HRD HL
    cases XL
    ·go_wp2_with fail
     go_roundg (n-(j+1))
     case measure=>omega
     case rel=>exact⟨_,j+1,rfl,by omega,by go_num,HE2,HB2,HBX2⟩
    ·have hjn:¬j+1<n:=fun h=>by have:=hea' h;cases this
     have hjd:decide ((j:Int)<(n:Int)-1)=false:=by simp;omega
     go_wp2_with fail
     go_roundg (n-(j+1))
     case measure=>omega
     case rel=>exact⟨_,j+1,rfl,by omega,by go_num,HE2,HB2,HBX2⟩
  ·have hd:decide ((j:Int)<(n:Int))=false:=by simp;omega
   have hc0:z.cell? ⟨w.heap.size,0,none⟩=some (.slice oe n ce):=cell_of_row _ _ 0 _ _ (0,0) HBX.out
   have hc1:z.cell? ⟨w.heap.size,1,none⟩=some (.int .u8 p):=cell_of_row _ _ 1 _ _ (0,0) HBX.out
   have HBB:=Jnv hBB
   clear hBB
   cases BB
   ·go_wp2_with (go_at_call 93;refine(Xs _ _).mono ?_;rintro e w' ⟨rfl,rfl⟩;rw[HBB.out])
    go_ret
    exact .mk rfl HB.out
   ·rcases Nat.eq_zero_or_pos n with hn0|hn0
    ·have hm:decide ((0:Int)≤(n:Int)-1)=false:=by simp;omega
     have hLf:LL=false:=HL0.out hn0
     go_wp2_with (go_at_call 93;refine(Xs _ _).mono ?_;rintro e w' ⟨rfl,rfl⟩;rw[HBB.out])
     go_ret
     exact .mk (by rw[hLf];rfl) HB.out
    ·obtain⟨m,rfl⟩:∃m,n=m+1:=⟨n-1,by omega⟩
     obtain⟨x,hx⟩:∃x,xs[m]? =some x:=⟨_,List.getElem?_eq_getElem (by rw[HN.out];omega)⟩
     obtain⟨g,off,oD,cD,rfl,hg,hq0,hq1,hrd⟩:=HE.out.ext m x hx
     have HRD:=Jnv hrd
     have hdl:=HD.out x (List.mem_of_getElem? hx)
     have hlast:=HLL.out m rfl x hx
     obtain⟨k,d⟩:=x
     simp only at hq0 hq1 HRD hdl hlast
     have HL:Hid (∀w',Jj w' oD d.length cD d→Calls Tryz.prog 92 #[.agg #[.int .u8 k,.slice oD d.length cD]] w' (Jk w' (.bool (X0 k d)))):=Jnv (fun w' h=>Jck k oD cD d w' h hdl)
     rw[←hlast] at HL
     clear hrd hx hdl hlast
     have hm1:((m+1:Nat):Int)-1=(m:Int):=by omega
     have hm:decide ((0:Int)≤(m:Int))=true:=by simp
     have hmi:(m:Int)<(m:Int)+1:=by omega
     go_wp2_with (go_at_call 93;refine(Xs _ _).mono ?_;rintro e w' ⟨rfl,rfl⟩;rw[HBB.out])
     refine Jnx (HL.out _ HRD.out) ?_
     rintro e z2 ⟨rfl,hb⟩
     go_wp2_with fail
     go_ret
     exact .mk rfl (Jno HB.out hb)
theorem JbU:∀(xs:Zq) (i:Nat),(JT (fun x=>x.1==44) xs i=-1∧Jct xs=none)∨(∃(j:Nat) (d:List Int),JT (fun x=>x.1==44) xs i=((i+j:Nat):Int)∧xs[j]? =some (44,d)∧Jct xs=some d)
 |[],_=>.inl ⟨rfl,rfl⟩
 |(k,d)::xs,i=>by
  by_cases h:k=44
  ·subst h
   exact .inr ⟨0,d,by simp[JT],rfl,rfl⟩
  ·have hb:(k==44)=false:=by simpa using h
   rcases JbU xs (i+1) with ⟨h1,h2⟩|⟨j,d',h1,h2,h3⟩
   ·exact .inl ⟨by rw[JT];simp only[hb];exact h1,by rw[Jct,if_neg h];exact h2⟩
   ·refine .inr ⟨j+1,d',?_,by simpa using h2,by rw[Jct,if_neg h];exact h3⟩
    rw[JT];simp only[hb]
    rw[show i+(j+1)=i+1+j by omega];exact h1
def JhW (w:World)(xs:Zq):Ending→World→Prop:=fun e w'=>(∃(id:Int) (ok:Bool),e=.returned (.tuple #[.int .u16 (ZS xs),.bool (X3 xs),.int .u32 id,ok]))∧Below w.heap.size w w'
theorem JkV (lo:Nat)(oe:Option Addr)(ce:Nat)(xs:Zq)(es:List QB)(p:Int)(w:World)(h:JS w lo oe ce xs es)(hk:Jh5 xs)(hd0:∀x∈xs,x.2.length≤100000)(hp:JP p=false∨Qe xs=true):
 Calls Tryz.prog 141 #[.agg #[.slice oe xs.length ce,.int .u8 p]] w (JhW w xs):=by
 have HX:=Jnv h
 have hn16:=hk.le
 have HI:Hid (∀w',JS w' lo oe ce xs es→Calls Tryz.prog 150 #[.slice oe xs.length ce,.func (.func 191) #[] #[]] w' (Jk w' (.int .i64 (JT (fun x=>x.1==44) xs 0)))):=Jnv (fun w' h'=>Jhu lo oe ce xs es w' h' hn16)
 have HRT:Hid (∀w',JS w' lo oe ce xs es→Calls Tryz.prog 42 #[.agg #[.slice oe xs.length ce,.int .u8 p]] w' (Jk w' (.bool true))):=Jnv (fun w' h'=>by
  have:=JdB lo oe ce xs es p w' h' hk hd0
  rwa [show(!JP p||Qe xs)=true by rcases hp with h|h<;>rw[h]<;>simp] at this)
 have HB0:Hid (Below w.heap.size w (w.alloc (.cells #[.slice oe xs.length ce,p] 96))):=Jnv (Below.all (Jny _ _) _)
 have hbx:=heap_alloc_new w (.cells #[.slice oe xs.length ce,p] 96)
 have HX0:=Jnv (HX.out.below HB0.out)
 rcases JbU xs 0 with ⟨hf,hfo⟩|⟨j,d,hf,hxj,hfo⟩
 ·have HFP:Hid (ZS xs=0∧X3 xs=false):=Jnv (by unfold ZS X3;rw[hfo];exact⟨rfl,rfl⟩)
  rw[hf] at HI
  clear h hk hd0 hp hf hfo hbx
  generalize xs.length=n at*
  go_enter Tryz.func141,Tryz.ntmps141
  go_wp2_with fail
  refine Jnx (HI.out _ HX0.out) ?_
  rintro e w2 ⟨rfl,hb⟩
  have HB2:=Jnv (Jno HB0.out hb)
  clear hb
  go_wp2_with fail
  refine bodyPost_ret (v:=.tuple #[JnB,false,JnC,false]) (by simp[results,go_sem,Tryz.f141]) rfl ?_
  exact⟨⟨0,false,by rw[HFP.out.1,HFP.out.2]⟩,HB2.out⟩
 ·have HFP:Hid (ZS xs=Q7 d/8∧X3 xs=(Q7 d%2==1)):=Jnv (by unfold ZS X3;rw[hfo];exact⟨rfl,rfl⟩)
  have hjn:=(List.getElem?_eq_some_iff.1 hxj).1
  have hrt:=hk.right _ (List.mem_of_getElem? hxj)
  have hd6:d.length=6:=by unfold Qc at hrt;rw[if_pos rfl] at hrt;simp only[Bool.and_eq_true,decide_eq_true_eq] at hrt;exact hrt.1
  have HXJ:=Jnv hxj
  rw[hf,Nat.zero_add] at HI
  have HSY:Hid (∀w' oD cD,Jj w' oD d.length cD d→Calls Tryz.prog 151 #[.agg #[.int .u8 44,.slice oD d.length cD]] w' (Jk w' (JkO d))):=Jnv (fun w' oD cD h=>Jfn 44 oD cD d w' h (by omega))
  have HGT:Hid (∀w' oD cD,Jj w' oD d.length cD d→Calls Tryz.prog 81 #[.slice oD d.length cD,.int .i64 2,.int .i64 4] w' (Jk w' (.tuple #[.int .u64 (numAt d 2 4),.int .i64 0]))):=Jnv (fun w' oD cD h=>get_ok oD d.length cD d 2 4 w' h (by decide) (by decide) (by omega) (by omega))
  clear h hk hd0 hp hf hfo hrt hxj hd6
  unfold JkO at HSY
  generalize Q7 d=sd at*
  generalize numAt d 2 4=nd at*
  generalize xs.length=n at*
  go_enter Tryz.func141,Tryz.ntmps141
  go_wp2_with fail
  generalize hw0:w.alloc (.cells #[.slice oe n ce,p] 96)=w1 at*
  refine Jnx (HI.out _ HX0.out) ?_
  rintro e w2 ⟨rfl,hb⟩
  have HB2:=Jnv (Jno HB0.out hb)
  have HX2:=Jnv (HX0.out.below hb)
  have HBX2:=Jnv ((hb.block _ (Jnw hbx).1).trans hbx)
  clear hb hbx HB0 HX0 HX hw0 HI
  have hjd:decide ((j:Int)<0)=false:=by simp
  have hpt:Jc w2 w.heap.size 0 2=#[.slice oe n ce,.int .u8 p]:=Jb HBX2.out rfl
  go_wp2_with fail
  refine Jnx (HRT.out _ HX2.out) ?_
  rintro e w3 ⟨rfl,hb⟩
  have HB3:=Jnv (Jno HB2.out hb)
  have HX3:=Jnv (HX2.out.below hb)
  have HBX3:=Jnv ((hb.block _ (Jnw HBX2.out).1).trans HBX2.out)
  clear hb HB2 HX2 HBX2 hpt HRT
  obtain⟨g,off,oD,cD,rfl,hg,hq0,hq1,hrd⟩:=HX3.out.ext j _ HXJ.out
  have hc0:w3.cell? ⟨w.heap.size,0,none⟩=some (.slice (some ⟨g,off,none⟩) n ce):=cell_of_row _ _ 0 _ _ (0,0) HBX3.out
  have hjn':(j:Int)<(n:Int):=by omega
  simp only at hq0 hq1 hrd
  have HRD:=Jnv hrd
  clear hrd
  go_wp2_with fail
  refine Jnx (HSY.out _ oD cD HRD.out) ?_
  rintro e w4 ⟨rfl,hb⟩
  have HB4:=Jnv (Jno HB3.out hb)
  have HRD4:=Jnv (HRD.out.below hb)
  have hq1':w4.cell? ⟨g,off+j*2+1,none⟩=some (.slice oD d.length cD):=(Jg hb hg (⟨g,off+j*2+1,none⟩:Addr) rfl).trans hq1
  have hc0':w4.cell? ⟨w.heap.size,0,none⟩=some (.slice (some ⟨g,off,none⟩) n ce):=(Jg hb (Jnw HBX3.out).1 (⟨w.heap.size,0,none⟩:Addr) rfl).trans hc0
  clear hb HB3 HX3 HBX3 hq0 hq1 hc0 HRD
  go_wp2_with fail
  refine Jnx (HGT.out _ oD cD HRD4.out) ?_
  rintro e w5 ⟨rfl,hb⟩
  have HB5:=Jnv (Jno HB4.out hb)
  clear hb
  go_wp2_with fail
  refine bodyPost_ret (v:=.tuple #[.int .u16 (sd/8),.bool (sd%2==1),.int .u32 (nd%4294967296),true]) (by simp[results,go_sem,Tryz.f141]) rfl ?_
  exact⟨⟨_,true,by rw[HFP.out.1,HFP.out.2]⟩,HB5.out⟩
open Go.RowKit
theorem JkW (s:Bool)(S:Nat→Int)(t:Bool)(T:Nat→Int)(p a b:Int)(hr:JX ⟨s,S,t,T,p,a,b⟩=false)(w:World):
 Calls Tryz.prog 28 #[.agg (kyC s S t T p a b)] w (Jk w (.string ⟨#[]⟩)):=by
 have HR:=fun w=>Ja0 s S t T p a b w
 rw[hr] at HR
 clear hr
 unfold kyC at*
 go_enter Tryz.func28,Tryz.ntmps28
 go_wp2_with fail
 refine Calls.later (HR _) ?_
 intro x
 go_wp2_with fail
 go_ret
 exact .mk rfl (Jnn (Below.all (Jny _ _) _))
open Go.Lib
theorem JjQ (d:Nat)(h:d<16):hexc d≠32:=by
 have:d=0∨d=1∨d=2∨d=3∨d=4∨d=5∨d=6∨d=7∨d=8∨d=9∨d=10∨d=11∨d=12∨d=13∨d=14∨d=15:=by omega
 rcases this with rfl|rfl|rfl|rfl|rfl|rfl|rfl|rfl|rfl|rfl|rfl|rfl|rfl|rfl|rfl|rfl<;>decide
theorem JlR (u:Nat):(32:UInt8)∉XS 16 u:=fun h=>by
 obtain⟨d,hd,e⟩:=Jb5 16 (by omega) (by omega) u u (JnA _) _ h
 exact JjQ d hd e.symm
theorem JhX (u:Nat):(32:UInt8)∉decDigits u:=fun h=>by
 obtain⟨d,hd,e⟩:=Jdb u _ h
 exact JjQ d hd e.symm
theorem JgD (s:Bool)(B:Nat→Int):(32:UInt8)∉QR s B:=by
 intro h
 have hj:∀(c:UInt8) (L:List (List UInt8)),c≠32→(∀p∈L,(32:UInt8)∉p)→(32:UInt8)∉Xa c L:=fun c L hc hL h=>by
  rcases Jgc _ _ _ h with h|⟨p,hp,hx⟩
  ·exact hc h.symm
  ·exact hL p hp hx
 have hm:∀p∈(List.range 8).map fun i=>XS 16 (grpN B i),(32:UInt8)∉p:=fun p hp=>by
  obtain⟨i,-,rfl⟩:=List.mem_map.1 hp
  exact JlR _
 unfold QR at h
 split at h
 ·split at h
  ·rw[JeU] at h
   split at h
   ·exact hj 58 _ (by decide) hm h
   ·rcases List.mem_append.1 h with h|h
    ·rcases List.mem_append.1 h with h|h
     ·exact hj 58 _ (by decide) (fun p hp=>hm p (List.mem_of_mem_take hp)) h
     ·simp at h
    ·exact hj 58 _ (by decide) (fun p hp=>hm p (List.mem_of_mem_drop hp)) h
  ·refine hj 46 _ (by decide) (fun p hp=>?_) h
   obtain⟨i,-,rfl⟩:=List.mem_map.1 hp
   exact JhX _
 ·simp at h
theorem Jen (c:UInt8):∀l:List UInt8,Xa c (J6 c l)=l
 |[]=>rfl
 |x::r=>by
  have ih:=Jen c r
  unfold J6
  cases hc:J6 c r with
  |nil=>exact absurd hc (Jko c r)
  |cons h t=>
   rw[hc] at ih
   by_cases hx:x=c
   ·rw[if_pos hx,Xj,ih,hx];rfl
   ·rw[if_neg hx]
    cases t with
    |nil=>simp only[Xa] at ih⊢;rw[ih]
    |cons q t=>rw[Xj] at ih⊢;rw[List.cons_append,ih]
def Jbr (k:Ky):List (List UInt8):=[decDigits k.p.toNat,QR k.s k.S,decDigits k.a.toNat,QR k.t k.T,decDigits k.b.toNat]
theorem Jcp {k:Ky}(h:JX k=true):Ja7 k=Xa 32 (Jbr k):=by unfold Ja7;rw[if_pos h];rfl
theorem JgE {k:Ky}(h:JX k=false):Ja7 k=[]:=by unfold Ja7;rw[if_neg (by rw[h];decide)]
theorem Jhv {k:Ky}(h:JX k=true):J6 32 (Ja7 k)=Jbr k:=by
 rw[Jcp h]
 refine Jd9 32 _ (by simp[Jbr]) (fun p hp=>?_)
 simp only[Jbr,List.mem_cons,List.not_mem_nil,or_false] at hp
 rcases hp with rfl|rfl|rfl|rfl|rfl
 ·exact JhX _
 ·exact JgD _ _
 ·exact JhX _
 ·exact JgD _ _
 ·exact JhX _
def XG (s:List UInt8):Option Ky:=match J6 32 s with
 |[x0,x1,x2,x3,x4]=>match JdR 256 x0,Xq x1,JdR 65536 x2,Xq x3,JdR 65536 x4 with
  |some p,some (s1,S),some a,some (t1,T),some b=>if JX ⟨s1,S,t1,T,p,a,b⟩=true∧QR s1 S=x1∧QR t1 T=x3 then some ⟨s1,S,t1,T,p,a,b⟩ else none
  |_,_,_,_,_=>none
 |_=>none
def Jbs (o:Option Ky):Value:=match o with
 |some k=>.tuple #[.agg (kyV k),.int .i64 0]
 |none=>.tuple #[.agg (kyV kyZ),.int .i64 40]
theorem JiG {s:List UInt8}(h:(J6 32 s).length≠5):XG s=none:=by
 unfold XG
 split
 ·rename_i e;rw[e] at h;exact absurd rfl h
 ·rfl
theorem JiH {s x0 x1 x2 x3 x4:List UInt8}(hc:J6 32 s=[x0,x1,x2,x3,x4])(h:Xq x1=none):XG s=none:=by
 unfold XG
 rw[hc]
 simp only[h]
 split<;>first|rfl|contradiction
theorem JiI {s x0 x1 x2 x3 x4:List UInt8}(hc:J6 32 s=[x0,x1,x2,x3,x4])(h:Xq x3=none):XG s=none:=by
 unfold XG
 rw[hc]
 simp only[h]
 split<;>first|rfl|contradiction
theorem JjR {s x0 x1 x2 x3 x4:List UInt8}(hc:J6 32 s=[x0,x1,x2,x3,x4]){s1 t1:Bool}{S T:Nat→Int}(h1:Xq x1=some (s1,S))(h3:Xq x3=some (t1,T))(u0 u2 u4:Nat)(b0:u0<256)(b2:u2<65536)(b4:u4<65536)
 (w0:∀n,n<256→x0=decDigits n→u0=n)(w2:∀n,n<65536→x2=decDigits n→u2=n)(w4:∀n,n<65536→x4=decDigits n→u4=n):
 XG s=if Ja7 ⟨s1,S,t1,T,u0,u2,u4⟩=s then some ⟨s1,S,t1,T,u0,u2,u4⟩ else none:=by
 by_cases ht:Ja7 ⟨s1,S,t1,T,u0,u2,u4⟩=s
 ·rw[if_pos ht]
  cases hr:JX ⟨s1,S,t1,T,u0,u2,u4⟩ with
  |false=>
   rw[JgE hr] at ht
   subst ht
   cases hc
  |true=>
   have hp:=Jhv hr
   rw[ht,hc] at hp
   simp only[Jbr,Int.toNat_natCast,List.cons.injEq,and_true] at hp
   obtain⟨e0,e1,e2,e3,e4⟩:=hp
   unfold XG
   rw[hc]
   simp only[Q9.2 ⟨b0,e0⟩,Q9.2 ⟨b2,e2⟩,Q9.2 ⟨b4,e4⟩,h1,h3]
   rw[if_pos ⟨hr,e1.symm,e3.symm⟩]
 ·rw[if_neg ht]
  unfold XG
  rw[hc]
  simp only[h1,h3]
  split
  ·rename_i p s1' S' a t1' T' b h0 e1 h2 e3 h4
   cases e1
   cases e3
   obtain⟨l0,e0⟩:=Q9.1 h0
   obtain⟨l2,e2⟩:=Q9.1 h2
   obtain⟨l4,e4⟩:=Q9.1 h4
   obtain rfl:=w0 p l0 e0
   obtain rfl:=w2 a l2 e2
   obtain rfl:=w4 b l4 e4
   by_cases hR:JX ⟨s1,S,t1,T,u0,u2,u4⟩=true∧QR s1 S=x1∧QR t1 T=x3
   ·refine absurd ?_ ht
    rw[Jcp hR.1,←Jen 32 s,hc]
    simp only[Jbr,Int.toNat_natCast]
    rw[hR.2.1,hR.2.2,←e0,←e2,←e4]
   ·rw[if_neg hR]
  ·rfl
open Go.RowKit
theorem JbV (M:Nat):∀(l:List UInt8) (acc:Nat) (r:List UInt8) (m:Nat),Lib.parseUintM M acc l=.ok m→Lib.parseUintM M acc (l++r)=Lib.parseUintM M m r
 |[],acc,r,m,h=>by simp only[Lib.parseUintM,Lib.NumEnd.ok.injEq] at h;subst h;rfl
 |c::l,acc,r,m,h=>by
  rw[List.cons_append,Lib.parseUintM]
  rw[Lib.parseUintM] at h
  split
  ·rename_i hc
   rw[if_pos hc] at h
   split
   ·rename_i h2;rw[if_pos h2] at h;cases h
   ·rename_i h2
    rw[if_neg h2] at h
    split
    ·rename_i h3;rw[if_pos h3] at h;cases h
    ·rename_i h3;rw[if_neg h3] at h;exact JbV M l _ r m h
  ·rename_i hc;rw[if_neg hc] at h;cases h
theorem Jeo (M:Nat)(hM:M≤65535):∀(k u:Nat),u≤k→u≤M→Lib.parseUintM M 0 (Lib.decDigits u)=.ok u
 |0,u,hk,hm=>by
  obtain rfl:u=0:=by omega
  rw[Lib.decDigits,dif_pos (by omega),Lib.parseUintM,ZG 0 (by omega),if_pos (by omega),if_neg (by omega),if_neg (by omega),Lib.parseUintM]
 |k+1,u,hk,hm=>by
  rw[Lib.decDigits]
  by_cases h:u<10
  ·rw[dif_pos h,Lib.parseUintM,ZG u h,if_pos (by omega),if_neg (by omega),if_neg (by omega),Lib.parseUintM]
   congr 1;omega
  ·rw[dif_neg h,JbV M _ _ _ _ (Jeo M hM k (u/10) (by omega) (by omega)),Lib.parseUintM,ZG _ (by omega),if_pos (by omega),if_neg (by omega),if_neg (by omega),Lib.parseUintM]
   congr 1;omega
def JgF (w:World)(M:Nat)(l:List UInt8):Ending→World→Prop:=fun e w'=>∃(u:Nat) (er:Value),e=.returned (.tuple #[.int .u64 u,er])∧u<M∧(∀n,n<M→l=Lib.decDigits n→u=n)∧Below w.heap.size w w'
theorem Jll (B:Nat)(hB:2^B-1≤65535)(l:List UInt8)(n:Nat)(hn:n<2^B)(h:l=Lib.decDigits n):Lib.parseUintB B l=.ok n:=by
 subst h
 unfold Lib.parseUintB
 rw[if_neg (Jcu n)]
 exact Jeo _ hB n n (JnA _) (by omega)
theorem JlS (t:ByteArray)(hmax:t.size≤1000)(w:World)(henv:Env w):
 Calls Tryz.prog 58 #[.string t,.int .i64 10,.int .i64 8] w (JgF w 256 t.data.toList):=by
 have hd:∀n,n<256→t.data.toList=Lib.decDigits n→Lib.parseUintB 8 t.data.toList=.ok n:=fun n hn h=>Jll 8 (by decide) _ n (by omega) h
 obtain⟨t1,p1,h1⟩:=henv.syn
 obtain⟨t2,p2,h2⟩:=henv.rng
 rcases hR:Lib.parseUintB 8 t.data.toList with u|_|_
 ·refine(Tryz.strconv_ParseUint_10_at8_ok t (by omega) u hR w).mono ?_
  rintro e w' ⟨rfl,hw⟩
  refine⟨u,_,rfl,?_,fun n hn h=>?_,?_⟩
  ·have:=Lib.parseUintB_le hR;omega
  ·have:=hd n hn h;rw[hR] at this;exact Lib.NumEnd.ok.inj this
  ·rcases hw with rfl|rfl
   ·exact Jny _ _
   ·exact Qq _ _
 ·first
  |(refine(Tryz.strconv_ParseUint_10_at8_syntax t (by omega) (hR.trans rfl) _ w h1 (.inr ⟨_,_,rfl⟩)).mono ?_
    rintro e w' ⟨N,rfl,-,-,hb⟩
    exact⟨0,_,rfl,by omega,(fun n hn h=>by have:=hd n hn h;rw[hR] at this;cases this),hb⟩)
  |(refine(Tryz.strconv_ParseUint_10_at8_range t (by omega) hR _ w h2 (.inr ⟨_,_,rfl⟩)).mono ?_
    rintro e w' ⟨N,rfl,-,-,hb⟩
    exact⟨255,_,rfl,by omega,(fun n hn h=>by have:=hd n hn h;rw[hR] at this;cases this),hb⟩)
 ·first
  |(refine(Tryz.strconv_ParseUint_10_at8_range t (by omega) hR _ w h2 (.inr ⟨_,_,rfl⟩)).mono ?_
    rintro e w' ⟨N,rfl,-,-,hb⟩
    exact⟨255,_,rfl,by omega,(fun n hn h=>by have:=hd n hn h;rw[hR] at this;cases this),hb⟩)
  |(refine(Tryz.strconv_ParseUint_10_at8_syntax t (by omega) (hR.trans rfl) _ w h1 (.inr ⟨_,_,rfl⟩)).mono ?_
    rintro e w' ⟨N,rfl,-,-,hb⟩
    exact⟨0,_,rfl,by omega,(fun n hn h=>by have:=hd n hn h;rw[hR] at this;cases this),hb⟩)
theorem JhY (t:ByteArray)(hmax:t.size≤1000)(w:World)(henv:Env w):
 Calls Tryz.prog 58 #[.string t,.int .i64 10,.int .i64 16] w (JgF w 65536 t.data.toList):=by
 have hd:∀n,n<65536→t.data.toList=Lib.decDigits n→Lib.parseUintB 16 t.data.toList=.ok n:=fun n hn h=>Jll 16 (by decide) _ n (by omega) h
 obtain⟨t1,p1,h1⟩:=henv.syn
 obtain⟨t2,p2,h2⟩:=henv.rng
 rcases hR:Lib.parseUintB 16 t.data.toList with u|_|_
 ·refine(Tryz.strconv_ParseUint_10_at16_ok t (by omega) u hR w).mono ?_
  rintro e w' ⟨rfl,hw⟩
  refine⟨u,_,rfl,?_,fun n hn h=>?_,?_⟩
  ·have:=Lib.parseUintB_le hR;omega
  ·have:=hd n hn h;rw[hR] at this;exact Lib.NumEnd.ok.inj this
  ·rcases hw with rfl|rfl
   ·exact Jny _ _
   ·exact Qq _ _
 ·first
  |(refine(Tryz.strconv_ParseUint_10_at16_syntax t (by omega) (hR.trans rfl) _ w h1 (.inr ⟨_,_,rfl⟩)).mono ?_
    rintro e w' ⟨N,rfl,-,-,hb⟩
    exact⟨0,_,rfl,by omega,(fun n hn h=>by have:=hd n hn h;rw[hR] at this;cases this),hb⟩)
  |(refine(Tryz.strconv_ParseUint_10_at16_range t (by omega) hR _ w h2 (.inr ⟨_,_,rfl⟩)).mono ?_
    rintro e w' ⟨N,rfl,-,-,hb⟩
    exact⟨65535,_,rfl,by omega,(fun n hn h=>by have:=hd n hn h;rw[hR] at this;cases this),hb⟩)
 ·first
  |(refine(Tryz.strconv_ParseUint_10_at16_range t (by omega) hR _ w h2 (.inr ⟨_,_,rfl⟩)).mono ?_
    rintro e w' ⟨N,rfl,-,-,hb⟩
    exact⟨65535,_,rfl,by omega,(fun n hn h=>by have:=hd n hn h;rw[hR] at this;cases this),hb⟩)
  |(refine(Tryz.strconv_ParseUint_10_at16_syntax t (by omega) (hR.trans rfl) _ w h1 (.inr ⟨_,_,rfl⟩)).mono ?_
    rintro e w' ⟨N,rfl,-,-,hb⟩
    exact⟨0,_,rfl,by omega,(fun n hn h=>by have:=hd n hn h;rw[hR] at this;cases this),hb⟩)
open Go.RowKit
theorem JcW {w:World}{b:Nat}{vs:List Value}{t:TypeId}(h:w.heap[b]? =some (.cells vs.toArray t (0,0)))(hm:vs.length≤maxLen):JI w b 1 (some ⟨b,0,none⟩) vs.length vs.length vs:=by
 refine⟨by simp,JnA _,hm,.inr ⟨b,0,rfl,JnA _,(Jnw h).1,fun j u hu=>?_,fun j hj=>⟨?_,?_⟩⟩⟩
 ·rw[Nat.zero_add,cell_of_row _ _ _ _ _ _ h];simpa using hu
 ·rw[Nat.zero_add,cell_of_row _ _ _ _ _ _ h];simp;omega
 ·exact frozen_of_row _ _ _ _ _ h
def Jmm (w:World)(m:Nat)(l:List Int):Ending→World→Prop:=fun e w'=>∃oa cap,e=.returned (.slice oa m cap)∧Jj w' oa m cap l∧Below w.heap.size w w'
theorem J9.n {w:World}{m:Nat}{l:List Int}(hm:l.length=m)(hl:∀v∈l,0≤v∧v<256){e:Ending}{w':World}(h:J9 w l e w'):Jmm w m l e w':=by
 subst hm
 obtain⟨oa,cap,h1,h2,h3⟩:=h
 exact⟨oa,cap,h1,h2.reads hl,h3⟩
theorem JH {B:Nat→Int}(hB:U8 B)(s:Bool):Jm (Ja s B):=by
 intro v hv
 unfold Ja at hv
 obtain⟨i,-,rfl⟩:=List.mem_map.1 hv
 exact hB i
def spC (s:Bool)(S:Nat→Int)(t:Bool)(T:Nat→Int)(p a b f d:Int):Array Value:=(JnU s t p (.int .u16 a) (.int .u16 b) f (.int .i64 d) S T)
theorem JiJ (S T:Nat→Int)(p tot:Int)(hS:U8 S)(hT:U8 T)(hp:0≤p∧p<256)(ht:20≤tot∧tot<65536)(w:World):
 Calls Tryz.prog 53 #[.agg #[.int .u8 0,.int .u16 tot,.int .u16 0,.bool false,.bool false,.int .u16 0,.int .u8 64,.int .u8 p,.int .u8 (S 0),.int .u8 (S 1),.int .u8 (S 2),.int .u8 (S 3),.int .u8 (T 0),.int .u8 (T 1),.int .u8 (T 2),.int .u8 (T 3),.slice none 0 0]] w (Jq w (J8 ⟨0,tot,0,false,false,0,64,p,Ja false S,Ja false T,[]⟩) 0):=by
 have hx:Xi ⟨0,tot,0,false,false,0,64,p,Ja false S,Ja false T,[]⟩=true:=by
  unfold Xi
  simp
  omega
 have h:=Jdl ⟨0,tot,0,false,false,0,64,p,Ja false S,Ja false T,[]⟩ none 0 w ⟨(show(0:Int)≤0∧(0:Int)<256 by decide),⟨by show 0≤tot;omega,ht.2⟩,(show(0:Int)≤0∧(0:Int)<65536 by decide),(show(0:Int)≤0∧(0:Int)<65536 by decide),(show(0:Int)≤64∧(64:Int)<256 by decide),hp,⟨Ji _ _,JH hS _⟩,⟨Ji _ _,JH hT _⟩,fun v hv=>by cases hv⟩ ⟨rfl,JnA _,Nat.zero_le _,(fun v hv=>by cases hv),.inl rfl⟩ (fun a h=>by cases h) hx
 unfold Jdk Z5 at h
 rw[hx] at h
 exact h
theorem Jcq (S T:Nat→Int)(p n:Int)(hS:U8 S)(hT:U8 T)(hp:0≤p∧p<256)(hn:0≤n∧n<65536)(w:World):
 Calls Tryz.prog 55 #[.agg #[.int .u8 0,.int .u32 0,.int .u16 n,.int .u8 p,.int .u8 64,.int .u8 (S 0),.int .u8 (S 1),.int .u8 (S 2),.int .u8 (S 3),.int .u8 (S 4),.int .u8 (S 5),.int .u8 (S 6),.int .u8 (S 7),.int .u8 (S 8),.int .u8 (S 9),.int .u8 (S 10),.int .u8 (S 11),.int .u8 (S 12),.int .u8 (S 13),.int .u8 (S 14),.int .u8 (S 15),.int .u8 (T 0),.int .u8 (T 1),.int .u8 (T 2),.int .u8 (T 3),.int .u8 (T 4),.int .u8 (T 5),.int .u8 (T 6),.int .u8 (T 7),.int .u8 (T 8),.int .u8 (T 9),.int .u8 (T 10),.int .u8 (T 11),.int .u8 (T 12),.int .u8 (T 13),.int .u8 (T 14),.int .u8 (T 15)]] w (Jq w (Bits.be4 1610612736++be2 n++[p,64]++Ja true S++Ja true T) 0):=
 JjK ⟨0,0,n,p,64,Ja true S,Ja true T⟩ w ⟨(show(0:Int)≤0∧(0:Int)<256 by decide),(show(0:Int)≤0∧(0:Int)<4294967296 by decide),hn,hp,(show(0:Int)≤64∧(64:Int)<256 by decide),⟨Ji _ _,JH hS _⟩,⟨Ji _ _,JH hT _⟩⟩
theorem JiK (S:Nat→Int)(t:Bool)(T:Nat→Int)(p a b f d:Int)(n:Nat)(hn:n≤60000)(hS:U8 S)(hT:U8 T)(hp:0≤p∧p<256)(w:World):
 Calls Tryz.prog 44 #[.agg (spC true S t T p a b f d),.int .i64 n] w (Jq w (Bits.be4 1610612736++be2 (n:Int)++[p,64]++Ja true S++Ja true T) 0):=by
 have HP:=Jnv (Jcq S T p n hS hT hp (by omega))
 have hw:IntKind.u16.wrap (n:Int)=n:=by rw[IntKind.wrap_u16];omega
 generalize Bits.be4 1610612736++be2 (n:Int)++[p,64]++Ja true S++Ja true T=L at*
 clear hS hT hp hn
 unfold spC
 go_enter Tryz.func44,Tryz.ntmps44
 go_wp2_with fail
 refine Jnx (HP.out _) ?_
 rintro e w2 ⟨oa,cap,rfl,ho,hb⟩
 go_wp2_with fail
 go_ret2
 exact⟨oa,cap,rfl,ho.mono (by simp),Jno (Below.all (Jny _ _) _) hb⟩
theorem Jhw (S:Nat→Int)(t:Bool)(T:Nat→Int)(p a b f d:Int)(n:Nat)(hn:n≤60000)(hS:U8 S)(hT:U8 T)(hp:0≤p∧p<256)(w:World):
 Calls Tryz.prog 44 #[.agg (spC false S t T p a b f d),.int .i64 n] w (Jq w (J8 ⟨0,20+(n:Int),0,false,false,0,64,p,Ja false S,Ja false T,[]⟩) 0):=by
 have HP:=Jnv (JiJ S T p (20+(n:Int)) hS hT hp (by omega))
 have hw:IntKind.u16.wrap (20+(n:Int))=20+(n:Int):=by rw[IntKind.wrap_u16];omega
 have hw2:IntKind.i64.wrap (20+(n:Int))=20+(n:Int):=by rw[IntKind.wrap_i64];omega
 have hn2:(n:Int)≤60000:=by omega
 generalize J8 ⟨0,20+(n:Int),0,false,false,0,64,p,Ja false S,Ja false T,[]⟩=L at*
 clear hS hT hp hn
 have hX:(w.alloc (.cells (spC false S t T p a b f d) 47)).heap[w.heap.size]? =some (.cells (spC false S t T p a b f d) 47 (0,0)):=heap_alloc_new w _
 have HB:Hid (Below w.heap.size w (w.alloc (.cells (spC false S t T p a b f d) 47))):=Jnv (Below.all (Jny _ _) _)
 have HX:=Jnv hX
 clear hX
 unfold spC at HB⊢
 go_enter Tryz.func44,Tryz.ntmps44
 go_wp2_with fail
 have HX':=HX.out
 unfold spC at HX'
 obtain⟨b0,hb0⟩:∃b,b=w.heap.size:=⟨_,rfl⟩
 rw[←hb0] at HX'⊢
 have HB0:=Jnv hb0
 clear hb0
 generalize w.alloc _=y at*
 have hlt:b0<y.heap.size:=(Jnw HX').1
 have HY:=Jnv HX'
 clear HX' HX
 refine J0 [.h,.h,.h,.h,.h,.h,.h,.h,.h,.h,.h,.h,.h,.h,.h,.h,.h,.h,.h] [] (fun _ _=>True) [] [(.w,19),(.q,20),(.q,21),(.q,22),(.q,23)] (by kernel_rfl) (by kernel_rfl) (by kernel_rfl) (by kernel_rfl) ?_
 apply Exists.intro
 refine⟨fun wx hbx=>?_,by simp,?_⟩
 ·have hxx:=(hbx.block b0 hlt).trans HY.out
  have hbx2:b0<wx.heap.size:=Jnz hlt hbx.size
  have c34:wx.cell? ⟨b0,34,none⟩=some (.int .u8 p):=cell_of_row _ _ 34 _ _ (0,0) hxx
  have harr1:=JaV (P:=Tryz.prog) 111 _ Tryz.underlying111 (some ⟨b0,1,none⟩) 4 16 (by omega)
  have harr2:=JaV (P:=Tryz.prog) 111 _ Tryz.underlying111 (some ⟨b0,18,none⟩) 4 16 (by omega)
  have p1:Jc wx b0 1 4=(#[S 0,S 1,S 2,S 3]:Array Value):=by rw[Jn _ _ _ _ _ _ _ hxx];simp
  have p2:Jc wx b0 18 4=(#[T 0,T 1,T 2,T 3]:Array Value):=by rw[Jn _ _ _ _ _ _ _ hxx];simp
  clear hxx hbx
  simp only[Ju]
  repeat go_big_quiet_step (fail)
  exact wpQuiet_nil rfl
 simp only[JY,List.getElem?_cons_succ,List.getElem?_cons_zero]
 refine⟨fun v fl w2=>∃oP cP,v=.tuple #[.slice oP L.length cP,.int .i64 0]∧JI w2 y.heap.size 1 oP L.length cP (L.map (.int .u8))∧Below y.heap.size y w2,?_,fun _ _=>Xf,(fun h=>by cases h),?_⟩
 ·rintro fl rfl
  refine⟨rfl,fun w' hw'=>.inr ⟨53,#[.agg #[.int .u8 0,.int .u16 (20+(n:Int)),.int .u16 0,.bool false,.bool false,.int .u16 0,.int .u8 64,.int .u8 p,.int .u8 (S 0),.int .u8 (S 1),.int .u8 (S 2),.int .u8 (S 3),.int .u8 (T 0),.int .u8 (T 1),.int .u8 (T 2),.int .u8 (T 3),.slice none 0 0]],by kernel_rfl,?_⟩⟩
  obtain⟨⟨x,rfl⟩,-⟩:=hw'
  refine(HP.out x.world).mono ?_
  rintro e w2 ⟨oP,cP,rfl,ho,hb⟩
  exact⟨_,rfl,oP,cP,rfl,ho.mono x.below.size,Jno x.below hb⟩
 rintro v ⟨fl3,w23,oP,cP,rfl,-⟩
 refine⟨.slice oP L.length cP,⟨rfl,fun _=>by kernel_rfl⟩,?_⟩
 refine⟨.int .i64 0,⟨rfl,fun _=>by kernel_rfl⟩,?_⟩
 refine⟨.slice oP L.length cP,⟨rfl,fun _=>by kernel_rfl⟩,?_⟩
 refine⟨.int .i64 0,⟨rfl,fun _=>by kernel_rfl⟩,?_⟩
 rintro y3 ⟨oP',cP',he,hoP,hb3⟩
 obtain⟨rfl,rfl⟩:oP=oP'∧cP=cP':=by simpa using he
 clear he w23 fl3
 go_wp2_with fail
 go_ret2
 exact⟨_,_,rfl,hoP.mono HB.out.size,HB.out.trans (hb3.mono HB.out.size)⟩
open Go.RowKit
theorem Zo (u:Nat)(h:u<65536):(Lib.decDigits u).length≤65536:=by
 rw[←JcO u u (JnA _)]
 have:=ZV 10 u u (JnA _)
 omega
theorem JlT {ops:Array Oper}{w:World}{o:Oper}{a:Act}{gs:List ZD}(vs:List (List UInt8))(len:Nat)(parts:Array (Nat×Operand))(ho:o.op=.buildSlice 76 len parts)(hw:Region.wanted o (yielded ops a.tmps)=true)
 (hl:0<len∧len≤100)(hf:Instr.fill (fun i=>some (i*1,1)) ((Array.range (len*1)).map ((Value.string ⟨#[]⟩).cells[·%(Value.string ⟨#[]⟩).cells.size]!)) (parts.map fun(i,x)=>(i,a.eval x)).toList=some (vs.map JdK).toArray):
 Jbh Tryz.prog ops w gs o (Jgt (.cells (vs.map JdK).toArray 9) len) a:=by
 obtain⟨ie,hie,hz,h4,h5⟩:=info_parts JeP
 refine JfD.f (Jch 76 9 len parts ho hw _ ie (.string ⟨#[]⟩) (by kernel_rfl) hie hz ?_ ?_ ?_) gs
 ·rw[h4];omega
 ·rw[h4];omega
 ·rw[h4];exact hf
theorem JjS (s:Bool)(S:Nat→Int)(t:Bool)(T:Nat→Int)(p a b:Nat)(hr:JX ⟨s,S,t,T,p,a,b⟩=true)(hS:U8 S)(hT:U8 T)(hp:p<256)(ha:a<65536)(hb:b<65536)(w:World)(henv:Env w):
 Calls Tryz.prog 28 #[.agg (kyC s S t T p a b)] w (Jk w (.string ⟨(Xa 32 [Lib.decDigits p,QR s S,Lib.decDigits a,QR t T,Lib.decDigits b]).toArray⟩)):=by
 have HR:=fun w=>Ja0 s S t T p a b w
 rw[hr] at HR
 have HE:=Jnv henv
 have HI0:=Jnv (fun w h=>JcP p (by omega) w h)
 have HI2:=Jnv (fun w h=>JcP a (by omega) w h)
 have HI4:=Jnv (fun w h=>JcP b (by omega) w h)
 have HA1:=Jnv (fun w h=>JhI s S hS w h)
 have HA3:=Jnv (fun w h=>JhI t T hT w h)
 have hj:(Xa 32 [Lib.decDigits p,QR s S,Lib.decDigits a,QR t T,Lib.decDigits b]).length≤140737488355328:=by
  refine Nat.le_trans (Xb 32 100000 _ fun q hq=>?_) (by simp)
  simp only[List.mem_cons,List.not_mem_nil,or_false] at hq
  rcases hq with rfl|rfl|rfl|rfl|rfl
  ·have:=Zo p (by omega);omega
  ·have:=Jed s S hS;omega
  ·have:=Zo a (by omega);omega
  ·have:=Jed t T hT;omega
  ·have:=Zo b (by omega);omega
 have HJ:=Jnv (fun bk w ho=>JaU (some ⟨bk,0,none⟩) 5 5 bk [Lib.decDigits p,QR s S,Lib.decDigits a,QR t T,Lib.decDigits b] 32 w ho hj (by decide))
 clear hr henv hS hT hj
 generalize Xa 32 [Lib.decDigits p,QR s S,Lib.decDigits a,QR t T,Lib.decDigits b]=J at*
 generalize Lib.decDigits p=d0 at*
 generalize QR s S=d1 at*
 generalize Lib.decDigits a=d2 at*
 generalize QR t T=d3 at*
 generalize Lib.decDigits b=d4 at*
 unfold kyC adV at*
 go_enter Tryz.func28,Tryz.ntmps28
 go_wp2_with fail
 refine Calls.later (HR _) ?_
 intro x
 have h1:x.world.heap[w.heap.size]? =some (.cells (kyC s S t T p a b) 30 (0,0)):=(x.below.block _ (by simp)).trans (heap_alloc_new w (.cells (kyC s S t T p a b) 30))
 have HB:Hid (Below w.heap.size w x.world):=Jnv (Jnn (Below.all (Jny _ _) _))
 go_wp2_with fail
 generalize x.world=y at*
 have H1:=Jnv h1
 clear h1
 refine Xc 18 [true] (by kernel_rfl) (by kernel_rfl) (by kernel_rfl) ?_
 apply Exists.intro
 refine⟨fun wx hbx=>?_,?_⟩
 ·have hr:wx.heap[w.heap.size]? =some (.cells (kyC s S t T p a b) 30 (0,0)):=(hbx.block _ (Jnw H1.out).1).trans H1.out
  have hlt:w.heap.size<wx.heap.size:=(Jnw hr).1
  have HEx:=Jnv ((HE.out.below HB.out).below hbx)
  have p1:Jc wx w.heap.size 0 17=(JnH s S:Array Value):=by rw[Jn _ _ _ _ _ _ _ hr];simp[kyC]
  have p2:Jc wx w.heap.size 17 17=(JnH t T:Array Value):=by rw[Jn _ _ _ _ _ _ _ hr];simp[kyC]
  have c34:wx.cell? ⟨w.heap.size,34,none⟩=some (.int .u8 (p:Int)):=cell_of_row _ _ 34 _ _ (0,0) hr
  have c35:wx.cell? ⟨w.heap.size,35,none⟩=some (.int .u16 (a:Int)):=cell_of_row _ _ 35 _ _ (0,0) hr
  have c36:wx.cell? ⟨w.heap.size,36,none⟩=some (.int .u16 (b:Int)):=cell_of_row _ _ 36 _ _ (0,0) hr
  clear hr hbx
  simp only[List.take_succ_cons,List.take_zero]
  repeat go_big_quiet_step (fail)
  go_big_quiet_step ((go_at_call 71;exact JJ (HI0.out _ (HEx.out.below (JC.below _)))))
  repeat go_big_quiet_step (fail)
  go_big_quiet_step ((go_at_call 72;exact JJ (HA1.out _ (HEx.out.below (JC.below _)))))
  repeat go_big_quiet_step (fail)
  go_big_quiet_step ((go_at_call 71;exact JJ (HI2.out _ (HEx.out.below (JC.below _)))))
  repeat go_big_quiet_step (fail)
  go_big_quiet_step ((go_at_call 72;exact JJ (HA3.out _ (HEx.out.below (JC.below _)))))
  repeat go_big_quiet_step (fail)
  go_big_quiet_step ((go_at_call 71;exact JJ (HI4.out _ (HEx.out.below (JC.below _)))))
  exact wpQuiet_nil rfl
 ·simp only[List.drop_succ_cons,List.drop_zero,List.zip_cons_cons,List.zip_nil_left,List.length_cons,List.length_nil]
  refine Xm _ (JlT [d0,d1,d2,d3,d4] 5 _ rfl rfl (by decide) (by simp[Instr.fill,Value.cells,go_sem,JdK])) (XA _ _) ?_
  rintro lo hi v hlo hhi-⟨w0,rfl,-⟩
  refine ZH ?_
  intro w' hb hal
  have hh:=((hal _ (List.mem_cons_self ..)).2 w' (Jny _ _)).2.2
  clear hal
  have HO:=Jnv (JcW hh (by simp[maxLen]))
  clear hh
  go_wp2_with fail
  refine Jnx (HJ.out _ w' HO.out) ?_
  rintro e w5 ⟨rfl,hb5⟩
  go_wp2_with fail
  go_ret
  exact .mk rfl ((HB.out.trans (hb.mono HB.out.size)).trans (hb5.mono (Nat.le_trans HB.out.size hb.size)))
theorem JjT (k:Ky)(hk:Jl3 k)(w:World)(henv:Env w):
 Calls Tryz.prog 28 #[.agg (kyV k)] w (Jk w (.string ⟨(Ja7 k).toArray⟩)):=by
 obtain⟨s,S,t,T,p,a,b⟩:=k
 obtain⟨hS,hT,hp,ha,hb⟩:=hk
 simp only at hS hT hp ha hb
 cases hr:JX ⟨s,S,t,T,p,a,b⟩ with
 |false=>rw[JgE hr];exact JkW s S t T p a b hr w
 |true=>
  obtain⟨p,rfl⟩:=Int.eq_ofNat_of_zero_le hp.1
  obtain⟨a,rfl⟩:=Int.eq_ofNat_of_zero_le ha.1
  obtain⟨b,rfl⟩:=Int.eq_ofNat_of_zero_le hb.1
  rw[Jcp hr]
  simp only[Jbr,Int.toNat_natCast]
  exact JjS s S t T p a b hr hS hT (by omega) (by omega) (by omega) w henv
open Go.RowKit
structure Bx (W w:World)(fs:List (Nat×Obj)):Prop where
 all:∀b o,(b,o)∈fs→w.heap[b]? =some o
 out:Below W.heap.size W w
theorem Bx.start (W:World):Bx W W []:=⟨fun _ _ h=>absurd h List.not_mem_nil,Jny _ _⟩
theorem Bx.go {W w w':World}{fs:List (Nat×Obj)}(h:Bx W w fs)(hb:Below w.heap.size w w'):Bx W w' fs:=
 ⟨fun b o hm=>(hb.block b (Jnw (h.all b o hm)).1).trans (h.all b o hm),Jno h.out hb⟩
theorem Bx.box {W w:World}{fs:List (Nat×Obj)}(h:Bx W w fs)(cs:Array Value)(t:TypeId):Bx W (w.alloc (.cells cs t)) ((w.heap.size,.cells cs t (0,0))::fs):=by
 have h':=h.go (Below.all (Jny _ _) (.cells cs t))
 refine⟨fun b o hm=>?_,h'.out⟩
 rcases List.mem_cons.1 hm with e|hm
 ·cases e;exact heap_alloc_new w _
 ·exact h'.all b o hm
theorem Bx.at {W w:World}{fs:List (Nat×Obj)}(h:Bx W w fs)(i:Nat){b:Nat}{o:Obj}(hi:fs[i]? =some (b,o)):w.heap[b]? =some o:=h.all b o (List.mem_of_getElem? hi)
theorem Bx.lt {W w:World}{fs:List (Nat×Obj)}(h:Bx W w fs)(i:Nat){b:Nat}{o:Obj}(hi:fs[i]? =some (b,o)):b<w.heap.size:=(Jnw (h.at i hi)).1
theorem Bx.part {W w:World}{fs:List (Nat×Obj)}(h:Bx W w fs)(i:Nat){b n:Nat}{cs:Array Value}{t:TypeId}(hi:fs[i]? =some (b,.cells cs t (0,0)))(hs:cs.size=n):Jc w b 0 n=cs:=Jb (h.at i hi) hs
theorem Bx.cell {W w:World}{fs:List (Nat×Obj)}(h:Bx W w fs)(i j:Nat){b:Nat}{cs:Array Value}{t:TypeId}{v:Value}(hi:fs[i]? =some (b,.cells cs t (0,0)))(hj:cs[j]? =some v):w.cell? ⟨b,j,none⟩=some v:=by rw[cell_of_row _ _ _ _ _ _ (h.at i hi)];exact hj
theorem Bx.ret {P:Program}{f:FuncId}{args:Array Value}{W w:World}{fs:List (Nat×Obj)}{v:Value}{R:Ending→World→Prop}(h:Bx W w fs)(hc:Calls P f args w (Jk w v))(k:∀w',Below w.heap.size w w'→Hid (Bx W w' fs)→R (.returned v) w'):Calls P f args w R:=
 hc.mono fun e w' ⟨he,hb⟩=>by subst he;exact k w' hb (Jnv (h.go hb))
def OBx (z:World)(b:Nat)(cs:Array Value)(t:TypeId)(w:World):Prop:=w.heap[b]? =some (.cells cs t (0,0))∧Below b z w∧∀i,i≠b→i<z.heap.size→w.heap[i]? =z.heap[i]?
theorem OBx.set {z w:World}{b:Nat}{cs:Array Value}{t:TypeId}(h:OBx z b cs t w)(k:Nat)(v:Value):OBx z b (cs.setIfInBounds k v) t (w.setCell ⟨b,k,none⟩ v):=
 ⟨heap_setCell_same _ b k cs t v h.1,h.2.1.setCell (JnA _) _,fun i hi hl=>(Below.heap_setCell _ _ _ _ hi).trans (h.2.2 i hi hl)⟩
theorem OBx.later {z w w':World}{b:Nat}{cs:Array Value}{t:TypeId}(h:OBx z b cs t w)(hb:Below w.heap.size w w'):OBx z b cs t w':=by
 have hl:b<w.heap.size:=(Jnw h.1).1
 exact⟨(hb.block b hl).trans h.1,h.2.1.trans (hb.mono (Nat.le_of_lt hl)),fun i hi hz=>(hb.block i (Jnz hz h.2.1.size)).trans (h.2.2 i hi hz)⟩
open Go.RowKit
structure ZP (w0:World)(t:TypeId)(g off:Nat)(L:List (List UInt8))(w:World):Prop where
 box:w.heap[w0.heap.size]? =some (.cells (kyV kyZ) t (0,0))
 row:∀j x,L[j]? =some x→w.cell? ⟨g,off+j,none⟩=some (JdK x)
 bel:Below w0.heap.size w0 w
theorem ZP.go {w0 w w':World}{t:TypeId}{g off:Nat}{L:List (List UInt8)}(h:ZP w0 t g off L w)(hb:Below w.heap.size w w'):ZP w0 t g off L w':=
 ⟨(hb.block _ (Jnw h.box).1).trans h.box,fun j x hj=>(hb.cell (World.block_lt_of_cell? w _ (h.row j x hj))).trans (h.row j x hj),h.bel.trans (hb.mono h.bel.size)⟩
theorem ZP.at {w0 w:World}{t:TypeId}{g off:Nat}{L:List (List UInt8)}(h:ZP w0 t g off L w)(j:Nat){x:List UInt8}(hj:L[j]? =some x):w.cell? ⟨g,off+j,none⟩=some (.string ⟨x.toArray⟩):=h.row j x hj
theorem ZP.lt {w0 w:World}{t:TypeId}{g off:Nat}{L:List (List UInt8)}(h:ZP w0 t g off L w):w0.heap.size<w.heap.size:=(Jnw h.box).1
theorem ZP.free {w0 w:World}{t:TypeId}{g off:Nat}{L:List (List UInt8)}(h:ZP w0 t g off L w):Jl w w0.heap.size 37=true:=by rw[Jd _ _ _ _ _ h.box];rfl
theorem ZP.alloc {w0 w:World}{t:TypeId}{g off:Nat}{L:List (List UInt8)}(h:ZP w0 t g off L w)(o:Obj):ZP w0 t g off L (w.alloc o):=h.go (Below.all (Jny _ _) o)
theorem Jep (x:List UInt8):∃(s:Bool) (B:Nat→Int) (e:Int),Jec (Xq x)=.tuple #[adV s B,.int .i64 e]∧((e=0∧Xq x=some (s,B)∧U8 B)∨(e=40∧Xq x=none)):=by
 rcases Jgb x with ⟨s,B,h1,-,h3,h4⟩|⟨h1,h4⟩
 ·exact⟨s,B,0,h4,.inl ⟨rfl,h1,h3⟩⟩
 ·exact⟨false,fun _=>0,40,h4,.inr ⟨rfl,h1⟩⟩
theorem Jlm {w:World}{b:Nat}{cs old:Array Value}{t:TypeId}(A K:Obj)(h:w.heap[b]? =some (.cells old t (0,0))):(((w.setRow b cs).alloc A).alloc K).heap[b]? =some (.cells cs t (0,0)):=by
 have h1:=Jh (cs:=cs) h
 have l1:=(Jnw h1).1
 have h2:=(heap_alloc_old _ A l1).trans h1
 exact(heap_alloc_old _ K (Jnw h2).1).trans h2
theorem Jm6 {α:Type}{l:List α}(h:l.length=5):∃a b c d e,l=[a,b,c,d,e]:=by
 match l,h with
 |[a,b,c,d,e],_=>exact⟨a,b,c,d,e,rfl⟩
theorem ZQ {w w':World}{tmps:Array Value}{k:Ky}{err:Int}(R:Value)(hp:tmps.getD 2 undef=.pointer (some ⟨w.heap.size,0,none⟩))(h3:tmps.getD 3 undef=.int .i64 err)(hc:Jc w' w.heap.size 0 37=kyV k)(hv:R=.tuple #[.agg (kyV k),.int .i64 err])(hb:Below w.heap.size w w'):
 bodyPost Tryz.prog Tryz.f22 (Jk w R) .ret { tmps:=tmps,defers:=[] } w':=
 bodyPost_ret (v:=.tuple #[.agg (kyV k),.int .i64 err]) (QF rfl _ _ w.heap.size 37 _ _ Tryz.underlying30 rfl Jky hp h3 (kyV k) hc rfl) rfl (.mk hv.symm hb)
theorem JaJ (l:List UInt8)(w:World)(hs:l.length≤1000)(henv:Env w):Calls Tryz.prog 22 #[.string ⟨l.toArray⟩] w (Jk w (Jbs (XG l))):=by
 have HE:=Jnv henv
 have HSP:Hid (∀w,Env w→Calls Tryz.prog 57 #[.string ⟨l.toArray⟩,.string ⟨#[32]⟩] w (Jea w (J6 32 l))):=Jnv (fun w h=>Jda ⟨l.toArray⟩ 32 w h (by simpa[ByteArray.size] using hs))
 have HPC:Hid ((J6 32 l).length≤1001):=Jnv (by have:=Ze 32 l;omega)
 have HPL:Hid (∀p∈J6 32 l,p.length≤1000):=Jnv (fun p hp=>by have:=Jas 32 _ p hp;omega)
 have hX0:(w.alloc (.cells (kyV kyZ) 30)).heap[w.heap.size]? =some (.cells (kyV kyZ) 30 (0,0)):=heap_alloc_new w _
 have hB0:Below w.heap.size w (w.alloc (.cells (kyV kyZ) 30)):=Below.all (Jny _ _) _
 have HX0:=Jnv hX0
 have HB0:=Jnv hB0
 clear hX0 hB0
 unfold kyV kyZ kyC at HX0 HB0
 simp only at HX0 HB0
 obtain⟨P,hP⟩:∃P,J6 32 l=P:=⟨_,rfl⟩
 rw[hP] at HSP HPC HPL
 have HP:=Jnv hP
 clear hP hs henv
 obtain⟨R,hR⟩:∃R,Jbs (XG l)=R:=⟨_,rfl⟩
 rw[hR]
 have HR:=Jnv hR
 clear hR
 go_enter Tryz.func22,Tryz.ntmps22
 go_wp2_with fail
 generalize w.alloc _=w1 at*
 refine Jnx (HSP.out _ (HE.out.below HB0.out)) ?_
 rintro e w2 ⟨op,capp,rfl,HO,HB⟩
 have HOO:=Jnv HO
 have HB2:=Jnv (HB0.out.trans (HB.mono HB0.out.size))
 have HX2:=Jnv ((HB.block _ (Jnw HX0.out).1).trans HX0.out)
 clear HO HB HX0 HB0
 by_cases h5:P.length=5
 rotate_left
 ·have hn:¬((P.length:Int)=5):=by omega
  have HN:Hid (XG l=none):=Jnv (JiG (by rw[HP.out];exact h5))
  have hrf:Jl w2 w.heap.size 37=true:=by rw[Jd _ _ _ _ _ HX2.out];rfl
  clear h5
  go_wp2_with fail
  exact ZQ (k:=kyZ) _ rfl rfl (ZT HX2.out) (by rw[←HR.out,HN.out];rfl) (below_setRow HB2.out (JnA _) _)
 obtain⟨x0,x1,x2,x3,x4,rfl⟩:=Jm6 h5
 clear h5
 have hl0:=HPL.out x0 (by simp)
 have hl1:=HPL.out x1 (by simp)
 have hl2:=HPL.out x2 (by simp)
 have hl3:=HPL.out x3 (by simp)
 have hl4:=HPL.out x4 (by simp)
 have HU0:Hid (∀w',Env w'→Calls Tryz.prog 58 #[.string ⟨x0.toArray⟩,.int .i64 10,.int .i64 8] w' (JgF w' 256 x0)):=Jnv fun w' h=>JlS ⟨x0.toArray⟩ (by simp[ByteArray.size];omega) w' h
 have HU2:Hid (∀w',Env w'→Calls Tryz.prog 58 #[.string ⟨x2.toArray⟩,.int .i64 10,.int .i64 16] w' (JgF w' 65536 x2)):=Jnv fun w' h=>JhY ⟨x2.toArray⟩ (by simp[ByteArray.size];omega) w' h
 have HU4:Hid (∀w',Env w'→Calls Tryz.prog 58 #[.string ⟨x4.toArray⟩,.int .i64 10,.int .i64 16] w' (JgF w' 65536 x4)):=Jnv fun w' h=>JhY ⟨x4.toArray⟩ (by simp[ByteArray.size];omega) w' h
 have HPA:Hid (∀w',Env w'→Calls Tryz.prog 59 #[.string ⟨x1.toArray⟩] w' (Jk w' (Jec (Xq x1)))):=Jnv fun w' h=>Jga ⟨x1.toArray⟩ w' (by simp[ByteArray.size];omega) h
 have HPB:Hid (∀w',Env w'→Calls Tryz.prog 59 #[.string ⟨x3.toArray⟩] w' (Jk w' (Jec (Xq x3)))):=Jnv fun w' h=>Jga ⟨x3.toArray⟩ w' (by simp[ByteArray.size];omega) h
 obtain⟨s1,S,e1,hv1,hc1⟩:=Jep x1
 obtain⟨t1,T,e3,hv3,hc3⟩:=Jep x3
 rw[hv1] at HPA
 rw[hv3] at HPB
 have HC1:=Jnv hc1
 have HC3:=Jnv hc3
 clear hl0 hl1 hl2 hl3 hl4 hv1 hv3 hc1 hc3 HPL HPC HSP
 obtain⟨g,off,hop,hbg,hg,hcc,-⟩:=HOO.out.here (by simp)
 subst hop
 have ST2:Hid (ZP w 30 g off [x0,x1,x2,x3,x4] w2):=Jnv ⟨HX2.out,fun j x hj=>hcc j (JdK x) (by simp only[List.getElem?_map,hj];rfl),HB2.out⟩
 clear hcc HOO HX2 HB2 hbg hg
 have c0:=ST2.out.at 0 (x:=x0) rfl
 rw[Nat.add_zero] at c0
 simp only[List.length_cons,List.length_nil]
 go_wp2_with fail
 refine Jnx (HU0.out _ (HE.out.below ST2.out.bel)) ?_
 rintro e w3 ⟨u0,er0,rfl,b0,hw0,hb3⟩
 have HW0:=Jnv (And.intro b0 hw0)
 clear b0 hw0
 have ST3:=Jnv (ST2.out.go hb3)
 clear hb3 c0 ST2
 have c2:=ST3.out.at 2 (x:=x2) rfl
 go_wp2_with fail
 refine Jnx (HU2.out _ (HE.out.below ST3.out.bel)) ?_
 rintro e w4 ⟨u2,er2,rfl,b2,hw2,hb4⟩
 have HW2:=Jnv (And.intro b2 hw2)
 clear b2 hw2
 have ST4:=Jnv (ST3.out.go hb4)
 clear hb4 c2 ST3
 have c4:=ST4.out.at 4 (x:=x4) rfl
 go_wp2_with fail
 refine Jnx (HU4.out _ (HE.out.below ST4.out.bel)) ?_
 rintro e w5 ⟨u4,er4,rfl,b4,hw4,hb5⟩
 have HW4:=Jnv (And.intro b4 hw4)
 clear b4 hw4
 have ST5:=Jnv (ST4.out.go hb5)
 clear hb5 c4 ST4
 have c1:=ST5.out.at 1 (x:=x1) rfl
 go_wp2_with fail
 refine Jnx (HPA.out _ (HE.out.below ST5.out.bel)) ?_
 rintro e w6 ⟨rfl,hb6⟩
 have ST6:=Jnv ((ST5.out.go hb6).alloc (.cells (JnH s1 S) 27))
 have HA6:=Jnv (heap_alloc_new w6 (.cells (JnH s1 S) 27))
 clear hb6 c1 ST5
 unfold adV at HPB⊢
 have c3:=ST6.out.at 3 (x:=x3) rfl
 go_wp2_with fail
 obtain⟨b6,hb6⟩:∃b,b=w6.heap.size:=⟨_,rfl⟩
 rw[←hb6] at HA6⊢
 clear hb6 c3
 generalize w6.alloc _=y6 at*
 refine Jnx (HPB.out _ (HE.out.below ST6.out.bel)) ?_
 rintro e w7 ⟨rfl,hb7⟩
 have ST7:=Jnv ((ST6.out.go hb7).alloc (.cells (JnH t1 T) 27))
 have HA7:=Jnv ((heap_alloc_old _ (.cells (JnH t1 T) 27) (Jnz (Jnw HA6.out).1 hb7.size)).trans ((hb7.block b6 (Jnw HA6.out).1).trans HA6.out))
 have HT7:=Jnv (heap_alloc_new w7 (.cells (JnH t1 T) 27))
 have l6:b6<(w7.alloc (.cells (JnH t1 T) 27)).heap.size:=(Jnw HA7.out).1
 have p6:Jc (w7.alloc (.cells (JnH t1 T) 27)) b6 0 17=(JnH s1 S:Array Value):=Jb HA7.out rfl
 have ST7':=Jnv (ST6.out.go hb7)
 have hl7:w.heap.size<w7.heap.size:=ST7'.out.lt
 have hrf7:Jl w7 w.heap.size 37=true:=ST7'.out.free
 have hm0:(u0:Int)%256=u0:=by have:=HW0.out.1;omega
 have hm2:IntKind.u16.wrap (u2:Int)=u2:=by rw[IntKind.wrap_u16];have:=HW2.out.1;omega
 have hm4:IntKind.u16.wrap (u4:Int)=u4:=by rw[IntKind.wrap_u16];have:=HW4.out.1;omega
 have hrf9:Jl ((w7.alloc (.cells (JnH t1 T) 27)).alloc (.cells (JnR s1 t1 (.int .u8 u0) (.int .u16 u2) (.int .u16 u4) S T) 30)) w.heap.size 37=true:=(ST7'.out.alloc _ |>.alloc _).free
 clear hb7 ST6 HA6
 rcases HC1.out with ⟨rfl,hp1,hU1⟩|⟨rfl,hp1⟩
 rotate_left
 ·have HN:Hid (XG l=none):=Jnv (JiH HP.out hp1)
  clear hp1
  go_wp2_with fail
  exact ZQ (k:=kyZ) _ rfl rfl (Jb (Jlm _ _ ST7'.out.box) rfl) (by rw[←HR.out,HN.out];rfl) (Below.all (Below.all (below_setRow ST7'.out.bel (JnA _) _) _) _)
 rcases HC3.out with ⟨rfl,hp3,hU3⟩|⟨rfl,hp3⟩
 rotate_left
 ·have HN:Hid (XG l=none):=Jnv (JiI HP.out hp3)
  have HU1:=Jnv hU1
  clear hp1 hp3 hU1
  go_wp2_with fail
  exact ZQ (k:=kyZ) _ rfl rfl (Jb (Jlm _ _ ST7'.out.box) rfl) (by rw[←HR.out,HN.out];rfl) (Below.all (Below.all (below_setRow ST7'.out.bel (JnA _) _) _) _)
 have HIS:=Jnv (JjR HP.out hp1 hp3 u0 u2 u4 HW0.out.1 HW2.out.1 HW4.out.1 HW0.out.2 HW2.out.2 HW4.out.2)
 have HKO:Hid (Jl3 ⟨s1,S,t1,T,u0,u2,u4⟩):=Jnv ⟨hU1,hU3,(by show(0:Int)≤u0∧(u0:Int)<256;have:=HW0.out.1;omega),(by show(0:Int)≤u2∧(u2:Int)<65536;have:=HW2.out.1;omega),(by show(0:Int)≤u4∧(u4:Int)<65536;have:=HW4.out.1;omega)⟩
 have HTX:Hid (∀w',Env w'→Calls Tryz.prog 28 #[.agg #[.bool s1,.int .u8 (S 0),.int .u8 (S 1),.int .u8 (S 2),.int .u8 (S 3),.int .u8 (S 4),.int .u8 (S 5),.int .u8 (S 6),.int .u8 (S 7),.int .u8 (S 8),.int .u8 (S 9),.int .u8 (S 10),.int .u8 (S 11),.int .u8 (S 12),.int .u8 (S 13),.int .u8 (S 14),.int .u8 (S 15),.bool t1,.int .u8 (T 0),.int .u8 (T 1),.int .u8 (T 2),.int .u8 (T 3),.int .u8 (T 4),.int .u8 (T 5),.int .u8 (T 6),.int .u8 (T 7),.int .u8 (T 8),.int .u8 (T 9),.int .u8 (T 10),.int .u8 (T 11),.int .u8 (T 12),.int .u8 (T 13),.int .u8 (T 14),.int .u8 (T 15),.int .u8 u0,.int .u16 u2,.int .u16 u4]] w' (Jk w' (.string ⟨(Ja7 ⟨s1,S,t1,T,u0,u2,u4⟩).toArray⟩))):=Jnv fun w' h=>JjT _ HKO.out w' h
 clear hp1 hp3 hU1 hU3
 generalize Ja7 ⟨s1,S,t1,T,u0,u2,u4⟩=TX at*
 have ST9:=Jnv ((ST7'.out.alloc (.cells (JnH t1 T) 27)).alloc (.cells (JnR s1 t1 (.int .u8 u0) (.int .u16 u2) (.int .u16 u4) S T) 30))
 have hK9:=heap_alloc_new (w7.alloc (.cells (JnH t1 T) 27)) (.cells (JnR s1 t1 (.int .u8 u0) (.int .u16 u2) (.int .u16 u4) S T) 30)
 rw[show(w7.alloc (.cells (JnH t1 T) 27)).heap.size=w7.heap.size+1 by simp] at hK9
 have HK9:=Jnv hK9
 clear hK9
 go_wp2_with fail
 generalize (w7.alloc _).alloc _=y9 at*
 obtain⟨b9,hb9⟩:∃b,b=w7.heap.size+1:=⟨_,rfl⟩
 rw[←hb9] at HK9⊢
 have HN9:Hid (w.heap.size≠b9):=Jnv (by omega)
 clear hb9 hrf9 hrf7 hl7 p6 l6
 refine Jnx (HTX.out _ (HE.out.below ST9.out.bel)) ?_
 rintro e w10 ⟨rfl,hb10⟩
 have ST10:=Jnv (ST9.out.go hb10)
 have HK10:=Jnv ((hb10.block b9 (Jnw HK9.out).1).trans HK9.out)
 clear hb10 ST9 HK9
 have p9:Jc w10 b9 0 37=(JnR s1 t1 (.int .u8 u0) (.int .u16 u2) (.int .u16 u4) S T:Array Value):=Jb HK10.out rfl
 have hrf:Jl w10 w.heap.size 37=true:=ST10.out.free
 by_cases ht:TX=l
 ·have h2:=HIS.out
  rw[if_pos ht] at h2
  have HN:=Jnv h2
  have hq:(TX==l)=true:=by simpa using ht
  clear h2 ht HIS
  go_wp2_with fail
  exact ZQ (k:=⟨s1,S,t1,T,u0,u2,u4⟩) _ rfl rfl (Jb (Jh ST10.out.box) rfl) (by rw[←HR.out,HN.out];rfl) (below_setRow ST10.out.bel (JnA _) _)
 ·have h2:=HIS.out
  rw[if_neg ht] at h2
  have HN:=Jnv h2
  have hq:(TX==l)=false:=by simpa using ht
  clear h2 ht HIS
  go_wp2_with fail
  exact ZQ (k:=kyZ) _ rfl rfl (Jb (Jh ST10.out.box) rfl) (by rw[←HR.out,HN.out];rfl) (below_setRow ST10.out.bel (JnA _) _)
end
end Go.Proofs.YtkgjbipfhhjlpaaGreatDoor
