import Derived.Test.YtkgjbipfhhjlpaaGreatDoorMb23
set_option linter.unusedVariables false
set_option linter.unusedSimpArgs false
set_option maxRecDepth 100000
set_option maxHeartbeats 32000000
namespace Go.Proofs.YtkgjbipfhhjlpaaGreatDoor
section
open Go.RowKit Bits
def Xy (xs:XV):List Value:=xs.flatMap fun x=>[.int .u8 x.1,.string (strOfNums x.2)]
theorem JaU (xs:XV)(x:Int×List Int):Xy (xs++[x])=Xy xs++[.int .u8 x.1,.string (strOfNums x.2)]:=by simp[Xy]
theorem Jeu:∀(xs:XV) (i:Nat) (x:Int×List Int),xs[i]? =some x→(Xy xs)[2*i]? =some (.int .u8 x.1)∧(Xy xs)[2*i+1]? =some (.string (strOfNums x.2))
 |[],i,x,h=>by simp at h
 |y::xs,0,x,h=>by
  obtain rfl:y=x:=by simpa using h
  exact⟨rfl,rfl⟩
 |y::xs,i+1,x,h=>by
  have:=Jeu xs i x (by simpa using h)
  have hc:Xy (y::xs)=.int .u8 y.1::.string (strOfNums y.2)::Xy xs:=by simp[Xy]
  rw[hc]
  exact⟨by rw[show 2*(i+1)=2*i+1+1 by omega];simpa using this.1,by rw[show 2*(i+1)+1=(2*i+1)+1+1 by omega];simpa using this.2⟩
abbrev Jcq (w:World)(lo:Nat)(oe:Option Addr)(ce:Nat)(xs:XV):Prop:=JF w lo 2 oe xs.length ce (Xy xs)
theorem Jh4 {w:World}{lo:Nat}{oe:Option Addr}{ce:Nat}{xs:XV}(h:Jcq w lo oe ce xs)(j:Nat)(x:Int×List Int)(hx:xs[j]? =some x):
 ∃g off,oe=some ⟨g,off,none⟩∧g<w.heap.size∧w.cell? ⟨g,off+j*2,none⟩=some (.int .u8 x.1)∧w.cell? ⟨g,off+j*2+1,none⟩=some (.string (strOfNums x.2)):=by
 have hj:=(List.getElem?_eq_some_iff.1 hx).1
 have hcs:=Jeu xs j x hx
 obtain⟨g,off,rfl,hg0,hg1,hc,-⟩:=JF.here h (by omega)
 refine⟨g,off,rfl,hg1,?_,?_⟩
 ·have:=hc _ _ hcs.1
  rwa [show off+j*2=off+2*j by omega]
 ·have:=hc _ _ hcs.2
  rwa [show off+j*2+1=off+(2*j+1) by omega]
theorem Jh5 (lo:Nat)(oe:Option Addr)(ce:Nat)(xs:XV)(p:Int)(w:World)(h:Jcq w lo oe ce xs)(hk:Jex xs)(hd0:∀x∈xs,x.2.length≤100000):
 Calls Tryz.prog 148 #[.agg #[.slice oe xs.length ce,.int .u8 p]] w (Jh w (.bool (!JJ p||JE xs))):=by
 have HX:=Jpa h
 have HCK:=Jpa hk
 have HD:=Jpa hd0
 have hn16:=hk.le
 have HLL:Hid (∀m,xs.length=m+1→∀x,xs[m]? =some x→JE xs=Qw x.1 x.2):=Jpa (fun m hm x hx=>by
  unfold JE
  rw[List.getLast?_eq_getElem?,hm,Nat.add_sub_cancel,hx])
 have HL0:Hid (xs.length=0→JE xs=false):=Jpa (fun h=>by rw[List.eq_nil_of_length_eq_zero h];rfl)
 obtain⟨n,hnn⟩:∃n,xs.length=n:=⟨_,rfl⟩
 have HN:=Jpa hnn
 rw[hnn] at hn16 HLL HL0⊢
 clear h hk hd0 hnn
 have HB0:Hid (Below w.heap.size w (w.alloc (.cells #[.slice oe n ce,p] 161))):=Jpa (Below.all (Jpd _ _) _)
 have hbx:=heap_alloc_new w (.cells #[.slice oe n ce,p] 161)
 have HX0:=Jpa (JF.below HX.out HB0.out)
 have HBX0:=Jpa hbx
 generalize hLL:JE xs=LL at*
 have HLE:=Jpa hLL
 clear hLL hbx
 have HKD:Hid (∀w',Calls Tryz.prog 192 #[p] w' fun e w''=>e=.returned (.bool (JJ p))∧w'=w''):=Jpa (fun w'=>Jd7 p w')
 generalize JJ p=BB at*
 go_enter Tryz.func148,Tryz.ntmps148
 have hn16d:decide ((16:Int)<(n:Int))=false:=by simp;omega
 go_wp2_with fail
 go_loopg [3,4] n (fun g u3 u4 wr=>∃(z:World) (j:Nat) (L:Bool),z=wr∧j+g=n∧u3=.bool L∧u4=.int .i64 (j:Int)∧Hid ((j<n→L=false)∧(j=n→L=LL))∧Hid (Jcq z lo oe ce xs)∧Hid (Below w.heap.size w z)∧Hid (z.heap[w.heap.size]? =some (.cells #[.slice oe n ce,p] 161 (0,0))))
 case atStart=>exact⟨_,0,false,rfl,by omega,rfl,rfl,Jpa ⟨fun _=>rfl,fun h=>(HL0.out h.symm).symm⟩,HX0,HB0,HBX0⟩
 case round=>
  obtain⟨z,j,L,hz,hjg,rfl,rfl,HLS,HE,HB,HBX⟩:=hrel
  subst hz
  have hwz:w.heap.size<z.heap.size:=(Jpb HBX.out).1
  have hc0:z.cell? ⟨w.heap.size,0,none⟩=some (.slice oe n ce):=cell_of_row _ _ 0 _ _ (0,0) HBX.out
  have hc1:z.cell? ⟨w.heap.size,1,none⟩=some (.int .u8 p):=cell_of_row _ _ 1 _ _ (0,0) HBX.out
  by_cases hlt:j<n
  ·obtain⟨x,hx⟩:∃x,xs[j]? =some x:=⟨_,List.getElem?_eq_getElem (by rw[HN.out];exact hlt)⟩
   obtain⟨g,off,rfl,hg,hq0,hq1⟩:=Jh4 HE.out j x hx
   have hop:=HCK.out.hop j
   have hea:=HCK.out.early j
   have hmem:=List.mem_of_getElem? hx
   have hdl:=HD.out x hmem
   have hbyt:=(HCK.out.byte x hmem).2.2
   have hrt:=HCK.out.right x hmem
   have HLX:Hid (j+1=n→Qw x.1 x.2=LL):=Jpa (fun h=>(HLL.out j h.symm x hx).symm)
   obtain⟨k,d⟩:=x
   have hop':0<j→k≠0:=fun h=>hop h _ hx
   have HEA:Hid (j+1<n→Qw k d=false):=Jpa (fun h=>hea (by rw[HN.out];exact h) _ hx)
   simp only at hq0 hq1 hdl hbyt hrt HLX
   have HRX:Hid (∀w',Calls Tryz.prog 193 #[.agg #[.int .u8 k,.string (strOfNums d)]] w' (Jh w' (.bool true))):=Jpa (fun w'=>hrt▸Zn k d w' hbyt hdl)
   have HL:Hid (∀w',Calls Tryz.prog 194 #[.agg #[.int .u8 k,.string (strOfNums d)]] w' (Jh w' (.bool (Qw k d)))):=Jpa (fun w'=>Jbb k d w' hbyt hdl)
   obtain rfl:L=false:=HLS.out.1 hlt
   clear hx hop hea hdl hmem hbyt hrt HLS
   generalize Qw k d=XL at*
   generalize strOfNums d=S at*
   have hd:decide ((j:Int)<(n:Int))=true:=by simp;omega
   have hj0:(k==0)=false∨((k==0)=true∧decide (0<j)=false):=by
    by_cases h:k=0
    ·refine .inr ⟨by simp[h],?_⟩
     have:¬0<j:=fun h'=>hop' h' h
     simp;omega
    ·exact .inl (by simpa using h)
   clear hop'
   rcases hj0 with hk0|⟨hk0,hj0⟩
   all_goals
    go_wp2_with fail
    have hxb:=heap_alloc_new z (.cells #[k,.string S] 242)
    have hBa:Below z.heap.size z (z.alloc (.cells #[k,.string S] 242)):=Below.all (Jpd _ _) _
    refine Jpc (HRX.out _) ?_
    rintro e z2 ⟨rfl,hb⟩
    have hbz:=Jo3 hBa hb
    have HXB:=Jpa ((hb.block z.heap.size (by simp)).trans hxb)
    have hxl:z.heap.size<z2.heap.size:=(Jpb HXB.out).1
    have q0:z2.cell? ⟨z.heap.size,0,none⟩=some (.int .u8 k):=cell_of_row _ _ 0 _ _ (0,0) HXB.out
    have q1:z2.cell? ⟨z.heap.size,1,none⟩=some (.string S):=cell_of_row _ _ 1 _ _ (0,0) HXB.out
    have HB2:=Jpa (Jo3 HB.out hbz)
    have HE2:=Jpa (JF.below HE.out hbz)
    have HBX2:=Jpa ((hbz.block _ hwz).trans HBX.out)
    clear hb HE HB HBX hq0 hq1 hxb hBa hbz hc0 hc1
    go_wp2_with fail
    refine Jpc (HL.out _) ?_
    rintro e z3 ⟨rfl,hb⟩
    have HB3:=Jpa (Jo3 HB2.out hb)
    have HE3:=Jpa (JF.below HE2.out hb)
    have HBX3:=Jpa ((hb.block _ (Jpb HBX2.out).1).trans HBX2.out)
    clear hb q0 q1
    go_wp2_with fail
    go_roundg (n-(j+1))
    case measure=>omega
    case rel=>exact⟨_,j+1,XL,rfl,by omega,rfl,by go_num,Jpa ⟨HEA.out,HLX.out⟩,HE3,HB3,HBX3⟩
  ·have hjn:j=n:=by omega
   have hd:decide ((j:Int)<(n:Int))=false:=by simp;omega
   obtain rfl:L=LL:=HLS.out.2 hjn
   cases L
   ·go_wp2_with fail
    refine Jpc (HKD.out _) ?_
    rintro e w' ⟨rfl,rfl⟩
    go_wp2_with fail
    go_ret
    exact .mk (by cases BB<;>rfl) HB.out
   ·go_wp2_with fail
    go_ret
    exact .mk (by cases BB<;>rfl) HB.out
theorem Jev:(Tryz.prog.info? 242).map (fun i=>(i.zero,i.size,i.bytes))=some (some (.agg #[(),Jpi]),2,24):=by kernel_rfl
theorem Jew:(Tryz.prog.info? 161).map (·.size)=some 2:=by kernel_rfl
def Qv (w:World)(n:Nat)(c:JjL):Ending→World→Prop:=fun e w'=>match c with
 | .err er=>e=.returned (.tuple #[.agg #[.slice none 0 0,.int .u8 0],.int .i64 0,.int .i64 er])∧er≠0∧Below w.heap.size w w'
 | .done xs p i=>(∃oe ce,e=.returned (.tuple #[.agg #[.slice oe xs.length ce,.int .u8 p],.int .i64 (i:Int),.int .i64 0])∧Jcq w' w.heap.size oe ce xs)∧Below w.heap.size w w'∧Jex xs∧(JJ p=false∨JE xs=true)∧(0≤p∧p<256)∧i≤n
theorem Qv.mk_err {w w':World}{n:Nat}{c:JjL}{er:Int}(h:c=.err er)(h0:er≠0)(hb:Below w.heap.size w w'):Qv w n c (.returned (.tuple #[.agg #[.slice none 0 0,.int .u8 0],.int .i64 0,.int .i64 er])) w':=by
 subst h;exact⟨rfl,h0,hb⟩
theorem Qs {R:Ending→World→Prop}{w':World}{tmps cs:Array Value}{iv ev:Value}{t:TypeId}(b:Nat)(hp:tmps.getD 4 undef=.pointer (some ⟨b,0,none⟩))(h5:tmps.getD 5 undef=iv)(h6:tmps.getD 6 undef=ev)(hbx:w'.heap[b]? =some (.cells cs t (0,0)))(hs:cs.size=2)(hR:R (.returned (.tuple #[.agg cs,iv,ev])) w'):
 bodyPost Tryz.prog Tryz.f147 R .ret { tmps:=tmps,defers:=[] } w':=
 bodyPost_ret (v:=.tuple #[.agg cs,iv,ev]) (QW rfl _ _ b 2 _ _ _ Tryz.underlying161 rfl Jew hp h5 h6 cs (Ja hbx hs) hs) rfl hR
structure RCh (w z:World)(xs:XV)(oe:Option Addr)(ce:Nat)(A:Option Addr)(n cap:Nat)(l:List Int):Prop where
 ch:z.heap[w.heap.size+1]? =some (.cells #[.slice oe xs.length ce,()] 161 (0,0))
 own:Jcq z (w.heap.size+2) oe ce xs
 box:z.heap[w.heap.size]? =some (.cells #[Jpj,()] 161 (0,0))
 rd:Ji z A n cap l
 out:Below w.heap.size w z
theorem RCh.below {w z z':World}{xs:XV}{oe:Option Addr}{ce:Nat}{A:Option Addr}{n cap:Nat}{l:List Int}(h:RCh w z xs oe ce A n cap l)(hb:Below z.heap.size z z'):RCh w z' xs oe ce A n cap l:=
 ⟨(hb.block _ (Jpb h.ch).1).trans h.ch,JF.below h.own hb,(hb.block _ (Jpb h.box).1).trans h.box,h.rd.below hb,Jo3 h.out hb⟩
theorem Jfw (l:List Int)(i m:Nat)(h:2≤m):((l.drop i).take m).drop 2=(l.drop (i+2)).take (m-2):=by
 rw[List.drop_take,List.drop_drop]
theorem Jjb (p0:Int)(A:Option Addr)(n cap:Nat)(l:List Int)(w:World)(hr:Ji w A n cap l)(hA:∀a,A=some a→a.block<w.heap.size)(hn:n≤100000)(hp:0≤p0∧p0<256):
 Calls Tryz.prog 147 #[p0,.slice A n cap] w (Qv w n (XU 17 [] p0 0 l)):=by
 have HBY:Hid (Jl l):=Jpa hr.byte
 have hlen:=hr.len
 have ST0:Hid (RCh w ((w.alloc (.cells #[Jpj,()] 161)).alloc (.cells #[Jpj,()] 161)) [] none 0 A n cap l):=Jpa ⟨by have:=heap_alloc_new (w.alloc (.cells #[Jpj,()] 161)) (.cells #[Jpj,()] 161);simpa using this,JF.nil _ _ _,(heap_alloc_old _ _ (by simp)).trans (heap_alloc_new w _),(hr.alloc _).alloc _,Below.all (Below.all (Jpd _ _) _) _⟩
 clear hr
 generalize hRUN:XU 17 [] p0 0 l=RUN at*
 have HRUN:=Jpa hRUN
 clear hRUN
 go_enter Tryz.func147,Tryz.ntmps147
 go_wp2_with fail
 go_loopg [0,8,9] 17 (fun g u0 u8 u9 wr=>∃(z:World) (xs:XV) (p:Int) (i:Nat) (st:Bool) (oe:Option Addr) (ce:Nat),z=wr∧u0=.int .u8 p∧u8=.int .i64 (i:Int)∧u9=.bool st∧xs.length+g=17∧Hid (RCh w z xs oe ce A n cap l)∧Hid (Jex xs∧st=JE xs∧(0≤p∧p<256)∧i≤n∧(st=true→RUN=.done xs p i)∧(st=false→RUN=XU (17-xs.length) xs p i l)))
 case atStart=>exact⟨_,[],p0,0,false,none,0,rfl,rfl,rfl,rfl,rfl,ST0,Jpa ⟨Jex.nil,rfl,hp,Nat.zero_le _,fun h=>(by cases h),fun _=>HRUN.out.symm⟩⟩
 case round=>
  obtain⟨z,xs,p,i,st,oe,ce,hz,rfl,rfl,rfl,hg,HS,HF⟩:=hrel
  subst hz
  obtain⟨kx,hkx⟩:∃k,xs.length=k:=⟨_,rfl⟩
  have HKX:=Jpa hkx
  rw[hkx] at hg
  have hx16:kx≤16:=by rw[←hkx];exact HF.out.1.le
  have HX16:=Jpa hx16
  have hpb:=HF.out.2.2.1
  have hi:=HF.out.2.2.2.1
  have hch:=HS.out.ch
  rw[hkx] at hch
  have HCH:=Jpa hch
  have l4:w.heap.size<z.heap.size:=(Jpb HS.out.box).1
  have l7:w.heap.size+1<z.heap.size:=(Jpb hch).1
  have hrf:Jg z w.heap.size 2=true:=by rw[Jc _ _ _ _ _ HS.out.box];rfl
  have c70:=cell_of_row _ _ 0 _ _ (0,0) hch
  have c71:=cell_of_row _ _ 1 _ _ (0,0) hch
  have f70:=frozen_of_row _ _ 0 _ _ hch
  have f71:=frozen_of_row _ _ 1 _ _ hch
  have HKD:Hid (∀w',Calls Tryz.prog 192 #[p] w' fun e w''=>e=.returned (.bool (JJ p))∧w'=w''):=Jpa (fun w'=>Jd7 p w')
  clear hch hkx
  have HDONE:Hid (JJ p=false∨st=true→RUN=.done xs p i∧(JJ p=false∨JE xs=true)):=Jpa (fun h=>by
   cases hst:st with
   |true=>exact⟨HF.out.2.2.2.2.1 hst,.inr (HF.out.2.1▸hst)⟩
   |false=>
    rcases h with h|h
    ·exact⟨by rw[HF.out.2.2.2.2.2 hst,Jfi h],.inl h⟩
    ·rw[hst] at h;cases h)
  by_cases hBB:JJ p=true
  rotate_left
  ·have hBB:JJ p=false:=by simpa using hBB
   have HD:=Jpa (HDONE.out (.inl hBB))
   rw[hBB] at HKD
   go_wp2_with fail
   refine Jpc (HKD.out _) ?_
   rintro e z' ⟨rfl,rfl⟩
   have hc2:(z.setCell ⟨w.heap.size+1,1,none⟩ (.int .u8 p)).heap[w.heap.size+1]? =some (.cells #[.slice oe kx ce,p] 161 (0,0)):=(heap_setCell_same _ (w.heap.size+1) 1 _ _ (.int .u8 p) HCH.out).trans rfl
   have hb2:(z.setCell ⟨w.heap.size+1,1,none⟩ (.int .u8 p)).heap[w.heap.size]? =some (.cells #[Jpj,()] 161 (0,0)):=(heap_setCell_other z ⟨w.heap.size+1,1,none⟩ w.heap.size (.int .u8 p) (by show w.heap.size≠w.heap.size+1;omega)).trans HS.out.box
   have hpt:Jf (z.setCell ⟨w.heap.size+1,1,none⟩ (.int .u8 p)) (w.heap.size+1) 0 2=#[.slice oe kx ce,.int .u8 p]:=Ja hc2 rfl
   have HB2:=Jpa hb2
   have HO2:Hid (Jcq ((z.setCell ⟨w.heap.size+1,1,none⟩ (.int .u8 p)).setRow w.heap.size #[.slice oe kx ce,p]) w.heap.size oe ce xs):=Jpa (JF.mono (JF.keep (JF.other HS.out.own (fun a ha=>by have:=(HS.out.own.lt ha).1;show a.block≠w.heap.size+1;omega) _) (by simp) (fun a ha=>setRow_other _ _ _ _ (by have:=(HS.out.own.lt ha).1;omega))) (by omega))
   have HW2:Hid (Below w.heap.size w ((z.setCell ⟨w.heap.size+1,1,none⟩ (.int .u8 p)).setRow w.heap.size #[.slice oe kx ce,p])):=Jpa ((HS.out.out.setCell (p:=⟨w.heap.size+1,1,none⟩) (by show w.heap.size≤w.heap.size+1;omega) _).trans (Jb _ (Jpf _)))
   clear hc2 hb2
   go_wp2_with fail
   refine Qs (iv:=.int .i64 (i:Int)) (ev:=.int .i64 0) w.heap.size rfl rfl rfl (Jd HB2.out) rfl ?_
   rw[HD.out.1]
   refine⟨⟨oe,ce,?_,HO2.out⟩,HW2.out,HF.out.1,HD.out.2,hpb,hi⟩
   rw[HKX.out]
  have HBB:=Jpa hBB
  rw[hBB] at HKD
  clear hBB
  cases st
  rotate_left
  ·skip
   have HD:=Jpa (HDONE.out (.inr rfl))
   go_wp2_with fail
   refine Jpc (HKD.out _) ?_
   rintro e z' ⟨rfl,rfl⟩
   have hc2:(z.setCell ⟨w.heap.size+1,1,none⟩ (.int .u8 p)).heap[w.heap.size+1]? =some (.cells #[.slice oe kx ce,p] 161 (0,0)):=(heap_setCell_same _ (w.heap.size+1) 1 _ _ (.int .u8 p) HCH.out).trans rfl
   have hb2:(z.setCell ⟨w.heap.size+1,1,none⟩ (.int .u8 p)).heap[w.heap.size]? =some (.cells #[Jpj,()] 161 (0,0)):=(heap_setCell_other z ⟨w.heap.size+1,1,none⟩ w.heap.size (.int .u8 p) (by show w.heap.size≠w.heap.size+1;omega)).trans HS.out.box
   have hpt:Jf (z.setCell ⟨w.heap.size+1,1,none⟩ (.int .u8 p)) (w.heap.size+1) 0 2=#[.slice oe kx ce,.int .u8 p]:=Ja hc2 rfl
   have HB2:=Jpa hb2
   have HO2:Hid (Jcq ((z.setCell ⟨w.heap.size+1,1,none⟩ (.int .u8 p)).setRow w.heap.size #[.slice oe kx ce,p]) w.heap.size oe ce xs):=Jpa (JF.mono (JF.keep (JF.other HS.out.own (fun a ha=>by have:=(HS.out.own.lt ha).1;show a.block≠w.heap.size+1;omega) _) (by simp) (fun a ha=>setRow_other _ _ _ _ (by have:=(HS.out.own.lt ha).1;omega))) (by omega))
   have HW2:Hid (Below w.heap.size w ((z.setCell ⟨w.heap.size+1,1,none⟩ (.int .u8 p)).setRow w.heap.size #[.slice oe kx ce,p])):=Jpa ((HS.out.out.setCell (p:=⟨w.heap.size+1,1,none⟩) (by show w.heap.size≤w.heap.size+1;omega) _).trans (Jb _ (Jpf _)))
   clear hc2 hb2
   go_wp2_with fail
   refine Qs (iv:=.int .i64 (i:Int)) (ev:=.int .i64 0) w.heap.size rfl rfl rfl (Jd HB2.out) rfl ?_
   rw[HD.out.1]
   refine⟨⟨oe,ce,?_,HO2.out⟩,HW2.out,HF.out.1,HD.out.2,hpb,hi⟩
   rw[HKX.out]
  have HGO:=Jpa (HF.out.2.2.2.2.2 rfl)
  have HLL:Hid (JE xs=false):=Jpa HF.out.2.1.symm
  obtain⟨g',hg'⟩:∃g',17-kx=g'+1:=⟨16-kx,by omega⟩
  have HSTEP:Hid (RUN=match QC xs p (l.drop i) with
   | .err e=>.err e
   | .ok k d next n=>if Qw k d then .done (xs++[(k,d)]) next (i+n) else XU g' (xs++[(k,d)]) next (i+n) l):=Jpa (by rw[HGO.out,HKX.out,hg',Jfh HBB.out];cases QC xs p (l.drop i)<;>rfl)
  have HER:Hid (∀er,QC xs p (l.drop i)=.err er→RUN=.err er):=Jpa (fun er h=>by rw[HSTEP.out];simp only[h])
  have hlL:(l.drop i).length=n-i:=by rw[List.length_drop,hlen]
  have HONE:Hid (QC xs p (l.drop i)=if kx=16∨(p=0∧0<kx) then .err 60 else if n-i<2 then .err 10 else (fun(m:Nat)=>if n-i<m then .err 10 else if p=44∧(l.getD (i+1) 0≠0∨JX 44 ((l.drop (i+2)).take (m-2))=false) then .err 60 else .ok p ((l.drop (i+2)).take (m-2)) (l.getD i 0) m) (if p=44 then 8 else 8*((l.getD (i+1) 0).toNat+1))):=Jpa (by
   have e0:(l.drop i).getD 0 0=l.getD i 0:=by simp[List.getD_eq_getElem?_getD,List.getElem?_drop]
   have e1:(l.drop i).getD 1 0=l.getD (i+1) 0:=by simp[List.getD_eq_getElem?_getD,List.getElem?_drop]
   unfold QC
   rw[HKX.out,hlL,e0,e1]
   by_cases h:p=44
   ·simp only[if_pos h];rw[Jfw _ _ 8 (by omega)]
   ·simp only[if_neg h];rw[Jfw _ _ _ (by omega)])
  clear hlL
  by_cases h16:kx=16
  ·skip
   have hd16:((kx:Int)==16)=true:=by simp;omega
   have HE:=Jpa (HER.out 60 (by rw[HONE.out,if_pos (.inl h16)]))
   have HBX:=Jpa HS.out.box
   have HWB:=Jpa HS.out.out
   clear HER HSTEP HONE HGO HDONE HF hg hg' hx16 hpb hi h16
   go_wp2_with fail
   refine Jpc (HKD.out _) ?_
   rintro e z' ⟨rfl,rfl⟩
   go_wp2_with fail
   refine Qs (iv:=.int .i64 0) (ev:=.int .i64 60) w.heap.size rfl rfl rfl (Jd HBX.out) rfl ?_
   exact Qv.mk_err HE.out (by decide) (HWB.out.trans (Jb _ (Jpf _)))
  have hd16:((kx:Int)==16)=false:=by simp;omega
  by_cases h00:p=0∧0<kx
  ·skip
   have hp0:(p==0)=true:=by simp[h00.1]
   have hk0:decide ((0:Int)<(kx:Int))=true:=by simp;exact h00.2
   have hk0':decide (0<kx)=true:=by simp;exact h00.2
   have HE:=Jpa (HER.out 60 (by rw[HONE.out,if_pos (.inr h00)]))
   have HBX:=Jpa HS.out.box
   have HWB:=Jpa HS.out.out
   clear HER HSTEP HONE HGO HDONE HF hg hg' hx16 hpb hi h00
   go_wp2_with fail
   refine Jpc (HKD.out _) ?_
   rintro e z' ⟨rfl,rfl⟩
   go_wp2_with fail
   refine Qs (iv:=.int .i64 0) (ev:=.int .i64 60) w.heap.size rfl rfl rfl (Jd HBX.out) rfl ?_
   exact Qv.mk_err HE.out (by decide) (HWB.out.trans (Jb _ (Jpf _)))
  have HONE2:Hid (QC xs p (l.drop i)=if n-i<2 then .err 10 else (fun(m:Nat)=>if n-i<m then .err 10 else if p=44∧(l.getD (i+1) 0≠0∨JX 44 ((l.drop (i+2)).take (m-2))=false) then .err 60 else .ok p ((l.drop (i+2)).take (m-2)) (l.getD i 0) m) (if p=44 then 8 else 8*((l.getD (i+1) 0).toNat+1))):=Jpa (by rw[HONE.out,if_neg (by omega)])
  clear HONE
  have hfl:(p==44)=true∧(p==0)=false∧p=44∨(p==44)=false∧(p==0)=false∧p≠44∨(p==44)=false∧((p==0)=true∧decide (0<kx)=false)∧p≠44:=by
   by_cases h1:p=44
   ·exact .inl ⟨by simp[h1],by simp[h1],h1⟩
   ·by_cases h2:p=0
    ·exact .inr (.inr ⟨by simpa using h1,⟨by simp[h2],by simp;omega⟩,h1⟩)
    ·exact .inr (.inl ⟨by simpa using h1,by simpa using h2,h1⟩)
  have hle:=HS.out.rd.le
  rcases hfl with ⟨h44,hp0,hpv⟩|⟨h44,hp0,hpv⟩|⟨h44,⟨hp0,hk0⟩,hpv⟩
  ·skip
   obtain rfl:p=44:=hpv
   by_cases h2:n-i<2
   ·have hd2:decide ((n:Int)<(i:Int)+2)=true:=by simp;omega
    have HE:=Jpa (HER.out 10 (by rw[HONE2.out,if_pos h2]))
    have HBX:=Jpa HS.out.box
    have HWB:=Jpa HS.out.out
    clear HER HSTEP HONE2 HGO HDONE HF hg hg' hx16 hpb h16 h00
    go_wp2_with fail
    refine Jpc (HKD.out _) ?_
    rintro e z' ⟨rfl,rfl⟩
    go_wp2_with fail
    refine Qs (iv:=.int .i64 0) (ev:=.int .i64 10) w.heap.size rfl rfl rfl (Jd HBX.out) rfl ?_
    exact Qv.mk_err HE.out (by decide) (HWB.out.trans (Jb _ (Jpf _)))
   have hd2:decide ((n:Int)<(i:Int)+2)=false:=by simp;omega
   obtain⟨g,off,rfl,hgl,hcs⟩:=HS.out.rd.here (by omega)
   have hci:=hcs i (by omega)
   have hci1:=hcs (i+1) (by omega)
   have hb0:=Jy HBY.out i
   have hb1:=Jy HBY.out (i+1)
   have hix:(i:Int)<(n:Int):=by omega
   have hix1:(i:Int)+1<(n:Int):=by omega
   have htn1:((i:Int)+1).toNat=i+1:=by omega
   obtain⟨b1,e1⟩:∃b,l.getD (i+1) 0=b:=⟨_,rfl⟩
   rw[e1] at hci1 hb1 HONE2
   obtain⟨m,hm⟩:∃m:Nat,(if (44:Int)=44 then 8 else 8*(b1.toNat+1))=m:=⟨_,rfl⟩
   have hmv:(m:Int)=8∧8≤m∧m≤2048:=by rw[if_pos rfl] at hm;omega
   have HC3:Hid (QC xs 44 (l.drop i)=if n-i<m then .err 10 else if (44:Int)=44∧(b1≠0∨JX 44 ((l.drop (i+2)).take (m-2))=false) then .err 60 else .ok 44 ((l.drop (i+2)).take (m-2)) (l.getD i 0) m):=Jpa (by rw[HONE2.out,if_neg h2,hm])
   obtain⟨b0,e0⟩:∃b,l.getD i 0=b:=⟨_,rfl⟩
   rw[e0] at hci hb0 HC3
   clear HONE2 hm hcs e0 e1
   by_cases h3:n-i<m
   ·have hd3:decide ((n:Int)<(i:Int)+8)=true:=by simp;omega
    have HE:=Jpa (HER.out 10 (by rw[HC3.out,if_pos h3]))
    have HBX:=Jpa HS.out.box
    have HWB:=Jpa HS.out.out
    clear HER HSTEP HC3 HGO HDONE HF hg hg' hx16 hpb h16 h00
    go_wp2_with fail
    refine Jpc (HKD.out _) ?_
    rintro e z' ⟨rfl,rfl⟩
    go_wp2_with fail
    refine Qs (iv:=.int .i64 0) (ev:=.int .i64 10) w.heap.size rfl rfl rfl (Jd HBX.out) rfl ?_
    exact Qv.mk_err HE.out (by decide) (HWB.out.trans (Jb _ (Jpf _)))
   have hd3:decide ((n:Int)<(i:Int)+8)=false:=by simp;omega
   obtain⟨D,hD⟩:∃D,(l.drop (i+2)).take (m-2)=D:=⟨_,rfl⟩
   have hDl:D.length=m-2:=by rw[←hD,List.length_take,List.length_drop];omega
   have HDB:Hid (Jl D):=Jpa (hD▸JU (JD HBY.out _) _)
   rw[hD] at HC3
   have hcut:∀w,(Instr.slice 22 (.slice (some ⟨g,off,none⟩) n cap) (some (.int .i64 ((i:Int)+2))) (some (.int .i64 ((i:Int)+8))) none).run Tryz.prog w=.ok (.slice (Jk (some ⟨g,off,none⟩) (i+2) cap 1) (m-2) (cap-(i+2))) w:=fun w=>by
    have:=JW (P:=Tryz.prog) 22 (some ⟨g,off,none⟩) n cap 1 elemBytes sizeBytes (i+2) (i+m) ((i:Int)+2) ((i:Int)+8) (by omega) (by omega) (by omega) (by omega) w
    rwa [show i+m-(i+2)=m-2 by omega] at this
   have hcv:(convert 22 9 (.slice (Jk (some ⟨g,off,none⟩) (i+2) cap 1) (m-2) (cap-(i+2)))).run Tryz.prog z=.ok (.string (strOfNums D)) z:=JR 22 5 Tryz.underlying22 Tryz.underlying5 (hD▸(HS.out.rd.cut (i+2) (by omega)).take (m-2) (by omega)) 9 Tryz.underlying9
   generalize Jk (some ⟨g,off,none⟩) (i+2) cap 1=A2 at*
   generalize cap-(i+2)=cap2 at*
   have hDn:D.length≤100000:=by omega
   generalize m-2=m2 at*
   have HRX:Hid (∀w',Calls Tryz.prog 193 #[.agg #[.int .u8 44,.string (strOfNums D)]] w' (Jh w' (.bool (JX 44 D)))):=Jpa (fun w'=>Zn 44 D w' HDB.out hDn)
   have HLT:Hid (∀w',Calls Tryz.prog 194 #[.agg #[.int .u8 44,.string (strOfNums D)]] w' (Jh w' (.bool (Qw 44 D)))):=Jpa (fun w'=>Jbb 44 D w' HDB.out hDn)
   obtain⟨S,hS⟩:∃S,strOfNums D=S:=⟨_,rfl⟩
   have HSD:=Jpa hS
   rw[hS] at hcv HRX HLT
   clear hD hS
   clear hpb h16 h00
   by_cases h1:b1=0
   rotate_left
   ·have hb10:(b1 != 0)=true:=by simpa using h1
    have HE:=Jpa (HER.out 60 (by rw[HC3.out,if_neg h3,if_pos ⟨by first|rfl|trivial,.inl h1⟩]))
    have HBX:=Jpa HS.out.box
    have HWB:=Jpa HS.out.out
    clear HER HSTEP HGO HDONE HF h1
    go_wp2_with fail
    refine Jpc (HKD.out _) ?_
    rintro e z' ⟨rfl,rfl⟩
    go_wp2_with fail
    refine Qs (iv:=.int .i64 0) (ev:=.int .i64 60) w.heap.size rfl rfl rfl ((heap_alloc_old _ _ (by simpa using l4)).trans (Jd HBX.out)) rfl ?_
    exact Qv.mk_err HE.out (by decide) (Below.all (HWB.out.trans (Jb _ (Jpf _))) _)
   have hb10:(b1 != 0)=false:=by simp[h1]
   have h1':Hid (b1=0):=Jpa h1
   clear h1
   obtain⟨XR,hXR⟩:∃b,JX 44 D=b:=⟨_,rfl⟩
   rw[hXR] at HRX HC3
   clear hXR
   go_wp2_with fail
   refine Jpc (HKD.out _) ?_
   rintro e z' ⟨rfl,rfl⟩
   go_wp2_with fail
   have hyx:=heap_alloc_new z (.cells #[(44:Int),.string S] 242)
   have hyb:=Below.all (Jpd z.heap.size z) (.cells #[(44:Int),.string S] 242)
   have hys:(z.alloc (.cells #[(44:Int),.string S] 242)).heap.size=z.heap.size+1:=by simp
   obtain⟨y,hy⟩:∃y,z.alloc (.cells #[(44:Int),.string S] 242)=y:=⟨_,rfl⟩
   rw[hy] at hyx hyb hys⊢
   obtain⟨bx,hbx⟩:∃b,b=z.heap.size:=⟨_,rfl⟩
   have hbl:w.heap.size+1<bx:=by omega
   have hbz:z.heap.size≤bx:=by omega
   have hgx:g<bx:=by omega
   have hcy:=(Je hyb hgl (⟨g,off+i,none⟩:Addr) rfl).trans hci
   have hcy1:=(Je hyb hgl (⟨g,off+(i+1),none⟩:Addr) rfl).trans hci1
   rw[←hbx] at hyx⊢
   have HSY:=Jpa (HS.out.below hyb)
   have HXY:=Jpa hyx
   have hxly:bx<y.heap.size:=(Jpb hyx).1
   have x0:=cell_of_row _ _ 0 _ _ (0,0) hyx
   have x1:=cell_of_row _ _ 1 _ _ (0,0) hyx
   have hcy7:y.cell? ⟨w.heap.size+1,0,none⟩=some (.slice oe kx ce):=cell_of_row _ _ 0 _ _ (0,0) ((HSY.out.ch).trans (by rw[HKX.out]))
   have hgy:g<y.heap.size:=by omega
   have hl7y:w.heap.size+1<y.heap.size:=by omega
   have hrfy:Jg y w.heap.size 2=true:=by rw[Jc _ _ _ _ _ HSY.out.box];rfl
   clear hyx hyb hys hy hbx hci hci1 hgl c70 c71 f70 f71 hrf l4 l7 hcut hcv
   refine Jpc (HRX.out _) ?_
   rintro e y2 ⟨rfl,hb2⟩
   have HSY2:=Jpa (HSY.out.below hb2)
   have HXY2:=Jpa ((hb2.block bx hxly).trans HXY.out)
   have hxly2:bx<y2.heap.size:=(Jpb HXY2.out).1
   have z0:=cell_of_row _ _ 0 _ _ (0,0) HXY2.out
   have z1:=cell_of_row _ _ 1 _ _ (0,0) HXY2.out
   have hdy7:y2.cell? ⟨w.heap.size+1,0,none⟩=some (.slice oe kx ce):=cell_of_row _ _ 0 _ _ (0,0) ((HSY2.out.ch).trans (by rw[HKX.out]))
   have hdy:=(Je hb2 hgy (⟨g,off+i,none⟩:Addr) rfl).trans hcy
   have hgy2:g<y2.heap.size:=Jpe hgy hb2.size
   have hl7y2:w.heap.size+1<y2.heap.size:=Jpe hl7y hb2.size
   have hrfy2:Jg y2 w.heap.size 2=true:=by rw[Jc _ _ _ _ _ HSY2.out.box];rfl
   clear hb2 HSY HXY x0 x1 hcy7 hcy hcy1 hgy hl7y hrfy hxly
   cases XR
   ·have HE:=Jpa (HER.out 60 (by rw[HC3.out,if_neg h3,if_pos ⟨by first|rfl|trivial,.inr (by first|rfl|trivial)⟩]))
    have HBX:=Jpa HSY2.out.box
    have HWB:=Jpa HSY2.out.out
    clear HER HSTEP HGO HDONE HF
    go_wp2_with fail
    refine Qs (iv:=.int .i64 0) (ev:=.int .i64 60) w.heap.size rfl rfl rfl (Jd HBX.out) rfl ?_
    exact Qv.mk_err HE.out (by decide) (HWB.out.trans (Jb _ (Jpf _)))
   have HOK:Hid (QC xs 44 (l.drop i)=.ok 44 D b0 m):=Jpa (by rw[HC3.out,if_neg h3,if_neg (by intro h;rcases h.2 with h|h;exact h h1'.out;cases h)])
   go_wp2_with (at_builtin;refine Jt.of ?_)
   refine Jt.mk ?_
   have hYA:=Below.all (Jpd y2.heap.size y2) (.cells #[(44:Int),.string S] 242)
   refine JG _ rfl _ _ 159 rfl 242 (.agg #[(),Jpi]) 2 24 (w.heap.size+2) (by kernel_rfl) Jev rfl (by decide) oe kx ce (Xy xs) rfl (by rw[←HKX.out];exact JF.below HSY2.out.own hYA) ⟨y2.heap.size,0,none⟩ 1 1 [.int .u8 44,.string S] rfl rfl (Q7 y2 #[(44:Int),.string S] 242) (by intro u hu;simp only[List.mem_cons,List.not_mem_nil,or_false] at hu;rcases hu with rfl|rfl<;>rfl) (by decide) (by unfold maxLen;omega) (by omega) (by have:=hYA.size;omega) ?_
   intro oe' ce' y3 ho hgr hd
   have hne7:some (w.heap.size+1)≠oe.map Addr.block:=by
    intro h
    obtain⟨a,h5,h6⟩:=Option.map_eq_some_iff.1 h.symm
    have:=(HSY2.out.own.lt h5).1
    omega
   have hne4:some w.heap.size≠oe.map Addr.block:=by
    intro h
    obtain⟨a,h5,h6⟩:=Option.map_eq_some_iff.1 h.symm
    have:=(HSY2.out.own.lt h5).1
    omega
   have hnex:some bx≠oe.map Addr.block:=by
    intro h
    obtain⟨a,h5,h6⟩:=Option.map_eq_some_iff.1 h.symm
    have:=(HS.out.own.lt h5).2
    omega
   have hneg:some g≠oe.map Addr.block:=by
    intro h
    obtain⟨a,h5,h6⟩:=Option.map_eq_some_iff.1 h.symm
    have h7:=(HSY2.out.own.lt h5).1
    have h8:=hA _ rfl
    simp only at h8
    omega
   have hch3:=(hgr.block (w.heap.size+1) (Jpe hl7y2 hYA.size) hne7).trans ((hYA.block _ hl7y2).trans (HSY2.out.ch.trans (by rw[HKX.out])))
   have hbx3:=(hgr.block bx (Jpe hxly2 hYA.size) hnex).trans ((hYA.block _ hxly2).trans HXY2.out)
   have hb43:=(hgr.block w.heap.size (Jpe (by omega) hYA.size) hne4).trans ((hYA.block _ (by omega)).trans HSY2.out.box)
   have hcg3:=hgr.cell ((Je hYA hgy2 (⟨g,off+i,none⟩:Addr) rfl).trans hdy) hneg
   have hbe3:Below w.heap.size w y3:=Below.grown (HSY2.out.out.trans (hYA.mono HSY2.out.out.size)) hgr (Nat.le_trans HSY2.out.out.size hYA.size) (fun q hq=>by
    obtain⟨a,h5,h6⟩:=Option.map_eq_some_iff.1 hq
    have:=(HSY2.out.own.lt h5).1
    omega)
   have hrd3:Ji y3 (some ⟨g,off,none⟩) n cap l:=(HSY2.out.rd.below hYA).keep hgr.size (fun a ha hl=>by
    cases ha
    exact hgr.block g hl hneg)
   have c70:=cell_of_row _ _ 0 _ _ (0,0) hch3
   have f70:=frozen_of_row _ _ 0 _ _ hch3
   have l3x:bx<y3.heap.size:=(Jpb hbx3).1
   have hRC:RCh w (y3.setCell ⟨w.heap.size+1,0,none⟩ (.slice oe' (kx+1) ce')) (xs++[(44,D)]) oe' ce' (some ⟨g,off,none⟩) n cap l:=by
    have hlx:(xs++[((44:Int),D)]).length=kx+1:=by rw[List.length_append,HKX.out];rfl
    refine⟨?_,?_,?_,?_,?_⟩
    ·rw[hlx];exact(heap_setCell_same _ (w.heap.size+1) 0 _ _ (.slice oe' (kx+1) ce') hch3).trans rfl
    ·show JF _ _ _ _ (xs++[((44:Int),D)]).length _ _
     rw[hlx,JaU]
     show JF _ _ _ _ _ _ (Xy xs++[.int .u8 44,.string (strOfNums D)])
     rw[HSD.out]
     exact JF.other ho (fun a ha=>by have:=(ho.lt ha).1;show a.block≠w.heap.size+1;omega) _
    ·exact(heap_setCell_other y3 ⟨w.heap.size+1,0,none⟩ w.heap.size _ (by show w.heap.size≠w.heap.size+1;omega)).trans hb43
    ·exact hrd3.other (fun a ha=>by cases ha;have h8:=hA _ rfl;simp only at h8;show g≠w.heap.size+1;omega) _
    ·exact hbe3.setCell (p:=⟨w.heap.size+1,0,none⟩) (by show w.heap.size≤w.heap.size+1;omega) _
   have HRC:=Jpa hRC
   have hx4:=(heap_setCell_other y3 ⟨w.heap.size+1,0,none⟩ bx (.slice oe' (kx+1) ce') (by show bx≠w.heap.size+1;omega)).trans hbx3
   have hg4:(y3.setCell ⟨w.heap.size+1,0,none⟩ (.slice oe' (kx+1) ce')).cell? ⟨g,off+i,none⟩=some (.int .u8 b0):=by
    rw[World.cell?_of_block (w:=y3) (a:=⟨g,off+i,none⟩) (heap_setCell_other y3 ⟨w.heap.size+1,0,none⟩ g _ (by have h8:=hA _ rfl;simp only at h8;show g≠w.heap.size+1;omega))]
    exact hcg3
   have HX4:=Jpa hx4
   have HG4:=Jpa hg4
   have l37:w.heap.size+1<y3.heap.size:=(Jpb hch3).1
   have q0:=cell_of_row _ _ 0 _ _ (0,0) hbx3
   have q1:=cell_of_row _ _ 1 _ _ (0,0) hbx3
   clear ho hgr hd hne7 hne4 hnex hneg hch3 hb43 hcg3 hbe3 hrd3 hRC hx4 hg4 hYA hdy hgy2 hxly2 hl7y2 z0 z1 hdy7 hrfy2 HSY2 HXY2 hbx3
   obtain⟨XL,hXL⟩:∃b,Qw 44 D=b:=⟨_,rfl⟩
   rw[hXL] at HLT
   have HXL:=Jpa hXL
   clear hXL
   go_wp2_with fail
   refine Jpc (HLT.out _) ?_
   rintro e y5 ⟨rfl,hb5⟩
   have HRC5:=Jpa (HRC.out.below hb5)
   have hg5:=(Je (b:=g) hb5 (by have h8:=hA _ rfl;simp only at h8;have h9:=HRC.out.out.size;omega) (⟨g,off+i,none⟩:Addr) rfl).trans HG4.out
   have hgl5:g<y5.heap.size:=by have h8:=hA _ rfl;simp only at h8;have h9:=HRC5.out.out.size;omega
   have HCK:Hid (Jex (xs++[((44:Int),D)])):=Jpa (HF.out.1.snoc HLL.out (JD HBY.out _) HBB.out (by decide) HOK.out)
   have HRUN2:Hid (RUN=if XL then .done (xs++[((44:Int),D)]) b0 (i+m) else XU g' (xs++[((44:Int),D)]) b0 (i+m) l):=Jpa (by rw[HSTEP.out,HOK.out];simp only[HXL.out])
   have HREL:Hid (XL=JE (xs++[((44:Int),D)])∧(0≤b0∧b0<256)∧i+m≤n∧(XL=true→RUN=.done (xs++[((44:Int),D)]) b0 (i+m))∧(XL=false→RUN=XU (17-(xs++[((44:Int),D)]).length) (xs++[((44:Int),D)]) b0 (i+m) l)):=Jpa (by
    refine⟨?_,hb0,by omega,fun h=>?_,fun h=>?_⟩
    ·rw[X5];exact HXL.out.symm
    ·rw[HRUN2.out,h];rfl
    ·rw[HRUN2.out,h,List.length_append,HKX.out]
     show(if false=true then _ else _)=_
     rw[if_neg (by decide),show 17-(kx+[((44:Int),D)].length)=g' by show 17-(kx+1)=g';omega])
   have HLX:Hid ((xs++[((44:Int),D)]).length=kx+1):=Jpa (by rw[List.length_append,HKX.out];rfl)
   clear hb5 HRC HX4 HG4 c70 f70 q0 q1 HRUN2 HSTEP HER HC3 HF HS HGO HDONE HLL HLT HRX l3x l37
   go_wp2_with fail
   go_roundg (16-kx)
   case measure=>omega
   case rel=>exact⟨_,xs++[((44:Int),D)],b0,i+m,XL,oe',ce',rfl,rfl,by go_num,rfl,by have:=HX16.out;rw[HLX.out];omega,HRC5,Jpa ⟨HCK.out,HREL.out⟩⟩
  ·skip
   by_cases h2:n-i<2
   ·have hd2:decide ((n:Int)<(i:Int)+2)=true:=by simp;omega
    have HE:=Jpa (HER.out 10 (by rw[HONE2.out,if_pos h2]))
    have HBX:=Jpa HS.out.box
    have HWB:=Jpa HS.out.out
    clear HER HSTEP HONE2 HGO HDONE HF hg hg' hx16 hpb h16 h00 hpv
    go_wp2_with fail
    refine Jpc (HKD.out _) ?_
    rintro e z' ⟨rfl,rfl⟩
    go_wp2_with fail
    refine Qs (iv:=.int .i64 0) (ev:=.int .i64 10) w.heap.size rfl rfl rfl (Jd HBX.out) rfl ?_
    exact Qv.mk_err HE.out (by decide) (HWB.out.trans (Jb _ (Jpf _)))
   have hd2:decide ((n:Int)<(i:Int)+2)=false:=by simp;omega
   obtain⟨g,off,rfl,hgl,hcs⟩:=HS.out.rd.here (by omega)
   have hci:=hcs i (by omega)
   have hci1:=hcs (i+1) (by omega)
   have hb0:=Jy HBY.out i
   have hb1:=Jy HBY.out (i+1)
   have hix:(i:Int)<(n:Int):=by omega
   have hix1:(i:Int)+1<(n:Int):=by omega
   have htn1:((i:Int)+1).toNat=i+1:=by omega
   obtain⟨b1,e1⟩:∃b,l.getD (i+1) 0=b:=⟨_,rfl⟩
   rw[e1] at hci1 hb1 HONE2
   obtain⟨m,hm⟩:∃m:Nat,(if (p:Int)=44 then 8 else 8*(b1.toNat+1))=m:=⟨_,rfl⟩
   have hmv:(m:Int)=(8*(b1+1))∧8≤m∧m≤2048:=by rw[if_neg hpv] at hm;omega
   have HC3:Hid (QC xs p (l.drop i)=if n-i<m then .err 10 else if (p:Int)=44∧(b1≠0∨JX 44 ((l.drop (i+2)).take (m-2))=false) then .err 60 else .ok p ((l.drop (i+2)).take (m-2)) (l.getD i 0) m):=Jpa (by rw[HONE2.out,if_neg h2,hm])
   obtain⟨b0,e0⟩:∃b,l.getD i 0=b:=⟨_,rfl⟩
   rw[e0] at hci hb0 HC3
   clear HONE2 hm hcs e0 e1
   by_cases h3:n-i<m
   ·have hd3:decide ((n:Int)<(i:Int)+(8*(b1+1)))=true:=by simp;omega
    have HE:=Jpa (HER.out 10 (by rw[HC3.out,if_pos h3]))
    have HBX:=Jpa HS.out.box
    have HWB:=Jpa HS.out.out
    clear HER HSTEP HC3 HGO HDONE HF hg hg' hx16 hpb h16 h00 hpv
    go_wp2_with fail
    refine Jpc (HKD.out _) ?_
    rintro e z' ⟨rfl,rfl⟩
    go_wp2_with fail
    refine Qs (iv:=.int .i64 0) (ev:=.int .i64 10) w.heap.size rfl rfl rfl (Jd HBX.out) rfl ?_
    exact Qv.mk_err HE.out (by decide) (HWB.out.trans (Jb _ (Jpf _)))
   have hd3:decide ((n:Int)<(i:Int)+(8*(b1+1)))=false:=by simp;omega
   obtain⟨D,hD⟩:∃D,(l.drop (i+2)).take (m-2)=D:=⟨_,rfl⟩
   have hDl:D.length=m-2:=by rw[←hD,List.length_take,List.length_drop];omega
   have HDB:Hid (Jl D):=Jpa (hD▸JU (JD HBY.out _) _)
   rw[hD] at HC3
   have hcut:∀w,(Instr.slice 22 (.slice (some ⟨g,off,none⟩) n cap) (some (.int .i64 ((i:Int)+2))) (some (.int .i64 ((i:Int)+(8*(b1+1))))) none).run Tryz.prog w=.ok (.slice (Jk (some ⟨g,off,none⟩) (i+2) cap 1) (m-2) (cap-(i+2))) w:=fun w=>by
    have:=JW (P:=Tryz.prog) 22 (some ⟨g,off,none⟩) n cap 1 elemBytes sizeBytes (i+2) (i+m) ((i:Int)+2) ((i:Int)+(8*(b1+1))) (by omega) (by omega) (by omega) (by omega) w
    rwa [show i+m-(i+2)=m-2 by omega] at this
   have hcv:(convert 22 9 (.slice (Jk (some ⟨g,off,none⟩) (i+2) cap 1) (m-2) (cap-(i+2)))).run Tryz.prog z=.ok (.string (strOfNums D)) z:=JR 22 5 Tryz.underlying22 Tryz.underlying5 (hD▸(HS.out.rd.cut (i+2) (by omega)).take (m-2) (by omega)) 9 Tryz.underlying9
   generalize Jk (some ⟨g,off,none⟩) (i+2) cap 1=A2 at*
   generalize cap-(i+2)=cap2 at*
   have hDn:D.length≤100000:=by omega
   generalize m-2=m2 at*
   have HRX:Hid (∀w',Calls Tryz.prog 193 #[.agg #[.int .u8 p,.string (strOfNums D)]] w' (Jh w' (.bool (JX p D)))):=Jpa (fun w'=>Zn p D w' HDB.out hDn)
   have HLT:Hid (∀w',Calls Tryz.prog 194 #[.agg #[.int .u8 p,.string (strOfNums D)]] w' (Jh w' (.bool (Qw p D)))):=Jpa (fun w'=>Jbb p D w' HDB.out hDn)
   obtain⟨S,hS⟩:∃S,strOfNums D=S:=⟨_,rfl⟩
   have HSD:=Jpa hS
   rw[hS] at hcv HRX HLT
   clear hD hS
   have HOK:Hid (QC xs p (l.drop i)=.ok p D b0 m):=Jpa (by rw[HC3.out,if_neg h3,if_neg (fun h=>hpv h.1)])
   clear hpb h16 h00 hpv
   go_wp2_with fail
   refine Jpc (HKD.out _) ?_
   rintro e z' ⟨rfl,rfl⟩
   go_wp2_with (at_builtin;refine Jt.of ?_)
   refine Jt.mk ?_
   have hyx:=heap_alloc_new z (.cells #[p,.string S] 242)
   have hyb:=Below.all (Jpd z.heap.size z) (.cells #[p,.string S] 242)
   have hys:(z.alloc (.cells #[p,.string S] 242)).heap.size=z.heap.size+1:=by simp
   obtain⟨y,hy⟩:∃y,z.alloc (.cells #[p,.string S] 242)=y:=⟨_,rfl⟩
   rw[hy] at hyx hyb hys⊢
   obtain⟨bx,hbx⟩:∃b,b=z.heap.size:=⟨_,rfl⟩
   have hbl:w.heap.size+1<bx:=by omega
   have hbz:z.heap.size≤bx:=by omega
   have hgx:g<bx:=by omega
   have hcy:=(Je hyb hgl (⟨g,off+i,none⟩:Addr) rfl).trans hci
   have hcy1:=(Je hyb hgl (⟨g,off+(i+1),none⟩:Addr) rfl).trans hci1
   rw[←hys]
   rw[←hbx] at hyx⊢
   have HSY:=Jpa (HS.out.below hyb)
   have HXY:=Jpa hyx
   have hxly:bx<y.heap.size:=(Jpb hyx).1
   have x0:=cell_of_row _ _ 0 _ _ (0,0) hyx
   have x1:=cell_of_row _ _ 1 _ _ (0,0) hyx
   have hcy7:y.cell? ⟨w.heap.size+1,0,none⟩=some (.slice oe kx ce):=cell_of_row _ _ 0 _ _ (0,0) ((HSY.out.ch).trans (by rw[HKX.out]))
   have hgy:g<y.heap.size:=by omega
   have hl7y:w.heap.size+1<y.heap.size:=by omega
   have hrfy:Jg y w.heap.size 2=true:=by rw[Jc _ _ _ _ _ HSY.out.box];rfl
   clear hyx hyb hys hy hbx hci hci1 hgl c70 c71 f70 f71 hrf l4 l7 hcut hcv
   have hYA:=Below.all (Jpd y.heap.size y) (.cells #[p,.string S] 242)
   refine JG _ rfl _ _ 159 rfl 242 (.agg #[(),Jpi]) 2 24 (w.heap.size+2) (by kernel_rfl) Jev rfl (by decide) oe kx ce (Xy xs) rfl (by rw[←HKX.out];exact JF.below HSY.out.own hYA) ⟨y.heap.size,0,none⟩ 1 1 [.int .u8 p,.string S] rfl rfl (Q7 y #[p,.string S] 242) (by intro u hu;simp only[List.mem_cons,List.not_mem_nil,or_false] at hu;rcases hu with rfl|rfl<;>rfl) (by decide) (by unfold maxLen;omega) (by omega) (by have:=hYA.size;omega) ?_
   intro oe' ce' y3 ho hgr hd
   have hne7:some (w.heap.size+1)≠oe.map Addr.block:=by
    intro h
    obtain⟨a,h5,h6⟩:=Option.map_eq_some_iff.1 h.symm
    have:=(HSY.out.own.lt h5).1
    omega
   have hne4:some w.heap.size≠oe.map Addr.block:=by
    intro h
    obtain⟨a,h5,h6⟩:=Option.map_eq_some_iff.1 h.symm
    have:=(HSY.out.own.lt h5).1
    omega
   have hnex:some bx≠oe.map Addr.block:=by
    intro h
    obtain⟨a,h5,h6⟩:=Option.map_eq_some_iff.1 h.symm
    have:=(HS.out.own.lt h5).2
    omega
   have hneg:some g≠oe.map Addr.block:=by
    intro h
    obtain⟨a,h5,h6⟩:=Option.map_eq_some_iff.1 h.symm
    have h7:=(HSY.out.own.lt h5).1
    have h8:=hA _ rfl
    simp only at h8
    omega
   have hch3:=(hgr.block (w.heap.size+1) (Jpe hl7y hYA.size) hne7).trans ((hYA.block _ hl7y).trans (HSY.out.ch.trans (by rw[HKX.out])))
   have hbx3:=(hgr.block bx (Jpe hxly hYA.size) hnex).trans ((hYA.block _ hxly).trans HXY.out)
   have hb43:=(hgr.block w.heap.size (Jpe (by omega) hYA.size) hne4).trans ((hYA.block _ (by omega)).trans HSY.out.box)
   have hcg3:=hgr.cell ((Je hYA hgy (⟨g,off+i,none⟩:Addr) rfl).trans hcy) hneg
   have hbe3:Below w.heap.size w y3:=Below.grown (HSY.out.out.trans (hYA.mono HSY.out.out.size)) hgr (Nat.le_trans HSY.out.out.size hYA.size) (fun q hq=>by
    obtain⟨a,h5,h6⟩:=Option.map_eq_some_iff.1 hq
    have:=(HSY.out.own.lt h5).1
    omega)
   have hrd3:Ji y3 (some ⟨g,off,none⟩) n cap l:=(HSY.out.rd.below hYA).keep hgr.size (fun a ha hl=>by
    cases ha
    exact hgr.block g hl hneg)
   have c70:=cell_of_row _ _ 0 _ _ (0,0) hch3
   have f70:=frozen_of_row _ _ 0 _ _ hch3
   have l3x:bx<y3.heap.size:=(Jpb hbx3).1
   have hRC:RCh w (y3.setCell ⟨w.heap.size+1,0,none⟩ (.slice oe' (kx+1) ce')) (xs++[(p,D)]) oe' ce' (some ⟨g,off,none⟩) n cap l:=by
    have hlx:(xs++[((p:Int),D)]).length=kx+1:=by rw[List.length_append,HKX.out];rfl
    refine⟨?_,?_,?_,?_,?_⟩
    ·rw[hlx];exact(heap_setCell_same _ (w.heap.size+1) 0 _ _ (.slice oe' (kx+1) ce') hch3).trans rfl
    ·show JF _ _ _ _ (xs++[((p:Int),D)]).length _ _
     rw[hlx,JaU]
     show JF _ _ _ _ _ _ (Xy xs++[.int .u8 p,.string (strOfNums D)])
     rw[HSD.out]
     exact JF.other ho (fun a ha=>by have:=(ho.lt ha).1;show a.block≠w.heap.size+1;omega) _
    ·exact(heap_setCell_other y3 ⟨w.heap.size+1,0,none⟩ w.heap.size _ (by show w.heap.size≠w.heap.size+1;omega)).trans hb43
    ·exact hrd3.other (fun a ha=>by cases ha;have h8:=hA _ rfl;simp only at h8;show g≠w.heap.size+1;omega) _
    ·exact hbe3.setCell (p:=⟨w.heap.size+1,0,none⟩) (by show w.heap.size≤w.heap.size+1;omega) _
   have HRC:=Jpa hRC
   have hx4:=(heap_setCell_other y3 ⟨w.heap.size+1,0,none⟩ bx (.slice oe' (kx+1) ce') (by show bx≠w.heap.size+1;omega)).trans hbx3
   have hg4:(y3.setCell ⟨w.heap.size+1,0,none⟩ (.slice oe' (kx+1) ce')).cell? ⟨g,off+i,none⟩=some (.int .u8 b0):=by
    rw[World.cell?_of_block (w:=y3) (a:=⟨g,off+i,none⟩) (heap_setCell_other y3 ⟨w.heap.size+1,0,none⟩ g _ (by have h8:=hA _ rfl;simp only at h8;show g≠w.heap.size+1;omega))]
    exact hcg3
   have HX4:=Jpa hx4
   have HG4:=Jpa hg4
   have l37:w.heap.size+1<y3.heap.size:=(Jpb hch3).1
   have q0:=cell_of_row _ _ 0 _ _ (0,0) hbx3
   have q1:=cell_of_row _ _ 1 _ _ (0,0) hbx3
   clear ho hgr hd hne7 hne4 hnex hneg hch3 hb43 hcg3 hbe3 hrd3 hRC hx4 hg4 hYA hcy hgy hxly hl7y x0 x1 hcy7 hcy1 hrfy HSY HXY hbx3
   obtain⟨XL,hXL⟩:∃b,Qw p D=b:=⟨_,rfl⟩
   rw[hXL] at HLT
   have HXL:=Jpa hXL
   clear hXL
   go_wp2_with fail
   refine Jpc (HLT.out _) ?_
   rintro e y5 ⟨rfl,hb5⟩
   have HRC5:=Jpa (HRC.out.below hb5)
   have hg5:=(Je (b:=g) hb5 (by have h8:=hA _ rfl;simp only at h8;have h9:=HRC.out.out.size;omega) (⟨g,off+i,none⟩:Addr) rfl).trans HG4.out
   have hgl5:g<y5.heap.size:=by have h8:=hA _ rfl;simp only at h8;have h9:=HRC5.out.out.size;omega
   have HCK:Hid (Jex (xs++[((p:Int),D)])):=Jpa (HF.out.1.snoc HLL.out (JD HBY.out _) HBB.out HF.out.2.2.1 HOK.out)
   have HRUN2:Hid (RUN=if XL then .done (xs++[((p:Int),D)]) b0 (i+m) else XU g' (xs++[((p:Int),D)]) b0 (i+m) l):=Jpa (by rw[HSTEP.out,HOK.out];simp only[HXL.out])
   have HREL:Hid (XL=JE (xs++[((p:Int),D)])∧(0≤b0∧b0<256)∧i+m≤n∧(XL=true→RUN=.done (xs++[((p:Int),D)]) b0 (i+m))∧(XL=false→RUN=XU (17-(xs++[((p:Int),D)]).length) (xs++[((p:Int),D)]) b0 (i+m) l)):=Jpa (by
    refine⟨?_,hb0,by omega,fun h=>?_,fun h=>?_⟩
    ·rw[X5];exact HXL.out.symm
    ·rw[HRUN2.out,h];rfl
    ·rw[HRUN2.out,h,List.length_append,HKX.out]
     show(if false=true then _ else _)=_
     rw[if_neg (by decide),show 17-(kx+[((p:Int),D)].length)=g' by show 17-(kx+1)=g';omega])
   have HLX:Hid ((xs++[((p:Int),D)]).length=kx+1):=Jpa (by rw[List.length_append,HKX.out];rfl)
   clear hb5 HRC HX4 HG4 c70 f70 q0 q1 HRUN2 HSTEP HER HC3 HF HS HGO HDONE HLL HLT HRX l3x l37
   go_wp2_with fail
   go_roundg (16-kx)
   case measure=>omega
   case rel=>exact⟨_,xs++[((p:Int),D)],b0,i+m,XL,oe',ce',rfl,rfl,by go_num,rfl,by have:=HX16.out;rw[HLX.out];omega,HRC5,Jpa ⟨HCK.out,HREL.out⟩⟩
  ·skip
   by_cases h2:n-i<2
   ·have hd2:decide ((n:Int)<(i:Int)+2)=true:=by simp;omega
    have HE:=Jpa (HER.out 10 (by rw[HONE2.out,if_pos h2]))
    have HBX:=Jpa HS.out.box
    have HWB:=Jpa HS.out.out
    clear HER HSTEP HONE2 HGO HDONE HF hg hg' hx16 hpb h16 h00 hpv
    go_wp2_with fail
    refine Jpc (HKD.out _) ?_
    rintro e z' ⟨rfl,rfl⟩
    go_wp2_with fail
    refine Qs (iv:=.int .i64 0) (ev:=.int .i64 10) w.heap.size rfl rfl rfl (Jd HBX.out) rfl ?_
    exact Qv.mk_err HE.out (by decide) (HWB.out.trans (Jb _ (Jpf _)))
   have hd2:decide ((n:Int)<(i:Int)+2)=false:=by simp;omega
   obtain⟨g,off,rfl,hgl,hcs⟩:=HS.out.rd.here (by omega)
   have hci:=hcs i (by omega)
   have hci1:=hcs (i+1) (by omega)
   have hb0:=Jy HBY.out i
   have hb1:=Jy HBY.out (i+1)
   have hix:(i:Int)<(n:Int):=by omega
   have hix1:(i:Int)+1<(n:Int):=by omega
   have htn1:((i:Int)+1).toNat=i+1:=by omega
   obtain⟨b1,e1⟩:∃b,l.getD (i+1) 0=b:=⟨_,rfl⟩
   rw[e1] at hci1 hb1 HONE2
   obtain⟨m,hm⟩:∃m:Nat,(if (p:Int)=44 then 8 else 8*(b1.toNat+1))=m:=⟨_,rfl⟩
   have hmv:(m:Int)=(8*(b1+1))∧8≤m∧m≤2048:=by rw[if_neg hpv] at hm;omega
   have HC3:Hid (QC xs p (l.drop i)=if n-i<m then .err 10 else if (p:Int)=44∧(b1≠0∨JX 44 ((l.drop (i+2)).take (m-2))=false) then .err 60 else .ok p ((l.drop (i+2)).take (m-2)) (l.getD i 0) m):=Jpa (by rw[HONE2.out,if_neg h2,hm])
   obtain⟨b0,e0⟩:∃b,l.getD i 0=b:=⟨_,rfl⟩
   rw[e0] at hci hb0 HC3
   clear HONE2 hm hcs e0 e1
   by_cases h3:n-i<m
   ·have hd3:decide ((n:Int)<(i:Int)+(8*(b1+1)))=true:=by simp;omega
    have HE:=Jpa (HER.out 10 (by rw[HC3.out,if_pos h3]))
    have HBX:=Jpa HS.out.box
    have HWB:=Jpa HS.out.out
    clear HER HSTEP HC3 HGO HDONE HF hg hg' hx16 hpb h16 h00 hpv
    go_wp2_with fail
    refine Jpc (HKD.out _) ?_
    rintro e z' ⟨rfl,rfl⟩
    go_wp2_with fail
    refine Qs (iv:=.int .i64 0) (ev:=.int .i64 10) w.heap.size rfl rfl rfl (Jd HBX.out) rfl ?_
    exact Qv.mk_err HE.out (by decide) (HWB.out.trans (Jb _ (Jpf _)))
   have hd3:decide ((n:Int)<(i:Int)+(8*(b1+1)))=false:=by simp;omega
   obtain⟨D,hD⟩:∃D,(l.drop (i+2)).take (m-2)=D:=⟨_,rfl⟩
   have hDl:D.length=m-2:=by rw[←hD,List.length_take,List.length_drop];omega
   have HDB:Hid (Jl D):=Jpa (hD▸JU (JD HBY.out _) _)
   rw[hD] at HC3
   have hcut:∀w,(Instr.slice 22 (.slice (some ⟨g,off,none⟩) n cap) (some (.int .i64 ((i:Int)+2))) (some (.int .i64 ((i:Int)+(8*(b1+1))))) none).run Tryz.prog w=.ok (.slice (Jk (some ⟨g,off,none⟩) (i+2) cap 1) (m-2) (cap-(i+2))) w:=fun w=>by
    have:=JW (P:=Tryz.prog) 22 (some ⟨g,off,none⟩) n cap 1 elemBytes sizeBytes (i+2) (i+m) ((i:Int)+2) ((i:Int)+(8*(b1+1))) (by omega) (by omega) (by omega) (by omega) w
    rwa [show i+m-(i+2)=m-2 by omega] at this
   have hcv:(convert 22 9 (.slice (Jk (some ⟨g,off,none⟩) (i+2) cap 1) (m-2) (cap-(i+2)))).run Tryz.prog z=.ok (.string (strOfNums D)) z:=JR 22 5 Tryz.underlying22 Tryz.underlying5 (hD▸(HS.out.rd.cut (i+2) (by omega)).take (m-2) (by omega)) 9 Tryz.underlying9
   generalize Jk (some ⟨g,off,none⟩) (i+2) cap 1=A2 at*
   generalize cap-(i+2)=cap2 at*
   have hDn:D.length≤100000:=by omega
   generalize m-2=m2 at*
   have HRX:Hid (∀w',Calls Tryz.prog 193 #[.agg #[.int .u8 p,.string (strOfNums D)]] w' (Jh w' (.bool (JX p D)))):=Jpa (fun w'=>Zn p D w' HDB.out hDn)
   have HLT:Hid (∀w',Calls Tryz.prog 194 #[.agg #[.int .u8 p,.string (strOfNums D)]] w' (Jh w' (.bool (Qw p D)))):=Jpa (fun w'=>Jbb p D w' HDB.out hDn)
   obtain⟨S,hS⟩:∃S,strOfNums D=S:=⟨_,rfl⟩
   have HSD:=Jpa hS
   rw[hS] at hcv HRX HLT
   clear hD hS
   have HOK:Hid (QC xs p (l.drop i)=.ok p D b0 m):=Jpa (by rw[HC3.out,if_neg h3,if_neg (fun h=>hpv h.1)])
   clear hpb h16 h00 hpv
   go_wp2_with fail
   refine Jpc (HKD.out _) ?_
   rintro e z' ⟨rfl,rfl⟩
   go_wp2_with (at_builtin;refine Jt.of ?_)
   refine Jt.mk ?_
   have hyx:=heap_alloc_new z (.cells #[p,.string S] 242)
   have hyb:=Below.all (Jpd z.heap.size z) (.cells #[p,.string S] 242)
   have hys:(z.alloc (.cells #[p,.string S] 242)).heap.size=z.heap.size+1:=by simp
   obtain⟨y,hy⟩:∃y,z.alloc (.cells #[p,.string S] 242)=y:=⟨_,rfl⟩
   rw[hy] at hyx hyb hys⊢
   obtain⟨bx,hbx⟩:∃b,b=z.heap.size:=⟨_,rfl⟩
   have hbl:w.heap.size+1<bx:=by omega
   have hbz:z.heap.size≤bx:=by omega
   have hgx:g<bx:=by omega
   have hcy:=(Je hyb hgl (⟨g,off+i,none⟩:Addr) rfl).trans hci
   have hcy1:=(Je hyb hgl (⟨g,off+(i+1),none⟩:Addr) rfl).trans hci1
   rw[←hys]
   rw[←hbx] at hyx⊢
   have HSY:=Jpa (HS.out.below hyb)
   have HXY:=Jpa hyx
   have hxly:bx<y.heap.size:=(Jpb hyx).1
   have x0:=cell_of_row _ _ 0 _ _ (0,0) hyx
   have x1:=cell_of_row _ _ 1 _ _ (0,0) hyx
   have hcy7:y.cell? ⟨w.heap.size+1,0,none⟩=some (.slice oe kx ce):=cell_of_row _ _ 0 _ _ (0,0) ((HSY.out.ch).trans (by rw[HKX.out]))
   have hgy:g<y.heap.size:=by omega
   have hl7y:w.heap.size+1<y.heap.size:=by omega
   have hrfy:Jg y w.heap.size 2=true:=by rw[Jc _ _ _ _ _ HSY.out.box];rfl
   clear hyx hyb hys hy hbx hci hci1 hgl c70 c71 f70 f71 hrf l4 l7 hcut hcv
   have hYA:=Below.all (Jpd y.heap.size y) (.cells #[p,.string S] 242)
   refine JG _ rfl _ _ 159 rfl 242 (.agg #[(),Jpi]) 2 24 (w.heap.size+2) (by kernel_rfl) Jev rfl (by decide) oe kx ce (Xy xs) rfl (by rw[←HKX.out];exact JF.below HSY.out.own hYA) ⟨y.heap.size,0,none⟩ 1 1 [.int .u8 p,.string S] rfl rfl (Q7 y #[p,.string S] 242) (by intro u hu;simp only[List.mem_cons,List.not_mem_nil,or_false] at hu;rcases hu with rfl|rfl<;>rfl) (by decide) (by unfold maxLen;omega) (by omega) (by have:=hYA.size;omega) ?_
   intro oe' ce' y3 ho hgr hd
   have hne7:some (w.heap.size+1)≠oe.map Addr.block:=by
    intro h
    obtain⟨a,h5,h6⟩:=Option.map_eq_some_iff.1 h.symm
    have:=(HSY.out.own.lt h5).1
    omega
   have hne4:some w.heap.size≠oe.map Addr.block:=by
    intro h
    obtain⟨a,h5,h6⟩:=Option.map_eq_some_iff.1 h.symm
    have:=(HSY.out.own.lt h5).1
    omega
   have hnex:some bx≠oe.map Addr.block:=by
    intro h
    obtain⟨a,h5,h6⟩:=Option.map_eq_some_iff.1 h.symm
    have:=(HS.out.own.lt h5).2
    omega
   have hneg:some g≠oe.map Addr.block:=by
    intro h
    obtain⟨a,h5,h6⟩:=Option.map_eq_some_iff.1 h.symm
    have h7:=(HSY.out.own.lt h5).1
    have h8:=hA _ rfl
    simp only at h8
    omega
   have hch3:=(hgr.block (w.heap.size+1) (Jpe hl7y hYA.size) hne7).trans ((hYA.block _ hl7y).trans (HSY.out.ch.trans (by rw[HKX.out])))
   have hbx3:=(hgr.block bx (Jpe hxly hYA.size) hnex).trans ((hYA.block _ hxly).trans HXY.out)
   have hb43:=(hgr.block w.heap.size (Jpe (by omega) hYA.size) hne4).trans ((hYA.block _ (by omega)).trans HSY.out.box)
   have hcg3:=hgr.cell ((Je hYA hgy (⟨g,off+i,none⟩:Addr) rfl).trans hcy) hneg
   have hbe3:Below w.heap.size w y3:=Below.grown (HSY.out.out.trans (hYA.mono HSY.out.out.size)) hgr (Nat.le_trans HSY.out.out.size hYA.size) (fun q hq=>by
    obtain⟨a,h5,h6⟩:=Option.map_eq_some_iff.1 hq
    have:=(HSY.out.own.lt h5).1
    omega)
   have hrd3:Ji y3 (some ⟨g,off,none⟩) n cap l:=(HSY.out.rd.below hYA).keep hgr.size (fun a ha hl=>by
    cases ha
    exact hgr.block g hl hneg)
   have c70:=cell_of_row _ _ 0 _ _ (0,0) hch3
   have f70:=frozen_of_row _ _ 0 _ _ hch3
   have l3x:bx<y3.heap.size:=(Jpb hbx3).1
   have hRC:RCh w (y3.setCell ⟨w.heap.size+1,0,none⟩ (.slice oe' (kx+1) ce')) (xs++[(p,D)]) oe' ce' (some ⟨g,off,none⟩) n cap l:=by
    have hlx:(xs++[((p:Int),D)]).length=kx+1:=by rw[List.length_append,HKX.out];rfl
    refine⟨?_,?_,?_,?_,?_⟩
    ·rw[hlx];exact(heap_setCell_same _ (w.heap.size+1) 0 _ _ (.slice oe' (kx+1) ce') hch3).trans rfl
    ·show JF _ _ _ _ (xs++[((p:Int),D)]).length _ _
     rw[hlx,JaU]
     show JF _ _ _ _ _ _ (Xy xs++[.int .u8 p,.string (strOfNums D)])
     rw[HSD.out]
     exact JF.other ho (fun a ha=>by have:=(ho.lt ha).1;show a.block≠w.heap.size+1;omega) _
    ·exact(heap_setCell_other y3 ⟨w.heap.size+1,0,none⟩ w.heap.size _ (by show w.heap.size≠w.heap.size+1;omega)).trans hb43
    ·exact hrd3.other (fun a ha=>by cases ha;have h8:=hA _ rfl;simp only at h8;show g≠w.heap.size+1;omega) _
    ·exact hbe3.setCell (p:=⟨w.heap.size+1,0,none⟩) (by show w.heap.size≤w.heap.size+1;omega) _
   have HRC:=Jpa hRC
   have hx4:=(heap_setCell_other y3 ⟨w.heap.size+1,0,none⟩ bx (.slice oe' (kx+1) ce') (by show bx≠w.heap.size+1;omega)).trans hbx3
   have hg4:(y3.setCell ⟨w.heap.size+1,0,none⟩ (.slice oe' (kx+1) ce')).cell? ⟨g,off+i,none⟩=some (.int .u8 b0):=by
    rw[World.cell?_of_block (w:=y3) (a:=⟨g,off+i,none⟩) (heap_setCell_other y3 ⟨w.heap.size+1,0,none⟩ g _ (by have h8:=hA _ rfl;simp only at h8;show g≠w.heap.size+1;omega))]
    exact hcg3
   have HX4:=Jpa hx4
   have HG4:=Jpa hg4
   have l37:w.heap.size+1<y3.heap.size:=(Jpb hch3).1
   have q0:=cell_of_row _ _ 0 _ _ (0,0) hbx3
   have q1:=cell_of_row _ _ 1 _ _ (0,0) hbx3
   clear ho hgr hd hne7 hne4 hnex hneg hch3 hb43 hcg3 hbe3 hrd3 hRC hx4 hg4 hYA hcy hgy hxly hl7y x0 x1 hcy7 hcy1 hrfy HSY HXY hbx3
   obtain⟨XL,hXL⟩:∃b,Qw p D=b:=⟨_,rfl⟩
   rw[hXL] at HLT
   have HXL:=Jpa hXL
   clear hXL
   go_wp2_with fail
   refine Jpc (HLT.out _) ?_
   rintro e y5 ⟨rfl,hb5⟩
   have HRC5:=Jpa (HRC.out.below hb5)
   have hg5:=(Je (b:=g) hb5 (by have h8:=hA _ rfl;simp only at h8;have h9:=HRC.out.out.size;omega) (⟨g,off+i,none⟩:Addr) rfl).trans HG4.out
   have hgl5:g<y5.heap.size:=by have h8:=hA _ rfl;simp only at h8;have h9:=HRC5.out.out.size;omega
   have HCK:Hid (Jex (xs++[((p:Int),D)])):=Jpa (HF.out.1.snoc HLL.out (JD HBY.out _) HBB.out HF.out.2.2.1 HOK.out)
   have HRUN2:Hid (RUN=if XL then .done (xs++[((p:Int),D)]) b0 (i+m) else XU g' (xs++[((p:Int),D)]) b0 (i+m) l):=Jpa (by rw[HSTEP.out,HOK.out];simp only[HXL.out])
   have HREL:Hid (XL=JE (xs++[((p:Int),D)])∧(0≤b0∧b0<256)∧i+m≤n∧(XL=true→RUN=.done (xs++[((p:Int),D)]) b0 (i+m))∧(XL=false→RUN=XU (17-(xs++[((p:Int),D)]).length) (xs++[((p:Int),D)]) b0 (i+m) l)):=Jpa (by
    refine⟨?_,hb0,by omega,fun h=>?_,fun h=>?_⟩
    ·rw[X5];exact HXL.out.symm
    ·rw[HRUN2.out,h];rfl
    ·rw[HRUN2.out,h,List.length_append,HKX.out]
     show(if false=true then _ else _)=_
     rw[if_neg (by decide),show 17-(kx+[((p:Int),D)].length)=g' by show 17-(kx+1)=g';omega])
   have HLX:Hid ((xs++[((p:Int),D)]).length=kx+1):=Jpa (by rw[List.length_append,HKX.out];rfl)
   clear hb5 HRC HX4 HG4 c70 f70 q0 q1 HRUN2 HSTEP HER HC3 HF HS HGO HDONE HLL HLT HRX l3x l37
   go_wp2_with fail
   go_roundg (16-kx)
   case measure=>omega
   case rel=>exact⟨_,xs++[((p:Int),D)],b0,i+m,XL,oe',ce',rfl,rfl,by go_num,rfl,by have:=HX16.out;rw[HLX.out];omega,HRC5,Jpa ⟨HCK.out,HREL.out⟩⟩
theorem Jl9 (lo:Nat)(oe:Option Addr)(ce:Nat)(xs:XV)(p:Int)(w:World)(h:Jcq w lo oe ce xs)(hk:Jex xs)(hd0:∀x∈xs,x.2.length≤100000)(hp:JJ p=false∨JE xs=true):
 Calls Tryz.prog 86 #[.agg #[.slice oe xs.length ce,.int .u8 p]] w (Jba w xs):=by
 have HX:=Jpa h
 have HCK:=Jpa hk
 have HD:=Jpa hd0
 have hn16:=hk.le
 have HRT:Hid (∀w',Jcq w' lo oe ce xs→Calls Tryz.prog 148 #[.agg #[.slice oe xs.length ce,.int .u8 p]] w' (Jh w' (.bool true))):=Jpa (fun w' h'=>by
  have:=Jh5 lo oe ce xs p w' h' hk hd0
  rwa [show(!JJ p||JE xs)=true by rcases hp with h|h<;>rw[h]<;>simp] at this)
 have HB0:Hid (Below w.heap.size w (w.alloc (.cells #[.slice oe xs.length ce,p] 161))):=Jpa (Below.all (Jpd _ _) _)
 have HBX0:=Jpa (heap_alloc_new w (.cells #[.slice oe xs.length ce,p] 161))
 obtain⟨n,hnn⟩:∃n,xs.length=n:=⟨_,rfl⟩
 have HN:=Jpa hnn
 rw[hnn] at hn16 HRT HB0 HBX0⊢
 have HX0:=Jpa (JF.below HX.out HB0.out)
 have HPO:Hid (∀(e:Ending) w',(∃(id:Int) (ok:Bool),e=.returned (.tuple #[.int .u16 (Xv xs),.bool (QU xs),.int .u32 id,ok]))∧Below w.heap.size w w'→Jba w xs e w'):=Jpa (fun _ _ h=>h)
 clear h hk hd0 hp hnn
 go_enter Tryz.func86,Tryz.ntmps86
 go_wp2_with fail
 go_loopg [6] n (fun g u6 wr=>∃(z:World) (j:Nat),z=wr∧j+g=n∧u6=.int .i64 (j:Int)∧Hid (Zq xs=Zq (xs.drop j))∧Hid (Jcq z lo oe ce xs)∧Hid (Below w.heap.size w z)∧Hid (z.heap[w.heap.size]? =some (.cells #[.slice oe n ce,p] 161 (0,0))))
 case atStart=>exact⟨_,0,rfl,by omega,rfl,Jpa rfl,HX0,HB0,HBX0⟩
 case round=>
  obtain⟨z,j,hz,hjg,rfl,HI,HE,HB,HBX⟩:=hrel
  subst hz
  have hwz:w.heap.size<z.heap.size:=(Jpb HBX.out).1
  have hc0:z.cell? ⟨w.heap.size,0,none⟩=some (.slice oe n ce):=cell_of_row _ _ 0 _ _ (0,0) HBX.out
  have hpt:Jf z w.heap.size 0 2=#[.slice oe n ce,.int .u8 p]:=Ja HBX.out rfl
  by_cases hlt:j<n
  ·obtain⟨x,hx⟩:∃x,xs[j]? =some x:=⟨_,List.getElem?_eq_getElem (by rw[HN.out];exact hlt)⟩
   have HDR:Hid (Zq xs=if x.1=44 then some x.2 else Zq (xs.drop (j+1))):=Jpa (by
    have hj:=(List.getElem?_eq_some_iff.1 hx).1
    rw[HI.out,List.drop_eq_getElem_cons hj,Zq]
    have:xs[j]=x:=by have:=List.getElem?_eq_getElem hj;rw[hx] at this;exact(Option.some.inj this).symm
    rw[this])
   obtain⟨g,off,rfl,hg,hq0,hq1⟩:=Jh4 HE.out j x hx
   have hmem:=List.mem_of_getElem? hx
   have hdl:=HD.out x hmem
   have hbyt:=(HCK.out.byte x hmem).2.2
   have hrt:=HCK.out.right x hmem
   obtain⟨k,d⟩:=x
   simp only at hq0 hq1 hdl hbyt hrt HDR
   have hd:decide ((j:Int)<(n:Int))=true:=by simp;omega
   clear hx hmem
   by_cases h44:k=44
   ·subst h44
    have hd6:d.length=6:=by unfold JX at hrt;rw[if_pos rfl] at hrt;simp only[Bool.and_eq_true,decide_eq_true_eq] at hrt;exact hrt.1
    have HFP:Hid (Xv xs=QP d/8∧QU xs=(QP d%2==1)):=Jpa (by unfold Xv QU;rw[HDR.out,if_pos rfl];exact⟨rfl,rfl⟩)
    have HSN:Hid (QP d=w2 d 0):=Jpa (by unfold QP;rw[if_neg (by omega)])
    have hvb:=QB hbyt 0
    have hvb4:=Jia hbyt 2
    have HG2:Hid (∀w' oa c,Ji w' oa d.length c d→Calls Tryz.prog 88 #[.slice oa d.length c,.int .i64 0,.int .i64 2] w' (Jh w' (.tuple #[.int .u64 (w2 d 0),.int .i64 0]))):=Jpa (fun w' oa c hr=>by
     have:=Za oa d.length c d 0 2 w' hr (by decide) (by decide) (by omega) (by omega)
     rwa [JY d 0 (by omega)] at this)
    have HG4:Hid (∀w' oa c,Ji w' oa d.length c d→Calls Tryz.prog 88 #[.slice oa d.length c,.int .i64 2,.int .i64 4] w' (Jh w' (.tuple #[.int .u64 (w4 d 2),.int .i64 0]))):=Jpa (fun w' oa c hr=>by
     have:=Za oa d.length c d 2 4 w' hr (by decide) (by decide) (by omega) (by omega)
     rwa [XW d 2 (by omega)] at this)
    obtain⟨S,hS⟩:∃S,strOfNums d=S:=⟨_,rfl⟩
    have HS:=Jpa hS
    have HBYT:=Jpa hbyt
    rw[hS] at hq1
    rw[HSN.out] at HFP
    generalize w2 d 0=v at*
    generalize w4 d 2=v4 at*
    clear hS HSN hrt HDR HI hbyt
    rw[hd6] at HG2 HG4
    have htd:Int.tdiv v 8=v/8:=Int.tdiv_eq_ediv_of_nonneg hvb.1
    have htm:Int.tmod v 2=v%2:=Int.tmod_eq_emod_of_nonneg hvb.1
    go_wp2_with fail
    refine Jpc (HRT.out _ HE.out) ?_
    rintro e z2 ⟨rfl,hb⟩
    have HB2:=Jpa (Jo3 HB.out hb)
    have hc0':z2.cell? ⟨w.heap.size,0,none⟩=some (.slice (some ⟨g,off,none⟩) n ce):=(Je hb hwz (⟨w.heap.size,0,none⟩:Addr) rfl).trans hc0
    have hq0':=(Je hb hg (⟨g,off+j*2,none⟩:Addr) rfl).trans hq0
    have hq1':=(Je hb hg (⟨g,off+j*2+1,none⟩:Addr) rfl).trans hq1
    have hg2:g<z2.heap.size:=Jpe hg hb.size
    clear hb hc0 hq0 hq1 hpt HB HE HBX
    go_wp2_with (with_reducible refine Jdr 36 ?_)
    refine Jt.mk ?_
    refine X7 _ rfl 9 22 _ rfl 5 Tryz.underlying9 Tryz.underlying22 Tryz.underlying5 d (by show Value.string S=_;rw[HS.out]) HBYT.out (by omega) ?_
    intro c1 z3 hb3 hr3
    rw[hd6] at hr3⊢
    have HR3:=Jpa hr3
    have HB3:=Jpa (Jo3 HB2.out hb3)
    clear hr3 hb3 hc0' hq0' hq1' HB2
    go_wp2_with fail
    refine Jpc (HG2.out _ _ _ HR3.out) ?_
    rintro e z4 ⟨rfl,hb4⟩
    have HR4:=Jpa (HR3.out.below hb4)
    have HB4:=Jpa (Jo3 HB3.out hb4)
    clear hb4 HR3 HB3
    go_wp2_with fail
    refine Jpc (HG4.out _ _ _ HR4.out) ?_
    rintro e z5 ⟨rfl,hb5⟩
    have HB5:=Jpa (Jo3 HB4.out hb5)
    clear hb5
    go_wp2_with fail
    refine bodyPost_ret (v:=.tuple #[.int .u16 (v/8),.bool (v%2==1),.int .u32 v4,true]) (by simp[results,go_sem,Tryz.f86]) rfl ?_
    exact HPO.out _ _ ⟨⟨_,true,by rw[HFP.out.1,HFP.out.2]⟩,HB5.out⟩
   ·have hk44:(k==44)=false:=by simpa using h44
    have HI2:Hid (Zq xs=Zq (xs.drop (j+1))):=Jpa (by rw[HDR.out,if_neg h44])
    generalize strOfNums d=S at*
    clear hrt HDR HI hbyt h44 hdl
    go_wp2_with fail
    refine Jpc (HRT.out _ HE.out) ?_
    rintro e z2 ⟨rfl,hb⟩
    have HB2:=Jpa (Jo3 HB.out hb)
    have HE2:=Jpa (JF.below HE.out hb)
    have HBX2:=Jpa ((hb.block _ hwz).trans HBX.out)
    have hc0':z2.cell? ⟨w.heap.size,0,none⟩=some (.slice (some ⟨g,off,none⟩) n ce):=(Je hb hwz (⟨w.heap.size,0,none⟩:Addr) rfl).trans hc0
    have hq0':=(Je hb hg (⟨g,off+j*2,none⟩:Addr) rfl).trans hq0
    have hg2:g<z2.heap.size:=Jpe hg hb.size
    clear hb hc0 hq0 hq1 hpt HB HE HBX
    go_wp2_with fail
    go_roundg (n-(j+1))
    case measure=>omega
    case rel=>exact⟨_,j+1,rfl,by omega,by go_num,HI2,HE2,HB2,HBX2⟩
  ·have hjn:j=n:=by omega
   have hd:decide ((j:Int)<(n:Int))=false:=by simp;omega
   have HFP:Hid (Xv xs=0∧QU xs=false):=Jpa (by
    have:Zq xs=none:=by rw[HI.out,List.drop_eq_nil_of_le (by rw[HN.out];omega)];rfl
    unfold Xv QU;rw[this];exact⟨rfl,rfl⟩)
   clear HI
   go_wp2_with fail
   refine bodyPost_ret (v:=.tuple #[Jpg,false,Jph,false]) (by simp[results,go_sem,Tryz.f86]) rfl ?_
   exact HPO.out _ _ ⟨⟨0,false,by rw[HFP.out.1,HFP.out.2]⟩,HB.out⟩
def Jah (w:World)(oi:Option Addr)(l:List Int):Ending→World→Prop:=fun e w'=>
 (Ju l≠0∧e=.returned (.tuple #[.agg Jdf,.agg #[.slice none 0 0,.int .u8 0],Jpj,.int .i64 (Ju l)])∧Below w.heap.size w w')∨
 (Ju l=0∧∃oe ce oa cap,e=.returned (.tuple #[.agg (Jnf l),.agg #[.slice oe (QQ l).length ce,.int .u8 (Q5 l)],.slice oa (Xb l).length cap,.int .i64 0])∧
   Jcq w' w.heap.size oe ce (QQ l)∧Ji w' oa (Xb l).length cap (Xb l)∧Below w.heap.size w w'∧Jex (QQ l)∧(JJ (Q5 l)=false∨JE (QQ l)=true)∧(0≤Q5 l∧Q5 l<256)∧∀a,oa=some a→∃a0,oi=some a0∧a0.block=a.block)
end
end Go.Proofs.YtkgjbipfhhjlpaaGreatDoor
