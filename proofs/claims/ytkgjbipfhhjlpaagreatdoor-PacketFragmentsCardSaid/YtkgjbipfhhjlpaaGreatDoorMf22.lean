import Derived.Test.YtkgjbipfhhjlpaaGreatDoorMf21
set_option linter.unusedVariables false
set_option linter.unusedSimpArgs false
set_option maxRecDepth 100000
set_option maxHeartbeats 32000000
namespace Go.Proofs.YtkgjbipfhhjlpaaGreatDoor
section
open Go.RowKit
theorem Jhy {s:Sp}(h:Jb9 s=true):Q1 s=2∧spL s=[]:=by
 have:Q1 s=2:=by unfold Q1;rw[if_pos h]
 exact⟨this,by unfold spL;rw[this];rfl⟩
theorem Jlo {s:Sp}(h:Jb9 s=false)(hn:2048<s.n):Q1 s=3∧spL s=[]:=by
 have:Q1 s=3:=by unfold Q1;rw[if_neg (by rw[h];decide),if_pos hn]
 exact⟨this,by unfold spL;rw[this];rfl⟩
theorem JjX {s:Sp}(h:Jb9 s=false)(hn:¬2048<s.n)(hl:2048<(Qv s++Jx s).length):Q1 s=3∧spL s=[]:=by
 have:Q1 s=3:=by unfold Q1;rw[if_neg (by rw[h];decide),if_neg hn,if_pos hl]
 exact⟨this,by unfold spL;rw[this];rfl⟩
theorem JjY {s:Sp}(h:Jb9 s=false)(hn:¬2048<s.n)(hl:¬2048<(Qv s++Jx s).length):Q1 s=0∧spL s=Qv s++Jx s:=by
 have:Q1 s=0:=by unfold Q1;rw[if_neg (by rw[h];decide),if_neg hn,if_neg hl]
 exact⟨this,by unfold spL;rw[this];rfl⟩
theorem Jh1 (p a b f:Int)(d src dst:List Int):(Jaf p a b f d src dst).length≤20+d.length:=by
 unfold Jaf Jo
 split
 ·simp[be2];omega
 ·split
  ·simp[be2];omega
  ·simp[be2];omega
theorem JgG (p a b f:Int)(d src dst:List Int)(hp:¬(p=6∨p=17)→(0≤a∧a<256)∧(0≤b∧b<256))(hf:0≤f∧f<256)(hd:Jm d):Jm (Jaf p a b f d src dst):=by
 unfold Jaf Jo
 split
 ·refine Je (Je (Je (Je (Je (Jt _) (Jt _)) ?_) (Jt _)) ?_) hd
  ·intro v hv
   simp only[List.mem_cons,List.not_mem_nil,or_false] at hv
   rcases hv with rfl|rfl|rfl|rfl|rfl|rfl|rfl|rfl|rfl|rfl|rfl|rfl<;>first|exact hf|decide
  ·intro v hv
   simp only[List.mem_cons,List.not_mem_nil,or_false] at hv
   rcases hv with rfl|rfl<;>decide
 ·split
  ·exact Je (Je (Je (Je (Jt _) (Jt _)) (Jt _)) (Jt _)) hd
  ·rename_i h1 h2
   have:=hp (by omega)
   refine Je (Je ?_ (Jt _)) hd
   intro v hv
   simp only[List.mem_cons,List.not_mem_nil,or_false] at hv
   rcases hv with rfl|rfl
   ·exact this.1
   ·exact this.2
theorem JaL (n:Nat):Jm (Qh n):=fun v hv=>by rw[(List.mem_replicate.1 hv).2];decide
theorem Jeq (s:Sp):(Jx s).length≤20+s.n.toNat:=by
 unfold Jx
 have hz:=JkX s
 simp only
 split
 ·have:=Jh1 s.k.p s.k.a s.k.b s.f (Qh s.n.toNat) (Ja s.k.s s.k.S) (Ja s.k.t s.k.T);omega
 ·split
  ·have:=Jh1 s.k.p (s.k.b/256) (s.k.b%256) 0 (Qh s.n.toNat) (Ja s.k.s s.k.S) (Ja s.k.t s.k.T);omega
  ·omega
theorem Jaa {s:Sp}(ho:Jha s):Jm (Jx s):=by
 unfold Jx
 have hb:=ho.k.b
 simp only
 split
 ·rename_i h
  have h':s.k.p=6∨s.k.p=17:=by simpa[JW] using h
  exact JgG _ _ _ _ _ _ _ (fun h=>absurd h' h) ho.f (JaL _)
 ·split
  ·exact JgG _ _ _ _ _ _ _ (fun _=>⟨by omega,by omega⟩) (by decide) (JaL _)
  ·exact JaL _
theorem Jhz {s:Sp}(ho:Jha s):Jm (Qv s):=by
 unfold Qv
 have hp:=ho.k.p
 split
 ·unfold Jmh
  refine Je (Je (Je (Je (Jgx _) (Jt _)) ?_) (JH ho.k.S _)) (JH ho.k.T _)
  intro v hv
  simp only[List.mem_cons,List.not_mem_nil,or_false] at hv
  rcases hv with rfl|rfl
  ·exact hp
  ·decide
 ·unfold J8 JQ Jlg
  refine Je (Je (Je (Je (Je (Je ?_ (Jt _)) (Jt _)) (Jt _)) ?_) (Jt _)) (Je (Je (JH ho.k.S _) (JH ho.k.T _)) (fun v hv=>by cases hv))
  ·intro v hv
   simp only[List.mem_cons,List.not_mem_nil,or_false,List.length_nil] at hv
   rcases hv with rfl|rfl<;>decide
  ·intro v hv
   simp only[List.mem_cons,List.not_mem_nil,or_false] at hv
   rcases hv with rfl|rfl
   ·decide
   ·exact hp
theorem JcX {s:Sp}(ho:Jha s):Jm (spL s):=by
 unfold spL
 split
 ·exact Je (Jhz ho) (Jaa ho)
 ·intro v hv;cases hv
theorem Zp {w w':World}{err:Int}(h:Below w.heap.size w w'):Jq w [] err (.returned (.tuple #[JnE,.int .i64 err])) w':=
 ⟨none,0,rfl,by simpa using JI.nil w' w.heap.size 1,h⟩
theorem JcE (p:Int)(w:World):Calls Tryz.prog 42 #[.agg #[.slice none 0 0,.int .u8 p]] w (Jk w (.bool (!JP p))):=by
 have:=JdB 0 none 0 [] [] p w ⟨JI.nil _ _ _,rfl,fun i e x h=>by simp at h⟩ .nil (fun x hx=>by cases hx)
 rwa [show Qe []=false from rfl,Bool.or_false] at this
theorem JgH (s:Bool)(S:Nat→Int)(t:Bool)(T:Nat→Int)(p a b f:Int)(d:Nat)(hd:d≤2048)(hk:Jl3 ⟨s,S,t,T,p,a,b⟩)(hf:0≤f∧f<256)(hg:Jb9 ⟨⟨s,S,t,T,p,a,b⟩,f,d⟩=false)(w:World):
 Calls Tryz.prog 43 #[.agg (spC s S t T p a b f d)] w (Jq w (Jx ⟨⟨s,S,t,T,p,a,b⟩,f,d⟩) 0):=by
 have hp:=hk.p
 have ha:=hk.a
 have hb:=hk.b
 simp only at hp ha hb
 unfold Jb9 at hg
 simp only[Bool.or_eq_false_iff,Bool.not_eq_false',Bool.and_eq_false_iff,bne_eq_false_iff_eq,decide_eq_false_iff_not] at hg
 obtain⟨hkr,-,hfl,-⟩:=hg
 unfold JX at hkr
 simp only[Bool.and_eq_true,beq_iff_eq] at hkr
 obtain rfl:s=t:=hkr.2.2.1
 have hS:=hk.S
 have hT:=hk.T
 simp only at hS hT
 unfold Jx
 simp only[Int.toNat_natCast]
 cases hip:JW p with
 |true=>
  rw[if_pos rfl]
  rcases(by simpa[JW] using hip:p=6∨p=17) with rfl|rfl
  ·exact JdF s S T 6 a b f d hd hS hT hip (fun l=>Jaf 6 a b f l (Ja s S) (Ja s T)) (fun oD n cD l o1 o2 k c1 c2 w h0 h1 h2 hk hn=>JkQ a b f oD n cD l o1 o2 k c1 c2 _ _ w h0 h1 h2 hk hn ha hb hf) w
  ·obtain rfl:f=0:=by rcases hfl with h|h;exact h;cases h
   exact JdF s S T 17 a b 0 d hd hS hT hip (fun l=>Jaf 17 a b 0 l (Ja s S) (Ja s T)) (fun oD n cD l o1 o2 k c1 c2 w h0 h1 h2 hk hn=>JkP a b oD n cD l o1 o2 k c1 c2 _ _ w h0 h1 h2 hk hn ha hb) w
 |false=>
  rw[if_neg (by decide)]
  cases hii:JU p with
  |true=>
   rw[if_pos rfl]
   exact JiN s S T p a b f d hd hS hT hip hii hb w
  |false=>
   rw[if_neg (by decide)]
   exact JiM s S T p a b f d hd hip hii w
theorem JiO (S:Nat→Int)(t:Bool)(T:Nat→Int)(p a b f d:Int)(ho:Jha ⟨⟨false,S,t,T,p,a,b⟩,f,d⟩)(w:World):
 Calls Tryz.prog 15 #[.agg (spC false S t T p a b f d)] w (Jq w (spL ⟨⟨false,S,t,T,p,a,b⟩,f,d⟩) (Q1 ⟨⟨false,S,t,T,p,a,b⟩,f,d⟩)):=by
 have HK:Hid (Jl3 ⟨false,S,t,T,p,a,b⟩):=Jnv ho.k
 have HF:Hid (0≤f∧f<256):=Jnv ho.f
 have HOK:=Jnv ho
 have HR:Hid (∀w,Calls Tryz.prog 26 #[.agg (kyC false S t T p a b)] w (Jk w (.bool (JX ⟨false,S,t,T,p,a,b⟩)))):=Jnv fun w=>Ja0 false S t T p a b w
 have HC:Hid (∀w,Calls Tryz.prog 42 #[.agg #[.slice none 0 0,.int .u8 p]] w (Jk w (.bool (!JP p)))):=Jnv fun w=>JcE p w
 obtain⟨sp,hsp⟩:∃sp:Sp,sp=⟨⟨false,S,t,T,p,a,b⟩,f,d⟩:=⟨_,rfl⟩
 rw[←hsp]
 have HSP:=Jnv hsp
 obtain⟨r,hr⟩:∃r,JX ⟨false,S,t,T,p,a,b⟩=r:=⟨_,rfl⟩
 obtain⟨bh,hbh⟩:∃r,JP p=r:=⟨_,rfl⟩
 rw[hr] at HR
 rw[hbh] at HC
 have HBAD:Hid (Jb9 sp=(!r||((false&&bh)||((f != 0&&p != 6)||decide (d<0))))):=Jnv (by rw[hsp,←hr,←hbh];rfl)
 have hd0:=ho.n
 clear hr hbh ho hsp
 have hbx:=((Bx.start w).box (spC false S t T p a b f d) 47).box (kyC false S t T p a b) 30
 rw[show(w.alloc (.cells (spC false S t T p a b f d) 47)).heap.size=w.heap.size+1 by simp] at hbx
 have BX0:=Jnv hbx
 clear hbx
 unfold spC kyC at*
 go_enter Tryz.func15,Tryz.ntmps15
 go_wp2_with fail
 refine BX0.out.ret (HR.out _) ?_
 intro z1 hb1 BX1
 clear hb1 BX0
 cases r
 ·obtain⟨e1,e2⟩:=Jhy (s:=sp) (by rw[HBAD.out];rfl)
  have HEE:=Jnv (And.intro e1 e2)
  clear e1 e2 hd0
  go_wp2_with fail
  go_ret2
  rw[HEE.out.1,HEE.out.2]
  exact Zp BX1.out.out
 have c37:z1.cell? ⟨w.heap.size,37,none⟩=some (.int .u8 f):=BX1.out.cell 1 37 rfl rfl
 have c38:z1.cell? ⟨w.heap.size,38,none⟩=some (.int .i64 d):=BX1.out.cell 1 38 rfl rfl
 have c34:z1.cell? ⟨w.heap.size+1,34,none⟩=some (.int .u8 p):=BX1.out.cell 0 34 rfl rfl
 have p39:Jc z1 w.heap.size 0 39=(JnU false t p (.int .u16 a) (.int .u16 b) f (.int .i64 d) S T:Array Value):=BX1.out.part 1 rfl rfl
 rcases(by cases h1:(f != 0)<;>cases h2:(p != 6)<;>simp:(f != 0)=false∨((f != 0)=true∧(p != 6)=false)∨((f != 0)=true∧(p != 6)=true)) with hq|⟨hq,hq2⟩|⟨hq,hq2⟩
 rotate_right
 ·obtain⟨e1,e2⟩:=Jhy (s:=sp) (by rw[HBAD.out,hq,hq2];simp)
  have HEE:=Jnv (And.intro e1 e2)
  clear e1 e2 hd0
  go_wp2_with fail
  go_ret2
  rw[HEE.out.1,HEE.out.2]
  exact Zp BX1.out.out
 all_goals
  by_cases hdn:d<0
  ·have h2:decide (d<0)=true:=by simpa using hdn
   obtain⟨e1,e2⟩:=Jhy (s:=sp) (by rw[HBAD.out,hq,h2];simp)
   have HEE:=Jnv (And.intro e1 e2)
   clear e1 e2 hd0 hdn
   go_wp2_with fail
   go_ret2
   rw[HEE.out.1,HEE.out.2]
   exact Zp BX1.out.out
  ·have h2:decide (d<0)=false:=by simpa using hdn
   have hg:Jb9 sp=false:=by rw[HBAD.out,h2];first|(rw[hq,hq2];rfl)|(rw[hq];rfl)
   by_cases hbig:2048<d
   ·have h3:decide (2048<d)=true:=by simpa using hbig
    obtain⟨e1,e2⟩:=Jlo (s:=sp) hg (by rw[HSP.out];exact hbig)
    have HEE:=Jnv (And.intro e1 e2)
    clear e1 e2 hd0 hdn hbig hg
    go_wp2_with fail
    go_ret2
    rw[HEE.out.1,HEE.out.2]
    exact Zp BX1.out.out
   ·have h3:decide (2048<d)=false:=by simpa using hbig
    have HG:=Jnv hg
    have HNB:Hid (¬2048<sp.n):=Jnv (by rw[HSP.out];exact hbig)
    obtain⟨dn,hdd⟩:=Int.eq_ofNat_of_zero_le (show 0≤d by omega)
    have hdl:dn≤2048:=by omega
    have HSG:Hid (∀w,Calls Tryz.prog 43 #[.agg #[.bool false,.int .u8 (S 0),.int .u8 (S 1),.int .u8 (S 2),.int .u8 (S 3),.int .u8 (S 4),.int .u8 (S 5),.int .u8 (S 6),.int .u8 (S 7),.int .u8 (S 8),.int .u8 (S 9),.int .u8 (S 10),.int .u8 (S 11),.int .u8 (S 12),.int .u8 (S 13),.int .u8 (S 14),.int .u8 (S 15),.bool t,.int .u8 (T 0),.int .u8 (T 1),.int .u8 (T 2),.int .u8 (T 3),.int .u8 (T 4),.int .u8 (T 5),.int .u8 (T 6),.int .u8 (T 7),.int .u8 (T 8),.int .u8 (T 9),.int .u8 (T 10),.int .u8 (T 11),.int .u8 (T 12),.int .u8 (T 13),.int .u8 (T 14),.int .u8 (T 15),.int .u8 p,.int .u16 a,.int .u16 b,.int .u8 f,.int .i64 d]] w (Jq w (Jx sp) 0)):=Jnv (fun w=>by
     have:=JgH false S t T p a b f dn hdl HK.out HF.out (by rw[←hdd,←HSP.out];exact hg) w
     rw[←hdd,←HSP.out] at this
     exact this)
    have hBl:(Jx sp).length≤2068:=by have:=Jeq sp;rw[HSP.out] at this⊢;simp only at this;omega
    have hBb:Jm (Jx sp):=Jaa (by rw[HSP.out];exact HOK.out)
    have HHD:Hid (∀w,Calls Tryz.prog 44 #[.agg #[.bool false,.int .u8 (S 0),.int .u8 (S 1),.int .u8 (S 2),.int .u8 (S 3),.int .u8 (S 4),.int .u8 (S 5),.int .u8 (S 6),.int .u8 (S 7),.int .u8 (S 8),.int .u8 (S 9),.int .u8 (S 10),.int .u8 (S 11),.int .u8 (S 12),.int .u8 (S 13),.int .u8 (S 14),.int .u8 (S 15),.bool t,.int .u8 (T 0),.int .u8 (T 1),.int .u8 (T 2),.int .u8 (T 3),.int .u8 (T 4),.int .u8 (T 5),.int .u8 (T 6),.int .u8 (T 7),.int .u8 (T 8),.int .u8 (T 9),.int .u8 (T 10),.int .u8 (T 11),.int .u8 (T 12),.int .u8 (T 13),.int .u8 (T 14),.int .u8 (T 15),.int .u8 p,.int .u16 a,.int .u16 b,.int .u8 f,.int .i64 d],.int .i64 ((Jx sp).length:Nat)] w (Jq w (Qv sp) 0)):=Jnv (fun w=>by
     have:=Jhw S t T p a b f d (Jx sp).length (by omega) HK.out.S HK.out.T HK.out.p w
     have hh:Qv sp=_:=Jfx (by rw[HSP.out])
     rw[hh]
     rw[HSP.out] at this⊢
     exact this)
    have hHl:(Qv sp).length≤40:=by rw[Xo];split<;>omega
    have HLG:=Jnv (fun h=>JjX (s:=sp) HG.out HNB.out h)
    have HGD:=Jnv (fun h=>JjY (s:=sp) HG.out HNB.out h)
    generalize Jx sp=B at*
    generalize Qv sp=H at*
    have HBB:=Jnv hBb
    obtain⟨nB,hnB⟩:∃n,B.length=n:=⟨_,rfl⟩
    obtain⟨nH,hnH⟩:∃n,H.length=n:=⟨_,rfl⟩
    unfold Jq at HSG HHD
    rw[hnB] at HSG HHD hBl
    rw[hnH] at HHD hHl
    have HNN:Hid (B.length=nB∧H.length=nH):=Jnv ⟨hnB,hnH⟩
    clear hg hbig hdn hd0 hdl hdd hBb hnB hnH
    go_wp2_with fail
    refine Jnx (HSG.out _) ?_
    rintro e z2 ⟨oB,cB,rfl,hoB,hb2⟩
    have BX2:=Jnv (BX1.out.go hb2)
    have HOB:=Jnv hoB
    have HRB:=Jnv (hoB.reads HBB.out)
    have HAB:=Jnv (fun a (h:oB=some a)=>(hoB.lt h).2)
    clear hoB hb2 BX1 c34 c37 c38 p39
    have q39:Jc z2 w.heap.size 0 39=(JnU false t p (.int .u16 a) (.int .u16 b) f (.int .i64 d) S T:Array Value):=BX2.out.part 1 rfl rfl
    go_wp2_with fail
    refine Jnx (HHD.out _) ?_
    rintro e z3 ⟨oH,cH,rfl,hoH,hb3⟩
    have BX3:=Jnv (BX2.out.go hb3)
    have HOH:=Jnv hoH
    have HRB3:=Jnv (HRB.out.below hb3)
    have HS3:=Jnv hb3.size
    have HZ2:=Jnv BX2.out.out.size
    clear hoH hb3 BX2 HRB HOB q39 HAB
    have hs1:IntKind.i64.wrap ((nH:Int)+(nB:Int))=(nH:Int)+(nB:Int):=by rw[IntKind.wrap_i64];omega
    by_cases hlong:2048<nH+nB
    ·have h4:decide ((2048:Int)<(nH:Int)+(nB:Int))=true:=by simpa using(by omega:(2048:Int)<(nH:Int)+(nB:Int))
     obtain⟨e1,e2⟩:=HLG.out (by rw[List.length_append,HNN.out.1,HNN.out.2];exact hlong)
     have HEE:=Jnv (And.intro e1 e2)
     clear e1 e2 hlong
     go_wp2_with fail
     go_ret2
     rw[HEE.out.1,HEE.out.2]
     exact Zp BX3.out.out
    ·have h4:decide ((2048:Int)<(nH:Int)+(nB:Int))=false:=by simpa using(by omega:¬(2048:Int)<(nH:Int)+(nB:Int))
     obtain⟨e1,e2⟩:=HGD.out (by rw[List.length_append,HNN.out.1,HNN.out.2];exact hlong)
     have HEE:=Jnv (And.intro e1 e2)
     clear e1 e2
     have HL:Hid (nH+nB≤2048):=Jnv (by omega)
     clear hlong hBl hHl
     go_wp2_with (at_builtin;refine JB.of ?_)
     refine JB.mk ?_
     refine JD _ rfl _ _ 22 rfl 5 z2.heap.size Tryz.underlying22 Bits.infoU8 oH nH cH _ rfl HOH.out oB nB cB B rfl HRB3.out (by have:=HL.out;omega) HS3.out ?_
     intro oa' cap' w' ho' hg' hd'
     have HB':=Jnv (Jnm (BX3.out.out) (HOH.out.mono HZ2.out) (JnA _) hg' (Nat.le_trans HZ2.out HS3.out))
     rw[←List.map_append] at ho'
     have HO':=Jnv ho'
     clear ho' hg' hd'
     go_wp2_with fail
     go_ret2
     rw[HEE.out.1,HEE.out.2]
     exact⟨oa',cap',by rw[List.length_append,HNN.out.1,HNN.out.2];rfl,by rw[List.length_append,HNN.out.1,HNN.out.2];exact HO'.out.mono HZ2.out,HB'.out⟩
theorem JjZ (S:Nat→Int)(t:Bool)(T:Nat→Int)(p a b f d:Int)(ho:Jha ⟨⟨true,S,t,T,p,a,b⟩,f,d⟩)(w:World):
 Calls Tryz.prog 15 #[.agg (spC true S t T p a b f d)] w (Jq w (spL ⟨⟨true,S,t,T,p,a,b⟩,f,d⟩) (Q1 ⟨⟨true,S,t,T,p,a,b⟩,f,d⟩)):=by
 have HK:Hid (Jl3 ⟨true,S,t,T,p,a,b⟩):=Jnv ho.k
 have HF:Hid (0≤f∧f<256):=Jnv ho.f
 have HOK:=Jnv ho
 have HR:Hid (∀w,Calls Tryz.prog 26 #[.agg (kyC true S t T p a b)] w (Jk w (.bool (JX ⟨true,S,t,T,p,a,b⟩)))):=Jnv fun w=>Ja0 true S t T p a b w
 have HC:Hid (∀w,Calls Tryz.prog 42 #[.agg #[.slice none 0 0,.int .u8 p]] w (Jk w (.bool (!JP p)))):=Jnv fun w=>JcE p w
 obtain⟨sp,hsp⟩:∃sp:Sp,sp=⟨⟨true,S,t,T,p,a,b⟩,f,d⟩:=⟨_,rfl⟩
 rw[←hsp]
 have HSP:=Jnv hsp
 obtain⟨r,hr⟩:∃r,JX ⟨true,S,t,T,p,a,b⟩=r:=⟨_,rfl⟩
 obtain⟨bh,hbh⟩:∃r,JP p=r:=⟨_,rfl⟩
 rw[hr] at HR
 rw[hbh] at HC
 have HBAD:Hid (Jb9 sp=(!r||((true&&bh)||((f != 0&&p != 6)||decide (d<0))))):=Jnv (by rw[hsp,←hr,←hbh];rfl)
 have hd0:=ho.n
 clear hr hbh ho hsp
 have hbx:=((Bx.start w).box (spC true S t T p a b f d) 47).box (kyC true S t T p a b) 30
 rw[show(w.alloc (.cells (spC true S t T p a b f d) 47)).heap.size=w.heap.size+1 by simp] at hbx
 have BX0:=Jnv hbx
 clear hbx
 unfold spC kyC at*
 go_enter Tryz.func15,Tryz.ntmps15
 go_wp2_with fail
 refine BX0.out.ret (HC.out _) ?_
 intro z0 hb0 BXA
 clear hb0 BX0
 have p37:Jc z0 (w.heap.size+1) 0 37=(JnR true t p (.int .u16 a) (.int .u16 b) S T:Array Value):=BXA.out.part 0 rfl rfl
 cases bh
 rotate_left
 ·obtain⟨e1,e2⟩:=Jhy (s:=sp) (by rw[HBAD.out];cases r<;>rfl)
  have HEE:=Jnv (And.intro e1 e2)
  clear e1 e2 hd0
  go_wp2_with fail
  refine BXA.out.ret (HR.out _) ?_
  intro z1 hb1 BX1
  clear hb1 BXA p37
  cases r
  all_goals
   go_wp2_with fail
   go_ret2
   rw[HEE.out.1,HEE.out.2]
   exact Zp BX1.out.out
 go_wp2_with fail
 refine BXA.out.ret (HR.out _) ?_
 intro z1 hb1 BX1
 clear hb1 BXA p37
 cases r
 ·obtain⟨e1,e2⟩:=Jhy (s:=sp) (by rw[HBAD.out];rfl)
  have HEE:=Jnv (And.intro e1 e2)
  clear e1 e2 hd0
  go_wp2_with fail
  go_ret2
  rw[HEE.out.1,HEE.out.2]
  exact Zp BX1.out.out
 have c37:z1.cell? ⟨w.heap.size,37,none⟩=some (.int .u8 f):=BX1.out.cell 1 37 rfl rfl
 have c38:z1.cell? ⟨w.heap.size,38,none⟩=some (.int .i64 d):=BX1.out.cell 1 38 rfl rfl
 have c34:z1.cell? ⟨w.heap.size+1,34,none⟩=some (.int .u8 p):=BX1.out.cell 0 34 rfl rfl
 have p39:Jc z1 w.heap.size 0 39=(JnU true t p (.int .u16 a) (.int .u16 b) f (.int .i64 d) S T:Array Value):=BX1.out.part 1 rfl rfl
 rcases(by cases h1:(f != 0)<;>cases h2:(p != 6)<;>simp:(f != 0)=false∨((f != 0)=true∧(p != 6)=false)∨((f != 0)=true∧(p != 6)=true)) with hq|⟨hq,hq2⟩|⟨hq,hq2⟩
 rotate_right
 ·obtain⟨e1,e2⟩:=Jhy (s:=sp) (by rw[HBAD.out,hq,hq2];simp)
  have HEE:=Jnv (And.intro e1 e2)
  clear e1 e2 hd0
  go_wp2_with fail
  go_ret2
  rw[HEE.out.1,HEE.out.2]
  exact Zp BX1.out.out
 all_goals
  by_cases hdn:d<0
  ·have h2:decide (d<0)=true:=by simpa using hdn
   obtain⟨e1,e2⟩:=Jhy (s:=sp) (by rw[HBAD.out,hq,h2];simp)
   have HEE:=Jnv (And.intro e1 e2)
   clear e1 e2 hd0 hdn
   go_wp2_with fail
   go_ret2
   rw[HEE.out.1,HEE.out.2]
   exact Zp BX1.out.out
  ·have h2:decide (d<0)=false:=by simpa using hdn
   have hg:Jb9 sp=false:=by rw[HBAD.out,h2];first|(rw[hq,hq2];rfl)|(rw[hq];rfl)
   by_cases hbig:2048<d
   ·have h3:decide (2048<d)=true:=by simpa using hbig
    obtain⟨e1,e2⟩:=Jlo (s:=sp) hg (by rw[HSP.out];exact hbig)
    have HEE:=Jnv (And.intro e1 e2)
    clear e1 e2 hd0 hdn hbig hg
    go_wp2_with fail
    go_ret2
    rw[HEE.out.1,HEE.out.2]
    exact Zp BX1.out.out
   ·have h3:decide (2048<d)=false:=by simpa using hbig
    have HG:=Jnv hg
    have HNB:Hid (¬2048<sp.n):=Jnv (by rw[HSP.out];exact hbig)
    obtain⟨dn,hdd⟩:=Int.eq_ofNat_of_zero_le (show 0≤d by omega)
    have hdl:dn≤2048:=by omega
    have HSG:Hid (∀w,Calls Tryz.prog 43 #[.agg #[.bool true,.int .u8 (S 0),.int .u8 (S 1),.int .u8 (S 2),.int .u8 (S 3),.int .u8 (S 4),.int .u8 (S 5),.int .u8 (S 6),.int .u8 (S 7),.int .u8 (S 8),.int .u8 (S 9),.int .u8 (S 10),.int .u8 (S 11),.int .u8 (S 12),.int .u8 (S 13),.int .u8 (S 14),.int .u8 (S 15),.bool t,.int .u8 (T 0),.int .u8 (T 1),.int .u8 (T 2),.int .u8 (T 3),.int .u8 (T 4),.int .u8 (T 5),.int .u8 (T 6),.int .u8 (T 7),.int .u8 (T 8),.int .u8 (T 9),.int .u8 (T 10),.int .u8 (T 11),.int .u8 (T 12),.int .u8 (T 13),.int .u8 (T 14),.int .u8 (T 15),.int .u8 p,.int .u16 a,.int .u16 b,.int .u8 f,.int .i64 d]] w (Jq w (Jx sp) 0)):=Jnv (fun w=>by
     have:=JgH true S t T p a b f dn hdl HK.out HF.out (by rw[←hdd,←HSP.out];exact hg) w
     rw[←hdd,←HSP.out] at this
     exact this)
    have hBl:(Jx sp).length≤2068:=by have:=Jeq sp;rw[HSP.out] at this⊢;simp only at this;omega
    have hBb:Jm (Jx sp):=Jaa (by rw[HSP.out];exact HOK.out)
    have HHD:Hid (∀w,Calls Tryz.prog 44 #[.agg #[.bool true,.int .u8 (S 0),.int .u8 (S 1),.int .u8 (S 2),.int .u8 (S 3),.int .u8 (S 4),.int .u8 (S 5),.int .u8 (S 6),.int .u8 (S 7),.int .u8 (S 8),.int .u8 (S 9),.int .u8 (S 10),.int .u8 (S 11),.int .u8 (S 12),.int .u8 (S 13),.int .u8 (S 14),.int .u8 (S 15),.bool t,.int .u8 (T 0),.int .u8 (T 1),.int .u8 (T 2),.int .u8 (T 3),.int .u8 (T 4),.int .u8 (T 5),.int .u8 (T 6),.int .u8 (T 7),.int .u8 (T 8),.int .u8 (T 9),.int .u8 (T 10),.int .u8 (T 11),.int .u8 (T 12),.int .u8 (T 13),.int .u8 (T 14),.int .u8 (T 15),.int .u8 p,.int .u16 a,.int .u16 b,.int .u8 f,.int .i64 d],.int .i64 ((Jx sp).length:Nat)] w (Jq w (Qv sp) 0)):=Jnv (fun w=>by
     have:=JiK S t T p a b f d (Jx sp).length (by omega) HK.out.S HK.out.T HK.out.p w
     have hh:Qv sp=_:=Jfy (by rw[HSP.out])
     rw[hh]
     rw[HSP.out] at this⊢
     exact this)
    have hHl:(Qv sp).length≤40:=by rw[Xo];split<;>omega
    have HLG:=Jnv (fun h=>JjX (s:=sp) HG.out HNB.out h)
    have HGD:=Jnv (fun h=>JjY (s:=sp) HG.out HNB.out h)
    generalize Jx sp=B at*
    generalize Qv sp=H at*
    have HBB:=Jnv hBb
    obtain⟨nB,hnB⟩:∃n,B.length=n:=⟨_,rfl⟩
    obtain⟨nH,hnH⟩:∃n,H.length=n:=⟨_,rfl⟩
    unfold Jq at HSG HHD
    rw[hnB] at HSG HHD hBl
    rw[hnH] at HHD hHl
    have HNN:Hid (B.length=nB∧H.length=nH):=Jnv ⟨hnB,hnH⟩
    clear hg hbig hdn hd0 hdl hdd hBb hnB hnH
    go_wp2_with fail
    refine Jnx (HSG.out _) ?_
    rintro e z2 ⟨oB,cB,rfl,hoB,hb2⟩
    have BX2:=Jnv (BX1.out.go hb2)
    have HOB:=Jnv hoB
    have HRB:=Jnv (hoB.reads HBB.out)
    have HAB:=Jnv (fun a (h:oB=some a)=>(hoB.lt h).2)
    clear hoB hb2 BX1 c34 c37 c38 p39
    have q39:Jc z2 w.heap.size 0 39=(JnU true t p (.int .u16 a) (.int .u16 b) f (.int .i64 d) S T:Array Value):=BX2.out.part 1 rfl rfl
    go_wp2_with fail
    refine Jnx (HHD.out _) ?_
    rintro e z3 ⟨oH,cH,rfl,hoH,hb3⟩
    have BX3:=Jnv (BX2.out.go hb3)
    have HOH:=Jnv hoH
    have HRB3:=Jnv (HRB.out.below hb3)
    have HS3:=Jnv hb3.size
    have HZ2:=Jnv BX2.out.out.size
    clear hoH hb3 BX2 HRB HOB q39 HAB
    have hs1:IntKind.i64.wrap ((nH:Int)+(nB:Int))=(nH:Int)+(nB:Int):=by rw[IntKind.wrap_i64];omega
    by_cases hlong:2048<nH+nB
    ·have h4:decide ((2048:Int)<(nH:Int)+(nB:Int))=true:=by simpa using(by omega:(2048:Int)<(nH:Int)+(nB:Int))
     obtain⟨e1,e2⟩:=HLG.out (by rw[List.length_append,HNN.out.1,HNN.out.2];exact hlong)
     have HEE:=Jnv (And.intro e1 e2)
     clear e1 e2 hlong
     go_wp2_with fail
     go_ret2
     rw[HEE.out.1,HEE.out.2]
     exact Zp BX3.out.out
    ·have h4:decide ((2048:Int)<(nH:Int)+(nB:Int))=false:=by simpa using(by omega:¬(2048:Int)<(nH:Int)+(nB:Int))
     obtain⟨e1,e2⟩:=HGD.out (by rw[List.length_append,HNN.out.1,HNN.out.2];exact hlong)
     have HEE:=Jnv (And.intro e1 e2)
     clear e1 e2
     have HL:Hid (nH+nB≤2048):=Jnv (by omega)
     clear hlong hBl hHl
     go_wp2_with (at_builtin;refine JB.of ?_)
     refine JB.mk ?_
     refine JD _ rfl _ _ 22 rfl 5 z2.heap.size Tryz.underlying22 Bits.infoU8 oH nH cH _ rfl HOH.out oB nB cB B rfl HRB3.out (by have:=HL.out;omega) HS3.out ?_
     intro oa' cap' w' ho' hg' hd'
     have HB':=Jnv (Jnm (BX3.out.out) (HOH.out.mono HZ2.out) (JnA _) hg' (Nat.le_trans HZ2.out HS3.out))
     rw[←List.map_append] at ho'
     have HO':=Jnv ho'
     clear ho' hg' hd'
     go_wp2_with fail
     go_ret2
     rw[HEE.out.1,HEE.out.2]
     exact⟨oa',cap',by rw[List.length_append,HNN.out.1,HNN.out.2];rfl,by rw[List.length_append,HNN.out.1,HNN.out.2];exact HO'.out.mono HZ2.out,HB'.out⟩
theorem JbX (s:Sp)(ho:Jha s)(w:World):Calls Tryz.prog 15 #[.agg (spV s)] w (Jq w (spL s) (Q1 s)):=by
 obtain⟨⟨s,S,t,T,p,a,b⟩,f,d⟩:=s
 cases s
 ·exact JiO S t T p a b f d ho w
 ·exact JjZ S t T p a b f d ho w
open Go.RowKit Bits
def Jbt (w:World)(b:Nat)(cs:Array Value)(err:Int):Ending→World→Prop:=fun e w'=>e=.returned (.int .i64 err)∧w'.heap[b]? =some (.cells cs 85 (0,0))∧Below b w w'∧∀i,i≠b→i<w.heap.size→w'.heap[i]? =w.heap[i]?
theorem JgI (b:Nat)(s6 d6:Bool)(S D:Nat→Int)(p sp dp ln fl:Int)(fr mo:Bool)(oa:Option Addr)(n cap:Nat)(w:World)(v err:Int)(hp:JU p=true)(hv:0≤v∧v<65536)
 (hx:w.heap[b]? =some (.cells (JnK s6 d6 p (.int .u16 sp) (.int .u16 dp) (.int .i64 ln) fl fr (.slice oa n cap) mo S D) 85 (0,0)))
 (hg:∀x:JC w,Calls Tryz.prog 81 #[.slice oa n cap,.int .i64 0,.int .i64 2] x.world (Jk x.world (.tuple #[.int .u64 v,.int .i64 err]))):
 Calls Tryz.prog 37 #[.pointer (some ⟨b,0,none⟩)] w (Jbt w b (JnK s6 d6 p (.int .u16 sp) (.int .u16 v) (.int .i64 ln) fl fr (.slice oa n cap) mo S D) err):=by
 have HX:=Jnv hx
 have HG:=Jnv (hg ⟨w,Jny _ _⟩)
 have hbl:b<w.heap.size:=(Jnw hx).1
 have hc40:w.cell? ⟨b,40,none⟩=some (.slice oa n cap):=cell_of_row _ _ 40 _ _ (0,0) hx
 have HI:Hid (∀w',Calls Tryz.prog 36 #[p] w' (Jk w' (.bool true))):=Jnv (fun w'=>by rw[←hp];exact QJ p w')
 clear hx hg hp
 go_enter Tryz.func37,Tryz.ntmps37
 go_wp2_with fail
 refine Jnx HG.out ?_
 rintro e w1 ⟨rfl,hb⟩
 have HX1:=Jnv ((hb.block b hbl).trans HX.out)
 have HB1:=Jnv hb
 have hc34:w1.cell? ⟨b,34,none⟩=some (.int .u8 p):=cell_of_row _ _ 34 _ _ (0,0) HX1.out
 clear hb hc40
 go_wp2_with fail
 refine Jnx (HI.out w1) ?_
 rintro e w2 ⟨rfl,hb⟩
 have HX2:=Jnv ((hb.block b (Jnw HX1.out).1).trans HX1.out)
 have HB2:=Jnv (Jno HB1.out hb)
 have hc36:w2.cell? ⟨b,36,none⟩=some (.int .u16 dp):=cell_of_row _ _ 36 _ _ (0,0) HX2.out
 have hf36:=frozen_of_row _ _ 36 _ _ HX2.out
 clear hb hc34
 go_wp2_with fail
 go_ret
 exact⟨rfl,(heap_setCell_same _ b 36 (JnK s6 d6 p (.int .u16 sp) (.int .u16 dp) (.int .i64 ln) fl fr (.slice oa n cap) mo S D) _ _ HX2.out).trans rfl,(HB2.out.mono (Nat.le_of_lt hbl)).setCell (JnA _) _,fun i hi hl=>(Below.heap_setCell _ _ _ _ hi).trans (HB2.out.block i hl)⟩
open Go.RowKit Bits
theorem Jk0 (b:Nat)(s6 d6:Bool)(S D:Nat→Int)(p sp dp ln fl:Int)(fr mo:Bool)(oa:Option Addr)(n cap:Nat)(w:World)(v e0 u err:Int)(hp:JU p=false)(h6:p≠6)(hu:0≤u∧u<65536)(hv:0≤v∧v<65536)
 (hx:w.heap[b]? =some (.cells (JnK s6 d6 p (.int .u16 sp) (.int .u16 dp) (.int .i64 ln) fl fr (.slice oa n cap) mo S D) 85 (0,0)))
 (hg:∀x:JC w,Calls Tryz.prog 81 #[.slice oa n cap,.int .i64 0,.int .i64 2] x.world (Jk x.world (.tuple #[.int .u64 v,.int .i64 e0])))
 (hg2:∀x:JC w,Calls Tryz.prog 81 #[.slice oa n cap,.int .i64 2,.int .i64 2] x.world (Jk x.world (.tuple #[.int .u64 u,.int .i64 err]))):
 Calls Tryz.prog 37 #[.pointer (some ⟨b,0,none⟩)] w (Jbt w b (JnK s6 d6 p (.int .u16 v) (.int .u16 u) (.int .i64 ln) fl fr (.slice oa n cap) mo S D) err):=by
 have HX:=Jnv hx
 have HG:=Jnv (hg ⟨w,Jny _ _⟩)
 have hbl:b<w.heap.size:=(Jnw hx).1
 have hc40:w.cell? ⟨b,40,none⟩=some (.slice oa n cap):=cell_of_row _ _ 40 _ _ (0,0) hx
 have HI:Hid (∀w',Calls Tryz.prog 36 #[p] w' (Jk w' (.bool false))):=Jnv (fun w'=>by rw[←hp];exact QJ p w')
 have HG2:=Jnv hg2
 have h6b:(p==6)=false:=by simpa using h6
 have h6d:decide (p=6)=false:=by simpa using h6
 clear hx hg hp hg2
 go_enter Tryz.func37,Tryz.ntmps37
 go_wp2_with fail
 refine Jnx HG.out ?_
 rintro e w1 ⟨rfl,hb⟩
 have HX1:=Jnv ((hb.block b hbl).trans HX.out)
 have HB1:=Jnv hb
 have hc34:w1.cell? ⟨b,34,none⟩=some (.int .u8 p):=cell_of_row _ _ 34 _ _ (0,0) HX1.out
 clear hb hc40
 go_wp2_with fail
 refine Jnx (HI.out w1) ?_
 rintro e w2 ⟨rfl,hb⟩
 have HX2:=Jnv ((hb.block b (Jnw HX1.out).1).trans HX1.out)
 have HB2:=Jnv (Jno HB1.out hb)
 have hc40:w2.cell? ⟨b,40,none⟩=some (.slice oa n cap):=cell_of_row _ _ 40 _ _ (0,0) HX2.out
 clear hb hc34
 go_wp2_with fail
 refine Jnx (HG2.out ⟨w2,HB2.out⟩) ?_
 rintro e w3 ⟨rfl,hb⟩
 have HX3:=Jnv ((hb.block b (Jnw HX2.out).1).trans HX2.out)
 have HB3:=Jnv (Jno HB2.out hb)
 have hc35:w3.cell? ⟨b,35,none⟩=some (.int .u16 sp):=cell_of_row _ _ 35 _ _ (0,0) HX3.out
 have hc36:w3.cell? ⟨b,36,none⟩=some (.int .u16 dp):=cell_of_row _ _ 36 _ _ (0,0) HX3.out
 have hf35:=frozen_of_row _ _ 35 _ _ HX3.out
 have hf36:=frozen_of_row _ _ 36 _ _ HX3.out
 have hc34:w3.cell? ⟨b,34,none⟩=some (.int .u8 p):=cell_of_row _ _ 34 _ _ (0,0) HX3.out
 clear hb hc40
 go_wp2_with fail
 go_ret
 have q1:(w3.setCell ⟨b,35,none⟩ (.int .u16 v)).heap[b]? =some (.cells (JnK s6 d6 p (.int .u16 v) (.int .u16 dp) (.int .i64 ln) fl fr (.slice oa n cap) mo S D) 85 (0,0)):=(heap_setCell_same _ b 35 (JnK s6 d6 p (.int .u16 sp) (.int .u16 dp) (.int .i64 ln) fl fr (.slice oa n cap) mo S D) _ _ HX3.out).trans rfl
 exact⟨rfl,(heap_setCell_same _ b 36 (JnK s6 d6 p (.int .u16 v) (.int .u16 dp) (.int .i64 ln) fl fr (.slice oa n cap) mo S D) _ _ q1).trans rfl,((HB3.out.mono (Nat.le_of_lt hbl)).setCell (JnA _) _).setCell (JnA _) _,fun i hi hl=>(Below.heap_setCell _ _ _ _ hi).trans ((Below.heap_setCell _ _ _ _ hi).trans (HB3.out.block i hl))⟩
open Go.RowKit Bits
theorem Jd3 (b:Nat)(s6 d6:Bool)(S D:Nat→Int)(sp dp ln fl:Int)(fr mo:Bool)(oa:Option Addr)(n cap:Nat)(w:World)(v e0 u err:Int)(h14:n<14)(hu:0≤u∧u<65536)(hv:0≤v∧v<65536)
 (hx:w.heap[b]? =some (.cells (JnK s6 d6 (6:Int) (.int .u16 sp) (.int .u16 dp) (.int .i64 ln) fl fr (.slice oa n cap) mo S D) 85 (0,0)))
 (hg:∀x:JC w,Calls Tryz.prog 81 #[.slice oa n cap,.int .i64 0,.int .i64 2] x.world (Jk x.world (.tuple #[.int .u64 v,.int .i64 e0])))
 (hg2:∀x:JC w,Calls Tryz.prog 81 #[.slice oa n cap,.int .i64 2,.int .i64 2] x.world (Jk x.world (.tuple #[.int .u64 u,.int .i64 err]))):
 Calls Tryz.prog 37 #[.pointer (some ⟨b,0,none⟩)] w (Jbt w b (JnK s6 d6 (6:Int) (.int .u16 v) (.int .u16 u) (.int .i64 ln) fl fr (.slice oa n cap) mo S D) err):=by
 have HX:=Jnv hx
 have HG:=Jnv (hg ⟨w,Jny _ _⟩)
 have hbl:b<w.heap.size:=(Jnw hx).1
 have hc40:w.cell? ⟨b,40,none⟩=some (.slice oa n cap):=cell_of_row _ _ 40 _ _ (0,0) hx
 have HI:Hid (∀w',Calls Tryz.prog 36 #[(6:Int)] w' (Jk w' (.bool false))):=Jnv (fun w'=>QJ 6 w')
 have HG2:=Jnv hg2
 have hn14:decide ((n:Int)≥14)=false:=by simp;omega
 clear hx hg hg2
 go_enter Tryz.func37,Tryz.ntmps37
 go_wp2_with fail
 refine Jnx HG.out ?_
 rintro e w1 ⟨rfl,hb⟩
 have HX1:=Jnv ((hb.block b hbl).trans HX.out)
 have HB1:=Jnv hb
 have hc34:w1.cell? ⟨b,34,none⟩=some (.int .u8 6):=cell_of_row _ _ 34 _ _ (0,0) HX1.out
 clear hb hc40
 go_wp2_with fail
 refine Jnx (HI.out w1) ?_
 rintro e w2 ⟨rfl,hb⟩
 have HX2:=Jnv ((hb.block b (Jnw HX1.out).1).trans HX1.out)
 have HB2:=Jnv (Jno HB1.out hb)
 have hc40:w2.cell? ⟨b,40,none⟩=some (.slice oa n cap):=cell_of_row _ _ 40 _ _ (0,0) HX2.out
 clear hb hc34
 go_wp2_with fail
 refine Jnx (HG2.out ⟨w2,HB2.out⟩) ?_
 rintro e w3 ⟨rfl,hb⟩
 have HX3:=Jnv ((hb.block b (Jnw HX2.out).1).trans HX2.out)
 have HB3:=Jnv (Jno HB2.out hb)
 have hc35:w3.cell? ⟨b,35,none⟩=some (.int .u16 sp):=cell_of_row _ _ 35 _ _ (0,0) HX3.out
 have hc36:w3.cell? ⟨b,36,none⟩=some (.int .u16 dp):=cell_of_row _ _ 36 _ _ (0,0) HX3.out
 have hf35:=frozen_of_row _ _ 35 _ _ HX3.out
 have hf36:=frozen_of_row _ _ 36 _ _ HX3.out
 have hc40:w3.cell? ⟨b,40,none⟩=some (.slice oa n cap):=cell_of_row _ _ 40 _ _ (0,0) HX3.out
 have hc34:w3.cell? ⟨b,34,none⟩=some (.int .u8 6):=cell_of_row _ _ 34 _ _ (0,0) HX3.out
 clear hb
 go_wp2_with fail
 go_ret
 have q1:(w3.setCell ⟨b,35,none⟩ (.int .u16 v)).heap[b]? =some (.cells (JnK s6 d6 (6:Int) (.int .u16 v) (.int .u16 dp) (.int .i64 ln) fl fr (.slice oa n cap) mo S D) 85 (0,0)):=(heap_setCell_same _ b 35 (JnK s6 d6 (6:Int) (.int .u16 sp) (.int .u16 dp) (.int .i64 ln) fl fr (.slice oa n cap) mo S D) _ _ HX3.out).trans rfl
 exact⟨rfl,(heap_setCell_same _ b 36 (JnK s6 d6 (6:Int) (.int .u16 v) (.int .u16 dp) (.int .i64 ln) fl fr (.slice oa n cap) mo S D) _ _ q1).trans rfl,((HB3.out.mono (Nat.le_of_lt hbl)).setCell (JnA _) _).setCell (JnA _) _,fun i hi hl=>(Below.heap_setCell _ _ _ _ hi).trans ((Below.heap_setCell _ _ _ _ hi).trans (HB3.out.block i hl))⟩
open Go.RowKit Bits
theorem Jfz (b:Nat)(s6 d6:Bool)(S D:Nat→Int)(sp dp ln fl:Int)(fr mo:Bool)(g off n cap:Nat)(w:World)(v e0 u err:Int)(h14:14≤n)(fb:Int)(hfb:w.cell? ⟨g,off+13,none⟩=some (.int .u8 fb))(hgb:g≠b)(hgl:g<w.heap.size)(hu:0≤u∧u<65536)(hv:0≤v∧v<65536)
 (hx:w.heap[b]? =some (.cells (JnK s6 d6 (6:Int) (.int .u16 sp) (.int .u16 dp) (.int .i64 ln) fl fr (.slice (some ⟨g,off,none⟩) n cap) mo S D) 85 (0,0)))
 (hg:∀x:JC w,Calls Tryz.prog 81 #[.slice (some ⟨g,off,none⟩) n cap,.int .i64 0,.int .i64 2] x.world (Jk x.world (.tuple #[.int .u64 v,.int .i64 e0])))
 (hg2:∀x:JC w,Calls Tryz.prog 81 #[.slice (some ⟨g,off,none⟩) n cap,.int .i64 2,.int .i64 2] x.world (Jk x.world (.tuple #[.int .u64 u,.int .i64 err]))):
 Calls Tryz.prog 37 #[.pointer (some ⟨b,0,none⟩)] w (Jbt w b (JnK s6 d6 (6:Int) (.int .u16 v) (.int .u16 u) (.int .i64 ln) fb fr (.slice (some ⟨g,off,none⟩) n cap) mo S D) err):=by
 have HX:=Jnv hx
 have HG:=Jnv (hg ⟨w,Jny _ _⟩)
 have hbl:b<w.heap.size:=(Jnw hx).1
 have hc40:w.cell? ⟨b,40,none⟩=some (.slice (some ⟨g,off,none⟩) n cap):=cell_of_row _ _ 40 _ _ (0,0) hx
 have HI:Hid (∀w',Calls Tryz.prog 36 #[(6:Int)] w' (Jk w' (.bool false))):=Jnv (fun w'=>QJ 6 w')
 have HG2:=Jnv hg2
 have HFB:=Jnv hfb
 have hn14:decide ((n:Int)≥14)=true:=by simp;omega
 clear hx hg hg2 hfb
 go_enter Tryz.func37,Tryz.ntmps37
 go_wp2_with fail
 refine Jnx HG.out ?_
 rintro e w1 ⟨rfl,hb⟩
 have HX1:=Jnv ((hb.block b hbl).trans HX.out)
 have HB1:=Jnv hb
 have hc34:w1.cell? ⟨b,34,none⟩=some (.int .u8 6):=cell_of_row _ _ 34 _ _ (0,0) HX1.out
 clear hb hc40
 go_wp2_with fail
 refine Jnx (HI.out w1) ?_
 rintro e w2 ⟨rfl,hb⟩
 have HX2:=Jnv ((hb.block b (Jnw HX1.out).1).trans HX1.out)
 have HB2:=Jnv (Jno HB1.out hb)
 have hc40:w2.cell? ⟨b,40,none⟩=some (.slice (some ⟨g,off,none⟩) n cap):=cell_of_row _ _ 40 _ _ (0,0) HX2.out
 clear hb hc34
 go_wp2_with fail
 refine Jnx (HG2.out ⟨w2,HB2.out⟩) ?_
 rintro e w3 ⟨rfl,hb⟩
 have HX3:=Jnv ((hb.block b (Jnw HX2.out).1).trans HX2.out)
 have HB3:=Jnv (Jno HB2.out hb)
 have hc35:w3.cell? ⟨b,35,none⟩=some (.int .u16 sp):=cell_of_row _ _ 35 _ _ (0,0) HX3.out
 have hc36:w3.cell? ⟨b,36,none⟩=some (.int .u16 dp):=cell_of_row _ _ 36 _ _ (0,0) HX3.out
 have hf35:=frozen_of_row _ _ 35 _ _ HX3.out
 have hf36:=frozen_of_row _ _ 36 _ _ HX3.out
 have hc40:w3.cell? ⟨b,40,none⟩=some (.slice (some ⟨g,off,none⟩) n cap):=cell_of_row _ _ 40 _ _ (0,0) HX3.out
 have hc34:w3.cell? ⟨b,34,none⟩=some (.int .u8 6):=cell_of_row _ _ 34 _ _ (0,0) HX3.out
 have hc38:w3.cell? ⟨b,38,none⟩=some (.int .u8 fl):=cell_of_row _ _ 38 _ _ (0,0) HX3.out
 have hf38:=frozen_of_row _ _ 38 _ _ HX3.out
 have hcg:w3.cell? ⟨g,off+13,none⟩=some (.int .u8 fb):=(Jg HB3.out hgl _ rfl).trans HFB.out
 clear hb
 go_wp2_with fail
 go_ret
 have q1:(w3.setCell ⟨b,35,none⟩ (.int .u16 v)).heap[b]? =some (.cells (JnK s6 d6 (6:Int) (.int .u16 v) (.int .u16 dp) (.int .i64 ln) fl fr (.slice (some ⟨g,off,none⟩) n cap) mo S D) 85 (0,0)):=(heap_setCell_same _ b 35 (JnK s6 d6 (6:Int) (.int .u16 sp) (.int .u16 dp) (.int .i64 ln) fl fr (.slice (some ⟨g,off,none⟩) n cap) mo S D) _ _ HX3.out).trans rfl
 have q2:((w3.setCell ⟨b,35,none⟩ (.int .u16 v)).setCell ⟨b,36,none⟩ (.int .u16 u)).heap[b]? =some (.cells (JnK s6 d6 (6:Int) (.int .u16 v) (.int .u16 u) (.int .i64 ln) fl fr (.slice (some ⟨g,off,none⟩) n cap) mo S D) 85 (0,0)):=(heap_setCell_same _ b 36 (JnK s6 d6 (6:Int) (.int .u16 v) (.int .u16 dp) (.int .i64 ln) fl fr (.slice (some ⟨g,off,none⟩) n cap) mo S D) _ _ q1).trans rfl
 exact⟨rfl,(heap_setCell_same _ b 38 (JnK s6 d6 (6:Int) (.int .u16 v) (.int .u16 u) (.int .i64 ln) fl fr (.slice (some ⟨g,off,none⟩) n cap) mo S D) _ _ q2).trans rfl,(((HB3.out.mono (Nat.le_of_lt hbl)).setCell (JnA _) _).setCell (JnA _) _).setCell (JnA _) _,fun i hi hl=>(Below.heap_setCell _ _ _ _ hi).trans ((Below.heap_setCell _ _ _ _ hi).trans ((Below.heap_setCell _ _ _ _ hi).trans (HB3.out.block i hl)))⟩
open Go.RowKit Bits
theorem Jj0 {p:Int}{l:List Int}(hl:Jm l):(0≤(Ql p l).type∧(Ql p l).type<256)∧(0≤(Ql p l).code∧(Ql p l).code<256):=by
 have h0:=Qr hl 0
 have h1:=Qr hl 1
 unfold Ql Jmf JmV
 split
 ·split
  ·exact⟨⟨Int.le_refl 0,(show(0:Int)<256 by decide)⟩,Int.le_refl 0,(show(0:Int)<256 by decide)⟩
  ·split
   ·exact⟨⟨Int.le_refl 0,(show(0:Int)<256 by decide)⟩,Int.le_refl 0,(show(0:Int)<256 by decide)⟩
   ·exact⟨h0,h1⟩
 ·exact⟨⟨Int.le_refl 0,(show(0:Int)<256 by decide)⟩,Int.le_refl 0,(show(0:Int)<256 by decide)⟩
def OB (z:World)(b:Nat)(cs:Array Value)(t:TypeId)(w:World):Prop:=w.heap[b]? =some (.cells cs t (0,0))∧Below b z w∧∀i,i≠b→i<z.heap.size→w.heap[i]? =z.heap[i]?
theorem OB.set {z w:World}{b:Nat}{cs:Array Value}{t:TypeId}(h:OB z b cs t w)(k:Nat)(v:Value):OB z b (cs.setIfInBounds k v) t (w.setCell ⟨b,k,none⟩ v):=
 ⟨heap_setCell_same _ b k cs t v h.1,h.2.1.setCell (JnA _) _,fun i hi hl=>(Below.heap_setCell _ _ _ _ hi).trans (h.2.2 i hi hl)⟩
theorem OB.later {z w w':World}{b:Nat}{cs:Array Value}{t:TypeId}(h:OB z b cs t w)(hb:Below w.heap.size w w'):OB z b cs t w':=by
 have hl:b<w.heap.size:=(Jnw h.1).1
 exact⟨(hb.block b hl).trans h.1,h.2.1.trans (hb.mono (Nat.le_of_lt hl)),fun i hi hz=>(hb.block i (Jnz hz h.2.1.size)).trans (h.2.2 i hi hz)⟩
theorem Jj1 (x y:Int)(h0:0≤x)(h1:x<256)(h2:0≤y)(h3:y<256):bits BinOp.or IntKind.u16 (x*256) y=x*256+y:=by
 obtain⟨a,rfl⟩:=Int.eq_ofNat_of_zero_le h0
 obtain⟨b,rfl⟩:=Int.eq_ofNat_of_zero_le h2
 rw[show((a:Int)*256)=((a*256:Nat):Int) by omega,u16_or_nat (a*256) b (by omega) (by omega),Ji6 b a 8 256 (by decide) (by omega)]
 omega
theorem JiP (b:Nat)(s6 d6:Bool)(S D:Nat→Int)(p sp dp ln fl:Int)(fr mo:Bool)(oa:Option Addr)(n cap:Nat)(l:List Int)(w:World)(hp:p=6∨p=17∨p=1∨p=58)(hr:Jj w oa n cap l)(hn:n≤100000)
 (hx:w.heap[b]? =some (.cells (JnK s6 d6 p (.int .u16 sp) (.int .u16 dp) (.int .i64 ln) fl fr (.slice oa n cap) mo S D) 85 (0,0))):
 Calls Tryz.prog 38 #[.pointer (some ⟨b,0,none⟩)] w (Jbt w b (JnK s6 d6 p (.int .u16 (Jw p l).src) (.int .u16 (Jw p l).dst) (.int .i64 ln) (.int .u8 (Jw p l).flags) fr (.slice oa n cap) mo S D) (Ja2 p l)):=by
 have HX:=Jnv hx
 have HT:=Jnv (fun w' (h:Below w.heap.size w w')=>JiE p hp oa n cap l w' (hr.below h) hn)
 have hbl:b<w.heap.size:=(Jnw hx).1
 have hc34:w.cell? ⟨b,34,none⟩=some (.int .u8 p):=cell_of_row _ _ 34 _ _ (0,0) hx
 have hc40:w.cell? ⟨b,40,none⟩=some (.slice oa n cap):=cell_of_row _ _ 40 _ _ (0,0) hx
 have HI:Hid (∀w',Calls Tryz.prog 36 #[p] w' (Jk w' (.bool (JU p)))):=Jnv (fun w'=>QJ p w')
 have HBD:=Jnv (Jj0 (p:=p) hr.byte)
 have HU:Hid (Jw p l=⟨Ja2 p l,(Ql p l).src,if JU p then (Ql p l).type*256+(Ql p l).code else (Ql p l).dst,(Ql p l).flags⟩):=Jnv rfl
 rw[HU.out]
 generalize hdst:(if JU p then (Ql p l).type*256+(Ql p l).code else (Ql p l).dst)=dst
 have HDS:=Jnv hdst
 clear hx hr hp HU hdst
 generalize JU p=bi at*
 generalize Ja2 p l=er at*
 unfold JcD at HT
 generalize Ql p l=t at*
 obtain⟨q0,q1,q2,q3,q4,q5,q6,q7,q8,q9,q10,q11⟩:=t
 simp only at HT HBD HDS⊢
 generalize q8.length=nO at*
 generalize q11.length=nD at*
 go_enter Tryz.func38,Tryz.ntmps38
 go_wp2_with fail
 refine JG [.h,.h,.h,.h,.h,.h,.h,.h,.h,.h] [] (fun _ _=>True) [] [(.w,10),(.q,11),(.q,12),(.q,13)] [(.w,15),(.q,16)] 14 (.cells Qo 149) (by kernel_rfl) (by kernel_rfl) rfl rfl ⟨fun _=>rfl,fun _ _=>by kernel_rfl⟩ (by kernel_rfl) (by kernel_rfl) ?_
 apply Exists.intro
 refine⟨fun wx hbx=>?_,by simp,?_⟩
 ·have hcx:wx.cell? ⟨b,34,none⟩=some (.int .u8 p):=(Jg hbx hbl _ rfl).trans hc34
  have hcx40:wx.cell? ⟨b,40,none⟩=some (.slice oa n cap):=(Jg hbx hbl _ rfl).trans hc40
  have hbx2:b<wx.heap.size:=Jnz hbl hbx.size
  simp only[Ju]
  repeat go_big_quiet_step (fail)
  exact wpQuiet_nil rfl
 simp only[JY,List.getElem?_cons_succ,List.getElem?_cons_zero]
 refine⟨fun v fl w2=>(∃oO cO oD cD,v=.tuple #[.agg #[.int .u8 q0,.int .u16 q1,.int .u16 q2,.int .u32 q3,.int .u32 q4,.int .u8 q5,.int .u16 q6,.int .u16 q7,.slice oO nO cO,.int .u8 q9,.int .u8 q10,.slice oD nD cD],.int .i64 er])∧Below w.heap.size w w2∧∀b',fl=some b'→w.heap.size≤b'∧w2.heap[b']? =some (.cells Qo 149 (0,0)),?_,fun _ _=>Xf,?_,?_⟩
 ·rintro fl-
  refine⟨rfl,fun w' hw'=>.inr ⟨77,#[p,.slice oa n cap],by kernel_rfl,?_⟩⟩
  obtain⟨⟨x,rfl⟩,hfb⟩:=hw'
  refine(HT.out x.world x.below).mono ?_
  rintro e w2 ⟨⟨oO,cO,oD,cD,rfl⟩,hb2⟩
  refine⟨_,rfl,⟨oO,cO,oD,cD,rfl⟩,Jno x.below hb2,fun b' hb'=>⟨(hfb b' hb').1,?_⟩⟩
  have:=(hfb b' hb').2
  exact(hb2.block b' (Jnw this).1).trans this
 ·rintro-v w2 ⟨h1,h3,-⟩
  exact⟨h1,Below.all h3 _,fun b' hb'=>by cases hb';exact⟨h3.size,heap_alloc_new _ _⟩⟩
 rintro v ⟨fl0,w20,⟨oO,cO,oD,cD,rfl⟩,-⟩
 refine⟨.tuple #[.agg #[.int .u8 q0,.int .u16 q1,.int .u16 q2,.int .u32 q3,.int .u32 q4,.int .u8 q5,.int .u16 q6,.int .u16 q7,.slice oO nO cO,.int .u8 q9,.int .u8 q10,.slice oD nD cD],.int .i64 er],⟨rfl,fun _=>by kernel_rfl⟩,?_⟩
 refine⟨.agg (JnT q0 (.int .u16 q1) (.int .u16 q2) (.int .u32 q3) (.int .u32 q4) q5 (.int .u16 q6) (.int .u16 q7) (.slice oO nO cO) q9 q10 (.slice oD nD cD)),⟨rfl,fun _=>by kernel_rfl⟩,?_⟩
 refine⟨.int .i64 er,⟨rfl,fun _=>by kernel_rfl⟩,?_⟩
 intro bs
 refine⟨fun v fl w2=>v=undef∧Below w.heap.size w w2∧w.heap.size≤bs∧w2.heap[bs]? =some (.cells (JnT q0 (.int .u16 q1) (.int .u16 q2) (.int .u32 q3) (.int .u32 q4) q5 (.int .u16 q6) (.int .u16 q7) (.slice oO nO cO) q9 q10 (.slice oD nD cD)) 149 (0,0)),?_,fun _ _=>Xf,(fun h=>by cases h),?_⟩
 ·rintro fl rfl
  refine Jv.skip rfl ?_
  rintro w' ⟨⟨oO',cO',oD',cD',he⟩,hb1,hb2⟩
  obtain⟨hbge,hbx⟩:=hb2 bs rfl
  exact⟨_,QX _ w' bs (JnT q0 (.int .u16 q1) (.int .u16 q2) (.int .u32 q3) (.int .u32 q4) q5 (.int .u16 q6) (.int .u16 q7) (.slice oO nO cO) q9 q10 (.slice oD nD cD)) (by kernel_rfl) (by kernel_rfl) (by rw[Jd _ _ _ _ _ hbx];rfl) rfl rfl,hb1.trans (Jf _ hbge),hbge,Jh hbx⟩
 rintro v ⟨fl2,w22,rfl,-⟩
 refine⟨.int .i64 er,⟨rfl,fun _=>by kernel_rfl⟩,?_⟩
 rintro zz ⟨-,hzz,hbge,hsz⟩
 have HZ:=Jnv hzz
 have HSZ:=Jnv hsz
 have HXZ:=Jnv ((hzz.block b hbl).trans HX.out)
 have hbz:b<zz.heap.size:=Jnz hbl hzz.size
 have hsz':bs<zz.heap.size:=(Jnw hsz).1
 have hne:bs≠b:=by omega
 have s1:=cell_of_row _ _ 1 _ _ (0,0) hsz
 have s2:=cell_of_row _ _ 2 _ _ (0,0) hsz
 have s5:=cell_of_row _ _ 5 _ _ (0,0) hsz
 clear hzz hsz hc34 hc40 HX HT fl0 fl2 w20 w22
 unfold QQ
 simp only[Act.put,List.setIfInBounds_toArray,List.set_cons_succ,List.set_cons_zero]
 go_wp2_with fail
 refine J0 [.h,.h,.h,.h,.h,.h,.h,.h,.h,.h,.h,.h,.h] [(1,1,0),(5,1,0),(6,1,0),(2,2,0),(7,2,0),(8,2,0)] (fun _ w'=>w'.cell? ⟨bs,2,none⟩=some (.int .u16 q2)∧w'.cell? ⟨bs,5,none⟩=some (.int .u8 q5)) [2] [(.w,13),(.q,14),(.q,15),(.q,16),(.q,17),(.w,18),(.q,19),(.q,20),(.q,21),(.w,22)] (by kernel_rfl) (by kernel_rfl) (by kernel_rfl) (by kernel_rfl) ?_
 apply Exists.intro
 refine⟨fun wx hbx=>?_,?_,?_⟩
 ·have c1:wx.cell? ⟨bs,1,none⟩=some (.int .u16 q1):=(Jg hbx hsz' _ rfl).trans s1
  have c2:wx.cell? ⟨bs,2,none⟩=some (.int .u16 q2):=(Jg hbx hsz' _ rfl).trans s2
  have c5:wx.cell? ⟨bs,5,none⟩=some (.int .u8 q5):=(Jg hbx hsz' _ rfl).trans s5
  have hbx2:bs<wx.heap.size:=Jnz hsz' hbx.size
  simp only[Ju]
  repeat go_big_quiet_step (fail)
  exact wpQuiet_nil rfl
 ·intro q hq oi hoi
  simp only[List.mem_cons,List.not_mem_nil,or_false] at hq
  rcases hq with rfl|rfl|rfl|rfl|rfl|rfl
  ·cases hoi;exact⟨_,rfl,rfl,fun w2 hw=>by kernel_rfl⟩
  ·cases hoi;exact⟨_,rfl,rfl,fun w2 hw=>by kernel_rfl⟩
  ·cases hoi;exact⟨_,rfl,rfl,fun w2 hw=>by simp[execOp,go_sem,hw.1]⟩
  ·cases hoi;exact⟨_,rfl,rfl,fun w2 hw=>by kernel_rfl⟩
  ·cases hoi;exact⟨_,rfl,rfl,fun w2 hw=>by kernel_rfl⟩
  ·cases hoi;exact⟨_,rfl,rfl,fun w2 hw=>by simp[execOp,go_sem,hw.2]⟩
 simp only[JY,List.getElem?_cons_succ,List.getElem?_cons_zero]
 refine⟨fun v fq w2=>v=undef∧OB zz b (JnK s6 d6 p (.int .u16 q1) (.int .u16 dp) (.int .i64 ln) fl fr (.slice oa n cap) mo S D) 85 w2,?_,?_,(fun h=>by cases h),?_⟩
 ·rintro fl rfl
  refine Jv.skip rfl ?_
  rintro w' ⟨⟨x,rfl⟩,-⟩
  have hob:OB zz b (JnK s6 d6 p (.int .u16 sp) (.int .u16 dp) (.int .i64 ln) fl fr (.slice oa n cap) mo S D) 85 x.world:=OB.later ⟨HXZ.out,Jny _ _,fun _ _ _=>rfl⟩ x.below
  have g1:=cell_of_row _ _ 35 _ _ (0,0) hob.1
  have g2:=frozen_of_row _ _ 35 _ _ hob.1
  refine⟨_,?_,hob.set 35 (.int .u16 q1)⟩
  simp[execOp,go_sem,g1,g2]
 ·rintro v fq g-w2 ⟨-,hob⟩
  have:=(hob.2.2 bs hne hsz')
  exact⟨(World.cell?_of_block (a:=⟨bs,2,none⟩) this).trans s2,(World.cell?_of_block (a:=⟨bs,5,none⟩) this).trans s5⟩
 rintro v ⟨gl0,w30,rfl,-⟩
 refine⟨.pointer (some ⟨b,0,none⟩),⟨rfl,fun _=>by kernel_rfl⟩,?_⟩
 refine⟨.pointer (some ⟨b,0,none⟩),⟨rfl,fun _=>by kernel_rfl⟩,?_⟩
 refine⟨.pointer (some ⟨b,0,none⟩),⟨rfl,fun _=>by kernel_rfl⟩,?_⟩
 refine⟨.pointer (some ⟨b,36,none⟩),⟨rfl,fun _=>by kernel_rfl⟩,?_⟩
 refine⟨fun v fq w2=>v=undef∧OB zz b (JnK s6 d6 p (.int .u16 q1) (.int .u16 q2) (.int .i64 ln) fl fr (.slice oa n cap) mo S D) 85 w2,?_,?_,(fun h=>by cases h),?_⟩
 ·rintro fl rfl
  refine Jv.skip rfl ?_
  rintro w' ⟨-,hob⟩
  have g1:=cell_of_row _ _ 36 _ _ (0,0) hob.1
  have g2:=frozen_of_row _ _ 36 _ _ hob.1
  refine⟨_,?_,hob.set 36 (.int .u16 q2)⟩
  simp[execOp,go_sem,g1,g2]
 ·rintro v fq g-w2 ⟨-,hob⟩
  have:=(hob.2.2 bs hne hsz')
  exact⟨(World.cell?_of_block (a:=⟨bs,2,none⟩) this).trans s2,(World.cell?_of_block (a:=⟨bs,5,none⟩) this).trans s5⟩
 rintro v ⟨gl1,w31,rfl,-⟩
 refine⟨.pointer (some ⟨b,0,none⟩),⟨rfl,fun _=>by kernel_rfl⟩,?_⟩
 refine⟨.pointer (some ⟨b,0,none⟩),⟨rfl,fun _=>by kernel_rfl⟩,?_⟩
 refine⟨.pointer (some ⟨b,38,none⟩),⟨rfl,fun _=>by kernel_rfl⟩,?_⟩
 refine⟨fun v fq w2=>v=undef∧OB zz b (JnK s6 d6 p (.int .u16 q1) (.int .u16 q2) (.int .i64 ln) q5 fr (.slice oa n cap) mo S D) 85 w2,?_,fun _ _=>Jz rfl,(fun h=>by cases h),?_⟩
 ·rintro fl rfl
  refine Jv.skip rfl ?_
  rintro w' ⟨-,hob⟩
  have g1:=cell_of_row _ _ 38 _ _ (0,0) hob.1
  have g2:=frozen_of_row _ _ 38 _ _ hob.1
  refine⟨_,?_,hob.set 38 (.int .u8 q5)⟩
  simp[execOp,go_sem,g1,g2]
 rintro v ⟨gl2,w32,rfl,-⟩
 rintro z4 ⟨-,hob⟩
 have HOB:=Jnv hob
 have HS4:=Jnv ((hob.2.2 bs hne hsz').trans HSZ.out)
 have hc34:z4.cell? ⟨b,34,none⟩=some (.int .u8 p):=cell_of_row _ _ 34 _ _ (0,0) hob.1
 clear hob s1 s2 s5 gl0 gl1 gl2 w30 w31 w32
 go_wp2_with fail
 refine Jnx (HI.out z4) ?_
 rintro e z5 ⟨rfl,hb5⟩
 have HOB5:=Jnv (HOB.out.later hb5)
 have HS5:=Jnv ((hb5.block bs (Jnw HS4.out).1).trans HS4.out)
 clear hc34 hb5 HOB HS4
 have c9:=cell_of_row _ _ 9 _ _ (0,0) HS5.out
 have c10:=cell_of_row _ _ 10 _ _ (0,0) HS5.out
 have c36:=cell_of_row _ _ 36 _ _ (0,0) HOB5.out.1
 have f36:=frozen_of_row _ _ 36 _ _ HOB5.out.1
 have hfin:∀(cs:Array Value) (w2:World),OB zz b cs 85 w2→Jbt w b cs er (.returned (.int .i64 er)) w2:=fun cs w2 h=>⟨rfl,h.1,(HZ.out.mono (Nat.le_of_lt hbl)).trans h.2.1,fun i hi hl=>(h.2.2 i hi (Jnz hl HZ.out.size)).trans (HZ.out.block i hl)⟩
 have HFIN:=Jnv hfin
 clear hfin
 obtain⟨⟨h90,h91⟩,h100,h101⟩:=HBD.out
 have HOR:bits .or .u16 (q9*256) q10=q9*256+q10:=Jj1 q9 q10 h90 h91 h100 h101
 cases bi
 ·go_wp2_with fail
  go_ret
  obtain rfl:q2=dst:=HDS.out
  exact HFIN.out _ _ HOB5.out
 ·go_wp2_with fail
  go_ret
  obtain rfl:q9*256+q10=dst:=HDS.out
  exact HFIN.out _ _ (HOB5.out.set 36 (.int .u16 (q9*256+q10)))
open Go.RowKit Bits
def Jcr:Array Value:=(Jn0 false false (.int .i64 0) false false)
def JmS (o:Jb8)(oa:Option Addr)(cap:Nat):Array Value:=#[.bool o.six,.int .u8 (o.src 0),.int .u8 (o.src 1),.int .u8 (o.src 2),.int .u8 (o.src 3),.int .u8 (o.src 4),.int .u8 (o.src 5),.int .u8 (o.src 6),.int .u8 (o.src 7),.int .u8 (o.src 8),.int .u8 (o.src 9),.int .u8 (o.src 10),.int .u8 (o.src 11),.int .u8 (o.src 12),.int .u8 (o.src 13),.int .u8 (o.src 14),.int .u8 (o.src 15),.bool o.six,.int .u8 (o.dst 0),.int .u8 (o.dst 1),.int .u8 (o.dst 2),.int .u8 (o.dst 3),.int .u8 (o.dst 4),.int .u8 (o.dst 5),.int .u8 (o.dst 6),.int .u8 (o.dst 7),.int .u8 (o.dst 8),.int .u8 (o.dst 9),.int .u8 (o.dst 10),.int .u8 (o.dst 11),.int .u8 (o.dst 12),.int .u8 (o.dst 13),.int .u8 (o.dst 14),.int .u8 (o.dst 15),.int .u8 o.proto,.int .u16 0,.int .u16 0,.int .i64 o.len,.int .u8 0,.bool o.frag,.slice oa o.body.length cap,.bool o.more]
def JbY (w:World)(o:Jb8)(err:Int):Ending→World→Prop:=fun e w'=>
 (err≠0∧e=.returned (.tuple #[.agg Jcr,.int .i64 err])∧Below w.heap.size w w')∨
 (err=0∧∃oa cap,e=.returned (.tuple #[.agg (JmS o oa cap),.int .i64 0])∧JI w' w.heap.size 1 oa o.body.length cap (o.body.map (.int .u8))∧Below w.heap.size w w')
theorem Jh2 {R:Ending→World→Prop}{w':World}{tmps cs:Array Value}{u:Value}(b:Nat)(hp:tmps.getD 2 undef=.pointer (some ⟨b,0,none⟩))(h3:tmps.getD 3 undef=u)(hc:Jc w' b 0 42=cs)(hs:cs.size=42)(hR:R (.returned (.tuple #[.agg cs,u])) w'):
 bodyPost Tryz.prog Tryz.f79 R .ret { tmps:=tmps,defers:=[] } w':=
 bodyPost_ret (v:=.tuple #[.agg cs,u]) (QF rfl _ _ b 42 _ _ Tryz.underlying85 rfl JhL hp h3 cs hc hs) rfl hR
theorem Xh (l:List Int)(k n j:Nat)(hj:j<n):((l.drop k).take n).getD j 0=l.getD (k+j) 0:=by
 simp[List.getD_eq_getElem?_getD,List.getElem?_take,List.getElem?_drop,hj]
theorem JiQ {l:List Int}(h:JA l=0):Q4 l=0:=by
 unfold JA at h
 by_cases h1:Q4 l=0
 ·exact h1
 ·rw[if_pos h1] at h;exact h
theorem Jj2 (oa:Option Addr)(n cap:Nat)(l:List Int)(w:World)(hr:Jj w oa n cap l)(hn:n≤100000):
 Calls Tryz.prog 79 #[.slice oa n cap] w (JbY w (Qj l) (JA l)):=by
 have hlen:=hr.len
 have hx:=heap_alloc_new w (.cells Jcr 85)
 have hB:Below w.heap.size w (w.alloc (.cells Jcr 85)):=Below.all (Jny _ _) _
 have HR:=Jnv (hr.alloc (.cells Jcr 85))
 have HBY:=Jnv hr.byte
 unfold Jcr at hx hB HR
 clear hr
 go_enter Tryz.func79,Tryz.ntmps79
 go_wp2_with fail
 obtain⟨b0,hb0⟩:∃b,b=w.heap.size:=⟨_,rfl⟩
 rw[←hb0] at hx⊢
 have HB0:=Jnv hb0
 clear hb0
 generalize w.alloc (.cells (Jn0 false false (.int .i64 0) false false) 85)=wa at*
 refine Jnx (Jii _ _ _ _ _ HR.out hn) ?_
 rintro e w1 ⟨ob,cb,rfl,ho,hb⟩
 have HO:=Jnv (ho.mono hB.size)
 have HNB:Hid (∀a,ob=some a→a.block≠b0):=Jnv (fun a ha=>by have:=(ho.lt ha).1;have h2:=(Jnw hx).1;omega)
 have HB1:=Jnv (Jno hB hb)
 have HX1:=Jnv ((hb.block b0 (Jnw hx).1).trans hx)
 have HR1:=Jnv (HR.out.below hb)
 have hb1:b0<w1.heap.size:=(Jnw HX1.out).1
 have hrf:Jl w1 b0 42=true:=by rw[Jd _ _ _ _ _ HX1.out];rfl
 clear hb ho hx hB HR
 by_cases h0:JA l=0
 rotate_left
 ·have HE:=Jnv h0
  have hne:(JA l != 0)=true:=by simpa using h0
  clear h0
  generalize JA l=er at*
  generalize (Xz l).length=nb at*
  go_wp2_with fail
  exact Jh2 (cs:=Jcr) (u:=.int .i64 er) b0 rfl rfl (Jb (Jh HX1.out) rfl) rfl (.inl ⟨HE.out,rfl,HB1.out.trans (Jf _ (Nat.le_of_eq HB0.out.symm))⟩)
 have HL:Hid (Xz l=Jan l):=Jnv (by unfold Xz;rw[if_pos h0])
 have HE:Hid (Q4 l=0):=Jnv (JiQ h0)
 have HOUT:Hid (Qj l=⟨false,JM ((l.drop 12).take 4),JM ((l.drop 16).take 4),l.getD 9 0,w2 l 2,decide (0<w2 l 6%8192),decide (w2 l 6/8192%2=1),Jan l⟩):=Jnv rfl
 have hl20:20≤l.length:=by have:=JhR HE.out;omega
 have HS:Hid (((l.drop 12).take 4).length=4∧Jm ((l.drop 12).take 4)):=Jnv ⟨by rw[List.length_take,List.length_drop];omega,Qk (J7 HBY.out _) _⟩
 have HD:Hid (((l.drop 16).take 4).length=4∧Jm ((l.drop 16).take 4)):=Jnv ⟨by rw[List.length_take,List.length_drop];omega,Qk (J7 HBY.out _) _⟩
 have HPW:=Zd HBY.out 2
 rw[HL.out] at HO⊢
 rw[h0]
 have H00:=Jnv h0
 clear h0 HL hl20
 generalize Jan l=L at*
 go_wp2_with fail
 refine Jnx (Jbm _ _ _ _ _ HR1.out hn) ?_
 rintro e w2' (⟨hne,-,-⟩|⟨-,oh,ch,rfl,hoh,hb2⟩)
 ·exact absurd HE.out hne
 have HO2:=Jnv (JI.below HO.out hb2)
 have HB2:=Jnv (Jno HB1.out hb2)
 have HX2:=Jnv ((hb2.block b0 hb1).trans HX1.out)
 unfold ipA Jff
 clear hoh hb2 HO HB1 HX1 HR1 hrf hb1
 have HS12:Hid (l.getD 12 0=((l.drop 12).take 4).getD 0 0∧l.getD 13 0=((l.drop 12).take 4).getD 1 0∧l.getD 14 0=((l.drop 12).take 4).getD 2 0∧l.getD 15 0=((l.drop 12).take 4).getD 3 0):=Jnv ⟨(Xh l 12 4 0 (by decide)).symm,(Xh l 12 4 1 (by decide)).symm,(Xh l 12 4 2 (by decide)).symm,(Xh l 12 4 3 (by decide)).symm⟩
 have HS16:Hid (l.getD 16 0=((l.drop 16).take 4).getD 0 0∧l.getD 17 0=((l.drop 16).take 4).getD 1 0∧l.getD 18 0=((l.drop 16).take 4).getD 2 0∧l.getD 19 0=((l.drop 16).take 4).getD 3 0):=Jnv ⟨(Xh l 16 4 0 (by decide)).symm,(Xh l 16 4 1 (by decide)).symm,(Xh l 16 4 2 (by decide)).symm,(Xh l 16 4 3 (by decide)).symm⟩
 rw[HS12.out.1,HS12.out.2.1,HS12.out.2.2.1,HS12.out.2.2.2,HS16.out.1,HS16.out.2.1,HS16.out.2.2.1,HS16.out.2.2.2]
 clear HS12 HS16
 generalize (l.drop 12).take 4=SL at*
 generalize (l.drop 16).take 4=DL at*
 have HSL:=Jnv (JkM SL HS.out.1)
 have HDL:=Jnv (JkM DL HD.out.1)
 generalize SL.getD 0 0=s0 at*
 generalize SL.getD 1 0=s1 at*
 generalize SL.getD 2 0=s2 at*
 generalize SL.getD 3 0=s3 at*
 generalize DL.getD 0 0=d0 at*
 generalize DL.getD 1 0=d1 at*
 generalize DL.getD 2 0=d2 at*
 generalize DL.getD 3 0=d3 at*
 generalize w2 l 2=tot at*
 generalize w2 l 6=fw at*
 generalize l.getD 9 0=pr at*
 generalize l.getD 1 0=x1 at*
 generalize w2 l 4=x4 at*
 generalize l.getD 8 0=x8 at*
 generalize decide (fw/16384%2=1)=dfb at*
 generalize decide (fw/8192%2=1)=mfb at*
 generalize fw%8192=fg at*
 generalize ipHl l=hl at*
 go_wp2_with fail
 obtain⟨bh,hbh⟩:∃b,b=w2'.heap.size:=⟨_,rfl⟩
 have hx3:=heap_alloc_new w2' (.cells (JnI x1 (.int .u16 tot) (.int .u16 x4) dfb mfb (.int .u16 fg) x8 pr s0 s1 s2 s3 d0 d1 d2 d3 (.slice oh (hl-20) ch)) 113)
 have hb3:Below w2'.heap.size w2' (w2'.alloc (.cells (JnI x1 (.int .u16 tot) (.int .u16 x4) dfb mfb (.int .u16 fg) x8 pr s0 s1 s2 s3 d0 d1 d2 d3 (.slice oh (hl-20) ch)) 113)):=Below.all (Jny _ _) _
 rw[←hbh] at hx3⊢
 generalize w2'.alloc (.cells (JnI x1 (.int .u16 tot) (.int .u16 x4) dfb mfb (.int .u16 fg) x8 pr s0 s1 s2 s3 d0 d1 d2 d3 (.slice oh (hl-20) ch)) 113)=w3 at*
 have HX3:=Jnv hx3
 have HB3:=Jnv (Jno HB2.out hb3)
 have HO3:=Jnv (JI.below HO2.out hb3)
 have HZ3:=Jnv ((hb3.block b0 (Jnw HX2.out).1).trans HX2.out)
 clear hx3 hb3 HB2 HO2 HX2 hbh
 refine Jnx (JcN _ 4 4 SL w3 (XB HX3.out 8 4 SL HS.out.1 HS.out.2 (by decide) (fun j hj=>by rw[HSL.out];rcases j with _|_|_|_|j;rfl;rfl;rfl;rfl;omega)) (by decide)) ?_
 rintro e w4 ⟨rfl,hb4⟩
 rw[JgV HS.out.1]
 unfold adV
 generalize JM SL=S at*
 have HX4:=Jnv ((hb4.block bh (Jnw HX3.out).1).trans HX3.out)
 have HB4:=Jnv (Jno HB3.out hb4)
 have HO4:=Jnv (JI.below HO3.out hb4)
 have HZ4:=Jnv ((hb4.block b0 (Jnw HZ3.out).1).trans HZ3.out)
 clear hb4 HX3 HB3 HO3 HZ3
 go_wp2_with fail
 obtain⟨bs,hbs⟩:∃b,b=w4.heap.size:=⟨_,rfl⟩
 have hx5:=heap_alloc_new w4 (.cells (JnH false S) 27)
 have hb5:Below w4.heap.size w4 (w4.alloc (.cells (JnH false S) 27)):=Below.all (Jny _ _) _
 rw[←hbs] at hx5⊢
 generalize w4.alloc (.cells (JnH false S) 27)=w5 at*
 have HX5:=Jnv ((hb5.block bh (Jnw HX4.out).1).trans HX4.out)
 have HB5:=Jnv (Jno HB4.out hb5)
 have HO5:=Jnv (JI.below HO4.out hb5)
 have HZ5:=Jnv ((hb5.block b0 (Jnw HZ4.out).1).trans HZ4.out)
 have HS5:=Jnv hx5
 clear hb5 hx5 HX4 HB4 HO4 HZ4 hbs
 refine Jnx (JcN _ 4 4 DL w5 (XB HX5.out 12 4 DL HD.out.1 HD.out.2 (by decide) (fun j hj=>by rw[HDL.out];rcases j with _|_|_|_|j;rfl;rfl;rfl;rfl;omega)) (by decide)) ?_
 rintro e w6 ⟨rfl,hb6⟩
 rw[JgV HD.out.1]
 unfold adV
 generalize JM DL=D at*
 have HX6:=Jnv ((hb6.block bh (Jnw HX5.out).1).trans HX5.out)
 have HB6:=Jnv (Jno HB5.out hb6)
 have HO6:=Jnv (JI.below HO5.out hb6)
 have HZ6:=Jnv ((hb6.block b0 (Jnw HZ5.out).1).trans HZ5.out)
 have HS6:=Jnv ((hb6.block bs (Jnw HS5.out).1).trans HS5.out)
 clear hb6 HX5 HB5 HO5 HZ5 HS5
 have lz:b0<w6.heap.size:=(Jnw HZ6.out).1
 have lh:bh<w6.heap.size:=(Jnw HX6.out).1
 have ls:bs<w6.heap.size:=(Jnw HS6.out).1
 have hrf:Jl w6 b0 42=true:=by rw[Jd _ _ _ _ _ HZ6.out];rfl
 have hps:Jc w6 bs 0 17=(JnH false S:Array Value):=Jb HS6.out rfl
 have c1:=cell_of_row _ _ 1 _ _ (0,0) HX6.out
 have c4:=cell_of_row _ _ 4 _ _ (0,0) HX6.out
 have c5:=cell_of_row _ _ 5 _ _ (0,0) HX6.out
 have c7:=cell_of_row _ _ 7 _ _ (0,0) HX6.out
 have ht0:=HPW.1
 have ht1:=HPW.2
 have lz1:b0<w6.heap.size+1:=Nat.lt_succ_of_lt lz
 go_wp2_with fail
 refine Jh2 (cs:=(JnY false false pr (.int .i64 tot) (.bool (decide (0<fg))) (.slice ob L.length cb) mfb S D)) (u:=.int .i64 0) b0 rfl rfl ?_ rfl ?_
 ·exact Jb ((heap_alloc_old _ _ (by simpa using lz1)).trans ((heap_alloc_old _ _ (by simpa using lz)).trans (Jh HZ6.out))) rfl
 ·show JbY w (Qj l) (JA l) _ _
  rw[HOUT.out,H00.out]
  exact .inr ⟨rfl,ob,cb,rfl,JI.below (JI.below (JI.keep HO6.out (by simp) (fun a ha=>setRow_other _ _ _ _ (by have:=(HNB.out a ha);omega))) (Below.all (Jny _ _) _)) (Below.all (Jny _ _) _),Below.all (Below.all (HB6.out.trans (Jf _ (Nat.le_of_eq HB0.out.symm))) _) _⟩
end
end Go.Proofs.YtkgjbipfhhjlpaaGreatDoor
