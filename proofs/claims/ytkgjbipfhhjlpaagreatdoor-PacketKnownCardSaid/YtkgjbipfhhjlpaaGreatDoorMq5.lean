import Derived.Test.YtkgjbipfhhjlpaaGreatDoorMq4
import Derived.Lib.AppendZerosOnto
set_option linter.unusedVariables false
set_option linter.unusedSimpArgs false
set_option maxRecDepth 100000
set_option maxHeartbeats 32000000
namespace Go.Proofs.YtkgjbipfhhjlpaaGreatDoor
open Go.Proofs.Tryz
section
open Go.RowKit
theorem JdQ{p:Prop}(h:p:=by
 have n:=H z;clear l ha p z;go_wp2_with (go_at_call 166;refine(A _).mono ?_;rintro e d ⟨rfl,rfl⟩)
 go_ret2;exact⟨by rw[n.out];rfl,rfl⟩):p:=h
def DP:Lib.NumEnd Nat:=Lib.parseUintB 64 []
theorem Li:(match DP with| .ok n=>some n|_=>none:Option Nat)=none:=rfl
theorem Lj (n:Nat):DP≠ .ok n:=λh=>by
 have y:(match DP with| .ok n=>some n|_=>none:Option Nat)=some n:=by rw[h]
 rw[Li] at y;cases y
def XN (a:Nat):List UInt8->Lib.NumEnd Nat
 |[]=>.ok a
 |c::T=>if 16<=XL c then DP else if 65535<a*16+XL c then .range else XN (a*16+XL c) T
theorem Ge:∀(l:List UInt8) (acc:Nat),Fw 16 65536 acc l=match XN acc l with| .ok n=>some n|_=>none
 |[],acc=>rfl
 |c::T,acc=>by
  rw[Fw,XN];by_cases j:16<=XL c
  ·rw[YH (.inl j),YH j];rfl
  ·by_cases y:65535<acc*16+XL c
   ·rw[YH (.inr O),Yw j,YH y]
   ·rw[Yw O,Yw j,Yw y,Ge T]
theorem UX:∀n:Nat,n<256->65<=n->n<=70->bits .or .u8 (n:Int) 32=(n:Int)+32:=by decide+kernel
theorem T9:∀n:Nat,n<256->97<=n->n<=102->bits .or .u8 (n:Int) 32=(n:Int):=by decide+kernel
theorem Rb:∀n:Nat,n<256->¬(65<=n/\n<=70)->¬(97<=n/\n<=102)->bits .or .u8 (n:Int) 32<97\/103<=bits .or .u8 (n:Int) 32:=by decide+kernel
theorem ON (t:ByteArray)(ah:t.size≠0)(aw:t.size<=1000)(w:World):
 Jf 118 #[.string t,Jk 16,Jk 16] w λe d=>e=.returned (Lib.uintTupleM 264 65535 (XN 0 t.data.toList))/\d=Lib.bytesWorld w 5 t:=by
 have ay:t.toList.isEmpty=false:=by
  rw[<-decide_eq_emptyBytes];exact YA (λh=>ah (by rw[h];rfl))
 have ab:=Lib.run_convert_string_bytes (P:=prog) w 9 22 5 t (u:=.string) underlying9 underlying22 underlying5;have U:∀J,J<t.size->Jg (Lib.bytesWorld w 5 t) w.heap.size J (Jq (t.data.toList.getD J 0).toNat):=λJ am=>Lib.bytesWorld_cell w 5 t J am
 obtain⟨V,Z⟩:∃V,V=Lib.bytesWorld w 5 t:=⟨_,rfl⟩
 rw[<-Z] at ab U|-;clear Z;obtain⟨g,r⟩:∃g,g=t.data.toList:=⟨_,rfl⟩
 have av:g.length=t.size:=by rw[r,Lib.size_eq]
 rw[<-r] at U|-;clear r
 have ar:IntKind.u64.wrap (IntKind.u64.wrap 65536-1)=65535:=by
  rw[JaG,JaG];decide
 go_enter func118,ntmps118
 go_wp2_with fail
 go_loopw [12,13,101] (λal ad W wr=>∃(k b:Nat) (a:Int),al=.bool false/\ad=.int .u64 a/\W=.int .i64 k/\k<=t.size/\Hid (a=(b:Int)/\b<=65535/\XN 0 g=XN b (g.drop k))/\wr=V)
  (λ_ _ W _=>t.size-(intOf W).toNat)
 case atStart=>exact⟨0,0,0,rfl,rfl,rfl,O,⟨rfl,O,rfl⟩,rfl⟩
 case round=>
  obtain⟨k,b,a,rfl,rfl,rfl,ax,X,rfl⟩:=hrel;obtain⟨ha,p,s⟩:=X.out;clear X;have ac:0<=a:=O;have ag:a<=65535:=O;by_cases ak:k<t.size
  ·have I:=U k ak;have Y:g.drop k=g[k]' O::g.drop (k+1):=Jas O;have aa:g.getD k 0=g[k]' O:=by simp[List.getD,W2 (show k<g.length from O)]
   rw[Y] at s;rw[aa] at I;generalize g[k]' O=c at I s;have T:c.toNat<256:=c.toNat_lt;clear U Y aa;have o:XL c=if 65<=c.toNat/\c.toNat<=70 then c.toNat-55 else if 97<=c.toNat/\c.toNat<=102 then c.toNat-87 else if 48<=c.toNat/\c.toNat<=57 then c.toNat-48 else 99:=rfl
   have v:∀N,XL c=N->N<16->XN 0 g=if 65535<b*16+N then .range else XN (b*16+N) (g.drop (k+1)):=by
    intro N j au;rw[s,XN,j,Yw O]
   have S:16<=XL c->XN 0 g=DP:=by
    intro j;rw[s,XN,YH j]
   clear s;have F:=Rb c.toNat T;have G:=UX c.toNat T;have M:=T9 c.toNat T;by_cases R:48<=c.toNat/\c.toNat<=57
   ·obtain⟨y,B⟩:=R;have z:=v (c.toNat-48) (by rw[o,Yw O,Yw O,YH ⟨y,B⟩]) O;clear v S o F G M;by_cases l:65535<b*16+(c.toNat-48)
    ·rw[YH l] at z;have L:65535<a*16+((c.toNat:Int)-48):=O;have n:=H z;clear l ha p z;go_wp2_with fail
     go_ret2;exact⟨by rw[n.out];rfl,rfl⟩
    ·rw[Yw l] at z;have Q:Hid (a*16+((c.toNat:Int)-48)=((b*16+(c.toNat-48):Nat):Int)/\b*16+(c.toNat-48)<=65535/\XN 0 g=XN (b*16+(c.toNat-48)) (g.drop (k+1))):=H ⟨O,O,z⟩;have L:a*16+((c.toNat:Int)-48)<=65535:=O;clear l ha p z;go_wp2_with fail
     go_roundw
     case rel=>exact⟨k+1,b*16+(c.toNat-48),a*16+((c.toNat:Int)-48),rfl,(by first|rfl|(congr 1;omega)),(by first|rfl|(congr 1;omega)),O,Q,trivial⟩
     case measure=>simp[intOf];omega
   ·by_cases C:65<=c.toNat/\c.toNat<=70
    ·obtain⟨y,B⟩:=C;have z:=v (c.toNat-55) (by rw[o,YH ⟨y,B⟩]) O;have E:=G y B;have A:∀w,Jf 166 #[Jq (c.toNat:Int)] w λe d=>e=.returned (Jq ((c.toNat:Int)+32))/\d=w:=λw=>by rw[<-E];exact internal_strconv_lower _ _
     clear v S o F G M R E;by_cases l:65535<b*16+(c.toNat-55)
     ·rw[YH l] at z;have L:65535<a*16+((c.toNat:Int)-55):=O;exact JdQ
     ·rw[Yw l] at z;have Q:Hid (a*16+((c.toNat:Int)-55)=((b*16+(c.toNat-55):Nat):Int)/\b*16+(c.toNat-55)<=65535/\XN 0 g=XN (b*16+(c.toNat-55)) (g.drop (k+1))):=H ⟨O,O,z⟩;have L:a*16+((c.toNat:Int)-55)<=65535:=O;clear l ha p z;go_wp2_with (go_at_call 166;refine(A _).mono ?_;rintro e d ⟨rfl,rfl⟩)
      go_roundw
      case rel=>exact⟨k+1,b*16+(c.toNat-55),a*16+((c.toNat:Int)-55),rfl,(by first|rfl|(congr 1;omega)),(by first|rfl|(congr 1;omega)),O,Q,trivial⟩
      case measure=>simp[intOf];omega
    ·by_cases r:97<=c.toNat/\c.toNat<=102
     ·obtain⟨y,B⟩:=r;have z:=v (c.toNat-87) (by rw[o,Yw C,YH ⟨y,B⟩]) O;have E:=M y B
      have A:∀w,Jf 166 #[Jq (c.toNat:Int)] w λe d=>e=.returned (Jq (c.toNat:Int))/\d=w:=λw=>by
       have h:=internal_strconv_lower (c.toNat:Int) w;rw[E] at h;exact h
      clear v S o F G M R E C;by_cases l:65535<b*16+(c.toNat-87)
      ·rw[YH l] at z;have L:65535<a*16+((c.toNat:Int)-87):=O;exact JdQ
      ·rw[Yw l] at z;have Q:Hid (a*16+((c.toNat:Int)-87)=((b*16+(c.toNat-87):Nat):Int)/\b*16+(c.toNat-87)<=65535/\XN 0 g=XN (b*16+(c.toNat-87)) (g.drop (k+1))):=H ⟨O,O,z⟩;have L:a*16+((c.toNat:Int)-87)<=65535:=O;clear l ha p z;go_wp2_with (go_at_call 166;refine(A _).mono ?_;rintro e d ⟨rfl,rfl⟩)
       go_roundw
       case rel=>exact⟨k+1,b*16+(c.toNat-87),a*16+((c.toNat:Int)-87),rfl,(by first|rfl|(congr 1;omega)),(by first|rfl|(congr 1;omega)),O,Q,trivial⟩
       case measure=>simp[intOf];omega
     ·have n:=H (S (by rw[o,Yw C,Yw r,Yw R];decide));have ao:=F C r;have aA:=bits_lo_u8 .or (c.toNat:Int) 32;have aB:=bits_hi_u8 .or (c.toNat:Int) 32;have A:∀w,Jf 166 #[Jq (c.toNat:Int)] w λe d=>e=.returned (Jq (bits .or .u8 (c.toNat:Int) 32))/\d=w:=λw=>internal_strconv_lower _ _
      have an:(c.toNat:Int)<48\/57<(c.toNat:Int):=O;have aC:(0:Int)<=(c.toNat:Int):=O;have az:(c.toNat:Int)<=255:=O;clear v S o F G M C r R T ha p;generalize bits .or .u8 (c.toNat:Int) 32=aq at*;generalize (c.toNat:Int)=af at*;by_cases ai:af=95
      all_goals try subst ai
      all_goals rcases ao with ap|ap
      all_goals rcases an with ae|ae
      all_goals try (exfalso;omega)
      all_goals by_cases aD:aq<=122
      all_goals try (exfalso;omega)
      all_goals go_wp2_with (go_at_call 166;refine(A _).mono ?_;rintro e d ⟨rfl,rfl⟩)
      all_goals go_ret2
      all_goals exact⟨by rw[n.out];rfl,rfl⟩
  ·have aj:k=t.size:=O;subst aj;have hF:XN b (g.drop t.size)=.ok b:=by rw[JaH O];rfl
   rw[hF] at s;subst ha;have n:=H s;clear p hF ac ag s;go_wp2_with fail
   go_ret2;exact⟨by rw[n.out];rfl,rfl⟩
def SO (w:World)(C:Option Nat):Ending->World->Prop:=λe d=>∃(a:Int) (b:Value),e=.returned (.tuple #[Jo a,b])/\0<=a/\a<=65535/\
 ((∃n:Nat,C=some n/\a=n/\b=.nilIface)\/(C=none/\∃j g,b=.iface j g))/\Ji w d
theorem MX (t:ByteArray)(a:t.size<=1000)(w:World):
 Jf 118 #[.string t,Jk 16,Jk 16] w λe d=>e=.returned (Lib.uintTupleM 264 65535 (if t.size=0 then DP else XN 0 t.data.toList))/\Ji w d:=by
 by_cases h:t.size=0
 ·obtain rfl:t=⟨#[]⟩:=by
   cases t;rename_i N;have:N.size=0:=h;rw[Array.eq_empty_of_size_eq_zero this]
  refine(internal_strconv_ParseUint_empty 16 16 w).mono ?_;rintro e d ⟨rfl,rfl⟩;exact⟨rfl,Jc _ _⟩
 ·refine(ON t h a w).mono ?_;rintro e d ⟨rfl,rfl⟩;exact⟨by rw[Yw h],Xm _ _⟩
theorem Lk:∀(l:List UInt8) (acc n:Nat),acc<=65535->XN acc l=.ok n->n<=65535
 |[],acc,n,h,e=>by simp only[XN,Lib.NumEnd.ok.injEq] at e;omega
 |c::r,acc,n,h,e=>by
  rw[XN] at e;split at e
  ·exact absurd e (Lj n)
  ·split at e
   ·cases e
   ·exact Lk r _ n O e
theorem Ax (t:ByteArray)(y:t.size<=1000)(w:World)(u:Env w):
 Jf 58 #[.string t,Jk 16,Jk 16] w (SO w (Q0 16 65536 t.data.toList)):=by
 have v:=H u;clear u
 have a:Q0 16 65536 t.data.toList=match (if t.size=0 then DP else XN 0 t.data.toList) with| .ok n=>some n|_=>none:=by
  have M:t.data.toList.length=t.size:=by rw[WS,Jat]
  rw[Q0];by_cases h:t.size=0
  ·rw[YH h,YH (List.length_eq_zero_iff.1 O)];rfl
  ·rw[Yw h,Yw (λe=>h (by rw[<-M,e];rfl)),Ge];try (cases XN 0 t.data.toList<;>rfl)
 have j:∀n,(if t.size=0 then DP else XN 0 t.data.toList)=Lib.NumEnd.ok n->n<=65535:=by
  intro n h;split at h
  ·exact absurd h (Lj n)
  ·exact Lk _ _ _ O h
 have b:=H (MX t y w);cases hR:(if t.size=0 then DP else XN 0 t.data.toList) with
 |ok n=>
  rw[hR] at b a;have d:=H a;have B:=j n hR;clear hR j a;go_enter func58,ntmps58
  go_wp2_with fail
  refine Jb b ?_;rintro e V ⟨rfl,g⟩;simp only[Lib.uintTupleM];go_wp2_with fail
  go_ret2;exact⟨n,.nilIface,rfl,O,O,.inl ⟨n,d.out,rfl,rfl⟩,g⟩
 |range=>
  rw[hR] at b a;have d:=H a;clear hR j a;go_enter func58,ntmps58
  go_wp2_with fail
  refine Jb b ?_;rintro e V ⟨rfl,g⟩;simp only[Lib.uintTupleM];obtain⟨s,r,o⟩:=(v.below g).rng;have l:=H (strconv_toError_range ⟨#[80,97,114,115,101,85,105,110,116]⟩ t 16 16 _ V O o (.inr ⟨s,r,rfl⟩));go_wp2_with fail
  refine Jb l ?_;rintro e w2 ⟨z,rfl,-,-,p⟩;go_wp2_with fail
  go_ret2;exact⟨65535,_,rfl,O,O,.inr ⟨d.out,_,_,rfl⟩,Wx g p⟩
 |_=>
  rw[hR] at b a;have d:=H a;clear hR j a;go_enter func58,ntmps58
  go_wp2_with fail
  refine Jb b ?_;rintro e V ⟨rfl,g⟩;simp only[Lib.uintTupleM];obtain⟨s,r,o⟩:=(v.below g).syn;have l:=H (strconv_toError_syntax ⟨#[80,97,114,115,101,85,105,110,116]⟩ t 16 16 _ V O o (.inr ⟨s,r,rfl⟩));go_wp2_with fail
  refine Jb l ?_;rintro e w2 ⟨z,rfl,-,-,p⟩;go_wp2_with fail
  go_ret2;exact⟨0,_,rfl,O,O,.inr ⟨d.out,_,_,rfl⟩,Wx g p⟩
def TL (x:Nat):Bool:=decide (48<=x/\x<=57\/97<=x/\x<=102\/65<=x/\x<=70)
theorem Rc (x:Nat)(P:x<=1114111)(w:World):Jf 210 #[.int .i32 (x:Int)] w (Jz w (.bool (TL x))):=by
 have X:(0:Int)<=(x:Int):=O;have j:(x:Int)<=1114111:=O;go_enter func210,ntmps210
 go_wp2_with fail
 all_goals go_ret
 all_goals refine .mk (J6 ?_) (Jc _ _)
 all_goals unfold TL
 all_goals rw[Bool.eq_iff_iff]
 all_goals simp
 all_goals omega
theorem Dm (a d:Nat):∀(l:List UInt8) (b n:Nat),Fw a d b l=some n->∀c∈l,XL c<a
 |[],_,_,_,c,I=>absurd I (YF)
 |x::T,b,n,h,c,I=>by
  rw[Fw] at h;split at h
  ·cases h
  ·rcases YE.1 I with rfl|I
   ·omega
   ·exact Dm a d T _ n h c I
theorem Ua (c:UInt8)(h:XL c<16):TL c.toNat=true/\c.toNat<128:=by
 unfold XL at h;unfold TL;split at h
 ·exact⟨Yz O,O⟩
 ·split at h
  ·exact⟨Yz O,O⟩
  ·split at h
   ·exact⟨Yz O,O⟩
   ·omega
theorem NZ (G:ByteArray)(h:∀c∈G.data.toList,XL c<16):∀(f a:Nat),Lib.idxFuncFrom (λx=>!TL x) true G f a=-1
 |0,_=>rfl
 |f+1,a=>by
  rw[Lib.idxFuncFrom];by_cases E:a<G.size
  ·have L:=Ua (G[a]'E) (h _ (by rw[show G[a]'E=G.data.toList[a]'(by simpa using E) from rfl];exact Yj _));rw[YH E,decode_ascii G a E L.2];simp only[L.1];exact NZ G h f _
  ·rw[Yw E]
theorem IW (w:World):PredGrows prog 209 #[] (λx=>!TL x) w:=by
 intro a x P g;show Jf 209 #[.int .i32 (x:Int)] a _;go_enter func209,ntmps209
 go_wp2_with fail
 refine Jb (Rc x P a) ?_;rintro e V ⟨rfl,b⟩;go_wp2_with fail
 go_ret;exact⟨rfl,b⟩
theorem JdD{p:Prop}(h:p:=by
 have h:=X5 (V.setCell ⟨w.heap.size+1,0,none⟩ (.bool false)) #[Jo v] 124;simpa using h):p:=h
structure Ba (w W:World)(hi:Nat)(op:Option Addr)(nP capp:Nat)(P:List (List UInt8))(oa:Option Addr)(n cap:Nat)(G:List Nat)(ok:Bool):Prop where
 below:Ji w W
 list:Jg W w.heap.size 0 (.slice oa n cap)
 okc:Jg W (w.heap.size+1) 0 (.bool ok)
 listF:W.frozen? ⟨w.heap.size,0,none⟩=false
 okF:W.frozen? ⟨w.heap.size+1,0,none⟩=false
 parts:J8 W (w.heap.size+2) 1 op nP capp (P.map Bv)
 plt:∀a,op=some a->a.block<hi
 hiW:hi<=W.heap.size
 lo:w.heap.size+2<=hi
 row:J8 W hi 1 oa n cap (G.map λ(m:Nat)=>Value.int .u64 (m:Int))
theorem Ba.go {w a e:World}{F:Nat}{j:Option Addr}{r t:Nat}{P:List (List UInt8)}{b:Option Addr}{n o:Nat}{d:List Nat}{ok:Bool}(h:Ba w a F j r t P b n o d ok)(g:Ji a e):Ba w e F j r t P b n o d ok where
 below:=Wx h.below g
 list:=(g.cell (p:=⟨_,_,none⟩) (Jar a _ h.list)).trans h.list
 okc:=(g.cell (p:=⟨_,_,none⟩) (Jar a _ h.okc)).trans h.okc
 listF:=(g.frozen (p:=⟨_,_,none⟩) (Jar a _ h.list)).trans h.listF
 okF:=(g.frozen (p:=⟨_,_,none⟩) (Jar a _ h.okc)).trans h.okF
 parts:=h.parts.below g
 plt:=h.plt
 hiW:=WJ h.hiW g.size
 lo:=h.lo
 row:=h.row.below g
theorem CI:(prog.info? 124).map (λi=>(i.zero,i.size,i.bytes))=some (some (.int .u64 0),1,8):=K
theorem Ba.put {w I:World}{t:Nat}{y:Option Addr}{z A:Nat}{P:List (List UInt8)}{u:Option Addr}{n o:Nat}{G:List Nat}{ok:Bool}(h:Ba w I t y z A P u n o G ok)(b:Bool):Ba w (I.setCell ⟨w.heap.size+1,0,none⟩ (.bool b)) t y z A P u n o G b where
 below:=h.below.setCell (by simp only;omega) _
 list:=(by rw[W9];exact h.list;intro e;injection e;omega)
 okc:=by first|exact W8 _ h.okc|exact W8 _ _ h.okc|exact W8 _ _ _ h.okc
 listF:=by simpa using h.listF
 okF:=by simpa using h.okF
 parts:=h.parts.other (λa ha=>by have:=(h.parts.lt ha).1;simp only;omega) _
 plt:=h.plt
 hiW:=by simpa using h.hiW
 lo:=h.lo
 row:=h.row.other (λa ha=>by have:=(h.row.lt ha).1;have:=h.lo;simp only;omega) _
structure SP (w W:World)(hi:Nat)(op:Option Addr)(nP capp:Nat)(P:List (List UInt8))(oa:Option Addr)(n cap:Nat)(G:List Nat)(ok:Bool):Prop where
 list:∃v,Jg W w.heap.size 0 v
 listF:W.frozen? ⟨w.heap.size,0,none⟩=false
 put:Ba w (W.setCell ⟨w.heap.size,0,none⟩ (.slice oa n cap)) hi op nP capp P oa n cap G ok
theorem Ba.grown {w b d:World}{F:Nat}{u:Option Addr}{t y:Nat}{P:List (List UInt8)}{s:Option Addr}{n o:Nat}{S:List Nat}{ok:Bool}(h:Ba w b F u t y P s n o S ok)
 (g:b.grownBy d (s.map Addr.block)){B:Option Addr}{z L:Nat}{G':List Nat}(I:J8 d F 1 B z L (G'.map λ(m:Nat)=>Value.int .u64 (m:Int))):SP w d F u t y P B z L G' ok:=by
 have Q:=h.lo;have V:=h.hiW
 have r:∀k,k<F->some k≠s.map Addr.block:=by
  intro k A e;obtain⟨a,j,U⟩:=Yb.1 e.symm;have:=(h.row.lt j).1;omega
 have J:d.heap[w.heap.size]? =b.heap[w.heap.size]?:=g.block _ O (r _ O);have j:d.heap[w.heap.size+1]? =b.heap[w.heap.size+1]?:=g.block _ O (r _ O);have M:Jg d w.heap.size 0 (.slice s n o):=by rw[WH (w:=b) (a:=⟨w.heap.size,0,none⟩) J];exact h.list
 have T:Jg d (w.heap.size+1) 0 (.bool ok):=by rw[WH (w:=b) (a:=⟨w.heap.size+1,0,none⟩) j];exact h.okc
 have E:d.frozen? ⟨w.heap.size,0,none⟩=false:=by rw[WI (w:=b) (a:=⟨w.heap.size,0,none⟩) J];exact h.listF
 have N:d.frozen? ⟨w.heap.size+1,0,none⟩=false:=by rw[WI (w:=b) (a:=⟨w.heap.size+1,0,none⟩) j];exact h.okF
 have G:J8 d (w.heap.size+2) 1 u t y (P.map Bv):=h.parts.grown g λa ha=>r _ (h.plt a ha)
 have R:Ji w d:=Wv h.below h.row O g O;refine⟨⟨_,M⟩,E,?_⟩;refine⟨R.setCell (by simp only;omega) _,?_,?_,by simpa using E,by simpa using N,G.other (λa ha=>by have:=(G.lt ha).1;simp only;omega) _,h.plt,?_,Q,I.other (λa ha=>by have:=(I.lt ha).1;simp only;omega) _⟩
 ·first|exact W8 _ M|exact W8 _ _ M|exact W8 _ _ _ M
 ·rw[W9];exact T;intro e;injection e;omega
 ·have:=g.size;simp;omega
theorem OO (p:ByteArray)(E:p.size<=1000)(w l:World)(F:Nat)(G:Option Addr)(C N:Nat)(z:List (List UInt8))(s:Option Addr)(n o:Nat)(y:List Nat)(I:Hid (Env l))
 (B:n<=1000)(h:Hid (Ba w l F G C N z s n o y false)):
 Jf 207 #[.string p,.pointer (some ⟨w.heap.size+1,0,none⟩),.pointer (some ⟨w.heap.size,0,none⟩)] l
  (λe d=>∃r u b,e=.returned (.tuple #[])/\Ba w d F G C N z r (n+1) u (y++[b]) false):=by
 go_enter func207,ntmps207
 go_wp2_with fail
 refine Jb (Ax p E l I) ?_;rintro e V ⟨b,Y,rfl,S,W,-,g⟩;obtain⟨v,rfl⟩:∃v:Nat,b=(v:Int):=⟨b.toNat,O⟩
 have a:=H (h.out.go g);have M:=a.list;have R:=a.okc;have P:=a.listF;have Q:=a.okF;clear g I h;go_wp2_with (at_builtin;refine JJ.of ?_)
 refine JJ.mk ?_;have j:=H (a.put false);refine J7 _ rfl _ _ 252 rfl 124 (Jo 0) 1 8 F underlying252 CI rfl D s n o _ rfl (j.row.alloc _) ⟨V.heap.size,0,none⟩ 1 1 [.int .u64 v] rfl rfl ?_ ?_ D ?_ ?_ ?_ ?_
 ·exact JdD
 ·exact JdZ
 ·unfold maxLen;omega
 ·omega
 ·have:=j.hiW;simp only[Jai];omega
 intro r u d A J L;have t:=H ((j.go ((Jc _ _).alloc (Je _) _)).grown J (G':=y++[v]) (by rw[Jaj];exact A));obtain⟨X,T⟩:=t.list;have U:=t.listF;clear J L A a j M R P Q;go_wp2_with fail
 go_end0
 exact⟨r,u,v,rfl,t.put⟩
theorem MY (p:ByteArray)(E:p.size<=1000)(w r:World)(F:Nat)(J:Option Addr)(G T:Nat)(B:List (List UInt8))(s:Option Addr)(n o:Nat)(A:List Nat)(N:Hid (Env r))
 (ae:n<=1000)(h:Hid (Ba w r F J G T B s n o A true))(P:Q0 16 65536 p.data.toList=none):
 Jf 207 #[.string p,.pointer (some ⟨w.heap.size+1,0,none⟩),.pointer (some ⟨w.heap.size,0,none⟩)] r
  (λe d=>∃t z b,e=.returned (.tuple #[])/\Ba w d F J G T B t (n+1) z (A++[b]) false):=by
 go_enter func207,ntmps207
 go_wp2_with fail
 refine Jb (Ax p E r N) ?_;rintro e V ⟨b,Y,rfl,Z,ac,R,g⟩
 obtain⟨S,I,rfl⟩:∃S I,Y=.iface S I:=by
  rcases R with ⟨m,j,-⟩|⟨-,y⟩
  ·rw[P] at j;cases j
  ·exact y
 clear R P;obtain⟨v,rfl⟩:∃v:Nat,b=(v:Int):=⟨b.toNat,O⟩
 have a:=H (h.out.go g);have M:=a.list;have X:=a.okc;have U:=a.listF;have W:=a.okF;clear g N h;go_wp2_with (at_builtin;refine JJ.of ?_)
 refine JJ.mk ?_;have l:=H (a.put false);refine J7 _ rfl _ _ 252 rfl 124 (Jo 0) 1 8 F underlying252 CI rfl D s n o _ rfl (l.row.alloc _) ⟨V.heap.size,0,none⟩ 1 1 [.int .u64 v] rfl rfl ?_ ?_ D ?_ ?_ ?_ ?_
 ·exact JdD
 ·exact JdZ
 ·unfold maxLen;omega
 ·omega
 ·have:=l.hiW;simp only[Jai];omega
 intro t z d C Q L;have u:=H ((l.go ((Jc _ _).alloc (Je _) _)).grown Q (G':=A++[v]) (by rw[Jaj];exact C));obtain⟨ad,aa⟩:=u.list;have ab:=u.listF;clear Q L C a l M X U W;go_wp2_with fail
 go_end0
 exact⟨t,z,v,rfl,u.put⟩
theorem Ll (p:ByteArray)(E:p.size<=1000)(w r:World)(F:Nat)(I:Option Addr)(G R:Nat)(B:List (List UInt8))(s:Option Addr)(n o:Nat)(A:List Nat)(J:Hid (Env r))
 (ad:n<=1000)(h:Hid (Ba w r F I G R B s n o A true))(m:Nat)(P:Q0 16 65536 p.data.toList=some m)(Y:4<p.size):
 Jf 207 #[.string p,.pointer (some ⟨w.heap.size+1,0,none⟩),.pointer (some ⟨w.heap.size,0,none⟩)] r
  (λe d=>∃t z b,e=.returned (.tuple #[])/\Ba w d F I G R B t (n+1) z (A++[b]) false):=by
 go_enter func207,ntmps207
 go_wp2_with fail
 refine Jb (Ax p E r J) ?_;rintro e V ⟨b,W,rfl,X,ab,Q,g⟩
 obtain rfl:W=.nilIface:=by
  rcases Q with ⟨m,j,-,y⟩|⟨j,-⟩
  ·exact y
  ·rw[P] at j;cases j
 clear Q P;obtain⟨v,rfl⟩:∃v:Nat,b=(v:Int):=⟨b.toNat,O⟩
 have a:=H (h.out.go g);have M:=a.list;have U:=a.okc;have S:=a.listF;have T:=a.okF;clear g J h;go_wp2_with (at_builtin;refine JJ.of ?_)
 refine JJ.mk ?_;have l:=H (a.put false);refine J7 _ rfl _ _ 252 rfl 124 (Jo 0) 1 8 F underlying252 CI rfl D s n o _ rfl (l.row.alloc _) ⟨V.heap.size,0,none⟩ 1 1 [.int .u64 v] rfl rfl ?_ ?_ D ?_ ?_ ?_ ?_
 ·exact JdD
 ·exact JdZ
 ·unfold maxLen;omega
 ·omega
 ·have:=l.hiW;simp only[Jai];omega
 intro t z d C N L;have u:=H ((l.go ((Jc _ _).alloc (Je _) _)).grown N (G':=A++[v]) (by rw[Jaj];exact C));obtain⟨ac,Z⟩:=u.list;have aa:=u.listF;clear N L C a l M U S T;go_wp2_with fail
 go_end0
 exact⟨t,z,v,rfl,u.put⟩
theorem MZ (p:ByteArray)(E:p.size<=1000)(w r:World)(F:Nat)(S:Option Addr)(Q Y:Nat)(I:List (List UInt8))(s:Option Addr)(n o:Nat)(G:List Nat)(T:Hid (Env r))
 (aj:n<=1000)(h:Hid (Ba w r F S Q Y I s n o G true))(m:Nat)(P:Q0 16 65536 p.data.toList=some m)(ad:p.size<=4):
 Jf 207 #[.string p,.pointer (some ⟨w.heap.size+1,0,none⟩),.pointer (some ⟨w.heap.size,0,none⟩)] r
  (λe d=>∃t C b,e=.returned (.tuple #[])/\Ba w d F S Q Y I t (n+1) C (G++[b]) true/\b=m):=by
 go_enter func207,ntmps207
 go_wp2_with fail
 refine Jb (Ax p E r T) ?_;rintro e V ⟨b,aa,rfl,ac,ah,W,g⟩
 obtain⟨rfl,rfl⟩:b=(m:Int)/\aa=.nilIface:=by
  rcases W with ⟨ae,j,ab,y⟩|⟨j,-⟩
  ·rw[P] at j;cases j;exact⟨ab,y⟩
  ·rw[P] at j;cases j
 have N:∀c∈p.data.toList,XL c<16:=by
  unfold Q0 at P;split at P
  ·cases P
  ·exact Dm 16 65536 _ _ _ P
 have Z:=H (NZ p N p.size 0);clear W P N;have a:=H (h.out.go g);have M:=a.list;have A:=a.okc;have u:=a.listF;have z:=a.okF;clear g T h;go_wp2_with fail
 refine Jb (strings_IndexFunc_grows 209 #[] (enters_of func209 K rfl) (λx=>!TL x) p V (IW V)) ?_;rintro e w2 ⟨rfl,R⟩;rw[show Lib.idxFunc (λx=>!TL x) true p=-1 from Z.out];have X:=H (a.go R);clear a;clear M A u z R;have a:=X;have M:=a.list;have A:=a.okc;have u:=a.listF;have z:=a.okF;clear X;go_wp2_with (at_builtin;refine JJ.of ?_)
 refine JJ.mk ?_;have l:=H (a.put true);refine J7 _ rfl _ _ 252 rfl 124 (Jo 0) 1 8 F underlying252 CI rfl D s n o _ rfl (l.row.alloc _) ⟨w2.heap.size,0,none⟩ 1 1 [.int .u64 m] rfl rfl ?_ ?_ D ?_ ?_ ?_ ?_
 ·have h:=X5 (w2.setCell ⟨w.heap.size+1,0,none⟩ (.bool true)) #[Jo m] 124;simpa using h
 ·exact JdZ
 ·unfold maxLen;omega
 ·omega
 ·have:=l.hiW;simp only[Jai];omega
 intro t C d J U L;have B:=H ((l.go ((Jc _ _).alloc (Je _) _)).grown U (G':=G++[m]) (by rw[Jaj];exact J));obtain⟨ai,af⟩:=B.list;have ag:=B.listF;clear U L J a l M A u z;go_wp2_with fail
 go_end0
 exact⟨t,C,m,rfl,B.put,rfl⟩
theorem Re (G:ByteArray)(c:UInt8):(Lib.splitB ⟨#[c]⟩ 0 (Lib.countB G ⟨#[c]⟩) G).map Value.string=(Ql c G.data.toList).map Bv:=by
 have h:=Lib.splitB_data ⟨#[c]⟩ 0 (Lib.countB G ⟨#[c]⟩) G;have y:Lib.splitK (⟨#[c]⟩:ByteArray).data.toList 0 (Lib.countB G ⟨#[c]⟩) G.data.toList=Ql c G.data.toList:=OI c G.data.toList;rw[y] at h;rw[<-h,List.map_map];congr 1
theorem Gf (G:ByteArray)(c:UInt8)(w:World)(a:Env w)(z:G.size<=1000):Jf 57 #[.string G,.string ⟨#[c]⟩] w (CG w (Ql c G.data.toList)):=by
 obtain⟨m,W⟩:=a.len;refine(strings_Split G ⟨#[c]⟩ m w O W (Je 1)).mono ?_;rintro e d ⟨rfl,rfl⟩;have u:=Re G c
 have M:Lib.countB G ⟨#[c]⟩+1=(Ql c G.data.toList).length:=by
  have j:=Lib.splitB_all ⟨#[c]⟩ (Je 1) 0 (Lib.countB G ⟨#[c]⟩) G rfl;have y:=congrArg List.length u;rw[Jaz,Jaz,j] at y;exact y
 have B:(Ql c G.data.toList).length<=1001:=by
  have:=Xy c G.data.toList;have b:G.data.toList.length=G.size:=by rw[WS,Jat]
  omega
 rw[M,u];refine⟨_,_,rfl,?_,(Jc _ _).alloc (Je _) _⟩
 exact J8.made _ _ _ _ _ (Je _) (by simp) (Je _) (by unfold maxLen;omega) (by
  rw[List.toList_toArray,JaA];exact Jav (by rw[Jaz];exact Je _))
theorem Jc2{p:Prop}(h:p:=by
 rintro e w2 ⟨E,z,t,rfl,r⟩;have A:=H r;clear r;go_wp2_with fail
 go_roundw
 case rel=>exact⟨k+1,E,z,g++[t],false,O,by go_num,H (by rw[WV,J.out];rfl),H (.inr ⟨rfl,I.out⟩),A⟩
 case measure=>simp[intOf];omega):p:=h
def M0 (w:World)(b:Option (List Nat)):Ending->World->Prop:=λe d=>∃(s:Option Addr) (o:Nat) (a:List Nat) (ok:Bool),e=.returned (.tuple #[.slice s a.length o,ok])/\
 J8 d w.heap.size 1 s a.length o (a.map λ(m:Nat)=>Value.int .u64 (m:Int))/\Ji w d/\a.length<=1001/\((ok=true/\b=some a)\/(ok=false/\b=none))
theorem Ba.start {w V:World}{j:Option Addr}{o r:Nat}{P:List (List UInt8)}(g:J8 V ((w.alloc (Obj.cells #[Value.slice none 0 0] 252)).alloc (Obj.cells #[Value.bool true] 4)).heap.size 1 j o r (P.map Bv))
 (d:Below ((w.alloc (Obj.cells #[Value.slice none 0 0] 252)).alloc (Obj.cells #[Value.bool true] 4)).heap.size ((w.alloc (Obj.cells #[Value.slice none 0 0] 252)).alloc (Obj.cells #[Value.bool true] 4)) V):
 Ba w V V.heap.size j o r P none 0 0 [] true where
 below:=Wx (Below.all (Below.all (Jc _ _) _) _) d
 list:=(d.cell (p:=⟨w.heap.size,0,none⟩) (by simp;omega)).trans (by simp[go_sem])
 okc:=(d.cell (p:=⟨w.heap.size+1,0,none⟩) (by simp)).trans (by simp[go_sem])
 listF:=(d.frozen (p:=⟨w.heap.size,0,none⟩) (by simp;omega)).trans (by simp[go_sem])
 okF:=(d.frozen (p:=⟨w.heap.size+1,0,none⟩) (by simp)).trans (by simp[go_sem])
 parts:=by simpa using g
 plt:=λa ha=>(g.lt ha).2
 hiW:=Je _
 lo:=by have:=d.size;simpa using this
 row:=J8.nil _ _ _
theorem Rf (G:ByteArray)(w:World)(ad:G.size<=1000)(ac:Env w):Jf 174 #[.string G] w (M0 w (Qn G.data.toList)):=by
 have ag:=H ac;clear ac;by_cases V:G=⟨#[]⟩
 ·subst V;go_enter func174,ntmps174
  go_wp2_with fail
  refine Jag (v:=.tuple #[Jbo,true]) (by simp[results,results174,go_sem]) rfl ⟨none,0,[],true,rfl,J8.nil _ _ _,?_,by simp,.inl ⟨rfl,rfl⟩⟩;exact Below.all (Below.all (Jc _ _) _) _
 ·have W:G.data.toList≠[]:=λe=>V (by cases G;rename_i aD;cases aD;simp only at e;subst e;rfl)
  have af:=H (show Qn G.data.toList=(Ql 58 G.data.toList).mapM FK by rw[Qn,Yw W]);have aC:G.data.toList.length=G.size:=by rw[WS,Jat]
  have av:Hid (∀p∈Ql 58 G.data.toList,p.length<=1000):=H (λp an=>by have:=ZK 58 _ p an;omega);have ai:Hid ((Ql 58 G.data.toList).length<=1001):=H (by have:=Xy 58 G.data.toList;omega);have ax:=H (λw h=>Gf G 58 w h ad)
  have aK:G.toList.isEmpty=false:=by rw[A1];cases h:G.data.toList with
   |nil=>exact absurd h W
   |cons am aG=>rfl
  clear V aC ad W;generalize Ql 58 G.data.toList=a at*;go_enter func174,ntmps174
  go_wp2_with fail
  refine Jb (ax _ (ag.below (Below.all (Below.all (Jc _ _) _) _))) ?_;rintro e aq ⟨aB,M,rfl,Y,ab⟩;have az:=H (Ba.start Y ab);clear Y ab;have al:=ai.out;generalize Z:a.length=u at*;have X:=H Z;clear Z;generalize aq.heap.size=F at*;go_wp2_with fail
  go_loopw [6,13] (λu6 u13 wr=>∃(k:Nat) (s:Option Addr) (o:Nat) (g:List Nat) (ok:Bool),k<=u/\u13=.int .i64 k/\Hid (g.length=k)/\Hid ((ok=true/\(a.take k).mapM FK=some g)\/(ok=false/\a.mapM FK=none))/\Hid (Ba w wr F aB u M a s k o g ok)) (λ_ u13 _=>(u:Int)-intOf u13 |>.toNat)
  case atStart=>exact⟨0,none,0,[],true,WG _,rfl,H rfl,H (.inl ⟨rfl,rfl⟩),az⟩
  case round=>
   obtain⟨k,s,o,g,ok,aJ,rfl,J,ah,l⟩:=hrel;by_cases ar:k<u
   ·have S:k<a.length:=by rw[X.out];exact ar
    obtain⟨aO,aM,ay,aP,aF,aa,ao⟩:=l.parts.here O;subst ay;have ap:=aa k (Bv a[k]) (by simp[S]);have R:=av.out a[k] (Yj S);have aw:=H (show a.take (k+1)=a.take k++[a[k]] by rw[Yt S]);have ae:=H (λh=>DN FK a k S h);have T:=H (ag.below l.below);clear aa ao;unfold Bv at ap;generalize a[k]=p at*;have L:(⟨p.toArray⟩:ByteArray).size=p.length:=by simp[ByteArray.size]
    have U:((⟨p.toArray⟩:ByteArray).data.toList)=p:=by simp
    have P:(⟨p.toArray⟩:ByteArray).size<=1000:=O;have Q:k<=1000:=O;rcases ah.out with ⟨rfl,B⟩|⟨rfl,B⟩
    ·cases hn:Q0 16 65536 p with
     |none=>
      have I:=H (ae (by unfold FK;split<;>simp[hn]));rw[<-U] at hn;clear R L;go_wp2_with fail
      refine Jb (MY _ P w wr F _ u M a s k o g T Q l hn) ?_;exact Jc2
     |some n=>
      by_cases N:p.length<=4
      ·have I:=H (show(a.take (k+1)).mapM FK=some (g++[n]) by rw[aw.out];exact DM _ _ _ _ _ B (by unfold FK;rw[YH N,hn]));rw[<-U] at hn;rw[<-L] at N;clear R L;go_wp2_with fail
       refine Jb (MZ _ P w wr F _ u M a s k o g T Q l n hn N) ?_;rintro e w2 ⟨E,z,t,rfl,r,rfl⟩;have A:=H r;clear r;go_wp2_with fail
       go_roundw
       case rel=>exact⟨k+1,E,z,g++[t],true,O,by go_num,H (by rw[WV,J.out];rfl),H (.inl ⟨rfl,I.out⟩),A⟩
       case measure=>simp[intOf];omega
      ·have I:=H (ae (by unfold FK;rw[Yw N]));rw[<-U] at hn;have aj:4<(⟨p.toArray⟩:ByteArray).size:=O;clear R L;go_wp2_with fail
       refine Jb (Ll _ P w wr F _ u M a s k o g T Q l n hn aj) ?_;exact Jc2
    ·have I:=H B;clear R L;go_wp2_with fail
     refine Jb (OO _ P w wr F _ u M a s k o g T Q l) ?_;exact Jc2
   ·obtain rfl:k=u:=O;have ak:Hid (a.take k=a):=H (by rw[Jav (by rw[X.out];exact Je _)]);have au:=l.list;have aA:=l.okc;have aL:=l.listF;have aH:=l.okF;go_wp2_with fail
    go_region
    go_wp2_with fail
    refine Jag (v:=.tuple #[.slice s k o,ok]) (by simp[results,results174,go_sem,au,aA]) rfl ?_;have j:=l.row;have aE:=l.lo;have y:∀(b:Nat) (t:Value),b<F->∀d,J8 d F 1 s k o (g.map λ(m:Nat)=>Value.int .u64 (m:Int))->J8 (d.setCell ⟨b,0,none⟩ t) F 1 s k o (g.map λ(m:Nat)=>Value.int .u64 (m:Int)):=λb t aN d h=>h.other (λam ha=>by have:=(h.lt ha).1;simp only;omega) t
    obtain rfl:=J.out;have al:=ai.out;have aI:=X.out;refine⟨s,o,g,ok,rfl,?_,?_,O,?_⟩
    ·exact J8.mono (by first|exact(y _ _ O _ (y _ _ O _ j)).drew|exact y _ _ O _ (y _ _ O _ j)|exact y _ _ O _ (y _ _ O _ j.drew)) O
    ·first|exact((l.below.setCell (by simp only;omega) _).setCell (by simp only;omega) _).drew|exact(l.below.setCell (by simp only;omega) _).setCell (by simp only;omega) _|exact(l.below.drew.setCell (by simp only;omega) _).setCell (by simp only;omega) _
    ·rcases ah.out with ⟨h,B⟩|⟨h,B⟩
     ·exact .inl ⟨h,by rw[af.out,<-B,ak.out]⟩
     ·exact .inr ⟨h,by rw[af.out,B]⟩
theorem Qu {w:World}{b n:Nat}{S d:Array Value}{t:TypeId}{e:Nat×Nat}(h:w.heap[b]? =some (.cells S t e))(z:d.size=n:=by rfl):Jv (w.setRow b d) b 0 n=d:=by
 rw[JG _ _ _ _ _ _ _ (Jaf _ _ _ _ _ _ h)];subst z;simp
def AI (l:List Nat)(i:Nat):Int:=(l.getD i 0:Nat)
def CJ (w:World)(C:Option (List Nat)):Ending->World->Prop:=λe d=>∃(U:Nat->Int) (ok:Bool),e=.returned (.tuple #[adV false U,ok])/\Ji w d/\
 ((ok=true/\∃l,C=some l/\∀i,i<16->U i=AI l i)\/(ok=false/\C=none))
theorem CJ.mk {w d:World}{b:Option (List Nat)}{B:Nat->Int}{ok:Bool}(e:Ji w d)(h:(ok=true/\∃l,b=some l/\∀i,i<16->B i=AI l i)\/(ok=false/\b=none)):
 CJ w b (.returned (.tuple #[adV false B,ok])) d:=⟨B,ok,rfl,e,h⟩
theorem AJ:(prog.info? 27).map (·.size)=some 17:=K
theorem Zu:(prog.info? 36).map (·.size)=some 17:=K
theorem Ub (n:Int)(X:0<=n)(j:n<256):IntKind.u8.wrap n=n:=by
 simp[IntKind.wrap,IntKind.bits,IntKind.signed];omega
theorem SQ (G:ByteArray)(w:World)(z:G.size<=1000)(V:Env w):Jf 120 #[.string G] w (CJ w (Gd G.data.toList)):=by
 have Z:=H V;clear V;have u:Hid (Gd G.data.toList=if (Ql 46 G.data.toList).length=4 then (Ql 46 G.data.toList).mapM (DJ 256) else none):=H rfl;have aF:G.data.toList.length=G.size:=by rw[WS,Jat]
 have ap:Hid (∀p∈Ql 46 G.data.toList,p.length<=1000):=H (λp ac=>by have:=ZK 46 _ p ac;omega);have aE:Hid ((Ql 46 G.data.toList).length<=1001):=H (by have:=Xy 46 G.data.toList;omega);have av:=H (λw h=>Gf G 46 w h z);clear aF z;generalize Ql 46 G.data.toList=a at*;go_enter func120,ntmps120
 go_wp2_with fail
 refine Jb (av _ (Z.below (Below.all (Jc _ _) _))) ?_;rintro aA ah ⟨aB,ay,rfl,N,A⟩;have s:=H ((Qa.made0 w 27 false).below A);have Q:=H (Wx (Below.all (Jc _ _) _) A);have ad:=H N;clear N A;by_cases o:a.length=4
 ·rw[o];have d:=H o;clear o;go_wp2_with fail
  go_loopw [3,5] (λu3 u5 wr=>∃(k:Nat) (ok:Bool) (U:Nat->Int),k<=4/\u5=.int .i64 k/\u3=.bool ok/\Hid (Qa wr w.heap.size 27 false U)/\Hid (J8 wr (w.heap.size+1) 1 aB 4 ay (a.map Bv))/\Hid (Ji w wr)/\
   Hid ((ok=true/\∃l,(a.take k).mapM (DJ 256)=some l/\∀i,i<16->U i=AI l i)\/(ok=false/\a.mapM (DJ 256)=none))) (λ_ u5 _=>(4:Int)-intOf u5 |>.toNat)
  case atStart=>exact⟨0,true,λ_=>0,O,rfl,rfl,s,H (by have:=ad.out;rwa [d.out,Jai] at this),Q,H (.inl ⟨rfl,[],rfl,λi _=>by simp[AI]⟩)⟩
  case round=>
   obtain⟨k,ok,U,aN,rfl,rfl,b,y,e,F⟩:=hrel;by_cases ai:k<4
   ·cases ok
    ·have P:=b.part;have T:=b.row;have S:=b.heap;have aD:=H (show a.mapM (DJ 256)=none by rcases F.out with ⟨h,-⟩|⟨-,h⟩;cases h;exact h);have g:=H S;clear S;go_wp2_with fail
     refine Jag (v:=.tuple #[adV false U,false]) ?_ ?_ ?_
     ·exact JY _ _ underlying27 AJ rfl _ _ w.heap.size (.bool false) rfl rfl (Qu g)
     ·rfl
     exact CJ.mk (below_setRow e (Je _) _) (.inr ⟨rfl,by rw[u.out,YH d.out,aD.out]⟩)
    ·have t:k<a.length:=by rw[d.out];exact ai
     obtain⟨aR,aO,aw,aS,aI,I,ae⟩:=y.here O;subst aw;have R:=I k (Bv a[k]) (by simp[t]);have an:=ap.out a[k] (Yj t);have aq:=H (show a.take (k+1)=a.take k++[a[k]] by rw[Yt t]);have ar:=H (λh=>DN (DJ 256) a k t h);have aC:=H (Z.below e);clear I ae;unfold Bv at R;generalize a[k]=p at*;have ax:(⟨p.toArray⟩:ByteArray).size=p.length:=by simp[ByteArray.size]
     have J:((⟨p.toArray⟩:ByteArray).data.toList)=p:=by simp
     have X:(⟨p.toArray⟩:ByteArray).size<=1000:=O;have C:=H (MW ⟨p.toArray⟩ 256 O X wr aC);rw[J] at C;clear an ax J X;go_wp2_with fail
     refine Jb C ?_;rintro aA w2 ⟨n,ab,rfl,aJ,aP,Y,r⟩;have B:=H (b.below r);have ag:=H (y.below r);have ao:=H (Wx e r);have aK:=B.cell k O;have aT:=B.free (1+k);have af:=H Y;clear Y R b y e C r;go_wp2_with fail
     go_roundw
     case rel=>
      refine⟨k+1,ab,λi=>if i=k then n%256 else U i,O,by go_num,rfl,H (B.set k O _),H (ag.other (λaH ha=>by cases ha;simp only;omega) _),H (ao.setCell (Je _) _),H ?_⟩;rcases af.out with ⟨rfl,aj,L⟩|⟨rfl,L⟩
      ·obtain⟨l,M,E⟩:∃l,List.mapM (DJ 256) (List.take k a)=some l/\∀(i:Nat),i<16->U i=AI l i:=by rcases F.out with ⟨-,h⟩|⟨h,-⟩;exact h;cases h
       have ak:l.length=k:=by rw[DO _ _ _ M,WR];omega
       have aQ:=(Zn.1 L).1;refine .inl ⟨rfl,l++[n.toNat],by rw[aq.out];exact DM _ _ _ _ _ M L,λi am=>?_⟩;by_cases W:i=k
       ·subst W;simp only[YW,AI];rw[Yi,WZ O];simp[ak];omega
       ·simp only[Yw W,E i am,AI];rw[Yi,Yi];by_cases aM:i<k
        ·rw[WX O]
        ·rw[W5 O,W5 (by simp;omega)]
      ·exact .inr ⟨rfl,ar.out L⟩
     case measure=>simp[intOf];omega
   ·obtain rfl:k=4:=O;have P:=b.part;have T:=b.row;have g:=H b.heap;have aa:Hid (a.take 4=a):=H (by rw[Jav (by rw[d.out];exact Je _)]);go_wp2_with fail
    refine Jag (v:=.tuple #[adV false U,ok]) ?_ ?_ ?_
    ·exact JY _ _ underlying27 AJ rfl _ _ w.heap.size (.bool ok) rfl rfl (Qu g)
    ·rfl
    refine CJ.mk (below_setRow e (Je _) _) ?_;rcases F.out with ⟨j,l,M,E⟩|⟨j,al⟩
    ·exact .inl ⟨j,l,by rw[u.out,YH d.out,<-aa.out];exact M,E⟩
    ·exact .inr ⟨j,by rw[u.out,YH d.out,al]⟩
 ·have aG:((a.length:Int)==4)=false:=by simp;omega
  have az:=H o;have P:=s.part;have T:=s.row;have g:=H s.heap;have aL:=aE.out;generalize a.length=au at*;go_wp2_with fail
  go_loopw [3,5] (λu3 u5 wr=>u5=.int .i64 0/\u3=.bool false/\wr=ah) (λ_ u5 _=>0)
  case atStart=>exact⟨rfl,rfl,rfl⟩
  case round=>
   obtain⟨rfl,rfl,rfl⟩:=hrel;by_cases aj:0<au
   all_goals
    go_wp2_with fail
    refine Jag (v:=.tuple #[adV false λ_=>0,false]) ?_ ?_ ?_
    ·exact JY _ _ underlying27 AJ rfl _ _ w.heap.size (.bool false) rfl rfl (Qu g)
    ·rfl
    exact CJ.mk (below_setRow Q (Je _) _) (.inr ⟨rfl,by rw[u.out,Yw az.out]⟩)
end
section
open Go.RowKit
theorem BC (a:Value)(n:Nat):Builtin.zeroCells #[a] n=(List.replicate n a).toArray:=by
 apply Array.ext
 ·simp[Builtin.zeroCells]
 ·intro i j y;simp[Builtin.zeroCells,Nat.mod_one]
section
variable {P:Program}
theorem B0 (w:World)(t b p e:TypeId)(i:TypeInfo)(j:IntKind)(g:P.underlying t=some (.slice e))(d:P.underlying b=some (.int j))(F:P.info? e=some i)(a:Option Addr)(n o:Nat)(l:n<=o):
 (Builtin.append_ #[t,b] p #[.slice a n o,Jk ((0:Nat):Int)]).run P w=.ok (.slice a n o) w:=by
 have R:IntKind.i64.wrap ((0:Nat):Int)=0:=by rw[JaI];decide
 have r:IntKind.i64.wrap 0=0:=R;cases a<;>simp[Builtin.append_,Yn g,Yn d,sizeOf,typeInfo,F,asInt,asIntOf,r,l,storeCells,Question.forced]
theorem Ca (w:World)(t g B e:TypeId)(i:TypeInfo)(a:Value)(L:IntKind)(y:P.underlying t=some (.slice e))(l:P.underlying g=some (.int L))(F:P.info? e=some i)(M:i.zero=some a)(s:a.cells=#[a])
 (r b n o k:Nat)(X:0<k)(C:i.size=1)(E:n+k<=o)(A:k<=1000000)(Q:k*i.bytes<=281474976710656)(j:a.oneCell'=true)
 (I:∀J,J<k->(w.cell? ⟨r,b+n+J,none⟩).isSome=true)(G:∀J,J<k->w.frozen? ⟨r,b+n+J,none⟩=false):
 (Builtin.append_ #[t,g] B #[.slice (some ⟨r,b,none⟩) n o,Jk (k:Int)]).run P w=.ok (.slice (some ⟨r,b,none⟩) (n+k) o) (w.setCells r (b+n) (List.replicate k a)):=by
 have d:=run_storeCells_cells (P:=P) r (b+n) (List.replicate k a) 0 w (by simpa using I) (by simpa using G) (λv p=>by rw[(JaJ.1 p).2];exact j);simp only[Jal] at d;have R:IntKind.i64.wrap (k:Int)=k:=by rw[JaI];omega
 have N:¬((k:Int)<0):=O;have u:k≠0:=O;have z:¬(281474976710656<(k:Int)*(i.bytes:Int)):=by rw[<-Int.natCast_mul];omega
 simp[Builtin.append_,Yn y,Yn l,sizeOf,typeInfo,zeroValue,F,M,C,asInt,asIntOf,R,N,z,u,E,s,BC,W3,d,Question.forced]
theorem Cb (w:World)(t v B e:TypeId)(b:Value)(bytes L:Nat)(G:IntKind)(I:P.underlying t=some (.slice e))(N:P.underlying v=some (.int G))
 (ah:(P.info? e).map (λi=>(i.zero,i.size,i.bytes))=some (some b,1,bytes))(V:b.cells=#[b])(au:b.oneCell'=true)
 (s:Option Addr)(n o:Nat)(j:List Value)(p:J8 w L 1 s n o j)(k:Nat)(A:k<=1000000)(Z:n+k<=maxLen)(S:(n+k)*bytes<=140737488355328)(aj:L<=w.heap.size):
 ∃W aa d,(Builtin.append_ #[t,v] B #[.slice s n o,Jk (k:Int)]).run P w=.ok (.slice W (n+k) aa) d/\J8 d L 1 W (n+k) aa (j++List.replicate k b)/\
  w.grownBy d (s.map Addr.block)/\(∀a,W=some a->s=some a\/w.heap.size<=a.block):=by
 obtain⟨i,F,Y,ac,R⟩:=WT ah;have aE:k*i.bytes<=140737488355328:=by rw[R];exact WJ (WQ _ O) S
 rcases Yo k with X|X
 ·subst X;exact⟨s,o,w,B0 w t v B e i G I N F s n o p.le,by simpa using p,WB w _,λa ha=>.inl ha⟩
 ·have ag:((n+k:Nat):Int)<=9223372036854775807:=by unfold maxLen at Z;omega
  have aw:=grownCap_ge w (n+k) o e;have ak:grownCap w (n+k) o e<=maxLen:=grownCap_le_maxLen w (n+k) o e Z
  have af:∀(E:List Value),E.length=n->(∀z,(E[n]? =some z)->False)->E=j->∀rest:Nat,rest=grownCap w (n+k) o e-(n+k)->
   J8 (w.drew.alloc (.cells (E.toArray++Builtin.zeroCells b.cells k++Builtin.zeroCells b.cells rest) e)) L 1 (some ⟨w.heap.size,0,none⟩) (n+k) (grownCap w (n+k) o e) (j++List.replicate k b):=by
   intro E M _ ap rest aD;subst ap;refine J8.made (w:=w.drew) _ _ _ _ _ (by simpa using aj) ?_ aw ak ?_
   ·simp only[Array.size_append,JaK,size_zeroCells,M,V,JaA,JaK,Ys];omega
   ·rw[V,BC,BC];simp only[List.append_toArray,List.toList_toArray,JaA];rw[List.take_append_of_le_length (by simp[M])];exact Jav (by simp[M])
  rcases p.at' with ⟨rfl,rfl⟩|⟨r,g,rfl,av,al,ab,Q⟩
  ·have ao:n=0:=by have:=p.le;omega
   subst ao;have aq:j=[]:=WL (by simpa using p.len);subst aq;have u:=Lib.run_append_grow_zeros (P:=P) w t v B e i b .i64 G I N F Y none 0 0 [] (by simp[Builtin.firstCells]) k X O O ag O (growslice_fits O (by rw[R];exact S));refine⟨_,_,_,u,af [] rfl (by simp) rfl _ rfl,⟨rfl,rfl,rfl,by simp,λk A _=>YU w.drew _ A⟩,λa ha=>.inr ?_⟩;cases ha;exact Je _
  ·by_cases ad:n+k<=o
   ·have T:∀J,J<k->(w.cell? ⟨r,g+n+J,none⟩).isSome=true:=λJ y=>by have:=(Q (n+J) O).1;rwa [<-WU] at this
    have ay:∀J,J<k->w.frozen? ⟨r,g+n+J,none⟩=false:=λJ y=>by have:=(Q (n+J) O).2;rwa [<-WU] at this
    have u:=Ca (P:=P) w t v B e i b G I N F Y V r g n o k X ac ad A O au T ay;have an:=p.len;refine⟨_,_,_,u,⟨by rw[WV,List.length_replicate,an];omega,ad,p.max,.inr ⟨r,g,rfl,av,?_,λJ z l=>?_,λJ y=>?_⟩⟩,?_,λa ha=>.inl ha⟩
    ·have A:=WW r (may:=λ_=>True) (List.replicate k b) (g+n) w (λ_ _=>trivial);exact Jd al A.size
    ·by_cases y:J<j.length
     ·rw[WX y] at l;rw[WY r _ _ _ _ (λ_ _=>Or.inl (by simp only;omega))];exact ab J z l
     ·rw[WZ O] at l;have ae:=(W0.1 l).1;have:=W1 r (List.replicate k b) (g+n) w (by simpa using T) (J-j.length) ae;rw[show g+J=g+n+(J-j.length) from O,this,<-l,W2 ae]
    ·rw[World.frozen?_setCells];refine⟨?_,(Q J y).2⟩;by_cases aC:n<=J/\J<n+k
     ·have:=W1 r (List.replicate k b) (g+n) w (by simpa using T) (J-n) (by simp;omega);rw[show g+J=g+n+(J-n) from O,this];rfl
     ·rw[WY r _ _ _ _ (λ_ _=>by simp only[List.length_replicate];omega)];exact(Q J y).1
    ·have A:=WW r (may:=λaA=>aA.block=r) (List.replicate k b) (g+n) w (λ_ _=>rfl)
     have az:∀(U:List Value) (C:Nat) (w:World),(w.setCells r C U).tape=w.tape:=by
      intro U;induction U with
      |nil=>intro C w;rfl
      |cons aF aB am=>intro C w;rw[World.setCells,am];rfl
     refine⟨A.1,az _ _ _,A.2.1,A.size,λk ax ar=>?_⟩;exact A.block ax (λ_ ai e=>ar (by simp[<-ai,e]))
   ·have u:=Lib.run_append_grow_zeros (P:=P) w t v B e i b .i64 G I N F Y (some ⟨r,g,none⟩) n o j (run_firstCells_some (P:=P) w.drew i.size n ⟨r,g,none⟩ n o j (by rw[ac];exact p.len) (λJ z l=>by rw[W3];exact ab J z l)) k X O O ag O (growslice_fits O (by rw[R];exact S));refine⟨_,_,_,u,af j (by simpa using p.len) (λz l=>by rw[W5 (by have:=p.len;omega)] at l;cases l) rfl _ rfl,⟨rfl,rfl,rfl,by simp,λk A _=>YU w.drew _ A⟩,λa ha=>.inr ?_⟩;cases ha;exact Je _
theorem AK (w:World){F:Array Oper}{rest:List Oper}{l:Oper}{a:Act}{I:Exit->Act->World->Prop}
 (U:l.guard=none)(G x:Operand)(t p:TypeId)(X:l.op=Op.call { callee:=Callee.builtin Builtin.append,args:=#[G,x],argTypes:=#[t,p] })
 (e:TypeId)(b:Value)(bytes B:Nat)(J:IntKind)(V:P.underlying t=some (.slice e))(L:P.underlying p=some (.int J))
 (S:(P.info? e).map (λi=>(i.zero,i.size,i.bytes))=some (some b,1,bytes))(N:b.cells=#[b])(j:b.oneCell'=true)
 (s:Option Addr)(n o:Nat)(E:List Value)(z:a.eval G=.slice s n o)(T:J8 w B 1 s n o E)(k:Nat)(R:a.eval x=.int .i64 (k:Int))(A:k<=1000000)(M:n+k<=maxLen)(W:(n+k)*bytes<=140737488355328)(Z:B<=w.heap.size)
 (h:∀g r d,J8 d B 1 g (n+k) r (E++List.replicate k b)->w.grownBy d (s.map Addr.block)->(∀a,g=some a->s=some a\/w.heap.size<=a.block)->wpList P F I rest (a.put l.dst (.slice g (n+k) r)) d):
 wpList P F I (l::rest) a w:=by
 obtain⟨g,r,d,u,y,Y,Q⟩:=Cb (P:=P) w t p l.type e b bytes B J V L S N j s n o E T k A M W Z;exact Lib.wpList_append_run w U G x t p X _ _ z R _ _ u (h g r d y Y Q)
end
end
section
def C4 (l:List Nat)(i:Nat):Int:=if i%2=0 then ((l.getD (i/2) 0/256:Nat):Int) else ((l.getD (i/2) 0%256:Nat):Int)
theorem Uc (l:List UInt8):Lib.cut l [58,58]=if Lib.index l [58,58]=-1 then (l,[],false) else (l.take (Lib.index l [58,58]).toNat,l.drop ((Lib.index l [58,58]).toNat+2),true):=by
 unfold Lib.cut;have:=Lib.index_ge l [58,58];by_cases h:Lib.index l [58,58]=-1
 ·rw[YH h,Yw O]
 ·rw[Yw h,YH O];rfl
def N0 (c:List UInt8×List UInt8×Bool):Option (List Nat):=(Qn c.1).bind λl=>(Qn c.2.1).bind λm=>
 if (c.2.2=true/\l.length+m.length<=7)\/(c.2.2=false/\l.length+m.length=8) then some (l++List.replicate (8-l.length-m.length) 0++m) else none
theorem N1 (l:List UInt8):Fx l=N0 (Lib.cut l [58,58]):=by
 rw[Uc];unfold Fx;split
 ·rename_i h;simp only[N0];have X:Qn []=some []:=rfl;rw[X];cases Qn l with
  |none=>rfl
  |some m=>
   simp only[Option.bind];by_cases W:m.length=8
   ·rw[YH W,YH (.inr ⟨by simp,by simpa using W⟩),W];simp
   ·rw[Yw W,Yw (by simp;omega)]
 ·simp only[N0];cases Qn (l.take (Lib.index l [58,58]).toNat) with
  |none=>rfl
  |some a=>
   simp only[Option.bind];cases Qn (l.drop ((Lib.index l [58,58]).toNat+2)) with
   |none=>rfl
   |some b=>simp
theorem Ud (l a:List UInt8):(Lib.cut l a).1.length<=l.length/\(Lib.cut l a).2.1.length<=l.length:=by
 unfold Lib.cut;split
 ·simp;omega
 ·simp
open Go.Lib
theorem Jdt{p:Prop}(h:p:=by
 have:d=0\/d=1\/d=2\/d=3\/d=4\/d=5\/d=6\/d=7\/d=8\/d=9\/d=10\/d=11\/d=12\/d=13\/d=14\/d=15:=O;rcases this with rfl|rfl|rfl|rfl|rfl|rfl|rfl|rfl|rfl|rfl|rfl|rfl|rfl|rfl|rfl|rfl<;>decide):p:=h
theorem Gg (c x:UInt8):∀l:List UInt8,x∈l->x=c\/∃p∈Ql c l,x∈p
 |[],h=>by cases h
 |y::T,h=>by
  rw[Ql];by_cases b:y=c
  ·rw[YH b];rcases YE.1 h with rfl|h
   ·exact .inl b
   ·rcases Gg c x T h with h|⟨p,E,P⟩
    ·exact .inl h
    ·exact .inr ⟨p,Yg _ E,P⟩
  ·rw[Yw b];cases hc:Ql c T with
   |nil=>exact absurd hc (CC c T)
   |cons a t=>
    rcases YE.1 h with rfl|h
    ·exact .inr ⟨x::a,by simp,by simp⟩
    ·rcases Gg c x T h with h|⟨p,E,P⟩
     ·exact .inl h
     ·rw[hc] at E;rcases YE.1 E with rfl|E
      ·exact .inr ⟨y::p,by simp,by simp[P]⟩
      ·exact .inr ⟨p,by simp[E],P⟩
theorem Lm {e d:Type}(f:e->Option d):∀(l:List e) (a:List d),l.mapM f=some a->∀x∈l,∃b,f x=some b
 |[],_,_,x,P=>by cases P
 |y::l,a,h,x,P=>by
  rw[JaF] at h;cases hy:f y with
  |none=>rw[hy] at h;cases h
  |some b=>
   rw[hy] at h;cases hl:l.mapM f with
   |none=>rw[hl] at h;cases h
   |some m=>
    rcases YE.1 P with rfl|P
    ·exact⟨b,hy⟩
    ·exact Lm f l m hl x P
theorem M1 {p:List UInt8}{n:Nat}(h:FK p=some n):∀c∈p,XL c<16:=by
 unfold FK at h;split at h
 ·unfold Q0 at h;split at h
  ·cases h
  ·exact Dm 16 65536 p 0 n h
 ·cases h
theorem Gh {l:List UInt8}{m:List Nat}(h:Qn l=some m):(46:UInt8)∉l:=by
 intro P;unfold Qn at h;split at h
 ·rename_i e;subst e;cases P
 ·rcases Gg 58 46 l P with X|⟨p,E,a⟩
  ·exact absurd X D
  ·obtain⟨b,g⟩:=Lm FK _ _ h p E;have:=M1 g 46 a;exact absurd this D
theorem Ue (x:UInt8)(l:List UInt8)(P:x∈l):x∈(cut l [58,58]).1\/x∈(cut l [58,58]).2.1\/x=58:=by
 unfold cut;split
 ·rename_i h;rcases index_spec l [58,58] with ⟨j,-⟩|⟨i,j,y,Y,-⟩
  ·omega
  ·rw[j] at*;simp only[Jak,Yy,Jau];have e:l=l.take i++l.drop i:=(List.take_append_drop _ _).symm;rw[e,Ye] at P;rcases P with P|P
   ·exact .inl P
   ·obtain⟨T,u⟩:∃T,l.drop i=58::58::T:=by
     unfold occAt at Y;obtain⟨T,u⟩:=List.isPrefixOf_iff_prefix.1 Y;exact⟨T,by simpa using u.symm⟩
    have L:l.drop (i+2)=T:=by rw[<-List.drop_drop,u];rfl
    rw[u] at P;rcases YE.1 P with h|P
    ·exact .inr (.inr h)
    ·rcases YE.1 P with h|P
     ·exact .inr (.inr h)
     ·exact .inr (.inl (by rw[L];exact P))
 ·exact .inl P
theorem SR {l:List UInt8}{m:List Nat}(h:Fx l=some m):(46:UInt8)∉l:=by
 intro P;rw[N1] at h;unfold N0 at h;cases h1:Qn (cut l [58,58]).1 with
 |none=>rw[h1] at h;cases h
 |some a=>
  rw[h1] at h;simp only[Option.bind] at h;cases h2:Qn (cut l [58,58]).2.1 with
  |none=>rw[h2] at h;cases h
  |some b=>
   rcases Ue 46 l P with Y|Y|Y
   ·exact Gh h1 Y
   ·exact Gh h2 Y
   ·exact absurd Y D
theorem SS (l:List UInt8){m:List Nat}(h:Fx l=some m):Gd l=none:=by
 unfold Gd;rw[EG 46 l (SR h)];rfl
theorem OP (d:Nat)(h:d<16):XL (hexc d)=d/\(hexc d)≠58/\(hexc d)≠46/\(hexc d)≠47:=by
 exact Jdt
theorem Uf (b u:Nat):X1 b u≠[]:=by
 rw[X1];split<;>simp
theorem CK (b:Nat)(g:b<=16)(a:2<=b):∀(k u:Nat),u<=k->∀c∈X1 b u,∃N,N<16/\c=hexc N
 |0,u,A,c,I=>by
  obtain rfl:u=0:=O;rw[X1,Jan O] at I;exact⟨0,O,by simpa using I⟩
 |k+1,u,A,c,I=>by
  rw[X1] at I;by_cases h:u<b
  ·rw[Jan (.inl h)] at I;exact⟨u,O,by simpa using I⟩
  ·rw[dif_neg O,Ye] at I;have d:u/b<u:=Nat.div_lt_self O O;rcases I with I|I
   ·exact CK b g a k (u/b) O c I
   ·exact⟨u%b,by have:=Yu u (show 0<b from O);omega,by simpa using I⟩
theorem EI (u:Nat)(h:u<65536):(X1 16 u).length<=4:=by
 rw[X1];split
 ·simp
 rw[X1];split
 ·simp
 rw[X1];split
 ·simp
 rw[X1,Jan (.inl O)];simp
theorem OQ (a:Nat):(58:UInt8)∉X1 16 a:=λh=>by
 obtain⟨N,L,e⟩:=CK 16 O O a a (Je _) 58 h;exact(OP N L).2.1 e.symm
theorem HX (x:UInt8)(T:List UInt8)(h:¬∃t,x::T=58::58::t):index (x::T) [58,58]=if index T [58,58]=-1 then-1 else index T [58,58]+1:=by
 rw[index]
 have:([58,58].isPrefixOf (x::T))=false:=by
  rw[Bool.eq_false_iff];intro E;obtain⟨t,a⟩:=List.isPrefixOf_iff_prefix.1 E;exact h ⟨t,by simpa using a.symm⟩
 rw[this];simp
theorem HY (r:List UInt8):index (58::58::r) [58,58]=0:=by
 rw[index];simp
def zg (g:Nat->Nat):Nat->Bool:=zof [g 0==0,g 1==0,g 2==0,g 3==0,g 4==0,g 5==0,g 6==0,g 7==0]
theorem VA (g:Nat->Nat)(i:Nat)(h:i<8):zg g i=(g i==0):=by
 rcases i with _|_|_|_|_|_|_|_|i;all_goals first|rfl|omega
def IX (g:Nat->Nat):List UInt8:=Av (λi=>X1 16 (g i)) (IK (zg g))
def Rg (b:Nat->Nat):List UInt8:=XX 46 ((List.range 4).map λi=>decDigits (b i))
theorem Gi (u:Nat):∀c∈decDigits u,∃d,d<16/\c=hexc d:=by
 rw[<-CE u u (Je _)];exact CK 10 O O u u (Je _)
open Go.Lib
def Zb (s:List UInt8):Option (Bool×(Nat->Int)):=match Gd s with
 |some l=>some (false,AI l)
 |none=>match Fx s with
  |some l=>some (true,C4 l)
  |none=>none
def DQ (o:Option (Bool×(Nat->Int))):Value:=match o with
 |some p=>.tuple #[adV p.1 p.2,Jk 0]
 |none=>.tuple #[adV false λ_=>0,Jk 40]
theorem Ug {a:Nat}{l:List UInt8}{n:Nat}(h:DJ a l=some n):n<a:=(Zn.1 h).1
theorem IY {e d:Type}(f:e->Option d)(p:d->Prop)(j:∀x b,f x=some b->p b):∀(l:List e) (a:List d),l.mapM f=some a->∀b∈a,p b
 |[],a,h,b,g=>by
  simp only[List.mapM_nil] at h;cases h;cases g
 |y::l,a,h,b,g=>by
  rw[JaF] at h;cases hy:f y with
  |none=>rw[hy] at h;cases h
  |some c=>
   rw[hy] at h;cases hl:l.mapM f with
   |none=>rw[hl] at h;cases h
   |some m=>
    rw[hl] at h;cases h;rcases YE.1 g with rfl|g
    ·exact j _ _ hy
    ·exact IY f p j l m hl b g
theorem N2 {G:List UInt8}{l:List Nat}(h:Gd G=some l):l.length=4/\∀n∈l,n<256:=by
 unfold Gd at h;split at h
 ·rename_i a;exact⟨by rw[DO _ _ _ h,a],IY _ (·<256) (λx b e=>Ug e) _ _ h⟩
 ·cases h
theorem Uh {p:List UInt8}{n:Nat}(h:FK p=some n):n<65536:=by
 unfold FK at h;split at h
 ·unfold Q0 at h;split at h
  ·cases h
  ·exact II 16 65536 p 0 n O h
 ·cases h
theorem EJ {G:List UInt8}{l:List Nat}(h:Qn G=some l):∀n∈l,n<65536:=by
 unfold Qn at h;split at h
 ·cases h;intro n B;cases B
 ·exact IY _ (·<65536) (λx b e=>Uh e) _ _ h
theorem M2 {G:List UInt8}{l:List Nat}(h:Fx G=some l):l.length=8/\∀n∈l,n<65536:=by
 unfold Fx at h;split at h
 ·cases hg:Qn G with
  |none=>rw[hg] at h;cases h
  |some a=>
   rw[hg] at h;simp only[Option.bind] at h;split at h
   ·cases h;rename_i d;exact⟨d,EJ hg⟩
   ·cases h
 ·cases hg:Qn (G.take (index G [58,58]).toNat) with
  |none=>rw[hg] at h;cases h
  |some a=>
   rw[hg] at h;simp only[Option.bind] at h;cases hg2:Qn (G.drop ((index G [58,58]).toNat+2)) with
   |none=>rw[hg2] at h;cases h
   |some b=>
    rw[hg2] at h;simp only at h;split at h
    ·cases h;refine⟨by simp;omega,λn B=>?_⟩;simp only[Ye,JaJ] at B;rcases B with (B|⟨-,rfl⟩)|B
     ·exact EJ hg n B
     ·omega
     ·exact EJ hg2 n B
    ·cases h
theorem Rh {l:List Nat}{m:Nat}(W:0<m)(h:∀n∈l,n<m)(i:Nat):l.getD i 0<m:=by
 rw[Yi];cases hi:l[i]? with
 |none=>simpa using W
 |some n=>exact h n (YD hi)
theorem SU {l:List Nat}(h:∀n∈l,n<256):U8 (AI l):=λi=>by
 have:=Rh O h i;unfold AI;omega
theorem Ui {l:List Nat}(h:∀n∈l,n<65536):U8 (C4 l):=λi=>by
 have:=Rh O h (i/2);unfold C4;split<;>omega
theorem M3 {l:List Nat}(h:l.length=4):Qr false (AI l)=true:=by
 rw[Bz];intro i a _;unfold AI;rw[Yi,W5 O];rfl
theorem Ln {G:List UInt8}{p:Bool×(Nat->Int)}(h:Zb G=some p):Qr p.1 p.2=true/\U8 p.2:=by
 unfold Zb at h;split at h
 ·rename_i l M;cases h;exact⟨M3 (N2 M).1,SU (N2 M).2⟩
 ·split at h
  ·rename_i l M;cases h;exact⟨rfl,Ui (M2 M).2⟩
  ·cases h
end
end Go.Proofs.YtkgjbipfhhjlpaaGreatDoor
