import Derived.Test.YtkgjbipfhhjlpaaGreatDoorMf25
set_option linter.unusedVariables false
set_option linter.unusedSimpArgs false
set_option maxRecDepth 100000
set_option maxHeartbeats 32000000
namespace Go.Proofs.YtkgjbipfhhjlpaaGreatDoor
section
open Go.ChangeShapes Go.WideShapes Go.ChangeAt Go.RowKit
theorem Jh3 {w:World}{r:Reach}{base:Nat}{v:Value}(h:Cell.okWide Tryz.prog w r base 28 v):∃n,v=.int .u16 n∧0≤n∧n<65536:=by
 simp only[Cell.okWide,Tryz.underlying28] at h
 cases v<;>simp_all [Cell.ok,Tryz.underlying28]
 obtain⟨h1,h2⟩:=h
 have e0:IntKind.u16.min=0:=by decide
 have e1:IntKind.u16.max=65535:=by decide
 simp only[IntKind.has,e0,e1] at h2
 omega
theorem Jld {w:World}{r:Reach}{base:Nat}{v:Value}(h:Cell.okWide Tryz.prog w r base 3 v):∃n,v=.int .i64 n∧-9223372036854775808≤n∧n≤9223372036854775807:=by
 simp only[Cell.okWide,Tryz.underlying3] at h
 cases v<;>simp_all [Cell.ok,Tryz.underlying3]
 obtain⟨h1,h2⟩:=h
 have e0:IntKind.i64.min=-9223372036854775808:=by decide
 have e1:IntKind.i64.max=9223372036854775807:=by decide
 simp only[IntKind.has,e0,e1] at h2
 omega
theorem JK {o:Option TypeId}{P:TypeId→Prop}{t:TypeId}(h:∃u,o=some u∧P u)(e:o=some t):P t:=by
 obtain⟨u,hu,hp⟩:=h
 rw[e] at hu
 cases hu
 exact hp
def Jm1:List Int→Prop
 |[]=>True
 |v::l=>(0≤v∧v<256)∧Jm1 l
theorem JhD:{l:List Int}→Jm1 l→U8 fun i=>l.getD i 0
 |[],_=>fun i=>⟨by simp,by simp⟩
 |v::l,h=>fun i=>by
  cases i with
  |zero=>exact h.1
  |succ i=>exact JhD h.2 i
theorem JmU {α:Type}(l:List α)(h:l.length=39):∃c0 c1 c2 c3 c4 c5 c6 c7 c8 c9 c10 c11 c12 c13 c14 c15 c16 c17 c18 c19 c20 c21 c22 c23 c24 c25 c26 c27 c28 c29 c30 c31 c32 c33 c34 c35 c36 c37 c38,l=[c0,c1,c2,c3,c4,c5,c6,c7,c8,c9,c10,c11,c12,c13,c14,c15,c16,c17,c18,c19,c20,c21,c22,c23,c24,c25,c26,c27,c28,c29,c30,c31,c32,c33,c34,c35,c36,c37,c38]:=by
 match l,h with
 |c0::c1::c2::c3::c4::c5::c6::c7::c8::c9::c10::c11::c12::c13::c14::c15::c16::c17::c18::c19::c20::c21::c22::c23::c24::c25::c26::c27::c28::c29::c30::c31::c32::c33::c34::c35::c36::c37::c38::[],_=>exact⟨c0,c1,c2,c3,c4,c5,c6,c7,c8,c9,c10,c11,c12,c13,c14,c15,c16,c17,c18,c19,c20,c21,c22,c23,c24,c25,c26,c27,c28,c29,c30,c31,c32,c33,c34,c35,c36,c37,c38,rfl⟩
theorem Jkd {w:World}{r:Reach}{base:Nat}{v:Value}(h:Value.okWide Tryz.prog w r base 47 v):∃k:Sp,v=.agg (spV k)∧Jha k:=by
 simp only[Value.okWide,Tryz.underlying47] at h
 obtain⟨cs,rfl,hs,ts,ht,-,hc⟩:=h
 have hts:Tryz.prog.cellTypes Tryz.prog.depth 47=some [4,5,5,5,5,5,5,5,5,5,5,5,5,5,5,5,5,4,5,5,5,5,5,5,5,5,5,5,5,5,5,5,5,5,5,28,28,5,3]:=by kernel_rfl
 rw[hts] at ht
 obtain rfl:=Option.some.inj ht
 have hs0:cs.size=39:=hs.trans (by kernel_rfl)
 obtain⟨l⟩:=cs
 obtain⟨c0,c1,c2,c3,c4,c5,c6,c7,c8,c9,c10,c11,c12,c13,c14,c15,c16,c17,c18,c19,c20,c21,c22,c23,c24,c25,c26,c27,c28,c29,c30,c31,c32,c33,c34,c35,c36,c37,c38,rfl⟩:=JmU l hs0
 obtain⟨n0,rfl⟩:=JgK (JK (hc 0 _ rfl) rfl)
 obtain⟨n1,rfl,h1⟩:=JO (JK (hc 1 _ rfl) rfl)
 obtain⟨n2,rfl,h2⟩:=JO (JK (hc 2 _ rfl) rfl)
 obtain⟨n3,rfl,h3⟩:=JO (JK (hc 3 _ rfl) rfl)
 obtain⟨n4,rfl,h4⟩:=JO (JK (hc 4 _ rfl) rfl)
 obtain⟨n5,rfl,h5⟩:=JO (JK (hc 5 _ rfl) rfl)
 obtain⟨n6,rfl,h6⟩:=JO (JK (hc 6 _ rfl) rfl)
 obtain⟨n7,rfl,h7⟩:=JO (JK (hc 7 _ rfl) rfl)
 obtain⟨n8,rfl,h8⟩:=JO (JK (hc 8 _ rfl) rfl)
 obtain⟨n9,rfl,h9⟩:=JO (JK (hc 9 _ rfl) rfl)
 obtain⟨n10,rfl,h10⟩:=JO (JK (hc 10 _ rfl) rfl)
 obtain⟨n11,rfl,h11⟩:=JO (JK (hc 11 _ rfl) rfl)
 obtain⟨n12,rfl,h12⟩:=JO (JK (hc 12 _ rfl) rfl)
 obtain⟨n13,rfl,h13⟩:=JO (JK (hc 13 _ rfl) rfl)
 obtain⟨n14,rfl,h14⟩:=JO (JK (hc 14 _ rfl) rfl)
 obtain⟨n15,rfl,h15⟩:=JO (JK (hc 15 _ rfl) rfl)
 obtain⟨n16,rfl,h16⟩:=JO (JK (hc 16 _ rfl) rfl)
 obtain⟨n17,rfl⟩:=JgK (JK (hc 17 _ rfl) rfl)
 obtain⟨n18,rfl,h18⟩:=JO (JK (hc 18 _ rfl) rfl)
 obtain⟨n19,rfl,h19⟩:=JO (JK (hc 19 _ rfl) rfl)
 obtain⟨n20,rfl,h20⟩:=JO (JK (hc 20 _ rfl) rfl)
 obtain⟨n21,rfl,h21⟩:=JO (JK (hc 21 _ rfl) rfl)
 obtain⟨n22,rfl,h22⟩:=JO (JK (hc 22 _ rfl) rfl)
 obtain⟨n23,rfl,h23⟩:=JO (JK (hc 23 _ rfl) rfl)
 obtain⟨n24,rfl,h24⟩:=JO (JK (hc 24 _ rfl) rfl)
 obtain⟨n25,rfl,h25⟩:=JO (JK (hc 25 _ rfl) rfl)
 obtain⟨n26,rfl,h26⟩:=JO (JK (hc 26 _ rfl) rfl)
 obtain⟨n27,rfl,h27⟩:=JO (JK (hc 27 _ rfl) rfl)
 obtain⟨n28,rfl,h28⟩:=JO (JK (hc 28 _ rfl) rfl)
 obtain⟨n29,rfl,h29⟩:=JO (JK (hc 29 _ rfl) rfl)
 obtain⟨n30,rfl,h30⟩:=JO (JK (hc 30 _ rfl) rfl)
 obtain⟨n31,rfl,h31⟩:=JO (JK (hc 31 _ rfl) rfl)
 obtain⟨n32,rfl,h32⟩:=JO (JK (hc 32 _ rfl) rfl)
 obtain⟨n33,rfl,h33⟩:=JO (JK (hc 33 _ rfl) rfl)
 obtain⟨n34,rfl,h34⟩:=JO (JK (hc 34 _ rfl) rfl)
 obtain⟨n35,rfl,h35⟩:=Jh3 (JK (hc 35 _ rfl) rfl)
 obtain⟨n36,rfl,h36⟩:=Jh3 (JK (hc 36 _ rfl) rfl)
 obtain⟨n37,rfl,h37⟩:=JO (JK (hc 37 _ rfl) rfl)
 obtain⟨n38,rfl,h38⟩:=Jld (JK (hc 38 _ rfl) rfl)
 exact⟨⟨⟨n0,fun i=>([n1,n2,n3,n4,n5,n6,n7,n8,n9,n10,n11,n12,n13,n14,n15,n16]:List Int).getD i 0,n17,fun i=>([n18,n19,n20,n21,n22,n23,n24,n25,n26,n27,n28,n29,n30,n31,n32,n33]:List Int).getD i 0,n34,n35,n36⟩,n37,n38⟩,rfl,⟨⟨JhD ⟨h1,h2,h3,h4,h5,h6,h7,h8,h9,h10,h11,h12,h13,h14,h15,h16,trivial⟩,JhD ⟨h18,h19,h20,h21,h22,h23,h24,h25,h26,h27,h28,h29,h30,h31,h32,h33,trivial⟩,h34,h35,h36⟩,h37,h38⟩⟩
end
end Go.Proofs.YtkgjbipfhhjlpaaGreatDoor
