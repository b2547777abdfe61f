import Derived.Test.YtnekegldodbgjaaM51
set_option linter.all false
namespace Go.X
open Go Go.Proofs
def n3 (a b c:Int):Blk:=.var [.int .i64 a,.int .i64 b,.int .i64 c]
def v3 (a b c:Int):Value:=.agg ⟨[.int .i64 a,.int .i64 b,.int .i64 c]⟩
abbrev inO (M:Nat) (g:Nat->Int):Blk:=outB M g
def f5i:Nat->List Value:=fun j=>slab [.int .u8 5,.int .u8 200] (j*1) 1
def RH (a b c:Int) (m:MS):List (Nat × Blk):=[(93,m.memB),(94,docB 93 m)]++m.HA 90 91 92++[(50,n3 a b c)]
abbrev rI:List Nat:=[93,94,90,91,92,50]
abbrev j0:Pj:=j0_
def q11 (x:Bool):Bool:=(!x||x)&&true||false
def z11 (M:Nat) (a:Int):Int:=IntKind.i64.wrap ((M:Int)+IntKind.i64.wrap ((IntKind.u64.wrap a).tmod 300))
section
variable (a b c:Int) (bm br bo:Bool) (M MC R RC sz:Nat) (rg inp g:Nat->Int) (m m2:MS) (hb:bm=false->M=0) (hr:br=false->R=0)
include hb hr
theorem p11_0:walk (lookF FL) noSc 1000 (.region x11_0) (argTm 0 [vI bm 0 M MC,vR br R RC,v3 a b c]) (mkH (exIn bm br M inp R rg)) 50 ⟨[5],[.tmp 5],[0,1],exJ2 bm br⟩ j0 j0=some ⟨⟨[some (true,pt 50)],[(50,some (n3 a b c))],.normal,51⟩,none⟩:=by
 cases bm<;>cases br<;>first|(obtain rfl:=hb rfl;obtain rfl:=hr rfl;kernel_rfl)|(obtain rfl:=hb rfl;kernel_rfl)|(obtain rfl:=hr rfl;kernel_rfl)|kernel_rfl
theorem p11_5:walk (lookF FL) sc6 1000 x11_5 (mkT [5,0,1] [pt 50,vI bm 0 M MC,vR br R RC]) (mkH ([(50,n3 a b c)]++exIn bm br M inp R rg)) 60 ⟨[],[],[5,0,1],50 :: exJ2 bm br⟩ ⟨[6],[],[],[]⟩ j0 =
  bif q11 (decide ((M:Int)>2000))&&((!decide ((M:Int)>2000)&&true||!!decide ((M:Int)>2000))&&((!decide ((M:Int)>2000)&&true||!!decide ((M:Int)>2000))&&true))then
   bif bif decide ((M:Int)>2000)then true else decide ((R:Int)>40)then some ⟨⟨[some (true,.bool true)],[],.ret,60⟩,none⟩else some ⟨⟨[],[],.normal,60⟩,none⟩else none:=by
 cases bm<;>cases br<;>first|(obtain rfl:=hb rfl;obtain rfl:=hr rfl;kernel_rfl)|(obtain rfl:=hb rfl;kernel_rfl)|(obtain rfl:=hr rfl;kernel_rfl)|kernel_rfl
theorem p11_6:walk (lookF FL) noSc 1000 (.region x11_6) (mkT [5,0,1] [pt 50,vI bm 0 M MC,vR br R RC]) (mkH ([(50,n3 a b c)]++exIn bm br M inp R rg)) 60 ⟨[7],[],[5,0,1],50 :: exJ2 bm br⟩ j0 j0=some ⟨⟨[some (true,.int .i64 (z11 M a))],[],.normal,60⟩,none⟩:=by
 cases bm<;>cases br<;>first|(obtain rfl:=hb rfl;obtain rfl:=hr rfl;kernel_rfl)|(obtain rfl:=hb rfl;kernel_rfl)|(obtain rfl:=hr rfl;kernel_rfl)|kernel_rfl
theorem p11_7n:walk (lookF FL) noSc 1000 (.region x11_7) (mkT [7,5,0,1] [.int .i64 (sz:Int),pt 50,vI bm 0 0 MC,vR br R RC]) (mkH ([(50,n3 a b c)]++exIn bm br 0 inp R rg)) 60 ⟨[8],[.tmp 8],[7,5,0,1],50 :: exJ2 bm br⟩ j0 j0 =
  some ⟨⟨[some (true,newS 60 0)],[(60,some (.rows 0 1 (rowPut (fun j=>slab [] (j*1) 1) 0 0 (bif bm then fun j=>[.int .u8 (inp (0+j))]else fun x=>[])) false false))],.normal,61⟩,none⟩:=by
 cases bm<;>cases br<;>first|(obtain rfl:=hr rfl;kernel_rfl)|kernel_rfl
theorem p11_7:walk (lookF FL) noSc 1000 (.region x11_7) (mkT [7,5,0,1] [.int .i64 (sz:Int),pt 50,vI true 0 (M+1) MC,vR br R RC]) (mkH ([(50,n3 a b c)]++exIn true br (M+1) inp R rg)) 60 ⟨[8],[.tmp 8],[7,5,0,1],50 :: exJ2 true br⟩ j0 j0 =
  bif (0+(M+1)).ble (M+1)&&true&&decide ((0+(M+1))*3<=1099511627776)&&true&&true then some ⟨⟨[some (true,newS 61 (0+(M+1)))],[(61,some (.rows (0+(M+1)) 1 (rowCat (fun j=>slab [] (j*1) 1) 0 0 fun j=>[.int .u8 (inp (0+j))]) true false))],.normal,62⟩,none⟩else none:=by
 cases br<;>first|(obtain rfl:=hr rfl;kernel_rfl)|kernel_rfl
theorem p11_8:walk (lookF FL) (scOf [conAt 22 [newS 61 M,.int .i64 (sz:Int)] [(61,inO M inp)] (vM3 132) (mkH [(130,m.memB),(131,m.kn.blk),(132,m.mAt 130 131)]) 130 3]) 1000 (.region x11_8) (mkT [8,7,5,0,1] [newS 61 M,.int .i64 (sz:Int),pt 50,vI bm 0 M MC,vR br R RC]) (mkH ([(61,inO M inp),(50,n3 a b c)]++exIn bm br M inp R rg)) 130 ⟨[9,10],[.id 130,.id 131,.id 132],[8,7,5,0,1],61 :: 50 :: exJ2 bm br⟩ j0 j0 =
  bif dAt 22 [newS 61 M,.int .i64 (sz:Int)] [(61,inO M inp)] (vM3 132) (mkH [(130,m.memB),(131,m.kn.blk),(132,m.mAt 130 131)]) 130 3&&true&&true then some ⟨⟨[some (true,pAt 132),some (true,.int .i64 0)],mkB [(130,m.memB),(131,m.kn.blk),(132,m.mAt 130 131)],.normal,133⟩,none⟩else none:=by
 cases bm<;>cases br<;>first|(obtain rfl:=hb rfl;obtain rfl:=hr rfl;kernel_rfl)|(obtain rfl:=hb rfl;kernel_rfl)|(obtain rfl:=hr rfl;kernel_rfl)|kernel_rfl
theorem p11_9:walk (lookF FL) (scOf [conAt 32 [vI bm 0 M MC,.int .i64 (sz:Int)] (exI bm (inB M inp)) (.tuple ⟨[docV 130 m,.bool true]⟩) (mkH [(130,m.memB),(131,docB 130 m)]) 130 2]) 1000 (.region x11_9) (mkT [9,10,8,7,5,0,1] [pAt 92,.int .i64 0,newS 61 M,.int .i64 (sz:Int),pt 50,vI bm 0 M MC,vR br R RC]) (mkH (m.HA 90 91 92++[(61,inO M inp),(50,n3 a b c)]++exIn bm br M inp R rg)) 130 ⟨[11,12],[.id 130,.id 132,.id 90,.id 91,.id 92,.id 50,.id 61],[9,10,8,5,1],oneI br 41⟩ j0 j0 =
  bif dAt 32 [vI bm 0 M MC,.int .i64 (sz:Int)] (exI bm (inB M inp)) (.tuple ⟨[docV 130 m,.bool true]⟩) (mkH [(130,m.memB),(131,docB 130 m)]) 130 2&&true&&true then some ⟨⟨[some (true,pAt 132),some (true,.bool true)],mkB ([(130,m.memB),(132,docB 130 m)]++m.HA 90 91 92++[(50,n3 a b c),(61,inO M inp)]),.normal,133⟩,none⟩else none:=by
 cases bm<;>cases br<;>first|(obtain rfl:=hb rfl;obtain rfl:=hr rfl;kernel_rfl)|(obtain rfl:=hb rfl;kernel_rfl)|(obtain rfl:=hr rfl;kernel_rfl)|kernel_rfl
end
section
variable (a b c:Int) (br:Bool) (i M R RC:Nat) (rg g:Nat->Int) (m m2:MS) (hr:br=false->R=0)
include hr
theorem p11_14:walk (lookF FL) noSc 1000 x11_14 (mkT [11,12,9,10,8,5,1] [pAt 94,.bool true,pAt 92,.int .i64 0,newS 61 M,pt 50,vR br R RC]) (mkH (RH a b c m++[(61,inO M g)]++exR br (rgB R rg))) 130 ⟨[],[],[11,9,8,5,1],rI++[61]++oneI br 41⟩ j0 j0=some ⟨⟨[],[],.normal,130⟩,none⟩:=by
 cases br<;>first|(obtain rfl:=hr rfl;kernel_rfl)|kernel_rfl
theorem p11_28:walk (lookF FL) noSc 1000 x11_79 (mkT [11,9,8,5,1] [pAt 94,pAt 92,newS 61 M,pt 50,vR br R RC]) (mkH (RH a b c m++[(61,inO M g)]++exR br (rgB R rg))) 130 j0 j0 ⟨[68,67],[],[8,11,9,5,1],rI++[61]++oneI br 41⟩=some ⟨⟨[some (true,.int .i64 (0:Nat)),some (true,.int .i64 (M:Int))],[],.normal,130⟩,some (x11_25,[.bl 0,.sq x11_78])⟩:=by
 cases br<;>first|(obtain rfl:=hr rfl;kernel_rfl)|kernel_rfl
abbrev T25 (i M:Nat) (br:Bool) (R RC:Nat):Tm:=mkT [68,67,8,11,9,5,1] [.int .i64 (i:Int),.int .i64 (M:Int),newS 61 M,pAt 94,pAt 92,pt 50,vR br R RC]
def b25i (M i:Nat):Bool:=(0+(i:Int).toNat).blt M&&true&&((intRange (i:Int) M&&true||false)&&(((0+(i:Int).toNat).blt M&&true||false)&&((intRange (i:Int) M&&true||false)&&true)))
theorem p11_25:walk (lookF FL) noSc 1000 x11_25 (T25 i M br R RC) (mkH (RH a b c m++[(61,inO M g)]++exR br (rgB R rg))) 130 ⟨[68],rI.map .id++[.id 61],[67,8,11,9,5,1],oneI br 41⟩ j0 j0 =
  bif decide ((i:Int)<(M:Int))then bif b25i M i then some ⟨⟨[some (true,.int .i64 (IntKind.i64.wrap ((i:Int)+1)))],mkB (RH a b c m++[(61,.rows M 1 (rowSet (fun j=>[.int .u8 (g j)]) (0+(i:Int).toNat) [.int .u8 (IntKind.u8.wrap (g (0+(i:Int).toNat)+1))]) true false)]),.normal,130⟩,none⟩else none
   else some ⟨⟨[some (true,.int .i64 (i:Int))],mkB (RH a b c m++[(61,inO M g)]),.exit 0,130⟩,none⟩:=by
 cases br<;>first|(obtain rfl:=hr rfl;kernel_rfl)|kernel_rfl
theorem p11_29:walk (lookF FL) (scOf [conAt 34 [pAt 92,docV 93 m,vR br R RC] ([(92,m.mAt 90 91)]++exR br (rgB R rg)) (docV 93 m2) (mkH [(130,docB 93 m2),(92,m2.mAt 90 91)]) 130 1]) 1000 (.region x11_29) (T25 i M br R RC) (mkH (RH a b c m++[(61,inO M g)]++exR br (rgB R rg))) 130 ⟨[],rI.map .id,[11,9,5],[]⟩ j0 j0 =
  bif dAt 34 [pAt 92,docV 93 m,vR br R RC] ([(92,m.mAt 90 91)]++exR br (rgB R rg)) (docV 93 m2) (mkH [(130,docB 93 m2),(92,m2.mAt 90 91)]) 130 1&&true&&true then some ⟨⟨[],mkB [(93,m.memB),(94,docB 93 m2),(90,m.memB),(91,m.kn.blk),(92,m2.mAt 90 91),(50,n3 a b c)],.normal,131⟩,none⟩else none:=by
 cases br<;>first|(obtain rfl:=hr rfl;kernel_rfl)|kernel_rfl
end
section
variable (a b c k fu n mk:Int) (bo:Bool) (i oN:Nat) (of:Nat->Int) (m m2:MS)
theorem p11_77:walk (lookF FL) noSc 1000 x11_77 (mkT [11,9,5] [pAt 94,pAt 92,pt 50]) (mkH (RH a b c m)) 130 j0 j0 ⟨[14],[],[11,9,5],rI⟩=some ⟨⟨[some (true,.int .i64 1)],[],.normal,130⟩,some (x11_71,[.bl 2,.sq x11_76])⟩:=by kernel_rfl
abbrev T71 (k:Int):Tm:=mkT [14,11,9,5] [.int .i64 k,pAt 94,pAt 92,pt 50]
theorem p11_33a:walk (lookF FL) noSc 1000 x11_33 (T71 1) (mkH (RH a b c m)) 130 ⟨[],[],[14,11,9,5],rI⟩ j0 j0=some ⟨⟨[],[],.normal,130⟩,none⟩:=by kernel_rfl
theorem p11_33b:walk (lookF FL) noSc 1000 x11_33 (T71 2) (mkH (RH a b c m)) 130 ⟨[],[],[14,11,9,5],rI⟩ j0 j0=some ⟨⟨[],[],.normal,130⟩,none⟩:=by kernel_rfl
theorem p11_33c:walk (lookF FL) noSc 1000 x11_71 (T71 3) (mkH (RH a b c m)) 130 ⟨[],[],[14,11,9,5],rI⟩ j0 j0=some ⟨⟨[],[],.exit 2,130⟩,none⟩:=by kernel_rfl
def fu3 (x:Int):Int:=if 300<x then 300 else x
theorem p11_34a:walk (lookF FL) noSc 1000 (.region x11_34) (T71 1) (mkH (RH a b c m)) 130 ⟨[15],[],[14,11,9,5],rI⟩ j0 j0=some ⟨⟨[some (true,.int .i64 (fu3 b))],[],.normal,130⟩,none⟩:=by kernel_rfl
theorem p11_34b:walk (lookF FL) noSc 1000 (.region x11_34) (T71 2) (mkH (RH a b c m)) 130 ⟨[15],[],[14,11,9,5],rI⟩ j0 j0=some ⟨⟨[some (true,.int .i64 (fu3 c))],[],.normal,130⟩,none⟩:=by kernel_rfl
theorem p11_35:walk (lookF FL) noSc 1000 (.region x11_35) (mkT [15,14,11,9,5] [.int .i64 fu,.int .i64 k,pAt 94,pAt 92,pt 50]) (mkH (RH a b c m)) 130 ⟨[16],[.tmp 16],[15,14,11,9,5],rI⟩ j0 j0=some ⟨⟨[some (true,newS 130 2)],[(130,some (.rows 2 1 f5i false false))],.normal,131⟩,none⟩:=by kernel_rfl
def iI:Blk:=.rows 2 1 f5i false false
def u24 (m:MS) (bo:Bool) (oN:Nat) (n mk:Int) (of:Nat->Int):Hp:=mkH ([(130,resB m (vOa 131 bo oN) n mk)]++m.HA 90 91 92++dxO bo 131 oN of)
theorem p11_36:walk (lookF FL) (scOf [conAt 24 [pAt 92,.slice (some ⟨56,0,none⟩) 2 2,.int .i64 fu] ((56,iI) :: m.HA 90 91 92) (resV24 m2 (vOa 131 bo oN) n mk) (u24 m2 bo oN n mk of) 130 2]) 1000 (.region x11_36) (mkT [16,15,14,11,9,5] [newS 56 2,.int .i64 fu,.int .i64 k,pAt 94,pAt 92,pt 50]) (mkH ([(56,iI)]++RH a b c m)) 130 ⟨[17],[.id 132,.id 90,.id 91,.id 92]++(oneI bo 131).map .id,[16,15,14,11,9,5],[56,93,94,50]⟩ j0 j0 =
  bif dAt 24 [pAt 92,.slice (some ⟨56,0,none⟩) 2 2,.int .i64 fu] ((56,iI) :: m.HA 90 91 92) (resV24 m2 (vOa 131 bo oN) n mk) (u24 m2 bo oN n mk of) 130 2&&true&&true then
   some ⟨⟨[some (true,pAt 132)],mkB ([(132,resB m2 (vOa 131 bo oN) n mk)]++m2.HA 90 91 92++dxO bo 131 oN of),.normal,133⟩,none⟩else none:=by
 cases bo<;>kernel_rfl
def H36:List (Nat × Blk):=[(62,resB m2 (vOa 63 bo oN) n mk)]++m2.HA 90 91 92++dxO bo 63 oN of++[(56,iI),(93,m.memB),(94,docB 93 m),(50,n3 a b c)]
def r0B:Blk:=.var [.int .i64 0,.int .u8 0,.int .i64 0,.slice none 0 0,.int .i64 0,.int .i64 0]
theorem p11_37:walk (lookF FL) noSc 1000 (.region x11_37) (mkT [17,16,15,14,11,9,5] [pAt 62,newS 56 2,.int .i64 fu,.int .i64 k,pAt 94,pAt 92,pt 50]) (mkH (H36 a b c n mk bo oN of m m2)) 130 ⟨[18],[.tmp 18],[17,16,15,14,11,9,5],[62,90,91,92]++oneI bo 63++[56,93,94,50]⟩ j0 j0=some ⟨⟨[some (true,pAt 130)],[(130,some r0B)],.normal,131⟩,none⟩:=by
 cases bo<;>kernel_rfl
theorem p11_38 (bs:Bool) (sN:Nat) (sf:Nat->List Value):walk (lookF FL) (scOf [conAt 35 [docV 93 m,.slice (some ⟨130,0,none⟩) 2 2,.int .i64 fu] ((130,.rows 2 1 f5i false false) :: [(93,m.memB)]) (val35 m2 bo bs 133 134 oN sN n mk) (mkH (upd35 131 m2 bo bs oN sN n mk of sf)) 131 4]) 1000 (.region x11_38) (mkT [18,17,16,15,14,11,9,5] [pAt 66,pAt 62,newS 56 2,.int .i64 fu,.int .i64 k,pAt 94,pAt 92,pt 50]) (mkH ([(66,r0B)]++H36 a b c n mk bo oN of m m2)) 130 ⟨[],[.id 66,.id 93,.id 94]++(oneI bo 133).map .id,[18,17,16,14,11,9,5],[62,90,91,92]++oneI bo 63++[56,50]⟩ j0 j0 =
  bif dAt 35 [docV 93 m,.slice (some ⟨130,0,none⟩) 2 2,.int .i64 fu] ((130,.rows 2 1 f5i false false) :: [(93,m.memB)]) (val35 m2 bo bs 133 134 oN sN n mk) (mkH (upd35 131 m2 bo bs oN sN n mk of sf)) 131 4&&true&&true then
   some ⟨⟨[],mkB ([(66,resB m2 (vOa 133 bo oN) n mk),(93,m2.memB),(94,docB 93 m2)]++dxO bo 133 oN of),.normal,135⟩,none⟩else none:=by
 cases bo<;>cases bs<;>kernel_rfl
def H38:List (Nat × Blk):=[(66,resB m2 (vOa 67 bo oN) n mk),(93,m2.memB),(94,docB 93 m2)]++dxO bo 67 oN of++[(62,resB m2 (vOa 63 bo oN) n mk)]++m2.HA 90 91 92++dxO bo 63 oN of++[(56,iI),(50,n3 a b c)]
theorem p11_43:walk (lookF FL) (scOf [conAny 28 [resA m2.st m2.cd (vOa 63 bo oN) n mk,resA m2.st m2.cd (vOa 67 bo oN) n mk] (dxO bo 63 oN of++dxO bo 67 oN of) (.bool true),conG 33 [pAt 92,docV 93 m2] (m2.HA 90 91 92++[(93,m2.memB)]) (.bool true)]) 1000 x11_43 (mkT [18,17,16,14,11,9,5] [pAt 66,pAt 62,newS 56 2,.int .i64 k,pAt 94,pAt 92,pt 50]) (mkH (H38 a b c n mk bo oN of m2)) 130 ⟨[],rI.map .id++[.id 62]++(oneI bo 63).map .id,[17,14,11,9,5],[]⟩ j0 j0 =
  bif (dG 33 [pAt 92,docV 93 m2] (m2.HA 90 91 92++[(93,m2.memB)]) (.bool true)||false)&&((dAny 28 [resA m2.st m2.cd (vOa 63 bo oN) n mk,resA m2.st m2.cd (vOa 67 bo oN) n mk] (dxO bo 63 oN of++dxO bo 67 oN of) (.bool true)||false)&&true)then
   some ⟨⟨[],mkB (RH a b c m2++[(62,resB m2 (vOa 63 bo oN) n mk)]++dxO bo 63 oN of),.normal,130⟩,none⟩else none:=by
 cases bo<;>kernel_rfl
def H6I (g:Nat->Int):List (Nat × Blk):=RH a b c m2++[(62,resB m2 (vOa 63 bo oN) n mk)]++dxO bo 63 oN g
theorem p11_61 (ho:bo=false->oN=0):walk (lookF FL) noSc 1000 x11_61 (mkT [17,14,11,9,5] [pAt 62,.int .i64 k,pAt 94,pAt 92,pt 50]) (mkH (H6I a b c n mk bo oN m2 of)) 130 j0 j0 ⟨[122,121],[],[17,14,11,9,5],rI++[62]++oneI bo 63⟩=some ⟨⟨[some (true,.int .i64 (0:Nat)),some (true,.int .i64 (oN:Int))],[],.normal,130⟩,some (x11_54,[.bl 4,.sq x11_60])⟩:=by
 cases bo<;>first|(obtain rfl:=ho rfl;kernel_rfl)|kernel_rfl
abbrev T54 (i:Int) (oN:Nat) (k:Int):Tm:=mkT [122,121,17,14,11,9,5] [.int .i64 i,.int .i64 (oN:Int),pAt 62,.int .i64 k,pAt 94,pAt 92,pt 50]
theorem p11_54n:walk (lookF FL) noSc 1000 x11_54 (T54 0 0 k) (mkH (H6I a b c n mk false 0 m2 of)) 130 ⟨[122],rI.map .id++[.id 62],[121,17,14,11,9,5],[]⟩ j0 j0=some ⟨⟨[some (true,.int .i64 0)],mkB (RH a b c m2++[(62,resB m2 (vOa 63 false 0) n mk)]),.exit 4,130⟩,none⟩:=by kernel_rfl
theorem p11_54 (g:Nat->Int):walk (lookF FL) noSc 1000 x11_54 (T54 (i:Int) oN k) (mkH (H6I a b c n mk true oN m2 g)) 130 ⟨[122],rI.map .id++[.id 62,.id 63],[121,17,14,11,9,5],[]⟩ j0 j0 =
  bif decide ((i:Int)<(oN:Int))then bif b25i oN i then some ⟨⟨[some (true,.int .i64 (IntKind.i64.wrap ((i:Int)+1)))],mkB (RH a b c m2++[(62,resB m2 (vOa 63 true oN) n mk),(63,.rows oN 1 (rowSet (fun j=>[.int .u8 (g j)]) (0+(i:Int).toNat) [.int .u8 (IntKind.u8.wrap (g (0+(i:Int).toNat)+1))]) true false)]),.normal,130⟩,none⟩else none
   else some ⟨⟨[some (true,.int .i64 (i:Int))],mkB (RH a b c m2++[(62,resB m2 (vOa 63 true oN) n mk),(63,outB oN g)]),.exit 4,130⟩,none⟩:=by kernel_rfl
theorem p11_60 (g:Nat->Int):walk (lookF FL) noSc 1000 x11_60 (T54 (i:Int) oN k) (mkH (H6I a b c n mk bo oN m2 g)) 130 ⟨[],rI.map .id,[14,11,9,5],[]⟩ j0 j0=some ⟨⟨[],mkB (RH a b c (jumpM m2 (IntKind.u64.wrap a))),.normal,130⟩,none⟩:=by
 cases bo<;>kernel_rfl
theorem p11_69:walk (lookF FL) noSc 1000 (.region x11_69) (T71 k) (mkH (RH a b c m)) 130 ⟨[14],[],[11,9,5],rI⟩ j0 j0=some ⟨⟨[some (true,.int .i64 (IntKind.i64.wrap (k+1)))],[],.normal,130⟩,none⟩:=by kernel_rfl
theorem p11_76:walk (lookF FL) noSc 1000 x11_76 (T71 k) (mkH (RH a b c m)) 130 j0 ⟨[6],[],[],[]⟩ j0=some ⟨⟨[some (true,.bool true)],[],.ret,130⟩,none⟩:=by kernel_rfl
end
theorem run_mok0 {e:REnv}{fuel:Int} (hf:fuel<=1000000000){m:MS} (h0:DSt e 0 (RSt.init m)){s:RSt}{n:Nat} (hr:runF (stepF e) fuel.toNat (RSt.init m) 0=(s,n)):MOK s.m/\SeOK s.sN s.sf:=by
 by_cases hf0:0<=fuel
 ·exact run_mok hf0 hf h0 hr
 ·rw[show fuel.toNat=0 by omega]at hr
  cases hr
  exact⟨(dst_mok h0).1,fun j hj=>absurd hj (Nat.not_lt_zero _)⟩
theorem run_oNe (e:REnv):∀ (k n:Nat) (s:RSt),(runF (stepF e) k s n).1.oN<=s.oN+k
 |0,n,s=>Nat.le_refl _
 |k+1,n,s=>by
  cases h0:s.m.st==0 with
  |false=>rw[runF_end h0];exact Nat.le_add_right _ _
  |true =>
   have hm:(stepF e s).2.oN<=s.oN+1:=by
    unfold stepF stepG
    cases plB s.m.sz s.m.pl 4 with
    |false=>exact Nat.le_succ _
    |true =>
     simp only[cond_true]
     cases (decA (w32 s.m)).err==0 with
     |false=>exact Nat.le_succ _
     |true =>
      simp only[cond_true]
      cases plainB (decA (w32 s.m)).q with
      |true=>exact Nat.le_succ _
      |false =>
       simp only[cond_false]
       cases (decA (w32 s.m)).q==55 with
       |true =>
        simp only[cond_true]
        unfold callR
        cases s.m.x 17==1<;>cases s.m.x 17==2<;>cases (s.m.x 17==3||(s.m.x 17==4||s.m.x 17==5))<;>cases (e.bi&&Nat.blt s.ik e.L0)<;>first|exact Nat.le_succ _|exact Nat.le_refl _
       |false =>
        simp only[cond_false]
        unfold memF
        cases plB s.m.sz (atM s.m (decA (w32 s.m)).c) (sizeF (decA (w32 s.m)).q)<;>exact Nat.le_succ _
   obtain⟨ok,s',hs⟩:∃ ok s',stepF e s=(ok,s'):=⟨_,_,rfl⟩
   rw[hs]at hm
   simp only at hm
   cases ok with
   |false=>rw[runF_no h0 hs];show s'.oN<=_;omega
   |true=>rw[runF_go h0 hs];have:=run_oNe e k (n+1) s';omega
def g5:Nat->Int:=fun j=>bif Nat.beq j 0 then 5 else 200
theorem f5_row:∀ j,j<2->f5i j=[.int .u8 (g5 j)]
 |0,_=>rfl
 |1,_=>rfl
 |j+2,h=>by omega
theorem b25_true {i M:Nat} (h:i<M):b25i M i=true:=by
 unfold b25i
 rw[Int.toNat_natCast,Nat.zero_add,lt_blt h,ir_nat,decide_eq_true h];rfl
def incF (g:Nat->Int) (i:Nat):Nat->Int:=fun j=>bif Nat.beq j i then IntKind.u8.wrap (g i+1)else g j
theorem inc_row (g:Nat->Int) (i j:Nat):rowSet (fun j=>[.int .u8 (g j)]) (0+(i:Int).toNat) [.int .u8 (IntKind.u8.wrap (g (0+(i:Int).toNat)+1))] j=[.int .u8 (incF g i j)]:=by
 rw[Int.toNat_natCast,Nat.zero_add]
 unfold rowSet incF
 cases Nat.beq j i<;>rfl
section
variable (a b c:Int){E:FEnv}{Q:Post} (hP:E.P=Try.prog) (hn:E.B.n=50) (hcl:Cl E.toEnv Q)
include hP hn hcl
theorem outs11 {k n mk:Int}{bo:Bool}{oN:Nat}{of:Nat->Int}{m:MS} (ho:bo=false->oN=0) (ho':oN<=1000000000) (hQ:Q .normal ⟨T71 k,mkH (RH a b c (jumpM m (IntKind.u64.wrap a))),130⟩) :
  XWP E.toEnv x11_61 Q ⟨mkT [17,14,11,9,5] [pAt 62,.int .i64 k,pAt 94,pAt 92,pt 50],mkH (H6I a b c n mk bo oN m of),130⟩:=by
 have hF:FnsOK E.P (lookF FL) noSc:=hP▸FOK
 have h3:∀ {σ:Nm},BIs Try.prog σ (n3 a b c) (n3 a b c):=rfl
 let S:Nat × (Nat->Int)->St:=fun x=>⟨T54 (x.1:Int) oN k,mkH (H6I a b c n mk bo oN m x.2),130⟩
 refine xwp_toLoop (s:=⟨_,_,_⟩) hF 1000 (p11_61 a b c k n mk bo oN of m ho) (S (0,of)) ⟨_,H6I a b c n mk bo oN m of,130,rfl,by rw[hn];cases bo<;>rfl,by rw[hn];cases bo<;>exact⟨rfl,rfl,rfl,rfl,rfl,rfl,rfl,trivial⟩,by
  rw[hn,hP]
  cases bo
  ·exact⟨bis_mem,bis_doc93 rfl,bis_mem,bis_kn,bis_mAt rfl rfl,h3,bis_resO (fun h=>by cases h),trivial⟩
  ·exact⟨bis_mem,bis_doc93 rfl,bis_mem,bis_kn,bis_mAt rfl rfl,h3,bis_resO (fun _=>rfl),bis_outB,trivial⟩⟩ ?_
 refine xwp_loopR (ι:=Nat × (Nat->Int)) S (fun x=>x.1<=oN) (fun x=>oN-x.1) (0,of) (Nat.zero_le _) fun x hx=>?_
 obtain⟨i,g⟩:=x
 have hx:i<=oN:=hx
 have hcr:=cl_round (S:=S) (I:=fun x=>x.1<=oN) (μ:=fun x=>oN-x.1) (i:=(i,g)) (cl_ctx hcl [.bl 4,.sq x11_60])
 have hend:XWP E.toEnv x11_60 Q ⟨T54 (i:Int) oN k,mkH (H6I a b c n mk bo oN m g),130⟩ :=
  xwp_toEnd (s:=⟨_,_,_⟩) hcl hF 1000 (p11_60 a b c k n mk bo i oN m g) ⟨T71 k,mkH (RH a b c (jumpM m (IntKind.u64.wrap a))),130⟩ ⟨_,RH a b c (jumpM m (IntKind.u64.wrap a)),130,rfl,by rw[hn];rfl,by rw[hn];exact⟨rfl,rfl,rfl,rfl,trivial⟩,by
   rw[hn,hP];exact⟨bis_mem,bis_doc93 rfl,bis_mem,bis_kn,bis_mAt rfl rfl,h3,trivial⟩⟩ hQ
 cases bo with
 |false =>
  obtain rfl:=ho rfl
  obtain rfl:i=0:=by omega
  exact xwp_toEnd (s:=⟨_,_,_⟩) hcr hF 1000 (p11_54n a b c k n mk g m) ⟨T54 0 0 k,mkH (H6I a b c n mk false 0 m g),130⟩ ⟨_,H6I a b c n mk false 0 m g,130,rfl,by rw[hn];rfl,by rw[hn];exact⟨rfl,rfl,rfl,rfl,rfl,rfl,rfl,trivial⟩,by
   rw[hn,hP];exact⟨bis_mem,bis_doc93 rfl,bis_mem,bis_kn,bis_mAt rfl rfl,h3,bis_resO (fun h=>by cases h),trivial⟩⟩ hend
 |true =>
  have e:=p11_54 a b c k n mk i oN m g
  by_cases hlt:i<oN
  ·rw[decide_eq_true (show(i:Int)<oN by omega),cond_true,b25_true hlt,cond_true,wrap_i (n:=(i:Int)+1) (by omega) (by omega)]at e
   exact xwp_toEnd (s:=⟨_,_,_⟩) hcr hF 1000 e (S (i+1,incF g i)) ⟨_,H6I a b c n mk true oN m (incF g i),130,rfl,by rw[hn];rfl,by rw[hn];exact⟨rfl,rfl,rfl,rfl,rfl,rfl,rfl,trivial⟩,by
    rw[hn,hP];exact⟨bis_mem,bis_doc93 rfl,bis_mem,bis_kn,bis_mAt rfl rfl,h3,bis_resO (fun _=>rfl),bis_out (fun j _=>inc_row g i j),trivial⟩⟩ ⟨(i+1,incF g i),hlt,show oN-(i+1)<oN-i by omega,Wk.refl _ _⟩
  ·rw[decide_eq_false (show ¬ (i:Int)<oN by omega),cond_false]at e
   exact xwp_toEnd (s:=⟨_,_,_⟩) hcr hF 1000 e ⟨T54 (i:Int) oN k,mkH (H6I a b c n mk true oN m g),130⟩ ⟨_,H6I a b c n mk true oN m g,130,rfl,by rw[hn];rfl,by rw[hn];exact⟨rfl,rfl,rfl,rfl,rfl,rfl,rfl,trivial⟩,by
    rw[hn,hP];exact⟨bis_mem,bis_doc93 rfl,bis_mem,bis_kn,bis_mAt rfl rfl,h3,bis_resO (fun _=>rfl),bis_outB,trivial⟩⟩ hend
end
theorem bis_row5 {σ:Nm}:BIs Try.prog σ iI (.rows 2 1 f5i false false):=bis_rw fun j hj=>by rw[f5_row j hj];rfl
section
variable (a b c:Int){E:FEnv}{Q:Post} (hP:E.P=Try.prog) (hn:E.B.n=50) (hcl:Cl E.toEnv Q)
include hP hn hcl
theorem round11 {k fu:Int}{m:MS} (hm:MOK m) (hfu:fu<=1000000) (hQ:∀ m',MOK m'->Q .normal ⟨T71 k,mkH (RH a b c m'),130⟩) :
  XWP E.toEnv x11_66 Q ⟨mkT [15,14,11,9,5] [.int .i64 fu,.int .i64 k,pAt 94,pAt 92,pt 50],mkH (RH a b c m),130⟩:=by
 have hF:FnsOK E.P (lookF FL) noSc:=hP▸FOK
 have h3:∀ {σ:Nm},BIs Try.prog σ (n3 a b c) (n3 a b c):=rfl
 have h0:∀ {σ:Nm},BIs Try.prog σ r0B r0B:=rfl
 have h5:∀ {σ:Nm},BIs Try.prog σ iI iI:=bis_row5
 obtain⟨s,n,hr⟩:∃ s n,runF (stepF (ee 2 g5 true)) fu.toNat (RSt.init m) 0=(s,n):=⟨_,_,rfl⟩
 obtain⟨s0,n0,hr0⟩:∃ s n,runF (stepF (ee 2 g5 false)) fu.toNat (RSt.init m) 0=(s,n):=⟨_,_,rfl⟩
 obtain⟨er,en⟩:=run_er 2 g5 true false fu.toNat 0 (RSt.init m) (RSt.init m) rfl
 rw[hr,hr0]at er en
 simp only at er en
 subst en
 rw[er_of er]at hr0
 have A:=a24 f5_row hm (by omega) hr0
 have B:=a35 f5_row hm (by omega) hr
 obtain⟨hmk,_⟩:=run_mok0 (by omega) (dst_init (e:=ee 2 g5 true) hm rfl rfl (Nat.le_refl _) (Nat.le_refl _)) hr
 have hc:s.oN<=fu.toNat:=by have:=run_oNe (ee 2 g5 true) fu.toNat 0 (RSt.init m);rw[hr]at this;have e0:(RSt.init m).oN=0:=rfl;rw[e0]at this;simpa using this
 have ho:bO s.oN=false->s.oN=0:=fun h=>by cases hx:s.oN with
  |zero=>rfl
  |succ y=>rw[hx]at h;cases h
 have e36:=p11_36 a b c k fu n s.mark (bO s.oN) s.oN s.of m s.m
 rw[show dAt 24 [pAt 92,.slice (some ⟨56,0,none⟩) 2 2,.int .i64 fu] ((56,iI) :: m.HA 90 91 92) (resV24 s.m (vOa 131 (bO s.oN) s.oN) n s.mark) (u24 s.m (bO s.oN) s.oN n s.mark s.of) 130 2=true from decP_true ⟨rfl,⟨rfl,rfl,rfl,rfl,trivial⟩,A⟩]at e36
 have e38:=p11_38 a b c k fu n s.mark (bO s.oN) s.oN s.of m s.m (bO s.sN) s.sN s.sf
 rw[show dAt 35 [docV 93 m,.slice (some ⟨130,0,none⟩) 2 2,.int .i64 fu] ((130,.rows 2 1 f5i false false) :: [(93,m.memB)]) (val35 s.m (bO s.oN) (bO s.sN) 133 134 s.oN s.sN n s.mark) (mkH (upd35 131 s.m (bO s.oN) (bO s.sN) s.oN s.sN n s.mark s.of s.sf)) 131 4=true from decP_true ⟨rfl,⟨rfl,rfl,trivial⟩,B⟩]at e38
 simp only[Bool.and_self,cond_true]at e36 e38
 have e43:=p11_43 a b c k n s.mark (bO s.oN) s.oN s.of s.m
 have D:=d33 (m:=s.m) (d:=s.m) hmk.sz rfl (fun _ _=>rfl) rfl (fun _ _=>rfl)
 have A28:=a28r (b:=bO s.oN) (st:=s.m.st) (cd:=s.m.cd) (n:=n) (mk:=s.mark) (oN:=s.oN) (of:=s.of)
 have fin:=outs11 a b c hP hn hcl (k:=k) (n:=n) (mk:=s.mark) (of:=s.of) (m:=s.m) ho (by omega) (hQ _ ⟨hmk.sz,uB_wrap _,hmk.x,hmk.kn,hmk.by_,hmk.x0⟩)
 generalize bO s.oN=bo at *
 rw[show dG 33 [pAt 92,docV 93 s.m] (s.m.HA 90 91 92++[(93,s.m.memB)]) (.bool true)=true from decP_true ⟨rfl,⟨rfl,rfl,rfl,rfl,trivial⟩,D⟩,
  show dAny 28 [resA s.m.st s.m.cd (vOa 63 bo s.oN) n s.mark,resA s.m.st s.m.cd (vOa 67 bo s.oN) n s.mark] (dxO bo 63 s.oN s.of++dxO bo 67 s.oN s.of) (.bool true)=true from decP_true ⟨rfl,by cases bo<;>first|exact trivial|exact⟨rfl,rfl,trivial⟩,A28⟩]at e43
 simp only[Bool.and_self,Bool.or_false,cond_true]at e43
 show XWP E.toEnv (.seq (.region x11_35) x11_65) Q _
 refine xwp_seqW (s:=⟨_,_,_⟩) hcl hF 1000 (p11_35 a b c k fu m) rfl ⟨mkT [16,15,14,11,9,5] [newS 56 2,.int .i64 fu,.int .i64 k,pAt 94,pAt 92,pt 50],mkH ([(56,iI)]++RH a b c m),130⟩
  ⟨_,_,_,rfl,by rw[hn];rfl,by rw[hn];exact⟨rfl,rfl,rfl,rfl,rfl,rfl,trivial⟩,by rw[hn,hP];exact⟨bis_row5,bis_mem,bis_doc93 rfl,bis_mem,bis_kn,bis_mAt rfl rfl,h3,trivial⟩⟩ ?_
 show XWP E.toEnv (.seq (.region x11_36) x11_64) Q _
 refine xwp_seqW (s:=⟨_,_,_⟩) hcl (fokE hP _) 1000 e36 rfl ⟨mkT [17,16,15,14,11,9,5] [pAt 62,newS 56 2,.int .i64 fu,.int .i64 k,pAt 94,pAt 92,pt 50],mkH (H36 a b c n s.mark bo s.oN s.of m s.m),130⟩
  ⟨_,_,_,rfl,by rw[hn];cases bo<;>rfl,by rw[hn];cases bo<;>exact⟨rfl,rfl,rfl,rfl,rfl,rfl,rfl,trivial⟩,?_⟩ ?_
 ·rw[hn,hP]
  cases bo
  ·exact⟨bis_resO (fun h=>by cases h),bis_mem,bis_kn,bis_mAt rfl rfl,h5,bis_mem,bis_doc93 rfl,h3,trivial⟩
  ·exact⟨bis_resO (fun _=>rfl),bis_mem,bis_kn,bis_mAt rfl rfl,bis_outB,h5,bis_mem,bis_doc93 rfl,h3,trivial⟩
 show XWP E.toEnv (.seq (.region x11_37) x11_63) Q _
 refine xwp_seqW (s:=⟨_,_,_⟩) hcl hF 1000 (p11_37 a b c k fu n s.mark bo s.oN s.of m s.m) rfl ⟨mkT [18,17,16,15,14,11,9,5] [pAt 66,pAt 62,newS 56 2,.int .i64 fu,.int .i64 k,pAt 94,pAt 92,pt 50],mkH ([(66,r0B)]++H36 a b c n s.mark bo s.oN s.of m s.m),130⟩
  ⟨_,_,_,rfl,by rw[hn];cases bo<;>rfl,by rw[hn];cases bo<;>exact⟨rfl,rfl,rfl,rfl,rfl,rfl,rfl,rfl,trivial⟩,?_⟩ ?_
 ·rw[hn,hP]
  cases bo
  ·exact⟨h0,bis_resO (fun h=>by cases h),bis_mem,bis_kn,bis_mAt rfl rfl,h5,bis_mem,bis_doc93 rfl,h3,trivial⟩
  ·exact⟨h0,bis_resO (fun _=>rfl),bis_mem,bis_kn,bis_mAt rfl rfl,bis_outB,h5,bis_mem,bis_doc93 rfl,h3,trivial⟩
 show XWP E.toEnv (.seq (.region x11_38) x11_62) Q _
 refine xwp_seqW (s:=⟨_,_,_⟩) hcl (fokE hP _) 1000 e38 rfl ⟨mkT [18,17,16,14,11,9,5] [pAt 66,pAt 62,newS 56 2,.int .i64 k,pAt 94,pAt 92,pt 50],mkH (H38 a b c n s.mark bo s.oN s.of s.m),130⟩
  ⟨_,_,_,rfl,by rw[hn];cases bo<;>rfl,by rw[hn];cases bo<;>exact⟨rfl,rfl,rfl,rfl,rfl,rfl,rfl,trivial⟩,?_⟩ ?_
 ·rw[hn,hP]
  cases bo
  ·exact⟨bis_resO (fun h=>by cases h),bis_mem,bis_doc93 rfl,bis_resO (fun h=>by cases h),bis_mem,bis_kn,bis_mAt rfl rfl,h5,h3,trivial⟩
  ·exact⟨bis_resO (fun _=>rfl),bis_mem,bis_doc93 rfl,bis_outB,bis_resO (fun _=>rfl),bis_mem,bis_kn,bis_mAt rfl rfl,bis_outB,h5,h3,trivial⟩
 show XWP E.toEnv (.seq x11_43 x11_61) Q _
 refine xwp_seqW (s:=⟨_,_,_⟩) hcl (fokE hP _) 1000 e43 rfl ⟨mkT [17,14,11,9,5] [pAt 62,.int .i64 k,pAt 94,pAt 92,pt 50],mkH (H6I a b c n s.mark bo s.oN s.m s.of),130⟩
  ⟨_,_,_,rfl,by rw[hn];cases bo<;>rfl,by rw[hn];cases bo<;>exact⟨rfl,rfl,rfl,rfl,rfl,trivial⟩,?_⟩ fin
 rw[hn,hP]
 cases bo
 ·exact⟨bis_mem,bis_doc93 rfl,bis_mem,bis_kn,bis_mAt rfl rfl,h3,bis_resO (fun h=>by cases h),trivial⟩
 ·exact⟨bis_mem,bis_doc93 rfl,bis_mem,bis_kn,bis_mAt rfl rfl,h3,bis_resO (fun _=>rfl),bis_outB,trivial⟩
end
end Go.X
