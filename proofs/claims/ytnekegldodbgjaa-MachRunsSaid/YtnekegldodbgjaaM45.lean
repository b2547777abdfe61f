import Derived.Test.YtnekegldodbgjaaM44
set_option linter.all false
namespace Go.X
open Go Go.Proofs
theorem p50_0 (m:MS) (i C:Nat):walk (lookF FL) noSc 1000 x50 (argTm 0 [.slice (some ⟨90,i,none⟩) 0 C]) (mkH [(90,m.memB)]) 100 j0_ ⟨[2],[.tmp 2],[],[90]⟩ j0_ =
  bif (i+0).ble m.sz&&true&&true&&true&&true then some ⟨⟨[some (true,.slice (some ⟨100,0,none⟩) 0 0)],[(100,some (.rows 0 1 (rowPut (fun j=>slab [] (j*1) 1) 0 0 fun j=>[.int .u8 (m.mem (i+j))]) false false))],.ret,101⟩,none⟩else none:=by kernel_rfl
theorem p50_1 (m:MS) (i C k:Nat):walk (lookF FL) noSc 1000 x50 (argTm 0 [.slice (some ⟨90,i,none⟩) (k+1) C]) (mkH [(90,m.memB)]) 100 j0_ ⟨[2],[.tmp 2],[],[90]⟩ j0_ =
  bif (i+(k+1)).ble m.sz&&true&&decide ((0+(k+1))*3<=1099511627776)&&true&&true then some ⟨⟨[some (true,.slice (some ⟨101,0,none⟩) (0+(k+1)) (0+(k+1)))],[(101,some (.rows (0+(k+1)) 1 (rowCat (fun j=>slab [] (j*1) 1) 0 0 fun j=>[.int .u8 (m.mem (i+j))]) true false))],.ret,102⟩,none⟩else none:=by kernel_rfl
theorem b50 {m:MS}{i l C:Nat} (hs:szB m.sz=true) (h:i+l<=m.sz):Body Try.prog 50 [.slice (some ⟨90,i,none⟩) l C] (mkH [(90,m.memB)]) (sl1 l 100) (mkH [(100,outB l fun j=>m.mem (i+j))]) 100 1:=by
 have hs':m.sz<=4194304:=by simpa [szB]using hs
 cases l with
 |zero =>
  have e:=p50_0 m i C
  rw[show(i+0).ble m.sz=true by rw[ble_dec];exact decide_eq_true h]at e
  have hb:∀ {σ:Nm},BIs Try.prog σ (outB 0 fun j=>m.mem (i+j)) (.rows 0 1 (rowPut (fun j=>slab [] (j*1) 1) 0 0 fun j=>[.int .u8 (m.mem (i+j))]) false false):=⟨rfl,rfl,fun j hj=>absurd hj (Nat.not_lt_zero _),.inl rfl,.inr rfl⟩
  exact body_walk FOK fx50 (by simp) e rfl ⟨mkT [2] [sl1 0 100],mkH [(100,outB 0 fun j=>m.mem (i+j)),(90,m.memB)],101⟩ (fun ρ w hd=>⟨_,_,_,rfl,rfl,⟨rfl,trivial⟩,hb,bis_mem,trivial⟩) ⟨rfl,rfl,trivial⟩ rfl rfl
 |succ k =>
  have e:=p50_1 m i C k
  rw[show(i+(k+1)).ble m.sz=true by rw[ble_dec];exact decide_eq_true h,decide_eq_true (show(0+(k+1))*3<=1099511627776 by omega)]at e
  simp only[Nat.zero_add]at e
  have hb:∀ {σ:Nm},BIs Try.prog σ (outB (k+1) fun j=>m.mem (i+j)) (.rows (k+1) 1 (rowCat (fun j=>slab [] (j*1) 1) 0 0 fun j=>[.int .u8 (m.mem (i+j))]) true false):=⟨rfl,rfl,fun j hj=>by
   show[Value.int .u8 (m.mem (i+j))]=(bif Nat.blt j 0 then _ else[Value.int .u8 (m.mem (i+(j-0)))])
   rw[blt_ff (Nat.not_lt_zero _),cond_false,Nat.sub_zero],.inl rfl,.inr rfl⟩
  exact body_walk FOK fx50 (by simp) e rfl ⟨mkT [2] [sl1 (k+1) 100],mkH [(100,outB (k+1) fun j=>m.mem (i+j)),(90,m.memB)],101⟩ (fun ρ w hd=>⟨_,_,_,rfl,rfl,⟨rfl,trivial⟩,hb,bis_mem,trivial⟩) ⟨rfl,rfl,trivial⟩ rfl rfl
theorem at50 {m:MS}{i l C:Nat} (hs:szB m.sz=true) (h:i+l<=m.sz):AtN 50 [.slice (some ⟨90,i,none⟩) l C] [(90,m.memB)] (sl1 l 100) (mkH [(100,outB l fun j=>m.mem (i+j))]) 100 1 :=
 ⟨rfl,adet_of_body (b50 (C:=C) hs h) [(90,90)] [(100,100)] rfl rfl ⟨bis_mem,trivial⟩ rfl rfl ⟨bis_outB,bis_mem,trivial⟩ rfl⟩
noncomputable abbrev sc37 (m:MS) (i l C:Nat):Short:=scOf [conAt 50 [.slice (some ⟨90,i,none⟩) l C] [(90,m.memB)] (sl1 l 100) (mkH [(100,outB l fun j=>m.mem (i+j))]) 100 1]
theorem p37_0 (m:MS) (at_ n:Int):walk (lookF FL) noSc 1000 (.region x37_0) (argTm 0 [pM,.int .i64 at_,.int .i64 n]) (mkH m.H) 100 ⟨[],[],[0,1,2],[90,91,92]⟩ j0_ j0_=some ⟨⟨[],[],.normal,100⟩,none⟩:=by kernel_rfl
def q37 (q0 n0 s0:Bool):Bool :=
 let q1:=bif q0 then true else n0
 let q2:=bif q1 then true else s0
 let q3:=!q2&&(!q2&&true)||!(!q2);let q4:=!q2&&true||!(!q2);let q5:=!q1&&true||!(!q1)
 ((!q2||q2)&&true||false)&&(q3&&(q3&&(q4&&(q4&&(q4&&(q4&&(((!q1||q1)&&true||false)&&((!q1&&(!q1&&true)||!(!q1))&&(q5&&(q5&&(q5&&(q5&&(((!q0||q0)&&true||false)&&((!q0&&true||!(!q0))&&true))))))))))))))
theorem q37_true (a b c:Bool):q37 a b c=true:=by cases a<;>cases b<;>cases c<;>rfl
def v37 (a b c d:Bool):Bool:=bif bif bif a then true else b then true else c then true else d
theorem p37_a (m:MS) (at_ n:Int):walk (lookF FL) noSc 1000 x37_5 (mkT [0,1,2] [pM,.int .i64 at_,.int .i64 n]) (mkH m.H) 100 ⟨[],[],[0,1,2],[90,91,92]⟩ ⟨[6,7],[],[],[90,91,92]⟩ j0_ =
  bif q37 (decide (at_<0)) (decide (n<0)) (decide (at_>(m.sz:Int)))then bif v37 (decide (at_<0)) (decide (n<0)) (decide (at_>(m.sz:Int))) (decide (n>IntKind.i64.wrap ((m.sz:Int)-at_)))then some ⟨⟨[some (true,.slice none 0 0),some (true,.int .i64 1)],[],.ret,100⟩,none⟩else some ⟨⟨[],[],.normal,100⟩,none⟩else none:=by kernel_rfl
theorem p37_b (m:MS) (at_ n:Int) (i l C:Nat):walk (lookF FL) (sc37 m i l C) 1000 x37_7 (mkT [0,1,2] [pM,.int .i64 at_,.int .i64 n]) (mkH m.H) 100 j0_ ⟨[6,7],[.id 100],[],[90,91,92]⟩ j0_ =
  bif decP ([Value.slice (some ⟨90,0+at_.toNat*1,none⟩) (IntKind.i64.wrap (at_+n)-at_).toNat (m.sz-at_.toNat)]=[Value.slice (some ⟨90,i,none⟩) l C]/\Has (mkH m.H) [(90,m.memB)]/\AtN 50 [.slice (some ⟨90,i,none⟩) l C] [(90,m.memB)] (sl1 l 100) (mkH [(100,outB l fun j=>m.mem (i+j))]) 100 1)&&true&&((decide (0<=at_)&&decide (at_<=IntKind.i64.wrap (at_+n))&&decide (IntKind.i64.wrap (at_+n)<=(m.sz:Int))&&true||false)&&true)then
   some ⟨⟨[some (true,sl1 l 100),some (true,.int .i64 0)],[(100,some (outB l fun j=>m.mem (i+j)))],.ret,101⟩,none⟩else none:=by kernel_rfl
theorem b37 {m:MS}{i l:Nat} (hs:szB m.sz=true) (h:i+l<=m.sz):Body Try.prog 37 [pM,.int .i64 (i:Int),.int .i64 (l:Int)] (mkH m.H) (.tuple ⟨[sl1 l 100,.int .i64 0]⟩) (mkH [(100,outB l fun j=>m.mem (i+j))]) 100 1:=by
 have hs':m.sz<=4194304:=by simpa [szB]using hs
 refine body_of' mixed fx37 (by simp) fun E Q hP hn hcl hfin=>?_
 have hF:FnsOK E.P (lookF FL) noSc:=hP▸FOK
 have lf:∀ {e:Exit}{k:Nat},LeafTo E ([]++[0,1,2]) ⟨[some (true,pM),some (true,.int .i64 (i:Int)),some (true,.int .i64 (l:Int))],[(90,some m.memB),(91,some m.kn.blk),(92,some m.mB)],e,k⟩ ⟨mkT [0,1,2] [pM,.int .i64 (i:Int),.int .i64 (l:Int)],mkH m.H,100⟩:=⟨_,m.H,100,rfl,by rw[hn];rfl,by rw[hn];exact⟨rfl,rfl,rfl,trivial⟩,by rw[hn,hP];exact⟨bis_mem,bis_kn,bis_mBg rfl rfl,trivial⟩⟩
 refine xwp_seqW (s:=⟨_,_,_⟩) hcl hF 1000 (p37_0 m (i:Int) (l:Int)) rfl ⟨mkT [0,1,2] [pM,.int .i64 (i:Int),.int .i64 (l:Int)],mkH m.H,100⟩ lf ?_
 have e:=p37_a m (i:Int) (l:Int)
 rw[q37_true,cond_true,decide_eq_false (show ¬ (i:Int)<0 by omega),decide_eq_false (show ¬ (l:Int)<0 by omega),decide_eq_false (show ¬ (i:Int)>m.sz by omega),wrap_i (n:=(m.sz:Int)-i) (by omega) (by omega),decide_eq_false (show ¬ (l:Int)>(m.sz:Int)-i by omega)]at e
 show XWP E.toEnv (.seq x37_5 x37_7) Q _
 refine xwp_seqW (s:=⟨_,_,_⟩) hcl hF 1000 e rfl ⟨mkT [0,1,2] [pM,.int .i64 (i:Int),.int .i64 (l:Int)],mkH m.H,100⟩ lf ?_
 have e2:=p37_b m (i:Int) (l:Int) i l (m.sz-i)
 rw[wrap_i (n:=(i:Int)+l) (by omega) (by omega)]at e2
 rw[decP_true ⟨by rw[show((i:Int)+l-i).toNat=l by omega,Int.toNat_natCast,Nat.zero_add,Nat.mul_one],⟨rfl,trivial⟩,at50 hs h⟩,decide_eq_true (show 0<=(i:Int) by omega),decide_eq_true (show(i:Int)<=i+l by omega),decide_eq_true (show(i:Int)+l<=m.sz by omega)]at e2
 refine xwp_toEnd (s:=⟨_,_,_⟩) hcl (fokE hP _) 1000 e2 ⟨mkT [6,7] [sl1 l 100,.int .i64 0],mkH ((100,outB l fun j=>m.mem (i+j)) :: m.H),101⟩ ⟨_,(100,outB l fun j=>m.mem (i+j)) :: m.H,101,rfl,by rw[hn];rfl,by rw[hn];exact⟨rfl,rfl,trivial⟩,by rw[hn,hP];exact⟨bis_outB,bis_mem,bis_kn,bis_mBg rfl rfl,trivial⟩⟩ (hfin _ _ (fin_of rfl ⟨rfl,rfl,rfl,rfl,trivial⟩ (by rw[hn]) rfl))
theorem b37_no {m:MS}{a n:Int} (h:v37 (decide (a<0)) (decide (n<0)) (decide (a>(m.sz:Int))) (decide (n>IntKind.i64.wrap ((m.sz:Int)-a)))=true):Body Try.prog 37 [pM,.int .i64 a,.int .i64 n] (mkH m.H) (.tuple ⟨[.slice none 0 0,.int .i64 1]⟩) [] 100 0:=by
 refine body_of' mixed fx37 (by simp) fun E Q hP hn hcl hfin=>?_
 have hF:FnsOK E.P (lookF FL) noSc:=hP▸FOK
 refine xwp_seqW (s:=⟨_,_,_⟩) hcl hF 1000 (p37_0 m a n) rfl ⟨mkT [0,1,2] [pM,.int .i64 a,.int .i64 n],mkH m.H,100⟩ ⟨_,m.H,100,rfl,by rw[hn];rfl,by rw[hn];exact⟨rfl,rfl,rfl,trivial⟩,by rw[hn,hP];exact⟨bis_mem,bis_kn,bis_mBg rfl rfl,trivial⟩⟩ ?_
 have e:=p37_a m a n
 rw[q37_true,cond_true,h,cond_true]at e
 show XWP E.toEnv (.seq x37_5 x37_7) Q _
 refine xwp_seq (xwp_toEnd (s:=⟨_,_,_⟩) (cl_seqP hcl) hF 1000 e ⟨mkT [6,7] [.slice none 0 0,.int .i64 1],mkH m.H,100⟩ ⟨_,m.H,100,rfl,by rw[hn];rfl,by rw[hn];exact⟨rfl,rfl,trivial⟩,by rw[hn,hP];exact⟨bis_mem,bis_kn,bis_mBg rfl rfl,trivial⟩⟩ ?_)
 exact hfin _ _ (fin_of rfl ⟨rfl,rfl,rfl,trivial⟩ (by rw[hn]) rfl)
def xK (x:Nat->Int):Nat->Int
 |0=>0
 |j+1=>bif Nat.blt j 32 then x j else 0
def b33 (m d:MS):List (Nat × Blk):=[(100,docB 93 d)]++(m.H++[(93,d.memB)])
abbrev pB:Value:=.pointer (some ⟨100,0,some 0⟩)
section
variable (m d:MS)
theorem p33_a:walk (lookF FL) noSc 1000 x33 (argTm 0 [pM,docV 93 d]) (mkH (m.H++[(93,d.memB)])) 100 j0_ j0_ ⟨[5,3],[.tmp 3],[0],[90,91,92,93]⟩=some ⟨⟨[some (true,.int .i64 (-1)),some (true,pB)],[(100,some (docB 93 d))],.normal,101⟩,some (x33_20,[.bl 0,.sq x33_31])⟩:=by kernel_rfl
def R33 (k:Nat):Prop:=walk (lookF FL) noSc 1000 x33_20 (mkT [5,3,0] [.int .i64 ((k:Int)-1),pB,pM]) (mkH (b33 m d)) 101 ⟨[5],[],[3,0],[100,90,91,92,93]⟩ ⟨[4],[],[],[]⟩ j0_ =
 bif xK m.x k != xK d.x k then some ⟨⟨[some (true,.bool false)],[],.ret,101⟩,none⟩else some ⟨⟨[some (true,.int .i64 (k:Int))],[],.normal,101⟩,none⟩
theorem r33:∀ k,k<34->R33 m d k
 |0,_=>by unfold R33;kernel_rfl
 |1,_=>by unfold R33;kernel_rfl
 |2,_=>by unfold R33;kernel_rfl
 |3,_=>by unfold R33;kernel_rfl
 |4,_=>by unfold R33;kernel_rfl
 |5,_=>by unfold R33;kernel_rfl
 |6,_=>by unfold R33;kernel_rfl
 |7,_=>by unfold R33;kernel_rfl
 |8,_=>by unfold R33;kernel_rfl
 |9,_=>by unfold R33;kernel_rfl
 |10,_=>by unfold R33;kernel_rfl
 |11,_=>by unfold R33;kernel_rfl
 |12,_=>by unfold R33;kernel_rfl
 |13,_=>by unfold R33;kernel_rfl
 |14,_=>by unfold R33;kernel_rfl
 |15,_=>by unfold R33;kernel_rfl
 |16,_=>by unfold R33;kernel_rfl
 |17,_=>by unfold R33;kernel_rfl
 |18,_=>by unfold R33;kernel_rfl
 |19,_=>by unfold R33;kernel_rfl
 |20,_=>by unfold R33;kernel_rfl
 |21,_=>by unfold R33;kernel_rfl
 |22,_=>by unfold R33;kernel_rfl
 |23,_=>by unfold R33;kernel_rfl
 |24,_=>by unfold R33;kernel_rfl
 |25,_=>by unfold R33;kernel_rfl
 |26,_=>by unfold R33;kernel_rfl
 |27,_=>by unfold R33;kernel_rfl
 |28,_=>by unfold R33;kernel_rfl
 |29,_=>by unfold R33;kernel_rfl
 |30,_=>by unfold R33;kernel_rfl
 |31,_=>by unfold R33;kernel_rfl
 |32,_=>by unfold R33;kernel_rfl
 |33,_=>by unfold R33;kernel_rfl
 |k+34,h=>by omega
theorem p33_z:walk (lookF FL) noSc 1000 x33_20 (mkT [5,3,0] [.int .i64 33,pB,pM]) (mkH (b33 m d)) 101 ⟨[5],[],[3,0],[100,90,91,92,93]⟩ ⟨[4],[],[],[]⟩ j0_=some ⟨⟨[some (true,.int .i64 33)],[],.exit 0,101⟩,none⟩:=by kernel_rfl
theorem p33_c (l:Nat):walk (lookF FL) (scOf [conAt 37 [pM,.int .i64 0,.int .i64 (l:Int)] m.H (.tuple ⟨[sl1 l 101,.int .i64 0]⟩) (mkH [(101,outB l m.mem)]) 101 1]) 1000 (.region x33_24) (mkT [3,0] [pB,pM]) (mkH (b33 m d)) 101 ⟨[7,8],[.id 101],[3,0],[100,90,91,92,93]⟩ j0_ j0_ =
  bif decP ([pM,.int .i64 0,.int .i64 (d.sz:Int)]=[pM,.int .i64 0,.int .i64 (l:Int)]/\Has (mkH m.H) m.H/\AtN 37 [pM,.int .i64 0,.int .i64 (l:Int)] m.H (.tuple ⟨[sl1 l 101,.int .i64 0]⟩) (mkH [(101,outB l m.mem)]) 101 1)&&true&&true then some ⟨⟨[some (true,sl1 l 101),some (true,.int .i64 0)],[(101,some (outB l m.mem))],.normal,102⟩,none⟩else none:=by kernel_rfl
abbrev c33:List (Nat × Blk):=[(101,outB d.sz m.mem)]++b33 m d
theorem p33_d (n:Int):walk (lookF FL) (scOf [conG 37 [pM,.int .i64 0,.int .i64 n] m.H (.tuple ⟨[.slice none 0 0,.int .i64 1]⟩)]) 1000 (.region x33_25) (mkT [7,8,3,0] [sl1 d.sz 101,.int .i64 0,pB,pM]) (mkH (c33 m d)) 102 ⟨[10],[],[7,8,3,0],[101,100,90,91,92,93]⟩ j0_ j0_ =
  bif (decP ([pM,.int .i64 0,.int .i64 (IntKind.i64.wrap ((d.sz:Int)+1))]=[pM,.int .i64 0,.int .i64 n]/\Has (mkH m.H) m.H/\DetG 37 [pM,.int .i64 0,.int .i64 n] m.H (.tuple ⟨[.slice none 0 0,.int .i64 1]⟩))||false)&&true then some ⟨⟨[some (true,.int .i64 1)],[],.normal,102⟩,none⟩else none:=by kernel_rfl
theorem p33_e:walk (lookF FL) (scOf [conG 37 [pM,.int .i64 (-1),.int .i64 1] m.H (.tuple ⟨[.slice none 0 0,.int .i64 1]⟩)]) 1000 (.region x33_26) (mkT [10,7,8,3,0] [.int .i64 1,sl1 d.sz 101,.int .i64 0,pB,pM]) (mkH (c33 m d)) 102 ⟨[12],[],[10,7,8,3,0],[101,100,90,91,92,93]⟩ j0_ j0_ =
  bif (decP ([pM,.int .i64 (-1),.int .i64 1]=[pM,.int .i64 (-1),.int .i64 1]/\Has (mkH m.H) m.H/\DetG 37 [pM,.int .i64 (-1),.int .i64 1] m.H (.tuple ⟨[.slice none 0 0,.int .i64 1]⟩))||false)&&true then some ⟨⟨[some (true,.int .i64 1)],[],.normal,102⟩,none⟩else none:=by kernel_rfl
def strM (oN:Nat) (of:Nat->Int):List UInt8:=(ByteArray.mk (List.map (fun j=>u8Of [Value.int IntKind.u8 (of (0+j))]) (List.range oN)).toArray).toList
def okM (oN:Nat) (of:Nat->Int):Bool:=(0+oN).ble oN&&true&&(List.range oN).all fun j=>isU8 [Value.int IntKind.u8 (of (0+j))]
theorem okM_true (oN:Nat) (of:Nat->Int):okM oN of=true:=by
 unfold okM
 rw[Nat.zero_add,show oN.ble oN=true by simp,show((List.range oN).all fun j=>isU8 [Value.int IntKind.u8 (of (0+j))])=true from List.all_eq_true.2 fun _ _=>rfl];rfl
theorem strM_congr {oN:Nat}{of of2:Nat->Int} (h:∀ j,j<oN->of j=of2 j):strM oN of=strM oN of2:=by
 unfold strM
 have:List.map (fun j=>u8Of [Value.int IntKind.u8 (of (0+j))]) (List.range oN)=List.map (fun j=>u8Of [Value.int IntKind.u8 (of2 (0+j))]) (List.range oN):=List.map_congr_left fun j hj=>by rw[Nat.zero_add,h j (List.mem_range.1 hj)]
 rw[this]
def q33 (a s km kd:Bool):Bool :=
 let q0:=bif a then true else false;let q1:=bif q0 then s else false;let q2:=bif q1 then true else false;let q3:=!a
 ((q2||!q2)&&true||false)&&((q2&&true||!q2)&&(((q1||!q1)&&true||false)&&((q1&&true||!q1)&&(((q0||!q0)&&true||false)&&((q0&&(q0&&true)||!q0)&&((kd&&(q0&&true)||!q0)&&((q0&&true||!q0)&&((km&&(q0&&true)||!q0)&&(((a||q3)&&true||false)&&((a&&true||q3)&&true))))))))))
def v33 (a s:Bool):Bool:=bif bif bif bif a then true else false then s else false then true else false then true else false
theorem p33_f:walk (lookF FL) noSc 1000 x33_28 (mkT [12,10,7,8,3,0] [.int .i64 1,.int .i64 1,sl1 d.sz 101,.int .i64 0,pB,pM]) (mkH (c33 m d)) 102 ⟨[4],[],[],[]⟩ ⟨[4],[],[],[90,91,92,93]⟩ j0_ =
  bif q33 (m.pl==d.pl) (strM d.sz m.mem==strM d.sz d.mem) (okM d.sz m.mem) (okM d.sz d.mem)then some ⟨⟨[some (true,.bool (v33 (m.pl==d.pl) (strM d.sz m.mem==strM d.sz d.mem)))],[],.ret,102⟩,none⟩else none:=by kernel_rfl
end
theorem at37_101 {m:MS} (hs:szB m.sz=true):AtN 37 [pM,.int .i64 0,.int .i64 (m.sz:Int)] m.H (.tuple ⟨[sl1 m.sz 101,.int .i64 0]⟩) (mkH [(101,outB m.sz m.mem)]) 101 1:=by
 have h:=b37 (m:=m) (i:=0) (l:=m.sz) hs (by omega)
 have e:(fun j=>m.mem (0+j))=m.mem:=funext fun j=>by rw[Nat.zero_add]
 rw[e]at h
 exact⟨rfl,adet_of_body h [(90,90),(91,91),(92,92)] [(101,100)] rfl rfl ⟨bis_mem,bis_kn,bis_mBg rfl rfl,trivial⟩ rfl rfl ⟨bis_outB,bis_mem,bis_kn,bis_mBg rfl rfl,trivial⟩ rfl⟩
theorem at37_no {m:MS}{a n:Int} (h:v37 (decide (a<0)) (decide (n<0)) (decide (a>(m.sz:Int))) (decide (n>IntKind.i64.wrap ((m.sz:Int)-a)))=true):DetG 37 [pM,.int .i64 a,.int .i64 n] m.H (.tuple ⟨[.slice none 0 0,.int .i64 1]⟩) :=
 ⟨rfl,fun k=>adet_of_body (b37_no h) [(90,90),(91,91),(92,92)] [] rfl rfl ⟨bis_mem,bis_kn,bis_mBg rfl rfl,trivial⟩ rfl rfl ⟨bis_mem,bis_kn,bis_mBg rfl rfl,trivial⟩ rfl⟩
theorem regs_congr {x y:Nat->Int} (h:∀ j,j<32->x j=y j):regs x=regs y:=by
 unfold regs
 rw[h 0 (by omega),h 1 (by omega),h 2 (by omega),h 3 (by omega),h 4 (by omega),h 5 (by omega),h 6 (by omega),h 7 (by omega),h 8 (by omega),h 9 (by omega),h 10 (by omega),h 11 (by omega),h 12 (by omega),h 13 (by omega),h 14 (by omega),h 15 (by omega),
  h 16 (by omega),h 17 (by omega),h 18 (by omega),h 19 (by omega),h 20 (by omega),h 21 (by omega),h 22 (by omega),h 23 (by omega),h 24 (by omega),h 25 (by omega),h 26 (by omega),h 27 (by omega),h 28 (by omega),h 29 (by omega),h 30 (by omega),h 31 (by omega)]
theorem bis_doc {P:Program}{σ:Nm}{d:MS}{a b:Nat} (h:σ a=some b):BIs P σ (docB a d) (docB b d):=by
 show ren σ 4 (.slice (some ⟨a,0,none⟩) d.sz d.sz) :: rnL σ (regs d.x++[.int .u64 d.pl,.int .i64 d.st,.int .u8 d.cd])=_
 simp only[ren,renP,h]
 rfl
theorem tells33 {m d:MS} (hs:szB m.sz=true) (hsz:d.sz=m.sz) (hx:∀ j,j<32->m.x j=d.x j) (hpl:m.pl=d.pl) (hm:∀ j,j<m.sz->m.mem j=d.mem j) :
  Body Try.prog 33 [pM,docV 93 d] (mkH (m.H++[(93,d.memB)])) (.bool true) [] 100 0:=by
 have hs':m.sz<=4194304:=by simpa [szB]using hs
 refine body_of' mixed fx33 (by simp) fun E Q hP hn hcl hfin=>?_
 have hF:FnsOK E.P (lookF FL) noSc:=hP▸FOK
 have hd:∀ {σ:Nm},σ 93=some 93->BIs Try.prog σ (docB 93 d) (docB 93 d):=bis_doc
 let S:Nat->St:=fun k=>⟨mkT [5,3,0] [.int .i64 ((k:Int)-1),pB,pM],mkH (b33 m d),101⟩
 have lfS:∀ {v:Int}{ex:Exit}{q:Nat}{ks:List Nat}{vs:List Value}{ts:List (Option (Bool × Value))},tsOK (stayOr 100 [(100,100),(90,90),(91,91),(92,92),(93,93)]) ts vs->LeafTo E ks ⟨ts,[(100,some (docB 93 d)),(90,some m.memB),(91,some m.kn.blk),(92,some m.mB),(93,some d.memB)],ex,q⟩ ⟨mkT ks vs,mkH (b33 m d),101⟩:=fun {v ex q ks vs ts} ht =>
  ⟨_,b33 m d,101,rfl,by rw[hn];rfl,by rw[hn];exact ht,by rw[hn,hP];exact⟨hd rfl,bis_mem,bis_kn,bis_mBg rfl rfl,bis_mem,trivial⟩⟩
 refine xwp_toLoop (s:=⟨_,_,_⟩) hF 1000 (p33_a m d) (S 0) (lfS (v:=0) ⟨rfl,rfl,rfl,trivial⟩) ?_
 refine xwp_loopR (ι:=Nat) S (fun k=>k<=34) (fun k=>34-k) 0 (by omega) fun k hk=>?_
 have hcr:=cl_round (S:=S) (I:=fun k=>k<=34) (μ:=fun k=>34-k) (i:=k) (cl_ctx hcl [.bl 0,.sq x33_31])
 by_cases hlt:k<34
 ·have e:=r33 m d k hlt
  have hxx:(xK m.x k != xK d.x k)=false:=by
   cases k with
   |zero=>rfl
   |succ j =>
    show((bif Nat.blt j 32 then m.x j else 0) != (bif Nat.blt j 32 then d.x j else 0))=false
    by_cases h:j<32
    ·rw[lt_blt h,cond_true,cond_true,hx j h];simp
    ·rw[blt_ff h];rfl
  unfold R33 at e
  rw[hxx,cond_false]at e
  exact xwp_toEnd (s:=S k) hcr hF 1000 e (S (k+1)) (lfS (v:=0) ⟨by show some (true,Value.int .i64 (k:Int))=some (true,Value.int .i64 (((k+1:Nat):Int)-1));rw[show(((k+1:Nat):Int)-1)=(k:Int) by omega],rfl,rfl,trivial⟩) ⟨k+1,hlt,by simp only;omega,Wk.refl _ _⟩
 ·have:k=34:=by omega
  subst this
  refine xwp_toEnd (s:=S 34) hcr hF 1000 (p33_z m d) (S 34) (lfS (v:=0) ⟨rfl,rfl,rfl,trivial⟩) ?_
  show XWP E.toEnv (.seq (.region x33_24) x33_30) Q (S 34)
  refine XWP.wk (s':=⟨mkT [3,0] [pB,pM],mkH (b33 m d),101⟩) ?_ ?_
  ·exact LeafTo.wk (E:=E) (ks:=[3,0]) (rs:=[.id 100,.id 90,.id 91,.id 92,.id 93]) (e:=.normal) (l:=⟨[some (true,pB),some (true,pM)],[(100,some (docB 93 d)),(90,some m.memB),(91,some m.kn.blk),(92,some m.mB),(93,some d.memB)],.normal,101⟩) (lfS (v:=0) ⟨rfl,rfl,trivial⟩) rfl
  have ec:=p33_c m d d.sz
  have A:=at37_101 (m:=m) hs
  rw[<- hsz]at A
  rw[decP_true ⟨rfl,⟨rfl,rfl,rfl,trivial⟩,A⟩]at ec
  simp only[Bool.and_self,cond_true]at ec
  have lfC:∀ {ex:Exit}{q:Nat}{ks:List Nat}{vs:List Value}{ts:List (Option (Bool × Value))},tsOK (stayOr 100 [(101,101),(100,100),(90,90),(91,91),(92,92),(93,93)]) ts vs->LeafTo E ks ⟨ts,[(101,some (outB d.sz m.mem)),(100,some (docB 93 d)),(90,some m.memB),(91,some m.kn.blk),(92,some m.mB),(93,some d.memB)],ex,q⟩ ⟨mkT ks vs,mkH (c33 m d),102⟩:=fun {ex q ks vs ts} ht =>
   ⟨_,c33 m d,102,rfl,by rw[hn];rfl,by rw[hn];exact ht,by rw[hn,hP];exact⟨bis_outB,hd rfl,bis_mem,bis_kn,bis_mBg rfl rfl,bis_mem,trivial⟩⟩
  refine xwp_seqW (s:=⟨_,_,_⟩) hcl (fokE hP _) 1000 ec rfl ⟨mkT [7,8,3,0] [sl1 d.sz 101,.int .i64 0,pB,pM],mkH (c33 m d),102⟩ (lfC ⟨rfl,rfl,rfl,rfl,trivial⟩) ?_
  have ed:=p33_d m d ((d.sz:Int)+1)
  rw[wrap_i (n:=(d.sz:Int)+1) (by omega) (by omega)]at ed
  have no1:v37 (decide ((0:Int)<0)) (decide ((d.sz:Int)+1<0)) (decide ((0:Int)>(m.sz:Int))) (decide ((d.sz:Int)+1>IntKind.i64.wrap ((m.sz:Int)-0)))=true:=by
   rw[wrap_i (n:=(m.sz:Int)-0) (by omega) (by omega),decide_eq_true (show(d.sz:Int)+1>(m.sz:Int)-0 by omega)]
   unfold v37
   cases decide ((0:Int)<0)<;>cases decide ((d.sz:Int)+1<0)<;>cases decide ((0:Int)>(m.sz:Int))<;>rfl
  rw[decP_true ⟨rfl,⟨rfl,rfl,rfl,trivial⟩,at37_no no1⟩]at ed
  simp only[Bool.and_self,Bool.or_false,cond_true]at ed
  show XWP E.toEnv (.seq (.region x33_25) x33_29) Q _
  refine xwp_seqW (s:=⟨_,_,_⟩) hcl (fokE hP _) 1000 ed rfl ⟨mkT [10,7,8,3,0] [.int .i64 1,sl1 d.sz 101,.int .i64 0,pB,pM],mkH (c33 m d),102⟩ (lfC ⟨rfl,rfl,rfl,rfl,rfl,trivial⟩) ?_
  have ee:=p33_e m d
  rw[decP_true ⟨rfl,⟨rfl,rfl,rfl,trivial⟩,at37_no (m:=m) (a:=-1) (n:=1) rfl⟩]at ee
  simp only[Bool.and_self,Bool.or_false,cond_true]at ee
  show XWP E.toEnv (.seq (.region x33_26) x33_28) Q _
  refine xwp_seqW (s:=⟨_,_,_⟩) hcl (fokE hP _) 1000 ee rfl ⟨mkT [12,10,7,8,3,0] [.int .i64 1,.int .i64 1,sl1 d.sz 101,.int .i64 0,pB,pM],mkH (c33 m d),102⟩ (lfC ⟨rfl,rfl,rfl,rfl,rfl,rfl,trivial⟩) ?_
  have ef:=p33_f m d
  have hstr:(strM d.sz m.mem==strM d.sz d.mem)=true:=by rw[strM_congr fun j hj=>hm j (by omega)];simp
  rw[show(m.pl==d.pl)=true by rw[hpl];simp,hstr,okM_true,okM_true]at ef
  exact xwp_toEnd (s:=⟨_,_,_⟩) hcl hF 1000 ef ⟨mkT [4] [.bool true],mkH (m.H++[(93,d.memB)]),100⟩ ⟨_,m.H++[(93,d.memB)],100,rfl,by rw[hn];rfl,by rw[hn];exact⟨rfl,trivial⟩,by rw[hn,hP];exact⟨bis_mem,bis_kn,bis_mBg rfl rfl,bis_mem,trivial⟩⟩ (hfin _ _ (fin_of rfl (by exact⟨rfl,rfl,rfl,rfl,trivial⟩) (by rw[hn]) rfl))
def dm32 (sz:Nat) (mem:Nat->Int):MS:=⟨sz,mem,fun _=>0,0,0,0,⟨0,fun _=>false⟩⟩
def docN:Blk:=.var ([.slice none 0 0]++regs (fun _=>0)++[.int .u64 0,.int .i64 0,.int .u8 0])
end Go.X
