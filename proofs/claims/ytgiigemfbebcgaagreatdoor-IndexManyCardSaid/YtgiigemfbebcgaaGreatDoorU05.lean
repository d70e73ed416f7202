/-
  Layers 0 to 14: helps of the laws of indexes. No statement is proved here; no condition.
-/
import Derived.Test.YtgiigemfbebcgaaGreatDoorU04
import Derived.Test.YtgiigemfbebcgaaGreatDoorU01
namespace Go.Proofs.YtgiigemfbebcgaaGreatDoor
open _root_.Go.Proofs.Tryz
open Go.RowKit
set_option maxRecDepth 100000 in
theorem lit259 (t:Array Value) (h:t.size=259):∃ c:Nat->Value,t=#[c 0,c 1,c 2,c 3,c 4,c 5,c 6,c 7,c 8,c 9,c 10,c 11,c 12,c 13,c 14,c 15,c 16,c 17,c 18,c 19,c 20,c 21,c 22,c 23,c 24,c 25,c 26,c 27,c 28,c 29,c 30,c 31,c 32,c 33,c 34,c 35,c 36,c 37,c 38,c 39,c 40,c 41,c 42,c 43,c 44,c 45,c 46,c 47,c 48,c 49,c 50,c 51,c 52,c 53,c 54,c 55,c 56,c 57,c 58,c 59,c 60,c 61,c 62,c 63,c 64,c 65,c 66,c 67,c 68,c 69,c 70,c 71,c 72,c 73,c 74,c 75,c 76,c 77,c 78,c 79,c 80,c 81,c 82,c 83,c 84,c 85,c 86,c 87,c 88,c 89,c 90,c 91,c 92,c 93,c 94,c 95,c 96,c 97,c 98,c 99,c 100,c 101,c 102,c 103,c 104,c 105,c 106,c 107,c 108,c 109,c 110,c 111,c 112,c 113,c 114,c 115,c 116,c 117,c 118,c 119,c 120,c 121,c 122,c 123,c 124,c 125,c 126,c 127,c 128,c 129,c 130,c 131,c 132,c 133,c 134,c 135,c 136,c 137,c 138,c 139,c 140,c 141,c 142,c 143,c 144,c 145,c 146,c 147,c 148,c 149,c 150,c 151,c 152,c 153,c 154,c 155,c 156,c 157,c 158,c 159,c 160,c 161,c 162,c 163,c 164,c 165,c 166,c 167,c 168,c 169,c 170,c 171,c 172,c 173,c 174,c 175,c 176,c 177,c 178,c 179,c 180,c 181,c 182,c 183,c 184,c 185,c 186,c 187,c 188,c 189,c 190,c 191,c 192,c 193,c 194,c 195,c 196,c 197,c 198,c 199,c 200,c 201,c 202,c 203,c 204,c 205,c 206,c 207,c 208,c 209,c 210,c 211,c 212,c 213,c 214,c 215,c 216,c 217,c 218,c 219,c 220,c 221,c 222,c 223,c 224,c 225,c 226,c 227,c 228,c 229,c 230,c 231,c 232,c 233,c 234,c 235,c 236,c 237,c 238,c 239,c 240,c 241,c 242,c 243,c 244,c 245,c 246,c 247,c 248,c 249,c 250,c 251,c 252,c 253,c 254,c 255,c 256,c 257,c 258]/\∀ i,t.getD i undef=c i:=by
 refine ⟨fun i=>t.getD i undef,?_,fun _=>rfl⟩
 have h1:=arr_lits t
 rw [h] at h1
 exact h1.trans (by kernel_rfl)
noncomputable def bodyW:Code:=Tryz.f76.body.getD .skip
noncomputable def blkW2:Code:=(blockAt 2 bodyW).getD .skip
noncomputable def blkW3:Code:=(blockAt 3 bodyW).getD .skip
noncomputable def blkW4:Code:=(blockAt 4 bodyW).getD .skip
noncomputable def blkW5:Code:=(blockAt 5 bodyW).getD .skip
noncomputable def blkW6:Code:=(blockAt 6 bodyW).getD .skip
noncomputable def blkW7:Code:=(blockAt 7 bodyW).getD .skip
set_option maxRecDepth 100000 in
set_option maxHeartbeats 4000000 in
theorem rword_lo (bb bo bn bc g i at':Nat) (v2 v3 v4:Value) (y0 y1 y2 y3:Int) (ws:List Int) (a:Act) (w:World) (hi:i < 16) (hn:at'+64<=bn) (hb:bn<=281474976710656) (hws:ws.length=i) (hg:w.heap[g]? = some (.cells (wCells ws) 148 (0,0)))
  (h0:w.cell? ⟨bb,bo+(at'+(4*i+0)),none⟩=some (.int .u8 y0)) (h1:w.cell? ⟨bb,bo+(at'+(4*i+1)),none⟩=some (.int .u8 y1)) (h2:w.cell? ⟨bb,bo+(at'+(4*i+2)),none⟩=some (.int .u8 y2)) (h3:w.cell? ⟨bb,bo+(at'+(4*i+3)),none⟩=some (.int .u8 y3))
  (hF:Fr 259 [(2,v2),(3,v3),(4,v4),(5,.slice (some ⟨bb,bo,none⟩) bn bc),(6,.int .i64 (at':Int)),(7,.pointer (some ⟨g,0,none⟩)),(8,.int .i64 (i:Int))] a) :
  Code.wp prog blkW3 (Exit.then (fun a' w'=>Fr 259 [(2,v2),(3,v3),(4,v4),(5,.slice (some ⟨bb,bo,none⟩) bn bc),(6,.int .i64 (at':Int)),(7,.pointer (some ⟨g,0,none⟩)),(8,.int .i64 (i:Int))] a'/\w'.heap[g]? = some (.cells (wCells (ws++[be4 y0 y1 y2 y3])) 148 (0,0))/\Mod (fun q=>q=g) w w') Nope) a w:=by
 refine wp_part fun J K' hJ hK=>?_
 obtain ⟨ts,ds⟩:=a
 obtain ⟨hsz,hds,hs2,hs3,hs4,hs5,hs6,hs7,hs8,-⟩:=hF
 dsimp only at hsz hds hs2 hs3 hs4 hs5 hs6 hs7 hs8
 subst hds
 obtain ⟨c,rfl,hc⟩:=lit259 ts hsz
 rw [hc] at hs2
 rw [hc] at hs3
 rw [hc] at hs4
 rw [hc] at hs5
 rw [hc] at hs6
 rw [hc] at hs7
 rw [hc] at hs8
 simp only [hs2,hs3,hs4,hs5,hs6,hs7,hs8]
 clear hc hsz hs2 hs3 hs4 hs5 hs6 hs7 hs8
 have hi0:(0:Int)<=(i:Int):=Int.natCast_nonneg _
 have hi64:(i:Int) < 64:=by omega
 have HG:=zh hg
 obtain ⟨j,hj⟩:∃ j,j=4*i:=⟨_,rfl⟩
 rw [<- hj] at h0 h1 h2 h3
 have hjI:(4:Int)*(i:Int)=(j:Int):=by omega
 have hj0:(0:Int)<=(j:Int):=Int.natCast_nonneg _
 obtain ⟨m,hm⟩:∃ m,m=at'+j:=⟨_,rfl⟩
 obtain ⟨m1,hm1⟩:∃ j1,j1=m+1:=⟨_,rfl⟩
 obtain ⟨m2,hm2⟩:∃ j2,j2=m+2:=⟨_,rfl⟩
 obtain ⟨m3,hm3⟩:∃ j3,j3=m+3:=⟨_,rfl⟩
 have EJ:=zh (show IntKind.i64.wrap (j:Int)=(j:Int) by rw [IntKind.wrap_i64];omega)
 have EM:=zh (show IntKind.i64.wrap ((at':Int)+(j:Int))=(m:Int) by rw [IntKind.wrap_i64];omega)
 have E1:=zh (show IntKind.i64.wrap ((m:Int)+1)=(m1:Int) by rw [IntKind.wrap_i64];omega)
 have E2:=zh (show IntKind.i64.wrap ((m:Int)+2)=(m2:Int) by rw [IntKind.wrap_i64];omega)
 have E3:=zh (show IntKind.i64.wrap ((m:Int)+3)=(m3:Int) by rw [IntKind.wrap_i64];omega)
 have b1:(m1:Int) < (bn:Int):=by omega
 have b2:(m2:Int) < (bn:Int):=by omega
 have b3:(m3:Int) < (bn:Int):=by omega
 have b0:(m:Int) < (bn:Int):=by omega
 have c0:(0:Int)<=(m:Int):=Int.natCast_nonneg _
 have c1:(0:Int)<=(m1:Int):=Int.natCast_nonneg _
 have c2:(0:Int)<=(m2:Int):=Int.natCast_nonneg _
 have c3:(0:Int)<=(m3:Int):=Int.natCast_nonneg _
 rw [Nat.add_zero,<- hm] at h0
 rw [<- Nat.add_assoc at' j,<- hm,<- hm1] at h1
 rw [<- Nat.add_assoc at' j,<- hm,<- hm2] at h2
 rw [<- Nat.add_assoc at' j,<- hm,<- hm3] at h3
 clear hm1 hm2 hm3
 have hS0:=And.intro h0 (And.intro h1 (And.intro h2 h3))
 clear hm hj hg hb
 conv=>arg 2;whnf
 go_upto_region 11 with fail
 refine wp_region_T (fun w'=>w'.cell? ⟨bb,bo+m,none⟩=some (.int .u8 y0)/\w'.cell? ⟨bb,bo+m1,none⟩=some (.int .u8 y1)/\w'.cell? ⟨bb,bo+m2,none⟩=some (.int .u8 y2)/\w'.cell? ⟨bb,bo+m3,none⟩=some (.int .u8 y3)) 43 (by kernel_rfl) ?_
 refine wpAnyT_take 0 (some 39) ?_ rfl rfl (by kernel_rfl) (fun _ _ _ h=>h) hS0 (Or.inl ⟨by rfl,?_⟩) ?_
 rotate_left
 ·(intro w' hSw;obtain ⟨s0,s1,s2,s3⟩:=hSw;go_simp;try with_reducible rfl)
 simp only [Act.put,yB,yC,yD]
 refine wpAnyT_take 1 (some 40) ?_ rfl rfl (by kernel_rfl) (fun _ _ _ h=>h) hS0 (Or.inl ⟨by rfl,?_⟩) ?_
 rotate_left
 ·(intro w' hSw;obtain ⟨s0,s1,s2,s3⟩:=hSw;go_simp;try with_reducible rfl)
 simp only [Act.put,yB,yC,yD]
 refine wpAnyT_take 2 (some 41) ?_ rfl rfl (by kernel_rfl) (fun _ _ _ h=>h) hS0 (Or.inl ⟨by rfl,?_⟩) ?_
 rotate_left
 ·(intro w' hSw;obtain ⟨s0,s1,s2,s3⟩:=hSw;go_simp;try with_reducible rfl)
 simp only [Act.put,yB,yC,yD]
 refine wpAnyT_take 3 (some 42) ?_ rfl rfl (by kernel_rfl) (fun _ _ _ h=>h) hS0 (Or.inl ⟨by rfl,?_⟩) ?_
 rotate_left
 ·(intro w' hSw;obtain ⟨s0,s1,s2,s3⟩:=hSw;go_simp;try with_reducible rfl)
 simp only [Act.put,yB,yC,yD]
 refine wpAnyT_take 4 (some 43) (.int .i64 (j:Int)) rfl rfl (by kernel_rfl) (fun _ _ _ h=>h) hS0 (Or.inl ⟨by rfl,?_⟩) ?_
 ·(intro w' hSw;obtain ⟨s0,s1,s2,s3⟩:=hSw;go_simp;exact EJ.out)
 simp only [Act.put,yB,yC,yD]
 refine wpAnyT_take 5 (some 44) (.int .i64 (m:Int)) rfl rfl (by kernel_rfl) (fun _ _ _ h=>h) hS0 (Or.inl ⟨by rfl,?_⟩) ?_
 ·(intro w' hSw;obtain ⟨s0,s1,s2,s3⟩:=hSw;go_simp;exact EM.out)
 simp only [Act.put,yB,yC,yD]
 refine wpAnyT_take 6 (some 45) ?_ rfl rfl (by kernel_rfl) (fun _ _ _ h=>h) hS0 (Or.inl ⟨by rfl,?_⟩) ?_
 rotate_left
 ·(intro w' hSw;obtain ⟨s0,s1,s2,s3⟩:=hSw;go_simp;try with_reducible rfl)
 simp only [Act.put,yB,yC,yD]
 refine wpAnyT_take 7 (some 46) ?_ rfl rfl (by kernel_rfl) (fun _ _ _ h=>h) hS0 (Or.inl ⟨by rfl,?_⟩) ?_
 rotate_left
 ·(intro w' hSw;obtain ⟨s0,s1,s2,s3⟩:=hSw;go_simp;try with_reducible rfl)
 simp only [Act.put,yB,yC,yD]
 refine wpAnyT_take 8 (some 47) ?_ rfl rfl (by kernel_rfl) (fun _ _ _ h=>h) hS0 (Or.inl ⟨by rfl,?_⟩) ?_
 rotate_left
 ·(intro w' hSw;obtain ⟨s0,s1,s2,s3⟩:=hSw;go_simp;try with_reducible rfl)
 simp only [Act.put,yB,yC,yD]
 refine wpAnyT_take 9 (some 48) ?_ rfl rfl (by kernel_rfl) (fun _ _ _ h=>h) hS0 (Or.inl ⟨by rfl,?_⟩) ?_
 rotate_left
 ·(intro w' hSw;obtain ⟨s0,s1,s2,s3⟩:=hSw;go_simp;try with_reducible rfl)
 simp only [Act.put,yB,yC,yD]
 refine wpAnyT_take 10 (some 49) ?_ rfl rfl (by kernel_rfl) (fun _ _ _ h=>h) hS0 (Or.inl ⟨by rfl,?_⟩) ?_
 rotate_left
 ·(intro w' hSw;obtain ⟨s0,s1,s2,s3⟩:=hSw;go_simp;try with_reducible rfl)
 simp only [Act.put,yB,yC,yD]
 refine wpAnyT_take 11 (some 50) ?_ rfl rfl (by kernel_rfl) (fun _ _ _ h=>h) hS0 (Or.inl ⟨by rfl,?_⟩) ?_
 rotate_left
 ·(intro w' hSw;obtain ⟨s0,s1,s2,s3⟩:=hSw;go_simp;try with_reducible rfl)
 simp only [Act.put,yB,yC,yD]
 refine wpAnyT_take 12 (some 51) ?_ rfl rfl (by kernel_rfl) (fun _ _ _ h=>h) hS0 (Or.inl ⟨by rfl,?_⟩) ?_
 rotate_left
 ·(intro w' hSw;obtain ⟨s0,s1,s2,s3⟩:=hSw;go_simp;try with_reducible rfl)
 simp only [Act.put,yB,yC,yD]
 refine wpAnyT_take 13 (some 52) (.int .i64 (j:Int)) rfl rfl (by kernel_rfl) (fun _ _ _ h=>h) hS0 (Or.inl ⟨by rfl,?_⟩) ?_
 ·(intro w' hSw;obtain ⟨s0,s1,s2,s3⟩:=hSw;go_simp;exact EJ.out)
 simp only [Act.put,yB,yC,yD]
 refine wpAnyT_take 14 (some 53) (.int .i64 (m:Int)) rfl rfl (by kernel_rfl) (fun _ _ _ h=>h) hS0 (Or.inl ⟨by rfl,?_⟩) ?_
 ·(intro w' hSw;obtain ⟨s0,s1,s2,s3⟩:=hSw;go_simp;exact EM.out)
 simp only [Act.put,yB,yC,yD]
 refine wpAnyT_take 15 (some 54) (.int .i64 (m1:Int)) rfl rfl (by kernel_rfl) (fun _ _ _ h=>h) hS0 (Or.inl ⟨by rfl,?_⟩) ?_
 ·(intro w' hSw;obtain ⟨s0,s1,s2,s3⟩:=hSw;go_simp;exact E1.out)
 simp only [Act.put,yB,yC,yD]
 refine wpAnyT_take 16 (some 55) ?_ rfl rfl (by kernel_rfl) (fun _ _ _ h=>h) hS0 (Or.inl ⟨by rfl,?_⟩) ?_
 rotate_left
 ·(intro w' hSw;obtain ⟨s0,s1,s2,s3⟩:=hSw;go_simp;try with_reducible rfl)
 simp only [Act.put,yB,yC,yD]
 refine wpAnyT_take 17 (some 56) ?_ rfl rfl (by kernel_rfl) (fun _ _ _ h=>h) hS0 (Or.inl ⟨by rfl,?_⟩) ?_
 rotate_left
 ·(intro w' hSw;obtain ⟨s0,s1,s2,s3⟩:=hSw;go_simp;try with_reducible rfl)
 simp only [Act.put,yB,yC,yD]
 refine wpAnyT_take 18 (some 57) ?_ rfl rfl (by kernel_rfl) (fun _ _ _ h=>h) hS0 (Or.inl ⟨by rfl,?_⟩) ?_
 rotate_left
 ·(intro w' hSw;obtain ⟨s0,s1,s2,s3⟩:=hSw;go_simp;try with_reducible rfl)
 simp only [Act.put,yB,yC,yD]
 refine wpAnyT_take 19 (some 58) ?_ rfl rfl (by kernel_rfl) (fun _ _ _ h=>h) hS0 (Or.inl ⟨by rfl,?_⟩) ?_
 rotate_left
 ·(intro w' hSw;obtain ⟨s0,s1,s2,s3⟩:=hSw;go_simp;try with_reducible rfl)
 simp only [Act.put,yB,yC,yD]
 refine wpAnyT_take 20 (some 59) ?_ rfl rfl (by kernel_rfl) (fun _ _ _ h=>h) hS0 (Or.inl ⟨by rfl,?_⟩) ?_
 rotate_left
 ·(intro w' hSw;obtain ⟨s0,s1,s2,s3⟩:=hSw;go_simp;try with_reducible rfl)
 simp only [Act.put,yB,yC,yD]
 refine wpAnyT_take 21 (some 60) ?_ rfl rfl (by kernel_rfl) (fun _ _ _ h=>h) hS0 (Or.inl ⟨by rfl,?_⟩) ?_
 rotate_left
 ·(intro w' hSw;obtain ⟨s0,s1,s2,s3⟩:=hSw;go_simp;try with_reducible rfl)
 simp only [Act.put,yB,yC,yD]
 refine wpAnyT_take 22 (some 61) ?_ rfl rfl (by kernel_rfl) (fun _ _ _ h=>h) hS0 (Or.inl ⟨by rfl,?_⟩) ?_
 rotate_left
 ·(intro w' hSw;obtain ⟨s0,s1,s2,s3⟩:=hSw;go_simp;try with_reducible rfl)
 simp only [Act.put,yB,yC,yD]
 refine wpAnyT_take 23 (some 62) ?_ rfl rfl (by kernel_rfl) (fun _ _ _ h=>h) hS0 (Or.inl ⟨by rfl,?_⟩) ?_
 rotate_left
 ·(intro w' hSw;obtain ⟨s0,s1,s2,s3⟩:=hSw;go_simp;try with_reducible rfl)
 simp only [Act.put,yB,yC,yD]
 refine wpAnyT_take 24 (some 63) (.int .i64 (j:Int)) rfl rfl (by kernel_rfl) (fun _ _ _ h=>h) hS0 (Or.inl ⟨by rfl,?_⟩) ?_
 ·(intro w' hSw;obtain ⟨s0,s1,s2,s3⟩:=hSw;go_simp;exact EJ.out)
 simp only [Act.put,yB,yC,yD]
 refine wpAnyT_take 25 (some 64) (.int .i64 (m:Int)) rfl rfl (by kernel_rfl) (fun _ _ _ h=>h) hS0 (Or.inl ⟨by rfl,?_⟩) ?_
 ·(intro w' hSw;obtain ⟨s0,s1,s2,s3⟩:=hSw;go_simp;exact EM.out)
 simp only [Act.put,yB,yC,yD]
 refine wpAnyT_take 26 (some 65) (.int .i64 (m2:Int)) rfl rfl (by kernel_rfl) (fun _ _ _ h=>h) hS0 (Or.inl ⟨by rfl,?_⟩) ?_
 ·(intro w' hSw;obtain ⟨s0,s1,s2,s3⟩:=hSw;go_simp;exact E2.out)
 simp only [Act.put,yB,yC,yD]
 refine wpAnyT_take 27 (some 66) ?_ rfl rfl (by kernel_rfl) (fun _ _ _ h=>h) hS0 (Or.inl ⟨by rfl,?_⟩) ?_
 rotate_left
 ·(intro w' hSw;obtain ⟨s0,s1,s2,s3⟩:=hSw;go_simp;try with_reducible rfl)
 simp only [Act.put,yB,yC,yD]
 refine wpAnyT_take 28 (some 67) ?_ rfl rfl (by kernel_rfl) (fun _ _ _ h=>h) hS0 (Or.inl ⟨by rfl,?_⟩) ?_
 rotate_left
 ·(intro w' hSw;obtain ⟨s0,s1,s2,s3⟩:=hSw;go_simp;try with_reducible rfl)
 simp only [Act.put,yB,yC,yD]
 refine wpAnyT_take 29 (some 68) ?_ rfl rfl (by kernel_rfl) (fun _ _ _ h=>h) hS0 (Or.inl ⟨by rfl,?_⟩) ?_
 rotate_left
 ·(intro w' hSw;obtain ⟨s0,s1,s2,s3⟩:=hSw;go_simp;try with_reducible rfl)
 simp only [Act.put,yB,yC,yD]
 refine wpAnyT_take 30 (some 69) ?_ rfl rfl (by kernel_rfl) (fun _ _ _ h=>h) hS0 (Or.inl ⟨by rfl,?_⟩) ?_
 rotate_left
 ·(intro w' hSw;obtain ⟨s0,s1,s2,s3⟩:=hSw;go_simp;try with_reducible rfl)
 simp only [Act.put,yB,yC,yD]
 refine wpAnyT_take 31 (some 70) ?_ rfl rfl (by kernel_rfl) (fun _ _ _ h=>h) hS0 (Or.inl ⟨by rfl,?_⟩) ?_
 rotate_left
 ·(intro w' hSw;obtain ⟨s0,s1,s2,s3⟩:=hSw;go_simp;try with_reducible rfl)
 simp only [Act.put,yB,yC,yD]
 refine wpAnyT_take 32 (some 71) ?_ rfl rfl (by kernel_rfl) (fun _ _ _ h=>h) hS0 (Or.inl ⟨by rfl,?_⟩) ?_
 rotate_left
 ·(intro w' hSw;obtain ⟨s0,s1,s2,s3⟩:=hSw;go_simp;try with_reducible rfl)
 simp only [Act.put,yB,yC,yD]
 refine wpAnyT_take 33 (some 72) ?_ rfl rfl (by kernel_rfl) (fun _ _ _ h=>h) hS0 (Or.inl ⟨by rfl,?_⟩) ?_
 rotate_left
 ·(intro w' hSw;obtain ⟨s0,s1,s2,s3⟩:=hSw;go_simp;try with_reducible rfl)
 simp only [Act.put,yB,yC,yD]
 refine wpAnyT_take 34 (some 73) ?_ rfl rfl (by kernel_rfl) (fun _ _ _ h=>h) hS0 (Or.inl ⟨by rfl,?_⟩) ?_
 rotate_left
 ·(intro w' hSw;obtain ⟨s0,s1,s2,s3⟩:=hSw;go_simp;try with_reducible rfl)
 simp only [Act.put,yB,yC,yD]
 refine wpAnyT_take 35 (some 74) (.int .i64 (j:Int)) rfl rfl (by kernel_rfl) (fun _ _ _ h=>h) hS0 (Or.inl ⟨by rfl,?_⟩) ?_
 ·(intro w' hSw;obtain ⟨s0,s1,s2,s3⟩:=hSw;go_simp;exact EJ.out)
 simp only [Act.put,yB,yC,yD]
 refine wpAnyT_take 36 (some 75) (.int .i64 (m:Int)) rfl rfl (by kernel_rfl) (fun _ _ _ h=>h) hS0 (Or.inl ⟨by rfl,?_⟩) ?_
 ·(intro w' hSw;obtain ⟨s0,s1,s2,s3⟩:=hSw;go_simp;exact EM.out)
 simp only [Act.put,yB,yC,yD]
 refine wpAnyT_take 37 (some 76) (.int .i64 (m3:Int)) rfl rfl (by kernel_rfl) (fun _ _ _ h=>h) hS0 (Or.inl ⟨by rfl,?_⟩) ?_
 ·(intro w' hSw;obtain ⟨s0,s1,s2,s3⟩:=hSw;go_simp;exact E3.out)
 simp only [Act.put,yB,yC,yD]
 refine wpAnyT_take 38 (some 77) ?_ rfl rfl (by kernel_rfl) (fun _ _ _ h=>h) hS0 (Or.inl ⟨by rfl,?_⟩) ?_
 rotate_left
 ·(intro w' hSw;obtain ⟨s0,s1,s2,s3⟩:=hSw;go_simp;try with_reducible rfl)
 simp only [Act.put,yB,yC,yD]
 refine wpAnyT_take 39 (some 78) ?_ rfl rfl (by kernel_rfl) (fun _ _ _ h=>h) hS0 (Or.inl ⟨by rfl,?_⟩) ?_
 rotate_left
 ·(intro w' hSw;obtain ⟨s0,s1,s2,s3⟩:=hSw;go_simp;try with_reducible rfl)
 simp only [Act.put,yB,yC,yD]
 refine wpAnyT_take 40 (some 79) ?_ rfl rfl (by kernel_rfl) (fun _ _ _ h=>h) hS0 (Or.inl ⟨by rfl,?_⟩) ?_
 rotate_left
 ·(intro w' hSw;obtain ⟨s0,s1,s2,s3⟩:=hSw;go_simp;try with_reducible rfl)
 simp only [Act.put,yB,yC,yD]
 refine wpAnyT_take 41 (some 80) ?_ rfl rfl (by kernel_rfl) (fun _ _ _ h=>h) hS0 (Or.inl ⟨by rfl,?_⟩) ?_
 rotate_left
 ·(intro w' hSw;obtain ⟨s0,s1,s2,s3⟩:=hSw;go_simp;try with_reducible rfl)
 simp only [Act.put,yB,yC,yD]
 refine wpAnyT_take 42 (some 81) ?_ rfl rfl (by kernel_rfl) (fun _ _ _ h=>h) hS0 (Or.inl ⟨by rfl,?_⟩) ?_
 rotate_left
 ·(intro w' hSw;obtain ⟨s0,s1,s2,s3⟩:=hSw;go_simp;try with_reducible rfl)
 simp only [Act.put,yB,yC,yD]
 refine wpAnyT_one 43 rfl (by kernel_rfl) rfl ?_
 intro K hK
 have cg:=cell_ofA HG.out (wCells_new hws (by omega))
 have fg:=frozen_of i HG.out
 obtain ⟨w5,hw5⟩:∃ w5,w5=(w.setCell ⟨g,i,none⟩ (.int .u32 (be4 y0 y1 y2 y3))).drew:=⟨_,rfl⟩
 have HR5:=zh (show w5.heap[g]? = some (.cells (wCells (ws++[be4 y0 y1 y2 y3])) 148 (0,0)) by rw [hw5];show (w.setCell ⟨g,i,none⟩ (.int .u32 (be4 y0 y1 y2 y3))).heap[g]? = _;rw [heap_setCell HG.out,wCells_set hws (by omega)])
 have HM5:=zh (show Mod (fun q=>q=g) w w5 by rw [hw5];exact ((Mod.refl (fun q=>q=g) w).setCell (fun _=>rfl) _).drew)
 have HW5:=zh hw5
 clear hw5
 unfold be4 at HW5
 go_simp
 rw [<- HW5.out]
 show K _ _
 refine hK.out _ _ (fun h=>absurd rfl h) ?_
 clear hK K
 refine wpAnyT_done (by kernel_rfl) ?_ _
 go_wp2_with fail
 exact Met.intro (hJ _ _ ⟨⟨rfl,rfl,rfl,rfl,rfl,rfl,rfl,rfl,rfl,trivial⟩,HR5.out,HM5.out⟩)
def LpU (w0:World) (b:Nat->Int) (bb bo bn bc g at':Nat) (v2 v3 v4:Value) (k:Nat) (a:Act) (w:World):Prop :=
 ∃ i,i+k=16/\Mod (fun q=>q=g) w0 w/\w.heap[g]? = some (.cells (wCells (wordsF b i)) 148 (0,0)) ∧
  Fr 259 [(2,v2),(3,v3),(4,v4),(5,.slice (some ⟨bb,bo,none⟩) bn bc),(6,.int .i64 (at':Int)),(7,.pointer (some ⟨g,0,none⟩)),(8,.int .i64 (i:Int))] a
set_option maxRecDepth 100000 in
set_option maxHeartbeats 4000000 in
theorem rwords_lo (b:Nat->Int) (bb bo bn bc g at':Nat) (v2 v3 v4:Value) (f:Act) (w:World) (hn:at'+64<=bn) (hbn:bn<=281474976710656) (hbg:bb ≠ g)
  (hb:∀ k,k < 64->w.cell? ⟨bb,bo+(at'+k),none⟩=some (.int .u8 (b k))) (hg:w.heap[g]? = some (.cells (wCells []) 148 (0,0)))
  (hF:Fr 259 [(2,v2),(3,v3),(4,v4),(5,.slice (some ⟨bb,bo,none⟩) bn bc),(6,.int .i64 (at':Int)),(7,.pointer (some ⟨g,0,none⟩)),(8,.int .i64 0)] f) :
  Code.wp prog blkW2 (Exit.then (fun a' w'=>Fr 259 [(2,v2),(3,v3),(4,v4),(5,.slice (some ⟨bb,bo,none⟩) bn bc),(6,.int .i64 (at':Int)),(7,.pointer (some ⟨g,0,none⟩))] a'/\w'.heap[g]? = some (.cells (wCells (wordsF b 16)) 148 (0,0))/\Mod (fun q=>q=g) w w') Nope) f w:=by
 refine wp_part fun J K' hJ hK=>?_
 have H0:=zh (show LpU w b bb bo bn bc g at' v2 v3 v4 16 f w from ⟨0,rfl,Mod.refl _ w,hg,hF⟩)
 have HB:=zh hb
 have HJ:=zh hJ
 obtain ⟨w0,hw0⟩:∃ w0,w0=w:=⟨_,rfl⟩
 rw [<- hw0] at HB HJ H0
 clear hb hF hJ hg
 conv=>arg 2;whnf
 go_step
 refine wp_loop_ghost_k (LpU w0 b bb bo bn bc g at' v2 v3 v4) 16 (by rw [hw0] at H0 ⊢;exact H0.out) ?_
 clear H0 hw0 f w
 intro k f w hI J2 K2 hJ2 hK2
 have HJ2:=zh hJ2
 obtain ⟨i,hik,hmod,hg,hF⟩:=hI
 have HG:=zh hg
 have HM:=zh hmod
 clear hJ2 hg hmod
 obtain ⟨ts,ds⟩:=f
 obtain ⟨hsz,hds,hs2,hs3,hs4,hs5,hs6,hs7,hs8,-⟩:=hF
 dsimp only at hsz hds hs2 hs3 hs4 hs5 hs6 hs7 hs8
 subst hds
 obtain ⟨c,rfl,hc⟩:=lit259 ts hsz
 rw [hc] at hs2
 rw [hc] at hs3
 rw [hc] at hs4
 rw [hc] at hs5
 rw [hc] at hs6
 rw [hc] at hs7
 rw [hc] at hs8
 simp only [hs2,hs3,hs4,hs5,hs6,hs7,hs8]
 clear hc hsz hs2 hs3 hs4 hs5 hs6 hs7 hs8
 have hi0:(0:Int)<=(i:Int):=Int.natCast_nonneg _
 by_cases hi:i < 16
 ·have hi64:(i:Int) < 16:=by omega
  go_upto_block 3 with fail
  rename_i K5 hK5
  have hc:∀ j,j < 4->w.cell? ⟨bb,bo+(at'+(4*i+j)),none⟩=some (.int .u8 (b (4*i+j))):=fun j hj=>HM.out.cell (HB.out _ (by omega)) (fun e=>hbg e)
  have HC:=zh hc
  clear hc
  refine wp_only (rword_lo bb bo bn bc g i at' v2 v3 v4 _ _ _ _ _ _ w hi hn hbn (wordsF_length b i) HG.out (HC.out 0 (by omega)) (HC.out 1 (by omega)) (HC.out 2 (by omega)) (HC.out 3 (by omega)) ⟨rfl,rfl,rfl,rfl,rfl,rfl,rfl,rfl,rfl,trivial⟩) ?_
  rintro a2 w2 ⟨hF,hg2,hm2⟩
  rw [<- wordsF_lo b hi] at hg2
  have HG2:=zh hg2
  have HM2:=zh (HM.out.trans hm2)
  clear hg2 hm2 HG HC
  refine hK5 _ _ ?_
  obtain ⟨ts,ds⟩:=a2
  obtain ⟨hsz,hds,hs2,hs3,hs4,hs5,hs6,hs7,hs8,-⟩:=hF
  dsimp only at hsz hds hs2 hs3 hs4 hs5 hs6 hs7 hs8
  subst hds
  obtain ⟨c,rfl,hc⟩:=lit259 ts hsz
  rw [hc] at hs2
  rw [hc] at hs3
  rw [hc] at hs4
  rw [hc] at hs5
  rw [hc] at hs6
  rw [hc] at hs7
  rw [hc] at hs8
  simp only [hs2,hs3,hs4,hs5,hs6,hs7,hs8]
  clear hc hsz hs2 hs3 hs4 hs5 hs6 hs7 hs8
  clear hK5 K5
  go_wp2_with fail
  exact Handed.intro (k - 1) (by omega) (HJ2.out _ _ _ ⟨i+1,by omega,HM2.out,HG2.out,rfl,rfl,rfl,rfl,rfl,rfl,rfl,rfl,by go_num,trivial⟩)
 ·have hi64:i=16:=by omega
  subst hi64
  go_wp2_with fail
  exact Met.intro (HJ.out _ _ ⟨⟨rfl,rfl,rfl,rfl,rfl,rfl,rfl,rfl,trivial⟩,HG.out,HM.out⟩)
set_option maxRecDepth 100000 in
set_option maxHeartbeats 4000000 in
theorem rword_hi (g i:Nat) (v2 v3 v4 v5 v6:Value) (a16 a15 a7 a2:Int) (ws:List Int) (a:Act) (w:World) (hi:16<=i) (hi2:i < 64) (hws:ws.length=i) (hg:w.heap[g]? = some (.cells (wCells ws) 148 (0,0)))
  (h16:ws[i - 16]? = some a16) (h15:ws[i - 15]? = some a15) (h7:ws[i - 7]? = some a7) (h2:ws[i - 2]? = some a2)
  (hF:Fr 259 [(2,v2),(3,v3),(4,v4),(5,v5),(6,v6),(7,.pointer (some ⟨g,0,none⟩)),(9,.int .i64 (i:Int))] a) :
  Code.wp prog blkW5 (Exit.then (fun a' w'=>Fr 259 [(2,v2),(3,v3),(4,v4),(5,v5),(6,v6),(7,.pointer (some ⟨g,0,none⟩)),(9,.int .i64 (i:Int))] a'/\w'.heap[g]? = some (.cells (wCells (ws++[nextW a16 a15 a7 a2])) 148 (0,0))/\Mod (fun q=>q=g) w w') Nope) a w:=by
 refine wp_part fun J K' hJ hK=>?_
 obtain ⟨ts,ds⟩:=a
 obtain ⟨hsz,hds,hs2,hs3,hs4,hs5,hs6,hs7,hs9,-⟩:=hF
 dsimp only at hsz hds hs2 hs3 hs4 hs5 hs6 hs7 hs9
 subst hds
 obtain ⟨c,rfl,hc⟩:=lit259 ts hsz
 rw [hc] at hs2
 rw [hc] at hs3
 rw [hc] at hs4
 rw [hc] at hs5
 rw [hc] at hs6
 rw [hc] at hs7
 rw [hc] at hs9
 simp only [hs2,hs3,hs4,hs5,hs6,hs7,hs9]
 clear hc hsz hs2 hs3 hs4 hs5 hs6 hs7 hs9
 have hi0:(16:Int)<=(i:Int):=by omega
 have hi64:(i:Int) < 64:=by omega
 have HG0:=zh hg
 have c16:=cell_ofA hg (wCells_old h16)
 have c15:=cell_ofA hg (wCells_old h15)
 have c7:=cell_ofA hg (wCells_old h7)
 have c2:=cell_ofA hg (wCells_old h2)
 obtain ⟨k16,hk16⟩:∃ k,k=i - 16:=⟨_,rfl⟩
 obtain ⟨k15,hk15⟩:∃ k,k=i - 15:=⟨_,rfl⟩
 obtain ⟨k7,hk7⟩:∃ k,k=i - 7:=⟨_,rfl⟩
 obtain ⟨k2,hk2⟩:∃ k,k=i - 2:=⟨_,rfl⟩
 rw [<- hk16] at c16
 rw [<- hk15] at c15
 rw [<- hk7] at c7
 rw [<- hk2] at c2
 have e16:(i:Int) - 16=(k16:Int):=by omega
 have e15:(i:Int) - 15=(k15:Int):=by omega
 have e7:(i:Int) - 7=(k7:Int):=by omega
 have e2:(i:Int) - 2=(k2:Int):=by omega
 have b16:(k16:Int) < 64:=by omega
 have b15:(k15:Int) < 64:=by omega
 have b7:(k7:Int) < 64:=by omega
 have b2:(k2:Int) < 64:=by omega
 have n16:(0:Int)<=(k16:Int):=Int.natCast_nonneg _
 have n15:(0:Int)<=(k15:Int):=Int.natCast_nonneg _
 have n7:(0:Int)<=(k7:Int):=Int.natCast_nonneg _
 have n2:(0:Int)<=(k2:Int):=Int.natCast_nonneg _
 have E16:=zh (show IntKind.i64.wrap (k16:Int)=(k16:Int) by rw [IntKind.wrap_i64];omega)
 have E7:=zh (show IntKind.i64.wrap (k7:Int)=(k7:Int) by rw [IntKind.wrap_i64];omega)
 have C16w:=zh c16
 have C7w:=zh c7
 have R7:=zh (show ∀ W,Calls prog 101 #[.int .u32 a15,.int .i64 7] W fun e w'=>e=.returned (.int .u32 (rotR 7 a15))/\Mod No W w' from fun W=>refturn_any a15 7 (by decide) (by decide) W)
 have R18:=zh (show ∀ W,Calls prog 101 #[.int .u32 a15,.int .i64 18] W fun e w'=>e=.returned (.int .u32 (rotR 18 a15))/\Mod No W w' from fun W=>refturn_any a15 18 (by decide) (by decide) W)
 have R17:=zh (show ∀ W,Calls prog 101 #[.int .u32 a2,.int .i64 17] W fun e w'=>e=.returned (.int .u32 (rotR 17 a2))/\Mod No W w' from fun W=>refturn_any a2 17 (by decide) (by decide) W)
 have R19:=zh (show ∀ W,Calls prog 101 #[.int .u32 a2,.int .i64 19] W fun e w'=>e=.returned (.int .u32 (rotR 19 a2))/\Mod No W w' from fun W=>refturn_any a2 19 (by decide) (by decide) W)
 clear hg h16 h15 h7 h2 hk16 hk15 hk7 hk2 c16 c7
 conv=>arg 2;whnf
 go_upto_region 15 with fail
 go_quiet (fail)
 generalize hw1:World.drewN w _=w1
 have hm1:Mod No w w1:=by rw [<- hw1];exact (Mod.refl No w).drewN _
 have HM1:=zh hm1
 clear hw1 hm1 c15 c2
 go_upto_region 16 with fail
 obtain ⟨wA,hwA⟩:∃ y,y=w1.drew:=⟨_,rfl⟩
 have HWA:=zh hwA
 have HMA:=zh (show Mod No w wA by rw [hwA];exact HM1.out.drew)
 have HG:=zh (HMA.out.keep HG0.out (fun f=>f))
 have C16:=zh (HMA.out.cell C16w.out (fun f=>f))
 have C7:=zh (HMA.out.cell C7w.out (fun f=>f))
 have hS0:=Mod.refl No wA
 clear hwA HG0 C16w C7w
 refine wp_region_T (fun w'=>Mod No wA w') 29 (by kernel_rfl) ?_
 rw [<- HWA.out]
 refine wpAnyT_take 0 (some 94) ?_ rfl rfl (by kernel_rfl) (fun _ _ _ h=>h) hS0 (Or.inl ⟨by rfl,?_⟩) ?_
 rotate_left
 ·(intro w' hSw;go_simp;try with_reducible rfl)
 simp only [Act.put,yB,yC,yD]
 refine wpAnyT_take 1 (some 95) ?_ rfl rfl (by kernel_rfl) (fun _ _ _ h=>h) hS0 (Or.inl ⟨by rfl,?_⟩) ?_
 rotate_left
 ·(intro w' hSw;go_simp;try with_reducible rfl)
 simp only [Act.put,yB,yC,yD]
 refine wpAnyT_take 2 (some 96) (.int .i64 (k16:Int)) rfl rfl (by kernel_rfl) (fun _ _ _ h=>h) hS0 (Or.inl ⟨by rfl,?_⟩) ?_
 ·(intro w' hSw;go_simp;exact E16.out)
 simp only [Act.put,yB,yC,yD]
 refine wpAnyT_take 3 (some 97) ?_ rfl rfl (by kernel_rfl) (fun _ _ _ h=>h) hS0 (Or.inl ⟨by rfl,?_⟩) ?_
 rotate_left
 ·(intro w' hSw;go_simp;try with_reducible rfl)
 simp only [Act.put,yB,yC,yD]
 refine wpAnyT_take 4 (some 98) ?_ rfl rfl (by kernel_rfl) (fun _ _ _ h=>h) hS0 (Or.inl ⟨by rfl,?_⟩) ?_
 rotate_left
 ·(intro w' hSw;have cc:=hSw.cell C16.out (fun f=>f);go_simp;try with_reducible rfl)
 simp only [Act.put,yB,yC,yD]
 refine wpAnyT_take 5 (some 99) ?_ rfl rfl (by kernel_rfl) (fun _ _ _ h=>h) hS0 (Or.inl ⟨by rfl,?_⟩) ?_
 rotate_left
 ·(intro w' hSw;go_simp;try with_reducible rfl)
 simp only [Act.put,yB,yC,yD]
 refine wpAnyT_take 7 (some 101) ?_ rfl rfl (by kernel_rfl) (fun _ _ _ h=>h) hS0 (Or.inl ⟨by rfl,?_⟩) ?_
 rotate_left
 ·(intro w' hSw;go_simp;try with_reducible rfl)
 simp only [Act.put,yB,yC,yD]
 refine wpAnyT_take 10 (some 104) ?_ rfl rfl (by kernel_rfl) (fun _ _ _ h=>h) hS0 (Or.inl ⟨by rfl,?_⟩) ?_
 rotate_left
 ·(intro w' hSw;go_simp;try with_reducible rfl)
 simp only [Act.put,yB,yC,yD]
 refine wpAnyT_take 11 (some 105) ?_ rfl rfl (by kernel_rfl) (fun _ _ _ h=>h) hS0 (Or.inl ⟨by rfl,?_⟩) ?_
 rotate_left
 ·(intro w' hSw;go_simp;try with_reducible rfl)
 simp only [Act.put,yB,yC,yD]
 refine wpAnyT_take 14 (some 108) ?_ rfl rfl (by kernel_rfl) (fun _ _ _ h=>h) hS0 (Or.inl ⟨by rfl,?_⟩) ?_
 rotate_left
 ·(intro w' hSw;go_simp;try with_reducible rfl)
 simp only [Act.put,yB,yC,yD]
 refine wpAnyT_take 15 (some 109) (.int .i64 (k7:Int)) rfl rfl (by kernel_rfl) (fun _ _ _ h=>h) hS0 (Or.inl ⟨by rfl,?_⟩) ?_
 ·(intro w' hSw;go_simp;exact E7.out)
 simp only [Act.put,yB,yC,yD]
 refine wpAnyT_take 16 (some 110) ?_ rfl rfl (by kernel_rfl) (fun _ _ _ h=>h) hS0 (Or.inl ⟨by rfl,?_⟩) ?_
 rotate_left
 ·(intro w' hSw;go_simp;try with_reducible rfl)
 simp only [Act.put,yB,yC,yD]
 refine wpAnyT_take 17 (some 111) ?_ rfl rfl (by kernel_rfl) (fun _ _ _ h=>h) hS0 (Or.inl ⟨by rfl,?_⟩) ?_
 rotate_left
 ·(intro w' hSw;have cc:=hSw.cell C7.out (fun f=>f);go_simp;try with_reducible rfl)
 simp only [Act.put,yB,yC,yD]
 refine wpAnyT_take 19 (some 113) ?_ rfl rfl (by kernel_rfl) (fun _ _ _ h=>h) hS0 (Or.inl ⟨by rfl,?_⟩) ?_
 rotate_left
 ·(intro w' hSw;go_simp;try with_reducible rfl)
 simp only [Act.put,yB,yC,yD]
 refine wpAnyT_take 21 (some 115) ?_ rfl rfl (by kernel_rfl) (fun _ _ _ h=>h) hS0 (Or.inl ⟨by rfl,?_⟩) ?_
 rotate_left
 ·(intro w' hSw;go_simp;try with_reducible rfl)
 simp only [Act.put,yB,yC,yD]
 refine wpAnyT_take 24 (some 118) ?_ rfl rfl (by kernel_rfl) (fun _ _ _ h=>h) hS0 (Or.inl ⟨by rfl,?_⟩) ?_
 rotate_left
 ·(intro w' hSw;go_simp;try with_reducible rfl)
 simp only [Act.put,yB,yC,yD]
 refine wpAnyT_take 25 (some 119) ?_ rfl rfl (by kernel_rfl) (fun _ _ _ h=>h) hS0 (Or.inl ⟨by rfl,?_⟩) ?_
 rotate_left
 ·(intro w' hSw;go_simp;try with_reducible rfl)
 simp only [Act.put,yB,yC,yD]
 refine wpAnyT_one 6 rfl (by kernel_rfl) rfl ?_
 intro K hK
 go_simp
 go_at_call 101
 with_reducible refine (R7.out _).mono ?_
 rintro e x_6 ⟨rfl,hmx_6⟩
 show K _ _
 have hS1:=Mod.trans hS0 hmx_6
 refine hK.out _ _ (fun _=>hS1) ?_
 clear hK K
 refine wpAnyT_one 8 rfl (by kernel_rfl) rfl ?_
 intro K hK
 go_simp
 go_at_call 101
 with_reducible refine (R18.out _).mono ?_
 rintro e x_6_8 ⟨rfl,hmx_6_8⟩
 show K _ _
 have hS2:=Mod.trans hS1 hmx_6_8
 refine hK.out _ _ (fun _=>hS2) ?_
 clear hK K
 refine wpAnyT_take 9 (some 103) ?_ rfl rfl (by kernel_rfl) (fun _ _ _ h=>h) hS2 (Or.inl ⟨by rfl,?_⟩) ?_
 rotate_left
 ·(intro w' hSw;go_simp;try with_reducible rfl)
 simp only [Act.put,yB,yC,yD]
 refine wpAnyT_take 12 (some 106) ?_ rfl rfl (by kernel_rfl) (fun _ _ _ h=>h) hS2 (Or.inl ⟨by rfl,?_⟩) ?_
 rotate_left
 ·(intro w' hSw;go_simp;try with_reducible rfl)
 simp only [Act.put,yB,yC,yD]
 refine wpAnyT_take 13 (some 107) ?_ rfl rfl (by kernel_rfl) (fun _ _ _ h=>h) hS2 (Or.inl ⟨by rfl,?_⟩) ?_
 rotate_left
 ·(intro w' hSw;go_simp;try with_reducible rfl)
 simp only [Act.put,yB,yC,yD]
 refine wpAnyT_take 18 (some 112) ?_ rfl rfl (by kernel_rfl) (fun _ _ _ h=>h) hS2 (Or.inl ⟨by rfl,?_⟩) ?_
 rotate_left
 ·(intro w' hSw;go_simp;try with_reducible rfl)
 simp only [Act.put,yB,yC,yD]
 refine wpAnyT_one 20 rfl (by kernel_rfl) rfl ?_
 intro K hK
 go_simp
 go_at_call 101
 with_reducible refine (R17.out _).mono ?_
 rintro e x_6_8_20 ⟨rfl,hmx_6_8_20⟩
 show K _ _
 have hS3:=Mod.trans hS2 hmx_6_8_20
 refine hK.out _ _ (fun _=>hS3) ?_
 clear hK K
 refine wpAnyT_one 22 rfl (by kernel_rfl) rfl ?_
 intro K hK
 go_simp
 go_at_call 101
 with_reducible refine (R19.out _).mono ?_
 rintro e x_6_8_20_22 ⟨rfl,hmx_6_8_20_22⟩
 show K _ _
 have hS4:=Mod.trans hS3 hmx_6_8_20_22
 refine hK.out _ _ (fun _=>hS4) ?_
 clear hK K
 refine wpAnyT_take 23 (some 117) ?_ rfl rfl (by kernel_rfl) (fun _ _ _ h=>h) hS4 (Or.inl ⟨by rfl,?_⟩) ?_
 rotate_left
 ·(intro w' hSw;go_simp;try with_reducible rfl)
 simp only [Act.put,yB,yC,yD]
 refine wpAnyT_take 26 (some 120) ?_ rfl rfl (by kernel_rfl) (fun _ _ _ h=>h) hS4 (Or.inl ⟨by rfl,?_⟩) ?_
 rotate_left
 ·(intro w' hSw;go_simp;try with_reducible rfl)
 simp only [Act.put,yB,yC,yD]
 refine wpAnyT_take 27 (some 121) ?_ rfl rfl (by kernel_rfl) (fun _ _ _ h=>h) hS4 (Or.inl ⟨by rfl,?_⟩) ?_
 rotate_left
 ·(intro w' hSw;go_simp;try with_reducible rfl)
 simp only [Act.put,yB,yC,yD]
 refine wpAnyT_take 28 (some 122) ?_ rfl rfl (by kernel_rfl) (fun _ _ _ h=>h) hS4 (Or.inl ⟨by rfl,?_⟩) ?_
 rotate_left
 ·(intro w' hSw;go_simp;try with_reducible rfl)
 simp only [Act.put,yB,yC,yD]
 refine wpAnyT_one 29 rfl (by kernel_rfl) rfl ?_
 intro K hK
 have HG5:=zh (hS4.keep HG.out (fun f=>f))
 have cg:=cell_ofA HG5.out (wCells_new hws (by omega))
 have fg:=frozen_of i HG5.out
 obtain ⟨w6,hw6⟩:∃ w6,w6=(x_6_8_20_22.setCell ⟨g,i,none⟩ (.int .u32 (nextW a16 a15 a7 a2))):=⟨_,rfl⟩
 have HR6:=zh (show w6.heap[g]? = some (.cells (wCells (ws++[nextW a16 a15 a7 a2])) 148 (0,0)) by rw [hw6,heap_setCell HG5.out,wCells_set hws (by omega)])
 have HM6:=zh (show Mod (fun q=>q=g) wA w6 by rw [hw6];exact (((hS4.weaken fun _ _ f=>f.elim:Mod (fun q=>q=g) wA x_6_8_20_22)).setCell (p:=⟨g,i,none⟩) (fun _=>rfl) _))
 have HW6:=zh hw6
 clear hw6
 unfold nextW wd sg0 sg1 xo at HW6
 go_simp
 rw [<- HW6.out]
 show K _ _
 refine hK.out _ _ (fun h=>absurd rfl h) ?_
 clear hK K
 refine wpAnyT_done (by kernel_rfl) ?_ _
 go_wp2_with fail
 exact Met.intro (hJ _ _ ⟨⟨rfl,rfl,rfl,rfl,rfl,rfl,rfl,rfl,rfl,trivial⟩,HR6.out,(HMA.out.weaken fun _ _ f=>f.elim:Mod (fun q=>q=g) w wA).trans HM6.out⟩)
def LpV (w0:World) (b:Nat->Int) (g:Nat) (v2 v3 v4 v5 v6:Value) (k:Nat) (a:Act) (w:World):Prop :=
 ∃ i,i+k=64/\16<=i/\Mod (fun q=>q=g) w0 w/\w.heap[g]? = some (.cells (wCells (wordsF b i)) 148 (0,0)) ∧
  Fr 259 [(2,v2),(3,v3),(4,v4),(5,v5),(6,v6),(7,.pointer (some ⟨g,0,none⟩)),(9,.int .i64 (i:Int))] a
set_option maxRecDepth 100000 in
set_option maxHeartbeats 4000000 in
theorem rwords_hi (b:Nat->Int) (g:Nat) (v2 v3 v4 v5 v6:Value) (f:Act) (w:World)
  (hg:w.heap[g]? = some (.cells (wCells (wordsF b 16)) 148 (0,0)))
  (hF:Fr 259 [(2,v2),(3,v3),(4,v4),(5,v5),(6,v6),(7,.pointer (some ⟨g,0,none⟩)),(9,.int .i64 16)] f) :
  Code.wp prog blkW4 (Exit.then (fun a' w'=>Fr 259 [(2,v2),(3,v3),(4,v4),(5,v5),(6,v6),(7,.pointer (some ⟨g,0,none⟩))] a'/\w'.heap[g]? = some (.cells (wCells (wordsF b 64)) 148 (0,0))/\Mod (fun q=>q=g) w w') Nope) f w:=by
 refine wp_part fun J K' hJ hK=>?_
 have H0:=zh (show LpV w b g v2 v3 v4 v5 v6 48 f w from ⟨16,rfl,Nat.le_refl _,Mod.refl _ w,hg,hF⟩)
 have HJ:=zh hJ
 obtain ⟨w0,hw0⟩:∃ w0,w0=w:=⟨_,rfl⟩
 rw [<- hw0] at HJ H0
 clear hF hJ hg
 conv=>arg 2;whnf
 go_step
 refine wp_loop_ghost_k (LpV w0 b g v2 v3 v4 v5 v6) 48 (by rw [hw0] at H0 ⊢;exact H0.out) ?_
 clear H0 hw0 f w
 intro k f w hI J2 K2 hJ2 hK2
 have HJ2:=zh hJ2
 obtain ⟨i,hik,h16,hmod,hg,hF⟩:=hI
 have HG:=zh hg
 have HM:=zh hmod
 clear hJ2 hg hmod
 obtain ⟨ts,ds⟩:=f
 obtain ⟨hsz,hds,hs2,hs3,hs4,hs5,hs6,hs7,hs9,-⟩:=hF
 dsimp only at hsz hds hs2 hs3 hs4 hs5 hs6 hs7 hs9
 subst hds
 obtain ⟨c,rfl,hc⟩:=lit259 ts hsz
 rw [hc] at hs2
 rw [hc] at hs3
 rw [hc] at hs4
 rw [hc] at hs5
 rw [hc] at hs6
 rw [hc] at hs7
 rw [hc] at hs9
 simp only [hs2,hs3,hs4,hs5,hs6,hs7,hs9]
 clear hc hsz hs2 hs3 hs4 hs5 hs6 hs7 hs9
 have hi0:(0:Int)<=(i:Int):=Int.natCast_nonneg _
 by_cases hi:i < 64
 ·have hi64:(i:Int) < 64:=by omega
  go_upto_block 5 with fail
  rename_i K5 hK5
  refine wp_only (rword_hi g i v2 v3 v4 v5 v6 _ _ _ _ _ _ w h16 hi (wordsF_length b i) HG.out (wordsF_at b (by omega)) (wordsF_at b (by omega)) (wordsF_at b (by omega)) (wordsF_at b (by omega)) ⟨rfl,rfl,rfl,rfl,rfl,rfl,rfl,rfl,rfl,trivial⟩) ?_
  rintro a2 w2 ⟨hF,hg2,hm2⟩
  rw [<- wordsF_hi b h16] at hg2
  have HG2:=zh hg2
  have HM2:=zh (HM.out.trans hm2)
  clear hg2 hm2 HG
  refine hK5 _ _ ?_
  obtain ⟨ts,ds⟩:=a2
  obtain ⟨hsz,hds,hs2,hs3,hs4,hs5,hs6,hs7,hs9,-⟩:=hF
  dsimp only at hsz hds hs2 hs3 hs4 hs5 hs6 hs7 hs9
  subst hds
  obtain ⟨c,rfl,hc⟩:=lit259 ts hsz
  rw [hc] at hs2
  rw [hc] at hs3
  rw [hc] at hs4
  rw [hc] at hs5
  rw [hc] at hs6
  rw [hc] at hs7
  rw [hc] at hs9
  simp only [hs2,hs3,hs4,hs5,hs6,hs7,hs9]
  clear hc hsz hs2 hs3 hs4 hs5 hs6 hs7 hs9
  clear hK5 K5
  go_wp2_with fail
  exact Handed.intro (k - 1) (by omega) (HJ2.out _ _ _ ⟨i+1,by omega,by omega,HM2.out,HG2.out,rfl,rfl,rfl,rfl,rfl,rfl,rfl,rfl,by go_num,trivial⟩)
 ·have hi64:i=64:=by omega
  subst hi64
  go_wp2_with fail
  exact Met.intro (HJ.out _ _ ⟨⟨rfl,rfl,rfl,rfl,rfl,rfl,rfl,rfl,trivial⟩,HG.out,HM.out⟩)
end Go.Proofs.YtgiigemfbebcgaaGreatDoor
