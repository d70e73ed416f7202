/-
  Layers 0 to 14: helps of the laws of indexes. No statement is proved here; no condition.
-/
import Derived.Test.YticfcmdjplmaeaaGreatDoorX20
import Derived.Test.YticfcmdjplmaeaaGreatDoorX06
import Derived.Test.YticfcmdjplmaeaaGreatDoorX16
import Derived.Test.YticfcmdjplmaeaaGreatDoorX02
import Derived.Test.YticfcmdjplmaeaaGreatDoorX00
import Derived.Deep.Light
import Derived.Lib.AppendStr
import Derived.Laws.Bits64b
import Derived.Defers
import Derived.Recover
import Derived.Deep.Fields
import Derived.Deep.QuietTactic
import Derived.StringKeys
set_option maxRecDepth 100000
set_option maxHeartbeats 64000000
namespace Go.Proofs.YticfcmdjplmaeaaGreatDoor
open _root_.Go.Proofs.Tryz
open Go.RowKit
theorem refof_any (l:List UInt8) (pb po pc:Nat) (V:Value) (w:World) (hl:l.length<=70368744177664) (hp:w.cell? ⟨pb,po,none⟩=some V) (hV:Sl w No 5 V l.length (bv l)) :
  Calls prog 46 #[.slice (some ⟨pb,po,none⟩) 1 pc] w fun e w'=>e=.returned (.agg (bv (sumF l)).toArray)/\Mod No w w':=by
 refine calls_hide fun R hR=>?_
 obtain ⟨i0,hi,hz0,hz1,hz2⟩:=info_parts info_byte;obtain ⟨va,vc,rfl⟩:=hV.len;obtain ⟨n,hn⟩:∃ n,n=l.length:=⟨_,rfl⟩
 rw [<- hn] at hV hp;have HN:=zh hn;have HV:=zh hV;have HP:=zh hp;clear hV hp hn;go_enter func46,ntmps46
 go_upto_region 1 with fail
 rename_i K1 hK1;obtain ⟨b2,hb2⟩:∃ b,b=w.heap.size:=⟨_,rfl⟩
 rw [<- hb2];generalize hw0:World.alloc w _=w0;have HM0:=zh (show Mod No w w0 by rw [<- hw0];exact (Mod.refl No w).alloc _);have HB0:=zh (show w0.heap[b2]? = some (.cells (bv (List.replicate 32 0)).toArray 105 (0,0)) by
  rw [<- hw0,hb2];exact heap_alloc_new w _)
 have HB2:=zh hb2;clear hw0 hb2;have c0:=HM0.out.cell HP.out (fun f=>f);go_wp2_with fail
 refine wp_loop_rounds 2 ?_;rw [rounds_succ];go_wp2_with (at_builtin;refine app_sl _ rfl _ _ 76 rfl w0.heap.size 5 i0 (.int .u8 0) 1 1 underlying76 hi hz0 hz1 hz2 rfl (by decide) (.slice none 0 0) 0 [] rfl (World.ownsRow_nil _ _ _ _) No 5 _ n (bv l) rfl (HV.out.kn HM0.out) (by rw [bv_length,HN.out,Nat.mul_one]) (bv_one _) (by have:=HN.out;unfold maxLen;omega) (by have:=HN.out;omega) (Nat.le_refl _) ?_;intro v3 w3 hown hg hiff;rw [Nat.zero_add,List.nil_append] at hown;have HO3:=zh (And.intro hown hg);clear hown hg hiff)
 rw [rounds_succ];have HM3:=zh (HM0.out.trans (Mod.of_grown HO3.out.2 (fun k e _=>by cases e)));have HB3:=zh ((Mod.of_grown (S:=No) HO3.out.2 (fun k e _=>by cases e)).keep HB0.out (fun f=>f));have HS3:=zh (show Sl w3 No 5 v3 l.length (bv l) from Sl.of_own (by have:=HO3.out.1;rw [HN.out] at this;exact this) (fun _ _ f=>f));clear HM0 HB0 HO3 c0;go_wp2_with fail
 refine (refsum_any l v3 _ hl HS3.out).mono ?_;rintro e w4 ⟨rfl,hm4⟩;have HM4:=zh (HM3.out.trans hm4);have hb4:=hm4.keep HB3.out (fun f=>f);have HS:=zh (sumF_length l);generalize sumF l=K at *;clear hm4 HM3 HB3 HS3;go_wp2_with fail
 rw [run_row hb4 (by simp [HS.out]) (bv_one _)];obtain ⟨w5,hw5⟩:∃ y,y=w4.setRow b2 (bv K).toArray:=⟨_,rfl⟩
 have hb5:w5.heap[b2]? = some (.cells (bv K).toArray 105 (0,0)):=by rw [hw5];exact setRow_heap _ _ _ _ _ _ hb4
 have HM5:=zh (show Mod No w w5 by rw [hw5];exact HM4.out.setRow (fun h=>by have:=HB2.out;omega) _);rw [<- hw5];clear hw5 hb4 HM4;go_wp2_with fail
 exact bodyPost_ret (results_cell_row rfl _ _ b2 105 (bv K).toArray (0,0) _ rfl hb5 underlying105 (by kernel_rfl) (key_size HS.out)) rfl (fin hR ⟨rfl,HM5.out⟩)
def rxAt (xs:List RwX) (i:Nat):RwX:=xs.getD i ⟨⟨[],⟨0,0,0,[]⟩,[],0,[]⟩,.nilIface,.nilIface⟩
theorem rxAt_r (xs:List RwX) (i:Nat):(rxAt xs i).r=rwAt (xs.map RwX.r) i:=by
 unfold rxAt rwAt;rw [List.getD_eq_getElem?_getD,List.getD_eq_getElem?_getD,List.getElem?_map];cases xs[i]? <;> rfl
end Go.Proofs.YticfcmdjplmaeaaGreatDoor
namespace Go.Proofs.YticfcmdjplmaeaaGreatDoor
open _root_.Go.Proofs.Tryz
open Go.RowKit
open Classical in
noncomputable def solOk (xs:List Rw) (needs:List Nd) (l:Pick):Bool:=decide (Sol.Sol (solI xs needs) (Sol.pickL l))
theorem asc_nodup {l:List (List UInt8)} (h:Asc l):l.Nodup:=h.imp fun h e=>by subst e;exact List.lt_irrefl _ h
theorem sol_names {xs:List Rw} {needs:List Nd} {names:List (List UInt8)} (h:Asc names) (hm:∀ y,y ∈ names ↔ y ∈ xs.map (·.name)):Sol.Names (solI xs needs) (solOk xs needs) names :=
 ⟨asc_nodup h,fun a r hr=>(hm a).2 (by
  obtain ⟨h1,h2⟩:=rowsN_mem.1 hr;rw [rwAt_get h1] at h2;exact List.mem_map.2 ⟨xs[r],List.getElem_mem h1,h2⟩),fun l _ _=>by unfold solOk;simp⟩
noncomputable def solveL (xs:List Rw) (needs:List Nd) (names:List (List UInt8)):Option Pick:=Sol.lexs (solI xs needs) (solOk xs needs) names []
theorem solve_none {xs:List Rw} {needs:List Nd} {names:List (List UInt8)} (hN:Sol.Names (solI xs needs) (solOk xs needs) names) (h:Sol.NoSol (solI xs needs) (fun _=>none) (fun _=>none)):solveL xs needs names=none:=by
 unfold solveL;cases hl:Sol.lexs (solI xs needs) (solOk xs needs) names [] with
 | none=>rfl
 | some r =>
  obtain ⟨d,hd,_⟩:=(hN.lexs (acc:=[]) rfl (fun _ h=>by cases h)).1 (by rw [hl];simp);exact absurd hd (fun hd=>h d hd (fun _ _ h=>by cases h) Sol.ext_none)
structure Best (xs:List Rw) (needs:List Nd) (names ns:List (List UInt8)) (acc:Pick) (d:List UInt8->Option Nat):Prop where
 cover:acc.map Prod.fst++ns=names
 valid:Sol.Valid (solI xs needs) acc
 sol:Sol.Sol (solI xs needs) d
 con:Sol.Con (Sol.fixL acc) d
 same:solveL xs needs names=Sol.lexs (solI xs needs) (solOk xs needs) ns acc
theorem Best.start {xs:List Rw} {needs:List Nd} {names:List (List UInt8)} {d:List UInt8->Option Nat} (hd:Sol.Sol (solI xs needs) d):Best xs needs names names [] d :=
 ⟨rfl,fun _ h=>(by cases h),hd,fun _ _ h=>(by cases h),rfl⟩
theorem Best.settle {xs:List Rw} {needs:List Nd} {names ns:List (List UInt8)} {n:List UInt8} {acc:Pick} {d d':List UInt8->Option Nat} (hN:Sol.Names (solI xs needs) (solOk xs needs) names)
  (h:Best xs needs names (n :: ns) acc d) {pre post:List (Option Nat)} {o:Option Nat} (hc:(rowsN xs n).map some++[none]=pre++o :: post)
  (hp:∀ x ∈ pre,Sol.NoSol (solI xs needs) (Sol.fixL (acc++[(n,x)])) (fun _=>none)) (hd:Sol.Sol (solI xs needs) d') (hf:Sol.Con (Sol.fixL (acc++[(n,o)])) d') :
  Best xs needs names ns (acc++[(n,o)]) d' :=
 ⟨by simp [<- h.cover],Sol.valid_app h.valid (Sol.valid_one (by show o ∈ (rowsN xs n).map some++[none];rw [hc];simp)),hd,hf,by
  rw [h.same];exact hN.settle h.cover h.valid hc hp hd hf⟩
theorem Best.done {xs:List Rw} {needs:List Nd} {names:List (List UInt8)} {acc:Pick} {d:List UInt8->Option Nat} (hN:Sol.Names (solI xs needs) (solOk xs needs) names)
  (h:Best xs needs names [] acc d):solveL xs needs names=some acc/\d=Sol.pickL acc:=by
 have hl:acc.map Prod.fst=names:=by simpa using h.cover
 have hp:=hN.pick h.sol hl ((Sol.con_fixL (by rw [hl];exact hN.nodup)).1 h.con);refine ⟨?_,hp.symm⟩
 rw [h.same];unfold Sol.lexs;rw [if_pos ((hN.ok acc hl h.valid).2 (by rw [hp];exact h.sol))]
theorem fixL_snoc {acc:Pick} {n:List UInt8} {o:Option Nat} (h:n ∉ acc.map Prod.fst) (a:List UInt8):Sol.fixL (acc++[(n,o)]) a=if a=n then some o else Sol.fixL acc a:=by
 induction acc with
 | nil=>rfl
 | cons x l ih =>
  obtain ⟨m,p⟩:=x;simp only [List.map_cons,List.mem_cons,not_or] at h;simp only [List.cons_append,Sol.fixL];rw [ih h.2];by_cases h1:a=m
  ·subst h1;rw [if_pos rfl];by_cases h2:a=n
   ·exact absurd h2.symm h.1
   ·rw [if_neg h2,if_pos rfl]
  ·rw [if_neg h1,if_neg h1]
end Go.Proofs.YticfcmdjplmaeaaGreatDoor
namespace Go.Proofs.YticfcmdjplmaeaaGreatDoor
open _root_.Go.Proofs.Tryz
open Go.RowKit
abbrev Fix:=List UInt8->Option (Option Nat)
abbrev Chs:=List UInt8->Option Nat
def AskOk (xs:List Rw) (needs:List Nd) (c:Chs) (A:List UInt8->List Spn):Prop:=∀ n s,s ∈ A n ↔ Sol.Asked (solI xs needs) c (n,s)
def okFix (fx:Fix) (a:List UInt8) (i:Nat):Bool:=match fx a with
 | none=>true
 | some o=>decide (o=some i)
theorem okFix_iff {fx:Fix} {a:List UInt8} {i:Nat}:okFix fx a i=true ↔ ∀ o,fx a=some o->o=some i:=by
 unfold okFix;cases h:fx a with
 | none=>simp
 | some o=>simp
def fitsB (xs:List Rw) (fx:Fix) (A:List UInt8->List Spn) (i:Nat):Bool:=okFix fx (rwAt xs i).name i && (A (rwAt xs i).name).all fun s=>hasS s (rwAt xs i).v
def mayL (xs:List Rw) (fx:Fix) (A:List UInt8->List Spn) (n:List UInt8):List Nat:=(rowsN xs n).filter (fitsB xs fx A)
theorem mayL_mem {xs:List Rw} {needs:List Nd} {fx:Fix} {c:Chs} {A:List UInt8->List Spn} (hA:AskOk xs needs c A) {n:List UInt8} {i:Nat}:i ∈ mayL xs fx A n ↔ Sol.May (solI xs needs) fx c n i:=by
 unfold mayL Sol.May fitsB;rw [List.mem_filter,Bool.and_eq_true,okFix_iff,List.all_eq_true];constructor
 ·rintro ⟨h1,h2,h3⟩;have hn:=(rowsN_mem.1 h1).2;rw [hn] at h2 h3;exact ⟨h1,h2,fun s hs=>h3 s ((hA n s).2 hs)⟩
 ·rintro ⟨h1,h2,h3⟩;have hn:=(rowsN_mem.1 h1).2;refine ⟨h1,?_⟩
  rw [hn];exact ⟨h2,fun s hs=>h3 s ((hA n s).1 hs)⟩
-- ------------------------------------------------------------------ names that can be reached
def farRows (xs:List Rw) (fx:Fix) (c:Chs) (a:List UInt8):List Nat:=(match c a with | some i=>[i] | none=>rowsN xs a).filter (okFix fx a)
def farPush (xs:List Rw) (fx:Fix) (c:Chs) (a:List UInt8):List (List UInt8):=(farRows xs fx c a).flatMap fun i=>(rwAt xs i).needs.map (·.name)
def bump (seen:List UInt8->Nat) (a:List UInt8):List UInt8->Nat:=fun x=>if x=a then seen a+1 else seen x
structure FarI (xs:List Rw) (needs:List Nd) (fx:Fix) (c:Chs) (seen:List UInt8->Nat) (l:List (List UInt8)):Prop where
 sub:∀ a,(0 < seen a\/a ∈ l)->Sol.Far (solI xs needs) fx c a
 base:∀ a s,Sol.Asked (solI xs needs) c (a,s)->0 < seen a\/a ∈ l
 step:∀ a,0 < seen a->∀ n ∈ farPush xs fx c a,0 < seen n\/n ∈ l
section
variable {xs:List Rw} {needs:List Nd} {fx:Fix} {c:Chs} {seen:List UInt8->Nat} {l:List (List UInt8)}
theorem bump_pos {a x:List UInt8}:0 < bump seen a x ↔ x=a\/0 < seen x:=by
 unfold bump;by_cases h:x=a
 ·simp [h]
 ·simp [h]
theorem farPush_mem {a n:List UInt8}:n ∈ farPush xs fx c a ↔ ∃ i nd,(match c a with | some j=>i=j | none=>i ∈ rowsN xs a)/\okFix fx a i=true/\nd ∈ (rwAt xs i).needs/\nd.name=n:=by
 unfold farPush farRows;rw [List.mem_flatMap];constructor
 ·rintro ⟨i,hi,hn⟩;obtain ⟨nd,h1,h2⟩:=List.mem_map.1 hn;obtain ⟨h3,h4⟩:=List.mem_filter.1 hi;refine ⟨i,nd,?_,h4,h1,h2⟩
  cases hc:c a with
  | none=>rw [hc] at h3;exact h3
  | some j=>rw [hc] at h3;simpa using h3
 ·rintro ⟨i,nd,h1,h2,h3,h4⟩;refine ⟨i,List.mem_filter.2 ⟨?_,h2⟩,List.mem_map.2 ⟨nd,h3,h4⟩⟩
  cases hc:c a with
  | none=>rw [hc] at h1;exact h1
  | some j=>rw [hc] at h1;simpa using h1
theorem far_push {a n:List UInt8} (h:Sol.Far (solI xs needs) fx c a) (hn:n ∈ farPush xs fx c a):Sol.Far (solI xs needs) fx c n:=by
 obtain ⟨i,nd,h1,h2,h3,rfl⟩:=farPush_mem.1 hn;have hm:(nd.name,nd.span) ∈ (solI xs needs).nds i:=List.mem_map.2 ⟨nd,h3,rfl⟩;cases hc:c a with
 | none=>rw [hc] at h1;exact .free a i _ _ h hc h1 (okFix_iff.1 h2) hm
 | some j=>rw [hc] at h1;subst h1;exact .chose a _ _ _ h hc (okFix_iff.1 h2) hm
theorem FarI.start {A:List UInt8->List Spn} (hA:AskOk xs needs c A) (hl:∀ a,a ∈ l ↔ A a ≠ []):FarI xs needs fx c (fun _=>0) l :=
 ⟨fun a h=>by
  rcases h with h | h
  ·cases h
  ·have h:=(hl a).1 h;cases he:A a with
   | nil=>exact absurd he h
   | cons s r=>exact .base a s ((hA a s).1 (by rw [he];simp)),
  fun a s h=>.inr ((hl a).2 fun e=>by have:=(hA a s).2 h;rw [e] at this;cases this),fun a h=>by cases h⟩
theorem FarI.skip {a:List UInt8} (h:FarI xs needs fx c seen (l++[a])) (hs:0 < seen a):FarI xs needs fx c (bump seen a) l:=by
 have hor:∀ x,0 < seen x\/x ∈ l++[a]->0 < bump seen a x\/x ∈ l:=fun x hx=>by
  rw [bump_pos];rcases hx with hx | hx
  ·exact .inl (.inr hx)
  ·rcases List.mem_append.1 hx with hx | hx
   ·exact .inr hx
   ·exact .inl (.inl (by simpa using hx))
 refine ⟨fun x hx=>h.sub x ?_,fun x s hx=>hor x (h.base x s hx),fun x hx n hn=>hor n (h.step x ?_ n hn)⟩
 ·rcases hx with hx | hx
  ·rcases bump_pos.1 hx with rfl | hx
   ·exact .inl hs
   ·exact .inl hx
  ·exact .inr (by simp [hx])
 ·rcases bump_pos.1 hx with rfl | hx
  ·exact hs
  ·exact hx
theorem FarI.take {a:List UInt8} (h:FarI xs needs fx c seen (l++[a])):FarI xs needs fx c (bump seen a) (l++farPush xs fx c a):=by
 have hfa:Sol.Far (solI xs needs) fx c a:=h.sub a (.inr (by simp));have hor:∀ x,0 < seen x\/x ∈ l++[a]->0 < bump seen a x\/x ∈ l++farPush xs fx c a:=fun x hx=>by
  rw [bump_pos];rcases hx with hx | hx
  ·exact .inl (.inr hx)
  ·rcases List.mem_append.1 hx with hx | hx
   ·exact .inr (by simp [hx])
   ·exact .inl (.inl (by simpa using hx))
 refine ⟨fun x hx=>?_,fun x s hx=>hor x (h.base x s hx),fun x hx n hn=>?_⟩
 ·rcases hx with hx | hx
  ·rcases bump_pos.1 hx with rfl | hx
   ·exact hfa
   ·exact h.sub x (.inl hx)
  ·rcases List.mem_append.1 hx with hx | hx
   ·exact h.sub x (.inr (by simp [hx]))
   ·exact far_push hfa hx
 ·rcases bump_pos.1 hx with rfl | hx
  ·exact .inr (by simp [hn])
  ·exact hor n (h.step x hx n hn)
theorem FarI.done (h:FarI xs needs fx c seen []) (a:List UInt8):0 < seen a ↔ Sol.Far (solI xs needs) fx c a:=by
 refine ⟨fun hs=>h.sub a (.inl hs),fun hf=>?_⟩
 have hor:∀ {x},(0 < seen x\/x ∈ ([]:List (List UInt8)))->0 < seen x:=fun hx=>by
  rcases hx with hx | hx
  ·exact hx
  ·cases hx
 induction hf with
 | base n s hn=>exact hor (h.base n s hn)
 | chose b r n s _ hr hfx hn ih =>
  obtain ⟨nd,h1,e⟩:=List.mem_map.1 hn;cases e
  exact hor (h.step b ih _ (farPush_mem.2 ⟨r,nd,by rw [hr],okFix_iff.2 hfx,h1,rfl⟩))
 | free b r n s _ hc hr hfx hn ih =>
  obtain ⟨nd,h1,e⟩:=List.mem_map.1 hn;cases e
  exact hor (h.step b ih _ (farPush_mem.2 ⟨r,nd,by rw [hc];exact hr,okFix_iff.2 hfx,h1,rfl⟩))
-- ------------------------------------------------------------------ how long that takes
theorem insR_sum {α:Type} (p:α->Bool) (g:α->Nat) (x:α) (l:List α):((insR p x l).map g).sum=g x+(l.map g).sum:=by
 have h2:(l.map g).sum=((l.reverse.dropWhile p).reverse.map g).sum+((l.reverse.takeWhile p).reverse.map g).sum:=by
  rw [<- List.sum_append,<- List.map_append,<- List.reverse_append,List.takeWhile_append_dropWhile,List.reverse_reverse]
 unfold insR;rw [h2,List.map_append,List.sum_append,List.map_cons,List.sum_cons];omega
theorem sortR_sum {α:Type} (lt:α->α->Bool) (g:α->Nat) (l:List α):((sortR lt l).map g).sum=(l.map g).sum:=by
 have:∀ (l a:List α),((l.foldl (fun a x=>insR (lt x) x a) a).map g).sum=(a.map g).sum+(l.map g).sum:=by
  intro l;induction l with
  | nil=>simp
  | cons x l ih=>intro a;rw [List.foldl_cons,ih,insR_sum,List.map_cons,List.sum_cons];omega
 have h:=this l [];unfold sortR;simpa using h
theorem filter_sum {α:Type} (p:α->Bool) (g:α->Nat) (l:List α):((l.filter p).map g).sum<=(l.map g).sum:=by
 induction l with
 | nil=>simp
 | cons x l ih =>
  rw [List.filter_cons];split
  ·simp only [List.map_cons,List.sum_cons];omega
  ·simp only [List.map_cons,List.sum_cons];omega
theorem mem_sum {α:Type} (g:α->Nat) {l:List α} {x:α} (h:x ∈ l):g x<=(l.map g).sum:=by
 induction l with
 | nil=>cases h
 | cons y l ih =>
  simp only [List.map_cons,List.sum_cons];rcases List.mem_cons.1 h with rfl | h
  ·omega
  ·have:=ih h;omega
def farCost (xs:List Rw) (seen:List UInt8->Nat):Nat:=((List.range xs.length).map fun i=>if 0 < seen (rwAt xs i).name then 0 else (rwAt xs i).needs.length).sum
theorem cost_split (a:List UInt8) (hs:seen a=0) (l:List Nat) :
  (l.map fun i=>if 0 < seen (rwAt xs i).name then 0 else (rwAt xs i).needs.length).sum
   = (l.map fun i=>if 0 < bump seen a (rwAt xs i).name then 0 else (rwAt xs i).needs.length).sum+((l.filter fun i=>decide ((rwAt xs i).name=a)).map fun i=>(rwAt xs i).needs.length).sum:=by
 induction l with
 | nil=>rfl
 | cons i l ih =>
  rw [List.filter_cons];by_cases h:(rwAt xs i).name=a
  ·have h2:0 < bump seen a a:=bump_pos.2 (.inl rfl);have h3:¬ 0 < seen a:=by rw [hs];omega
   simp only [List.map_cons,List.sum_cons,h,decide_true];simp only [if_true,List.map_cons,List.sum_cons,h2,h3,if_false];omega
  ·have h2:0 < bump seen a (rwAt xs i).name ↔ 0 < seen (rwAt xs i).name:=by rw [bump_pos];simp [h]
   simp only [List.map_cons,List.sum_cons,h2,h,decide_false];simp only [if_false,Bool.false_eq_true];omega
theorem far_cost {a:List UInt8} (hs:seen a=0) (hc:∀ i,c a=some i->i < xs.length/\(rwAt xs i).name=a) :
  farCost xs (bump seen a)+(farPush xs fx c a).length<=farCost xs seen:=by
 have h1:(farPush xs fx c a).length=((farRows xs fx c a).map fun i=>(rwAt xs i).needs.length).sum:=by
  unfold farPush;rw [List.length_flatMap];congr 1
  exact List.map_congr_left fun i _=>by simp
 have h2:((farRows xs fx c a).map fun i=>(rwAt xs i).needs.length).sum<=(((List.range xs.length).filter fun i=>decide ((rwAt xs i).name=a)).map fun i=>(rwAt xs i).needs.length).sum:=by
  unfold farRows;refine Nat.le_trans (filter_sum _ _ _) ?_;cases hca:c a with
  | none =>
   dsimp only;unfold rowsN;rw [sortR_sum];exact Nat.le_refl _
  | some i =>
   obtain ⟨h3,h4⟩:=hc i hca;simp only [List.map_cons,List.map_nil,List.sum_cons,List.sum_nil,Nat.add_zero];exact mem_sum (fun i=>(rwAt xs i).needs.length) (List.mem_filter.2 ⟨List.mem_range.2 h3,by simp [h4]⟩)
 have h3:=cost_split (xs:=xs) a hs (List.range xs.length);unfold farCost;omega
theorem bump_cost {a:List UInt8} (hs:0 < seen a):farCost xs (bump seen a)=farCost xs seen:=by
 unfold farCost;congr 1
 refine List.map_congr_left fun i _=>?_
 have h2:0 < bump seen a (rwAt xs i).name ↔ 0 < seen (rwAt xs i).name:=by
  rw [bump_pos];constructor
  ·rintro (h | h)
   ·rw [h];exact hs
   ·exact h
  ·exact .inr
 simp only [h2]
end
theorem str_size (s:ByteArray):s.size=s.data.toList.length:=by simp
theorem str_size_list (l:List UInt8):(⟨l.toArray⟩:ByteArray).size=l.length:=by rw [str_size]
end Go.Proofs.YticfcmdjplmaeaaGreatDoor
namespace Go.Proofs.YticfcmdjplmaeaaGreatDoor
open _root_.Go.Proofs.Tryz
open Go.RowKit Go.Maps
theorem key_str:Keyed prog 9:=string_keyed underlying9
theorem keyOf_str (k:List UInt8) (h:k.length<=1000000000):keyOf prog 9 (.string ⟨k.toArray⟩)=some (.string k):=by
 rw [Go.WideMaps.keyOf_string_mk underlying9 (by rw [str_size_list];unfold maxLen;omega)]
theorem isKey_str (k:List UInt8):WideAt.IsKeyLit (.string k):=trivial
theorem lit_str_ne {i j:List UInt8} (h:j ≠ i):Lit.string j ≠ .string i:=fun e=>h (by cases e;rfl)
abbrev Vt:=List UInt8->Option Value
def vPut (F:Vt) (k:List UInt8) (v:Value):Vt:=fun x=>if x=k then some v else F x
end Go.Proofs.YticfcmdjplmaeaaGreatDoor
