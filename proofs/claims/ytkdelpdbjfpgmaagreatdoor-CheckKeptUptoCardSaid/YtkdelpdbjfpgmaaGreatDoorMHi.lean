/- uP of the proof (part 9): what the rows' text needs of the texts that lead to it. -/
import Derived.Test.YtkdelpdbjfpgmaaGreatDoorMHh
set_option linter.unusedVariables false
set_option linter.unusedSimpArgs false
set_option linter.unusedSectionVars false
set_option maxHeartbeats 4000000
set_option maxRecDepth 100000
namespace Go.Proofs.YtkdelpdbjfpgmaaGreatDoor.T
open Go Go.Sl
end Go.Proofs.YtkdelpdbjfpgmaaGreatDoor.T
namespace Go.Proofs.YtkdelpdbjfpgmaaGreatDoor
open Go Go.Sl
theorem ld (G:A3) (hT:TabOk G) (c:Int) (hb:-512≤c∧c≤512):Does Tryz.prog 148 [.int .i64 c] G [] (fun v G' Ho=>v=.tuple #[.int .i64 (wE c),.bool (decide (wE c≠0))]∧G'=G∧Ho=[]):=by
 refine D0 Tryz.func148 Tryz.ntmps148 fun w=>?_;refine aI 12 [] ?_;apply dS 6 6 12 U;intro hg1;refine aC 7 [] ?_;refine aQ (lN U U) ?_;refine aC 3 [] ?_;exact dB 6 0;intro hg1;refine aC 6 [] ?_;exact dB 6 0;refine bB 2 [] ?_;refine cW (fun hc1=>?_) fun hc1=>?_;refine bE 8 [] ?_;refine gY ?_;rotate_left;refine aI 5 [] ?_;refine aQ (cP U T.u199 U) ?_;rotate_left
 · have hp:wE c=0:=by
    rcases hc1 with h | h
    · exact Lf h
    rcases qF c 2 with h2 | h2
    · exact Lf h2
    exact dY fun hn=>h ((Fs ⟨h2,hb.2⟩).2 hn)
   rw [hp];exact ⟨U,U,U⟩
 simp only [not_or,ne_eq,fN] at hc1;have hp:wE c≠0:=(Fs ⟨by omega,hb.2⟩).1 hc1.2;have hw:IntKind.u64.wrap c=c:=by rcases Cr hp with rfl | rfl | rfl | rfl | rfl | rfl | rfl | rfl | rfl <;> rfl
 refine fO 14 U (show _=Value.int .u64 c by rw [hw]) ?_;refine cI U (aa _ sO _ sO) ?_;refine aS 5 [] ?_;refine gY ?_;exact ⟨by simp [hp],U,U⟩
theorem BI (G:A3) (op to a c:Int):Does Tryz.prog 149 [.int .i64 op,.int .i64 to,.int .i64 a,.int .i64 c] G [] (fun v G' Ho=>v=.agg (A2.enc (⟨op,to,a,0,c⟩:Sl.Instr)).toArray∧G'=G∧Ho=[]):=by
 refine D0 Tryz.func149 Tryz.ntmps149 fun w=>?_;refine aI 2 [] ?_;refine aO 0 U T.zero91 fun b1=>?_;refine aL 8 [] ?_;refine aQ (bP (cs:=[_,_,_,_,_]) T.st91 U U U) ?_;refine aS 4 [0] ?_;refine cH (.inr U) (Ho:=Hp.only _ []) U (.agg 0 U U T.agg91) (aV _ _) ?_;exact ⟨U,U,U⟩
theorem dt (G:A3) (c:Int):Does Tryz.prog 198 [.int .i64 c] G [] (fun v G' Ho=>v=.bool (decide (-512≤c∧c≤512))∧G'=G∧Ho=[]):=by
 refine D0 Tryz.func198 Tryz.ntmps198 fun w=>?_;refine aI 10 [] ?_;apply bX 3 5 8 U;intro hg1;refine aC 5 [] ?_;exact dB 3 0;intro hg1;refine aC 3 [] ?_;exact dB 3 0;refine aS 4 [] ?_;refine cV ?_;exact ⟨U,U,U⟩
def tV (i:Sl.Instr):Sl.Instr:=
 if i.op=3 then (if i.a=i.b then ⟨7,i.to,i.a,0,1⟩ else i)
 else if i.op=5∨i.op=6 then
  (if i.c=1 then ⟨1,i.to,i.a,0,0⟩ else if i.c=-1 then ⟨2,i.to,i.a,0,0⟩ else if wE i.c≠0 then (if i.op=5 then ⟨7,i.to,i.a,0,wE i.c⟩ else ⟨8,i.to,i.a,0,wE i.c⟩) else i)
 else i
theorem c95 (G:A3) (hT:TabOk G) (i:Sl.Instr) (hb:-512≤i.c∧i.c≤512):Does Tryz.prog 95 [.agg (A2.enc i).toArray] G [] (fun v G' Ho=>v=.agg (A2.enc (tV i)).toArray∧G'=G∧Ho=[]):=by
 refine D0 Tryz.func95 Tryz.ntmps95 fun w=>?_;refine aI 2 [] ?_;refine dV 0 fun b1=>?_;refine aO 1 U T.zero91 fun b2=>?_;refine aL 6 [0] ?_;refine cI U (ld _ sO _ sN) ?_;refine bB 21 [0] ?_;refine cW (fun hc1=>?_) fun hc1=>?_;refine bI 9 [0,0] ?_;refine cW (fun hc2=>?_) fun hc2=>?_;refine aI 6 [0,0] ?_;refine cI U (BI _ _ _ _ _) ?_;refine aS 6 [1] ?_;refine cH (.inr U) (Ho:=Hp.only _ []) U (.agg 1 U U T.agg91) (aV _ _) ?_;rotate_left;refine bE 10 [0,1] ?_;refine cH (.inr U) (Ho:=Hp.only _ []) U (.agg 1 U U T.agg91) (aV _ _) ?_;rotate_left;refine bI 7 [] ?_;refine cW (fun hc2=>?_) fun hc2=>?_;refine bI 12 [1,0] ?_;refine cW (fun hc3=>?_) fun hc3=>?_;refine aI 6 [0,0] ?_;refine cI U (BI _ _ _ _ _) ?_;refine aS 7 [1] ?_;refine cH (.inr U) (Ho:=Hp.only _ []) U (.agg 1 U U T.agg91) (aV _ _) ?_;rotate_left;refine bI 8 [0] ?_;refine cW (fun hc4=>?_) fun hc4=>?_;refine aI 6 [0,0] ?_;refine cI U (BI _ _ _ _ _) ?_;refine aS 7 [1] ?_;refine cH (.inr U) (Ho:=Hp.only _ []) U (.agg 1 U U T.agg91) (aV _ _) ?_;rotate_left;refine aI 4 [] ?_;apply bX 4 48 52 U;intro hg1;refine aC 7 [0] ?_;exact dB 4 0;intro hg1;refine aC 4 [] ?_;exact dB 4 0;refine bB 3 [] ?_;refine cW (fun hc5=>?_) fun hc5=>?_;refine aI 7 [0,0] ?_;refine cI U (BI _ _ _ _ _) ?_;refine aS 7 [1] ?_;refine cH (.inr U) (Ho:=Hp.only _ []) U (.agg 1 U U T.agg91) (aV _ _) ?_;rotate_left;refine bE 18 [0,0,1] ?_;refine cH (.inr U) (Ho:=Hp.only _ []) U (.agg 1 U U T.agg91) (aV _ _) ?_;rotate_left;refine bI 5 [] ?_;refine cW (fun hc3=>?_) fun hc3=>?_;refine bI 9 [0] ?_;refine cW (fun hc4=>?_) fun hc4=>?_;refine aI 6 [0,0] ?_;refine cI U (BI _ _ _ _ _) ?_;refine aS 7 [1] ?_;refine cH (.inr U) (Ho:=Hp.only _ []) U (.agg 1 U U T.agg91) (aV _ _) ?_;rotate_left;refine bI 8 [0] ?_;refine cW (fun hc5=>?_) fun hc5=>?_;refine aI 6 [0,0] ?_;refine cI U (BI _ _ _ _ _) ?_;refine aS 7 [1] ?_;refine cH (.inr U) (Ho:=Hp.only _ []) U (.agg 1 U U T.agg91) (aV _ _) ?_;rotate_left;refine aI 4 [] ?_;apply bX 4 48 52 U;intro hg1;refine aC 7 [0] ?_;exact dB 4 0;intro hg1;refine aC 4 [] ?_;exact dB 4 0;refine bB 10 [0] ?_;refine cW (fun hc6=>?_) fun hc6=>?_;refine aI 7 [0,0] ?_;refine cI U (BI _ _ _ _ _) ?_;refine aS 7 [1] ?_;refine cH (.inr U) (Ho:=Hp.only _ []) U (.agg 1 U U T.agg91) (aV _ _) ?_;rotate_left;refine bE 11 [0,1] ?_;refine cH (.inr U) (Ho:=Hp.only _ []) U (.agg 1 U U T.agg91) (aV _ _) ?_;rotate_left;refine bE 10 [0,1] ?_;refine cH (.inr U) (Ho:=Hp.only _ []) U (.agg 1 U U T.agg91) (aV _ _) ?_;rotate_left;all_goals refine ⟨?_,U,U⟩
 all_goals simp_all [tV]
def dx (c:Int):Prop:=-512≤c∧c≤512
instance (c:Int):Decidable (dx c):=inferInstanceAs (Decidable (_∧_))
def vJ (f c s d:Int):Int×Int×Bool:=
 if f=1 then (s,d,true)
 else if f=2 then (if s=1 then (2,0,true) else if s=2 then (1,0,true) else if s=5∨s=6 then (s,-d,true) else (0,0,false))
 else if f=5 then (if s=2 then (5,-c,true) else if s=5∧-512≤c*d∧c*d≤512 then (5,c*d,true) else if s=6∧c.tmod d=0 then (5,c.tdiv d,true) else if s=6∧d.tmod c=0 then (6,d.tdiv c,true) else (0,0,false))
 else if f=6 then (if s=2 then (6,-c,true) else if s=6∧-512≤c*d∧c*d≤512 then (6,c*d,true) else (0,0,false))
 else if f=7 then (if s=7∧c+d≤64 then (7,c+d,true) else if s≠8 then (0,0,false) else if c=d then (1,0,true) else if d<c then (7,c - d,true) else (8,d - c,true))
 else if f=8 then (if s=8∧c+d≤64 then (8,c+d,true) else (0,0,false))
 else (0,0,false)
theorem zL {op c:Int} (h:tD op c=true):-512≤c∧c≤512:=by
 unfold tD at h
 repeat' split at h
 all_goals simp only [aT] at h
 all_goals omega
theorem yE {op c:Int} (h:tD op c=true) (ho:op=5∨op=6):c≠0:=by
 unfold tD at h;rw [aF ho,aT] at h;exact h.1
theorem KE {c d:Int} (hc:-512≤c∧c≤512) (hd:-512≤d∧d≤512):-9223372036854775808≤c*d∧c*d≤9223372036854775807:=by
 have h1:c.natAbs≤512:=sN;have h2:d.natAbs≤512:=sN;have h3:(c*d).natAbs≤512*512:=by rw [fZ];exact gQ h1 h2
 omega
theorem Fy {c d:Int} (hc:-512≤c∧c≤512):-512≤c.tdiv d∧c.tdiv d≤512:=by
 have h3:(c.tdiv d).natAbs≤c.natAbs:=by rw [mS];exact Nat.div_le_self _ _
 omega
theorem lf (G:A3) (f c s d:Int) (hc:tD f c=true) (hd:tD s d=true):Does Tryz.prog 150 [.int .i64 f,.int .i64 c,.int .i64 s,.int .i64 d] G [] (fun v G' Ho=>v=.tuple #[.int .i64 (vJ f c s d).1,.int .i64 (vJ f c s d).2.1,.bool (vJ f c s d).2.2]∧G'=G∧Ho=[]):=by
 have hc2:=zL hc;have hd2:=zL hd;have hm:=KE hc2 hd2;have hq1:=Fy (d:=d) hc2;have hq2:=Fy (d:=c) hd2;have hcz:=yE hc;have hdz:=yE hd;refine D0 Tryz.func150 Tryz.ntmps150 fun w=>?_;refine bI 20 [] ?_;refine cW (fun hc1=>?_) fun hc1=>?_;refine bE 12 [] ?_;refine kQ ?_;rotate_left;refine bI 6 [] ?_;refine cW (fun hc3=>?_) fun hc3=>?_;refine bI 12 [] ?_;refine cW (fun hc4=>?_) fun hc4=>?_;refine bE 11 [] ?_;refine kQ ?_;rotate_left;refine bI 6 [] ?_;refine cW (fun hc5=>?_) fun hc5=>?_;refine bE 11 [] ?_;refine kQ ?_;rotate_left;refine bI 7 [] ?_;refine cW (fun hc6=>?_) fun hc6=>?_;refine aI 7 [1] ?_;refine aQ (qX U sN) ?_;refine aS 9 [] ?_;refine kQ ?_;rotate_left;refine bI 5 [] ?_;refine cW (fun hc7=>?_) fun hc7=>?_;refine aI 4 [] ?_;refine aQ (qX U sN) ?_;refine aS 9 [] ?_;refine kQ ?_;rotate_left;refine bE 12 [] ?_;refine kQ ?_;rotate_left;refine bI 6 [] ?_;refine cW (fun hc4=>?_) fun hc4=>?_;refine bI 8 [] ?_;refine cW (fun hc5=>?_) fun hc5=>?_;refine aI 3 [] ?_;refine aQ (qX U sN) ?_;refine aS 9 [] ?_;refine kQ ?_;rotate_left;refine aI 5 [] ?_;apply bX 5 39 44 U;intro hg1;refine aC 5 [] ?_;refine aQ (lZ U U sN) ?_;refine aC 1 [] ?_;refine cI U (dt _ _) ?_;refine aC 1 [] ?_;exact dB 5 0;intro hg1;refine aC 5 [] ?_;exact dB 5 0;refine bB 3 [] ?_;refine cW (fun hc6=>?_) fun hc6=>?_;refine aI 4 [] ?_;refine aQ (lZ U U sN) ?_;refine aS 9 [] ?_;refine kQ ?_;rotate_left;refine aI 5 [] ?_;apply bX 5 51 56 U;intro hg1;refine aC 5 [] ?_;refine aQ (sD U U sN) ?_;refine aC 3 [] ?_;exact dB 5 0;intro hg1;refine aC 5 [] ?_;exact dB 5 0;refine bB 3 [] ?_;refine cW (fun hc7=>?_) fun hc7=>?_;refine dJ ?_;refine dE [] [] T.mixed [[0],[1]] ?_;refine dW 2 [] U (oH U U sN sN) ?_;refine dK [[3],[4],[5]] ?_;refine dG ?_;refine eE 5 [] ?_;refine kQ ?_;rotate_left;refine aI 5 [] ?_;apply bX 5 63 68 U;intro hg1;refine aC 5 [] ?_;refine aQ (sD U U sN) ?_;refine aC 3 [] ?_;exact dB 5 0;intro hg1;refine aC 5 [] ?_;exact dB 5 0;refine bB 3 [] ?_;refine cW (fun hc8=>?_) fun hc8=>?_;refine dJ ?_;refine dE [] [] T.mixed [[0],[1]] ?_;refine dW 2 [] U (oH U U sN sN) ?_;refine dK [[3],[4],[5]] ?_;refine dG ?_;refine eE 5 [] ?_;refine kQ ?_;rotate_left;refine bE 12 [] ?_;refine kQ ?_;rotate_left;refine bI 6 [] ?_;refine cW (fun hc5=>?_) fun hc5=>?_;refine bI 8 [] ?_;refine cW (fun hc6=>?_) fun hc6=>?_;refine aI 3 [] ?_;refine aQ (qX U sN) ?_;refine aS 9 [] ?_;refine kQ ?_;rotate_left;refine aI 5 [] ?_;apply bX 5 82 87 U;intro hg1;refine aC 5 [] ?_;refine aQ (lZ U U sN) ?_;refine aC 1 [] ?_;refine cI U (dt _ _) ?_;refine aC 1 [] ?_;exact dB 5 0;intro hg1;refine aC 5 [] ?_;exact dB 5 0;refine bB 3 [] ?_;refine cW (fun hc7=>?_) fun hc7=>?_;refine aI 4 [] ?_;refine aQ (lZ U U sN) ?_;refine aS 9 [] ?_;refine kQ ?_;rotate_left;refine bE 12 [] ?_;refine kQ ?_;rotate_left;refine bI 6 [] ?_;refine cW (fun hc6=>?_) fun hc6=>?_;refine aI 6 [] ?_;apply bX 5 99 104 U;intro hg1;refine aC 9 [] ?_;exact dB 5 0;intro hg1;refine aC 5 [] ?_;exact dB 5 0;refine bB 3 [] ?_;refine cW (fun hc7=>?_) fun hc7=>?_;refine bE 14 [] ?_;refine kQ ?_;rotate_left;refine bI 7 [] ?_;refine cW (fun hc8=>?_) fun hc8=>?_;refine bE 12 [] ?_;refine kQ ?_;rotate_left;refine bI 8 [] ?_;refine cW (fun hc9=>?_) fun hc9=>?_;refine bE 11 [] ?_;refine kQ ?_;rotate_left;refine bI 8 [] ?_;refine cW (fun hc10=>?_) fun hc10=>?_;refine bE 14 [] ?_;refine kQ ?_;rotate_left;refine bE 14 [] ?_;refine kQ ?_;rotate_left;refine bI 6 [] ?_;refine cW (fun hc7=>?_) fun hc7=>?_;refine aI 5 [] ?_;apply bX 5 126 131 U;intro hg1;refine aC 9 [] ?_;exact dB 5 0;intro hg1;refine aC 5 [] ?_;exact dB 5 0;refine bB 2 [] ?_;refine cW (fun hc8=>?_) fun hc8=>?_;refine bE 13 [] ?_;refine kQ ?_;rotate_left;refine bE 11 [] ?_;refine kQ ?_;rotate_left;refine bE 11 [] ?_;refine kQ ?_;rotate_left;all_goals refine ⟨?_,U,U⟩
 all_goals clear hc hd hm hq1 hq2 hcz hdz hc2 hd2
 all_goals simp_all [vJ]
 all_goals repeat' split
 all_goals first
  | exact ⟨U,U,U⟩
  | (rename_i h;exfalso;omega)
  | (rename_i h;exfalso;first | exact hc7 h.1 h.2 | exact hc8 h.1 h.2)
theorem Uw (c:Int):0≤wE c∧wE c≤9:=by
 unfold wE
 repeat' split
 all_goals omega
theorem zX {i:Sl.Instr} (h:tD i.op i.c=true):tD (tV i).op (tV i).c=true:=by
 have hp:=Uw i.c;unfold tV
 repeat' split
 all_goals first | exact h | (simp [tD];try omega)
theorem xI {op c:Int} (h:tD op c=true) (ho:op=7∨op=8):1≤c∧c≤64:=by
 unfold tD at h;rw [aD (by omega),aF ho,aT] at h;exact h
theorem PW {c d:Int} (hc:c≠0) (h:c.tmod d=0):c.tdiv d≠0:=by
 intro h0;have e:=Int.mul_tdiv_add_tmod c d;rw [h0,h,bS] at e;omega
theorem Bm {op c:Int} (ho:op=5∨op=6) (h0:c≠0) (h:-512≤c∧c≤512):tD op c=true:=by
 unfold tD;rw [aF ho,aT];exact ⟨h0,h⟩
theorem Kg {op c:Int} (ho:op=7∨op=8) (h:1≤c∧c≤64):tD op c=true:=by
 unfold tD;rw [aD (by omega),aF ho,aT];exact h
theorem Fz {f c s d:Int} (hc:tD f c=true) (hd:tD s d=true):tD (vJ f c s d).1 (vJ f c s d).2.1=true∨(vJ f c s d).2.2=false:=by
 have hc2:=zL hc;have hd2:=zL hd;have hq1:=Fy (d:=d) hc2;have hq2:=Fy (d:=c) hd2;have hcz:=yE hc;have hdz:=yE hd;have hcs:=xI hc;have hds:=xI hd;unfold vJ;by_cases h1:f=1
 · rw [aF h1];exact .inl hd
 rw [aD h1];by_cases h2:f=2
 · rw [aF h2];split
   · exact .inl U
   split
   · exact .inl U
   split
   · rename_i h;exact .inl (Bm h (by have:=hdz h;show -d≠0;omega) (by show -512≤-d∧-d≤512;omega))
   exact .inr U
 rw [aD h2];by_cases h5:f=5
 · have hc0:=hcz (.inl h5);rw [aF h5];split
   · exact .inl (Bm (.inl U) (by show -c≠0;omega) (by show -512≤-c∧-c≤512;omega))
   split
   · rename_i h;exact .inl (Bm (.inl U) (Int.mul_ne_zero hc0 (hdz (.inl h.1))) h.2)
   split
   · rename_i h;exact .inl (Bm (.inl U) (PW hc0 h.2) hq1)
   split
   · rename_i h;exact .inl (Bm (.inr U) (PW (hdz (.inr h.1)) h.2) hq2)
   exact .inr U
 rw [aD h5];by_cases h6:f=6
 · have hc0:=hcz (.inr h6);rw [aF h6];split
   · exact .inl (Bm (.inr U) (by show -c≠0;omega) (by show -512≤-c∧-c≤512;omega))
   split
   · rename_i h;exact .inl (Bm (.inr U) (Int.mul_ne_zero hc0 (hdz (.inr h.1))) h.2)
   exact .inr U
 rw [aD h6];by_cases h7:f=7
 · have h3:=hcs (.inl h7);rw [aF h7];split
   · rename_i h;have h4:=hds (.inl h.1);exact .inl (Kg (.inl U) (by show 1≤c+d∧c+d≤64;omega))
   split
   · exact .inr U
   rename_i h8;have h4:=hds (.inr sN);split
   · exact .inl U
   split
   · exact .inl (Kg (.inl U) (by show 1≤c - d∧c - d≤64;omega))
   exact .inl (Kg (.inr U) (by show 1≤d - c∧d - c≤64;omega))
 rw [aD h7];by_cases h8:f=8
 · have h3:=hcs (.inr h8);rw [aF h8];split
   · rename_i h;have h4:=hds (.inr h.1);exact .inl (Kg (.inr U) (by show 1≤c+d∧c+d≤64;omega))
   exact .inr U
 rw [aD h8];exact .inr U
section
attribute [local irreducible] tV vJ wE tD
def uI (a b:Sl.Instr):Sl.Instr×Bool:=
 if b.op=3∨b.op=4∨b.a≠a.to∨b.to≠a.to then (⟨0,0,0,0,0⟩,false)
 else if (vJ a.op a.c b.op b.c).2.2=true then (tV ⟨(vJ a.op a.c b.op b.c).1,b.to,a.a,0,(vJ a.op a.c b.op b.c).2.1⟩,true) else (⟨0,0,0,0,0⟩,false)
theorem c96 (G:A3) (hT:TabOk G) (a b:Sl.Instr) (ha:tD a.op a.c=true) (hb:tD b.op b.c=true) :
 Does Tryz.prog 96 [.agg (A2.enc a).toArray,.agg (A2.enc b).toArray] G [] (fun v G' Ho=>v=.tuple #[.agg (A2.enc (uI a b).1).toArray,.bool (uI a b).2]∧G'=G∧Ho=[]):=by
 have ht:=Fz ha hb;refine D0 Tryz.func96 Tryz.ntmps96 fun w=>?_;refine aI 2 [] ?_;refine dV 0 fun b1=>?_;refine dV 1 fun b2=>?_;refine aO 2 U T.zero91 fun b3=>?_;refine aL 10 [1] ?_;apply dS 4 12 16 U;intro hg1;refine aC 7 [1] ?_;exact dB 4 0;intro hg1;refine aC 4 [] ?_;exact dB 4 0;refine aC 1 [] ?_;apply dS 6 17 23 U;intro hg1;refine aC 11 [1,0] ?_;exact dB 6 0;intro hg1;refine aC 6 [] ?_;exact dB 6 0;refine aC 1 [] ?_;apply dS 6 24 30 U;intro hg1;refine aC 11 [1,0] ?_;exact dB 6 0;intro hg1;refine aC 6 [] ?_;exact dB 6 0;refine bB 2 [] ?_;refine cW (fun hc1=>?_) fun hc1=>?_;refine aI 2 [] ?_;refine aQ (bP (cs:=[_,_,_,_,_]) T.st91 U U U) ?_;refine aS 6 [2] ?_;refine gZ (.inr U) (Ho:=Hp.only _ []) U (.agg 2 U U T.agg91) (.tmp U) (aV _ _) ?_;rotate_left;refine aI 12 [0,0,1,1] ?_;refine cI U (lf _ _ _ _ _ sO sO) ?_;refine bB 16 [] ?_;refine lJ U (fun hc2=>?_) fun hc2=>?_;refine aI 2 [] ?_;refine aQ (bP (cs:=[_,_,_,_,_]) T.st91 U U U) ?_;refine aS 6 [2] ?_;refine gZ (.inr U) (Ho:=Hp.only _ []) U (.agg 2 U U T.agg91) (.tmp U) (aV _ _) ?_;rotate_left;refine aI 10 [1,0] ?_;refine cI U (BI _ _ _ _ _) ?_;rotate_left
 · refine ⟨?_,U,U⟩;rw [uI,aF (by omega)];rfl
 · refine ⟨?_,U,U⟩;rw [uI,aD (by omega),aD (by simpa using hc2)];rfl
 have hok:(vJ a.op a.c b.op b.c).2.2=true:=by simpa using hc2
 have hcf:tD (vJ a.op a.c b.op b.c).1 (vJ a.op a.c b.op b.c).2.1=true:=by
  rcases ht with h | h
  · exact h
  rw [h] at hok;cases hok
 refine cI U (c95 _ hT ⟨(vJ a.op a.c b.op b.c).1,b.to,a.a,0,(vJ a.op a.c b.op b.c).2.1⟩ (zL hcf)) ?_;refine aS 5 [2] ?_;refine gZ (.inr U) (Ho:=Hp.only _ []) U (.agg 2 U U T.agg91) (.tmp U) (aV _ _) ?_;refine ⟨?_,U,U⟩;rw [uI,aD (by omega),aF hok]
theorem Bn {i:Sl.Instr} {r:Int} (h:tB i r=true):tD i.op i.c=true:=by
 unfold tB at h;rw [aU,aU] at h;exact h.1.2
end
section
attribute [local irreducible] vJ tD
def tw (m:Nat):Int:=((2 ^ m:Nat):Int)
theorem YS {c:Int} (h:wE c≠0):∃ m:Nat,1≤m∧m≤9∧c=tw m∧wE c=m:=by
 rcases Cr h with rfl | rfl | rfl | rfl | rfl | rfl | rfl | rfl | rfl
 · exact ⟨1,by decide⟩
 · exact ⟨2,by decide⟩
 · exact ⟨3,by decide⟩
 · exact ⟨4,by decide⟩
 · exact ⟨5,by decide⟩
 · exact ⟨6,by decide⟩
 · exact ⟨7,by decide⟩
 · exact ⟨8,by decide⟩
 exact ⟨9,by decide⟩
attribute [local irreducible] wE
attribute [local irreducible] tV
end
def Hk (i:Sl.Instr):Bool:=decide (i.op=1∧i.to=i.a)
def xT:List Sl.Instr→Sl.Instr→List Sl.Instr
 | [],b=>if Hk b=true then [] else [b]
 | a :: s,b=>if Hk b=true then a :: s else if (uI a b).2=true then xT s (uI a b).1 else b :: a :: s
def Ch (L:List Sl.Instr) (b:Sl.Instr):List Sl.Instr:=(xT L.reverse b).reverse
def Qz (l:List Sl.Instr):List Sl.Instr:=l.foldl (fun s i=>xT s (tV i)) []
def yX (p:PV) (k:Nat):List Sl.Instr:=(Qz (p.code.take k)).reverse
def zY (p:PV):PV:=⟨p.ins,p.regs,(Qz p.code).reverse,p.outs⟩
theorem Ra {L:List Sl.Instr} {b:Sl.Instr} (h:Hk b=true):Ch L b=L:=by
 unfold Ch;cases hL:L.reverse with
 | nil=>rw [xT,aF h,←hL,qY]
 | cons a s=>rw [xT,aF h,←hL,qY]
theorem KF {b:Sl.Instr} (h:¬Hk b=true):Ch [] b=[b]:=by
 unfold Ch;rw [List.reverse_nil,xT,aD h];rfl
theorem Rb {M:List Sl.Instr} {a b:Sl.Instr} (h:¬Hk b=true) (hm:(uI a b).2=true):Ch (M++[a]) b=Ch M (uI a b).1:=by
 unfold Ch;rw [List.reverse_append,List.reverse_singleton,List.singleton_append,xT,aD h,aF hm]
theorem Rc {M:List Sl.Instr} {a b:Sl.Instr} (h:¬Hk b=true) (hm:¬(uI a b).2=true):Ch (M++[a]) b=M++[a]++[b]:=by
 unfold Ch;rw [List.reverse_append,List.reverse_singleton,List.singleton_append,xT,aD h,aD hm];simp
theorem BJ {p:PV} {k:Nat} (h:k<p.code.length):yX p (k+1)=Ch (yX p k) (tV (p.code[((k:Nat):Int).toNat]?.getD default)):=by
 unfold yX Ch Qz;rw [qY,cL,aE,aA h,List.foldl_append];rfl
theorem Rd (p:PV):yX p p.code.length=(zY p).code:=by unfold yX zY;rw [aZ]
theorem BK (p:PV):yX p 0=[]:=rfl
theorem BL:∀ (s:List Sl.Instr) (b:Sl.Instr),(xT s b).length≤s.length+1
 | [],b=>by unfold xT;split <;> simp
 | a :: s,b=>by
   unfold xT;split
   · simp
   split
   · have:=BL s (uI a b).1;simp only [bA];omega
   simp
theorem Xf (l:List Sl.Instr) (s:List Sl.Instr):(l.foldl (fun s i=>xT s (tV i)) s).length≤s.length+l.length:=by
 induction l generalizing s with
 | nil=>simp
 | cons x l ih=>have h1:=ih (xT s (tV x));have h2:=BL s (tV x);simp only [List.foldl_cons,bA];omega
theorem Re (p:PV) (k:Nat):(yX p k).length≤k:=by
 have:=Xf (p.code.take k) [];unfold yX Qz;simp only [List.length_reverse,cE,bG] at *;omega
theorem BM (p:PV):(zY p).code.length≤p.code.length:=by rw [←Rd];exact Re p _
theorem Rf {q:Sl.Instr→Prop} (hm:∀ a b,q a→q b→(uI a b).2=true→q (uI a b).1):∀ (s:List Sl.Instr) (b:Sl.Instr),(∀ i∈s,q i)→q b→∀ i∈xT s b,q i
 | [],b,_,hb=>by
   unfold xT;split
   · simp
   · simpa using hb
 | a :: s,b,hs,hb=>by
   unfold xT;split
   · exact hs
   split
   · rename_i h;exact Rf hm s _ (fun i hi=>hs i (aW _ hi)) (hm a b (hs a bD) hb h)
   intro i hi;rcases iP.1 hi with rfl | hi
   · exact hb
   exact hs i hi
theorem Rg {q:Sl.Instr→Prop} (hm:∀ a b,q a→q b→(uI a b).2=true→q (uI a b).1) (hp:∀ i,q i→q (tV i)) (l:List Sl.Instr) (h:∀ i∈l,q i):∀ i∈Qz l,q i:=by
 have aux:∀ (l s:List Sl.Instr),(∀ i∈l,q i)→(∀ i∈s,q i)→∀ i∈l.foldl (fun s i=>xT s (tV i)) s,q i:=by
  intro l;induction l with
  | nil=>intro s _ hs;exact hs
  | cons x l ih =>
    intro s hl hs;exact ih _ (fun i hi=>hl i (aW _ hi)) (Rf hm s _ hs (hp x (hl x bD)))
 exact aux l [] h (fun i hi=>by simp at hi)
def HA (i:Sl.Instr):Prop:=tD i.op i.c=true
theorem Kh {a b:Sl.Instr} (ha:HA a) (hb:HA b) (h:(uI a b).2=true):HA (uI a b).1:=by
 have ht:=Fz (f:=a.op) (c:=a.c) (s:=b.op) (d:=b.c) ha hb;unfold uI at h ⊢;split at h
 · cases h
 rename_i hn;rw [aD hn];split at h
 · rename_i hy;rw [aF hy];rcases ht with ht | ht
   · exact zX (i:=⟨_,b.to,a.a,0,_⟩) ht
   rw [hy] at ht;cases ht
 cases h
theorem EJ {p:PV} (h:∀ i∈p.code,HA i) (k:Nat):∀ i∈yX p k,HA i:=fun i hi=>by
 unfold yX at hi;exact Rg (q:=HA) (fun a b ha hb h=>Kh ha hb h) (fun i hi=>zX hi) _ (fun i hi=>h i (qZ hi)) i (sI.1 hi)
section
attribute [local irreducible] tV uI Ch yX
theorem Fk {p:PV} (hR:sP p=true):∀ i∈p.code,tB i p.regs=true:=by
 have h:(uK p).2=false:=by simpa [sP] using hR
 unfold uK at h;split at h
 · cases h
 split at h
 · cases h
 rename_i hb;unfold Ct at hb;rw [gO] at hb;intro i hi;simpa using hb i hi
theorem KG {p:PV} (hR:sP p=true):∀ i∈p.code,HA i:=fun i hi=>Bn (Fk hR i hi)
theorem PX {l:List Sl.Instr} {k:Nat} (h:k<l.length):l[((k:Nat):Int).toNat]?.getD default∈l:=by
 rw [aE,aA h];exact bT h
theorem BN (M:List Sl.Instr) (t:Sl.Instr) (m:List Value):Row 91 (M++[t]) m=Row 91 M (A2.enc t++m):=by
 unfold Row;rw [wG];simp [tN]
theorem HB {a:Option Addr} {c:Nat} {M:List Sl.Instr} {t:Sl.Instr} {m:List Value} (h:A4 a c (M++[t]) m):A4 a c M (A2.enc t++m):=by
 rcases h with ⟨_,h,_⟩ | ⟨b,h1,h2,h3,h4⟩
 · simp at h
 refine .inr ⟨b,h1,?_,?_,h4⟩
 · rw [aB,jQ,iX] at h2;rw [aB,A2.len];omega
 simp at h3;omega
theorem subA_zero {α:Type} [A2 α] {a:Option Addr} {c e sz:Nat} {xs:List α} {j:List Value} (h:A4 a e xs j):C7 a c 0 sz=a:=by
 unfold C7;split
 · rfl
 rcases h with ⟨h1,_⟩ | ⟨b,h1,_⟩
 · rw [h1];rfl
 rw [h1];simp [Addr.add]
theorem lh (G:A3) (hT:TabOk G) (p:PV) (ac ao:Option Addr) (cc co:Nat) (hc:Arr G ac p.code) (ho:Arr G ao p.outs) (h1:p.code.length≤1048576) (h2:p.outs.length≤1048576) (hR:sP p=true) :
 Does Tryz.prog 47 [.agg (H8 p ac cc ao co)] G [] (fun v G' Ho =>
  ∃ bc bo dc do_ j1 j2,v=.tuple #[.agg #[.int .i64 p.ins,.int .i64 p.regs,.slice bc (zY p).code.length dc,.slice bo p.outs.length do_],.int .i64 0]∧
   A4 bc dc (zY p).code j1∧A4 bo do_ p.outs j2∧Ho=[(0,bc.map (·.block),Row 91 (zY p).code j1),(1,bo.map (·.block),Row 3 p.outs j2)]∧G'=G):=by
 have hcheck:(uK p).2=false:=by simpa [sP] using hR
 have hok:=KG hR;refine D0 Tryz.func47 Tryz.ntmps47 fun w=>?_;refine eJ 0 (Row 91 ([]:List Sl.Instr) []) ?_;refine aI 2 [] ?_;refine dV 1 fun b1=>?_;refine aO 2 U T.zero26 fun b2=>?_;refine bB 3 [] ?_;refine mP ?_;refine aI 3 [1] ?_;refine cI U (ZM _ _ _ _ _ _ sO sO sN sN) ?_;refine bB 14 [] ?_;refine cW (fun hc1=>?_) fun hc1=>?_;refine aI 2 [] ?_;refine aQ (bP (cs:=[_,_,_,_]) T.st26 U U U) ?_;refine aS 7 [2] ?_;refine jK ?_;rotate_left;refine bI 20 [1] ?_;rotate_left
 · rw [hcheck] at hc1;exact absurd U hc1
 refine fT (ι:=Nat×List Sl.Instr×(Option Addr×Nat×List Value)) (fun (k,xs,(b,d,j))=>([(24,.int .i64 (k:Int)),(6,.slice b xs.length d),(23,.int .i64 (↑p.code.length:Int)),(22,.slice ac p.code.length cc),(3,.int .i64 0),(2,.pointer (some ⟨b2,0,none⟩)),(1,.pointer (some ⟨b1,0,none⟩))],[(0,b.map (·.block),Row 91 xs j),(2,some b2,.cells #[.int .i64 0,.int .i64 0,.slice none 0 0,.slice none 0 0] 26),(1,some b1,.cells (H8 p ac cc ao co) 26)])) (fun (k,xs,(b,d,j))=>k≤p.code.length∧xs=yX p k∧A4 b d xs j) (fun (k,xs,(b,d,j))=>p.code.length - k) ((0,[],(none,0,[]))) (⟨aM _,by rw [BK],eG⟩) ⟨U,U,U,U,U,U,U,F9⟩ ⟨U,U,U,F9⟩ fun ⟨k,xs,(b,d,j)⟩=>fun hk=>?_;obtain ⟨hk1,hxs,hob⟩:=hk;have hxl:xs.length≤k:=by rw [hxs];exact Re p k
 rcases aK k p.code.length with hlt | hge
 · clear hc1;have hst:=BJ (p:=p) hlt;have hx0:=hok _ (PX hlt);have hx1:=zL hx0;have hx2:=zX hx0;have hxo:=EJ hok k;rw [←hxs] at hxo hst;refine aI 13 [1] ?_;refine fR (α:=Instr) T.sl23 ?_;refine lL T.agg91 ?_;refine aO 3 U T.zero91 fun b3=>?_;refine bB 3 [3] ?_;refine mP ?_;refine aI 3 [3] ?_;refine cI U (c95 _ sO _ sO) ?_;refine aO 4 U T.zero91 fun b4=>?_;refine bB 8 [4] ?_;refine fT (ι:=List Sl.Instr×Sl.Instr×(Option Addr×Nat×List Value)) (fun (M,bi,(a,e,m))=>([(6,.slice a M.length e),(22,.slice ac p.code.length cc),(23,.int .i64 (p.code.length:Int)),(9,.pointer (some (Addr.mk b4 0 none))),(24,.int .i64 (↑k:Int)),(3,.int .i64 0),(2,.pointer (some ⟨b2,0,none⟩)),(1,.pointer (some ⟨b1,0,none⟩))],[(0,a.map (·.block),Row 91 M m),(4,some b4,.cells (A2.enc bi).toArray 91),(3,some b3,.cells (List.toArray (A2.enc (Option.getD p.code[Int.toNat (↑k:Int)]? default))) 91),(2,some b2,.cells #[.int .i64 0,.int .i64 0,.slice none 0 0,.slice none 0 0] 26),(1,some b1,.cells (H8 p ac cc ao co) 26)])) (fun (M,bi,(a,e,m))=>yX p (k+1)=Ch M bi∧A4 a e M m∧(∀ i∈M,HA i)∧HA bi∧M.length≤k) (fun (M,bi,(a,e,m))=>M.length) ((xs,_,(b,d,j))) (⟨hst,hob,hxo,hx2,hxl⟩) ⟨U,U,U,U,U,U,U,U,F9⟩ ⟨U,U,U,U,U,F9⟩ fun ⟨M,bi,(a,e,m)⟩=>fun hk=>?_;obtain ⟨hpu,hoM,hMo,hbo,hMk⟩:=hk;have hbo':tD bi.op bi.c=true:=hbo;rcases List.eq_nil_or_concat M with rfl | ⟨M',t,rfl⟩
   · have hl0:(([]:List Sl.Instr).length:Int)=0:=rfl;refine aI 8 [4] ?_;apply bX 6 33 39 U;intro hg1;refine aC 11 [4,4] ?_;exact dB 6 0;intro hg1;refine aC 6 [] ?_;exact dB 6 0;refine bB 2 [] ?_;refine cW (fun hc1=>?_) fun hc1=>?_;refine bE 6 [] ?_;refine Tm ?_;refine eE 6 [] ?_;rotate_left;refine aI 20 [1,4] ?_;refine cZ (α:=Instr) 5 [(bi)] U T.sl23 T.el91 U U U U U fun b5=>?_;refine kH (α:=Instr) 0 T.sl23 T.el91 (dT 5 U) fun a1 c1 junk1 ho1=>?_;refine aS 2 [] ?_;refine nX ?_;refine eE 6 [] ?_;rotate_left
     · refine cK ((k+1,[],(a,e,m))) ?_ ?_
       · exact ⟨by omega,by rw [hpu,Ra (bL hc1)],hoM⟩
       show p.code.length - (k+1)<p.code.length - k;omega
     refine cK ((k+1,_,(a1,c1,junk1))) ?_ ?_
     · exact ⟨by omega,by rw [hpu,KF (fun h=>hc1 (fM h))];rfl,ho1⟩
     show p.code.length - (k+1)<p.code.length - k;omega
   rw [List.concat_eq_append] at *;have hlen:(M'++[t]).length=M'.length+1:=tU;have hto:HA t:=hMo t tU;have hget:(M'++[t])[(((M'++[t]).length:Int) - 1).toNat]?.getD default=t:=by
    have e:(((M'++[t]).length:Int) - 1).toNat=M'.length:=sN;rw [e];simp
   have hto':tD ((M'++[t])[(((M'++[t]).length:Int) - 1).toNat]?.getD default).op ((M'++[t])[(((M'++[t]).length:Int) - 1).toNat]?.getD default).c=true:=by rw [hget];exact hto
   have hcap:=hoM.le;have hcut:(((M'++[t]).length:Int) - 1).toNat=M'.length:=sN;have hM'o:∀ i∈M',HA i:=fun i hi=>hMo i (by simp [hi]);refine aI 8 [4] ?_;apply bX 6 33 39 U;intro hg1;refine aC 11 [4,4] ?_;exact dB 6 0;intro hg1;refine aC 6 [] ?_;exact dB 6 0;refine bB 2 [] ?_;refine cW (fun hc1=>?_) fun hc1=>?_;refine bE 6 [] ?_;refine Tm ?_;refine eE 6 [] ?_;rotate_left;refine bI 14 [0] ?_;refine dE [1,2,3,4,0] [(0,12),(4,12),(3,12),(2,12),(1,12)] T.mixed [[0],[1],[2],[3]] ?_;refine fJ (α:=Instr) 4 T.sl23 ?_;refine dW 5 [0] U (Tn 0 T.agg91 U U sO sN) ?_;refine dK [[6,4]] ?_;refine oG 7 11 ?_ ?_;refine cI U (c96 _ sO _ _ sO sO) ?_;refine bC ?_;refine dK [[8],[9],[10]] ?_;refine bQ 11 ?_;refine aO 5 U T.zero91 fun b5=>?_;refine cS 12 ?_;refine aC 1 [5] ?_;refine bC ?_;refine dK [[13]] ?_;refine dG ?_;refine lS 8 [] ?_;refine lJ U (fun hc2=>?_) fun hc2=>?_;refine aI 9 [4] ?_;refine cZ (α:=Instr) 6 [(bi)] U T.sl23 T.el91 U U U U U fun b6=>?_;refine kH (α:=Instr) 0 T.sl23 T.el91 (dT 6 U) fun a1 c1 junk1 ho1=>?_;refine aS 2 [] ?_;refine nX ?_;refine eE 6 [] ?_;rotate_left;refine aI 8 [] ?_;refine aQ (Nt T.sl23 U U sN) ?_;refine aS 8 [5,4] ?_;rotate_left;refine aO 5 U T.zero91 fun b5=>?_;refine cS 7 ?_;refine cI U (c96 _ sO _ _ sO sO) ?_;refine bC ?_;refine dK [[8],[9],[10]] ?_;refine bQ 12 ?_;refine aC 1 [5] ?_;refine bC ?_;refine dK [[13]] ?_;refine dG ?_;refine lS 8 [] ?_;refine lJ U (fun hc2=>?_) fun hc2=>?_;refine aI 9 [4] ?_;refine cZ (α:=Instr) 6 [(bi)] U T.sl23 T.el91 U U U U U fun b6=>?_;refine kH (α:=Instr) 0 T.sl23 T.el91 (dT 6 U) fun a1 c1 junk1 ho1=>?_;refine aS 2 [] ?_;refine nX ?_;refine eE 6 [] ?_;rotate_left;refine aI 8 [] ?_;refine aQ (Nt T.sl23 U U sN) ?_;refine aS 8 [5,4] ?_;rotate_left
   · refine cK ((k+1,M'++[t],(a,e,m))) ?_ ?_
     · exact ⟨by omega,by rw [hpu,Ra (bL hc1)],hoM⟩
     show p.code.length - (k+1)<p.code.length - k;omega
   · rw [hget] at hc2;refine cK ((k+1,_,(a1,c1,junk1))) ?_ ?_
     · exact ⟨by omega,by rw [hpu,Rc (fun h=>hc1 (fM h)) (by simpa using hc2)],ho1⟩
     show p.code.length - (k+1)<p.code.length - k;omega
   · rw [hget] at hc2 ⊢;have hmt:(uI t bi).2=true:=by simpa using hc2
     refine gC 0 (Row 91 M' (A2.enc t++m)) U (BN M' t m) ?_;refine cJ 6 U (show _=Value.slice a M'.length e by rw [hcut,subA_zero hoM]) ?_;refine cK ((M',(uI t bi).1,(a,e,A2.enc t++m))) ?_ ?_
     · exact ⟨by rw [hpu,Rb (fun h=>hc1 (fM h)) hmt],HB hoM,hM'o,Kh hto hbo hmt,by omega⟩
     show M'.length<(M'++[t]).length;omega
   · rw [hget] at hc2;refine cK ((k+1,_,(a1,c1,junk1))) ?_ ?_
     · exact ⟨by omega,by rw [hpu,Rc (fun h=>hc1 (fM h)) (by simpa using hc2)],ho1⟩
     show p.code.length - (k+1)<p.code.length - k;omega
   rw [hget] at hc2 ⊢;have hmt:(uI t bi).2=true:=by simpa using hc2
   refine gC 0 (Row 91 M' (A2.enc t++m)) U (BN M' t m) ?_;refine cJ 6 U (show _=Value.slice a M'.length e by rw [hcut,subA_zero hoM]) ?_;refine cK ((M',(uI t bi).1,(a,e,A2.enc t++m))) ?_ ?_
   · exact ⟨by rw [hpu,Rb (fun h=>hc1 (fM h)) hmt],HB hoM,hM'o,Kh hto hbo hmt,by omega⟩
   show M'.length<(M'++[t]).length;omega
 have hk:k=p.code.length:=sN;subst hk;rw [Rd] at hxs;subst hxs;refine bI 13 [0] ?_;refine dE [1,2,0] [(2,9)] T.mixed [[0],[1,1],[2],[3,1],[4],[5],[6,1]] ?_;refine bQ 7 ?_;refine bV 3 U (YR _ _ _ _ sO sN) fun v1 G1 Ho1 hle1 hp=>?_;obtain ⟨lb1,ld1,lj1,rfl,hlb1,rfl,rfl⟩:=hp;refine bC ?_;refine dW 8 [] U (bP (cs:=[_,_,_,_]) T.st26 U U U) ?_;refine bQ 9 ?_;refine aC 1 [2] ?_;refine bC ?_;refine dK [[10]] ?_;refine dG ?_;refine eE 2 [] ?_;refine jK ?_;refine mK [0,3,2] sY (gZ (.inr U) (Ho:=Hp.only _ [0,1]) U (.agg 2 U U T.agg26) (.tmp U) (aV _ _) ?_);exact ⟨_,_,_,_,_,_,U,hob,hlb1,U,U⟩
end
theorem Ux {i:Sl.Instr} {r:Int} (h:tB i r=true):tB (tV i) r=true:=by
 have hc:=zX (i:=i) (Bn h);rw [tM] at h;obtain ⟨⟨h1,h2,h3,h4,h5,h6⟩,h7⟩:=h;have hp:=Uw i.c;by_cases e3:i.op=3
 · have e:tV i=if i.a=i.b then ⟨7,i.to,i.a,0,1⟩ else i:=by rw [tV,aF e3]
   rw [e];split
   · rw [tM];simp;omega
   rw [tM];exact ⟨⟨h1,h2,h3,h4,h5,h6⟩,h7⟩
 by_cases h5':i.op=5∨i.op=6
 · have e:tV i=(if i.c=1 then ⟨1,i.to,i.a,0,0⟩ else if i.c=-1 then ⟨2,i.to,i.a,0,0⟩ else if wE i.c≠0 then (if i.op=5 then ⟨7,i.to,i.a,0,wE i.c⟩ else ⟨8,i.to,i.a,0,wE i.c⟩) else i):=by rw [tV,aD e3,aF h5']
   rw [e];split
   · rw [tM];simp;omega
   split
   · rw [tM];simp;omega
   split
   · split
     · rw [tM];simp;omega
     rw [tM];simp;omega
   rw [tM];exact ⟨⟨h1,h2,h3,h4,h5,h6⟩,h7⟩
 have e:tV i=i:=by rw [tV,aD e3,aD h5']
 rw [e,tM];exact ⟨⟨h1,h2,h3,h4,h5,h6⟩,h7⟩
theorem KH {f c s d:Int} (hs:1≤s∧s≤8∧¬(s=3∨s=4)) (ho:(vJ f c s d).2.2=true):1≤(vJ f c s d).1∧(vJ f c s d).1≤8∧¬((vJ f c s d).1=3∨(vJ f c s d).1=4):=by
 unfold vJ at ho ⊢
 repeat' split
 all_goals first
  | exact hs
  | (simp only [];omega)
  | simp_all
theorem PY {a b:Sl.Instr} {r:Int} (ha:tB a r=true) (hb:tB b r=true) (h:(uI a b).2=true):tB (uI a b).1 r=true:=by
 have ht:=Fz (f:=a.op) (c:=a.c) (s:=b.op) (d:=b.c) (Bn ha) (Bn hb);rw [tM] at ha hb;obtain ⟨⟨a1,a2,a3,a4,a5,a6⟩,a7⟩:=ha;obtain ⟨⟨b1,b2,b3,b4,b5,b6⟩,b7⟩:=hb;unfold uI at h ⊢;split at h
 · cases h
 rename_i hn;rw [aD hn];split at h
 · rename_i hy;rw [aF hy];refine Ux ?_;rcases ht with ht | ht
   · have hop:1≤(vJ a.op a.c b.op b.c).1∧(vJ a.op a.c b.op b.c).1≤8∧¬((vJ a.op a.c b.op b.c).1=3∨(vJ a.op a.c b.op b.c).1=4):=KH sN hy;rw [tM];refine ⟨⟨hop.1,hop.2.1,b3,b4,a5,a6⟩,?_⟩;rw [aD hop.2.2];refine ⟨U,?_⟩;unfold tD at ht
     repeat' split at ht
     all_goals simp_all
   rw [hy] at ht;cases ht
 cases h
theorem KI {p:PV} (hh:xC p=true) (hm:∀ i∈p.code,tB i p.regs=true):sP p=true:=by
 have hb:Ct p=none:=by
  unfold Ct;rw [gO];intro i hi;simp [hm i hi]
 unfold sP uK;rw [hh,hb];rfl
theorem EK {p:PV} (hR:sP p=true):xC p=true:=by
 have h:(uK p).2=false:=by simpa [sP] using hR
 unfold uK at h;split at h
 · cases h
 rename_i hn;simpa using hn
theorem Rh {p:PV} (hR:sP p=true):sP (zY p)=true:=by
 have hh:=EK hR;have hl:=BM p;refine KI ?_ ?_
 · unfold xC at hh ⊢;rw [aU,aT] at hh ⊢;obtain ⟨⟨h1,h2,h3,h4,h5,h6⟩,h7⟩:=hh;exact ⟨⟨h1,h2,h3,by omega,h5,h6⟩,h7⟩
 intro i hi;exact Rg (q:=fun i=>tB i p.regs=true) (fun a b ha hb h=>PY ha hb h) (fun i h=>Ux h) p.code (Fk hR) i (sI.1 hi)
section
attribute [local irreducible] tV uI Ch yX zY sP
end
theorem c98 (G:A3) (t:Tab) (bt bk bf:Nat) (a:Option Addr) (c:Nat) (junk:List Value) (n:Int) (i:Sl.Instr) (ho:A4 a c t.held junk) (hl:t.held.length≤128) (hm:tB i t.held.length=true)
 (hkf:∀ k,A8 t.known k=none→A8 t.first k=none) (hn:0≤t.next∧t.next≤1000000) :
 Does Tryz.prog 98 [.pointer (some ⟨bt,0,none⟩),.int .i64 n,.agg (A2.enc i).toArray] G (Xe t bt bk bf a c junk)
  (fun r G' Ho=>r=.tuple #[.int .i64 (reckonP t n i).1.1,.int .i64 (reckonP t n i).1.2]∧G'=G∧Ho=Xe (reckonP t n i).2 bt bk bf a c junk):=by
 have hm':=hm;rw [tM] at hm';obtain ⟨⟨hop1,hop2,hto1,hto2,ha1,ha2⟩,-⟩:=hm';refine D0 Tryz.func98 Tryz.ntmps98 fun w=>?_;rcases hk0:A8 t.known (keyOf t.held i) with _ | v
 · have hf0:=hkf _ hk0;refine aI 2 [] ?_;refine dV 4 fun b1=>?_;refine bB 12 [4] ?_;refine cW (fun hc1=>?_) fun hc1=>?_;refine dJ ?_;refine dE [3,2,1,0,4] [] T.mixed [[0],[1],[2],[3,0],[4],[5,4]] ?_;refine fJ (α:=Int) 6 T.sl24 ?_;refine dW 7 [1,0] U (fF 1 0 T.one3 U U sO sN U U) ?_;refine dK [[8],[9]] ?_;refine dG ?_;refine eE 3 [] ?_;refine pL [0,1,2,3] ?_;rotate_left;refine aI 6 [4] ?_;refine eD 0 U T.fn151 U (dq _ _ _ _ _ _ _ _ _ sO sN sO) (sS ⟨U,U,U,U,F9⟩) ?_;refine aO 5 U T.zero230 fun b2=>?_;refine bB 5 [5] ?_;refine dE [3,2,1,0,4,5] [] T.mixed [[0],[1],[2],[3,0],[4,5]] ?_;refine dW 5 [2] U (Oy 2 T.mp166 U U U) ?_;refine dK [[6],[7],[8],[9],[10]] ?_;refine dG ?_;refine lS 7 [] ?_;refine lJ U (fun hc2=>?_) fun hc2=>?_;refine dJ ?_;refine dE [3,2,1,0,4,5] [(2,20),(3,20),(2,18),(3,18),(2,17),(3,17),(2,15),(3,15)] T.mixed [[0],[1],[2],[3,0],[4,5],[5],[6],[7],[8,0],[9,5],[10],[11],[12],[13,0],[14]] ?_;refine bQ 15 ?_;refine Wl.mapEntry 2 U T.mp166 U U U sO ?_;refine bC ?_;refine dK [[16]] ?_;refine bQ 17 ?_;refine rJ 2 U U U U ?_;refine cS 18 ?_;refine Wl.mapEntry 3 U T.mp166 U U U sO ?_;refine bC ?_;refine dK [[19]] ?_;refine bQ 20 ?_;refine rJ 3 U U U U ?_;refine fD ?_;refine lS 13 [0,0] ?_;refine dE [1,4,5,2,3,0] [] T.mixed [[0],[1],[2],[3,0],[4,5]] ?_;refine dW 5 [2] U (kF 2 T.mp166 U U U) ?_;refine dK [[6],[7],[8],[9,0],[10,5]] ?_;refine dW 11 [3] U (kF 3 T.mp166 U U U) ?_;refine dK [[12],[13]] ?_;refine dG ?_;refine eE 2 [] ?_;refine pL [0,1,2,3] ?_;rotate_left;refine bI 3 [] ?_;refine dE [3,2,1,0,4,5] [] T.mixed [[0],[1],[2],[3,0],[4,5]] ?_;refine dW 5 [2] U (kF 2 T.mp166 U U U) ?_;refine dK [[6],[7],[8],[9,0],[10,5]] ?_;refine dW 11 [3] U (kF 3 T.mp166 U U U) ?_;refine dK [[12],[13]] ?_;refine dG ?_;refine eE 2 [] ?_;refine pL [0,1,2,3] ?_;rotate_left
   · have h:reckonP t n i=((t.held[i.a.toNat]?.getD default,-1),t):=by unfold reckonP;rw [aF hc1]
     rw [h];exact ⟨U,U,U⟩
   · have h:reckonP t n i=((t.next,n),{ t with known:=t.known++[(keyOf t.held i,t.next)],first:=t.first++[(keyOf t.held i,n)],next:=t.next+1 }):=by unfold reckonP;rw [aD hc1,hk0]
     rw [h,Tt hk0,Tt hf0];exact ⟨U,U,U⟩
   rw [hk0] at hc2;cases hc2
 refine aI 2 [] ?_;refine dV 4 fun b1=>?_;refine bB 12 [4] ?_;refine cW (fun hc1=>?_) fun hc1=>?_;refine dJ ?_;refine dE [3,2,1,0,4] [] T.mixed [[0],[1],[2],[3,0],[4],[5,4]] ?_;refine fJ (α:=Int) 6 T.sl24 ?_;refine dW 7 [1,0] U (fF 1 0 T.one3 U U sO sN U U) ?_;refine dK [[8],[9]] ?_;refine dG ?_;refine eE 3 [] ?_;refine pL [0,1,2,3] ?_;rotate_left;refine aI 6 [4] ?_;refine eD 0 U T.fn151 U (dq _ _ _ _ _ _ _ _ _ sO sN sO) (sS ⟨U,U,U,U,F9⟩) ?_;refine aO 5 U T.zero230 fun b2=>?_;refine bB 5 [5] ?_;refine dE [3,2,1,0,4,5] [] T.mixed [[0],[1],[2],[3,0],[4,5]] ?_;refine dW 5 [2] U (Oy 2 T.mp166 U U U) ?_;refine dK [[6],[7],[8],[9],[10]] ?_;refine dG ?_;refine lS 7 [] ?_;refine lJ U (fun hc2=>?_) fun hc2=>?_;refine dJ ?_;refine dE [3,2,1,0,4,5] [(2,20),(3,20),(2,18),(3,18),(2,17),(3,17),(2,15),(3,15)] T.mixed [[0],[1],[2],[3,0],[4,5],[5],[6],[7],[8,0],[9,5],[10],[11],[12],[13,0],[14]] ?_;refine bQ 15 ?_;rotate_left;refine bI 3 [] ?_;refine dE [3,2,1,0,4,5] [] T.mixed [[0],[1],[2],[3,0],[4,5]] ?_;refine dW 5 [2] U (kF 2 T.mp166 U U U) ?_;refine dK [[6],[7],[8],[9,0],[10,5]] ?_;refine dW 11 [3] U (kF 3 T.mp166 U U U) ?_;refine dK [[12],[13]] ?_;refine dG ?_;refine eE 2 [] ?_;refine pL [0,1,2,3] ?_;rotate_left
 · have h:reckonP t n i=((t.held[i.a.toNat]?.getD default,-1),t):=by unfold reckonP;rw [aF hc1]
   rw [h];exact ⟨U,U,U⟩
 · rw [hk0] at hc2;cases hc2
 have h:reckonP t n i=((v,(A8 t.first (keyOf t.held i)).getD 0),t):=by unfold reckonP;rw [aD hc1,hk0]
 rw [h,hk0];exact ⟨U,U,U⟩
theorem c99 (G:A3) (t:Tab) (bt bk bf:Nat) (a:Option Addr) (c:Nat) (junk:List Value) (i:Sl.Instr) (ho:A4 a c t.held junk) (hl:t.held.length≤128) (hm:tB i t.held.length=true) :
 Does Tryz.prog 99 [.pointer (some ⟨bt,0,none⟩),.agg (A2.enc i).toArray] G (Xe t bt bk bf a c junk) (fun r G' Ho=>r=.agg (A2.enc (askedP t.held i)).toArray∧G'=G∧Ho=Xe t bt bk bf a c junk):=by
 rw [tM] at hm;obtain ⟨⟨hop1,hop2,hto1,hto2,ha1,ha2⟩,hb⟩:=hm;have hb:i.op=3∨i.op=4→0≤i.b∧i.b<t.held.length:=fun h=>by rw [aF h] at hb;omega
 have two:=Zn i;refine D0 Tryz.func99 Tryz.ntmps99 fun w=>?_;refine aI 2 [] ?_;refine dV 4 fun b1=>?_;refine aO 5 U T.zero91 fun b2=>?_;refine aL 5 [4] ?_;refine bV 6 U (IT _ _) fun v1 G1 Ho1 hle1 hp=>?_;obtain ⟨ad1,cd1,junk1,rfl,hoa1,rfl,rfl⟩:=hp;refine bB 6 [] ?_;refine dE [3,2,1,0,4,5,7] [(4,11)] T.mixed [[0],[1],[2],[3],[4,0],[5],[6,4]] ?_;refine fJ (α:=Int) 7 T.sl24 ?_;refine dW 8 [1,0] U (fF 1 0 T.one3 U U sO sN U U) ?_;refine bQ 9 ?_;refine eD 0 U T.fn100 U (VB _ _ _ _ _ _ _ _ _ sO sN) (sS ⟨U,U,U,U,F9⟩) ?_;refine bC ?_;refine dK [[10]] ?_;refine bQ 11 ?_;refine aC 1 [4] ?_;refine fD ?_;refine lS 7 [] ?_;refine cW (fun hc1=>?_) fun hc1=>?_;refine dE [3,2,1,0,5,7,4] [(4,11)] T.mixed [[0],[1],[2],[3],[4,0],[5],[6,4]] ?_;refine fJ (α:=Int) 7 T.sl24 ?_;refine dW 8 [1,0] U (fF 1 0 T.one3 U U sO sN U U) ?_;refine bQ 9 ?_;refine eD 0 U T.fn100 U (VB _ _ _ _ _ _ _ _ _ sO sN) (sS ⟨U,U,U,U,F9⟩) ?_;refine bC ?_;refine dK [[10]] ?_;refine bQ 11 ?_;refine aC 1 [4] ?_;refine fD ?_;refine eE 8 [4,5] ?_;refine cH (.inr U) (Ho:=Hp.only _ [0,1,2,3]) U (.agg 5 U U T.agg91) (aV _ _) ?_;rotate_left;refine bE 9 [4,5] ?_;refine cH (.inr U) (Ho:=Hp.only _ [0,1,2,3]) U (.agg 5 U U T.agg91) (aV _ _) ?_;rotate_left
 · refine ⟨?_,U,U⟩;have h:askedP t.held i=⟨i.op,i.to,holder t.held (t.held[i.a.toNat]?.getD default),holder t.held (t.held[i.b.toNat]?.getD default),i.c⟩:=by
    unfold askedP;rw [aF (by omega)]
   rw [h];rfl
 refine ⟨?_,U,U⟩;have h:askedP t.held i=⟨i.op,i.to,holder t.held (t.held[i.a.toNat]?.getD default),i.b,i.c⟩:=by
  unfold askedP;rw [aD (by omega)]
 rw [h];rfl
section
variable {t:Tab} {out:List Sl.Instr} {n:Int} {i:Sl.Instr}
end
theorem li (G:A3) (p:PV) (ac ao:Option Addr) (cc co:Nat) (hc:Arr G ac p.code) (ho:Arr G ao p.outs) (h1:p.code.length≤1099511627776) (h2:p.outs.length≤1099511627776) (hR:sP p=true) :
 Does Tryz.prog 48 [.agg (H8 p ac cc ao co)] G [] (fun v G' Ho =>
  ∃ bc bo dc do_ j1 j2,v=.tuple #[.agg #[.int .i64 p.ins,.int .i64 p.regs,.slice bc (xW p).code.length dc,.slice bo (xW p).outs.length do_],.int .i64 0]∧
   A4 bc dc (xW p).code j1∧A4 bo do_ (xW p).outs j2∧Ho=[(0,bc.map (·.block),Row 91 (xW p).code j1),(1,bo.map (·.block),Row 3 (xW p).outs j2)]∧G'=G):=by
 obtain ⟨r1,r2,r3,r4,r5,r6,r7,r8⟩:=sT hR;have hcheck:(uK p).2=false:=by simpa [sP] using hR
 refine D0 Tryz.func48 Tryz.ntmps48 fun w=>?_;refine eJ 0 (Row 91 ([]:List Sl.Instr) []) (eJ 1 (Row 3 ([]:List Int) []) ?_);refine aI 2 [] ?_;refine dV 2 fun b1=>?_;refine aO 3 U T.zero26 fun b2=>?_;refine aL 7 [2] ?_;refine cI U (ZM _ _ _ _ _ _ sO sO sN sN) ?_;refine bB 13 [] ?_;refine cW (fun hc1=>?_) fun hc1=>?_;refine aI 2 [] ?_;refine aQ (bP (cs:=[_,_,_,_]) T.st26 U U U) ?_;refine aS 7 [3] ?_;rotate_left;refine aI 5 [2] ?_;refine bV 4 U (c97 _ _ _ _ _ _ sN) fun v1 G1 Ho1 hle1 hp=>?_;obtain ⟨bt1,bk1,bf1,ta1,tc1,tj1,rfl,hto1,rfl,rfl⟩:=hp;refine aL 9 [2,2] ?_;refine aQ (bP (cs:=[_,_,_,_]) T.st26 U U U) ?_;refine aO 8 U T.zero26 fun b3=>?_;refine bB 13 [8,2] ?_;rotate_left
 · rw [hcheck] at hc1;exact absurd U hc1
 refine fT (ι:=Nat×Tab×List Sl.Instr×(Option Addr×Nat×List Value)×(Option Addr×Nat×List Value)) (fun (k,t,out,(a,c,junk),(a',c',junk'))=>([(34,.int .i64 (k:Int)),(33,.int .i64 (↑p.code.length:Int)),(32,.slice ac p.code.length cc),(7,.pointer (some (Addr.mk b3 0 none))),(6,.pointer (some (Addr.mk bt1 0 none))),(3,.int .i64 0),(2,.pointer (some ⟨b2,0,none⟩)),(1,.pointer (some ⟨b1,0,none⟩))],[(4,some bt1,.cells #[.slice a t.held.length c,.map (some bk1),.map (some bf1),.int .i64 t.next] 168),(5,a.map (·.block),Row 3 t.held junk),(6,some bk1,B0 t.known),(7,some bf1,B0 t.first),(8,some b3,.cells #[.int .i64 p.ins,.int .i64 p.regs,.slice a' out.length c',.slice none 0 0] 26),(0,a'.map (·.block),Row 91 out junk'),(3,some b2,.cells #[.int .i64 0,.int .i64 0,.slice none 0 0,.slice none 0 0] 26),(2,some b1,.cells (H8 p ac cc ao co) 26),(1,none,Row (α:=Int) 3 ([]) ([]))])) (fun (k,t,out,(a,c,junk),(a',c',junk'))=>k≤p.code.length∧(t,out)=tR p k∧A4 a c t.held junk∧A4 a' c' out junk'∧(t.held.length:Int)=p.regs∧out.length≤k∧(∀ x,A8 t.known x=none→A8 t.first x=none)∧0≤t.next∧t.next≤p.ins+1+k) (fun (k,t,out,(a,c,junk),(a',c',junk'))=>p.code.length - k) ((0,⟨start p,[],[],p.ins+1⟩,[],(ta1,tc1,tj1),(none,0,[]))) (⟨aM _,U,hto1,eG,by simp [start];omega,aM _,fun _ _=>rfl,by show 0≤p.ins+1;omega,by show p.ins+1≤p.ins+1+0;omega⟩) ⟨U,U,U,U,U,U,U,U,F9⟩ ⟨U,U,U,U,U,U,U,U,U,F9⟩ fun ⟨k,t,out,(a,c,junk),(a',c',junk')⟩=>fun hk=>?_;obtain ⟨hk1,hpass,hoa,hoa',hlen,hout,hkf,hn0,hn1⟩:=hk;rcases aK k p.code.length with hlt | hge
 · have hm:tB (p.code[(k:Int).toNat]?.getD default) t.held.length=true:=by
    rw [hlen];refine r8 _ ?_;rw [aE,aA hlt];simp
   have hrh:=Ca t k (p.code[(k:Int).toNat]?.getD default);have hra:A4 a c (reckonP t k (p.code[(k:Int).toNat]?.getD default)).2.held junk:=by rw [hrh];exact hoa
   have hrl:(reckonP t k (p.code[(k:Int).toNat]?.getD default)).2.held.length=t.held.length:=by rw [hrh]
   have hrm:tB (p.code[(k:Int).toNat]?.getD default) (reckonP t k (p.code[(k:Int).toNat]?.getD default)).2.held.length=true:=by rw [hrl];exact hm
   have hto:0≤(askedP (reckonP t k (p.code[(k:Int).toNat]?.getD default)).2.held (p.code[(k:Int).toNat]?.getD default)).to∧
    (askedP (reckonP t k (p.code[((k:Nat):Int).toNat]?.getD default)).2.held (p.code[((k:Nat):Int).toNat]?.getD default)).to<(reckonP t k (p.code[((k:Nat):Int).toNat]?.getD default)).2.held.length:=by
    rw [tM] at hm;unfold askedP;rw [hrl];exact ⟨hm.1.2.2.1,hm.1.2.2.2.1⟩
   refine aI 14 [1] ?_;refine fR (α:=Instr) T.sl23 ?_;refine lL T.agg91 ?_;refine aO 9 U T.zero91 fun b4=>?_;refine aL 9 [9,9] ?_;refine eL 4 U T.fn98 U (c98 _ _ _ _ _ _ _ _ _ _ sO sN sO sO sN) (sS ⟨U,U,U,U,F9⟩) fun v2 G2 Ho2 hle2 hp=>?_;obtain ⟨rfl,rfl,rfl⟩:=hp;refine aL 11 [9] ?_;refine eD 4 U T.fn99 U (c99 _ _ _ _ _ _ _ _ _ sO sN sO) (sS ⟨U,U,U,U,F9⟩) ?_;refine bB 5 [9] ?_;refine dE [1,2,3,0,8,7,6,5,4,9] [] T.mixed [[0],[1],[2],[3,4],[4],[5,9]] ?_;refine fJ (α:=Int) 6 T.sl24 ?_;refine dW 7 [0,5] U (fF 5 0 T.one3 U U sO sN U U) ?_;refine dK [[8],[9]] ?_;refine dG ?_;refine cN ?_;refine cW (fun hc2=>?_) fun hc2=>?_;refine bE 8 [] ?_;rotate_left;refine aI 7 [] ?_;refine eD 4 U T.fn100 U (VB _ _ _ _ _ _ _ _ _ sO sN) (sS ⟨U,U,U,U,F9⟩) ?_;refine bB 9 [] ?_;refine cW (fun hc3=>?_) fun hc3=>?_;refine aI 4 [9] ?_;refine aQ (bP (cs:=[_,_,_,_,_]) T.st91 U U U) ?_;refine aL 8 [9,8,9] ?_;refine cZ (α:=Instr) 10 [⟨1,Go.Sl.Instr.to (Go.Proofs.YtkdelpdbjfpgmaaGreatDoor.askedP (Go.Proofs.YtkdelpdbjfpgmaaGreatDoor.Tab.held (Prod.snd (Go.Proofs.YtkdelpdbjfpgmaaGreatDoor.reckonP t (↑k:Int) (Option.getD p.code[Int.toNat (↑k:Int)]? Inhabited.default)))) (Option.getD p.code[Int.toNat (↑k:Int)]? Inhabited.default)),Go.Proofs.YtkdelpdbjfpgmaaGreatDoor.holder (Go.Proofs.YtkdelpdbjfpgmaaGreatDoor.Tab.held (Prod.snd (Go.Proofs.YtkdelpdbjfpgmaaGreatDoor.reckonP t (↑k:Int) (Option.getD p.code[Int.toNat (↑k:Int)]? Inhabited.default)))) (Prod.fst (Prod.fst (Go.Proofs.YtkdelpdbjfpgmaaGreatDoor.reckonP t (↑k:Int) (Option.getD p.code[Int.toNat (↑k:Int)]? Inhabited.default)))),0,0⟩] U T.sl23 T.el91 U U U U U fun b5=>?_;refine kH (α:=Instr) 0 T.sl23 T.el91 (dT 10 U) fun a1 c1 junk1 ho1=>?_;refine bB 4 [8] ?_;refine dE [1,2,3,7,6,5,4,9,10,0,8] [(8,8),(0,8),(10,8),(9,8),(4,8),(5,8),(3,8),(2,8),(1,8)] T.mixed [[0],[1],[2],[3,4],[4],[5,9],[6]] ?_;refine fJ (α:=Int) 7 T.sl24 ?_;refine bQ 8 ?_;refine dC (z:=_) 5 T.size3 U U U sO sN U fun ho2=>?_;refine fD ?_;refine eE 6 [] ?_;rotate_left;refine aI 7 [8,9] ?_;refine cZ (α:=Instr) 10 [(Go.Proofs.YtkdelpdbjfpgmaaGreatDoor.askedP (Go.Proofs.YtkdelpdbjfpgmaaGreatDoor.Tab.held (Prod.snd (Go.Proofs.YtkdelpdbjfpgmaaGreatDoor.reckonP t (↑k:Int) (Option.getD p.code[Int.toNat (↑k:Int)]? Inhabited.default)))) (Option.getD p.code[Int.toNat (↑k:Int)]? Inhabited.default))] U T.sl23 T.el91 U U U U U fun b5=>?_;refine kH (α:=Instr) 0 T.sl23 T.el91 (dT 10 U) fun a1 c1 junk1 ho1=>?_;refine bB 4 [8] ?_;refine dE [1,2,3,7,6,5,4,9,10,0,8] [(8,8),(0,8),(10,8),(9,8),(4,8),(5,8),(3,8),(2,8),(1,8)] T.mixed [[0],[1],[2],[3,4],[4],[5,9],[6]] ?_;refine fJ (α:=Int) 7 T.sl24 ?_;refine bQ 8 ?_;refine dC (z:=_) 5 T.size3 U U U sO sN U fun ho2=>?_;refine fD ?_;refine eE 6 [] ?_;rotate_left
   · generalize hI:p.code[((k:Nat):Int).toNat]?.getD default=I at *;refine cK ((k+1,(reckonP t k I).2,out,(a,c,junk),(a',c',junk'))) ?_ ?_
     · refine ⟨by omega,?_,hra,hoa',by rw [hrl];exact hlen,by omega,Lh hkf,(yJ hn0 k I).1,?_⟩
       · show _=tI (tR p k) k (p.code[(k:Int).toNat]?.getD default);rw [←hpass,hI,Hd hc2]
       have:=(yJ hn0 k I).2;omega
     show p.code.length - (k+1)<p.code.length - k;omega
   · generalize hI:p.code[((k:Nat):Int).toNat]?.getD default=I at *;refine gC 4 (.cells #[.slice a ((reckonP t k I).2.held.set (askedP (reckonP t k I).2.held I).to.toNat (reckonP t k I).1.1).length c,.map (some bk1),.map (some bf1),.int .i64 (reckonP t k I).2.next] 168) U Dy ?_;refine cK ((k+1,{ (reckonP t k I).2 with held:=(reckonP t k I).2.held.set (askedP (reckonP t k I).2.held I).to.toNat (reckonP t k I).1.1 },_,(a,c,junk),(a1,c1,junk1))) ?_ ?_
     · refine ⟨by omega,?_,ho2,ho1,?_,?_,Lh hkf,?_,?_⟩
       · show _=tI (tR p k) k (p.code[(k:Int).toNat]?.getD default);rw [←hpass,hI,He hc2 hc3]
       · show (((reckonP t k I).2.held.set _ _).length:Int)=_;rw [aG,hrl];exact hlen
       · rw [aB];simp only [bA,cE];omega
       · exact (yJ hn0 k I).1
       have:=(yJ hn0 k I).2;show (reckonP t k I).2.next≤_;omega
     show p.code.length - (k+1)<p.code.length - k;omega
   generalize hI:p.code[((k:Nat):Int).toNat]?.getD default=I at *;refine gC 4 (.cells #[.slice a ((reckonP t k I).2.held.set (askedP (reckonP t k I).2.held I).to.toNat (reckonP t k I).1.1).length c,.map (some bk1),.map (some bf1),.int .i64 (reckonP t k I).2.next] 168) U Dy ?_;refine cK ((k+1,{ (reckonP t k I).2 with held:=(reckonP t k I).2.held.set (askedP (reckonP t k I).2.held I).to.toNat (reckonP t k I).1.1 },_,(a,c,junk),(a1,c1,junk1))) ?_ ?_
   · refine ⟨by omega,?_,ho2,ho1,?_,?_,Lh hkf,?_,?_⟩
     · show _=tI (tR p k) k (p.code[(k:Int).toNat]?.getD default);rw [←hpass,hI,Hf hc2 hc3]
     · show (((reckonP t k I).2.held.set _ _).length:Int)=_;rw [aG,hrl];exact hlen
     · rw [aB];simp only [bA,cE];omega
     · exact (yJ hn0 k I).1
     have:=(yJ hn0 k I).2;show (reckonP t k I).2.next≤_;omega
   show p.code.length - (k+1)<p.code.length - k;omega
 have hk:k=p.code.length:=sN;subst hk;refine bI 22 [0,2] ?_;refine gX (ι:=Nat×List Int×Option Addr×Nat×List Value) (fun (k,os,b,d,j)=>([(86,.int .i64 (k:Int)),(85,.int .i64 (↑p.outs.length:Int)),(84,.slice ao p.outs.length co),(7,.pointer (some (Addr.mk b3 0 none))),(6,.pointer (some (Addr.mk bt1 0 none))),(3,.int .i64 0),(2,.pointer (some ⟨b2,0,none⟩))],[(8,some b3,.cells #[.int .i64 p.ins,.int .i64 p.regs,.slice a' out.length c',.slice b os.length d] 26),(1,b.map (·.block),Row 3 os j),(4,some bt1,.cells #[.slice a (List.length (Tab.held t)) c,Go.Value.map (some bk1),Go.Value.map (some bf1),.int .i64 (Tab.next t)] 168),(5,Option.map (fun x=>Go.Addr.block x) a,Row (α:=Int) 3 (Tab.held t) (junk)),(6,some bk1,Go.Sl.B0 (κ:=Go.Sl.K4) (Tab.known t)),(7,some bf1,Go.Sl.B0 (κ:=Go.Sl.K4) (Tab.first t)),(0,Option.map (fun x=>Go.Addr.block x) a',Row (α:=Go.Sl.Instr) 91 (out) (junk')),(3,some b2,.cells #[.int .i64 0,.int .i64 0,.slice none 0 0,.slice none 0 0] 26),(2,some b1,.cells (H8 p ac cc ao co) 26)])) (fun (k,os,b,d,j)=>k≤p.outs.length∧os=(vV p t.held).take k∧A4 b d os j) (fun (k,os,b,d,j)=>p.outs.length - k) ((0,[],none,0,[])) (⟨aM _,U,eG⟩) fun ⟨k,os,b,d,j⟩=>fun hk=>?_;obtain ⟨hk2,hos,hob⟩:=hk;have hosl:os.length≤128:=by rw [hos,bG];omega
 rcases aK k p.outs.length with hlt | hge
 · have hr:0≤p.outs[(k:Int).toNat]?.getD default∧p.outs[(k:Int).toNat]?.getD default<t.held.length:=by
    rw [hlen];refine r7 _ ?_;rw [aE,aA hlt];simp
   refine aI 13 [1] ?_;refine fR (α:=Int) T.sl24 ?_;refine jC 0 T.one3 ?_;refine bB 3 [] ?_;refine dE [2,3,0,7,6,5,4,1,8] [(8,14),(1,12),(5,12),(0,12)] T.mixed [[0],[1,8],[2],[3],[4],[5],[6,4],[7]] ?_;refine fJ (α:=Int) 8 T.sl24 ?_;refine bQ 9 ?_;refine nA 5 0 T.one3 ?_;refine cS 10 ?_;refine eD 4 U T.fn100 U (VB _ _ _ _ _ _ _ _ _ sO sN) (sS ⟨U,U,U,U,F9⟩) ?_;refine cS 11 ?_;refine cZ (α:=Int) 9 [(Go.Proofs.YtkdelpdbjfpgmaaGreatDoor.holder (Go.Proofs.YtkdelpdbjfpgmaaGreatDoor.Tab.held t) (Option.getD (Go.Proofs.YtkdelpdbjfpgmaaGreatDoor.Tab.held t)[Int.toNat (Option.getD p.outs[Int.toNat (↑k:Int)]? Inhabited.default)]? Inhabited.default))] U T.sl24 T.el3 U U U U U fun b4=>?_;refine cS 12 ?_;refine kH (α:=Int) 1 T.sl24 T.el3 (dT 9 U) fun a1 c1 junk1 ho1=>?_;refine bC ?_;refine dK [[13]] ?_;refine bQ 14 ?_;refine aC 1 [8] ?_;refine fD ?_;refine eE 6 [] ?_;refine cK ((k+1,_,a1,c1,junk1)) ?_ ?_
   · refine ⟨by omega,?_,ho1⟩;have hst:(vV p t.held).take (k+1)=(vV p t.held).take k++[holder t.held (t.held[(p.outs[(k:Int).toNat]?.getD default).toNat]?.getD default)]:=by
      rw [cL];simp [vV,hlt]
     rw [hst,hos]
   show p.outs.length - (k+1)<p.outs.length - k;omega
 refine bE 20 [0,8,3] ?_;refine gZ (.inr U) (Ho:=Hp.only _ [0,1]) U (.agg 3 U U T.agg26) (.tmp U) (aV _ _) ?_;have ht:t=(tR p p.code.length).1:=congrArg Prod.fst hpass;have hou:out=(xW p).code:=congrArg Prod.snd hpass;have hos':os=(xW p).outs:=by
  rw [hos,fH (by simp [vV];omega),ht];rfl
 rw [hou] at hoa' ⊢;rw [hos'] at hob ⊢;exact ⟨a',b,c',d,junk',j,U,hoa',hob,U,U⟩
def Yes:Prop:=True
instance:Decidable Yes:=.isTrue F9
def wF:List Sl.Instr→List Int→Option (List Int)
 | [],rs=>some rs
 | i :: l,rs=>(Af i rs).bind fun x=>wF l (rs.set i.to.toNat x)
theorem KJ (l:List Sl.Instr) (i:Sl.Instr) (rs:List Int):wF (l++[i]) rs=(wF l rs).bind fun r=>(Af i r).map fun x=>r.set i.to.toNat x:=by
 induction l generalizing rs with
 | nil =>
   show (Af i rs).bind (fun x=>some (rs.set i.to.toNat x))=(Af i rs).map _;cases Af i rs <;> rfl
 | cons j l ih =>
   show (Af j rs).bind (fun x=>wF (l++[i]) (rs.set j.to.toNat x))=((Af j rs).bind fun x=>wF l (rs.set j.to.toNat x)).bind _;cases Af j rs with
   | none=>rfl
   | some x=>exact ih _
theorem wI (p:PV) (zs:List Int):∀ k,k≤p.code.length→Wo p zs k=wF (p.code.take k) zs
 | 0,_=>by rw [bR];rfl
 | k+1,hk=>by
   have htk:p.code.take (k+1)=p.code.take k++[p.code[(k:Int).toNat]?.getD default]:=by
    rw [cL,aE,aA sN];rfl
   rw [htk,KJ,←wI p zs k sN];rfl
theorem Ki (r:List Int) (n k:Nat) (x:Int):(r.set n x)[k]?.getD 0=if n=k∧k<r.length then x else r[k]?.getD 0:=by
 rw [cF];by_cases h:n=k
 · subst h;by_cases h2:n<r.length
   · rw [aF rfl,aF h2,aF ⟨rfl,h2⟩];rfl
   rw [aF rfl,aD h2,aD (fun h=>h2 h.2),bZ sN]
 rw [aD h,aD (fun h2=>h h2.1)]
def Nr (op c:Int):Int:=if op=5∨op=6 then c else p2 c.toNat
def uZ (op c x:Int):Option Int:=
 if op=2 then some (-x) else if op=5∨op=7 then some (x*Nr op c) else if op=6∨op=8 then (if x % Nr op c=0 then some (x / Nr op c) else none) else some x
def uR (op c x q:Int):Prop:=if op=2 then q=-x else if op=5∨op=7 then q=x*Nr op c else if op=6∨op=8 then q*Nr op c=x else q=x
theorem fk (c x q:Int):uR 1 c x q↔q=x:=by unfold uR;simp
theorem dy (c x q:Int):uR 2 c x q↔q=-x:=by unfold uR;simp
theorem ee (c x q:Int):uR 5 c x q↔q=x*c:=by unfold uR Nr;simp
theorem ZN (c x q:Int):uR 6 c x q↔q*c=x:=by unfold uR Nr;simp
theorem lj (c x q:Int):uR 7 c x q↔q=x*p2 c.toNat:=by unfold uR Nr;simp
theorem lk (c x q:Int):uR 8 c x q↔q*p2 c.toNat=x:=by unfold uR Nr;simp
theorem YT {x y q:Int} (hy:y≠0):(if x % y=0 then some (x / y) else none)=some q↔q*y=x:=by
 by_cases h:x % y=0
 · rw [aF h,bY];have e:=Int.ediv_mul_cancel (Int.dvd_of_emod_eq_zero h);constructor
   · rintro rfl;exact e
   intro h2;rw [←h2,Int.mul_ediv_cancel _ hy]
 rw [aD h];constructor
 · intro h2;cases h2
 intro h2;exact absurd (by rw [←h2];exact Int.mul_emod_left q y) h
theorem Ri {op c x q:Int} (h:op=6∨op=8→Nr op c≠0):uZ op c x=some q↔uR op c x q:=by
 unfold uZ uR;by_cases h2:op=2
 · rw [aF h2,aF h2,bY];exact eq_comm
 rw [aD h2,aD h2];by_cases h5:op=5∨op=7
 · rw [aF h5,aF h5,bY];exact eq_comm
 rw [aD h5,aD h5];by_cases h6:op=6∨op=8
 · rw [aF h6,aF h6];exact YT (h h6)
 rw [aD h6,aD h6,bY];exact eq_comm
theorem Bo {op c:Int} (h:tD op c=true):op=6∨op=8→Nr op c≠0:=by
 intro ho;unfold Nr;split
 · rename_i h5;exact yE h h5
 have:=Pn c.toNat;omega
theorem Kj {c d:Int} (hc:0≤c) (hd:0≤d):p2 (c+d).toNat=p2 c.toNat*p2 d.toNat:=by
 rw [Int.toNat_add hc hd,XU]
theorem vO {a b c:Int} (hc:c≠0) (h:a*c=b*c):a=b:=pC hc h
theorem VC {f c s d o e:Int} (h:vJ f c s d=(o,e,true)) (hc:tD f c=true) (hd:tD s d=true) (x q:Int):(∃ y,uR f c x y∧uR s d y q)↔uR o e x q:=by
 unfold vJ at h;by_cases f1:f=1
 · subst f1;rw [aF rfl] at h;cases h;simp only [fk];exact ⟨fun ⟨y,h1,h2⟩=>h1▸h2,fun h2=>⟨x,U,h2⟩⟩
 rw [aD f1] at h;by_cases f2:f=2
 · subst f2;rw [aF rfl] at h;simp only [dy];by_cases s1:s=1
   · subst s1;rw [aF rfl] at h;cases h;simp only [fk,dy];exact ⟨fun ⟨y,h1,h2⟩=>by rw [h2,h1],fun h2=>⟨_,U,h2⟩⟩
   rw [aD s1] at h;by_cases s2:s=2
   · subst s2;rw [aF rfl] at h;cases h;simp only [fk,dy];exact ⟨fun ⟨y,h1,h2⟩=>by omega,fun h2=>⟨_,U,by omega⟩⟩
   rw [aD s2] at h;by_cases s5:s=5∨s=6
   · rw [aF s5] at h;rcases s5 with rfl | rfl
     · cases h;simp only [ee];exact ⟨fun ⟨y,h1,h2⟩=>by rw [h2,h1,gN,iY],fun h2=>⟨_,U,by rw [h2,gN,iY]⟩⟩
     cases h;simp only [ZN];exact ⟨fun ⟨y,h1,h2⟩=>by rw [iY,h2,h1,Int.neg_neg],fun h2=>⟨_,U,by rw [←h2,iY,Int.neg_neg]⟩⟩
   rw [aD s5] at h;cases h
 rw [aD f2] at h;by_cases f5:f=5
 · subst f5;rw [aF rfl] at h;have hc0:=yE hc (.inl U);simp only [ee];by_cases s2:s=2
   · subst s2;rw [aF rfl] at h;cases h;simp only [dy,ee];exact ⟨fun ⟨y,h1,h2⟩=>by rw [h2,h1,iY],fun h2=>⟨_,U,by rw [h2,iY]⟩⟩
   rw [aD s2] at h;by_cases s5:s=5∧-512≤c*d∧c*d≤512
   · rw [aF s5] at h;obtain ⟨rfl,_⟩:=s5;cases h;simp only [ee];exact ⟨fun ⟨y,h1,h2⟩=>by rw [h2,h1,cM],fun h2=>⟨_,U,by rw [h2,cM]⟩⟩
   rw [aD s5] at h;by_cases s6:s=6∧c.tmod d=0
   · rw [aF s6] at h;obtain ⟨rfl,hm⟩:=s6;have hd0:=yE hd (.inr U);cases h;have hcd:c.tdiv d*d=c:=kK (Int.dvd_of_tmod_eq_zero hm);simp only [ee,ZN];constructor
     · rintro ⟨y,h1,h2⟩;refine vO hd0 ?_;rw [h2,h1,cM,hcd]
     intro h2;exact ⟨_,U,by rw [h2,cM,hcd]⟩
   rw [aD s6] at h;by_cases s7:s=6∧d.tmod c=0
   · rw [aF s7] at h;obtain ⟨rfl,hm⟩:=s7;cases h;have hcd:d.tdiv c*c=d:=kK (Int.dvd_of_tmod_eq_zero hm);simp only [ZN];constructor
     · rintro ⟨y,h1,h2⟩;refine vO hc0 ?_;rw [cM,hcd,h2,h1]
     intro h2;refine ⟨_,U,?_⟩;rw [←h2,cM,hcd]
   rw [aD s7] at h;cases h
 rw [aD f5] at h;by_cases f6:f=6
 · subst f6;rw [aF rfl] at h;simp only [ZN];by_cases s2:s=2
   · subst s2;rw [aF rfl] at h;cases h;simp only [dy,ZN];exact ⟨fun ⟨y,h1,h2⟩=>by rw [h2,Int.neg_mul_neg,h1],fun h2=>⟨-q,by rw [←h2,iY,gN],by omega⟩⟩
   rw [aD s2] at h;by_cases s6:s=6∧-512≤c*d∧c*d≤512
   · rw [aF s6] at h;obtain ⟨rfl,_⟩:=s6;cases h;simp only [ZN];exact ⟨fun ⟨y,h1,h2⟩=>by rw [←h1,←h2,cM,cG d c],fun h2=>⟨q*d,by rw [←h2,cM,cG d c],U⟩⟩
   rw [aD s6] at h;cases h
 rw [aD f6] at h;by_cases f7:f=7
 · subst f7;rw [aF rfl] at h;have hc1:=xI hc (.inl U);simp only [lj];by_cases s7:s=7∧c+d≤64
   · rw [aF s7] at h;obtain ⟨rfl,_⟩:=s7;have hd1:=xI hd (.inl U);cases h;simp only [lj];rw [Kj sN sN];exact ⟨fun ⟨y,h1,h2⟩=>by rw [h2,h1,cM],fun h2=>⟨_,U,by rw [h2,cM]⟩⟩
   rw [aD s7] at h;by_cases s8:s≠8
   · rw [aF s8] at h;cases h
   rw [aD s8] at h;have s8':s=8:=sN;subst s8';have hd1:=xI hd (.inr U);have pc:=Pn c.toNat;have pd:=Pn d.toNat;simp only [lk];by_cases e1:c=d
   · rw [aF e1] at h;cases h;subst e1;simp only [fk];exact ⟨fun ⟨y,h1,h2⟩=>vO (show p2 c.toNat≠0 by omega) (by rw [h2,h1]),fun h2=>⟨_,U,by rw [h2]⟩⟩
   rw [aD e1] at h;by_cases e2:d<c
   · rw [aF e2] at h;cases h;simp only [lj];have hp:p2 c.toNat=p2 (c - d).toNat*p2 d.toNat:=by
      rw [←Kj sN sN];congr 2;omega
     constructor
     · rintro ⟨y,h1,h2⟩;refine vO (show p2 d.toNat≠0 by omega) ?_;rw [h2,h1,cM,←hp]
     intro h2;exact ⟨_,U,by rw [h2,cM,←hp]⟩
   rw [aD e2] at h;cases h;simp only [lk];have hp:p2 d.toNat=p2 (d - c).toNat*p2 c.toNat:=by
    rw [←Kj sN sN];congr 2;omega
   constructor
   · rintro ⟨y,h1,h2⟩;refine vO (show p2 c.toNat≠0 by omega) ?_;rw [cM,←hp,h2,h1]
   intro h2;exact ⟨_,U,by rw [←h2,cM,←hp]⟩
 rw [aD f7] at h;by_cases f8:f=8
 · subst f8;rw [aF rfl] at h;have hc1:=xI hc (.inr U);by_cases s8:s=8∧c+d≤64
   · rw [aF s8] at h;obtain ⟨rfl,_⟩:=s8;have hd1:=xI hd (.inr U);cases h;simp only [lk];rw [Kj sN sN];exact ⟨fun ⟨y,h1,h2⟩=>by rw [←h1,←h2,cM,cG (p2 d.toNat)],fun h2=>⟨q*p2 d.toNat,by rw [←h2,cM,cG (p2 d.toNat)],U⟩⟩
   rw [aD s8] at h;cases h
 rw [aD f8] at h;cases h
theorem Uy (i:Sl.Instr) (rs:List Int):Af (tV i) rs=Af i rs:=by
 obtain ⟨op,t,a,b,c⟩:=i;unfold tV;simp only;by_cases h3:op=3
 · subst h3;rw [aF rfl];by_cases hab:a=b
   · subst hab;rw [aF rfl];have e2:p2 1=2:=by unfold p2;decide
     simp [Af,cst,e2];omega
   rw [aD hab]
 rw [aD h3];by_cases h5:op=5∨op=6
 · rw [aF h5];by_cases c1:c=1
   · subst c1;rw [aF rfl];rcases h5 with rfl | rfl <;> simp [Af,cst]
   rw [aD c1];by_cases c2:c=-1
   · subst c2;rw [aF rfl];rcases h5 with rfl | rfl
     · simp [Af,cst]
     simp [Af,cst]
   rw [aD c2];by_cases hp:wE c≠0
   · rw [aF hp];obtain ⟨m,m1,m2,m3,m4⟩:=YS hp;have ht:p2 (wE c).toNat=c:=by rw [m4,aE,m3];rfl
     rcases h5 with rfl | rfl
     · rw [aF rfl];simp [Af,cst,ht]
     rw [aD (by decide)];simp [Af,cst,ht]
   rw [aD hp]
 rw [aD h5]
theorem Kk (i:Sl.Instr):(tV i).to=i.to:=by
 unfold tV
 repeat' split
 all_goals rfl
theorem Xg {i:Sl.Instr} (h:¬(i.op=3∨i.op=4)) (rs:List Int):Af i rs=uZ i.op i.c (rs[i.a.toNat]?.getD 0):=by
 unfold Af uZ;have h3:¬i.op=3:=fun e=>h (.inl e);have h4:¬i.op=4:=fun e=>h (.inr e);simp only [h3,h4,lD];rfl
theorem VD {f c s d:Int} (h:(vJ f c s d).2.2=true):¬(f=3∨f=4):=by
 rintro (rfl | rfl) <;> simp [vJ] at h
theorem VE {f c s d:Int} (hs:¬(s=3∨s=4)) (h:(vJ f c s d).2.2=true):¬((vJ f c s d).1=3∨(vJ f c s d).1=4):=by
 unfold vJ at h ⊢
 repeat' split
 all_goals first
  | (simp;done)
  | (intro h9;simp at h9;omega)
  | simp_all
theorem PZ {a b:Sl.Instr} {rs:List Int} (hm:(uI a b).2=true) (ha:HA a) (hb:HA b) (ht:a.to.toNat<rs.length):wF [uI a b |>.1] rs=wF [a,b] rs:=by
 unfold uI at hm ⊢;by_cases h:b.op=3∨b.op=4∨b.a≠a.to∨b.to≠a.to
 · rw [aF h] at hm;cases hm
 rw [aD h] at hm ⊢;by_cases hk:(vJ a.op a.c b.op b.c).2.2=true
 · rw [aF hk];have b34:¬(b.op=3∨b.op=4):=sN;have a34:=VD hk;have o34:=VE b34 hk;have hba:b.a=a.to:=sN;have hbt:b.to=a.to:=sN;have hok:tD (vJ a.op a.c b.op b.c).1 (vJ a.op a.c b.op b.c).2.1=true:=(Fz ha hb).resolve_right (by rw [hk];decide);have hsem:=fun x q=>VC (o:=(vJ a.op a.c b.op b.c).1) (e:=(vJ a.op a.c b.op b.c).2.1) (by rw [←hk]) ha hb x q;generalize (vJ a.op a.c b.op b.c).1=o at *;generalize (vJ a.op a.c b.op b.c).2.1=e at *;show (Af (tV ⟨o,b.to,a.a,0,e⟩) rs).bind (fun x=>some (rs.set (tV ⟨o,b.to,a.a,0,e⟩).to.toNat x))=(Af a rs).bind fun x=>(Af b (rs.set a.to.toNat x)).bind fun y=>some ((rs.set a.to.toNat x).set b.to.toNat y);rw [Uy,Kk,Xg o34,Xg a34];simp only [Xg b34,hba,hbt];generalize rs[a.a.toNat]?.getD 0=x;have hget:∀ y:Int,(rs.set a.to.toNat y)[a.to.toNat]?.getD 0=y:=fun y=>by rw [Ki,aF ⟨rfl,ht⟩]
   simp only [hget,List.set_set];have key:∀ q,uZ o e x=some q↔∃ y,uZ a.op a.c x=some y∧uZ b.op b.c y=some q:=fun q=>by
    rw [Ri (Bo hok),←hsem x q];constructor
    · rintro ⟨y,k1,k2⟩;exact ⟨y,(Ri (Bo ha)).2 k1,(Ri (Bo hb)).2 k2⟩
    rintro ⟨y,k1,k2⟩;exact ⟨y,(Ri (Bo ha)).1 k1,(Ri (Bo hb)).1 k2⟩
   cases h1:uZ o e x with
   | some q =>
     obtain ⟨y,k1,k2⟩:=(key q).1 h1;rw [k1];simp only [eR,k2]
   | none =>
     cases h2:uZ a.op a.c x with
     | none=>rfl
     | some y =>
       cases h3:uZ b.op b.c y with
       | none=>simp only [eR,h3]
       | some q =>
         have:=(key q).2 ⟨y,h2,h3⟩;rw [h1] at this;cases this
 rw [aD hk] at hm;cases hm
theorem BO:∀ (l:List Sl.Instr) (rs r:List Int),wF l rs=some r→r.length=rs.length
 | [],rs,r,h=>by cases h;rfl
 | i :: l,rs,r,h=>by
   unfold wF at h;obtain ⟨x,hx,h⟩:=pV.1 h;rw [BO l _ _ h,aG]
theorem yN (l m:List Sl.Instr) (rs:List Int):wF (l++m) rs=(wF l rs).bind (wF m):=by
 induction l generalizing rs with
 | nil=>rfl
 | cons i l ih =>
   show (Af i rs).bind (fun x=>wF (l++m) (rs.set i.to.toNat x))=((Af i rs).bind fun x=>wF l (rs.set i.to.toNat x)).bind (wF m);cases Af i rs with
   | none=>rfl
   | some x=>exact ih _
theorem QA {l:List Int} {k:Nat}:l.set k (l[k]?.getD 0)=l:=by
 apply gW;intro j;rw [cF];by_cases h:k=j
 · subst h;rw [aF rfl];by_cases hk:k<l.length
   · rw [aF hk,aA hk];rfl
   rw [aD hk,bZ sN]
 rw [aD h]
theorem BP {i:Sl.Instr} (h:Hk i=true) (rs:List Int):wF [i] rs=some rs:=by
 unfold Hk at h;rw [aT] at h;show (Af i rs).bind (fun x=>some (rs.set i.to.toNat x))=some rs;have e:Af i rs=some (rs[i.a.toNat]?.getD 0):=by
  unfold Af;simp [h.1]
 rw [e,eR,h.2,QA]
def Kl (n:Nat) (i:Sl.Instr):Prop:=HA i∧i.to.toNat<n
theorem EL {n:Nat} {i:Sl.Instr} (h:Kl n i):Kl n (tV i):=⟨zX h.1,by rw [Kk];exact h.2⟩
theorem VF {a b:Sl.Instr} (h:(uI a b).2=true):(uI a b).1.to=a.to:=by
 unfold uI at h ⊢;by_cases h1:b.op=3∨b.op=4∨b.a≠a.to∨b.to≠a.to
 · rw [aF h1] at h;cases h
 rw [aD h1] at h ⊢;by_cases hk:(vJ a.op a.c b.op b.c).2.2=true
 · rw [aF hk];show (tV _).to=_;rw [Kk];show b.to=a.to;omega
 rw [aD hk] at h;cases h
theorem Uz {n:Nat} {a b:Sl.Instr} (ha:Kl n a) (hb:Kl n b) (h:(uI a b).2=true):Kl n (uI a b).1:=⟨Kh ha.1 hb.1 h,by rw [VF h];exact ha.2⟩
theorem BQ {n:Nat}:∀ (s:List Sl.Instr) (b:Sl.Instr) (rs:List Int),rs.length=n→(∀ i∈s,Kl n i)→Kl n b→wF (xT s b).reverse rs=wF (s.reverse++[b]) rs
 | [],b,rs,hn,hs,hb=>by
   unfold xT;by_cases hi:Hk b=true
   · rw [aF hi];exact (BP hi rs).symm
   · rw [aD hi];rfl
 | a :: s,b,rs,hn,hs,hb=>by
   unfold xT;by_cases hi:Hk b=true
   · rw [aF hi,yN];cases h:wF (a :: s).reverse rs with
     | none=>rfl
     | some r=>exact (BP hi r).symm
   rw [aD hi];by_cases hm:(uI a b).2=true
   · rw [aF hm,BQ s _ rs hn (fun i h=>hs i (by simp [h])) (Uz (hs a tU) hb hm),List.reverse_cons,aR,yN,yN];cases h:wF s.reverse rs with
     | none=>rfl
     | some r =>
       rw [eR,eR];exact PZ hm (hs a tU).1 hb.1 (by rw [BO _ _ _ h,hn];exact (hs a tU).2)
   rw [aD hm,List.reverse_cons]
theorem KK {n:Nat} (s:List Sl.Instr) (b:Sl.Instr) (hs:∀ i∈s,Kl n i) (hb:Kl n b):∀ i∈xT s b,Kl n i:=
 Rf (q:=Kl n) (fun a b ha hb h=>Uz ha hb h) s b hs hb
theorem Km {n:Nat}:∀ (l s:List Sl.Instr) (rs:List Int),rs.length=n→(∀ i∈l,Kl n i)→(∀ i∈s,Kl n i)→wF (l.foldl (fun s i=>xT s (tV i)) s).reverse rs=wF (s.reverse++l) rs
 | [],s,rs,hn,hl,hs=>by rw [aY];rfl
 | i :: l,s,rs,hn,hl,hs=>by
   have hti:=EL (hl i tU);rw [List.foldl_cons,Km l _ rs hn (fun j h=>hl j (by simp [h])) (KK s _ hs hti),yN,BQ s _ rs hn hs hti,yN,yN];cases h:wF s.reverse rs with
   | none=>rfl
   | some r =>
     rw [eR,eR];show (wF [tV i] r).bind (wF l)=wF (i :: l) r;show ((Af (tV i) r).bind fun x=>some (r.set (tV i).to.toNat x)).bind (wF l)=(Af i r).bind fun x=>wF l (r.set i.to.toNat x);rw [Uy,Kk];cases Af i r <;> rfl
theorem QB {p:PV} {zs:List Int} (hR:sP p=true) (hz:(zs.length:Int)=p.ins):Dz (zY p) zs=Dz p zs:=by
 obtain ⟨f1,f2,f3,f4,f5,f6,f7,f8⟩:=sT hR;have hl:(vR p zs).length=p.regs.toNat:=by unfold vR;rw [aB,aJ];omega
 unfold Dz;rw [wI (zY p) _ _ (aH _),wI p _ _ (aH _),aZ,aZ];have ht:∀ i∈p.code,Kl p.regs.toNat i:=fun i hi=>by
  have hm:=Fk hR i hi;have:=(tK hm).2.1;exact ⟨Bn hm,by omega⟩
 have h:=Km p.code [] (vR p zs) hl ht (fun i h=>by cases h);rw [List.reverse_nil,fV] at h;show (wF (Qz p.code).reverse (vR p zs)).map (yT p)=_;unfold Qz;rw [h]
theorem ll (G:A3) (a:Option Addr) (n c:Nat):Does Tryz.prog 200 [.slice a n c] G [] (fun v G' Ho=>∃ b,v=.func (.func 234) #[] #[.pointer (some ⟨b,0,none⟩)]∧Ho=[]∧G' b=some (.cells [.slice a n c].toArray 23)):=by
 refine D0 Tryz.func200 Tryz.ntmps200 fun w=>?_;refine aI 2 [] ?_;refine dV 0 fun b1=>?_;refine aL 5 [] ?_;refine aQ (gR U U) ?_;refine aS 4 [] ?_;refine pZ 0 U fun G' hle hb=>?_;refine cV ?_;exact ⟨_,U,U,hb⟩
theorem lm (G:A3) (a:Option Addr) (c:Nat) (xs:List Sl.Instr) (b:Nat) (hx:Arr G a xs) (hl:xs.length≤1099511627776) (hb:G b=some (.cells [.slice a xs.length c].toArray 23)) :
 Jb Tryz.prog 234 [.pointer (some ⟨b,0,none⟩)] G dl (Qt xs):=by
 intro ι J inv stop ly i0 hi0 hY;have hcell:G.cell b 0=some (.slice a xs.length c):=BG hb 0 U;refine D0 Tryz.func234 Tryz.ntmps234 fun w=>?_;refine Jd 1000 ?_;refine aI 2 [] ?_;refine aQ (bW T.one23 U sO) ?_;refine bB 6 [] ?_;refine Yq (ι:=Int×ι) 1000 (fun (m,s)=>([(3,.int .i64 m),(0,.func (Go.Fn.yield ly) #[] #[]),(1,.pointer (some (Addr.mk b 0 none)))],[])) (fun (m,s)=>J s) (fun (m,s)=>-1≤m∧m<(xs.length:Int)∧inv ((xs.length:Int) - 1 - m).toNat s) (fun (m,s)=>(m+1).toNat) (((xs.length:Int) - 1,i0)) (⟨by omega,by omega,by rw [show ((xs.length:Int) - 1 - ((xs.length:Int) - 1)).toNat=0 by omega];exact hi0⟩) ⟨U,U,U,F9⟩ F9 vU fun ⟨m,s⟩=>fun hk=>?_;obtain ⟨hm1,hm2,hinv⟩:=hk;refine bI 7 [] ?_;refine cW (fun hc1=>?_) fun hc1=>?_;refine aI 8 [] ?_;refine aQ (bW T.one23 U sO) ?_;refine aC 1 [] ?_;refine fR (α:=Instr) T.sl23 ?_;refine lL T.agg91 ?_;rotate_left;refine bE 4 [] ?_;rotate_left
 · have hbx:(Qt xs)[((xs.length:Int) - 1 - m).toNat]?=some (m,xs[m.toNat]?.getD default):=by
    rw [Md xs sN];have e1:xs.length - 1 - ((xs.length:Int) - 1 - m).toNat=m.toNat:=sN;rw [e1];have e2:((m.toNat:Nat):Int)=m:=sN;rw [e2]
   refine Ld (A:=[]) 1000 U U U F9 vU U (hY ((xs.length:Int) - 1 - m).toNat _ s hbx hinv) fun vy Gy Hy hly hp=>?_;obtain ⟨rfl,s',rfl,hp⟩:=hp;rcases hp with ⟨rfl,hinv'⟩ | ⟨rfl,hst⟩
   · refine aS 12 [0] ?_;refine IB ((m - 1,s')) ?_ ?_ ⟨U,U,U,F9⟩ F9 vU
     · refine ⟨by omega,by omega,?_⟩;rw [show ((xs.length:Int) - 1 - (m - 1)).toNat=((xs.length:Int) - 1 - m).toNat+1 by omega];exact hinv'
     show (m - 1+1).toNat<(m+1).toNat;omega
   refine aS 9 [1] ?_;refine mT (k:=1000) (.inr U) U vU ⟨U,s',U,.inr hst⟩
 have hm:m=-1:=sN;subst hm;refine mT (k:=1000) (.inl U) U vU ⟨U,s,U,.inl ?_⟩;rw [Da];rw [show ((xs.length:Int) - 1 - -1).toNat=xs.length by omega] at hinv;exact hinv
theorem ef (G:A3) (p:PV) (ac ao:Option Addr) (cc co:Nat) :
 Does Tryz.prog 152 [.agg (H8 p ac cc ao co)] G [] (fun v G' Ho =>
  ∃ b,v=.func (.func 199) #[] #[.pointer (some ⟨b,0,none⟩)]∧Ho=[]∧G' b=some (.cells [.int .i64 p.ins,.int .i64 p.regs,.slice ac p.code.length cc,.slice ao p.outs.length co].toArray 26)):=by
 refine D0 Tryz.func152 Tryz.ntmps152 fun w=>?_;refine aI 2 [] ?_;refine dV 0 fun b1=>?_;refine aL 5 [] ?_;refine aQ (gR U U) ?_;refine aS 4 [] ?_;refine pZ 0 U fun G' hle hb=>?_;refine cV ?_;exact ⟨_,U,U,hb⟩
theorem WU (G:A3) (p:PV) (ac ao:Option Addr) (cc co:Nat) (b:Nat) (hc:Arr G ac p.code) (ho:Arr G ao p.outs) (h1:p.code.length≤1099511627776) (h2:p.outs.length≤1099511627776)
 (hb:G b=some (.cells [.int .i64 p.ins,.int .i64 p.regs,.slice ac p.code.length cc,.slice ao p.outs.length co].toArray 26)) (hR:sP p=true) :
 Jb Tryz.prog 199 [.pointer (some ⟨b,0,none⟩)] G dl (Qt p.code):=by
 intro ι J inv stop ly i0 hi0 hY;have hrow:=Fx hb;have hcode:=BG hb 2 U;refine kA Tryz.func199 U Tryz.ntmps199 U fun w=>?_;refine Jd 1000 ?_;refine aI 2 [] ?_;refine dV 0 fun b1=>?_;refine aL 5 [] ?_;refine aQ (gH T.agg26 U sO U) ?_;refine cI U (dn _ _ _ _ _ _ sO sO sN sN) ?_;refine aQ (fP U) ?_;refine bB 2 [] ?_;refine cW (fun hc1=>?_) fun hc1=>?_;refine bE 2 [] ?_;refine jP (.inr U) ?_;rotate_left;refine aI 5 [] ?_;refine aQ (bW T.one23 U sO) ?_;refine bV 1 U (ll _ _ _ _) fun v1 G1 Ho1 hle1 hp=>?_;obtain ⟨bk1,rfl,rfl,hbk1⟩:=hp;replace hc:=hc.up hle1;replace ho:=ho.up hle1;refine bB 3 [] ?_;rotate_left
 · exact absurd hR hc1
 refine qC (ι:=ι) 900 901 (fun s=>[(0,some b1,.cells #[.func (Go.Fn.yield ly) #[] #[]] 272)]++Hp.shift 1000 (J s)) (fun k s=>inv k s) (fun c s=>c=Code.ret∧stop s) (i0) U T.fn234 (fun _=>rfl) U (lm _ ac cc p.code bk1 hc h1 hbk1) (hi0) (jO ⟨U,F9⟩ vU) ⟨U,fun _=>rB U U⟩ (fun k x s l dd q w0 hx hi=>?_) (fun s dd hi=>?_) fun s dd c hi=>?_
 · refine aI 6 [] ?_;refine aO 902 U T.zero91 fun b2=>?_;refine aS 2 [902] ?_;refine nQ 900 U ?_;refine aI 6 [0,902] ?_;refine Ld (A:=[(900,Option.some l,Go.Sl.C2 q Go.LoopState.busy Option.none),(902,Option.some b2,Go.Obj.cells (List.toArray (Go.Sl.A2.enc (Prod.snd x))) 91),(901,Option.some dd,Go.Obj.deferred (Option.some [])),(0,Option.some b1,Go.Obj.cells #[Go.Value.func (Go.Fn.yield ly) #[] #[]] 272)]) 1000 U U U ⟨U,U,U,U,F9⟩ vU U ((hY k x s hx hi).up hle1) fun vy Gy Hy hly hp=>?_;obtain ⟨rfl,s',rfl,hp⟩:=hp;rcases hp with ⟨rfl,hinv'⟩ | ⟨rfl,hst⟩
   · refine aS 6 [0] ?_;refine gU none (.inl ⟨U,U⟩) 900 U ⟨U,(s',none),U,.inl ⟨U,U,?_⟩⟩ (hS U (hS U (jO ⟨U,F9⟩ vU)));exact hinv'
   refine aS 6 [1] ?_;refine gU (some (.ret)) (.inr (.inl ⟨U,U⟩)) 900 U ⟨U,(s',some (.ret)),U,.inr ⟨U,_,U,?_⟩⟩ (hS U (hS U (jO ⟨U,F9⟩ vU)));exact ⟨U,hst⟩
 · refine eE 1 [] ?_;refine iD (.inl U) 901 U ?_;refine jP (.inr U) ?_;refine kE ?_;refine mT (k:=1000) (.inr U) U vU ⟨U,s,U,.inl hi⟩
 obtain ⟨rfl,hst⟩:=hi;refine bE 2 [] ?_;refine iD (.inr U) 901 U ?_;refine jP (.inr U) ?_;refine kE ?_;refine mT (k:=1000) (.inr U) U vU ⟨U,s,U,.inr hst⟩
theorem ln (G:A3) (p:PV) (ac ao:Option Addr) (cc co:Nat) (hc:Arr G ac p.code) (ho:Arr G ao p.outs) (h1:p.code.length≤1099511627776) (h2:p.outs.length≤1099511627776) (hR:sP p=true) :
 Does Tryz.prog 101 [.agg (H8 p ac cc ao co)] G [] (fun v G' Ho=>∃ b c j,v=.slice b (sV p).length c∧A4 b c (sV p) j∧Ho=[(0,b.map (·.block),Row 4 (sV p) j)]∧G'=G):=by
 obtain ⟨r1,r2,r3,r4,r5,r6,r7,r8⟩:=sT hR;refine kA Tryz.func101 U Tryz.ntmps101 U fun w=>?_;refine aI 2 [] ?_;refine dV 0 fun b1=>?_;refine bB 3 [] ?_;refine mP ?_;refine aI 4 [0] ?_;refine gG (α:=Bool) 1 U T.sl138 T.el4 U U sN sN fun b2=>?_;refine aO 2 U T.zero138 fun b3=>?_;refine bB 13 [2,0] ?_;generalize hR0:List.replicate p.regs.toNat (default:Bool)=R0 at *;have hR0l:(R0.length:Int)=p.regs:=by rw [←hR0,aJ];omega
 refine gX (ι:=Nat×List Bool) (fun (k,xs)=>([(17,.int .i64 (k:Int)),(16,.int .i64 (↑p.outs.length:Int)),(15,.slice ao p.outs.length co),(3,.pointer (some (Addr.mk b3 0 none))),(2,.slice none 0 0),(1,.pointer (some ⟨b1,0,none⟩))],[(2,some b3,.cells #[.slice (some ⟨b2,0,none⟩) xs.length R0.length] 138),(1,some b2,Row 4 xs []),(0,some b1,.cells (H8 p ac cc ao co) 26)])) (fun (k,xs)=>k≤p.outs.length∧xs=vI R0 (p.outs.take k)∧A4 (some ⟨b2,0,none⟩) R0.length xs []) (fun (k,xs)=>p.outs.length - k) ((0,R0)) (⟨aM _,U,fK On⟩) fun ⟨k,xs⟩=>fun hk=>?_;obtain ⟨hk1,hxs,hox⟩:=hk;have hxl:(xs.length:Int)=p.regs:=by rw [hxs,xH];exact hR0l
 rcases aK k p.outs.length with hlt | hge
 · have hr:0≤p.outs[(k:Int).toNat]?.getD default∧p.outs[(k:Int).toNat]?.getD default<xs.length:=by
    rw [hxl];refine r7 _ ?_;rw [aE,aA hlt];simp
   refine aI 13 [1] ?_;refine fR (α:=Int) T.sl24 ?_;refine jC 0 T.one3 ?_;refine aL 6 [2] ?_;refine iE (α:=Bool) T.sl138 ?_;refine dC (z:=_) 1 T.size4 U U U sO sN U fun ho1=>?_;refine aS 7 [] ?_;refine gC 2 (.cells #[.slice (some ⟨b2,0,none⟩) (xs.set (p.outs[(k:Int).toNat]?.getD default).toNat true).length R0.length] 138) U Dy ?_;refine cK ((k+1,_)) ?_ ?_
   · exact ⟨by omega,by rw [Cg _ _ hlt,hxs],ho1⟩
   show p.outs.length - (k+1)<p.outs.length - k;omega
 have hk:k=p.outs.length:=sN;subst hk;rw [aZ] at hxs;clear hk1 hge;refine aI 17 [0,0] ?_;refine gG (α:=Bool) 3 U T.sl138 T.el4 U U sN sN fun b4=>?_;refine aO 4 U T.zero138 fun b5=>?_;refine aL 10 [4,0] ?_;refine bV 5 U (ef _ _ _ _ _ _) fun v1 G1 Ho1 hle1 hp=>?_;obtain ⟨bb1,rfl,rfl,hbb1⟩:=hp;replace hc:=hc.up hle1;replace ho:=ho.up hle1;refine bB 3 [] ?_;generalize hS0:List.replicate ((p.code.length:Int)).toNat (default:Bool)=S0 at *;have hS0l:S0.length=p.code.length:=by rw [←hS0,aJ];omega
 refine qC (ι:=List Bool×List Bool) 900 901 (fun (A,O)=>[(4,some b5,.cells #[.slice (some ⟨b4,0,none⟩) O.length S0.length] 138),(3,some b4,Row 4 O []),(2,some b3,.cells #[.slice (some ⟨b2,0,none⟩) A.length R0.length] 138),(1,some b2,Row 4 A []),(0,some b1,.cells (H8 p ac cc ao co) 26)]) (fun k (A,O)=>(A,O)=zJ p k∧A4 (some ⟨b2,0,none⟩) R0.length A []∧A4 (some ⟨b4,0,none⟩) S0.length O []) (fun c (A,O)=>False) ((xs,S0)) U T.fn199 (fun _=>rfl) U (WU _ p _ _ _ _ _ hc ho sN sN hbb1 hR) (⟨by rw [hxs,←hR0,←hS0];rfl,hox,fK On⟩) (nK ⟨U,U,U,U,U,F9⟩) ⟨U,fun _=>rfl⟩ (fun k x ⟨A,O⟩ l dd q w0 hx hi=>?_) (fun ⟨A,O⟩ dd hi=>?_) fun ⟨A,O⟩ dd c hi=>?_
 · obtain ⟨hn,hoA,hoO⟩:=hi;have hkl:k<p.code.length:=by have:=(bJ.1 hx).1;rw [Da] at this;exact this
   have hxe:x=(((p.code.length - 1 - k:Nat):Int),p.code[p.code.length - 1 - k]?.getD default):=by rw [Md _ hkl] at hx;exact (iW hx).symm
   have hx1:x.1=((p.code.length - 1 - k:Nat):Int):=by rw [hxe]
   have hx2:x.2=p.code[p.code.length - 1 - k]?.getD default:=by rw [hxe]
   clear hxe;have hm:tB x.2 p.regs=true:=by
    rw [hx2];refine r8 _ ?_;rw [aA sN,dZ];exact bT _
   have hAl:(A.length:Int)=p.regs:=by have:=(wM p k).1;rw [←hn] at this;show (A.length:Int)=_;rw [show A.length=p.regs.toNat from this];omega
   have hOl:O.length=p.code.length:=by have:=(wM p k).2;rw [←hn] at this;exact this
   have hto:0≤x.2.to∧x.2.to<A.length:=by rw [hAl];rw [tM] at hm;exact ⟨hm.1.2.2.1,hm.1.2.2.2.1⟩
   have hx1b:0≤x.1∧x.1<O.length:=by rw [hx1,hOl];omega
   have hask:∀ r∈tC x.2,0≤r∧r<A.length:=by rw [hAl];exact Oi hm
   have hst:zJ p (k+1)=xX (A,O) x.1 x.2:=by rw [hx1,hx2,hn];rfl
   have hasks:(tC x.2).length≤2:=by unfold tC;split <;> (try split) <;> simp
   refine aI 6 [] ?_;refine aO 902 U T.zero91 fun b6=>?_;refine aS 2 [902] ?_;refine nQ 900 U ?_;refine aI 7 [2,902] ?_;refine iE (α:=Bool) T.sl138 ?_;refine nA 1 0 T.one4 ?_;refine bB 3 [] ?_;refine lJ U (fun hc1=>?_) fun hc1=>?_;refine bE 3 [] ?_;rotate_left;refine aI 6 [4] ?_;refine iE (α:=Bool) T.sl138 ?_;refine dC (z:=_) 3 T.size4 U U U sO sN U fun ho1=>?_;refine aL 7 [2,902] ?_;refine iE (α:=Bool) T.sl138 ?_;refine dC (z:=_) 1 T.size4 U U U sO sN U fun ho2=>?_;refine aL 5 [902] ?_;refine bV 903 U (IT _ _) fun v2 G2 Ho2 hle2 hp=>?_;obtain ⟨ad2,cd2,junk2,rfl,hoa2,rfl,rfl⟩:=hp;refine bB 5 [] ?_;rotate_left
   · refine gU none (.inl ⟨U,U⟩) 900 U ⟨U,((A,O),none),U,.inl ⟨U,U,?_⟩⟩ (nK ⟨U,U,U,U,U,U,U,F9⟩);refine ⟨?_,hoA,hoO⟩;rw [hst];unfold xX;rw [aD (by simpa using hc1)]
   refine qU 2 (.cells #[.slice (some ⟨b2,0,none⟩) (A.set x.2.to.toNat false).length R0.length] 138) U Dy (qU 4 (.cells #[.slice (some ⟨b4,0,none⟩) (O.set x.1.toNat true).length S0.length] 138) U Dy ?_);refine gX (ι:=Nat×List Bool) (fun (m,B)=>([(49,.int .i64 (m:Int)),(48,.int .i64 (↑(List.length (tC (Prod.snd x))):Int)),(47,.slice ad2 (List.length (tC (Prod.snd x))) cd2),(3,.pointer (some (Addr.mk b3 0 none)))],[(2,some b3,.cells #[.slice (some ⟨b2,0,none⟩) B.length R0.length] 138),(1,some b2,Row 4 B []),(4,some b5,.cells #[.slice (some (Addr.mk b4 0 none)) (List.length (List.set O (Int.toNat (Prod.fst x)) Bool.true)) (List.length S0)] 138),(904,Option.map (fun x=>Go.Addr.block x) ad2,Row (α:=Int) 3 (tC (Prod.snd x)) (junk2)),(3,Option.map (fun x=>Go.Addr.block x) (some (Addr.mk b4 0 none)),Row (α:=Bool) 4 (List.set O (Int.toNat (Prod.fst x)) Bool.true) ([])),(900,some l,Go.Sl.C2 q Go.LoopState.busy none),(902,some b6,.cells (List.toArray (A2.enc (Prod.snd x))) 91),(901,some dd,Go.Obj.deferred (some [])),(0,some b1,.cells (H8 p ac cc ao co) 26)])) (fun (m,B)=>m≤(tC x.2).length∧B=vI (A.set x.2.to.toNat false) ((tC x.2).take m)∧A4 (some ⟨b2,0,none⟩) R0.length B []) (fun (m,B)=>(tC x.2).length - m) ((0,A.set x.2.to.toNat false)) (⟨aM _,U,ho2⟩) fun ⟨m,B⟩=>fun hk=>?_;obtain ⟨hm1,hB,hoB⟩:=hk;have hBl:B.length=A.length:=by rw [hB,xH,aG]
   rcases aK m (tC x.2).length with hlt | hge
   · have hr:0≤(tC x.2)[(m:Int).toNat]?.getD default∧(tC x.2)[(m:Int).toNat]?.getD default<B.length:=by
      rw [hBl];refine hask _ ?_;rw [aE,aA hlt];simp
     refine aI 13 [1] ?_;refine iE (α:=Int) T.sl24 ?_;refine nA 904 0 T.one3 ?_;refine aL 6 [2] ?_;refine iE (α:=Bool) T.sl138 ?_;refine dC (z:=_) 1 T.size4 U U U sO sN U fun ho3=>?_;refine aS 7 [] ?_;refine gC 2 (.cells #[.slice (some ⟨b2,0,none⟩) (B.set ((tC x.2)[(m:Int).toNat]?.getD default).toNat true).length R0.length] 138) U Dy ?_;refine cK ((m+1,_)) ?_ ?_
     · exact ⟨by omega,by rw [Cg _ _ hlt,hB],ho3⟩
     show (tC x.2).length - (m+1)<(tC x.2).length - m;omega
   have hm:m=(tC x.2).length:=sN;subst hm;rw [aZ] at hB;refine bE 12 [0] ?_;refine gU none (.inl ⟨U,U⟩) 900 U ⟨U,((B,O.set x.1.toNat true),none),U,.inl ⟨U,U,?_⟩⟩ (nK ⟨U,U,U,U,U,U,U,F9⟩);refine ⟨?_,hoB,ho1⟩;rw [hst];unfold xX;rw [aF (by simpa using hc1),hB]
 · obtain ⟨hn,hoA,hoO⟩:=hi;rw [Da] at hn;have hO:O=sV p:=congrArg Prod.snd hn;subst hO;refine eE 9 [4] ?_;refine jK ?_;refine iD (.inr U) 901 U ?_;refine jP (.inr U) ?_;refine kE (mK [3] sY (cH (.inr U) U (.tmp U) (mD 0 _) ?_));exact ⟨_,_,_,U,hoO,U,U⟩
 exact hi.elim
theorem lu (G:A3) (i:Sl.Instr):Does Tryz.prog 102 [.agg (A2.enc i).toArray] G [] (fun v G' Ho=>v=.bool (decide (i.op=1∧i.to=i.a))∧G'=G∧Ho=[]):=by
 refine D0 Tryz.func102 Tryz.ntmps102 fun w=>?_;refine aI 2 [] ?_;refine dV 0 fun b1=>?_;refine aL 9 [0] ?_;apply bX 6 6 12 U;intro hg1;refine aC 11 [0,0] ?_;exact dB 6 0;intro hg1;refine aC 6 [] ?_;exact dB 6 0;refine aS 4 [] ?_;refine cV ?_;exact ⟨U,U,U⟩
theorem lx (G:A3) (p:PV) (ac ao:Option Addr) (cc co:Nat) (hc:Arr G ac p.code) (ho:Arr G ao p.outs) (h1:p.code.length≤1099511627776) (h2:p.outs.length≤1099511627776) (hR:sP p=true) :
 Does Tryz.prog 49 [.agg (H8 p ac cc ao co)] G [] (fun v G' Ho =>
  ∃ bc bo dc do_ j1 j2,v=.tuple #[.agg #[.int .i64 p.ins,.int .i64 p.regs,.slice bc (Aj p).code.length dc,.slice bo p.outs.length do_],.int .i64 0]∧
   A4 bc dc (Aj p).code j1∧A4 bo do_ p.outs j2∧Ho=[(0,bc.map (·.block),Row 91 (Aj p).code j1),(1,bo.map (·.block),Row 3 p.outs j2)]∧G'=G):=by
 obtain ⟨r1,r2,r3,r4,r5,r6,r7,r8⟩:=sT hR;have hcheck:(uK p).2=false:=by simpa [sP] using hR
 refine D0 Tryz.func49 Tryz.ntmps49 fun w=>?_;refine eJ 0 (Row 91 ([]:List Sl.Instr) []) ?_;refine aI 2 [] ?_;refine dV 1 fun b1=>?_;refine aO 2 U T.zero26 fun b2=>?_;refine aL 6 [1] ?_;refine cI U (ZM _ _ _ _ _ _ sO sO sN sN) ?_;refine bB 14 [] ?_;refine cW (fun hc1=>?_) fun hc1=>?_;refine aI 2 [] ?_;refine aQ (bP (cs:=[_,_,_,_]) T.st26 U U U) ?_;refine aS 7 [2] ?_;rotate_left;refine aI 11 [1] ?_;refine bV 3 U (ln _ _ _ _ _ _ sO sO sN sN sO) fun v1 G1 Ho1 hle1 hp=>?_;obtain ⟨nb1,nc1,nj1,rfl,hnb1,rfl,rfl⟩:=hp;refine bB 5 [] ?_;rotate_left
 · rw [hcheck] at hc1;exact absurd U hc1
 have hnl:(sV p).length=p.code.length:=(wM p _).2;refine fT (ι:=Nat×List Sl.Instr×(Option Addr×Nat×List Value)) (fun (k,xs,(b,d,j))=>([(21,.int .i64 (k:Int)),(6,.slice b xs.length d),(20,.int .i64 (↑(List.length (sV p)):Int)),(19,.slice nb1 (List.length (sV p)) nc1),(3,.int .i64 0),(2,.pointer (some ⟨b2,0,none⟩)),(1,.pointer (some ⟨b1,0,none⟩))],[(0,b.map (·.block),Row 91 xs j),(3,Option.map (fun x=>Go.Addr.block x) nb1,Row (α:=Bool) 4 (sV p) (nj1)),(2,some b2,.cells #[.int .i64 0,.int .i64 0,.slice none 0 0,.slice none 0 0] 26),(1,some b1,.cells (H8 p ac cc ao co) 26)])) (fun (k,xs,(b,d,j))=>k≤p.code.length∧xs=vT p k∧A4 b d xs j) (fun (k,xs,(b,d,j))=>p.code.length - k) ((0,[],(none,0,[]))) (⟨aM _,U,eG⟩) ⟨U,U,U,U,U,U,U,F9⟩ ⟨U,U,U,U,F9⟩ fun ⟨k,xs,(b,d,j)⟩=>fun hk=>?_;obtain ⟨hk1,hxs,hob⟩:=hk;have hxl:xs.length≤k:=by rw [hxs];exact Ih p k
 rcases aK k p.code.length with hlt | hge
 · have hst:vT p (k+1)=if (sV p)[(k:Int).toNat]?.getD default=true∧¬((p.code[(k:Int).toNat]?.getD default).op=1∧(p.code[(k:Int).toNat]?.getD default).to=(p.code[(k:Int).toNat]?.getD default).a)
    then vT p k++[p.code[((k:Nat):Int).toNat]?.getD default] else vT p k:=rfl
   refine aI 14 [1] ?_;refine iE (α:=Bool) T.sl138 ?_;refine nA 3 0 T.one4 ?_;refine aL 8 [] ?_;refine Tf 27 U (fun hg1=>?_) fun hg1=>?_;refine aC 7 [1] ?_;refine fR (α:=Instr) T.sl23 ?_;refine aC 1 [] ?_;refine lL T.agg91 ?_;refine aC 1 [] ?_;refine cI U (lu _ _) ?_;refine aC 1 [] ?_;refine aQ (fP U) ?_;refine bB 3 [] ?_;refine cW (fun hc2=>?_) fun hc2=>?_;refine aI 5 [1] ?_;refine fR (α:=Instr) T.sl23 ?_;refine lL T.agg91 ?_;refine cZ (α:=Instr) 4 [(Option.getD p.code[Int.toNat (↑k:Int)]? Inhabited.default)] U T.sl23 T.el91 U U U U U fun b3=>?_;refine kH (α:=Instr) 0 T.sl23 T.el91 (dT 4 U) fun a1 c1 junk1 ho1=>?_;refine aS 8 [] ?_;rotate_left;refine bE 7 [] ?_;rotate_left;refine aS 18 [0] ?_;rotate_left
   · refine cK ((k+1,_,(a1,c1,junk1))) ?_ ?_
     · exact ⟨by omega,by rw [hst,aF ⟨hg1,hc2⟩,hxs],ho1⟩
     show p.code.length - (k+1)<p.code.length - k;omega
   · refine cK ((k+1,xs,(b,d,j))) ?_ ?_
     · exact ⟨by omega,by rw [hst,aD (fun h=>hc2 h.2),hxs],hob⟩
     show p.code.length - (k+1)<p.code.length - k;omega
   refine cK ((k+1,xs,(b,d,j))) ?_ ?_
   · exact ⟨by omega,by rw [hst,aD (fun h=>by rw [hg1] at h;cases h.1),hxs],hob⟩
   show p.code.length - (k+1)<p.code.length - k;omega
 have hk:k=p.code.length:=sN;subst hk;have hxs':xs=(Aj p).code:=hxs;rw [hxs'] at hob ⊢;refine bI 13 [0] ?_;refine dE [1,2,3,0] [(2,9)] T.mixed [[0],[1,1],[2],[3,1],[4],[5],[6,1]] ?_;refine bQ 7 ?_;refine bV 4 U (YR _ _ _ _ sO sN) fun v2 G2 Ho2 hle2 hp=>?_;obtain ⟨lb2,ld2,lj2,rfl,hlb2,rfl,rfl⟩:=hp;refine bC ?_;refine dW 8 [] U (bP (cs:=[_,_,_,_]) T.st26 U U U) ?_;refine bQ 9 ?_;refine aC 1 [2] ?_;refine bC ?_;refine dK [[10]] ?_;refine dG ?_;refine eE 2 [] ?_;refine mK [0,4,2] sY (gZ (.inr U) (Ho:=Hp.only _ [0,1]) U (.agg 2 U U T.agg26) (.tmp U) (aV _ _) ?_);exact ⟨_,_,_,_,_,_,U,hob,hlb2,U,U⟩
section
attribute [local irreducible] No pw uJ p2 xW tR tE sP
end
theorem mc (G:A3) (p:PV) (ac ao:Option Addr) (cc co:Nat) (hc:Arr G ac p.code) (ho:Arr G ao p.outs) (h1:p.code.length≤1099511627776) (h2:p.outs.length≤1099511627776) (hR:sP p=true) :
 Does Tryz.prog 141 [.agg (H8 p ac cc ao co)] G [] (fun v G' Ho=>∃ b c j,v=.tuple #[.slice b (sV p).length c,.int .i64 0]∧A4 b c (sV p) j∧Ho=[(0,b.map (·.block),Row 4 (sV p) j)]∧G'=G):=by
 obtain ⟨r1,r2,r3,r4,r5,r6,r7,r8⟩:=sT hR;refine kA Tryz.func141 U Tryz.ntmps141 U fun w=>?_;refine aI 2 [] ?_;refine dV 0 fun b1=>?_;refine aL 8 [0] ?_;refine cI U (dn _ _ _ _ _ _ sO sO sN sN) ?_;refine aQ (fP U) ?_;refine bB 2 [] ?_;refine cW (fun hc1=>?_) fun hc1=>?_;refine bE 8 [] ?_;refine jP (.inr U) ?_;rotate_left;refine aI 7 [0] ?_;refine gG (α:=Bool) 1 U T.sl138 T.el4 U U sN sN fun b2=>?_;refine aO 2 U T.zero138 fun b3=>?_;refine aL 7 [2,0] ?_;refine gG (α:=Bool) 3 U T.sl138 T.el4 U U sN sN fun b4=>?_;refine aO 4 U T.zero138 fun b5=>?_;refine bB 13 [4,0] ?_;rotate_left
 · exact absurd hR hc1
 generalize hR0:List.replicate p.regs.toNat (default:Bool)=R0 at *;have hR0l:(R0.length:Int)=p.regs:=by rw [←hR0,aJ];omega
 generalize hS0:List.replicate ((p.code.length:Int)).toNat (default:Bool)=S0 at *;have hS0l:S0.length=p.code.length:=by rw [←hS0,aJ];omega
 refine gX (ι:=Nat×List Bool) (fun (k,xs)=>([(25,.int .i64 (k:Int)),(24,.int .i64 (↑p.outs.length:Int)),(23,.slice ao p.outs.length co),(5,.pointer (some (Addr.mk b5 0 none))),(4,.pointer (some (Addr.mk b3 0 none))),(3,.int .i64 0),(2,.slice none 0 0),(1,.pointer (some ⟨b1,0,none⟩))],[(4,some b5,.cells #[.slice (some ⟨b4,0,none⟩) xs.length R0.length] 138),(3,some b4,Row 4 xs []),(2,some b3,.cells (List.toArray (List.set [.slice none 0 0] 0 (.slice (some (Addr.mk b2 0 none)) (List.length S0) (List.length S0)))) 138),(1,some b2,Row (α:=Bool) 4 (S0) ([])),(0,some b1,.cells (H8 p ac cc ao co) 26)])) (fun (k,xs)=>k≤p.outs.length∧xs=vI R0 (p.outs.take k)∧A4 (some ⟨b4,0,none⟩) R0.length xs []) (fun (k,xs)=>p.outs.length - k) ((0,R0)) (⟨aM _,U,fK On⟩) fun ⟨k,xs⟩=>fun hk=>?_;obtain ⟨hk1,hxs,hox⟩:=hk;have hxl:(xs.length:Int)=p.regs:=by rw [hxs,xH];exact hR0l
 rcases aK k p.outs.length with hlt | hge
 · have hr:0≤p.outs[(k:Int).toNat]?.getD default∧p.outs[(k:Int).toNat]?.getD default<xs.length:=by
    rw [hxl];refine r7 _ ?_;rw [aE,aA hlt];simp
   refine aI 13 [1] ?_;refine fR (α:=Int) T.sl24 ?_;refine jC 0 T.one3 ?_;refine aL 6 [4] ?_;refine iE (α:=Bool) T.sl138 ?_;refine dC (z:=_) 3 T.size4 U U U sO sN U fun ho1=>?_;refine aS 7 [] ?_;refine gC 4 (.cells #[.slice (some ⟨b4,0,none⟩) (xs.set (p.outs[(k:Int).toNat]?.getD default).toNat true).length R0.length] 138) U Dy ?_;refine cK ((k+1,_)) ?_ ?_
   · exact ⟨by omega,by rw [Cg _ _ hlt,hxs],ho1⟩
   show p.outs.length - (k+1)<p.outs.length - k;omega
 have hk:k=p.outs.length:=sN;subst hk;rw [aZ] at hxs;clear hk1 hge;refine aI 16 [0,0] ?_;refine bV 5 U (ef _ _ _ _ _ _) fun v1 G1 Ho1 hle1 hp=>?_;obtain ⟨bb1,rfl,rfl,hbb1⟩:=hp;replace hc:=hc.up hle1;replace ho:=ho.up hle1;refine bB 3 [] ?_;refine qC (ι:=List Bool×List Bool) 900 901 (fun (A,O)=>[(2,some b3,.cells #[.slice (some ⟨b2,0,none⟩) O.length S0.length] 138),(1,some b2,Row 4 O []),(4,some b5,.cells #[.slice (some ⟨b4,0,none⟩) A.length R0.length] 138),(3,some b4,Row 4 A []),(0,some b1,.cells (H8 p ac cc ao co) 26)]) (fun k (A,O)=>(A,O)=zJ p k∧A4 (some ⟨b4,0,none⟩) R0.length A []∧A4 (some ⟨b2,0,none⟩) S0.length O []) (fun c (A,O)=>False) ((xs,S0)) U T.fn199 (fun _=>rfl) U (WU _ p _ _ _ _ _ hc ho sN sN hbb1 hR) (⟨by rw [hxs,←hR0,←hS0];rfl,hox,fK On⟩) (nK ⟨U,U,U,U,U,F9⟩) ⟨U,fun _=>rfl⟩ (fun k x ⟨A,O⟩ l dd q w0 hx hi=>?_) (fun ⟨A,O⟩ dd hi=>?_) fun ⟨A,O⟩ dd c hi=>?_
 · obtain ⟨hn,hoA,hoO⟩:=hi;have hkl:k<p.code.length:=by have:=(bJ.1 hx).1;rw [Da] at this;exact this
   have hxe:x=(((p.code.length - 1 - k:Nat):Int),p.code[p.code.length - 1 - k]?.getD default):=by rw [Md _ hkl] at hx;exact (iW hx).symm
   have hx1:x.1=((p.code.length - 1 - k:Nat):Int):=by rw [hxe]
   have hx2:x.2=p.code[p.code.length - 1 - k]?.getD default:=by rw [hxe]
   clear hxe;have hm:tB x.2 p.regs=true:=by
    rw [hx2];refine r8 _ ?_;rw [aA sN,dZ];exact bT _
   have hAl:(A.length:Int)=p.regs:=by have:=(wM p k).1;rw [←hn] at this;show (A.length:Int)=_;rw [show A.length=p.regs.toNat from this];omega
   have hOl:O.length=p.code.length:=by have:=(wM p k).2;rw [←hn] at this;exact this
   have hto:0≤x.2.to∧x.2.to<A.length:=by rw [hAl];rw [tM] at hm;exact ⟨hm.1.2.2.1,hm.1.2.2.2.1⟩
   have hx1b:0≤x.1∧x.1<O.length:=by rw [hx1,hOl];omega
   have hask:∀ r∈tC x.2,0≤r∧r<A.length:=by rw [hAl];exact Oi hm
   have hst:zJ p (k+1)=xX (A,O) x.1 x.2:=by rw [hx1,hx2,hn];rfl
   have hasks:(tC x.2).length≤2:=by unfold tC;split <;> (try split) <;> simp
   refine aI 6 [] ?_;refine aO 902 U T.zero91 fun b6=>?_;refine aS 2 [902] ?_;refine nQ 900 U ?_;refine aI 7 [4,902] ?_;refine iE (α:=Bool) T.sl138 ?_;refine nA 3 0 T.one4 ?_;refine bB 3 [] ?_;refine lJ U (fun hc2=>?_) fun hc2=>?_;refine bE 3 [] ?_;rotate_left;refine bI 3 [] ?_;refine dE [0,3,4,1,2,901,902,900] [(900,8),(902,8),(901,8),(2,8),(1,8),(4,8),(3,8),(0,8),(900,6),(902,6),(901,6),(2,6),(1,6),(4,6),(3,6),(0,6)] T.mixed [[0,2],[1],[3]] ?_;refine fJ (α:=Bool) 5 T.sl138 ?_;refine Gm.o3 2 4 6 ?_ ?_ ?_;refine aC 1 [4] ?_;refine bC ?_;refine oG 4 6 ?_ ?_;refine aC 1 [902] ?_;refine cS 6 ?_;refine dC (z:=_) 1 T.size4 U U U sO sN U fun ho1=>?_;refine bC ?_;refine fJ (α:=Bool) 7 T.sl138 ?_;refine bQ 8 ?_;refine dC (z:=_) 3 T.size4 U U U sO sN U fun ho2=>?_;refine fD ?_;refine lQ 4 [902] ?_;refine bV 903 U (IT _ _) fun v2 G2 Ho2 hle2 hp=>?_;obtain ⟨ad2,cd2,junk2,rfl,hoa2,rfl,rfl⟩:=hp;refine bB 5 [] ?_;rotate_left;refine dC (z:=_) 1 T.size4 U U U sO sN U fun ho1=>?_;refine cS 4 ?_;refine aC 1 [902] ?_;refine bC ?_;refine fJ (α:=Bool) 7 T.sl138 ?_;refine bQ 8 ?_;refine dC (z:=_) 3 T.size4 U U U sO sN U fun ho2=>?_;refine fD ?_;refine lQ 4 [902] ?_;refine bV 903 U (IT _ _) fun v2 G2 Ho2 hle2 hp=>?_;obtain ⟨ad2,cd2,junk2,rfl,hoa2,rfl,rfl⟩:=hp;refine bB 5 [] ?_;rotate_left;refine aC 1 [902] ?_;refine bC ?_;refine oG 2 6 ?_ ?_;refine aC 1 [4] ?_;refine cS 6 ?_;refine dC (z:=_) 1 T.size4 U U U sO sN U fun ho1=>?_;refine bC ?_;refine fJ (α:=Bool) 7 T.sl138 ?_;refine bQ 8 ?_;refine dC (z:=_) 3 T.size4 U U U sO sN U fun ho2=>?_;refine fD ?_;refine lQ 4 [902] ?_;refine bV 903 U (IT _ _) fun v2 G2 Ho2 hle2 hp=>?_;obtain ⟨ad2,cd2,junk2,rfl,hoa2,rfl,rfl⟩:=hp;refine bB 5 [] ?_;rotate_left;refine dC (z:=_) 1 T.size4 U U U sO sN U fun ho1=>?_;refine cS 2 ?_;refine aC 1 [4] ?_;refine bC ?_;refine fJ (α:=Bool) 7 T.sl138 ?_;refine bQ 8 ?_;refine dC (z:=_) 3 T.size4 U U U sO sN U fun ho2=>?_;refine fD ?_;refine lQ 4 [902] ?_;refine bV 903 U (IT _ _) fun v2 G2 Ho2 hle2 hp=>?_;obtain ⟨ad2,cd2,junk2,rfl,hoa2,rfl,rfl⟩:=hp;refine bB 5 [] ?_;rotate_left;refine dC (z:=_) 1 T.size4 U U U sO sN U fun ho1=>?_;refine bC ?_;refine oG 2 4 ?_ ?_;refine aC 1 [4] ?_;refine cS 4 ?_;refine aC 1 [902] ?_;refine bC ?_;refine fJ (α:=Bool) 7 T.sl138 ?_;refine bQ 8 ?_;refine dC (z:=_) 3 T.size4 U U U sO sN U fun ho2=>?_;refine fD ?_;refine lQ 4 [902] ?_;refine bV 903 U (IT _ _) fun v2 G2 Ho2 hle2 hp=>?_;obtain ⟨ad2,cd2,junk2,rfl,hoa2,rfl,rfl⟩:=hp;refine bB 5 [] ?_;rotate_left;refine aC 1 [902] ?_;refine cS 2 ?_;refine aC 1 [4] ?_;refine bC ?_;refine fJ (α:=Bool) 7 T.sl138 ?_;refine bQ 8 ?_;refine dC (z:=_) 3 T.size4 U U U sO sN U fun ho2=>?_;refine fD ?_;refine lQ 4 [902] ?_;refine bV 903 U (IT _ _) fun v2 G2 Ho2 hle2 hp=>?_;obtain ⟨ad2,cd2,junk2,rfl,hoa2,rfl,rfl⟩:=hp;refine bB 5 [] ?_;rotate_left
   · refine gU none (.inl ⟨U,U⟩) 900 U ⟨U,((A,O),none),U,.inl ⟨U,U,?_⟩⟩ (nK ⟨U,U,U,U,U,U,U,F9⟩);refine ⟨?_,hoA,hoO⟩;rw [hst];unfold xX;rw [aD (by simpa using hc2)]
   all_goals
    have hoO':A4 (some ⟨b2,0,none⟩) S0.length (O.set x.1.toNat true) []:=by assumption
    have hoA':A4 (some ⟨b4,0,none⟩) R0.length (A.set x.2.to.toNat false) []:=by assumption
    refine qU 4 (.cells #[.slice (some ⟨b4,0,none⟩) (A.set x.2.to.toNat false).length R0.length] 138) U Dy (qU 2 (.cells #[.slice (some ⟨b2,0,none⟩) (O.set x.1.toNat true).length S0.length] 138) U Dy ?_);refine gX (ι:=Nat×List Bool) (fun (m,B)=>([(53,.int .i64 (m:Int)),(52,.int .i64 (↑(List.length (tC (Prod.snd x))):Int)),(51,.slice ad2 (List.length (tC (Prod.snd x))) cd2),(5,.pointer (some (Addr.mk b5 0 none)))],[(4,some b5,.cells #[.slice (some ⟨b4,0,none⟩) B.length R0.length] 138),(3,some b4,Row 4 B []),(2,some b3,.cells #[.slice (some (Addr.mk b2 0 none)) (List.length (List.set O (Int.toNat (Prod.fst x)) Bool.true)) (List.length S0)] 138),(904,Option.map (fun x=>Go.Addr.block x) ad2,Row (α:=Int) 3 (tC (Prod.snd x)) (junk2)),(1,Option.map (fun x=>Go.Addr.block x) (some (Addr.mk b2 0 none)),Row (α:=Bool) 4 (List.set O (Int.toNat (Prod.fst x)) Bool.true) ([])),(900,some l,Go.Sl.C2 q Go.LoopState.busy none),(902,some b6,.cells (List.toArray (A2.enc (Prod.snd x))) 91),(901,some dd,Go.Obj.deferred (some [])),(0,some b1,.cells (H8 p ac cc ao co) 26)])) (fun (m,B)=>m≤(tC x.2).length∧B=vI (A.set x.2.to.toNat false) ((tC x.2).take m)∧A4 (some ⟨b4,0,none⟩) R0.length B []) (fun (m,B)=>(tC x.2).length - m) ((0,A.set x.2.to.toNat false)) (⟨aM _,U,hoA'⟩) fun ⟨m,B⟩=>fun hk=>?_;obtain ⟨hm1,hB,hoB⟩:=hk;have hBl:B.length=A.length:=by rw [hB,xH,aG]
    rcases aK m (tC x.2).length with hlt | hge
    · have hr:0≤(tC x.2)[(m:Int).toNat]?.getD default∧(tC x.2)[(m:Int).toNat]?.getD default<B.length:=by
       rw [hBl];refine hask _ ?_;rw [aE,aA hlt];simp
      refine aI 13 [1] ?_;refine iE (α:=Int) T.sl24 ?_;refine nA 904 0 T.one3 ?_;refine aL 6 [4] ?_;refine iE (α:=Bool) T.sl138 ?_;refine dC (z:=_) 3 T.size4 U U U sO sN U fun ho3=>?_;refine aS 7 [] ?_;refine gC 4 (.cells #[.slice (some ⟨b4,0,none⟩) (B.set ((tC x.2)[(m:Int).toNat]?.getD default).toNat true).length R0.length] 138) U Dy ?_;refine cK ((m+1,_)) ?_ ?_
      · exact ⟨by omega,by rw [Cg _ _ hlt,hB],by assumption⟩
      show (tC x.2).length - (m+1)<(tC x.2).length - m;omega
    have hm:m=(tC x.2).length:=sN;subst hm;rw [aZ] at hB;refine bE 12 [0] ?_;refine gU none (.inl ⟨U,U⟩) 900 U ⟨U,((B,O.set x.1.toNat true),none),U,.inl ⟨U,U,?_⟩⟩ (nK ⟨U,U,U,U,U,U,U,F9⟩);refine ⟨?_,hoB,hoO'⟩;rw [hst];unfold xX;rw [aF (by simpa using hc2),hB]
 · obtain ⟨hn,hoA,hoO⟩:=hi;rw [Da] at hn;have hO:O=sV p:=congrArg Prod.snd hn;subst hO;refine eE 10 [2] ?_;refine iD (.inr U) 901 U ?_;refine jP (.inr U) ?_;refine kE (mK [1] sY (gZ (.inr U) U (.tmp U) (.tmp U) (mD 0 _) ?_));exact ⟨_,_,_,U,hoO,U,U⟩
 exact hi.elim
structure Life where
 a:List Int
 b:List Int
 sets:List Int
 outs:List Int
 till:List Int
 held:List Int
def vX (p:PV) (k:Nat):Sl.Instr:=p.code[((k:Nat):Int).toNat]?.getD default
def yA (p:PV) (k:Nat):Bool:=(sV p)[((k:Nat):Int).toNat]?.getD default
def vA (l:Life) (i:Sl.Instr):Int:=l.held[i.a.toNat]?.getD default
def vB (l:Life) (i:Sl.Instr):Int:=if 1<(tC i).length then l.held[i.b.toNat]?.getD default else vA l i
def uT (l:Life) (k:Nat) (i:Sl.Instr):Life:=
 ⟨l.a.set k (vA l i),l.b.set k (vB l i),l.sets.set k l.till.length,l.outs,((l.till.set (vA l i).toNat k).set (vB l i).toNat k)++[-1],l.held.set i.to.toNat l.till.length⟩
def vY (p:PV):Life:=
 ⟨List.replicate p.code.length 0,List.replicate p.code.length 0,List.replicate p.code.length 0,[],List.replicate (p.ins.toNat+1) (-1),(List.range p.regs.toNat).map fun (r:Nat)=>min (r:Int) p.ins⟩
def tA (p:PV):Nat→Life
 | 0=>vY p
 | k+1=>if yA p k=true then uT (tA p k) k (vX p k) else tA p k
def Ds (p:PV) (l:Life) (r:Int):Life:=
 { l with outs:=l.outs++[l.held[r.toNat]?.getD default],till:=l.till.set (l.held[r.toNat]?.getD default).toNat p.code.length }
def vF (p:PV):Nat→Life
 | 0=>tA p p.code.length
 | j+1=>Ds p (vF p j) (p.outs[((j:Nat):Int).toNat]?.getD default)
def lifeP (p:PV):Life:=vF p p.outs.length
structure C8 (p:PV) (k:Nat) (l:Life):Prop where
 al:l.a.length=p.code.length
 bl:l.b.length=p.code.length
 sl:l.sets.length=p.code.length
 hl:(l.held.length:Int)=p.regs
 t0:p.ins+1≤l.till.length
 t1:(l.till.length:Int)≤p.ins+1+k
 hb:∀ v∈l.held,0≤v∧v<l.till.length
 ab:∀ v∈l.a,0≤v∧v<l.till.length
 bb:∀ v∈l.b,0≤v∧v<l.till.length
 sb:∀ v∈l.sets,0≤v∧v<l.till.length
 ob:∀ v∈l.outs,0≤v∧v<l.till.length
theorem QC {p:PV} {k:Nat} {l:Life} {i:Sl.Instr} (h:C8 p k l) (hm:tB i p.regs=true):0≤vA l i∧vA l i<l.till.length:=by
 have h1:=(tK hm).2.2.1;exact h.hb _ (get_mem (by rw [h.hl];exact h1))
theorem Me {i:Sl.Instr} (h:1<(tC i).length):i.op=3∨i.op=4:=by
 unfold tC at h;split at h
 · assumption
 split at h <;> simp at h
theorem zQ (i:Sl.Instr):1<(tC i).length↔i.op=3∨i.op=4:=⟨Me,fun h=>by unfold tC;rw [aF h];simp⟩
theorem QD {p:PV} {k:Nat} {l:Life} {i:Sl.Instr} (h:C8 p k l) (hm:tB i p.regs=true):0≤vB l i∧vB l i<l.till.length:=by
 unfold vB;split
 · rename_i h2;have h1:=(tK hm).2.2.2.1 (Me h2);exact h.hb _ (get_mem (by rw [h.hl];exact h1))
 exact QC h hm
theorem QE {p:PV} (h:1≤p.ins∧p.ins≤p.regs):C8 p 0 (vY p):=by
 have ht:(vY p).till.length=p.ins.toNat+1:=aJ;refine ⟨aJ,aJ,aJ,?_,by rw [ht];omega,by rw [ht];omega,?_,?_,?_,?_,?_⟩
 · show (((List.range p.regs.toNat).map _).length:Int)=p.regs;rw [aN,cC];omega
 · intro v hv;obtain ⟨r,hr,rfl⟩:=dL.1 (show v∈(List.range p.regs.toNat).map _ from hv);rw [ht];omega
 all_goals intro v hv
 · rw [jB (show v∈List.replicate _ _ from hv),ht];omega
 · rw [jB (show v∈List.replicate _ _ from hv),ht];omega
 · rw [jB (show v∈List.replicate _ _ from hv),ht];omega
 cases hv
theorem Cm (l:Life) (k:Nat) (i:Sl.Instr):(uT l k i).till.length=l.till.length+1:=by
 show (((l.till.set _ _).set _ _)++[-1]).length=_;rw [aB,aG,aG];rfl
theorem BR {p:PV} {k:Nat} {l:Life} {i:Sl.Instr} (h:C8 p k l) (hm:tB i p.regs=true):C8 p (k+1) (uT l k i):=by
 have ha:=QC h hm;have hb:=QD h hm;have ht:=Cm l k i;have h0:=h.t0;have h1:=h.t1;refine ⟨by show (l.a.set _ _).length=_;rw [aG];exact h.al,by show (l.b.set _ _).length=_;rw [aG];exact h.bl,by show (l.sets.set _ _).length=_;rw [aG];exact h.sl,by show ((l.held.set _ _).length:Int)=_;rw [aG];exact h.hl,by rw [ht];omega,by rw [ht];omega,?_,?_,?_,?_,?_⟩;all_goals intro v hv;rw [ht]
 · rcases fC (show v∈l.held.set _ _ from hv) with h2 | h2
   · have:=h.hb v h2;omega
   omega
 · rcases fC (show v∈l.a.set _ _ from hv) with h2 | h2
   · have:=h.ab v h2;omega
   omega
 · rcases fC (show v∈l.b.set _ _ from hv) with h2 | h2
   · have:=h.bb v h2;omega
   omega
 · rcases fC (show v∈l.sets.set _ _ from hv) with h2 | h2
   · have:=h.sb v h2;omega
   omega
 have:=h.ob v hv;omega
theorem C8.next {p:PV} {k:Nat} {l:Life} (h:C8 p k l):C8 p (k+1) l:=⟨h.al,h.bl,h.sl,h.hl,h.t0,by have:=h.t1;omega,h.hb,h.ab,h.bb,h.sb,h.ob⟩
theorem vZ {p:PV} (hR:sP p=true) {k:Nat} (hk:k<p.code.length):tB (vX p k) p.regs=true:=by
 refine (sT hR).2.2.2.2.2.2.2 _ ?_;unfold vX;rw [aE,aA hk];exact bT hk
theorem xO {p:PV} (hR:sP p=true):∀ k,k≤p.code.length→C8 p k (tA p k)
 | 0,_=>QE ⟨(sT hR).1,(sT hR).2.1⟩
 | k+1,hk=>by
   have ih:=xO hR k sN;unfold tA;split
   · exact BR ih (vZ hR sN)
   exact ih.next
theorem EM {p:PV} {k:Nat} {l:Life} {r:Int} (h:C8 p k l) (hr:0≤r∧r<p.regs):C8 p k (Ds p l r):=by
 have ht:(Ds p l r).till.length=l.till.length:=aG;have hv:=h.hb _ (get_mem (r:=r) (by rw [h.hl];exact hr));refine ⟨h.al,h.bl,h.sl,h.hl,by rw [ht];exact h.t0,by rw [ht];exact h.t1,?_,?_,?_,?_,?_⟩;all_goals intro v hv2;rw [ht]
 · exact h.hb v hv2
 · exact h.ab v hv2
 · exact h.bb v hv2
 · exact h.sb v hv2
 rcases iA.1 (show v∈l.outs++[_] from hv2) with h2 | h2
 · exact h.ob v h2
 rw [eT.1 h2];exact hv
theorem Gf {p:PV} (hR:sP p=true) {j:Nat} (hj:j<p.outs.length):0≤p.outs[((j:Nat):Int).toNat]?.getD default∧p.outs[((j:Nat):Int).toNat]?.getD default<p.regs:=by
 refine (sT hR).2.2.2.2.2.2.1 _ ?_;rw [aE,aA hj];exact bT hj
theorem Rj {p:PV} (hR:sP p=true):∀ j,j≤p.outs.length→C8 p p.code.length (vF p j)
 | 0,_=>xO hR _ (aH _)
 | j+1,hj=>EM (Rj hR j sN) (Gf hR sN)
theorem QF {p:PV} (hR:sP p=true):C8 p p.code.length (lifeP p):=Rj hR _ (aH _)
theorem Mf (p:PV):∀ j,(vF p j).outs.length=(tA p p.code.length).outs.length+j
 | 0=>rfl
 | j+1=>by show (_++[_]).length=_;rw [aB,Mf p j];rfl
theorem zZ (p:PV):∀ k,(tA p k).outs=[]
 | 0=>rfl
 | k+1=>by
   unfold tA;split
   · exact zZ p k
   exact zZ p k
theorem Dt (p:PV):(lifeP p).outs.length=p.outs.length:=by unfold lifeP;rw [Mf,zZ];exact cR _
structure Pl where
 at_:List (Int×Int)
 free:List Bool
def stand (s:Pl) (v:Int):Int:=(A8 s.at_ v).getD 0
def Du (s:Pl) (v u:Int):Pl:=⟨Cp s.at_ v s.free.length,s.free++[decide (u<0)]⟩
def least (l:List Bool):Nat:=l.findIdx (fun b=>b)
def wA (s:Pl) (v:Int):Pl:=⟨Cp s.at_ v (least s.free),if least s.free<s.free.length then s.free.set (least s.free) false else s.free++[false]⟩
def vC (l:Life) (k:Nat) (s:Pl) (v:Int):Pl:=if l.till[v.toNat]?.getD default=k then ⟨s.at_,s.free.set (stand s v).toNat true⟩ else s
def wB (l:Life):Nat→Pl
 | 0=>⟨[],[]⟩
 | v+1=>Du (wB l v) v (l.till[((v:Nat):Int).toNat]?.getD default)
def xU (p:PV) (l:Life):Pl:=if 0≤l.till[p.ins.toNat]?.getD default then Du (wB l p.ins.toNat) p.ins (l.till[p.ins.toNat]?.getD default) else wB l p.ins.toNat
structure PkS where
 s:Pl
 regs:Int
 code:List Sl.Instr
def Im (l:Life) (x:PkS) (k:Nat) (i:Sl.Instr):PkS:=
 let va:=l.a[((k:Nat):Int).toNat]?.getD default
 let vb:=l.b[((k:Nat):Int).toNat]?.getD default
 let s2:=vC l k (vC l k x.s va) vb
 ⟨wA s2 (l.sets[((k:Nat):Int).toNat]?.getD default),max x.regs ((least s2.free:Int)+1),x.code++[⟨i.op,least s2.free,stand x.s va,if 1<(tC i).length then stand x.s vb else i.b,i.c⟩]⟩
def sZ (p:PV):Nat→PkS
 | 0=>⟨xU p (lifeP p),max p.ins (xU p (lifeP p)).free.length,[]⟩
 | k+1=>if yA p k=true then Im (lifeP p) (sZ p k) k (vX p k) else sZ p k
def sU (p:PV):PV:=⟨p.ins,(sZ p p.code.length).regs,(sZ p p.code.length).code,(lifeP p).outs.map (stand (sZ p p.code.length).s)⟩
structure E3 (s:Pl):Prop where
 f0:0<s.free.length
 ab:∀ v,0≤stand s v∧stand s v<s.free.length
theorem Mg (s:Pl) (v w r:Int) (f:List Bool):stand ⟨Cp s.at_ v r,f⟩ w=if w=v then r else stand s w:=by
 unfold stand;rw [xM];split <;> rfl
theorem Aa (l:List Bool):least l≤l.length:=List.findIdx_le_length
theorem Xh {s:Pl} (h:∀ v,0≤stand s v∧stand s v≤s.free.length) (v u:Int):E3 (Du s v u):=by
 have hl:(Du s v u).free.length=s.free.length+1:=by show (s.free++[_]).length=_;rw [aB];rfl
 refine ⟨by omega,fun w=>?_⟩;have h1:stand (Du s v u) w=if w=v then (s.free.length:Int) else stand s w:=Mg s v w _ _;have h2:=h w;rw [h1,hl];split <;> omega
theorem E3.le {s:Pl} (h:E3 s) (v:Int):0≤stand s v∧stand s v≤s.free.length:=by have:=h.ab v;omega
theorem Rk (l:Life):∀ n,E3 (wB l (n+1))∧(wB l (n+1)).free.length=n+1
 | 0=>⟨Xh (s:=⟨[],[]⟩) (fun v=>⟨iM _,iM _⟩) _ _,U⟩
 | n+1=>by
   obtain ⟨h1,h2⟩:=Rk l n;exact ⟨Xh h1.le _ _,by show ((wB l (n+1)).free++[_]).length=_;rw [aB,h2];rfl⟩
theorem Au (l:Life):∀ n,(wB l n).free.length=n
 | 0=>rfl
 | n+1=>(Rk l n).2
theorem Gg {p:PV} (h:1≤p.ins) (l:Life):E3 (xU p l)∧p.ins≤(xU p l).free.length∧((xU p l).free.length:Int)≤p.ins+1:=by
 obtain ⟨n,hn⟩:∃ n,p.ins.toNat=n+1:=⟨p.ins.toNat - 1,by omega⟩
 have h1:=(Rk l n).1;have h2:=Au l p.ins.toNat;unfold xU;split
 · refine ⟨Xh (by rw [hn];exact h1.le) _ _,?_⟩;show p.ins≤(((wB l p.ins.toNat).free++[_]).length:Int)∧(((wB l p.ins.toNat).free++[_]).length:Int)≤_;rw [aB,h2];constructor
   · show p.ins≤((p.ins.toNat+1:Nat):Int);omega
   show ((p.ins.toNat+1:Nat):Int)≤_;omega
 rw [hn];exact ⟨h1,by rw [Au];omega,by rw [Au];omega⟩
theorem wN (l:Life) (k:Nat) (s:Pl) (v:Int):(vC l k s v).free.length=s.free.length:=by
 unfold vC;split
 · exact aG
 rfl
theorem Db (l:Life) (k:Nat) (s:Pl) (v:Int):(vC l k s v).at_=s.at_:=by
 unfold vC;split <;> rfl
theorem Ap (l:Life) (k:Nat) (s:Pl) (v w:Int):stand (vC l k s v) w=stand s w:=by
 unfold stand;rw [Db]
theorem Av {l:Life} {k:Nat} {s:Pl} {v:Int} (h:E3 s):E3 (vC l k s v):=⟨by rw [wN];exact h.f0,fun w=>by rw [Ap,wN];exact h.ab w⟩
theorem Ab (s:Pl) (v:Int):(wA s v).free.length=if least s.free<s.free.length then s.free.length else s.free.length+1:=by
 unfold wA;simp only;split
 · exact aG
 rw [aB];rfl
theorem Dv (s:Pl) (v w:Int):stand (wA s v) w=if w=v then (least s.free:Int) else stand s w:=Mg s v w _ _
theorem HD {s:Pl} (h:E3 s) (v:Int):E3 (wA s v):=by
 have h1:=Aa s.free;have h0:=h.f0;refine ⟨by rw [Ab];split <;> omega,fun w=>?_⟩;have h2:=h.ab w;rw [Dv,Ab];split <;> split <;> omega
theorem HE {p:PV} (h:1≤p.ins):∀ k,E3 (sZ p k).s
 | 0=>(Gg h _).1
 | k+1=>by
   have ih:=HE h k;unfold sZ;split
   · exact HD (Av (Av ih)) _
   exact ih
theorem BS {p:PV} (h:1≤p.ins):∀ k,((sZ p k).s.free.length:Int)≤p.ins+1+k∧(sZ p k).code.length≤k
 | 0=>⟨by show ((xU p (lifeP p)).free.length:Int)≤_;have:=(Gg h (lifeP p)).2.2;omega,aH _⟩
 | k+1=>by
   obtain ⟨h1,h2⟩:=BS h k;unfold sZ;split
   · refine ⟨?_,by show ((sZ p k).code++[_]).length≤_;rw [aB];show _+1≤_;omega⟩;show ((wA _ _).free.length:Int)≤_;rw [Ab,wN,wN];split <;> omega
   omega
def tJ (p:PV) (k:Nat) (r:Int):Int:=(tA p k).held[r.toNat]?.getD default
def uA (p:PV) (k:Nat):Nat:=(tA p k).till.length
def tl (l:Life) (v:Int):Int:=l.till[v.toNat]?.getD default
def wX (p:PV) (k:Nat):Int:=vA (tA p k) (vX p k)
def xV (p:PV) (k:Nat):Int:=vB (tA p k) (vX p k)
theorem Dc {p:PV} {k:Nat} (h:yA p k=true):tA p (k+1)=uT (tA p k) k (vX p k):=aF h
theorem Kn {p:PV} {k:Nat} (h:¬yA p k=true):tA p (k+1)=tA p k:=aD h
theorem Bp {p:PV} {k:Nat} (h:yA p k=true):uA p (k+1)=uA p k+1:=by unfold uA;rw [Dc h];exact Cm _ _ _
theorem Oj {p:PV} {k:Nat} (h:¬yA p k=true):uA p (k+1)=uA p k:=by unfold uA;rw [Kn h]
theorem zM (p:PV) {k j:Nat} (h:k≤j):uA p k≤uA p j:=by
 induction j with
 | zero=>rw [oE.1 h];exact aH _
 | succ j ih =>
   by_cases hk:k=j+1
   · rw [hk];exact aH _
   have h1:=ih sN;by_cases hn:yA p j=true
   · rw [Bp hn];omega
   rw [Oj hn];exact h1
theorem Dd {p:PV} (hR:sP p=true) {k:Nat} (hk:k<p.code.length) (h:yA p k=true) {r:Int} (hr:0≤r∧r<p.regs):tJ p (k+1) r=if (vX p k).to=r then (uA p k:Int) else tJ p k r:=by
 unfold tJ;rw [Dc h];have hl:=(xO hR k sN).hl;have ht:=(tK (vZ hR hk)).2.1;show ((tA p k).held.set (vX p k).to.toNat _)[r.toNat]?.getD default=_;rw [xN (by rw [hl];exact hr),cO ht.1];rfl
theorem Xi {p:PV} {k:Nat} (h:¬yA p k=true) (r:Int):tJ p (k+1) r=tJ p k r:=by unfold tJ;rw [Kn h]
theorem Gh {p:PV} (hR:sP p=true) {k:Nat} (hk:k≤p.code.length) {r:Int} (hr:0≤r∧r<p.regs):0≤tJ p k r∧tJ p k r<uA p k:=by
 have ok:=xO hR k hk;exact ok.hb _ (get_mem (by rw [ok.hl];exact hr))
theorem Gi {p:PV} (hR:sP p=true) {r:Int} (hr:0≤r∧r<p.regs) {k:Nat}:∀ (j:Nat),k≤j→j≤p.code.length→tJ p j r<uA p k→tJ p k r=tJ p j r
 | 0,h,_,_=>by rw [oE.1 h]
 | j+1,h,hj,hv=>by
   by_cases hk:k=j+1
   · rw [hk]
   have hm:=zM p (show k≤j by omega);by_cases hn:yA p j=true
   · have e:=Dd hR sN hn hr;by_cases ht:(vX p j).to=r
     · rw [aF ht] at e;rw [e] at hv;omega
     rw [aD ht] at e;rw [e] at hv ⊢;exact Gi hR hr j sN sN hv
   rw [Xi hn] at hv ⊢;exact Gi hR hr j sN sN hv
theorem Rl {p:PV} (hR:sP p=true) {k:Nat} (hk:k<p.code.length):(0≤wX p k∧wX p k<uA p k)∧(0≤xV p k∧xV p k<uA p k):=
 ⟨QC (xO hR k sN) (vZ hR hk),QD (xO hR k sN) (vZ hR hk)⟩
theorem QG {p:PV} (hR:sP p=true) {k:Nat} (hk:k<p.code.length):(∃ r,(0≤r∧r<p.regs)∧tJ p k r=wX p k)∧(∃ r,(0≤r∧r<p.regs)∧tJ p k r=xV p k):=by
 have hm:=tK (vZ hR hk);have h1:∃ r,(0≤r∧r<p.regs)∧tJ p k r=wX p k:=⟨(vX p k).a,hm.2.2.1,U⟩
 refine ⟨h1,?_⟩;by_cases h2:1<(tC (vX p k)).length
 · exact ⟨(vX p k).b,hm.2.2.2.1 (Me h2),(aF h2).symm⟩
 obtain ⟨r,hr,e⟩:=h1;exact ⟨r,hr,e.trans (aD h2).symm⟩
theorem Xj {p:PV} (hR:sP p=true) {k:Nat} (hk:k<p.code.length) (h:yA p k=true) {v:Int} (hv:0≤v∧v<uA p k) :
 tl (tA p (k+1)) v=if v=wX p k∨v=xV p k then (k:Int) else tl (tA p k) v:=by
 obtain ⟨⟨ha0,ha1⟩,hb0,hb1⟩:=Rl hR hk;unfold tl;rw [Dc h];show ((((tA p k).till.set (wX p k).toNat (k:Int)).set (xV p k).toNat (k:Int))++[-1])[v.toNat]?.getD default=_;have hv1:v.toNat<(tA p k).till.length:=by have:=hv.2;unfold uA at this;omega
 rw [bF (by rw [aG,aG];exact hv1)];unfold uA at hb1 ha1 hv;rw [xN (by rw [aG];exact hv),xN hv,cO ha0,cO hb0];by_cases e1:xV p k=v
 · rw [aF e1,aF (.inr e1.symm)]
 rw [aD e1];by_cases e2:wX p k=v
 · rw [aF e2,aF (.inl e2.symm)]
 rw [aD e2,aD (by rintro (h | h) <;> first | exact e2 h.symm | exact e1 h.symm)]
theorem YU {p:PV} {k:Nat} (h:yA p k=true):tl (tA p (k+1)) (uA p k)=-1:=by
 unfold tl uA;rw [Dc h];show ((((tA p k).till.set _ _).set _ _)++[-1])[((((tA p k).till.length:Nat)):Int).toNat]?.getD default=_;rw [aE,cB (by rw [aG,aG];exact aH _),aG,aG,iH];rfl
def HF (p:PV) (t:Nat) (v:Int):Prop:=yA p t=true∧(v=wX p t∨v=xV p t)
theorem Gj {p:PV} (hR:sP p=true):∀ (k:Nat),k≤p.code.length→∀ v:Int,0≤v∧v<uA p k→tl (tA p k) v=-1∨∃ t:Nat,t<k∧tl (tA p k) v=t∧HF p t v
 | 0,_,v,hv=>by
   left;show (List.replicate (p.ins.toNat+1) (-1:Int))[v.toNat]?.getD default=-1;have:uA p 0=p.ins.toNat+1:=aJ;rw [fS,aF (by omega)];rfl
 | k+1,hk,v,hv=>by
   by_cases hn:yA p k=true
   · rw [Bp hn] at hv;by_cases hl:v<uA p k
     · rw [Xj hR sN hn ⟨hv.1,hl⟩];by_cases hd:v=wX p k∨v=xV p k
       · rw [aF hd];exact .inr ⟨k,by omega,U,hn,hd⟩
       rw [aD hd];rcases Gj hR k sN v ⟨hv.1,hl⟩ with h | ⟨t,h1,h2,h3⟩
       · exact .inl h
       exact .inr ⟨t,by omega,h2,h3⟩
     have:v=uA p k:=sN;rw [this];exact .inl (YU hn)
   rw [Oj hn] at hv;rw [Kn hn];rcases Gj hR k sN v hv with h | ⟨t,h1,h2,h3⟩
   · exact .inl h
   exact .inr ⟨t,by omega,h2,h3⟩
theorem HG {p:PV} (hR:sP p=true) {k:Nat} {v:Int} (hv:0≤v∧v<uA p k):∀ (j:Nat),k≤j→j≤p.code.length→tl (tA p k) v≤tl (tA p j) v
 | 0,h,_=>by rw [oE.1 h];exact iM _
 | j+1,h,hj=>by
   by_cases hk:k=j+1
   · rw [hk];exact iM _
   have h1:=HG hR hv j sN sN;have hm:=zM p (show k≤j by omega);by_cases hn:yA p j=true
   · rw [Xj hR sN hn sN];split
     · rcases Gj hR k sN v hv with h2 | ⟨t,h2,h3,_⟩ <;> omega
     exact h1
   rw [Kn hn];exact h1
theorem Xk (p:PV):∀ j,(vF p j).till.length=uA p p.code.length
 | 0=>rfl
 | j+1=>by show ((vF p j).till.set _ _).length=_;rw [aG];exact Xk p j
theorem Ci (p:PV):∀ j,(vF p j).held=(tA p p.code.length).held
 | 0=>rfl
 | j+1=>Ci p j
theorem Xl {p:PV} (hR:sP p=true) {v:Int} (hv:0≤v∧v<uA p p.code.length):∀ (j:Nat),j≤p.outs.length→
 (tl (vF p j) v=tl (tA p p.code.length) v∨tl (vF p j) v=p.code.length∧∃ r,(0≤r∧r<p.regs)∧tJ p p.code.length r=v)∧
 (∀ i:Nat,i<j→tJ p p.code.length (p.outs[((i:Nat):Int).toNat]?.getD default)=v→tl (vF p j) v=p.code.length)
 | 0,_=>⟨.inl U,fun i hi=>by omega⟩
 | j+1,hj=>by
   obtain ⟨h1,h2⟩:=Xl hR hv j sN;have hr:=Gf hR (show j<p.outs.length by omega);have hh:(vF p j).held[(p.outs[(j:Int).toNat]?.getD default).toNat]?.getD default=tJ p p.code.length (p.outs[(j:Int).toNat]?.getD default):=by unfold tJ;rw [Ci]
   have hin:=Gh hR (aH _) hr;have e:tl (vF p (j+1)) v=if tJ p p.code.length (p.outs[(j:Int).toNat]?.getD default)=v then (p.code.length:Int) else tl (vF p j) v:=by
    unfold tl;show ((vF p j).till.set _ _)[v.toNat]?.getD default=_;rw [hh,xN (by rw [Xk];exact hv),cO hin.1]
   by_cases hd:tJ p p.code.length (p.outs[((j:Nat):Int).toNat]?.getD default)=v
   · rw [aF hd] at e;exact ⟨.inr ⟨e,_,hr,hd⟩,fun _ _ _=>e⟩
   rw [aD hd] at e;rw [e];refine ⟨h1,fun i hi hiv=>?_⟩;by_cases hij:i=j
   · subst hij;exact absurd hiv hd
   exact h2 i sN hiv
def due (p:PV) (v:Int):Int:=tl (lifeP p) v
theorem YV {p:PV} (hR:sP p=true) {k:Nat} {v:Int} (hk:k≤p.code.length) (hv:0≤v∧v<uA p k):tl (tA p k) v≤due p v:=by
 have h1:=HG hR hv p.code.length hk (aH _);have hv2:0≤v∧v<uA p p.code.length:=⟨hv.1,by have:=zM p hk;omega⟩
 unfold due lifeP;rcases (Xl hR hv2 p.outs.length (aH _)).1 with h2 | ⟨h2,_⟩
 · rw [h2];exact h1
 rw [h2];rcases Gj hR p.code.length (aH _) v hv2 with h3 | ⟨t,h3,h4,_⟩ <;> omega
theorem Gk {p:PV} (hR:sP p=true) {k:Nat} (hk:k<p.code.length) {v:Int} (h:HF p k v):(k:Int)≤due p v:=by
 obtain ⟨hn,hd⟩:=h;have hin:=Rl hR hk;have hv:0≤v∧v<uA p k:=by rcases hd with h | h <;> rw [h] <;> first | exact hin.1 | exact hin.2
 have h1:=YV hR (k:=k+1) (v:=v) sN ⟨hv.1,by rw [Bp hn];omega⟩;rw [Xj hR hk hn hv,aF hd] at h1;exact h1
theorem Ok {p:PV} (hR:sP p=true) {i:Nat} (hi:i<p.outs.length):due p (tJ p p.code.length (p.outs[((i:Nat):Int).toNat]?.getD default))=p.code.length:=
 (Xl hR (Gh hR (aH _) (Gf hR hi)) p.outs.length (aH _)).2 i hi U
theorem Xm {p:PV} (hR:sP p=true) {v:Int} (hv:0≤v∧v<uA p p.code.length):due p v=-1∨(∃ t:Nat,t<p.code.length∧due p v=t∧HF p t v)∨(due p v=p.code.length∧∃ r,(0≤r∧r<p.regs)∧tJ p p.code.length r=v):=by
 unfold due lifeP;rcases (Xl hR hv p.outs.length (aH _)).1 with h2 | h2
 · rw [h2];rcases Gj hR p.code.length (aH _) v hv with h | h
   · exact .inl h
   exact .inr (.inl h)
 exact .inr (.inr h2)
theorem Rm {p:PV} (hR:sP p=true) {k:Nat} (hk:k≤p.code.length) {v:Int} (hv:0≤v∧v<uA p k) (hd:(k:Int)≤due p v):∃ r,(0≤r∧r<p.regs)∧tJ p k r=v:=by
 have hv2:0≤v∧v<uA p p.code.length:=⟨hv.1,by have:=zM p hk;omega⟩
 rcases Xm hR hv2 with h | ⟨t,ht,h,hn,ha⟩ | ⟨h,r,hr,e⟩
 · omega
 · have h9:=QG hR ht;have h8:∃ r,(0≤r∧r<p.regs)∧tJ p t r=v:=by rcases ha with e | e <;> rw [e] <;> first | exact h9.1 | exact h9.2
   obtain ⟨r,hr,e⟩:=h8;exact ⟨r,hr,(Gi hR hr t sN sN (by rw [e];exact hv.2)).trans e⟩
 exact ⟨r,hr,(Gi hR hr p.code.length hk (aH _) (by rw [e];exact hv.2)).trans e⟩
theorem Gl {p:PV} (hR:sP p=true) {k:Nat} (hk:k<p.code.length):yA p k=zK p (vX p k).to (k+1):=by
 have h1:=WT p hk;have h2:=GZ p p.code k;unfold yA;rw [KD hR,aE];have h3:(rf p p.code)[k]?=((rf p p.code).drop k)[0]?:=by rw [iZ,iS]
 rw [h3,h2,h1];rfl
theorem Rn {p:PV} (hR:sP p=true) {r:Int} (hr:0≤r∧r<p.regs):∀ (d j:Nat),j+d=p.code.length→zK p r j=true→(j:Int)≤due p (tJ p j r)
 | 0,j,hj,h=>by
   have hj':j=p.code.length:=sN;subst hj';rw [Il p r (aH _),aT] at h;obtain ⟨i,hi,e⟩:=fY.1 h;have:=Ok hR hi;rw [aE,aA hi,dZ,e] at this;omega
 | d+1,j,hj,h=>by
   have hjn:j<p.code.length:=sN;have hcj:p.code[j]?.getD default=vX p j:=by unfold vX;rw [aE]
   rw [Fj p r hjn,hcj,Bool.or_eq_true,aU,aU,aT,←Gl hR hjn] at h;rcases h with ⟨hn,ha⟩ | ⟨ht,hf⟩
   · refine Gk hR hjn ⟨hn,?_⟩;unfold tC at ha;split at ha
     · rename_i h34;rcases iP.1 ha with e | ha
       · left;rw [e];rfl
       right;rw [eT.1 ha];exact (aF (by rw [zQ];exact h34)).symm
     split at ha
     · left;rw [eT.1 ha];rfl
     cases ha
   have ih:=Rn hR hr d (j+1) sN hf;have hne:¬(vX p j).to=r:=by simpa using ht
   by_cases hn:yA p j=true
   · rw [Dd hR hjn hn hr,aD hne] at ih;omega
   rw [Xi hn] at ih;omega
theorem VG {p:PV} (hR:sP p=true) {k:Nat} (hk:k<p.code.length) (hn:yA p k=true):((k+1:Nat):Int)≤due p (uA p k):=by
 have ht:=(tK (vZ hR hk)).2.1;have h1:=hn;rw [Gl hR hk] at h1;have h2:=Rn hR ht (p.code.length - (k+1)) (k+1) sN h1;rw [Dd hR hk hn ht,aF rfl] at h2;exact h2
theorem HH (p:PV) {k:Nat}:∀ (j:Nat),k<j→(tA p j).a[((k:Nat):Int).toNat]?.getD default=(tA p (k+1)).a[((k:Nat):Int).toNat]?.getD default∧(tA p j).b[((k:Nat):Int).toNat]?.getD default=(tA p (k+1)).b[((k:Nat):Int).toNat]?.getD default∧(tA p j).sets[((k:Nat):Int).toNat]?.getD default=(tA p (k+1)).sets[((k:Nat):Int).toNat]?.getD default
 | 0,h=>absurd h (qL _)
 | j+1,h=>by
   by_cases hk:k=j
   · rw [hk];exact ⟨U,U,U⟩
   have ih:=HH p (k:=k) j sN;by_cases hn:yA p j=true
   · rw [Dc hn];refine ⟨?_,?_,?_⟩
     · show ((tA p j).a.set j _)[(k:Int).toNat]?.getD default=_;rw [cF,aD (by omega)];exact ih.1
     · show ((tA p j).b.set j _)[(k:Int).toNat]?.getD default=_;rw [cF,aD (by omega)];exact ih.2.1
     show ((tA p j).sets.set j _)[(k:Int).toNat]?.getD default=_;rw [cF,aD (by omega)];exact ih.2.2
   rw [Kn hn];exact ih
theorem HI (p:PV):∀ j,(vF p j).a=(tA p p.code.length).a∧(vF p j).b=(tA p p.code.length).b∧(vF p j).sets=(tA p p.code.length).sets
 | 0=>⟨U,U,U⟩
 | j+1=>HI p j
theorem Ro {l:List Int} {k:Nat} {x:Int} (h:k<l.length):(l.set k x)[((k:Nat):Int).toNat]?.getD default=x:=by
 rw [aE,List.getElem?_set_self h];rfl
theorem QH {p:PV} (hR:sP p=true) {k:Nat} (hk:k<p.code.length) (hn:yA p k=true) :
 (lifeP p).a[((k:Nat):Int).toNat]?.getD default=wX p k∧(lifeP p).b[((k:Nat):Int).toNat]?.getD default=xV p k∧(lifeP p).sets[((k:Nat):Int).toNat]?.getD default=uA p k:=by
 obtain ⟨o1,o2,o3⟩:=HI p p.outs.length;obtain ⟨k1,k2,k3⟩:=HH p p.code.length hk;have ok:=xO hR k sN;unfold lifeP;rw [o1,o2,o3,k1,k2,k3,Dc hn];exact ⟨Ro (by rw [ok.al];exact hk),Ro (by rw [ok.bl];exact hk),Ro (by rw [ok.sl];exact hk)⟩
theorem EN:∀ (n:Nat) (f:Nat→Nat) (m:Nat),(∀ i,i<m→f i<n)→(∀ i j,i<m→j<m→f i=f j→i=j)→m≤n
 | 0,f,m,h,_=>by
   cases m with
   | zero=>exact aH _
   | succ m=>exact absurd (h 0 sN) (qL _)
 | n+1,f,m,h,hi=>by
   by_cases hx:∃ i,i<m∧f i=n
   · obtain ⟨a,ha,hfa⟩:=hx;have:=EN n (fun i=>if i<a then f i else f (i+1)) (m - 1) (fun i hm=>by
      show (if i<a then f i else f (i+1))<n;split
      · have h1:=h i sN;have h2:f i≠n:=fun e=>by have:=hi i a sN ha (e.trans hfa.symm);omega
        omega
      · have h1:=h (i+1) sN;have h2:f (i+1)≠n:=fun e=>by have:=hi (i+1) a sN ha (e.trans hfa.symm);omega
        omega) (fun i j hi' hj' e=>by
      have e:(if i<a then f i else f (i+1))=(if j<a then f j else f (j+1)):=e;split at e <;> split at e
      · exact hi i j sN sN e
      · have:=hi i (j+1) sN sN e;omega
      · have:=hi (i+1) j sN sN e;omega
      have:=hi (i+1) (j+1) sN sN e;omega)
     omega
   have:=EN n f m (fun i hm=>by
    have h1:=h i hm;have h2:f i≠n:=fun e=>hx ⟨i,hm,e⟩;omega) hi
   omega
def wC (p:PV) (k:Nat) (v:Int):Prop:=(0≤v∧v<uA p k)∧(k:Int)≤due p v
def fr (s:Pl) (r:Int):Bool:=s.free[r.toNat]?.getD default
theorem Hl {l:List Bool} {k:Nat} {x:Bool} {r:Int} (hr:0≤r∧r<l.length):(l.set k x)[r.toNat]?.getD default=if (k:Int)=r then x else l[r.toNat]?.getD default:=by
 rw [cF];by_cases h:k=r.toNat
 · rw [aF h,aF (by omega),aF (by omega)];rfl
 rw [aD h,aD (by omega)]
theorem HJ {p:PV} {k:Nat} {s:Pl} {v r:Int} (hs:E3 s) (hr:0≤r∧r<s.free.length):fr (vC (lifeP p) k s v) r=(fr s r || decide (due p v=k∧stand s v=r)):=by
 have hv:=hs.ab v;unfold fr vC;by_cases h:(lifeP p).till[v.toNat]?.getD default=(k:Int)
 · rw [aF h];show (s.free.set _ true)[r.toNat]?.getD default=_;rw [Hl hr,cO hv.1];by_cases e:stand s v=r
   · rw [aF e,bL ⟨h,e⟩,Bool.or_true]
   rw [aD e,cA (fun x=>e x.2),Bool.or_false]
 rw [aD h,cA (fun x=>h x.1),Bool.or_false]
theorem Xn {s:Pl} {v r:Int} (hr:0≤r∧r<(wA s v).free.length):fr (wA s v) r=if r=least s.free then false else fr s r:=by
 have hl:=Ab s v;have hle:=Aa s.free;unfold fr wA;simp only;by_cases h:least s.free<s.free.length
 · rw [aF h] at hl ⊢;rw [Hl sN];by_cases e:r=least s.free
   · rw [aF e.symm,aF e]
   rw [aD (fun x=>e x.symm),aD e]
 rw [aD h] at hl ⊢;by_cases e:r=least s.free
 · rw [aF e,cB sN,e,aE,show least s.free - s.free.length=0 by omega];rfl
 rw [aD e,bF sN]
theorem EO {l:List Bool} (h:least l<l.length):l[least l]?.getD default=true:=by
 rw [aA h];unfold least at h ⊢;exact List.findIdx_getElem (w:=h)
theorem KL {l:List Bool} (h:¬least l<l.length) (r:Nat) (hr:r<l.length):l[r]?.getD default=false:=by
 have h1:l.findIdx (fun b=>b)=l.length:=by unfold least at h;have:=Aa l;unfold least at this;omega
 rw [aA hr];exact (List.findIdx_eq_length.1 h1) _ (bT hr)
structure F7 (p:PV) (k:Nat) (s:Pl):Prop where
 ok:E3 s
 i1:∀ v,wC p k v→fr s (stand s v)=false
 i2:∀ v w,wC p k v→wC p k w→stand s v=stand s w→v=w
 i3:∀ r:Int,0≤r∧r<s.free.length→fr s r=false→∃ v,wC p k v∧stand s v=r
 i5:(s.free.length:Int)≤p.regs
theorem Bq {p:PV} (hR:sP p=true) {k:Nat} (hk:k<p.code.length) (hn:¬yA p k=true) {v:Int}:wC p (k+1) v↔wC p k v:=by
 unfold wC;rw [Oj hn];constructor
 · rintro ⟨h1,h2⟩;exact ⟨h1,by omega⟩
 rintro ⟨h1,h2⟩;refine ⟨h1,?_⟩;have hv2:0≤v∧v<uA p p.code.length:=⟨h1.1,by have:=zM p (show k≤p.code.length by omega);omega⟩
 rcases Xm hR hv2 with h | ⟨t,ht,h,ha,_⟩ | ⟨h,_⟩
 · omega
 · by_cases e:t=k
   · subst e;exact absurd ha hn
   omega
 omega
theorem uX {p:PV} (hR:sP p=true) {k:Nat} (hk:k<p.code.length) (hn:yA p k=true) {v:Int}:wC p (k+1) v↔v=uA p k∨(wC p k v∧due p v≠k):=by
 have hnew:=VG hR hk hn;unfold wC;rw [Bp hn];constructor
 · rintro ⟨h1,h2⟩;by_cases e:v=uA p k
   · exact .inl e
   exact .inr ⟨⟨by omega,by omega⟩,by omega⟩
 rintro (e | ⟨⟨h1,h2⟩,h3⟩)
 · subst e;exact ⟨by omega,hnew⟩
 exact ⟨by omega,by omega⟩
theorem Mh {p:PV} (hR:sP p=true) {k:Nat} (hk:k<p.code.length) (hn:yA p k=true):wC p k (wX p k)∧wC p k (xV p k):=
 ⟨⟨(Rl hR hk).1,Gk hR hk ⟨hn,.inl U⟩⟩,⟨(Rl hR hk).2,Gk hR hk ⟨hn,.inr U⟩⟩⟩
theorem BT {p:PV} (hR:sP p=true) {k:Nat} (hk:k<p.code.length) {v:Int} (ha:wC p k v) (hd:due p v=k):v=wX p k∨v=xV p k:=by
 have hv2:0≤v∧v<uA p p.code.length:=⟨ha.1.1,by have:=zM p (show k≤p.code.length by omega);have:=ha.1.2;omega⟩
 rcases Xm hR hv2 with h | ⟨t,ht,h,_,h4⟩ | ⟨h,_⟩
 · omega
 · have e:t=k:=sN;subst e;exact h4
 omega
def Ac (p:PV) (k:Nat) (s:Pl):Pl:=vC (lifeP p) k (vC (lifeP p) k s (wX p k)) (xV p k)
theorem Rp (p:PV) (k:Nat) (s:Pl):(Ac p k s).free.length=s.free.length:=by unfold Ac;rw [wN,wN]
theorem Rq (p:PV) (k:Nat) (s:Pl) (w:Int):stand (Ac p k s) w=stand s w:=by unfold Ac;rw [Ap,Ap]
theorem eg {p:PV} {k:Nat} {s:Pl} (hs:E3 s) {r:Int} (hr:0≤r∧r<s.free.length):fr (Ac p k s) r=(fr s r || decide (due p (wX p k)=k∧stand s (wX p k)=r) || decide (due p (xV p k)=k∧stand s (xV p k)=r)):=by
 unfold Ac;rw [HJ (Av hs) (by rw [wN];exact hr),HJ hs hr,Ap]
theorem BU {p:PV} {k:Nat} {s:Pl} (hs:E3 s) {r:Int} (hr:0≤r∧r<s.free.length):fr (Ac p k s) r=false↔fr s r=false∧¬(due p (wX p k)=k∧stand s (wX p k)=r)∧¬(due p (xV p k)=k∧stand s (xV p k)=r):=by
 rw [eg hs hr,Bool.or_eq_false_iff,Bool.or_eq_false_iff,pR,pR,and_assoc]
theorem left {p:PV} (hR:sP p=true) {k:Nat} (hk:k<p.code.length) (hn:yA p k=true) {s:Pl} (h:F7 p k s) :
 (∀ v,wC p k v→due p v≠k→fr (Ac p k s) (stand s v)=false)∧(∀ r:Int,0≤r∧r<s.free.length→fr (Ac p k s) r=false→∃ v,wC p k v∧due p v≠k∧stand s v=r):=by
 obtain ⟨hA,hB⟩:=Mh hR hk hn;refine ⟨fun v hv hd=>?_,fun r hr hf=>?_⟩
 · rw [BU h.ok (h.ok.ab v)];refine ⟨h.i1 v hv,fun e=>?_,fun e=>?_⟩
   · have:=h.i2 _ _ hA hv e.2;rw [this] at e;exact hd e.1
   have:=h.i2 _ _ hB hv e.2;rw [this] at e;exact hd e.1
 rw [BU h.ok hr] at hf;obtain ⟨v,hv,e⟩:=h.i3 r hr hf.1;refine ⟨v,hv,fun hd=>?_,e⟩;rcases BT hR hk hv hd with h1 | h1
 · rw [h1] at hd e;exact hf.2.1 ⟨hd,e⟩
 rw [h1] at hd e;exact hf.2.2 ⟨hd,e⟩
theorem VH {p:PV} (hR:sP p=true) {k:Nat} (hk:k<p.code.length) (hn:yA p k=true) {s:Pl} (h:F7 p k s):F7 p (k+1) (wA (Ac p k s) (uA p k)):=by
 obtain ⟨l1,l2⟩:=left hR hk hn h;have hok2:E3 (Ac p k s):=Av (Av h.ok);have hlen:=Ab (Ac p k s) (uA p k);have hle:=Aa (Ac p k s).free;have h2l:=Rp p k s;have hst:∀ w,stand (wA (Ac p k s) (uA p k)) w=if w=uA p k then (least (Ac p k s).free:Int) else stand s w:=fun w=>by rw [Dv,Rq]
 have hold:∀ v,wC p k v→v≠uA p k:=fun v hv e=>by have:=hv.1.2;omega
 have hne:∀ v,wC p k v→due p v≠k→stand s v≠least (Ac p k s).free:=fun v hv hd e=>by
  have h1:=l1 v hv hd;have h3:=h.ok.ab v;by_cases hlt:least (Ac p k s).free<(Ac p k s).free.length
  · have:=EO hlt;unfold fr at h1;rw [e,aE,this] at h1;cases h1
  omega
 have hgl:∀ r:Int,r<(Ac p k s).free.length→r<(wA (Ac p k s) (uA p k)).free.length:=fun r hr=>by rw [hlen];split <;> omega
 have hrr:(least (Ac p k s).free:Int)<(wA (Ac p k s) (uA p k)).free.length:=by rw [hlen];split <;> omega
 refine ⟨HD hok2 _,fun v hv=>?_,fun v w hv hw e=>?_,fun r hr hf=>?_,?_⟩
 · rw [hst];rcases (uX hR hk hn).1 hv with e | ⟨ha,hd⟩
   · rw [aF e,Xn ⟨by omega,hrr⟩,aF rfl]
   rw [aD (hold v ha)];have h3:=h.ok.ab v;rw [Xn ⟨h3.1,hgl _ sN⟩,aD (hne v ha hd)];exact l1 v ha hd
 · rw [hst,hst] at e;rcases (uX hR hk hn).1 hv with ev | ⟨ha,hd⟩ <;> rcases (uX hR hk hn).1 hw with ew | ⟨ha',hd'⟩
   · rw [ev,ew]
   · rw [aF ev,aD (hold w ha')] at e;exact absurd e.symm (hne w ha' hd')
   · rw [aD (hold v ha),aF ew] at e;exact absurd e (hne v ha hd)
   rw [aD (hold v ha),aD (hold w ha')] at e;exact h.i2 v w ha ha' e
 · by_cases e:r=least (Ac p k s).free
   · exact ⟨uA p k,(uX hR hk hn).2 (.inl U),by rw [hst,aF rfl,e]⟩
   rw [Xn hr,aD e] at hf;have hr2:r<s.free.length:=by rw [hlen] at hr;split at hr <;> omega
   obtain ⟨v,ha,hd,hs⟩:=l2 r ⟨hr.1,hr2⟩ hf;exact ⟨v,(uX hR hk hn).2 (.inr ⟨ha,hd⟩),by rw [hst,aD (hold v ha)];exact hs⟩
 rw [hlen];split
 · rw [h2l];exact h.i5
 rename_i hlt;obtain ⟨f1,f2,f3,_⟩:=sT hR;have hto:=(tK (vZ hR hk)).2.1;have key:∀ r:Nat,r<s.free.length→∃ q:Nat,q<p.regs.toNat∧∃ v,stand s v=r∧tJ p (k+1) q=v∧v<uA p k:=fun r hr=>by
  have hf:fr (Ac p k s) (r:Int)=false:=by unfold fr;rw [aE];exact KL hlt r sN
  obtain ⟨v,ha,hd,hs⟩:=l2 r sN hf;have ha2:=(uX hR hk hn).2 (.inr ⟨ha,hd⟩);obtain ⟨q,hq,e⟩:=Rm hR (show k+1≤p.code.length by omega) ha2.1 ha2.2;exact ⟨q.toNat,by omega,v,hs,by rw [cO hq.1];exact e,ha.1.2⟩
 have hm:=EN p.regs.toNat (fun r=>if hr:r<s.free.length then Classical.choose (key r hr) else (vX p k).to.toNat) (s.free.length+1) (fun i hi=>by
  show (if hr:i<s.free.length then _ else _)<_;split
  · rename_i hr;exact (iF (key i hr)).1
  · omega) (fun i j hi hj e=>by
  have e:(if hr:i<s.free.length then Classical.choose (key i hr) else (vX p k).to.toNat)=(if hr:j<s.free.length then Classical.choose (key j hr) else (vX p k).to.toNat):=e;have hnew:tJ p (k+1) (((vX p k).to.toNat:Nat):Int)=uA p k:=by rw [cO hto.1,Dd hR hk hn hto,aF rfl]
  split at e <;> split at e
  · rename_i h1 h3;obtain ⟨_,v,a1,a2,a3⟩:=iF (key i h1);obtain ⟨_,w,b1,b2,b3⟩:=iF (key j h3);rw [e,b2] at a2;rw [←a2,b1] at a1;omega
  · rename_i h1 h3;obtain ⟨_,v,a1,a2,a3⟩:=iF (key i h1);rw [e,hnew] at a2;omega
  · rename_i h1 h3;obtain ⟨_,w,b1,b2,b3⟩:=iF (key j h3);rw [←e,hnew] at b2;omega
  omega)
 rw [h2l];omega
end Go.Proofs.YtkdelpdbjfpgmaaGreatDoor
