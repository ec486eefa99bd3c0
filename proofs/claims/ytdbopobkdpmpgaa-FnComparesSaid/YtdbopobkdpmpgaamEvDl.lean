/- slices.Delete at this seat, walked by its text: on cells alone; the evaluator is sound. No condition. -/
import Derived.Test.YtdbopobkdpmpgaamTab
import Derived.WalkKit
import Derived.Deep.LoopGhost
import Derived.Deep.RegionLaw
import Derived.Lib.Walk
import Derived.Test.YtdbopobkdpmpgaamEvKc
import Derived.Shelf.Spec.SlicesInsert
namespace Go.Proofs.Ytdbopobkdpmpgaa.Ev
open Go Go.Proofs Go.RowKit
set_option linter.unusedVariables false
set_option linter.unusedSimpArgs false
set_option maxRecDepth 100000
set_option maxHeartbeats 4000000
theorem del_56:RawDel Try.prog E 56 42:=by
 intro w g cap l a b xs ho hab hb hone;have hE:E.sz 42=5:=by kernel_rfl
 have he:b5u E 30 42=true:=by kernel_rfl
 obtain ⟨hlc,hcm,A,hA,happ⟩:=e0z b2i he (b6c ho) hab hb hone;obtain ⟨W1,hrun,ho1,hg1⟩:=happ 30;obtain ⟨W2,hcl,ho2,hg2⟩:=c7g b2i he ho1 (show a+(l - b)<l by omega) hlc (cap - (a+(l - b)));have hlen:l - (b - a)=a+(l - b):=by omega
 have hg:w.grownBy W2 (some g):=b9b ⟨hg1.os,hg1.tape,hg1.output,hg1.size,hg1.block⟩ hg2;rw [hE] at hA hcl;rw [hlen];have X:Aside (W2.ownsRow 0 42 (E.sz 42) (.slice (some ⟨g,0,none⟩) (a+(l - b)) cap) (a+(l - b)) (xs.take (a*E.sz 42)++xs.drop (b*E.sz 42))∧w.grownBy W2 (some g)):=⟨ho2,hg⟩;clear ho2 hg hg1 hg2 ho1 happ hone ho hE he;have hm:cap≤9223372036854775807:=by simp only [maxLen] at hcm;omega
 have h1:a≤cap:=by omega
 have h2:b≤cap:=by omega
 have h3:a+(l - b)≤l:=by omega
 go_enter Try.func56,Try.ntmps56
 go_wp2_with fail
 go_region_law (refine b1f rfl (.tmp 22) (.tmp 25) 30 rfl (by simp [Act.eval,Act.put]) (by simp [Act.eval,Act.put,hA]) hrun ?_)
 all_goals go_wp2
 all_goals go_ret
 all_goals exact ⟨rfl,X.out⟩
theorem del_72:RawDel Try.prog E 72 75:=by
 intro w g cap l a b xs ho hab hb hone;have hE:E.sz 75=8:=by kernel_rfl
 have he:b5u E 31 75=true:=by kernel_rfl
 obtain ⟨hlc,hcm,A,hA,happ⟩:=e0z b2i he (b6c ho) hab hb hone;obtain ⟨W1,hrun,ho1,hg1⟩:=happ 31;obtain ⟨W2,hcl,ho2,hg2⟩:=c7g b2i he ho1 (show a+(l - b)<l by omega) hlc (cap - (a+(l - b)));have hlen:l - (b - a)=a+(l - b):=by omega
 have hg:w.grownBy W2 (some g):=b9b ⟨hg1.os,hg1.tape,hg1.output,hg1.size,hg1.block⟩ hg2;rw [hE] at hA hcl;rw [hlen];have X:Aside (W2.ownsRow 0 75 (E.sz 75) (.slice (some ⟨g,0,none⟩) (a+(l - b)) cap) (a+(l - b)) (xs.take (a*E.sz 75)++xs.drop (b*E.sz 75))∧w.grownBy W2 (some g)):=⟨ho2,hg⟩;clear ho2 hg hg1 hg2 ho1 happ hone ho hE he;have hm:cap≤9223372036854775807:=by simp only [maxLen] at hcm;omega
 have h1:a≤cap:=by omega
 have h2:b≤cap:=by omega
 have h3:a+(l - b)≤l:=by omega
 go_enter Try.func72,Try.ntmps72
 go_wp2_with fail
 go_region_law (refine b1f rfl (.tmp 22) (.tmp 25) 31 rfl (by simp [Act.eval,Act.put]) (by simp [Act.eval,Act.put,hA]) hrun ?_)
 all_goals go_wp2
 all_goals go_ret
 all_goals exact ⟨rfl,X.out⟩
theorem e6d:∀ (w:World) (v:Value) (gy cy n m:Nat) (xs ys:List Value),w.ownsRow 0 85 (E.sz 85) v n xs→w.ownsRow 0 85 (E.sz 85) (.slice (some ⟨gy,0,none⟩) m cy) m ys→0<m→(n+m)*(E.ti 85).bytes≤140737488355328→
  (∀ u,u∈xs→u.oneCell'=true)→(∀ u,u∈ys→u.oneCell'=true)→
  Calls Try.prog 82 #[v,.int .i64 n,.slice (some ⟨gy,0,none⟩) m cy] w fun r w'=>∃ v',r=.returned v'∧w'.ownsRow 0 85 (E.sz 85) v' (n+m) (xs++ys)∧w.grownBy w' v.ownBlock∧(v'.ownBlock=v.ownBlock∨v'.ownBlock=some w.heap.size):=by
 intro w v gy cy n m xs ys ho hoy hm hbig h1x h1y;have he:b5u E 27 85=true:=by kernel_rfl
 have hz1:¬ ((m:Int)=0):=by omega
 obtain ⟨v',w',hrun,ho',hg,hb⟩:=b9a (P:=Try.prog) (ty:=27) b2i he ho hoy h1y hbig;have X:Aside (w'.ownsRow 0 85 (E.sz 85) v' (n+m) (xs++ys)∧w.grownBy w' v.ownBlock∧(v'.ownBlock=v.ownBlock∨v'.ownBlock=some w.heap.size)):=⟨ho',hg,hb⟩;have hcap:v=.slice none 0 0∧n=0∨∃ g cap,v=.slice (some ⟨g,0,none⟩) n cap∧n≤cap∧cap≤9223372036854775807:=by
  rcases id ho.2 with ⟨rfl,h0⟩ | ⟨g,cap,cur,rfl,_,_,hnc,hcm,_⟩
  ·exact .inl ⟨rfl,h0⟩
  ·exact .inr ⟨g,cap,rfl,hnc,by simp only [maxLen] at hcm;omega⟩
 clear ho' hg hb h1x h1y hoy ho he hbig;rcases hcap with ⟨rfl,rfl⟩ | ⟨g,cap,rfl,hnc,hcm⟩
 ·go_enter Try.func82,Try.ntmps82
  go_wp2_with (at_builtin;refine Lib.wpList_append_run _ rfl _ _ _ _ rfl _ _ rfl rfl _ _ hrun ?_)
  all_goals go_ret
  all_goals exact ⟨_,rfl,X.out⟩
 ·go_enter Try.func82,Try.ntmps82
  go_wp2_with (at_builtin;refine Lib.wpList_append_run _ rfl _ _ _ _ rfl _ _ rfl rfl _ _ hrun ?_)
  all_goals go_ret
  all_goals exact ⟨_,rfl,X.out⟩
theorem f0v:∀ (w:World) (g cap gy cy n m i:Nat) (xs ys:List Value),w.ownsRow 0 85 (E.sz 85) (.slice (some ⟨g,0,none⟩) n cap) n xs→w.ownsRow 0 85 (E.sz 85) (.slice (some ⟨gy,0,none⟩) m cy) m ys→gy≠g→i<n→0<m→n+m≤cap→cap≤9223372036854775807→
  (∀ u,u∈xs→u.oneCell'=true)→(∀ u,u∈ys→u.oneCell'=true)→
  Calls Try.prog 82 #[.slice (some ⟨g,0,none⟩) n cap,.int .i64 i,.slice (some ⟨gy,0,none⟩) m cy] w fun r w'=>r=.returned (.slice (some ⟨g,0,none⟩) (n+m) cap)∧
   w'.ownsRow 0 85 (E.sz 85) (.slice (some ⟨g,0,none⟩) (n+m) cap) (n+m) (xs.take (i*E.sz 85)++ys++xs.drop (i*E.sz 85))∧w.grownBy w' (some g):=by
 intro w g cap gy cy n m i xs ys ho hoy hne hi hm hroom hcm h1x h1y;have hE:E.sz 85=2:=by kernel_rfl
 have he:b5u E 27 85=true:=by kernel_rfl
 have hz1:¬ ((m:Int)=0):=by omega
 have hz2:¬ ((i:Int)=(n:Int)):=by omega
 obtain ⟨W1,W2,hc1,hc2,ho2,hg⟩:=f0u (P:=Try.prog) b2i he ho hoy hne hi hm hroom h1x h1y;obtain ⟨kA,hsa,_,hfa⟩:=e0i hoy;obtain ⟨kB,hsb,hkB,hfb⟩:=e0i ho;have hkB0:kB≠0:=by rw [hkB,hE];omega
 obtain ⟨hu,hk,_⟩:=a4x (P:=Try.prog) b2i he;obtain ⟨i0,z,hi0,hisz,_⟩:=a4w (P:=Try.prog) b2i hk;have hzz:∀ w,(Go.sizeOf 85).run Try.prog w=.ok 2 w:=fun w=>by simp [Go.sizeOf,typeInfo,hi0,hisz,hE]
 have hov:∀ lb cb,(callFunc 86 #[.slice (some ⟨gy,0,none⟩) m cy,.slice (some ⟨g,(i+m)*2,none⟩) lb cb]).run Try.prog w=.ok (.value (.bool false)) w:=fun lb cb=>by
  rw [run_callFunc_extern Try.func86 (by kernel_rfl) (by kernel_rfl) (by kernel_rfl) (e:=Extern.SlicesOverlaps.overlaps #[27,27] #[4]) (by kernel_rfl),
   Lib.run_overlaps_apart w 27 4 85 hu 2 hzz ⟨gy,0,none⟩ ⟨g,(i+m)*2,none⟩ m cy lb cb hne 85 85 kA kB hsa hsb hkB0 (hfa 0) (hfa kA)]
  rfl
 have X:Aside (W2.ownsRow 0 85 (E.sz 85) (.slice (some ⟨g,0,none⟩) (n+m) cap) (n+m) (xs.take (i*E.sz 85)++ys++xs.drop (i*E.sz 85))∧w.grownBy W2 (some g)):=⟨ho2,hg⟩;rw [hE] at hc1 hc2;have hw1:IntKind.i64.wrap ((i:Int)+(m:Int))=(i:Int)+(m:Int):=by rw [IntKind.wrap_i64];omega
 have hw2:IntKind.i64.wrap ((n:Int)+(m:Int))=(n:Int)+(m:Int):=by rw [IntKind.wrap_i64];omega
 have hb1:(0:Int)≤(i:Int)+(m:Int):=by omega
 have hin:i≤n:=by omega
 have htn:((i:Int)+(m:Int)).toNat=i+m:=by omega
 have hb2:¬ (cap=i+m):=by omega
 have hb3:(i:Int)≤(n:Int)+(m:Int):=by omega
 have hb4:¬ (cap=i):=by omega
 clear ho2 hg ho hoy h1x h1y hsa hsb hkB hfa hfb hkB0 hu hk hi0 hisz hzz he hE
 go_enter Try.func82,Try.ntmps82
 go_wp2_with (simp only [hov])
 have mixed:=e1m
 go_region_law_o (refine c1u rfl _ _ 27 27 rfl (by simp [Act.eval,Act.put]) (by simp [Act.eval,Act.put]) (hc1 _ _ _) ?_)
 go_wp2_with (at_builtin;refine b7f _ rfl _ _ 27 27 rfl _ _ rfl rfl (hc2 _ _) ?_)
 all_goals go_ret
 all_goals exact ⟨rfl,X.out⟩
theorem e6e:∀ (w:World) (g cap gy cy n m i:Nat) (xs ys:List Value),w.ownsRow 0 85 (E.sz 85) (.slice (some ⟨g,0,none⟩) n cap) n xs→w.ownsRow 0 85 (E.sz 85) (.slice (some ⟨gy,0,none⟩) m cy) m ys→i<n→0<m→n≤cap→cap<n+m→(n+m)*(E.ti 85).bytes≤140737488355328→
  (∀ u,u∈xs→u.oneCell'=true)→(∀ u,u∈ys→u.oneCell'=true)→
  Calls Try.prog 82 #[.slice (some ⟨g,0,none⟩) n cap,.int .i64 i,.slice (some ⟨gy,0,none⟩) m cy] w fun r w'=>∃ G,r=.returned (.slice (some ⟨w.heap.size,0,none⟩) (n+m) G)∧
   w'.ownsRow 0 85 (E.sz 85) (.slice (some ⟨w.heap.size,0,none⟩) (n+m) G) (n+m) (xs.take (i*E.sz 85)++ys++xs.drop (i*E.sz 85))∧w.grownBy w' (some g):=by
 intro w g cap gy cy n m i xs ys ho hoy hi hm hnc hroom hbig h1x h1y;have hE:E.sz 85=2:=by kernel_rfl
 have he:b5u E 27 85=true:=by kernel_rfl
 have htn:Try.prog.underlying 3=some (.int .i64):=by kernel_rfl
 have hz1:¬ ((m:Int)=0):=by omega
 have hz2:¬ ((i:Int)=(n:Int)):=by omega
 obtain ⟨hu,hk,hby,_⟩:=a4x (P:=Try.prog) b2i he;have hmul:n+m≤(n+m)*(E.ti 85).bytes:=Nat.le_mul_of_pos_right _ (by omega);obtain ⟨G,W1,W2,W3,hGn,hGm,ha,hc1,hc2,ho2,hg⟩:=f3o (P:=Try.prog) b2i he htn ho hoy hi hm hroom hbig h1x h1y;obtain ⟨N,hN⟩:∃ N,N=w.heap.size:=⟨_,rfl⟩;rw [← hN] at ha hc1 hc2 ho2 ⊢;have X:Aside (W3.ownsRow 0 85 (E.sz 85) (.slice (some ⟨N,0,none⟩) (n+m) G) (n+m) (xs.take (i*E.sz 85)++ys++xs.drop (i*E.sz 85))∧w.grownBy W3 (some g)):=⟨ho2,hg⟩;rw [hE] at hc1 hc2;have hsmall:n+m≤140737488355328:=by omega
 have hG63:G≤9223372036854775807:=by simp only [maxLen] at hGm;omega
 have hw1:IntKind.i64.wrap ((i:Int)+(m:Int))=(i:Int)+(m:Int):=by rw [IntKind.wrap_i64];omega
 have hw2:IntKind.i64.wrap ((n:Int)+(m:Int))=(n:Int)+(m:Int):=by rw [IntKind.wrap_i64];omega
 have hw3:IntKind.i64.wrap ((n:Int)+(m:Int) - (i:Int))=(n:Int)+(m:Int) - (i:Int):=by rw [IntKind.wrap_i64];omega
 have hz3:(cap:Int)<(n:Int)+(m:Int):=by omega
 have hb1:(0:Int)≤(i:Int)+(m:Int):=by omega
 have hin:i≤n:=by omega
 have htn':((i:Int)+(m:Int)).toNat=i+m:=by omega
 have hGi:¬ (G=i):=by omega
 have hGim:¬ (G=i+m):=by omega
 have hci:¬ (cap=i):=by omega
 have mixed:=e1m;clear ho2 hg ho hoy h1x h1y hu hk he hE htn hmul hbig hby hN hGm
 go_enter Try.func82,Try.ntmps82
 go_wp2_with (at_builtin;first | (refine Lib.wpList_append_run _ rfl _ _ _ _ rfl _ _ rfl rfl _ _ (ha _) ?_) | (refine b7f _ rfl _ _ 27 27 rfl _ _ rfl rfl (hc1 _ _) ?_))
 go_region_law_o (refine c1u rfl _ _ 27 27 rfl (by simp [Act.eval,Act.put]) (by simp [Act.eval,Act.put]) (hc2 _ _ _) ?_)
 all_goals go_wp2
 all_goals go_ret
 all_goals exact ⟨_,rfl,X.out⟩
theorem ins_82:RawIns Try.prog E 82 85:=by
 intro w v gy cy n m i xs ys ho hoy hne hin hm hbig h1x h1y;by_cases hi:i=n
 ·subst hi;have hxl:=ho.1;refine (e6d w v gy cy i m xs ys ho hoy hm hbig h1x h1y).mono ?_
  rintro r w' ⟨v',rfl,h1,h2,h3⟩
  exact ⟨v',rfl,by rw [List.take_of_length_le (by omega),List.drop_of_length_le (by omega),List.append_nil];exact h1,h2,h3⟩
 ·rcases id ho.2 with ⟨rfl,h0⟩ | ⟨g,cap,cur,rfl,_,_,hnc,hcm,_⟩
  ·omega
  ·by_cases hroom:n+m≤cap
   ·refine (f0v w g cap gy cy n m i xs ys ho hoy (fun e=>hne (by rw [e];rfl)) (by omega) hm hroom (by simp only [maxLen] at hcm;omega) h1x h1y).mono ?_
    rintro r w' ⟨rfl,h1,h2⟩
    exact ⟨_,rfl,h1,h2,.inl rfl⟩
   ·refine (e6e w g cap gy cy n m i xs ys ho hoy (by omega) hm hnc (by omega) hbig h1x h1y).mono ?_
    rintro r w' ⟨G,rfl,h1,h2⟩
    exact ⟨_,rfl,h1,h2,.inr rfl⟩
theorem del_84:RawDel Try.prog E 84 85:=by
 intro w g cap l a b xs ho hab hb hone;have hE:E.sz 85=2:=by kernel_rfl
 have he:b5u E 27 85=true:=by kernel_rfl
 obtain ⟨hlc,hcm,A,hA,happ⟩:=e0z b2i he (b6c ho) hab hb hone;obtain ⟨W1,hrun,ho1,hg1⟩:=happ 27;obtain ⟨W2,hcl,ho2,hg2⟩:=c7g b2i he ho1 (show a+(l - b)<l by omega) hlc (cap - (a+(l - b)));have hlen:l - (b - a)=a+(l - b):=by omega
 have hg:w.grownBy W2 (some g):=b9b ⟨hg1.os,hg1.tape,hg1.output,hg1.size,hg1.block⟩ hg2;rw [hE] at hA hcl;rw [hlen];have X:Aside (W2.ownsRow 0 85 (E.sz 85) (.slice (some ⟨g,0,none⟩) (a+(l - b)) cap) (a+(l - b)) (xs.take (a*E.sz 85)++xs.drop (b*E.sz 85))∧w.grownBy W2 (some g)):=⟨ho2,hg⟩;clear ho2 hg hg1 hg2 ho1 happ hone ho hE he;have hm:cap≤9223372036854775807:=by simp only [maxLen] at hcm;omega
 have h1:a≤cap:=by omega
 have h2:b≤cap:=by omega
 have h3:a+(l - b)≤l:=by omega
 go_enter Try.func84,Try.ntmps84
 go_wp2_with fail
 go_region_law (refine b1f rfl (.tmp 22) (.tmp 25) 27 rfl (by simp [Act.eval,Act.put]) (by simp [Act.eval,Act.put,hA]) hrun ?_)
 all_goals go_wp2
 all_goals go_ret
 all_goals exact ⟨rfl,X.out⟩
theorem g0u:f7u Try.prog E:=fun f e h=>c7d (Q:=c7c Try.prog E) (l:=[(56,42),(72,75),(82,1000085),(84,85)]) (by
 intro p hp;simp only [List.mem_cons,List.not_mem_nil,or_false] at hp;rcases hp with rfl | rfl | rfl | rfl
 ·exact del_56.take rfl
 ·exact del_72.take rfl
 ·exact ins_82.take
 ·exact del_84.take rfl) f e h
theorem g0v:TabF Try.prog E:=⟨f8i,fun f e h=>c7d (Q:=fun f _=>∃ fn,E.fn f=some fn) (l:=[(56,42),(72,75),(82,1000085),(84,85)]) (by
 intro p hp;simp only [List.mem_cons,List.not_mem_nil,or_false] at hp;rcases hp with rfl | rfl | rfl | rfl
 ·exact ⟨Try.f56,by kernel_rfl⟩
 ·exact ⟨Try.f72,by kernel_rfl⟩
 ·exact ⟨Try.f82,by kernel_rfl⟩
 ·exact ⟨Try.f84,by kernel_rfl⟩) f e h,g0u⟩
theorem f9e (k:Nat):e2h Try.prog E (a0d E P0 k):=d2h b2i g0v e1m f7x k
end Go.Proofs.Ytdbopobkdpmpgaa.Ev
