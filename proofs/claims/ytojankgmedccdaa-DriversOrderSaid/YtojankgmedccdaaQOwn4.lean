/- Part of the proof of LawDriversOrder: every definition and lemma is one that it names. -/
import Derived.Test.YtojankgmedccdaaQOwn3
import Derived.Test.YtojankgmedccdaaQW0

